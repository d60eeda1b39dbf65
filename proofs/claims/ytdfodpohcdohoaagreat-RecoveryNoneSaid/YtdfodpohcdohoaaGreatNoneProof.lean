/-
  For every number of sectors and both kinds of device, RecoveryNone returns true and leaves its arguments alone.
  Its conditions: none beyond the row's own. The layer's examples (works) are run by the abstract machine of the Ev texts; so is the law itself, its number of sectors a letter.
-/
import Derived.Test.YtdfodpohcdohoaaGreatRows
import Derived.Test.YtdfodpohcdohoaaGreatRunE
import Derived.WalkKit
import Derived.ProofKit
import Derived.OpenShut
import Derived.Below
import Derived.ChangeSame
namespace Go.Proofs.YtdfodpohcdohoaaGreat.recoveryNone
open Go.ChangeShapes Go.WideShapes Go.ChangeAt Go.RowKit Go.Ev Go.Proofs.YtdfodpohcdohoaaGreat.evRun
set_option linter.unusedVariables false
set_option maxRecDepth 1000000

theorem own : ownKnob Tryz.prog.godebug = none := by kernel_rfl

/-! ### the law's own road, its number of sectors a letter -/
noncomputable def cN (a0 : Int) (b : Bool) : Conf := confOf (Ev.start FF 3 [.opq (.int .i64 a0), .bool b])
theorem startN (b : Bool) : (fun a0 : Int => isSomeC (Ev.start FF 3 [.opq (.int .i64 a0), .bool b])) = fun _ => true := by
  cases b <;> kernel_rfl
theorem runF : (fun a0 : Int => runQ FF KW (qIs 3 (.bool true)) 300 (cN a0 false)) = fun _ => true := by kernel_rfl
theorem runT : (fun a0 : Int => runQ FF KW (qIs 3 (.bool true)) 300 (cN a0 true)) = fun _ => true := by kernel_rfl

theorem walk (a0 : Int) (a1 : Bool) (w : World) :
    Calls Tryz.prog 3 #[.int .i64 a0, .bool a1] w fun e w' => e = .returned (.bool true) ∧ Below w.heap.size w w' := by
  have hr : runQ FF KW (qIs 3 (.bool true)) 300 (cN a0 a1) = true := by
    cases a1 with
    | false => exact congrFun runF a0
    | true => exact congrFun runT a0
  have hs : isSomeC (Ev.start FF 3 [.opq (.int .i64 a0), .bool a1]) = true := congrFun (startN a1) a0
  refine calls_of_good hT (confOf_eq hs) (good_run hE hT hW hr) (.cons (.opq _) (.cons (.bool _) .nil)) w fun fn v h φ v' w' q hv hw => ?_
  obtain ⟨rfl, rfl⟩ := q
  have := hv.bool_inv
  subst this
  exact ⟨rfl, rfl, ⟨hw.like.os, hw.like.tape, hw.like.output, hw.hr.size, fun k hk => hw.hr.old k hk⟩⟩

/-- The row's end where nothing that came in lies in memory: the results and the arguments read as asked, and below the old heap's end all is as it was. -/
theorem ends_plain {H : Type} {enc : TypeId × Value → H} {P : Program} {f : Func} {s : ChangeSpec} {W W' : World} {args : Array Value} {v : Value} {ds : List (DataW H)}
    (hW : DataW.Whole enc P f.params.toList s.vars false W args.toList ds [] []) (hb : Below W.heap.size W W')
    (hr : ∀ (n : Nat) (sp : Nat → Bool) (k : Bool), DataW.TrodAll enc P W' n sp k f.resultTypes.toList (v.resultList f.resultTypes.size) (s.fn H (ds ++ [])).results [])
    (ha : ∀ sp : Nat → Bool, DataW.TrodAll enc P W' 0 sp true f.params.toList args.toList (s.fn H (ds ++ [])).args [])
    (hv : ∀ sp : Nat → Bool, DataW.TrodVars enc P W' sp s.vars (s.fn H (ds ++ [])).vars [])
    (hok : ∀ (j : Nat) (t : TypeId) (r : Value), f.resultTypes[j]? = some t → (v.resultList f.resultTypes.size)[j]? = some r → Value.okWide P W' .any 0 t r) :
    s.post enc P f false true false false W args v W' := by
  have kept : W.keptBut W' (· ∈ ([] : List MemPlace)) := hb.frame _
  refine ⟨ds, [], [], [], [], [], hW, hr _ _ _, ha _, hv _, World.keptBut_mono (fun p hp => (by cases hp)) kept, fun _ => ?_⟩
  exact ⟨hok, _, _, [], ⟨[] ++ [], [], trodAll_append (ha (fun _ => true)) (hr _ _ _), hv _, rfl, fun _ _ hp => (by cases hp), fun hd => (by cases hd)⟩, fun p hp => (by cases hp)⟩

theorem lifted (os : Os) (started : os.Started) (H : Type) (enc : TypeId × Value → H) :
    ReturnsInHanded {} Tryz.checked os 3 .any (Rows.recoveryNoneSpec.pre6 enc Tryz.prog Tryz.f3 Rows.recoveryNoneRow.domain false) (Rows.recoveryNoneSpec.post enc Tryz.prog Tryz.f3 false true false false) := by
  refine returnsInHanded_of_change (C := Tryz.checked) own started (by kernel_rfl) Tryz.func3
    (ChangeSpec.witness6 (enc := enc) (C := Tryz.checked) false ⟨#[], #[.int .i64 0, .bool false], []⟩ 8 (by kernel_rfl) (by kernel_rfl) (by kernel_rfl) (by kernel_rfl)) ?_
  intro W base args ds gs before hval0 hW hcnd _
  have hval : ∀ (j : Nat) t v, Tryz.f3.params[j]? = some t → args[j]? = some v → Value.okWide Tryz.prog W .any base t v := hval0
  have hW' := hW
  obtain ⟨p, q, hA0, hV, rfl, hfz, hnd⟩ := hW
  have hA : DataW.TrodAll enc Tryz.prog W 0 (fun _ => true) true Tryz.f3.params.toList args.toList ds p := hA0
  rw [Tryz.params3] at hA hval
  obtain ⟨v0, vs0, d0, ds0, p0, q0, hargs, rfl, rfl, h0, r0⟩ := trodAll_cons hA
  obtain ⟨v1, vs1, d1, ds1, p1, q1, rfl, rfl, rfl, h1, r1⟩ := trodAll_cons r0
  obtain ⟨rfl, rfl, rfl⟩ := trodAll_nil r1
  obtain rfl : args = #[v0, v1] := by cases args; simp_all
  obtain ⟨rfl, rfl⟩ := trodVars_none hV
  obtain ⟨a0, rfl, rfl, rfl, w0⟩ := open_int Tryz.underlying3 (hval 0 3 v0 rfl rfl) h0
  obtain ⟨a1, rfl, rfl, rfl⟩ := open_bool Tryz.underlying4 (hval 1 4 v1 rfl rfl) h1
  clear hA0 hval0
  simp only [List.append_nil] at hW'
  refine (walk a0 a1 W).mono fun e W' ⟨he, hg⟩ => ?_
  subst he
  exact ⟨_, rfl, ends_plain hW' hg (fun _ _ _ => (trodAll_cons_mk (shut_bool Tryz.underlying4 _) trodAll_mk0)) (fun sp => (trodAll_cons_mk (shut_int Tryz.underlying3 w0) (trodAll_cons_mk (shut_bool Tryz.underlying4 _) trodAll_mk0))) (fun _ => rfl)
    (ok_one (by kernel_rfl) rfl (okWide_bool_mk Tryz.underlying4 _))⟩

theorem over : Rows.recoveryNoneRow.holds Tryz.pinned (OpenSpec.ofChange Rows.recoveryNoneSpec) :=
  OpenClaim.holds_of_wide 3 Tryz.f3 rfl rfl rfl rfl rfl rfl rfl ⟨rfl, rfl, rfl, rfl, rfl⟩ rfl rfl rfl rfl rfl (by kernel_rfl) Tryz.func3 (by kernel_rfl)
    (of_decide_eq_true (by kernel_rfl)) (by unfold Func.isWrapper; first | (rw [if_pos (by decide +kernel)]; kernel_rfl) | (rw [if_neg (by decide +kernel)]; exact ⟨rfl, rfl⟩))
    (fun os started H enc _ => lifted os started H enc)

/-- The statement. -/
theorem proved : Rows.RecoveryNoneSaid :=
  over
#print axioms proved
end Go.Proofs.YtdfodpohcdohoaaGreat.recoveryNone
