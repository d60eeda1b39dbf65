/- Equality, numbers, slices. -/
import Derived.Test.YtclfgfpebplncaaGreatEvB
import Derived.Laws.StructEq
import Derived.Laws.BytesString
import Derived.Laws.Append
import Derived.Laws.AppendOwn
set_option linter.unusedVariables false
set_option linter.unusedSimpArgs false
set_option linter.unusedSectionVars false
/- Equality of values. -/
namespace Go.Ev

theorem bytes_eq {a b : ByteArray} {s t : List Nat} (ha : a.data.toList.map (·.toNat) = s) (hb : b.data.toList.map (·.toNat) = t) : (a.toList == b.toList) = nlEq s t := by
  rw [nlEq_eq, ByteArray.toList_eq, ByteArray.toList_eq, ← ha, ← hb]
  have : (a.data.toList.map (·.toNat) = b.data.toList.map (·.toNat)) ↔ a.data.toList = b.data.toList :=
    ⟨fun h => List.map_inj_right (fun x y h => UInt8.toNat_inj.1 h) |>.1 h, fun h => by rw [h]⟩
  by_cases h : a.data.toList = b.data.toList
  · rw [decide_eq_true (this.2 h), h]; simp
  · rw [decide_eq_false (fun e => h (this.1 e))]
    cases hq : (a.data.toList == b.data.toList) with
    | false => rfl
    | true => exact absurd (eq_of_beq hq) h

section
variable {P : Program} {E : Env} (hE : EnvOk P E) {φ : Phi} {w : World}
include hE

theorem part_R {t : TypeId} {off n : Nat} {xs : List AV} {cs : Array Value} {a : AV} (hs : aggSz E t = some n) (hx : VRs φ xs cs.toList) (hg : getL xs off n = some a) :
    ∃ v, (part t cs off).run P w = .ok v w ∧ VR φ a v := by
  unfold aggSz at hs
  split at hs
  · rename_i ha
    obtain ⟨h1, h2⟩ := run_sized hE hs w
    obtain ⟨m, rfl⟩ : ∃ m, n = m + 1 := ⟨n - 1, by omega⟩
    simp only [getL, Option.some.injEq] at hg; subst hg
    exact ⟨.agg (cs.extract off (off + (m + 1))), by simp [part, run_agg hE ha, h1], .agg (extract_R hx _ _)⟩
  · rename_i ha
    simp only [Option.some.injEq] at hs; subst hs
    simp only [getL] at hg
    obtain ⟨v, h1, h2⟩ := hx.get hg
    rw [Array.getElem?_toList] at h1
    exact ⟨v, by simp [part, run_agg hE ha, h1], h2⟩
  · cases hs

theorem eqParts_run {d D n : Nat} (ih : ∀ (t : TypeId) (x y : AV) (x' y' : Value) (b : Bool), eqv n (shapeOf E d t) x y = some b → VR φ x x' → VR φ y y' → (Op.equalIn D t x' y').run P w = .ok b w)
    {xs ys : List AV} {cs cs' : Array Value} (hx : VRs φ xs cs.toList) (hy : VRs φ ys cs'.toList) : ∀ (fs : List Field) (l : List (Nat × Nat × Sh)) (b : Bool),
    fs.mapM (fieldSh E (shapeOf E d)) = some l → eqParts (eqv n) xs ys l = some b → (Op.eqFields D cs cs' fs).run P w = .ok b w
  | [], l, b, hl, he => by
    simp at hl; subst hl
    simp only [eqParts, Option.some.injEq] at he; subst he; rfl
  | f :: fs, l, b, hl, he => by
    rw [List.mapM_cons] at hl
    cases h1 : fieldSh E (shapeOf E d) f with
    | none => rw [h1] at hl; simp at hl
    | some q =>
      rw [h1] at hl
      cases h2 : fs.mapM (fieldSh E (shapeOf E d)) with
      | none => rw [h2] at hl; simp at hl
      | some r =>
        rw [h2] at hl; simp at hl; subst hl
        unfold fieldSh at h1
        split at h1
        · cases h1
        · rename_i hn
          have hn : f.name ≠ "_" := by simpa using hn
          split at h1
          · rename_i m hm
            simp only [Option.some.injEq] at h1; subst h1
            simp only [eqParts] at he
            split at he
            · rename_i a c ha hc
              obtain ⟨va, a1, a2⟩ := part_R hE (w := w) hm hx ha
              obtain ⟨vc, c1, c2⟩ := part_R hE (w := w) hm hy hc
              cases hq : eqv n (shapeOf E d f.type) a c with
              | none => rw [hq] at he; simp at he
              | some q =>
                rw [hq] at he
                have e1 := ih _ _ _ _ _ _ hq a2 c2
                rw [Op.eqFields, if_pos hn]
                simp only [Sem.run_bind, a1, c1, e1, Result.andThen_ok]
                cases q with
                | true => simp only [Bool.not_true, Bool.false_eq_true, if_false]; exact eqParts_run ih hx hy fs r b h2 he
                | false => simp only [Option.some.injEq] at he; subst he; rfl
            · cases he
          · cases h1

theorem run_eqv : ∀ (d : Nat) (t : TypeId) (n D : Nat) (x y : AV) (x' y' : Value) (b : Bool), d ≤ D → eqv n (shapeOf E d t) x y = some b → VR φ x x' → VR φ y y' →
    (Op.equalIn D t x' y').run P w = .ok b w
  | 0, t, n, D, x, y, x', y', b, _, h, _, _ => by cases n <;> simp [shapeOf, eqv] at h
  | d + 1, t, n, D, x, y, x', y', b, hd, h, hx, hy => by
    cases n with
    | zero => simp [eqv] at h
    | succ n =>
      obtain ⟨D, rfl⟩ : ∃ k, D = k + 1 := ⟨D - 1, by omega⟩
      unfold shapeOf at h
      split at h
      · rename_i hu
        simp only [eqv] at h
        cases x with
        | bool a => cases y with
          | bool c =>
            simp only [boolEq, Option.some.injEq] at h; subst h
            rw [hx.bool_inv, hy.bool_inv, run_equalIn_bool' w D t _ _ (und_ok hE hu), bEq_eq]
            cases a <;> cases c <;> rfl
          | _ => simp [boolEq] at h
        | _ => simp [boolEq] at h
      · rename_i k hu
        simp only [eqv] at h
        cases x with
        | int k a => cases y with
          | int j c =>
            simp only [intEq] at h
            split at h
            · rename_i hk
              have hk := kEq_true hk; subst hk
              simp only [Option.some.injEq] at h; subst h
              rw [hx.int_inv, hy.int_inv, run_equalIn_int w D t _ _ _ _ (und_ok hE hu), iEq_beq]
            · cases h
          | _ => simp [intEq] at h
        | _ => simp [intEq] at h
      · rename_i hu
        simp only [eqv] at h
        cases x with
        | str a => cases y with
          | str c =>
            simp only [strEq, Option.some.injEq] at h; subst h
            obtain ⟨a, e1, h1⟩ := hx.str_inv
            obtain ⟨c, e2, h2⟩ := hy.str_inv
            rw [e1, e2, run_equalIn_string w D t _ _ (und_ok hE hu), bytes_eq h1 h2]
          | _ => simp [strEq] at h
        | _ => simp [strEq] at h
      · rename_i e hu
        split at h
        · rename_i m hm
          obtain ⟨s1, s2⟩ := run_sized hE hm w
          simp only [eqv] at h
          cases x with
          | nilp =>
            rw [hx.nilp_inv]
            cases y with
            | nilp => simp only [ptrEq, Option.some.injEq] at h; subst h; rw [hy.nilp_inv]; simp [Op.equalIn, run_und hE hu]
            | ptr c o => simp only [ptrEq, Option.some.injEq] at h; subst h; obtain ⟨l, _, e⟩ := hy.ptr_inv; rw [e]; simp [Op.equalIn, run_und hE hu]
            | _ => simp [ptrEq] at h
          | ptr c o =>
            obtain ⟨l, hl, e1⟩ := hx.ptr_inv
            rw [e1]
            cases y with
            | nilp => simp only [ptrEq, Option.some.injEq] at h; subst h; rw [hy.nilp_inv]; simp [Op.equalIn, run_und hE hu]
            | ptr c' o' =>
              simp only [ptrEq] at h
              obtain ⟨l', hl', e2⟩ := hy.ptr_inv
              rw [e2]
              split at h
              · rename_i hb
                have hb := beq_true hb
                subst hb
                rw [hl] at hl'; cases hl'
                simp only [Option.some.injEq] at h; subst h
                simp only [Op.equalIn, Sem.run_bind, run_und hE hu, Result.andThen_ok, s1, ne_eq, s2, not_false_eq_true, if_true, sameAddr, beq_self_eq_true]
                simp only [Sem.run_pure]
                congr 1
                by_cases ho : o = o'
                · subst ho; simp
                · have : Nat.beq o o' = false := by
                    cases hq : Nat.beq o o' with
                    | false => rfl
                    | true => exact absurd (beq_true hq) ho
                  rw [this]; simp [ho]
              · cases h
            | _ => simp [ptrEq] at h
          | _ => simp [ptrEq] at h
        · simp [eqv] at h
      · rename_i ms hu
        simp only [eqv] at h
        cases x with
        | ifc u a =>
          obtain ⟨u, e1, _⟩ := hx.ifc_inv
          rw [e1]
          cases y with
          | nili => simp only [ifcEq, Option.some.injEq] at h; subst h; rw [hy.nili_inv]; simp [Op.equalIn, run_und hE hu]
          | _ => simp [ifcEq] at h
        | nili =>
          rw [hx.nili_inv]
          cases y with
          | ifc u a => simp only [ifcEq, Option.some.injEq] at h; subst h; obtain ⟨u, e1, _⟩ := hy.ifc_inv; rw [e1]; simp [Op.equalIn, run_und hE hu]
          | _ => simp [ifcEq] at h
        | _ => simp [ifcEq] at h
      · rename_i fs hu
        split at h
        · simp [eqv] at h
        · rename_i hm
          split at h
          · rename_i l hl
            simp only [eqv] at h
            cases x with
            | agg xs => cases y with
              | agg ys =>
                simp only [] at h
                obtain ⟨cs, e1, h1⟩ := hx.agg_inv
                obtain ⟨cs', e2, h2⟩ := hy.agg_inv
                rw [e1, e2]
                have hfs : P.fieldsOf t = fs := by unfold Program.fieldsOf; rw [und_ok hE hu]
                rw [run_equalIn_struct w D t cs cs' (by rw [hfs]; exact und_ok hE hu) (hE.stood t ((memN_iff _ _).1 hm)).1, hfs]
                exact eqParts_run hE (fun t x y x' y' b h hx hy => run_eqv d t n D x y x' y' b (by omega) h hx hy) h1 h2 fs.toList l b hl h
              | _ => simp at h
            | _ => simp at h
          · simp [eqv] at h
      · rename_i e hu
        simp only [eqv] at h
        cases x with
        | nils =>
          rw [hx.nils_inv]
          cases y with
          | nils => simp only [nilEqS, Option.some.injEq] at h; subst h; rw [hy.nils_inv]; simp [Op.equalIn, run_und hE hu]
          | slc _ _ _ _ => simp only [nilEqS, Option.some.injEq] at h; subst h; obtain ⟨l, off, c', _, e2, _, _⟩ := hy.slc_inv; rw [e2]; simp [Op.equalIn, run_und hE hu]
          | _ => simp [nilEqS] at h
        | slc _ _ _ _ =>
          obtain ⟨l, off, c', _, e2, _, _⟩ := hx.slc_inv
          rw [e2]
          cases y with
          | nils => simp only [nilEqS, Option.some.injEq] at h; subst h; rw [hy.nils_inv]; simp [Op.equalIn, run_und hE hu]
          | _ => simp [nilEqS] at h
        | _ => simp [nilEqS] at h
      · rename_i k e hu
        simp only [eqv] at h
        cases x with
        | nilm =>
          rw [hx.nilm_inv]
          cases y with
          | nilm => simp only [nilEqM, Option.some.injEq] at h; subst h; rw [hy.nilm_inv]; simp [Op.equalIn, run_und hE hu]
          | map _ => simp only [nilEqM, Option.some.injEq] at h; subst h; obtain ⟨l, _, e2⟩ := hy.map_inv; rw [e2]; simp [Op.equalIn, run_und hE hu]
          | _ => simp [nilEqM] at h
        | map _ =>
          obtain ⟨l, _, e2⟩ := hx.map_inv
          rw [e2]
          cases y with
          | nilm => simp only [nilEqM, Option.some.injEq] at h; subst h; rw [hy.nilm_inv]; simp [Op.equalIn, run_und hE hu]
          | _ => simp [nilEqM] at h
        | _ => simp [nilEqM] at h
      · rename_i ps rs vv hu
        simp only [eqv] at h
        cases x with
        | nilf =>
          rw [hx.nilf_inv]
          cases y with
          | nilf => simp only [nilEqF, Option.some.injEq] at h; subst h; rw [hy.nilf_inv]; simp [Op.equalIn, run_und hE hu]
          | fn f a c =>
            cases f with
            | func f => simp only [nilEqF, Option.some.injEq] at h; subst h; obtain ⟨a', c', e2, _, _⟩ := hy.fnF_inv; rw [e2]; simp [Op.equalIn, run_und hE hu]
            | yield l => simp [nilEqF] at h
          | _ => simp [nilEqF] at h
        | fn f a c =>
          cases f with
          | func f =>
            obtain ⟨a', c', e2, _, _⟩ := hx.fnF_inv
            rw [e2]
            cases y with
            | nilf => simp only [nilEqF, Option.some.injEq] at h; subst h; rw [hy.nilf_inv]; simp [Op.equalIn, run_und hE hu]
            | _ => simp [nilEqF] at h
          | yield l => simp [nilEqF] at h
        | _ => simp [nilEqF] at h
      · simp [eqv] at h
end
end Go.Ev

/- One operation that gives a value. Part 4: comparisons, conversions, slices, appends. -/
namespace Go.Ev

section
variable {P : Program} {E : Env} {w0 : Array Obj} {φ : Phi} {h h' : H} {w : World} {tm : T AV} {ρ : Operand → Value} {o : Oper} {v : AV}
variable (hr : HR E w0 φ h w.heap) (hρ : RhoR φ tm ρ)
include hr hρ

omit hr hρ in
theorem guard_plain (op : BinOp) (t : TypeId) (x y : Operand) (a b : Value) (h1 : a ≠ .nilIface ∨ b ≠ .nilIface) (h2 : (∀ c, a ≠ .agg c) ∨ (∀ c, b ≠ .agg c)) :
    (eqGuard op t x y a b).run P w = .ok () w := by
  unfold eqGuard
  cases op <;> first | rfl | skip
  all_goals
    simp only [Bool.not_true, Bool.false_eq_true, if_false]
    split
    · rcases h1 with h1 | h1 <;> exact absurd rfl h1
    · rcases h2 with h2 | h2 <;> exact absurd rfl (h2 _)
    · rfl

omit hr hρ in
theorem guard_const (op : BinOp) (t : TypeId) (x y : Operand) (hc : (isC x || isC y) = true) (a b : Value) (ha : a = .nilIface) (hb : b = .nilIface) :
    (eqGuard op t x y a b).run P w = .ok () w := by
  subst ha; subst hb
  unfold eqGuard
  cases op <;> first | rfl | skip
  all_goals
    simp only [Bool.not_true, Bool.false_eq_true, if_false]
    cases x <;> cases y <;> simp [isC] at hc ⊢

omit hr hρ in
/-- No number, no string. -/
def plainK (v : Value) : Bool :=
  match v with
  | .int _ _ => false
  | .float _ _ => false
  | .complex _ _ _ => false
  | .string _ => false
  | _ => true

omit hr hρ in
theorem binOp_eql (t : TypeId) (x y : Value) (hp : plainK x = true) : binOp .eql t x y = (do pure (.bool (← Op.equal t x y)) : Sem Value) := by
  cases x <;> first | rfl | (simp [plainK] at hp)
omit hr hρ in
theorem binOp_neq (t : TypeId) (x y : Value) (hp : plainK x = true) : binOp .neq t x y = (do pure (.bool (!(← Op.equal t x y))) : Sem Value) := by
  cases x <;> first | rfl | (simp [plainK] at hp)

omit hr hρ in
def kn (v : AV) : Bool :=
  match v with
  | .opq _ => false
  | .unk => false
  | _ => true

omit hr hρ in
theorem kn_of {f : AV → AV → Option Bool} (h1 : ∀ v y, f (.opq v) y = none) (h2 : ∀ y, f .unk y = none) (h3 : ∀ x v, f x (.opq v) = none) (h4 : ∀ x, f x .unk = none)
    {a b : AV} {q : Bool} (h : f a b = some q) : kn a = true ∧ kn b = true := by
  constructor
  · cases a with
    | opq v => rw [h1] at h; cases h
    | unk => rw [h2] at h; cases h
    | _ => rfl
  · cases b with
    | opq v => rw [h3] at h; cases h
    | unk => rw [h4] at h; cases h
    | _ => rfl

omit hr hρ in
theorem eqv_kn {n : Nat} {sh : Sh} {a b : AV} {q : Bool} (h : eqv n sh a b = some q) : kn a = true ∧ kn b = true := by
  cases n with
  | zero => simp [eqv] at h
  | succ n =>
    refine kn_of (f := eqv (n + 1) sh) ?_ ?_ ?_ ?_ h
    · intro v y; cases sh <;> rfl
    · intro y; cases sh <;> rfl
    · intro x v
      cases sh with
      | bad => rfl
      | nilF => cases x with | fn f _ _ => cases f <;> rfl | _ => rfl
      | _ => cases x <;> rfl
    · intro x
      cases sh with
      | bad => rfl
      | nilF => cases x with | fn f _ _ => cases f <;> rfl | _ => rfl
      | _ => cases x <;> rfl

omit hr hρ in
theorem kn_R {a : AV} {v' : Value} (h : VR φ a v') (hk : kn a = true) : (a ≠ .nili → v' ≠ .nilIface) ∧ ((∀ l, a ≠ .agg l) → ∀ c, v' ≠ .agg c) ∧
    ((∀ k n, a ≠ .int k n) → (∀ s, a ≠ .str s) → plainK v' = true) := by
  cases h with
  | opq _ => simp [kn] at hk
  | unk _ => simp [kn] at hk
  | nili => exact ⟨fun e => absurd rfl e, fun _ c e => (by cases e), fun _ _ => rfl⟩
  | agg _ => exact ⟨fun _ e => (by cases e), fun e => absurd rfl (e _), fun _ _ => rfl⟩
  | int _ _ => exact ⟨fun _ e => (by cases e), fun _ c e => (by cases e), fun e => absurd rfl (e _ _)⟩
  | str _ => exact ⟨fun _ e => (by cases e), fun _ c e => (by cases e), fun _ e => absurd rfl (e _)⟩
  | _ => exact ⟨fun _ e => (by cases e), fun _ c e => (by cases e), fun _ _ => rfl⟩

omit hr hρ in
theorem equal_nili (hE : EnvOk P E) {t : TypeId} {ms : Array (String × TypeId)} (hu : und E t = some (.interface ms)) : (Op.equal t .nilIface .nilIface).run P w = .ok true w := by
  have : ∀ D, (Op.equalIn (D + 1) t .nilIface .nilIface).run P w = .ok true w := fun D => by simp [Op.equalIn, run_und hE hu]
  exact this 9999

omit hr hρ in
theorem shape_iface {d : Nat} {t : TypeId} (h : shapeOf E d t = .iface) : ∃ ms, und E t = some (.interface ms) := by
  cases d with
  | zero => simp [shapeOf] at h
  | succ d =>
    unfold shapeOf at h
    split at h <;> first | (cases h; done) | skip
    · split at h <;> cases h
    · rename_i ms hu; exact ⟨ms, hu⟩
    · split at h
      · cases h
      · split at h <;> cases h

omit hr hρ in
theorem shape_agg {d n : Nat} {t : TypeId} {xs ys : List AV} {q : Bool} (h : eqv n (shapeOf E d t) (.agg xs) (.agg ys) = some q) : t ∈ E.S := by
  cases n with
  | zero => simp [eqv] at h
  | succ n =>
    cases d with
    | zero => simp [shapeOf, eqv] at h
    | succ d =>
      unfold shapeOf at h
      split at h <;> first | (simp [eqv, boolEq, intEq, strEq, ifcEq, nilEqS, nilEqM, nilEqF] at h; done) | skip
      · split at h <;> simp [eqv, ptrEq] at h
      · split at h
        · simp [eqv] at h
        · rename_i hm; exact (memN_iff _ _).1 hm

omit hr hρ in
theorem shape_nili {d n : Nat} {t : TypeId} {q : Bool} (h : eqv n (shapeOf E d t) .nili .nili = some q) : False := by
  have : ∀ sh : Sh, eqv n sh .nili .nili = none := by
    intro sh
    cases n with
    | zero => rfl
    | succ n => cases sh <;> rfl
  rw [this] at h; cases h

omit hr hρ in
theorem run_eqAny (hE : EnvOk P E) {op : BinOp} {t : TypeId} {x y : Operand} {a b : AV} {xv yv : Value} {q : Bool} (hq : eqAny (shapeOf E 5 t) (isC x || isC y) a b = some q) (hxR : VR φ a xv) (hyR : VR φ b yv) :
    (eqGuard op t x y xv yv).run P w = .ok () w ∧ (Op.equal t xv yv).run P w = .ok q w ∧ ((∀ k n, a ≠ .int k n) → (∀ s, a ≠ .str s) → plainK xv = true) := by
  unfold eqAny at hq
  split at hq
  · rename_i hn
    simp only [Option.some.injEq] at hq; subst hq
    unfold nilBoth at hn
    split at hn
    · rename_i hsh
      split at hn
      · rename_i hc
        have e1 := hxR.nili_inv
        have e2 := hyR.nili_inv
        obtain ⟨ms, hui⟩ := shape_iface hsh
        refine ⟨guard_const op t x y hc _ _ e1 e2, ?_, fun _ _ => by rw [e1]; rfl⟩
        rw [e1, e2]; exact equal_nili hE hui
      · cases hn
    · cases hn
  · obtain ⟨k1, k2⟩ := eqv_kn hq
    obtain ⟨p1, p2, p3⟩ := kn_R hxR k1
    obtain ⟨q1, q2, _⟩ := kn_R hyR k2
    refine ⟨?_, run_eqv hE 5 t 20 10000 a b _ _ q (by decide) hq hxR hyR, p3⟩
    by_cases hag : ∃ xs ys, a = .agg xs ∧ b = .agg ys
    · obtain ⟨xs, ys, rfl, rfl⟩ := hag
      obtain ⟨cs, e1, _⟩ := hxR.agg_inv
      obtain ⟨cs', e2, _⟩ := hyR.agg_inv
      rw [e1, e2]
      exact run_eqGuard_agg w op t x y cs cs' (hE.stood t (shape_agg hq)).2
    · refine guard_plain op t x y _ _ ?_ ?_
      · by_cases hn : a = .nili
        · by_cases hm : b = .nili
          · subst hn; subst hm; exact absurd hq (fun h => shape_nili h)
          · exact .inr (q1 hm)
        · exact .inl (p1 hn)
      · by_cases hn : ∃ xs, a = .agg xs
        · obtain ⟨xs, rfl⟩ := hn
          exact .inr (q2 fun l e => hag ⟨xs, l, rfl, e⟩)
        · exact .inl (p2 fun l e => hn ⟨l, e⟩)

theorem sim_bin (hE : EnvOk P E) {op : BinOp} {t yt : TypeId} {x y : Operand} (ho : o.op = .binOp op t x y yt)
    (hx : exec (.bin op (opd x) (opd y) (isC x || isC y) (shapeOf E 5 t)) h tm = .val v h') : Sim1 E w0 φ w h ((execOp ρ o).run P w) v h' := by
  simp only [exec] at hx
  generalize hxv : ev tm (opd x) = a at hx
  generalize hyv : ev tm (opd y) = b at hx
  have hxR := hρ x
  have hyR := hρ y
  rw [hxv] at hxR
  rw [hyv] at hyR
  cases hbv : binV op (shapeOf E 5 t) (isC x || isC y) a b with
  | none => rw [hbv] at hx; simp [vo] at hx
  | some u =>
    rw [hbv] at hx
    simp only [vo, R.val.injEq] at hx
    obtain ⟨rfl, rfl⟩ := hx
    have key : ∃ v', (eqGuard op t x y (ρ x) (ρ y)).run P w = .ok () w ∧ (binOp op t (ρ x) (ρ y)).run P w = .ok v' w ∧ VR φ u v' := by
      by_cases hint : ∃ k n, a = .int k n
      · obtain ⟨k, n, rfl⟩ := hint
        cases b with
        | int j m =>
          simp only [binV] at hbv
          obtain ⟨v', h1, h2⟩ := run_II P w (t := t) hbv
          rw [hxR.int_inv, hyR.int_inv]
          exact ⟨v', guard_plain _ _ _ _ _ _ (.inl (by simp)) (.inl (by simp)), h1, h2 φ⟩
        | _ => simp [binV] at hbv
      · by_cases hstr : ∃ s, a = .str s
        · obtain ⟨s, rfl⟩ := hstr
          obtain ⟨sa, e1, h1⟩ := hxR.str_inv
          cases b with
          | str s' =>
            obtain ⟨sb, e2, h2⟩ := hyR.str_inv
            simp only [binV] at hbv
            rw [e1, e2]
            suffices hs : ∃ v', (binOp op t (.string sa) (.string sb)).run P w = .ok v' w ∧ VR φ u v' by
              obtain ⟨v', p1, p2⟩ := hs
              exact ⟨v', guard_plain _ _ _ _ _ _ (.inl (by simp)) (.inl (by simp)), p1, p2⟩
            cases op with
            | add =>
              simp only [binSS] at hbv
              split at hbv
              · rename_i hle
                have hle : s.length + s'.length ≤ 1099511627776 := ble_true hle
                simp only [Option.some.injEq] at hbv; subst hbv
                have l1 : sa.size = s.length := by rw [← h1, List.length_map, Array.length_toList]; rfl
                have l2 : sb.size = s'.length := by rw [← h2, List.length_map, Array.length_toList]; rfl
                refine ⟨.string (sa ++ sb), ?_, .str ?_⟩
                · simp only [binOp, Op.stringOp]
                  rw [if_neg]
                  · rfl
                  · have : IntKind.i64.max = 9223372036854775807 := by decide
                    rw [this, l1, l2]; omega
                · show (sa ++ sb).data.toList.map _ = s ++ s'
                  rw [← h1, ← h2, ← List.map_append, ByteArray.data_append, Array.toList_append]
              · cases hbv
            | eql =>
              simp only [binSS, Option.some.injEq] at hbv; subst hbv
              exact ⟨.bool (sa.toList == sb.toList), by simp only [binOp, Op.stringOp]; rfl, by rw [bytes_eq h1 h2]; exact .bool _⟩
            | neq =>
              simp only [binSS, Option.some.injEq] at hbv; subst hbv
              exact ⟨.bool (!(sa.toList == sb.toList)), by simp only [binOp, Op.stringOp]; rfl, by rw [bytes_eq h1 h2]; exact .bool _⟩
            | _ => simp [binSS] at hbv
          | _ => simp [binV] at hbv
        · have hb : binEq op (shapeOf E 5 t) (isC x || isC y) a b = some u := by
            cases a <;> first
              | exact absurd ⟨_, _, rfl⟩ hint
              | exact absurd ⟨_, rfl⟩ hstr
              | exact hbv
          have hi : ∀ k n, a ≠ .int k n := fun k n e => hint ⟨k, n, e⟩
          have hs : ∀ s, a ≠ .str s := fun s e => hstr ⟨s, e⟩
          cases op with
          | eql =>
            simp only [binEq] at hb
            split at hb
            · rename_i q hq
              simp only [Option.some.injEq] at hb; subst hb
              obtain ⟨g1, g2, g3⟩ := run_eqAny (w := w) (op := .eql) hE hq hxR hyR
              exact ⟨.bool q, g1, by rw [binOp_eql _ _ _ (g3 hi hs), Sem.run_bind, g2]; rfl, .bool _⟩
            · cases hb
          | neq =>
            simp only [binEq] at hb
            split at hb
            · rename_i q hq
              simp only [Option.some.injEq] at hb; subst hb
              obtain ⟨g1, g2, g3⟩ := run_eqAny (w := w) (op := .neq) hE hq hxR hyR
              exact ⟨.bool (not q), g1, by rw [binOp_neq _ _ _ (g3 hi hs), Sem.run_bind, g2]; rfl, .bool _⟩
            · cases hb
          | _ => simp [binEq] at hb
    obtain ⟨v', h1, h2, h3⟩ := key
    refine .same hr ?_ h3
    simp only [execOp, ho, Sem.run_bind, h1, h2, Result.andThen_ok, Sem.run_pure]
end
end Go.Ev

/- One operation that gives a value. Part 5: conversions, slices, lengths. -/
namespace Go.Ev

section
variable {P : Program} {E : Env} {w0 : Array Obj} {φ : Phi} {h h' : H} {w : World} {tm : T AV} {ρ : Operand → Value} {o : Oper} {v : AV}
variable (hr : HR E w0 φ h w.heap) (hρ : RhoR φ tm ρ)
include hr hρ

omit hr hρ in
theorem bvOnes (k : IntKind) (n : Int) : (BitVec.ofInt k.bits (if k.signed then -1 else k.max) ^^^ BitVec.ofInt k.bits n).toNat = Nat.sub (Nat.sub (pw k) 1) (toU k n) := by
  have h : BitVec.ofInt k.bits (if k.signed then -1 else k.max) = BitVec.allOnes k.bits := by cases k <;> decide
  rw [h, BitVec.allOnes_xor, bvNot]

theorem sim_un {op : UnOp} {t : TypeId} {x : Operand} (ho : o.op = .unOp op t x) (hx : exec (.un op (opd x)) h tm = .val v h') : Sim1 E w0 φ w h ((execOp ρ o).run P w) v h' := by
  simp only [exec] at hx
  split at hx
  · rename_i k n hb
    have ea := VR.int_inv (hb ▸ hρ x)
    split at hx
    · simp only [R.val.injEq] at hx; obtain ⟨rfl, rfl⟩ := hx
      refine .same (v' := .int k (k.wrap (0 - n))) hr ?_ (by rw [wr_eq]; exact .int _ _)
      simp [execOp, ho, ea, Op.unary, Op.intArith]
    · simp only [R.val.injEq] at hx; obtain ⟨rfl, rfl⟩ := hx
      refine .same (v' := .int k (k.wrap ((BitVec.ofInt k.bits (if k.signed then -1 else k.max) ^^^ BitVec.ofInt k.bits n).toNat))) hr ?_ (by rw [wr_eq, bvOnes]; exact .int _ _)
      simp [execOp, ho, ea, Op.unary, Op.intBits]
    · cases hx
  · rename_i b hb
    have ea := VR.bool_inv (hb ▸ hρ x)
    split at hx
    · simp only [R.val.injEq] at hx; obtain ⟨rfl, rfl⟩ := hx
      exact .same (v' := .bool (not b)) hr (by simp [execOp, ho, ea, Op.unary]) (.bool _)
    · cases hx
  · cases hx

omit hr hρ in
theorem bytesV_R : ∀ {l : List AV} {vs : List Value} {s : List Nat}, VRs φ l vs → bytesV l = some s → vs = s.map (fun n => .int .u8 (n : Int)) ∧ ∀ n ∈ s, n ≤ 255
  | [], vs, s, hv, hb => by cases hv; simp only [bytesV, Option.some.injEq] at hb; subst hb; exact ⟨rfl, by simp⟩
  | a :: l, vs, s, hv, hb => by
    cases hv with
    | cons ha hs =>
      simp only [bytesV] at hb
      split at hb
      · rename_i n
        split at hb
        · rename_i r hle hr
          simp only [Option.some.injEq] at hb; subst hb
          obtain ⟨h1, h2⟩ := bytesV_R hs hr
          rw [ha.int_inv, h1]
          refine ⟨rfl, fun m hm => ?_⟩
          rcases List.mem_cons.1 hm with e | hm
          · subst e; exact ble_true hle
          · exact h2 m hm
        · cases hb
      · cases hb

omit hr hρ in
theorem push_fold : ∀ (s : List Nat) (acc : ByteArray), (∀ n ∈ s, n ≤ 255) →
    ((s.map fun (m : Nat) => (m : Int)).foldl (fun (r : ByteArray) (n : Int) => r.push (UInt8.ofNat n.toNat)) acc).data.toList.map (·.toNat) = acc.data.toList.map (·.toNat) ++ s
  | [], acc, _ => by simp
  | n :: s, acc, hs => by
    rw [List.map_cons, List.foldl_cons, push_fold s _ (fun m hm => hs m (List.mem_cons_of_mem _ hm)), Int.toNat_natCast]
    have : (acc.push (UInt8.ofNat n)).data.toList = acc.data.toList ++ [UInt8.ofNat n] := by
      show (acc.data.push _).toList = _; simp
    rw [this, List.map_append, List.append_assoc]
    have hn : (UInt8.ofNat n).toNat = n := by
      have := hs n (List.mem_cons_self ..)
      simp; omega
    simp [hn]

theorem sim_b2s (hE : EnvOk P E) {s d e : TypeId} {x : Operand} (hs : und E s = some (.slice e)) (hd : und E d = some .string) (he : und E e = some (.int .u8)) (ho : o.op = .convert s d x)
    (hx : exec (.b2s (opd x)) h tm = .val v h') : Sim1 E w0 φ w h ((execOp ρ o).run P w) v h' := by
  simp only [exec] at hx
  split at hx
  · rename_i hb
    have ea := VR.nils_inv (hb ▸ hρ x)
    simp only [R.val.injEq] at hx; obtain ⟨rfl, rfl⟩ := hx
    refine .same (v' := .string .empty) hr ?_ (.str rfl)
    simp [execOp, ho, ea, convert, run_und hE hs, run_und hE hd, run_und hE he, Conv.bytesToString]
  · rename_i b k n cap hb
    obtain ⟨l, off, c', hφ, ea, hle, hor⟩ := VR.slc_inv (hb ▸ hρ x)
    split at hx
    · rename_i xs hc
      split at hx
      · rename_i bs hbs
        simp only [R.val.injEq] at hx; obtain ⟨rfl, rfl⟩ := hx
        obtain ⟨vs, h1, h2, h3⟩ := hr.cellsAt hφ hc off (fun hn => by
          rcases hor with ⟨_, e, ho⟩ | ⟨_, _, _, ho⟩
          · exact ho (by omega)
          · exact ho hn)
        obtain ⟨h4, h5⟩ := bytesV_R h2 hbs
        have hload := run_loadCells_at P h3
        rw [h1, h4] at hload
        have hmm : (bs.map fun (n : Nat) => Value.int .u8 (n : Int)) = (bs.map fun (m : Nat) => (m : Int)).map (Value.int .u8) := by simp
        rw [hmm] at hload
        have hrun := run_bytesToString (P := P) w ⟨l.cb, off, none⟩ n c' (bs.map fun (m : Nat) => (m : Int)) hload
        refine .same (v' := .string ((bs.map fun (m : Nat) => (m : Int)).foldl (fun (r : ByteArray) (n : Int) => r.push (UInt8.ofNat n.toNat)) ByteArray.empty)) hr ?_ (.str ?_)
        · simp only [execOp, ho, ea, Sem.run_bind, run_convert_bytes_string w s d e _ n c' (und_ok hE hs) (und_ok hE he) (und_ok hE hd), hrun, Result.andThen_ok, Sem.run_pure]
        · rw [push_fold bs _ h5]; rfl
      · cases hx
    · cases hx
  · cases hx

theorem sim_cslice (hE : EnvOk P E) {s e e' : TypeId} {x : Operand} (hs : und E s = some (.slice e)) (hs' : und E s = some (.slice e')) (he : und E e' = some (.int .u8)) (ho : o.op = .convert s s x)
    (hx : exec (.cslice (opd x)) h tm = .val v h') : Sim1 E w0 φ w h ((execOp ρ o).run P w) v h' := by
  simp only [exec] at hx
  split at hx
  · rename_i b k n cap hb
    have hxR := hb ▸ hρ x
    obtain ⟨l, off, c', hφ, ea, hle, hor⟩ := VR.slc_inv hxR
    split at hx
    · rename_i nn c hc
      simp only [R.val.injEq] at hx; obtain ⟨rfl, rfl⟩ := hx
      obtain ⟨cs, et, h1, h2, h3, h4⟩ := hr.cellsOf_blkW hφ hc
      refine ⟨φ, ρ x, w.freeze ⟨l.cb, cs.size, none⟩ 1, .refl _ _, .inl ?_, hxR, ?_, ⟨rfl, rfl, rfl⟩⟩
      · have hsh : w.shape? l.cb = some (et, cs.size) := by simp [World.shape?, h1]
        simp [execOp, ho, ea, convert, run_und hE hs', run_und hE he, markStringish, hsh]
      · have hd := hr.del b
        have hlt := hr.cbound _ _ hφ
        refine ⟨hd.bound, ?_, ?_, hd.inj, hd.own, ?_, ?_⟩
        · intro c k hk; simpa [World.freeze] using hd.cbound c k hk
        · intro c k y hk hy
          have hne : l.cb ≠ k.cb := by
            intro e'
            rw [H.get_del] at hy
            by_cases hcb : c = b
            · rw [if_pos hcb] at hy; cases hy
            · rw [if_neg hcb] at hy
              exact hcb (hr.inj _ _ _ _ _ _ hφ hk hc hy rfl e').symm
          obtain ⟨p, p1, p2⟩ := hd.blk c k y hk hy
          refine ⟨p, ?_, p2⟩
          simp only [World.freeze, Nat.one_ne_zero, if_false, Array.getElem?_modify]
          rw [if_neg hne]; exact p1
        · intro c hcw
          have := hr.own _ _ _ hφ hc rfl
          simp only [World.freeze, Nat.one_ne_zero, if_false, Array.getElem?_modify]
          rw [if_neg (by omega)]; exact hr.old c hcw
        · simpa [World.freeze] using hr.size
    · cases hx
  · cases hx

theorem sim_mkslice (hE : EnvOk P E) {t e : TypeId} {s : Nat} {z : List AV} {lo c : Operand} (hu : und E t = some (.slice e)) (hs : sized E e = some s) (hz : zeroL E e = some z) (ho : o.op = .makeSlice t lo c)
    (hx : exec (.mkslice (bytesT E e) z (opd lo) (opd c)) h tm = .val v h') : Sim1 E w0 φ w h ((execOp ρ o).run P w) v h' := by
  simp only [exec] at hx
  split at hx
  · rename_i k1 ln hl
    have el := VR.int_inv (hl ▸ hρ lo)
    split at hx
    · rename_i k2 cn hc
      have ec := VR.int_inv (hc ▸ hρ c)
      split at hx
      · rename_i h1 h2 h3
        have h1 : ln ≤ cn := ble_true h1
        have h2 : cn * bytesT E e ≤ 281474976710656 := ble_true h2
        have h3 : cn ≤ 281474976710656 := ble_true h3
        simp only [R.val.injEq] at hx; obtain ⟨rfl, rfl⟩ := hx
        obtain ⟨u, i, z1, z2, z3, z4, z5⟩ := run_zeroL hE hz w
        obtain ⟨s1, s2⟩ := run_sized hE hs w
        have hi : i.size = s := by
          unfold sized at hs; rw [z1] at hs; simp only at hs
          split at hs
          · simp at hs
          · simpa using hs
        have hbt : bytesT E e = i.bytes := by unfold bytesT; rw [z1]
        rw [hbt] at h2
        obtain ⟨hle, hr'⟩ := hr.newCells e (rl_R (z5 φ) cn (cn * s) (by rw [z3, hi]))
        have hwr : ∀ n : Nat, n ≤ 281474976710656 → IntKind.i64.wrap (n : Int) = n := by
          intro n hn
          have h : (n : Int) % (2 ^ IntKind.i64.bits : Int) = n := Int.emod_eq_of_lt (by omega) (by simp [IntKind.bits]; omega)
          unfold IntKind.wrap
          rw [h]
          have : ¬ ((n : Int) ≥ 2 ^ (IntKind.i64.bits - 1)) := by simp [IntKind.bits]; omega
          simp [IntKind.signed, this]
        refine ⟨_, .slice (some ⟨w.heap.size, 0, none⟩) ln cn, w.alloc (.cells ((Array.range (cn * s)).map fun i => u.cells[i % u.cells.size]!) e), ⟨hle, fun _ hb => Phi.upd_ne _ _ hb⟩, .inl ?_, ?_, hr', ⟨rfl, rfl, rfl⟩⟩
        · have t1 : ¬ ((cn : Int) < 0) := by omega
          have t2 : ¬ ((i.bytes : Int) * (cn : Int) > 2 ^ 48) := by
            have : ((cn * i.bytes : Nat) : Int) ≤ 281474976710656 := by omega
            rw [Int.natCast_mul, Int.mul_comm] at this
            omega
          have t3 : ¬ ((ln : Int) < 0) := by omega
          have t4 : ¬ ((ln : Int) > (cn : Int)) := by omega
          simp only [execOp, ho, Instr.makeSlice, Sem.run_bind, run_und hE hu, Result.andThen_ok, el, ec, asInt, asIntOf, Sem.run_pure, run_info hE z1, hwr ln (by omega), hwr cn h3]
          have hc1 : IntKind.i64.wrap (Int.ofNat cn) = (cn : Int) := hwr cn h3
          have hl1 : IntKind.i64.wrap (Int.ofNat ln) = (ln : Int) := hwr ln (by omega)
          have hcond : (decide ((cn : Int) < 0) || decide ((i.bytes : Int) * (cn : Int) > 2 ^ 48) || decide ((ln : Int) < 0) || decide ((ln : Int) > (cn : Int))) = false := by
            simp only [decide_eq_false t1, decide_eq_false t2, decide_eq_false t3, decide_eq_false t4, Bool.or_false]
          simp only [hc1, hl1, hcond, Bool.false_eq_true, if_false, Sem.run_bind, run_askRoom, s1, Result.andThen_ok, Int.toNat_natCast]
          by_cases h0 : cn * s = 0
          · have hn : cn = 0 := by rcases Nat.mul_eq_zero.1 h0 with h | h; exact h; exact absurd h s2
            rw [if_pos h0]
            simp only [Sem.run_bind, Sem.run_pure, Result.andThen_ok]
            have hm : ((Array.range (cn * s)).map fun i => (#[] : Array Value)[i % (#[] : Array Value).size]!) = ((Array.range (cn * s)).map fun i => u.cells[i % u.cells.size]!) := by simp [h0]
            rw [hm]
            simp [newRow]
          · rw [if_neg h0]
            simp only [Sem.run_bind, z2, Result.andThen_ok, Sem.run_pure]
            simp [newRow]
        · have hb' : cn < capU := by unfold capU; omega
          have := VR.slcX (b := h.n) (o := 0) (n := ln) (c := cn) (off := 0) (Phi.upd_same φ h.n ⟨w.heap.size, 0, ((Array.range (cn * s)).map fun i => u.cells[i % u.cells.size]!).size⟩) hb' h1 (fun _ => rfl)
          simpa using this
      · cases hx
    · cases hx
  · cases hx

/-! slice expressions -/
omit hr in
theorem optNat_R {x : Option Operand} {r : Option Nat} (h : optNat tm (x.map opd) = some r) : (x = none ∧ r = none) ∨ ∃ y k n, x = some y ∧ r = some n ∧ ρ y = .int k ((n : Nat) : Int) := by
  cases x with
  | none => simp only [Option.map_none, optNat, Option.some.injEq] at h; subst h; exact .inl ⟨rfl, rfl⟩
  | some x =>
    simp only [Option.map_some, optNat] at h
    split at h
    · rename_i k n hb
      simp only [Option.some.injEq] at h; subst h
      have := hρ x
      rw [hb] at this
      exact .inr ⟨x, k, n, rfl, rfl, this.int_inv⟩
    · cases h

omit hr hρ in
theorem sliceBound_run {k : IntKind} {i y : Nat} {c : BoundsCode} (h : i ≤ y) : (Instr.sliceBound (.int k (i : Int)) y c).run P w = .ok i w := by
  simp [Instr.sliceBound, asIntOf, h]

omit hr in
/-- The bounds, at a capacity that the abstract machine may not know. -/
theorem bnds_run {isS : Bool} {len cap cap' : Nat} {lo hi mx : Option Operand} {l h m : Option Nat} {a b : Nat} {c : Option Nat}
    (hl : optNat tm (lo.map opd) = some l) (hh : optNat tm (hi.map opd) = some h) (hm : optNat tm (mx.map opd) = some m) (hb : bnds len cap l h m = some (a, b, c))
    (hcap : (cap < capU ∧ cap' = cap) ∨ (capU ≤ cap ∧ len ≤ cap')) :
    (Instr.sliceBounds isS len cap' (lo.map ρ) (hi.map ρ) (mx.map ρ)).run P w = .ok (a, b, c.getD cap') w ∧ a ≤ b ∧ b ≤ c.getD cap' ∧ (∀ d, c = some d → d ≤ cap' ∧ (capU ≤ cap → d ≤ len)) ∧
      (c = none → capU ≤ cap ∧ b ≤ len) := by
  have main : ∀ top : Nat, top ≤ cap' → (capU ≤ cap → top ≤ len) → ∀ e : Option Nat, e.getD cap' = cap' → (∀ d, e = some d → d ≤ cap' ∧ (capU ≤ cap → d ≤ len)) → (e = none → capU ≤ cap) →
      bndsT len top e l h m = some (a, b, c) →
      (Instr.sliceBounds isS len cap' (lo.map ρ) (hi.map ρ) (mx.map ρ)).run P w = .ok (a, b, c.getD cap') w ∧ a ≤ b ∧ b ≤ c.getD cap' ∧ (∀ d, c = some d → d ≤ cap' ∧ (capU ≤ cap → d ≤ len)) ∧
      (c = none → capU ≤ cap ∧ b ≤ len) := by
    intro top ht1 ht2 e he1 he2 he3 hb
    unfold bndsT at hb
    rcases optNat_R (hρ := hρ) hm with ⟨rfl, rfl⟩ | ⟨ym, km, nm, rfl, rfl, em⟩
    · simp only at hb
      split at hb
      · rename_i b1 b2
        have b1 := ble_true b1
        have b2 := ble_true b2
        simp only [Option.some.injEq, Prod.mk.injEq] at hb
        obtain ⟨rfl, rfl, rfl⟩ := hb
        have r1 : h.getD len ≤ cap' := Nat.le_trans b1 ht1
        refine ⟨?_, b2, by rw [he1]; exact r1, he2, fun hn => ⟨he3 hn, Nat.le_trans b1 (ht2 (he3 hn))⟩⟩
        rw [he1]
        rcases optNat_R (hρ := hρ) hh with ⟨rfl, rfl⟩ | ⟨yh, kh, nh, rfl, rfl, eh⟩
        · simp only [Option.getD_none] at b2
          rcases optNat_R (hρ := hρ) hl with ⟨rfl, rfl⟩ | ⟨yl, kl, nl, rfl, rfl, el⟩
          · simp [Instr.sliceBounds]
          · simp only [Option.getD_some] at b2
            simp [Instr.sliceBounds, el, sliceBound_run b2]
        · simp only [Option.getD_some] at b2 r1
          rcases optNat_R (hρ := hρ) hl with ⟨rfl, rfl⟩ | ⟨yl, kl, nl, rfl, rfl, el⟩
          · simp [Instr.sliceBounds, eh, sliceBound_run r1]
          · simp only [Option.getD_some] at b2
            simp [Instr.sliceBounds, eh, el, sliceBound_run r1, sliceBound_run b2]
      · cases hb
    · simp only at hb
      rcases optNat_R (hρ := hρ) hh with ⟨rfl, rfl⟩ | ⟨yh, kh, nh, rfl, rfl, eh⟩
      · simp at hb
      · simp only at hb
        split at hb
        · rename_i b1 b2 b3
          have b1 := ble_true b1
          have b2 := ble_true b2
          have b3 := ble_true b3
          simp only [Option.some.injEq, Prod.mk.injEq] at hb
          obtain ⟨rfl, rfl, rfl⟩ := hb
          have r1 : nm ≤ cap' := Nat.le_trans b1 ht1
          refine ⟨?_, b3, b2, fun d hd => by cases hd; exact ⟨r1, fun h => Nat.le_trans b1 (ht2 h)⟩, fun hn => by cases hn⟩
          rcases optNat_R (hρ := hρ) hl with ⟨rfl, rfl⟩ | ⟨yl, kl, nl, rfl, rfl, el⟩
          · simp [Instr.sliceBounds, em, eh, sliceBound_run r1, sliceBound_run b2]
          · simp only [Option.getD_some] at b3
            simp [Instr.sliceBounds, em, eh, el, sliceBound_run r1, sliceBound_run b2, sliceBound_run b3]
        · cases hb
  unfold bnds at hb
  rcases hcap with ⟨h1, h2⟩ | ⟨h1, h2⟩
  · have hq : Nat.ble capU cap = false := by rw [ble_eq]; exact decide_eq_false (by omega)
    simp only [hq] at hb
    exact main cap (by omega) (fun h => by omega) (some cap) (by simp [h2]) (fun d hd => by cases hd; exact ⟨by omega, fun h => by omega⟩) (fun hn => by cases hn) hb
  · have hq : Nat.ble capU cap = true := by rw [ble_eq]; exact decide_eq_true h1
    simp only [hq] at hb
    exact main len h2 (fun _ => Nat.le_refl _) none rfl (fun d hd => by cases hd) (fun _ => h1) hb

omit hr hρ in
/-- A slice of a slice, or of an array. -/
theorem sliceV_R {size b k n cap cap' off : Nat} {lo hi mx : Option Nat} {loc : Loc} {a c : Nat} {m : Option Nat} {u : AV} (hφ : φ b = some loc) (hbn : bnds n cap lo hi mx = some (a, c, m))
    (hv : sliceV size b k n cap lo hi mx = some u) (hac : a ≤ c) (hcm : c ≤ m.getD cap') (hd : ∀ d, m = some d → d ≤ cap' ∧ (capU ≤ cap → d ≤ n)) (hnone : m = none → capU ≤ cap ∧ c ≤ n)
    (hX : cap < capU → cap' = cap ∧ (0 < cap → off = loc.base + k)) (hU : capU ≤ cap → ∃ es, cap = capU + es ∧ off + cap' * es ≤ loc.csz ∧ (0 < n → off = loc.base + k)) (hnc : n ≤ cap') :
    VR φ u (.slice (some (if m.getD cap' = a then ⟨loc.cb, off, none⟩ else ⟨loc.cb, off + a * size, none⟩)) (c - a) (m.getD cap' - a)) := by
  unfold sliceV at hv
  rw [hbn] at hv
  cases m with
  | some d =>
    simp only at hv
    split at hv
    · rename_i hlt
      have hlt : d + 1 ≤ capU := ble_true hlt
      simp only [Option.some.injEq] at hv; subst hv
      obtain ⟨h1, h2⟩ := hd d rfl
      simp only [Option.getD_some] at hcm ⊢
      have hlim : d - a < capU := by omega
      by_cases hda : d = a
      · subst hda
        have hb : Nat.beq d d = true := by simp
        rw [if_pos rfl, hb]
        exact .slcX hφ hlim (by simp only [Nat.sub_eq]; omega) (fun h => by simp only [Nat.sub_eq] at h; omega)
      · have hb : Nat.beq d a = false := by
          cases hq : Nat.beq d a with
          | false => rfl
          | true => exact absurd (beq_true hq) hda
        rw [if_neg hda, hb]
        refine .slcX hφ hlim (by simp only [Nat.sub_eq]; omega) (fun h => ?_)
        have hoff : off = loc.base + k := by
          rcases Nat.lt_or_ge cap capU with hc | hc
          · have := hX hc; exact this.2 (by omega)
          · obtain ⟨es, _, _, h3⟩ := hU hc
            have := h2 hc
            exact h3 (by omega)
        rw [hoff]; show _ = loc.base + (k + a * size); omega
    · cases hv
  | none =>
    obtain ⟨h1, h2⟩ := hnone rfl
    obtain ⟨es, e1, e2, e3⟩ := hU h1
    simp only at hv
    split at hv
    · rename_i hes
      have hes : cap = capU + size := beq_true hes
      simp only [Option.some.injEq] at hv; subst hv
      have hse : es = size := by omega
      subst hse
      rw [hes]
      simp only [Option.getD_none] at hcm ⊢
      by_cases hca : cap' = a
      · rw [if_pos hca]
        refine .slcU (k := es) hφ (by simp only [Nat.sub_eq]; omega) ?_ (fun h => by simp only [Nat.sub_eq] at h; omega)
        have : (cap' - a) * es ≤ cap' * es := Nat.mul_le_mul_right _ (Nat.sub_le _ _)
        omega
      · rw [if_neg hca]
        refine .slcU (k := es) hφ (by simp only [Nat.sub_eq]; omega) ?_ (fun h => ?_)
        · have : a * es + (cap' - a) * es = cap' * es := by rw [← Nat.add_mul]; congr 1; omega
          omega
        · simp only [Nat.sub_eq] at h
          rw [e3 (by omega)]; show _ = loc.base + (k + a * es); omega
    · cases hv

theorem sim_sliceS (hE : EnvOk P E) {t e : TypeId} {s : Nat} {x : Operand} {lo hi mx : Option Operand} (hu : und E t = some (.slice e)) (hs : sized E e = some s) (ho : o.op = .slice t x lo hi mx)
    (hx : exec (.sliceS s (opd x) (lo.map opd) (hi.map opd) (mx.map opd)) h tm = .val v h') : Sim1 E w0 φ w h ((execOp ρ o).run P w) v h' := by
  simp only [exec] at hx
  split at hx
  · rename_i l hh m hl hhh hm
    have hat : (execOp ρ o).run P w = ((Instr.slice t (ρ x) (lo.map ρ) (hi.map ρ) (mx.map ρ)).run P w).andThen fun v w => .ok (.value v) w := by
      simp only [execOp, ho, Instr.sliceAt, Sem.run_bind, run_und hE hu, Result.andThen_ok, Sem.run_pure]
    split at hx
    · rename_i hb
      have ea := VR.nils_inv (hb ▸ hρ x)
      split at hx
      · rename_i q hq
        obtain ⟨a, c, d⟩ := q
        simp only [R.val.injEq] at hx; obtain ⟨rfl, rfl⟩ := hx
        obtain ⟨r1, r2, r3, r4, r5⟩ := bnds_run (hρ := hρ) (P := P) (w := w) (isS := true) hl hhh hm hq (.inl ⟨by unfold capU; omega, rfl⟩)
        have hz : d.getD 0 = 0 := by
          cases d with
          | none => rfl
          | some d => have := (r4 d rfl).1; simp; omega
        rw [hz] at r3 r1
        have ha : a = 0 := by omega
        have hc : c = 0 := by omega
        subst ha; subst hc
        refine .same (v' := .slice none 0 0) hr ?_ .nils
        rw [hat, ea]
        simp [Instr.slice, run_und hE hu, r1, (run_sized hE hs w).1]
      · cases hx
    · rename_i b k n cap hb
      obtain ⟨loc, off, c', hφ, ea, hle, hor⟩ := VR.slc_inv (hb ▸ hρ x)
      cases hv : sliceV s b k n cap l hh m with
      | none => rw [hv] at hx; simp [vo] at hx
      | some u =>
        rw [hv] at hx; simp only [vo, R.val.injEq] at hx; obtain ⟨rfl, rfl⟩ := hx
        have hbn : ∃ a c d, bnds n cap l hh m = some (a, c, d) := by
          unfold sliceV at hv
          cases hq : bnds n cap l hh m with
          | none => rw [hq] at hv; cases hv
          | some q => exact ⟨q.1, q.2.1, q.2.2, rfl⟩
        obtain ⟨a, c, d, hbn⟩ := hbn
        have hcap : (cap < capU ∧ c' = cap) ∨ (capU ≤ cap ∧ n ≤ c') := by
          rcases hor with ⟨h1, h2, _⟩ | ⟨es, h1, _, _⟩
          · exact .inl ⟨h1, h2⟩
          · exact .inr ⟨by omega, hle⟩
        obtain ⟨r1, r2, r3, r4, r5⟩ := bnds_run (hρ := hρ) (P := P) (w := w) (isS := true) hl hhh hm hbn hcap
        have hR := sliceV_R hφ hbn hv r2 r3 r4 r5 (fun h => by
          rcases hor with ⟨h1, h2, h3⟩ | ⟨es, h1, _, _⟩
          · exact ⟨h2, h3⟩
          · omega) (fun h => by
          rcases hor with ⟨h1, h2, h3⟩ | ⟨es, h1, h2, h3⟩
          · omega
          · exact ⟨es, h1, h2, h3⟩) hle
        refine .same hr ?_ hR
        rw [hat, ea]
        simp [Instr.slice, run_und hE hu, r1, (run_sized hE hs w).1, addr_add]
        split <;> rfl
    · cases hx
  · cases hx
end
end Go.Ev

/- One operation that gives a value. Part 6: slices of arrays, lengths, copies, appends. -/
namespace Go.Ev

section
variable {P : Program} {E : Env} {w0 : Array Obj} {φ : Phi} {h h' : H} {w : World} {tm : T AV} {ρ : Operand → Value} {o : Oper} {v : AV}
variable (hr : HR E w0 φ h w.heap) (hρ : RhoR φ tm ρ)
include hr hρ

theorem sim_sliceA (hE : EnvOk P E) {t e : TypeId} {n s : Nat} {x : Operand} {lo hi mx : Option Operand} (hu : und E t = some (.array n e) ∨ ∃ a, und E t = some (.pointer a) ∧ und E a = some (.array n e)) (hs : sized E e = some s)
    (ho : o.op = .slice t x lo hi mx) (hx : exec (.sliceA n s (opd x) (lo.map opd) (hi.map opd) (mx.map opd)) h tm = .val v h') : Sim1 E w0 φ w h ((execOp ρ o).run P w) v h' := by
  simp only [exec] at hx
  split at hx
  · rename_i l hh m hl hhh hm
    split at hx
    · rename_i b k hb
      obtain ⟨loc, hφ, ea⟩ := VR.ptr_inv (hb ▸ hρ x)
      split at hx
      · cases hx
      · rename_i hn
        have hn : n < capU := ble_false hn
        cases hv : sliceV s b k n n l hh m with
        | none => rw [hv] at hx; simp [vo] at hx
        | some u =>
          rw [hv] at hx; simp only [vo, R.val.injEq] at hx; obtain ⟨rfl, rfl⟩ := hx
          have hbn : ∃ a c d, bnds n n l hh m = some (a, c, d) := by
            unfold sliceV at hv
            cases hq : bnds n n l hh m with
            | none => rw [hq] at hv; cases hv
            | some q => exact ⟨q.1, q.2.1, q.2.2, rfl⟩
          obtain ⟨a, c, d, hbn⟩ := hbn
          obtain ⟨r1, r2, r3, r4, r5⟩ := bnds_run (hρ := hρ) (P := P) (w := w) (isS := false) hl hhh hm hbn (.inl ⟨hn, rfl⟩)
          have hR := sliceV_R (off := loc.base + k) hφ hbn hv r2 r3 r4 r5 (fun _ => ⟨rfl, fun _ => rfl⟩) (fun h => by omega) (Nat.le_refl _)
          refine .same hr ?_ hR
          rcases hu with hu | ⟨at', hu, hu'⟩
          · simp [execOp, ho, Instr.sliceAt, run_und hE hu, Instr.sureAddr, ea, r1, (run_sized hE hs w).1, addr_add]
          · simp [execOp, ho, Instr.sliceAt, Instr.slice, run_und hE hu, run_und hE hu', asAddr, ea, r1, (run_sized hE hs w).1, addr_add]
    · cases hx
  · cases hx

omit hr hρ in
/-- What a call of a builtin comes to. -/
theorem run_builtin {c : Call} {b : Builtin} (ho : o.op = .call c) (hc : c.callee = .builtin b) :
    (execOp ρ o).run P w = (builtin b c.argTypes o.type (c.args.map fun | .const _ => true | _ => false) (c.args.map ρ)).run P w := by
  simp only [execOp, ho, resolve, hc, Sem.run_bind, Sem.run_pure, Result.andThen_ok, invoke]
  rfl

omit hr hρ in
theorem args2 {c : Call} {x y : Operand} (h : c.args.toList = [x, y]) : c.args.map ρ = #[ρ x, ρ y] := by
  have : c.args = #[x, y] := by rw [← Array.toArray_toList (xs := c.args), h]
  rw [this]; simp
omit hr hρ in
theorem args1 {c : Call} {x : Operand} (h : c.args.toList = [x]) : c.args.map ρ = #[ρ x] := by
  have : c.args = #[x] := by rw [← Array.toArray_toList (xs := c.args), h]
  rw [this]; simp

omit hr hρ in
theorem ts_get {a : Array TypeId} {t : TypeId} {r : List TypeId} (h : a.toList = t :: r) : a[0]? = some t := by
  rw [← Array.getElem?_toList, h]; rfl
omit hr hρ in
theorem ts_get1 {a : Array TypeId} {t u : TypeId} {r : List TypeId} (h : a.toList = t :: u :: r) : a[1]? = some u := by
  rw [← Array.getElem?_toList, h]; rfl

theorem sim_lenS (hE : EnvOk P E) {c : Call} {x : Operand} {t e : TypeId} (ho : o.op = .call c) (hc : c.callee = .builtin .len) (ha : c.args.toList = [x]) (ht : c.argTypes.toList = [t])
    (hu : und E t = some (.slice e)) (hx : exec (.lenS (opd x)) h tm = .val v h') : Sim1 E w0 φ w h ((execOp ρ o).run P w) v h' := by
  simp only [exec] at hx
  have key : ∀ n : Nat, (∃ a c, ρ x = .slice a n c) → (execOp ρ o).run P w = .ok (.value (goInt n)) w := by
    rintro n ⟨a, k, e1⟩
    rw [run_builtin ho hc, args1 ha, e1]
    simp [builtin, Builtin.len_, ts_get ht, run_und hE hu]
  split at hx
  · rename_i hb
    simp only [R.val.injEq] at hx; obtain ⟨rfl, rfl⟩ := hx
    exact .same (v' := goInt 0) hr (key 0 ⟨_, _, VR.nils_inv (hb ▸ hρ x)⟩) (.int _ _)
  · rename_i b k n cap hb
    obtain ⟨l, off, c', hφ, ea, hle, hor⟩ := VR.slc_inv (hb ▸ hρ x)
    simp only [R.val.injEq] at hx; obtain ⟨rfl, rfl⟩ := hx
    exact .same (v' := goInt n) hr (key n ⟨_, _, ea⟩) (.int _ _)
  · rename_i u hb
    split at hx
    · rename_i a0 n c0
      have e1 : ρ x = .slice a0 n c0 := VR.opq_inv (hb ▸ hρ x)
      simp only [R.val.injEq] at hx; obtain ⟨rfl, rfl⟩ := hx
      exact .same (v' := goInt n) hr (key n ⟨_, _, e1⟩) (.int _ _)
    · cases hx
  · cases hx

theorem sim_lenT (hE : EnvOk P E) {c : Call} {x : Operand} {t : TypeId} (ho : o.op = .call c) (hc : c.callee = .builtin .len) (ha : c.args.toList = [x]) (ht : c.argTypes.toList = [t])
    (hu : und E t = some .string) (hx : exec (.lenT (opd x)) h tm = .val v h') : Sim1 E w0 φ w h ((execOp ρ o).run P w) v h' := by
  simp only [exec] at hx
  split at hx
  · rename_i s hb
    obtain ⟨b, ea, hs⟩ := VR.str_inv (hb ▸ hρ x)
    simp only [R.val.injEq] at hx; obtain ⟨rfl, rfl⟩ := hx
    have hl : b.size = s.length := by rw [← hs, List.length_map]; rfl
    refine .same (v' := goInt s.length) hr ?_ (.int _ _)
    rw [run_builtin ho hc, args1 ha, ea]
    simp [builtin, Builtin.len_, ts_get ht, run_und hE hu, hl]
  · cases hx

theorem sim_capS (hE : EnvOk P E) {c : Call} {x : Operand} {t e : TypeId} (ho : o.op = .call c) (hc : c.callee = .builtin .cap) (ha : c.args.toList = [x]) (ht : c.argTypes.toList = [t])
    (hu : und E t = some (.slice e)) (hx : exec (.capS (opd x)) h tm = .val v h') : Sim1 E w0 φ w h ((execOp ρ o).run P w) v h' := by
  simp only [exec] at hx
  have key : ∀ n : Nat, (∃ a c, ρ x = .slice a c n) → (execOp ρ o).run P w = .ok (.value (goInt n)) w := by
    rintro n ⟨a, k, e1⟩
    rw [run_builtin ho hc, args1 ha, e1]
    simp [builtin, Builtin.cap_, ts_get ht, run_und hE hu]
  split at hx
  · rename_i hb
    simp only [R.val.injEq] at hx; obtain ⟨rfl, rfl⟩ := hx
    exact .same (v' := goInt 0) hr (key 0 ⟨_, _, VR.nils_inv (hb ▸ hρ x)⟩) (.int _ _)
  · rename_i b k n cap hb
    obtain ⟨l, off, c', hφ, ea, hle, hor⟩ := VR.slc_inv (hb ▸ hρ x)
    split at hx
    · cases hx
    · rename_i hn
      have hn : cap < capU := ble_false hn
      simp only [R.val.injEq] at hx; obtain ⟨rfl, rfl⟩ := hx
      have hcc : c' = cap := by
        rcases hor with ⟨_, e, _⟩ | ⟨k, e, _⟩
        · exact e
        · omega
      subst hcc
      exact .same (v' := goInt c') hr (key _ ⟨_, _, ea⟩) (.int _ _)
  · cases hx

omit hr hρ in
theorem ERs.length {l : List AEnt} {l' : List MapEntry} (h : ERs φ l l') : l.length = l'.length := by
  induction h with
  | nil => rfl
  | cons _ _ ih => simp [ih]

omit hρ in
theorem HR.map_at {r : Nat} {l : Loc} {es : List AEnt} {k : Nat} (hφ : φ r = some l) (hb : H.get h r = some (.map es k)) :
    ∃ es' : Array MapEntry, w.heap[l.cb]? = some (.map es' k) ∧ ERs φ es es'.toList := by
  obtain ⟨o, h1, h2⟩ := hr.blk _ _ _ hφ hb
  cases h2 with
  | map h => exact ⟨_, h1, h⟩

theorem sim_lenM (hE : EnvOk P E) {c : Call} {x : Operand} {t a b : TypeId} (ho : o.op = .call c) (hc : c.callee = .builtin .len) (ha : c.args.toList = [x]) (ht : c.argTypes.toList = [t])
    (hu : und E t = some (.map a b)) (hx : exec (.lenM (opd x)) h tm = .val v h') : Sim1 E w0 φ w h ((execOp ρ o).run P w) v h' := by
  simp only [exec] at hx
  split at hx
  · rename_i hb
    simp only [R.val.injEq] at hx; obtain ⟨rfl, rfl⟩ := hx
    refine .same (v' := goInt 0) hr ?_ (.int _ _)
    have ea := VR.nilm_inv (hb ▸ hρ x)
    rw [run_builtin ho hc, args1 ha, ea]
    simp [builtin, Builtin.len_, ts_get ht, run_und hE hu]
  · rename_i r hb
    obtain ⟨l, hφ, ea⟩ := VR.map_inv (hb ▸ hρ x)
    split at hx
    · rename_i es k hg
      simp only [R.val.injEq] at hx; obtain ⟨rfl, rfl⟩ := hx
      obtain ⟨es', h1, h2⟩ := hr.map_at hφ hg
      refine .same (v' := goInt es'.size) hr ?_ ?_
      · rw [run_builtin ho hc, args1 ha, ea]
        simp [builtin, Builtin.len_, ts_get ht, run_und hE hu, getObj, Sem.run, h1]
      · have := h2.length
        simp only [Array.length_toList] at this
        rw [this]; exact .int _ _
    · cases hx
  · cases hx

theorem sim_lenC (hE : EnvOk P E) {c : Call} {x : Operand} {t e : TypeId} {n : Nat} (ho : o.op = .call c) (hc : c.callee = .builtin .len) (ha : c.args.toList = [x]) (ht : c.argTypes.toList = [t])
    (hu : und E t = some (.array n e) ∨ ∃ a, und E t = some (.pointer a) ∧ und E a = some (.array n e)) (hx : exec (.lenC n) h tm = .val v h') : Sim1 E w0 φ w h ((execOp ρ o).run P w) v h' := by
  simp only [exec, R.val.injEq] at hx; obtain ⟨rfl, rfl⟩ := hx
  refine .same (v' := goInt n) hr ?_ (.int _ _)
  rw [run_builtin ho hc, args1 ha]
  rcases hu with hu | ⟨a, hu, hu'⟩
  · simp [builtin, Builtin.len_, ts_get ht, run_und hE hu]
  · simp [builtin, Builtin.len_, ts_get ht, run_und hE hu, run_und hE hu']

omit hr hρ in
theorem maxminV_inv {mx : Bool} {x y u : AV} (h : maxminV mx x y = some u) : ∃ k a b, x = .int k a ∧ y = .int k b ∧ u = .int k (match (match mx with | true => iLt a b | false => iLt b a) with | true => b | false => a) := by
  cases x with
  | int k a => cases y with
    | int j b =>
      cases hk : kEq k j with
      | true =>
        have hk' := kEq_true hk
        subst hk'
        simp only [maxminV, hk, Option.some.injEq] at h
        exact ⟨_, _, _, rfl, rfl, h.symm⟩
      | false => simp [maxminV, hk] at h
    | _ => simp [maxminV] at h
  | _ => simp [maxminV] at h

theorem sim_max {c : Call} {x y : Operand} (ho : o.op = .call c) (hc : c.callee = .builtin .max) (ha : c.args.toList = [x, y])
    (hx : exec (.maxmin true (opd x) (opd y)) h tm = .val v h') : Sim1 E w0 φ w h ((execOp ρ o).run P w) v h' := by
  simp only [exec] at hx
  cases hv : maxminV true (ev tm (opd x)) (ev tm (opd y)) with
  | none => rw [hv] at hx; simp [vo] at hx
  | some u =>
    rw [hv] at hx; simp only [vo, R.val.injEq] at hx; obtain ⟨rfl, rfl⟩ := hx
    obtain ⟨k, a, b, hb, hb', rfl⟩ := maxminV_inv hv
    have e1 := VR.int_inv (hb ▸ hρ x)
    have e2 := VR.int_inv (hb' ▸ hρ y)
    refine .same (v' := .int k (if b > a then b else a)) hr ?_ ?_
    · rw [run_builtin ho hc, args2 ha, e1, e2]
      simp [builtin, Builtin.max_, Builtin.max2]
    · simp only [iLt_eq]
      by_cases hh : a < b
      · simp only [hh, decide_true, if_true]; exact .int _ _
      · simp only [hh, decide_false, if_false]; exact .int _ _

theorem sim_min {c : Call} {x y : Operand} (ho : o.op = .call c) (hc : c.callee = .builtin .min) (ha : c.args.toList = [x, y])
    (hx : exec (.maxmin false (opd x) (opd y)) h tm = .val v h') : Sim1 E w0 φ w h ((execOp ρ o).run P w) v h' := by
  simp only [exec] at hx
  cases hv : maxminV false (ev tm (opd x)) (ev tm (opd y)) with
  | none => rw [hv] at hx; simp [vo] at hx
  | some u =>
    rw [hv] at hx; simp only [vo, R.val.injEq] at hx; obtain ⟨rfl, rfl⟩ := hx
    obtain ⟨k, a, b, hb, hb', rfl⟩ := maxminV_inv hv
    have e1 := VR.int_inv (hb ▸ hρ x)
    have e2 := VR.int_inv (hb' ▸ hρ y)
    refine .same (v' := .int k (if b < a then b else a)) hr ?_ ?_
    · rw [run_builtin ho hc, args2 ha, e1, e2]
      simp [builtin, Builtin.min_, Builtin.min2]
    · simp only [iLt_eq]
      by_cases hh : b < a
      · simp only [hh, decide_true, if_true]; exact .int _ _
      · simp only [hh, decide_false, if_false]; exact .int _ _
end
end Go.Ev

/- One operation that gives a value. Part 7: append, copy. -/
namespace Go.Ev

section
variable {P : Program} {E : Env} {w0 : Array Obj} {φ : Phi} {h h' : H} {w : World} {tm : T AV} {ρ : Operand → Value} {o : Oper} {v : AV}

/-- A block takes a new name, and shows from a place on. -/
theorem HR.rename (hr : HR E w0 φ h w.heap) {b off k : Nat} {c : T AV} {l : Loc} {xs : List AV} {cs' : Array Value} {e : TypeId} (hφ : φ b = some l) (hb : H.get h b = some (.cells false k c))
    (hs : cs'.size = l.csz) (hn : off + xs.length ≤ cs'.size) (hv : ∀ i v, xs[i]? = some v → ∃ v', cs'[off + i]? = some v' ∧ VR φ v v') :
    Phi.le φ (φ.upd h.n ⟨l.cb, off, l.csz⟩) ∧ HR E w0 (φ.upd h.n ⟨l.cb, off, l.csz⟩) (Ev.newCells (H.del h b) xs) (w.heap.setIfInBounds l.cb (.cells cs' e (0, 0))) := by
  have hle : Phi.le φ (φ.upd h.n ⟨l.cb, off, l.csz⟩) := Phi.le_upd _ hr.fresh
  have hbn := hr.bound _ _ hφ
  have hcb := hr.cbound _ _ hφ
  have hown := hr.own _ _ _ hφ hb rfl
  have ex : ∀ {d : Nat} {z : Blk}, d ≠ h.n → H.get (Ev.newCells (H.del h b) xs) d = some z → H.get h d = some z ∧ d ≠ b := by
    intro d z hd hz
    unfold Ev.newCells at hz
    rw [H.get_new, if_neg (by rw [H.n_del]; exact hd), H.get_del] at hz
    by_cases e : d = b
    · rw [if_pos e] at hz; cases hz
    · rw [if_neg e] at hz; exact ⟨hz, e⟩
  have en : H.get (Ev.newCells (H.del h b) xs) h.n = some (.cells false xs.length (ofL 0 .leaf xs)) := by
    unfold Ev.newCells; rw [H.get_new, if_pos (H.n_del h b).symm]
  refine ⟨hle, ?_, ?_, ?_, ?_, ?_, ?_, ?_⟩
  · intro d k' hd
    show d < h.n + 1
    by_cases e : d = h.n
    · omega
    · rw [Phi.upd_ne _ _ e] at hd; have := hr.bound _ _ hd; omega
  · intro d k' hd
    by_cases e : d = h.n
    · subst e; rw [Phi.upd_same] at hd; cases hd; simpa using hcb
    · rw [Phi.upd_ne _ _ e] at hd; simpa using hr.cbound _ _ hd
  · intro d k' z hd hz
    by_cases e : d = h.n
    · subst e
      rw [Phi.upd_same] at hd; cases hd
      rw [en] at hz; cases hz
      refine ⟨.cells cs' e (0, 0), by simp [Array.getElem?_setIfInBounds, hcb], .cells (fun _ => rfl) hs hn fun i v hi hg => ?_⟩
      rw [ofL_get, if_pos (by omega), Nat.sub_zero] at hg
      obtain ⟨v', h1, h2⟩ := hv i v hg
      exact ⟨v', h1, h2.mono hle⟩
    · rw [Phi.upd_ne _ _ e] at hd
      obtain ⟨hz, hdb⟩ := ex e hz
      obtain ⟨p, h1, h2⟩ := hr.blk _ _ _ hd hz
      have hne : l.cb ≠ k'.cb := fun e' => hdb (hr.inj _ _ _ _ _ _ hφ hd hb hz rfl e').symm
      exact ⟨p, by rw [Array.getElem?_setIfInBounds, if_neg hne]; exact h1, h2.mono hle⟩
  · intro d d' k1 k2 z z' hd hd' hz hz' hr1 he
    by_cases e : d = h.n
    · by_cases e' : d' = h.n
      · rw [e, e']
      · subst e
        rw [Phi.upd_same] at hd; cases hd
        rw [Phi.upd_ne _ _ e'] at hd'
        obtain ⟨hz', hdb⟩ := ex e' hz'
        exact absurd (hr.inj _ _ _ _ _ _ hφ hd' hb hz' rfl he).symm hdb
    · by_cases e' : d' = h.n
      · subst e'
        rw [Phi.upd_same] at hd'; cases hd'
        rw [Phi.upd_ne _ _ e] at hd
        obtain ⟨hz, hdb⟩ := ex e hz
        exact absurd (hr.inj _ _ _ _ _ _ hd hφ hz hb hr1 he) hdb
      · rw [Phi.upd_ne _ _ e] at hd
        rw [Phi.upd_ne _ _ e'] at hd'
        exact hr.inj _ _ _ _ _ _ hd hd' (ex e hz).1 (ex e' hz').1 hr1 he
  · intro d k' z hd hz hr1
    by_cases e : d = h.n
    · subst e; rw [Phi.upd_same] at hd; cases hd; exact hown
    · rw [Phi.upd_ne _ _ e] at hd; exact hr.own _ _ _ hd (ex e hz).1 hr1
  · intro c hc
    rw [← hr.old c hc, Array.getElem?_setIfInBounds, if_neg]
    have := hr.own _ _ _ hφ hb rfl; omega
  · simpa using hr.size

theorem grow_bounds {sLen n sCap bytes : Nat} (hlt : sCap < sLen + n) (hb : (sLen + n) * (bytes + 1) ≤ 1099511627776) :
    ¬ (281474976710656 < Builtin.nextslicecap (sLen + n) sCap * bytes) ∧ ¬ (9223372036854775807 < ((sLen : Int) + (n : Int))) := by
  have hle1 : sLen + n ≤ 1099511627776 := Nat.le_trans (Nat.le_mul_of_pos_right _ (Nat.succ_pos _)) hb
  have hb1 : (sLen + n) * bytes ≤ 1099511627776 := Nat.le_trans (Nat.mul_le_mul_left _ (Nat.le_succ _)) hb
  have hfit := growslice_fits (need := sLen + n) (old := sCap) (bytes := bytes) hlt (by omega)
  exact ⟨by omega, by omega⟩

section
variable {t u ty e : TypeId} {d : TypeDesc} {i : TypeInfo} {base : Option Addr} {sLen sCap n : Nat} {x : Value} {new old : Array Value}
variable (hE : EnvOk P E) (ht : und E t = some (.slice e)) (hu : und E u = some d) (hd : d = .string ∨ ∃ e', d = .slice e') (hi : Ev.inf E e = some i)
include hE ht hu hi

include hd in
theorem app_room (hn : (Builtin.lenOf x).run P w = .ok n w) (h1 : (Builtin.firstCells i.size n x).run P w = .ok new w) (hle : sLen + n ≤ sCap)
    {w' : World} (hs : ∀ a, base = some a → (storeCells (a.add (sLen * i.size)) new.toList).run P w = .ok () w') (hw : base = none → w' = w) :
    (Builtin.append_ #[t, u] ty #[.slice base sLen sCap, x]).run P w =
      .ok (.slice base (sLen + n) sCap) w' := by
  rcases hd with rfl | ⟨e', rfl⟩
  · cases base with
    | none => rw [hw rfl]; simp [Builtin.append_, run_und hE ht, run_und hE hu, run_size hE hi, hn, hle, h1]
    | some a => simp [Builtin.append_, run_und hE ht, run_und hE hu, run_size hE hi, hn, hle, h1, hs a rfl]
  · cases base with
    | none => rw [hw rfl]; simp [Builtin.append_, run_und hE ht, run_und hE hu, run_size hE hi, hn, hle, h1]
    | some a => simp [Builtin.append_, run_und hE ht, run_und hE hu, run_size hE hi, hn, hle, h1, hs a rfl]

include hd in
theorem app_grow {z : Value} (hz : (zeroValue e).run P w.drew = .ok z w.drew) (hn : (Builtin.lenOf x).run P w = .ok n w) (h1 : (Builtin.firstCells i.size n x).run P w.drew = .ok new w.drew)
    (ho : (Builtin.firstCells i.size sLen (.slice base sLen sCap)).run P w.drew = .ok old w.drew) (hlt : sCap < sLen + n) (hb : (sLen + n) * (i.bytes + 1) ≤ 1099511627776) :
    (Builtin.append_ #[t, u] ty #[.slice base sLen sCap, x]).run P w = .ok (.slice (some ⟨w.heap.size, 0, none⟩) (sLen + n) (grownCap w (sLen + n) sCap e))
      (w.drew.alloc (.cells (old ++ (new ++ Builtin.zeroCells z.cells (grownCap w (sLen + n) sCap e - (sLen + n)))) e)) := by
  obtain ⟨h48', h63'⟩ := grow_bounds hlt hb
  have hle : ¬ (sLen + n ≤ sCap) := by omega
  rcases hd with rfl | ⟨e', rfl⟩
  · simp [Builtin.append_, run_und hE ht, run_und hE hu, run_size hE hi, run_info hE hi, hn, hle, h1, hz, ho, h63', h48', Question.forced, newRow, grownCap]
  · simp [Builtin.append_, run_und hE ht, run_und hE hu, run_size hE hi, run_info hE hi, hn, hle, h1, hz, ho, h63', h48', Question.forced, newRow, grownCap]

/-- What is appended of zeros. -/
def zerosC (z : Value) (size n : Nat) : Array Value := if n * size = 0 then #[] else Builtin.zeroCells z.cells n

theorem appZ_room {k j : IntKind} (hd : d = .int k) (hx : x = .int j (n : Int)) {z : Value} (hz : ∀ w, (zeroValue e).run P w = .ok z w) (hn : n ≤ 281474976710656) (hnb : n * i.bytes ≤ 281474976710656) (hle : sLen + n ≤ sCap)
    {w' : World} (hs : ∀ a, base = some a → (storeCells (a.add (sLen * i.size)) (zerosC z i.size n).toList).run P w = .ok () w') (hw : base = none → w' = w) :
    (Builtin.append_ #[t, u] ty #[.slice base sLen sCap, x]).run P w =
      .ok (.slice base (sLen + n) sCap) w' := by
  subst hd hx
  have hwr : IntKind.i64.wrap (n : Int) = n := by
    have h : (n : Int) % (2 ^ IntKind.i64.bits : Int) = n := Int.emod_eq_of_lt (by omega) (by simp [IntKind.bits]; omega)
    unfold IntKind.wrap
    rw [h]
    have : ¬ ((n : Int) ≥ 2 ^ (IntKind.i64.bits - 1)) := by simp [IntKind.bits]; omega
    simp [IntKind.signed, this]
  have hnn : ¬ ((n : Int) < 0) := by omega
  have hnb' : ¬ (281474976710656 < (n : Int) * (i.bytes : Int)) := by rw [← Int.natCast_mul]; omega
  by_cases h0 : n * i.size = 0
  · cases base with
    | none => rw [hw rfl]; simp [Builtin.append_, run_und hE ht, run_und hE hu, run_size hE hi, run_info hE hi, asInt, asIntOf, hwr, hnn, hnb', h0, hle, hz, zerosC]
    | some a =>
      have hs := hs a rfl
      simp only [zerosC, h0, if_true, if_false] at hs
      simp [Builtin.append_, run_und hE ht, run_und hE hu, run_size hE hi, run_info hE hi, asInt, asIntOf, hwr, hnn, hnb', h0, hle, hz, hs]
  · cases base with
    | none => rw [hw rfl]; simp [Builtin.append_, run_und hE ht, run_und hE hu, run_size hE hi, run_info hE hi, asInt, asIntOf, hwr, hnn, hnb', h0, hle, hz, zerosC]
    | some a =>
      have hs := hs a rfl
      simp only [zerosC, h0, if_true, if_false] at hs
      simp [Builtin.append_, run_und hE ht, run_und hE hu, run_size hE hi, run_info hE hi, asInt, asIntOf, hwr, hnn, hnb', h0, hle, hz, hs]

theorem appZ_grow {k j : IntKind} (hd : d = .int k) (hx : x = .int j (n : Int)) {z : Value} (hz : ∀ w, (zeroValue e).run P w = .ok z w) (hn : n ≤ 281474976710656) (hnb : n * i.bytes ≤ 281474976710656)
    (ho : (Builtin.firstCells i.size sLen (.slice base sLen sCap)).run P w.drew = .ok old w.drew) (hlt : sCap < sLen + n) (hb : (sLen + n) * (i.bytes + 1) ≤ 1099511627776) :
    (Builtin.append_ #[t, u] ty #[.slice base sLen sCap, x]).run P w = .ok (.slice (some ⟨w.heap.size, 0, none⟩) (sLen + n) (grownCap w (sLen + n) sCap e))
      (w.drew.alloc (.cells (old ++ (zerosC z i.size n ++ Builtin.zeroCells z.cells (grownCap w (sLen + n) sCap e - (sLen + n)))) e)) := by
  obtain ⟨h48', h63'⟩ := grow_bounds hlt hb
  have hle : ¬ (sLen + n ≤ sCap) := by omega
  subst hd hx
  have hwr : IntKind.i64.wrap (n : Int) = n := by
    have h : (n : Int) % (2 ^ IntKind.i64.bits : Int) = n := Int.emod_eq_of_lt (by omega) (by simp [IntKind.bits]; omega)
    unfold IntKind.wrap
    rw [h]
    have : ¬ ((n : Int) ≥ 2 ^ (IntKind.i64.bits - 1)) := by simp [IntKind.bits]; omega
    simp [IntKind.signed, this]
  have hnn : ¬ ((n : Int) < 0) := by omega
  have hnb' : ¬ (281474976710656 < (n : Int) * (i.bytes : Int)) := by rw [← Int.natCast_mul]; omega
  by_cases h0 : n * i.size = 0
  · simp [Builtin.append_, run_und hE ht, run_und hE hu, run_size hE hi, run_info hE hi, asInt, asIntOf, hwr, hnn, hnb', h0, hle, hz, ho, h63', h48', Question.forced, newRow, grownCap, zerosC]
  · simp [Builtin.append_, run_und hE ht, run_und hE hu, run_size hE hi, run_info hE hi, asInt, asIntOf, hwr, hnn, hnb', h0, hle, hz, ho, h63', h48', Question.forced, newRow, grownCap, zerosC]
end
end
end Go.Ev

