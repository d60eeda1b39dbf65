/-
  For every geometry, every list of steps and every number of rounds, RecoveryPages returns true and leaves its arguments alone.
  Its conditions: none beyond the row's own. The layer's examples (works) are run by the abstract machine; the law's own road is walked for all inputs by a logic over that machine.
-/
import Derived.Test.YtclfgfpebplncaaGreatRows
import Derived.Test.YtclfgfpebplncaaGreatRunE
import Derived.Test.YtclfgfpebplncaaGreatLe
import Derived.Test.YtclfgfpebplncaaGreatOp
import Derived.WalkKit
import Derived.ProofKit
import Derived.OpenShut
import Derived.Below
import Derived.ChangeSame
import Derived.WideKeyArgs
set_option linter.unusedVariables false
set_option maxRecDepth 1000000
namespace Go.Proofs.YtclfgfpebplncaaGreat.recoveryPages
open Go.ChangeShapes Go.WideShapes Go.ChangeAt Go.RowKit Go.Ev Go.Proofs.YtclfgfpebplncaaGreat.evRun

theorem own : ownKnob Tryz.prog.godebug = none := by kernel_rfl
theorem laid : laidOutB Tryz.prog = true := by kernel_rfl

/-! ### the tables -/
theorem x4 : T.get FF 4 = some cf4 := by kernel_rfl
theorem y4 : T.get KW 4 = none := by kernel_rfl
theorem x6 : T.get FF 6 = some cf6 := by kernel_rfl
theorem y6 : T.get KW 6 = none := by kernel_rfl
theorem x8 : T.get FF 8 = some cf8 := by kernel_rfl
theorem y8 : T.get KW 8 = none := by kernel_rfl
theorem x9 : T.get FF 9 = some cf9 := by kernel_rfl
theorem y9 : T.get KW 9 = none := by kernel_rfl
theorem x10 : T.get FF 10 = some cf10 := by kernel_rfl
theorem y10 : T.get KW 10 = none := by kernel_rfl
theorem x11 : T.get FF 11 = some cf11 := by kernel_rfl
theorem y11 : T.get KW 11 = none := by kernel_rfl
theorem x12 : T.get FF 12 = some cf12 := by kernel_rfl
theorem y12 : T.get KW 12 = none := by kernel_rfl
theorem x13 : T.get FF 13 = some cf13 := by kernel_rfl
theorem y13 : T.get KW 13 = none := by kernel_rfl
theorem x19 : T.get FF 19 = some cf19 := by kernel_rfl
theorem y19 : T.get KW 19 = none := by kernel_rfl
theorem x20 : T.get FF 20 = some cf20 := by kernel_rfl
theorem y20 : T.get KW 20 = none := by kernel_rfl
theorem x21 : T.get FF 21 = some cf21 := by kernel_rfl
theorem y21 : T.get KW 21 = none := by kernel_rfl
theorem x23 : T.get FF 23 = some cf23 := by kernel_rfl
theorem y23 : T.get KW 23 = none := by kernel_rfl
theorem x29 : T.get FF 29 = some cf29 := by kernel_rfl
theorem y29 : T.get KW 29 = none := by kernel_rfl
theorem x34 : T.get FF 34 = some cf34 := by kernel_rfl
theorem y34 : T.get KW 34 = none := by kernel_rfl
theorem x36 : T.get FF 36 = some cf36 := by kernel_rfl
theorem y36 : T.get KW 36 = none := by kernel_rfl
theorem x37 : T.get FF 37 = some cf37 := by kernel_rfl
theorem y37 : T.get KW 37 = none := by kernel_rfl
theorem x38 : T.get FF 38 = some cf38 := by kernel_rfl
theorem y38 : T.get KW 38 = none := by kernel_rfl
theorem x39 : T.get FF 39 = some cf39 := by kernel_rfl
theorem y39 : T.get KW 39 = none := by kernel_rfl
theorem x40 : T.get FF 40 = some cf40 := by kernel_rfl
theorem y40 : T.get KW 40 = none := by kernel_rfl
theorem x41 : T.get FF 41 = some cf41 := by kernel_rfl
theorem y41 : T.get KW 41 = none := by kernel_rfl
theorem x42 : T.get FF 42 = some cf42 := by kernel_rfl
theorem y42 : T.get KW 42 = none := by kernel_rfl
theorem x43 : T.get FF 43 = some cf43 := by kernel_rfl
theorem y43 : T.get KW 43 = none := by kernel_rfl
theorem x44 : T.get FF 44 = some cf44 := by kernel_rfl
theorem y44 : T.get KW 44 = none := by kernel_rfl
theorem x45 : T.get FF 45 = some cf45 := by kernel_rfl
theorem y45 : T.get KW 45 = none := by kernel_rfl
theorem x46 : T.get FF 46 = some cf46 := by kernel_rfl
theorem y46 : T.get KW 46 = none := by kernel_rfl
theorem x47 : T.get FF 47 = some cf47 := by kernel_rfl
theorem y47 : T.get KW 47 = none := by kernel_rfl
theorem x48 : T.get FF 48 = some cf48 := by kernel_rfl
theorem y48 : T.get KW 48 = none := by kernel_rfl
theorem x49 : T.get FF 49 = some cf49 := by kernel_rfl
theorem y49 : T.get KW 49 = none := by kernel_rfl
theorem x51 : T.get FF 51 = some cf51 := by kernel_rfl
theorem y51 : T.get KW 51 = none := by kernel_rfl
theorem x54 : T.get FF 54 = some cf54 := by kernel_rfl
theorem y54 : T.get KW 54 = none := by kernel_rfl
theorem x61 : T.get FF 61 = some cf61 := by kernel_rfl
theorem y61 : T.get KW 61 = none := by kernel_rfl
theorem x67 : T.get FF 67 = some cf67 := by kernel_rfl
theorem y67 : T.get KW 67 = none := by kernel_rfl
theorem x70 : T.get FF 70 = some cf70 := by kernel_rfl
theorem y70 : T.get KW 70 = none := by kernel_rfl
theorem x71 : T.get FF 71 = some cf71 := by kernel_rfl
theorem y71 : T.get KW 71 = none := by kernel_rfl
theorem x72 : T.get FF 72 = some cf72 := by kernel_rfl
theorem y72 : T.get KW 72 = none := by kernel_rfl
theorem x73 : T.get FF 73 = some cf73 := by kernel_rfl
theorem y73 : T.get KW 73 = none := by kernel_rfl
theorem x74 : T.get FF 74 = some cf74 := by kernel_rfl
theorem y74 : T.get KW 74 = none := by kernel_rfl
theorem x75 : T.get FF 75 = some cf75 := by kernel_rfl
theorem y75 : T.get KW 75 = none := by kernel_rfl
theorem x76 : T.get FF 76 = some cf76 := by kernel_rfl
theorem y76 : T.get KW 76 = none := by kernel_rfl
theorem x96 : T.get FF 96 = some cf96 := by kernel_rfl
theorem y96 : T.get KW 96 = none := by kernel_rfl
theorem x97 : T.get FF 97 = some cf97 := by kernel_rfl
theorem y97 : T.get KW 97 = none := by kernel_rfl
theorem x98 : T.get FF 98 = some cf98 := by kernel_rfl
theorem y98 : T.get KW 98 = none := by kernel_rfl
theorem x99 : T.get FF 99 = some cf99 := by kernel_rfl
theorem y99 : T.get KW 99 = none := by kernel_rfl
theorem x100 : T.get FF 100 = some cf100 := by kernel_rfl
theorem y100 : T.get KW 100 = none := by kernel_rfl
theorem x101 : T.get FF 101 = some cf101 := by kernel_rfl
theorem y101 : T.get KW 101 = none := by kernel_rfl
theorem x102 : T.get FF 102 = some cf102 := by kernel_rfl
theorem y102 : T.get KW 102 = none := by kernel_rfl
theorem x103 : T.get FF 103 = some cf103 := by kernel_rfl
theorem y103 : T.get KW 103 = none := by kernel_rfl
theorem x104 : T.get FF 104 = some cf104 := by kernel_rfl
theorem y104 : T.get KW 104 = none := by kernel_rfl
theorem x105 : T.get FF 105 = some cf105 := by kernel_rfl
theorem y105 : T.get KW 105 = none := by kernel_rfl
theorem x106 : T.get FF 106 = some cf106 := by kernel_rfl
theorem y106 : T.get KW 106 = none := by kernel_rfl
theorem x107 : T.get FF 107 = some cf107 := by kernel_rfl
theorem y107 : T.get KW 107 = none := by kernel_rfl
theorem x108 : T.get FF 108 = some cf108 := by kernel_rfl
theorem y108 : T.get KW 108 = none := by kernel_rfl
theorem x109 : T.get FF 109 = some cf109 := by kernel_rfl
theorem y109 : T.get KW 109 = none := by kernel_rfl
theorem x122 : T.get FF 122 = some cf122 := by kernel_rfl
theorem y122 : T.get KW 122 = none := by kernel_rfl
theorem x123 : T.get FF 123 = some cf123 := by kernel_rfl
theorem y123 : T.get KW 123 = none := by kernel_rfl
theorem x124 : T.get FF 124 = some cf124 := by kernel_rfl
theorem y124 : T.get KW 124 = none := by kernel_rfl
theorem x125 : T.get FF 125 = some cf125 := by kernel_rfl
theorem y125 : T.get KW 125 = none := by kernel_rfl
theorem x126 : T.get FF 126 = some cf126 := by kernel_rfl
theorem y126 : T.get KW 126 = none := by kernel_rfl
theorem x145 : T.get FF 145 = some cf145 := by kernel_rfl
theorem y145 : T.get KW 145 = none := by kernel_rfl
theorem x146 : T.get FF 146 = some cf146 := by kernel_rfl
theorem y146 : T.get KW 146 = none := by kernel_rfl
theorem x147 : T.get FF 147 = some cf147 := by kernel_rfl
theorem y147 : T.get KW 147 = none := by kernel_rfl
theorem x148 : T.get FF 148 = some cf148 := by kernel_rfl
theorem y148 : T.get KW 148 = none := by kernel_rfl
theorem x149 : T.get FF 149 = some cf149 := by kernel_rfl
theorem y149 : T.get KW 149 = none := by kernel_rfl
theorem x150 : T.get FF 150 = some cf150 := by kernel_rfl
theorem y150 : T.get KW 150 = none := by kernel_rfl
theorem x151 : T.get FF 151 = some cf151 := by kernel_rfl
theorem y151 : T.get KW 151 = none := by kernel_rfl
theorem x152 : T.get FF 152 = some cf152 := by kernel_rfl
theorem y152 : T.get KW 152 = none := by kernel_rfl
theorem x153 : T.get FF 153 = some cf153 := by kernel_rfl
theorem y153 : T.get KW 153 = none := by kernel_rfl
theorem x154 : T.get FF 154 = some cf154 := by kernel_rfl
theorem y154 : T.get KW 154 = none := by kernel_rfl
theorem x155 : T.get FF 155 = some cf155 := by kernel_rfl
theorem y155 : T.get KW 155 = none := by kernel_rfl
theorem x156 : T.get FF 156 = some cf156 := by kernel_rfl
theorem y156 : T.get KW 156 = none := by kernel_rfl
theorem x157 : T.get FF 157 = some cf157 := by kernel_rfl
theorem y157 : T.get KW 157 = none := by kernel_rfl
theorem x158 : T.get FF 158 = some cf158 := by kernel_rfl
theorem y158 : T.get KW 158 = none := by kernel_rfl
theorem x159 : T.get FF 159 = some cf159 := by kernel_rfl
theorem y159 : T.get KW 159 = none := by kernel_rfl
theorem x160 : T.get FF 160 = some cf160 := by kernel_rfl
theorem y160 : T.get KW 160 = none := by kernel_rfl
theorem x177 : T.get FF 177 = some cf177 := by kernel_rfl
theorem y177 : T.get KW 177 = none := by kernel_rfl
theorem x200 : T.get FF 200 = some cf200 := by kernel_rfl
theorem y200 : T.get KW 200 = none := by kernel_rfl
theorem x201 : T.get FF 201 = some cf201 := by kernel_rfl
theorem y201 : T.get KW 201 = none := by kernel_rfl
theorem x202 : T.get FF 202 = some cf202 := by kernel_rfl
theorem y202 : T.get KW 202 = none := by kernel_rfl
theorem x203 : T.get FF 203 = some cf203 := by kernel_rfl
theorem y203 : T.get KW 203 = none := by kernel_rfl
theorem x204 : T.get FF 204 = some cf204 := by kernel_rfl
theorem y204 : T.get KW 204 = none := by kernel_rfl
theorem x205 : T.get FF 205 = some cf205 := by kernel_rfl
theorem y205 : T.get KW 205 = none := by kernel_rfl
theorem x222 : T.get FF 222 = some cf222 := by kernel_rfl
theorem y222 : T.get KW 222 = none := by kernel_rfl
theorem x223 : T.get FF 223 = some cf223 := by kernel_rfl
theorem y223 : T.get KW 223 = none := by kernel_rfl
theorem x224 : T.get FF 224 = some cf224 := by kernel_rfl
theorem y224 : T.get KW 224 = none := by kernel_rfl
theorem x225 : T.get FF 225 = some cf225 := by kernel_rfl
theorem y225 : T.get KW 225 = none := by kernel_rfl
theorem x243 : T.get FF 243 = some cf243 := by kernel_rfl
theorem y243 : T.get KW 243 = none := by kernel_rfl
theorem x256 : T.get FF 256 = some cf256 := by kernel_rfl
theorem y256 : T.get KW 256 = none := by kernel_rfl
theorem x257 : T.get FF 257 = some cf257 := by kernel_rfl
theorem y257 : T.get KW 257 = none := by kernel_rfl
theorem x258 : T.get FF 258 = some cf258 := by kernel_rfl
theorem y258 : T.get KW 258 = none := by kernel_rfl
theorem xx : Fx FF KW := ⟨x4, y4, x6, y6, x8, y8, x9, y9, x10, y10, x11, y11, x12, y12, x13, y13, x19, y19, x20, y20, x21, y21, x23, y23, x29, y29, x34, y34, x36, y36, x37, y37, x38, y38, x39, y39, x40, y40, x41, y41, x42, y42, x43, y43, x44, y44, x45, y45, x46, y46, x47, y47, x48, y48, x49, y49, x51, y51, x54, y54, x61, y61, x67, y67, x70, y70, x71, y71, x72, y72, x73, y73, x74, y74, x75, y75, x76, y76, x96, y96, x97, y97, x98, y98, x99, y99, x100, y100, x101, y101, x102, y102, x103, y103, x104, y104, x105, y105, x106, y106, x107, y107, x108, y108, x109, y109, x122, y122, x123, y123, x124, y124, x125, y125, x126, y126, x145, y145, x146, y146, x147, y147, x148, y148, x149, y149, x150, y150, x151, y151, x152, y152, x153, y153, x154, y154, x155, y155, x156, y156, x157, y157, x158, y158, x159, y159, x160, y160, x177, y177, x200, y200, x201, y201, x202, y202, x203, y203, x204, y204, x205, y205, x222, y222, x223, y223, x224, y224, x225, y225, x243, y243, x256, y256, x257, y257, x258, y258⟩
theorem lg : Lg Tryz.prog EE FF KW := ⟨hE, hT, hW⟩
theorem tabEq : tabV = .agg Go.Ev.tabA := by kernel_rfl
theorem memT : memo KW 254 [.fn (.func 255) [] []] = some tabV := by kernel_rfl
theorem memW : memo KW 7 [] = some (.bool true) := by kernel_rfl
theorem is254 : (T.get FF 254).isSome = true := by kernel_rfl
theorem is7 : (T.get FF 7).isSome = true := by kernel_rfl
theorem tb : Tb Tryz.prog EE FF KW := ⟨fun h => by
  obtain ⟨g, hg⟩ := Option.isSome_iff_exists.1 is254
  have := ct_memo (P := Tryz.prog) (E := EE) hg memT h
  rw [tabEq] at this
  exact this⟩
theorem wk : Wk Tryz.prog EE FF KW := ⟨fun h => by
  obtain ⟨g, hg⟩ := Option.isSome_iff_exists.1 is7
  exact ct_memo hg memW h⟩

/-! ### the law's own road -/
theorem walk {W : World} {g0 g1 g2 g3 many : Int} {v1 : Value} {h0 : H} {φ : Phi} {av : AV} {l : List (St × AV)} (hv : VR φ av v1) (hr : HR EE W.heap φ h0 W.heap) (st : StR (fun _ => 0) h0 av l) :
    Calls Tryz.prog 4 #[.agg #[.int .i64 g0, .int .i64 g1, .int .i64 g2, .int .i64 g3], v1, .int .i64 many] W fun e W' => e = .returned (.bool true) ∧ Below W.heap.size W W' := by
  refine calls_from (args := [.agg (geoI g0 g1 g2 g3), av, .int .i64 many]) (h0 := h0) (φ := φ) hT x4 rfl (law_good (κ := fun _ => 0) (h := h0) (g0 := g0) (g1 := g1) (g2 := g2) (g3 := g3) (many := many) (v := av) (l := l) lg xx tb wk st fun _ _ => rfl)
    (.cons (.agg (.cons (.int _ _) (.cons (.int _ _) (.cons (.int _ _) (.cons (.int _ _) .nil))))) (.cons hv (.cons (.int _ _) .nil))) W hr fun fn v h φ' v' w' q hv' hw => ?_
  obtain ⟨rfl, rfl⟩ := q
  have := hv'.bool_inv
  subst this
  exact ⟨rfl, rfl, ⟨hw.like.os, hw.like.tape, hw.like.output, hw.hr.size, fun k hk => hw.hr.old k hk⟩⟩

theorem ty : TyR Tryz.prog where
  u3 := Tryz.underlying3
  c3 := by kernel_rfl
  u4 := Tryz.underlying4
  c4 := by kernel_rfl
  u5 := Tryz.underlying5
  c5 := by kernel_rfl
  u42 := Tryz.underlying42
  c42 := by kernel_rfl
  u60 := Tryz.underlying60
  c60 := by kernel_rfl
  u41 := Tryz.underlying41
  c41 := by kernel_rfl
  u24 := Tryz.underlying24
  u97 := ⟨_, Tryz.underlying97, by kernel_rfl⟩
  c97 := by kernel_rfl
  u62 := ⟨_, Tryz.underlying62, by kernel_rfl⟩
  c62 := by kernel_rfl
  u91 := ⟨_, Tryz.underlying91, by kernel_rfl⟩
  c91 := by kernel_rfl

theorem lifted (os : Os) (started : os.Started) (H1 : Type) (enc : TypeId × Value → H1) :
    ReturnsInHanded {} Tryz.checked os 4 .any (Rows.recoveryPagesSpec.pre6 enc Tryz.prog Tryz.f4 Rows.recoveryPagesRow.domain false) (Rows.recoveryPagesSpec.post enc Tryz.prog Tryz.f4 false true false false) := by
  refine returnsInHanded_of_change (C := Tryz.checked) own started (by kernel_rfl) Tryz.func4
    (ChangeSpec.witness6 (enc := enc) (C := Tryz.checked) false ⟨#[], #[.agg #[.int .i64 0, .int .i64 0, .int .i64 0, .int .i64 0], .slice none 0 0, .int .i64 0], []⟩ 8 (by kernel_rfl) (by kernel_rfl) (by kernel_rfl) (by kernel_rfl)) ?_
  intro W base args ds gs before hval0 hW hcnd _
  have hval : ∀ (j : Nat) t v, Tryz.f4.params[j]? = some t → args[j]? = some v → Value.okWide Tryz.prog W .any base t v := hval0
  have hW' := hW
  obtain ⟨p, q, hA0, hV, rfl, hfz, hnd⟩ := hW
  have hA : DataW.TrodAll enc Tryz.prog W 0 (fun _ => true) true Tryz.f4.params.toList args.toList ds p := hA0
  rw [Tryz.params4] at hA hval
  obtain ⟨v0, vs0, d0, ds0, p0, q0, hargs, rfl, rfl, h0, r0⟩ := trodAll_cons hA
  obtain ⟨v1, vs1, d1, ds1, p1, q1, rfl, rfl, rfl, h1, r1⟩ := trodAll_cons r0
  obtain ⟨v2, vs2, d2, ds2, p2, q2, rfl, rfl, rfl, h2, r2⟩ := trodAll_cons r1
  obtain ⟨rfl, rfl, rfl⟩ := trodAll_nil r2
  obtain rfl : args = #[v0, v1, v2] := by cases args; simp_all
  obtain ⟨rfl, rfl⟩ := trodVars_none hV
  have hv0 := hval 0 23 v0 rfl rfl
  have hv1 := hval 1 24 v1 rfl rfl
  have k0 := h0
  have k1 := h1
  have k2 := h2
  obtain ⟨a2, rfl, rfl, rfl, w2⟩ := open_int Tryz.underlying3 (hval 2 3 v2 rfl rfl) h2
  clear hA0 hval0
  obtain ⟨n0, t0⟩ := h0
  obtain ⟨n1, t1⟩ := h1
  simp only [Value.okWide, Tryz.underlying23] at hv0
  obtain ⟨c0, rfl, -, -⟩ := hv0
  obtain ⟨g0, g1, g2, g3, hc0⟩ := geo_open Tryz.underlying3 ty.c3 (by kernel_rfl) ⟨_, Tryz.underlying23, by kernel_rfl⟩ t0
  have hc0 : c0.toList = [.int .i64 g0, .int .i64 g1, .int .i64 g2, .int .i64 g3] := hc0
  obtain rfl : c0 = #[.int .i64 g0, .int .i64 g1, .int .i64 g2, .int .i64 g3] := by
    rw [← Array.toList_inj]; exact hc0
  obtain ⟨hcells, hform⟩ := slice_form Tryz.underlying24 hv1
  rw [hcells] at t1
  obtain ⟨hh, φ, av, l, s1, s2, s3⟩ := steps_open (E := EE) ty t1 hform
  refine (walk s1 s2 s3).mono fun e W' ⟨he, hg⟩ => ?_
  subst he
  have hlt : ∀ x ∈ p0 ++ (p1 ++ ([] ++ [])) ++ [], x.block < W.heap.size := fun x hx => hW'.lt x hx
  have same0 : ∀ x ∈ p0, W.sameAt W' x := fun x hx => hg.same (hlt x (by simp [hx]))
  have same1 : ∀ x ∈ p1, W.sameAt W' x := fun x hx => hg.same (hlt x (by simp [hx]))
  have in0 : ∀ x ∈ p0, (fun b => decide (b < W.heap.size)) x.block = true := fun x hx => by simpa using hlt x (by simp [hx])
  have in1 : ∀ x ∈ p1, (fun b => decide (b < W.heap.size)) x.block = true := fun x hx => by simpa using hlt x (by simp [hx])
  refine ⟨_, rfl, _, [], _, [], p0 ++ (p1 ++ ([] ++ [])), [], hW', trodAll_cons_mk (shut_bool Tryz.underlying4 _) trodAll_mk0, ?_, rfl, hg.frame _, fun q => by cases q⟩
  exact ⟨p0, p1 ++ ([] ++ []), WideElems.Trod_stays laid (by kernel_rfl) (of_decide_eq_true (by kernel_rfl)) k0 same0 in0,
    ⟨p1, [] ++ [], WideElems.Trod_stays laid (by kernel_rfl) (of_decide_eq_true (by kernel_rfl)) k1 same1 in1,
      ⟨[], [], shut_int Tryz.underlying3 w2, rfl, rfl⟩, rfl⟩, rfl⟩

theorem over : Rows.recoveryPagesRow.holds Tryz.pinned (OpenSpec.ofChange Rows.recoveryPagesSpec) :=
  OpenClaim.holds_of_wide 4 Tryz.f4 rfl rfl rfl rfl rfl rfl rfl ⟨rfl, rfl, rfl, rfl, rfl⟩ rfl rfl rfl rfl rfl (by kernel_rfl) Tryz.func4 (by kernel_rfl)
    (of_decide_eq_true (by kernel_rfl)) (by unfold Func.isWrapper; first | (rw [if_pos (by decide +kernel)]; kernel_rfl) | (rw [if_neg (by decide +kernel)]; exact ⟨rfl, rfl⟩))
    (fun os started H enc _ => lifted os started H enc)

/-- The statement. -/
theorem proved : Rows.RecoveryPagesSaid :=
  over
#print axioms proved
end Go.Proofs.YtclfgfpebplncaaGreat.recoveryPages
