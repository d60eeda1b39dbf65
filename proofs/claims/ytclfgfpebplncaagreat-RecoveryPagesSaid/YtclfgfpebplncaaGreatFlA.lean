/- The flash device: New, Erase. -/
import Derived.Test.YtclfgfpebplncaaGreatCd
import Derived.Test.YtclfgfpebplncaaGreatLgC
set_option linter.unusedVariables false
set_option linter.unusedSectionVars false
set_option linter.unusedSimpArgs false
set_option maxRecDepth 10000
set_option maxHeartbeats 4000000
namespace Go.Ev
section
variable {P0 : Program} {E : Env} {F : T CFn} {K : T (List AV × AV)} (L : Lg P0 E F K) (X : Fx F K)
include L X
section
variable {κ : Nat → Nat} {h : H} {d fm bb : Nat} {D : Dv} {cb : List AV}

theorem none_ct (hd : Bk h d (dvC D fm bb)) : Ct P0 E F K 43 [.ptr d 0] h fun v h' => v = .bool false ∧ h' = h := by
  refine ct_in1 L X.f43 X.k43 rfl rfl fun Q x cs G => ?_
  refine wk ?_
  refine ret X.f43 ?_
  exact ⟨rfl, rfl⟩

theorem has_ct (hd : Bk h d (dvC D fm bb)) {i : Int} : Ct P0 E F K 44 [.ptr d 0, .int .i64 i] h fun v h' => v = .bool (decide (0 ≤ i ∧ i < D.nb)) ∧ h' = h := by
  refine ct_in2 L X.f44 X.k44 rfl rfl fun Q x cs G => ?_
  refine wk ?_
  by_cases hi : 0 ≤ i
  · refine wk ?_
    by_cases hj : i < D.nb
    · refine wk ?_
      refine ret X.f44 ?_
      exact ⟨by simp [single, hi, hj], rfl⟩
    · refine wk ?_
      refine ret X.f44 ?_
      exact ⟨by simp [single, hi, hj], rfl⟩
  · refine wk ?_
    refine ret X.f44 ?_
    exact ⟨by simp [single, hi], rfl⟩

theorem hasPage_ct (hd : Bk h d (dvC D fm bb)) {i p : Int} : Ct P0 E F K 102 [.ptr d 0, .int .i64 i, .int .i64 p] h fun v h' => v = .bool (decide ((0 ≤ i ∧ i < D.nb) ∧ 0 ≤ p ∧ p < D.P)) ∧ h' = h := by
  refine ct_in3 L X.f102 X.k102 rfl rfl fun Q x cs G => ?_
  refine wk ?_
  refine cal (c := has_ct L X hd) (g := ?_)
  rintro _ rfl
  by_cases hi : 0 ≤ i ∧ i < D.nb
  · rw [decide_eq_true hi]
    refine wk ?_
    by_cases h1 : 0 ≤ p
    · refine wk ?_
      by_cases h2 : p < D.P
      · refine wk ?_
        refine ret X.f102 ?_
        exact ⟨by simp [single, hi, h1, h2], rfl⟩
      · refine wk ?_
        refine ret X.f102 ?_
        exact ⟨by simp [single, h2], rfl⟩
    · refine wk ?_
      refine ret X.f102 ?_
      exact ⟨by simp [single, h1], rfl⟩
  · rw [decide_eq_false hi]
    refine wk ?_
    refine ret X.f102 ?_
    exact ⟨by simp [single, hi], rfl⟩

theorem geometry_ct (hd : Bk h d (dvC D fm bb)) : Ct P0 E F K 51 [.ptr d 0] h fun v h' => v = .agg [.int .i64 ((D.nb : Nat) : Int), .int .i64 ((D.P : Nat) : Int), .int .i64 ((D.sz : Nat) : Int), .int .i64 ((D.en : Nat) : Int)] ∧ K0 h h' := by
  refine ct_in1 L X.f51 X.k51 rfl rfl fun Q x cs G => ?_
  refine wk ?_
  refine cal (c := none_ct L X lkp) (g := ?_)
  rintro _ rfl
  refine wk ?_
  refine ret X.f51 ?_
  exact ⟨rfl, kps⟩

theorem operations_ct (hd : Bk h d (dvC D fm bb)) : Ct P0 E F K 10 [.ptr d 0] h fun v h' => v = .int .i64 ((D.n : Nat) : Int) ∧ h' = h := by
  refine ct_in1 L X.f10 X.k10 rfl rfl fun Q x cs G => ?_
  refine wk ?_
  refine cal (c := none_ct L X hd) (g := ?_)
  rintro _ rfl
  refine wk ?_
  refine ret X.f10 ?_
  exact ⟨rfl, rfl⟩

theorem next_ct (hd : Bk h d (dvC D fm bb)) (hb : Bk h bb cb) {i nx : Nat} (hi : i < D.nb) (hc : cb[i * 3 + 1]? = some (.int .i64 ((nx : Nat) : Int))) : Ct P0 E F K 61 [.ptr d 0, .int .i64 ((i : Nat) : Int)] h fun v h' => v = .int .i64 ((nx : Nat) : Int) ∧ h' = h := by
  refine ct_in2 L X.f61 X.k61 rfl rfl fun Q x cs G => ?_
  refine wk ?_
  refine cal (c := none_ct L X hd) (g := ?_)
  rintro _ rfl
  refine wk ?_
  refine cal (c := has_ct L X hd) (g := ?_)
  rintro _ rfl
  rw [decide_eq_true (show 0 ≤ (i : Int) ∧ (i : Int) < D.nb from ⟨by omega, by omega⟩)]
  refine wk ?_
  refine ret X.f61 ?_
  exact ⟨rfl, rfl⟩

theorem restart_ct (hd : Bk h d (dvC D fm bb)) : Ct P0 E F K 29 [.ptr d 0] h fun v h' => v = .int .i64 ((0 : Nat) : Int) ∧ Bk h' d (dvC { D with cut := -1, off := false } fm bb) ∧ Kp (fun i => i = d) h h' := by
  refine ct_in1 L X.f29 X.k29 rfl rfl fun Q x cs G => ?_
  refine wk ?_
  refine cal (c := none_ct L X hd) (g := ?_)
  rintro _ rfl
  refine wk ?_
  refine ret X.f29 ?_
  exact ⟨rfl, lkp, kps⟩

theorem cut_ct (hd : Bk h d (dvC D fm bb)) (hoff : D.off = false) (h2 : D.sz < 10000) {b : Nat} (hbb : b ≤ D.sz + 64) : Ct P0 E F K 9 [.ptr d 0, .int .i64 ((D.n : Nat) : Int), .int .i64 ((b : Nat) : Int)] h fun v h' => v = .int .i64 ((0 : Nat) : Int) ∧ Bk h' d (dvC { D with cut := (D.n : Nat), byt := b, off := false } fm bb) ∧ Kp (fun i => i = d) h h' := by
  refine ct_in3 L X.f9 X.k9 rfl rfl fun Q x cs G => ?_
  refine wk ?_
  refine cal (c := none_ct L X hd) (g := ?_)
  rintro _ rfl
  unfold dvC dvL at hd
  rw [hoff] at hd
  refine wk ?_
  refine ret X.f9 ?_
  exact ⟨rfl, lkp, kps⟩
end

end
end Go.Ev

namespace Go.Ev
section
variable {P0 : Program} {E : Env} {F : T CFn} {K : T (List AV × AV)} (L : Lg P0 E F K) (X : Fx F K)
include L X
section
variable {h : H}
theorem valid1_ct {v a b : Nat} (h1 : a ≤ v) (h2 : v ≤ b) : Ct P0 E F K 125 [.int .i64 ((v : Nat) : Int), .int .i64 ((a : Nat) : Int), .int .i64 ((b : Nat) : Int)] h fun u h' => u = .bool true ∧ h' = h := by
  refine ct_in3 L X.f125 X.k125 rfl rfl fun Q x cs G => ?_
  refine wk ?_
  refine ret X.f125 ?_
  exact ⟨rfl, rfl⟩

/-- A geometry, as four cells. -/
def geoC (g0 g1 g2 g3 : Nat) : List AV := [.int .i64 ((g0 : Nat) : Int), .int .i64 ((g1 : Nat) : Int), .int .i64 ((g2 : Nat) : Int), .int .i64 ((g3 : Nat) : Int)]

theorem valid_ct {g0 g1 g2 g3 : Nat} (h0 : 2 ≤ g0 ∧ g0 ≤ 6) (h1 : 2 ≤ g1 ∧ g1 ≤ 6) (h2 : 12 ≤ g2 ∧ g2 ≤ 30) (h3 : 1 ≤ g3 ∧ g3 ≤ 1000) : Ct P0 E F K 73 [.agg (geoC g0 g1 g2 g3)] h fun u h' => u = .bool true ∧ K0 h h' := by
  refine ct_in1 L X.f73 X.k73 rfl rfl fun Q x cs G => ?_
  refine wk ?_
  refine cal (c := valid1_ct L X (by omega) (by omega)) (g := ?_)
  rintro _ rfl
  refine wk ?_
  refine cal (c := valid1_ct L X (by omega) (by omega)) (g := ?_)
  rintro _ rfl
  refine wk ?_
  refine cal (c := valid1_ct L X (by omega) (by omega)) (g := ?_)
  rintro _ rfl
  refine wk ?_
  refine cal (c := valid1_ct L X (by omega) (by omega)) (g := ?_)
  rintro _ rfl
  refine wk ?_
  refine ret X.f73 ?_
  exact ⟨rfl, kps⟩

theorem indexI0_ct {f : AV} : Ct P0 E F K 126 [.nils, f] h fun u h' => u = .int .i64 (-1) ∧ h' = h := by
  refine ct_in2 L X.f126 X.k126 rfl rfl fun Q x cs G => ?_
  refine wk ?_
  refine g_loop L ?_
  refine wk ?_
  refine ret X.f126 ?_
  exact ⟨rfl, rfl⟩
theorem containsI0_ct {f : AV} : Ct P0 E F K 74 [.nils, f] h fun u h' => u = .bool false ∧ h' = h := by
  refine ct_in2 L X.f74 X.k74 rfl rfl fun Q x cs G => ?_
  refine wk ?_
  refine cal (c := indexI0_ct L X) (g := ?_)
  rintro _ rfl
  refine wk ?_
  refine ret X.f74 ?_
  exact ⟨rfl, rfl⟩
end

/-- Pages in one state, without contents; the first i in state s, the others in state 0. -/
structure PgRow (P i : Nat) (s : Nat) (c : List AV) : Prop where
  len : c.length = P * 2
  nil : ∀ j, j < P → c[j * 2]? = some .nils
  st : ∀ j, j < P → c[j * 2 + 1]? = some (.int .i64 ((if j < i then s else 0 : Nat) : Int))

omit L X in
theorem PgRow.step {P i s : Nat} {c : List AV} (r : PgRow P i s c) (hi : i < P) : PgRow P (i + 1) s (c.set (i * 2 + 1) (.int .i64 ((s : Nat) : Int))) := by
  refine ⟨by rw [List.length_set]; exact r.len, fun j hj => ?_, fun j hj => ?_⟩
  · rw [List.getElem?_set_ne (by omega)]; exact r.nil j hj
  · by_cases e : j = i
    · subst e
      rw [List.getElem?_set_self (by rw [r.len]; omega), if_pos (Nat.lt_succ_self j)]
    · rw [List.getElem?_set_ne (by omega), r.st j hj]
      by_cases h1 : j < i
      · rw [if_pos h1, if_pos (by omega)]
      · rw [if_neg h1, if_neg (by omega)]

omit L X in
theorem PgRow.init (s : Nat) : ∀ P, PgRow P 0 s (rl [.nils, .int .i64 ((0 : Nat) : Int)] P)
  | 0 => ⟨rfl, fun j hj => by omega, fun j hj => by omega⟩
  | P + 1 => by
    have ih := PgRow.init s P
    have e : rl [.nils, .int .i64 ((0 : Nat) : Int)] (P + 1) = .nils :: .int .i64 ((0 : Nat) : Int) :: rl [.nils, .int .i64 ((0 : Nat) : Int)] P := rfl
    rw [e]
    have hl := ih.len
    refine ⟨by rw [List.length_cons, List.length_cons]; omega, fun j hj => ?_, fun j hj => ?_⟩
    · cases j with
      | zero => rfl
      | succ j => rw [show (j + 1) * 2 = j * 2 + 1 + 1 by omega]; simpa using ih.nil j (by omega)
    · cases j with
      | zero => rfl
      | succ j => rw [show (j + 1) * 2 + 1 = j * 2 + 1 + 1 + 1 by omega]; simpa using ih.st j (by omega)

theorem all_ct {h : H} {bb q P s : Nat} {cb : List AV} (hb : Bk h bb cb) (hq : q + 1 < cb.length) (hP : P < 1000) :
    Ct P0 E F K 76 [.ptr bb q, .int .i64 ((P : Nat) : Int), .int .i64 ((s : Nat) : Int)] h fun v h' => v = .tup [] ∧ ∃ pn c', h.n ≤ pn ∧ Bk h' bb ((cb.set q (.slc pn 0 P P)).set (q + 1) (.int .i64 ((if s = 1 then 0 else P : Nat) : Int))) ∧ Bk h' pn c' ∧ PgRow P P s c' ∧ Kp (fun j => j = bb) h h' := by
  have hbb := hb.lt
  refine ct_in3 L X.f76 X.k76 rfl rfl fun Q x cs G => ?_
  have hq0 : q + 0 < cb.length := by omega
  refine wk ?_
  have e1 : (cb.set (q + 0) (.slc h.n 0 P P))[q + 0]? = some (.slc h.n 0 P P) := List.getElem?_set_self hq0
  refine wk ?_
  refine g_up L (α := Unit) (T := fun i _ => [(17, some (.int .i64 ((i : Nat) : Int))), (16, some (.int .i64 ((P : Nat) : Int))), (0, some (.ptr bb q)), (1, some (.int .i64 ((P : Nat) : Int))), (2, some (.int .i64 ((s : Nat) : Int)))]) (n := P)
    (R := fun i _ h1 => Bk h1 bb (cb.set (q + 0) (.slc h.n 0 P P)) ∧ (∃ c, Bk h1 h.n c ∧ PgRow P i s c) ∧ Kp (fun j => j = bb) h h1) (i0 := 0) () tsb ⟨lkp, ⟨_, lkp, PgRow.init s P⟩, kps⟩ (Nat.zero_le _) ?_ ?_
  · rintro i _ h1 hi ⟨hb1, ⟨c, hc, hr⟩, hk⟩ ih
    have hlen : i * 2 + 1 < c.length := by rw [hr.len]; omega
    refine wk ?_
    exact ih () _ _ ⟨lkp, ⟨_, lkp, hr.step hi⟩, kps⟩ tsb
  · rintro _ h1 ⟨hb1, ⟨c, hc, hr⟩, hk⟩
    have hlen : q + 1 < (cb.set (q + 0) (.slc h.n 0 P P)).length := by simpa using hq
    refine wk ?_
    by_cases hs : s = 1
    · refine wk ?_
      refine ret X.f76 ?_
      refine ⟨rfl, h.n, c, Nat.le_refl _, ?_, lkp, hr, kps⟩
      rw [if_pos hs]; exact lkp
    · have hlen2 : q + 1 < ((cb.set (q + 0) (.slc h.n 0 P P)).set (q + 1) (.int .i64 ((0 : Nat) : Int))).length := by simpa using hq
      refine wk ?_
      refine ret X.f76 ?_
      refine ⟨rfl, h.n, c, Nat.le_refl _, ?_, lkp, hr, kps⟩
      rw [if_neg hs]
      exact bk_eq (List.set_set _) lkp

/-- A new device. -/
theorem new_ct {κ : Nat → Nat} {h : H} {D : Dv} {g0 g1 g2 g3 : Nat} (h0 : 2 ≤ g0 ∧ g0 ≤ 6) (h1 : 2 ≤ g1 ∧ g1 ≤ 6) (h2 : 12 ≤ g2 ∧ g2 ≤ 30) (h3 : 1 ≤ g3 ∧ g3 ≤ 1000) :
    Ct P0 E F K 23 [.agg (geoC g0 g1 g2 g3), .nils] h fun v h' => ∃ d κ', v = .tup [.ptr d 0, .int .i64 ((0 : Nat) : Int)] ∧ K0 h h' ∧ DevR κ' h' d (Dv.new g0 g1 g2 g3) ∧ ∀ b, b < h.n → κ' b = κ b := by
  refine ct_in2 L X.f23 X.k23 rfl rfl fun Q x cs G => ?_
  refine wk ?_
  refine cal (c := valid_ct L X h0 h1 h2 h3) (g := ?_)
  rintro _ h4 ⟨rfl, hk4⟩
  refine wk ?_
  refine cal (c := containsI0_ct L X) (g := ?_)
  rintro _ rfl
  refine wk ?_
  refine g_loop L ?_
  refine wk ?_
  have hn4 : h.n + 1 ≤ h4.n := hk4.n
  refine g_up L (α := Nat → Nat) (T := fun i _ => [(41, some (.int .i64 ((i : Nat) : Int))), (40, some (.int .i64 ((g0 : Nat) : Int))), (6, some (.ptr (h4.n + 1 + 1) 0)), (2, some (.ptr h.n 0))]) (n := g0)
    (R := fun i κ' h5 => Bk h5 h.n (geoC g0 g1 g2 g3) ∧ Bk h5 (h4.n + 1 + 1) (dvL g0 g1 g2 g3 h4.n (h4.n + 1) 0 (-1) 0 false) ∧ Mk h5 h4.n [] 0 ∧
      (∃ cb, Bk h5 (h4.n + 1) cb ∧ cb.length = g0 * 3 ∧ (∀ j, j < g0 → cb[j * 3 + 2]? = some (.int .i64 ((0 : Nat) : Int))) ∧ ∀ j, j < i → ∃ pn c, BlR κ' h5 g1 j ⟨blank 1, 0, 0⟩ cb pn c) ∧
      (κ' (h4.n + 1 + 1) = 1 ∧ κ' (h4.n + 1) = 2 ∧ κ' h4.n = 0 ∧ ∀ b, b < h.n → κ' b = κ b) ∧ K0 h h5) (i0 := 0)
    (fun b => if b = h4.n + 1 + 1 then 1 else if b = h4.n + 1 then 2 else if b = h4.n then 0 else κ b) tsb ⟨lkp, lkp, lkm, ⟨_, lkp, ?_, ?_, fun j hj => by omega⟩, ⟨?_, ?_, ?_, fun b hb => ?_⟩, kps⟩ (Nat.zero_le _) ?_ ?_
  · rw [rl_len]; rfl
  · intro j hj
    rw [rl_get _ _ _ (by show _ < _ * 3; omega), show (j * 3 + 2) % [AV.nils, AV.int .i64 ((0 : Nat) : Int), AV.int .i64 ((0 : Nat) : Int)].length = 2 by show (j * 3 + 2) % 3 = 2; omega]; rfl
  · exact if_pos rfl
  · rw [if_neg (by omega), if_pos rfl]
  · rw [if_neg (by omega), if_neg (by omega), if_pos rfl]
  · rw [if_neg (by omega), if_neg (by omega), if_neg (by omega)]
  · rintro i κ1 h5 hi ⟨q1, q2, q3, ⟨cb, q4, q5, q6, q7⟩, ⟨q8, q9, q10, q11⟩, q12⟩ ih
    have b1 := q2.lt
    refine wk ?_
    refine cal (c := all_ct L X (s := 1) lkp (by omega) (by omega)) (g := ?_)
    rintro _ h6 ⟨rfl, pn, c', r1, r3, r2x, r4, r5⟩
    have b2 := r5.n
    simp only [hp_n] at r1 b2
    refine wk ?_
    have hw : Fw κ1 h5 (upd κ1 pn (3 + i)) h6 := ⟨b2, fun b hb hc => r5.old b hb fun e => (by rw [e, q9] at hc; omega), fun b hb => upd_ne _ _ (by omega)⟩
    have hbl : i * 3 + 1 < cb.length := by rw [q5]; omega
    refine ih (upd κ1 pn (3 + i)) _ _ ⟨lkp, lkp, lkm, ⟨_, lkp, ?_, ?_, ?_⟩, ⟨?_, ?_, ?_, ?_⟩, kps⟩ tsb
    · rw [List.length_set, List.length_set]; exact q5
    · intro j hj
      rw [List.getElem?_set_ne (by omega), List.getElem?_set_ne (by omega)]; exact q6 j hj
    · intro j hj
      have hj1 : j < g0 := by omega
      by_cases hji : j = i
      · subst hji
        refine ⟨pn, c', ?_, ?_, ?_, ⟨r2x, upd_eq _ _ _, r4.len, fun m hm => ⟨?_, fun _ _ => r4.nil m hm, fun hs => ?_⟩⟩⟩
        · rw [List.getElem?_set_ne (by omega), List.getElem?_set_self (by omega)]
        · rw [List.getElem?_set_self (by rw [List.length_set]; omega)]; rfl
        · rw [List.getElem?_set_ne (by omega), List.getElem?_set_ne (by omega)]; exact q6 j hj1
        · rw [r4.st m hm, if_pos hm]; rfl
        · exact absurd hs (by show ¬ (1 = 2 ∨ 1 = 3); omega)
      · obtain ⟨pm, c, hr⟩ := q7 j (by omega)
        have h7 : pm ≠ h4.n + 1 := fun e => by have := hr.row.col; rw [e, q9] at this; omega
        have h8 := hr.fw hw (r5.old pm hr.row.k.lt (by omega))
        refine ⟨pm, c, ?_, ?_, ?_, h8.row⟩
        · rw [List.getElem?_set_ne (by omega), List.getElem?_set_ne (by omega)]; exact h8.c0
        · rw [List.getElem?_set_ne (by omega), List.getElem?_set_ne (by omega)]; exact h8.c1
        · rw [List.getElem?_set_ne (by omega), List.getElem?_set_ne (by omega)]; exact h8.c2
    · rw [upd_ne _ _ (by omega)]; exact q8
    · rw [upd_ne _ _ (by omega)]; exact q9
    · rw [upd_ne _ _ (by omega)]; exact q10
    · intro b hb; rw [upd_ne _ _ (by omega)]; exact q11 b hb
  · rintro κ1 h5 ⟨q1, q2, q3, ⟨cb, q4, q5, q6, q7⟩, ⟨q8, q9, q10, q11⟩, q12⟩
    refine wk ?_
    refine ret X.f23 ?_
    have b1 := q2.lt
    refine ⟨h4.n + 1 + 1, κ1, rfl, q12, ⟨⟨⟨h0, h1, h2, h3⟩, by show (0 : Nat) < 1000; omega, Nat.zero_le _, by show (-1 : Int) ≤ -1 ∧ (-1 : Int) < 1000; omega, fun i hi => ⟨Nat.zero_le _, fun j hj => absurd hj (Nat.not_lt_zero j), fun j _ _ => rfl, fun j _ => ⟨fun hs => absurd hs (by show ¬ (1 = 2 ∨ 1 = 3); omega), fun _ _ => rfl, (by show 1 ≤ 1 ∧ 1 ≤ 5; omega)⟩, Nat.zero_le _⟩⟩, h4.n, h4.n + 1, cb, q2, q8, q3, q10, q4, q9, q5, h0.2, q7⟩, q11⟩

end
end Go.Ev

namespace Go.Ev
section
variable {P0 : Program} {E : Env} {F : T CFn} {K : T (List AV × AV)} (L : Lg P0 E F K) (X : Fx F K)
include L X
section
variable {h : H} {d fm bb b2 b3 q : Nat} {D : Dv} {cb : List AV}

theorem eclosU_ct (hb3 : Bk h b3 [.ptr bb q]) (hb2 : Bk h b2 [.ptr d 0]) (hd : Bk h d (dvC D fm bb)) (hb : Bk h bb cb) (hq : q + 1 < cb.length) (hP : D.P < 1000) :
    Ct P0 E F K 105 [.ptr b3 0, .ptr b2 0] h fun v h' => ∃ pn c', h.n ≤ pn ∧ Bk h' bb ((cb.set q (.slc pn 0 D.P D.P)).set (q + 1) (.int .i64 ((D.P : Nat) : Int))) ∧ Bk h' pn c' ∧ PgRow D.P D.P 5 c' ∧ Kp (fun j => j = bb) h h' := by
  refine ct_in2 L X.f105 X.k105 rfl rfl fun Q x cs G => ?_
  refine wk ?_
  refine cal (c := all_ct L X (s := 5) lkp hq hP) (g := ?_)
  rintro _ h1 ⟨rfl, r⟩
  refine wk ?_
  refine ret X.f105 ?_
  exact r
theorem eclosE_ct (hb3 : Bk h b3 [.ptr bb q]) (hb2 : Bk h b2 [.ptr d 0]) (hd : Bk h d (dvC D fm bb)) (hb : Bk h bb cb) (hq : q + 1 < cb.length) (hP : D.P < 1000) :
    Ct P0 E F K 107 [.ptr b3 0, .ptr b2 0] h fun v h' => ∃ pn c', h.n ≤ pn ∧ Bk h' bb ((cb.set q (.slc pn 0 D.P D.P)).set (q + 1) (.int .i64 ((0 : Nat) : Int))) ∧ Bk h' pn c' ∧ PgRow D.P D.P 1 c' ∧ Kp (fun j => j = bb) h h' := by
  refine ct_in2 L X.f107 X.k107 rfl rfl fun Q x cs G => ?_
  refine wk ?_
  refine cal (c := all_ct L X (s := 1) lkp hq hP) (g := ?_)
  rintro _ h1 ⟨rfl, r⟩
  refine wk ?_
  refine ret X.f107 ?_
  exact r

section
variable {fi : Nat} {cp : List AV} {f1 f2 : AV} {e : Int} {post : H → AV → H → Prop}
theorem executeI_ct (hd : Bk h d (dvC D fm bb)) (hn : D.n < 1000) (hc : ((D.n : Nat) : Int) = D.cut)
    (hi : ∀ h1, Bk h1 d (dvC { D with n := D.n + 1, off := true } fm bb) → Kp (fun j => j = d) h h1 → Ct P0 E F K fi cp h1 (post h1)) :
    Ct P0 E F K 106 [.ptr d 0, f1, f2, .fn (.func fi) [] cp, .int .i64 e] h fun v h' => v = .int .i64 ((50 : Nat) : Int) ∧ ∃ h1 u, Bk h1 d (dvC { D with n := D.n + 1, off := true } fm bb) ∧ Kp (fun j => j = d) h h1 ∧ post h1 u h' := by
  refine ct_in5 L X.f106 X.k106 rfl rfl fun Q x cs G => ?_
  refine wk ?_
  refine cal (c := hi _ lkp kps) (g := ?_)
  rintro u h2 hp2
  refine wk ?_
  refine ret X.f106 ?_
  exact ⟨rfl, _, u, lkp, kps, hp2⟩
theorem executeD_ct (hd : Bk h d (dvC D fm bb)) (hf : Mk h fm [] 0) (hfd : fm ≠ d) (hn : D.n < 1000) (hc : ((D.n : Nat) : Int) ≠ D.cut)
    (hi : ∀ h1, Bk h1 d (dvC { D with n := D.n + 1 } fm bb) → Kp (fun j => j = d) h h1 → Ct P0 E F K fi cp h1 (post h1)) :
    Ct P0 E F K 106 [.ptr d 0, .fn (.func fi) [] cp, f1, f2, .int .i64 e] h fun v h' => v = .int .i64 ((0 : Nat) : Int) ∧ ∃ h1 u, Bk h1 d (dvC { D with n := D.n + 1 } fm bb) ∧ Kp (fun j => j = d) h h1 ∧ post h1 u h' := by
  refine ct_in5 L X.f106 X.k106 rfl rfl fun Q x cs G => ?_
  refine wk ?_
  refine cal (c := hi _ lkp kps) (g := ?_)
  rintro u h2 hp2
  refine wk ?_
  refine ret X.f106 ?_
  exact ⟨rfl, _, u, lkp, kps, hp2⟩
end
end

end
end Go.Ev

namespace Go.Ev
section
variable {P0 : Program} {E : Env} {F : T CFn} {K : T (List AV × AV)} (L : Lg P0 E F K) (X : Fx F K)
include L X
omit L X in
/-- A block's row is made anew. -/
theorem DevC.newRow {κ : Nat → Nat} {h h' : H} {d fm bb i s nx er pn : Nat} {D D' : Dv} {cb c' : List AV} (q : DevC κ h d D fm bb cb) (hi : i < D.nb) (hnb : D'.nb = D.nb) (hP : D'.P = D.P) (hbl : D'.bl = upd D.bl i ⟨blank s, nx, er⟩) (hs : s ≠ 2 ∧ s ≠ 3)
    (k : Kp (fun j => j = d ∨ j = bb) h h') (dk : Bk h' d (dvC D' fm bb)) (bk : Bk h' bb (((cb.set (i * 3 + 2) (.int .i64 ((er : Nat) : Int))).set (i * 3) (.slc pn 0 D.P D.P)).set (i * 3 + 1) (.int .i64 ((nx : Nat) : Int))))
    (rk : Bk h' pn c') (r : PgRow D.P D.P s c') (hp : h.n ≤ pn) : ∃ κ' cb', DevC κ' h' d D' fm bb cb' ∧ Ch κ h κ' h' := by
  have b1 := q.dk.lt
  have b2 := q.bk.lt
  have b3 := q.fk.lt
  have l := q.blen
  have c1 := q.dcol
  have c2 := q.bcol
  have c3 := q.fcol
  have hch : Ch κ h (upd κ pn (3 + i)) h' := ⟨k.mono fun j hj => by rcases hj with e | e <;> subst e <;> omega, fun b hb => upd_ne _ _ (by omega)⟩
  refine ⟨upd κ pn (3 + i), _, ⟨dk, (upd_ne _ _ (by omega)).trans c1, mk_k k (by intro e; rcases e with e | e <;> subst e <;> omega) q.fk, (upd_ne _ _ (by omega)).trans c3, bk, (upd_ne _ _ (by omega)).trans c2, ?_, by rw [hnb]; exact q.nb, fun j hj => ?_⟩, hch⟩
  · rw [List.length_set, List.length_set, List.length_set, hnb]; exact l
  · rw [hnb] at hj
    by_cases e : j = i
    · subst e
      refine ⟨pn, c', ?_, ?_, ?_, rk, upd_eq _ _ _, by rw [hP]; exact r.len, fun m hm => ?_⟩
      · rw [List.getElem?_set_ne (by omega), List.getElem?_set_self (by rw [List.length_set]; omega), hP]
      · rw [List.getElem?_set_self (by rw [List.length_set, List.length_set]; omega), hbl, upd_eq]
      · rw [List.getElem?_set_ne (by omega), List.getElem?_set_ne (by omega), List.getElem?_set_self (by omega), hbl, upd_eq]
      · rw [hP] at hm
        rw [hbl, upd_eq]
        refine ⟨?_, fun _ _ => r.nil m hm, fun h1 => absurd h1 (by show ¬ (s = 2 ∨ s = 3); omega)⟩
        rw [r.st m hm, if_pos hm]; rfl
    · obtain ⟨pm, c, hr⟩ := q.rows j hj
      have h7 := hr.row.col
      have h8 := hr.fw hch.fw (k.old pm hr.row.k.lt (by intro e; rcases e with e | e <;> subst e <;> omega))
      rw [hP, hbl, upd_ne _ _ e]
      refine ⟨pm, c, ?_, ?_, ?_, h8.row⟩
      · rw [List.getElem?_set_ne (by omega), List.getElem?_set_ne (by omega), List.getElem?_set_ne (by omega)]; exact h8.c0
      · rw [List.getElem?_set_ne (by omega), List.getElem?_set_ne (by omega), List.getElem?_set_ne (by omega)]; exact h8.c1
      · rw [List.getElem?_set_ne (by omega), List.getElem?_set_ne (by omega), List.getElem?_set_ne (by omega)]; exact h8.c2

omit L X in
theorem Dv.Ok.row {D D' : Dv} {i s nx er : Nat} (q : D.Ok) (hg : D'.nb = D.nb ∧ D'.P = D.P ∧ D'.sz = D.sz ∧ D'.en = D.en) (hn : D'.n < 1000) (hb : D'.byt = D.byt) (hc : D'.cut = D.cut) (hbl : D'.bl = upd D.bl i ⟨blank s, nx, er⟩) (hs : s = 1 ∧ nx = 0 ∨ s = 5 ∧ nx = D.P) (he : er ≤ D.en) : D'.Ok := by
  obtain ⟨g1, g2, g3, g4⟩ := hg
  refine ⟨⟨by rw [g1]; exact q.g.nb, by rw [g2]; exact q.g.P, by rw [g3]; exact q.g.sz, by rw [g4]; exact q.g.en⟩, hn, by rw [hb, g3]; exact q.byt, by rw [hc]; exact q.cut, fun j hj => ?_⟩
  rw [g1] at hj
  rw [hbl]
  by_cases e : j = i
  · subst e
    rw [upd_eq]
    have hpg : ∀ m, ((blank s) m).Ok D'.sz := fun m => ⟨fun h1 => absurd h1 (by show ¬ (s = 2 ∨ s = 3); omega), fun _ _ => rfl, (by show 1 ≤ s ∧ s ≤ 5; omega)⟩
    rcases hs with ⟨h1, h2⟩ | ⟨h1, h2⟩ <;> subst h1 <;> subst h2
    · exact ⟨Nat.zero_le _, fun m hm => absurd hm (Nat.not_lt_zero m), fun m _ _ => rfl, fun m _ => hpg m, by rw [g4]; exact he⟩
    · exact ⟨by rw [g2]; exact Nat.le_refl _, fun m _ => (by show 5 ≠ 1; omega), fun m h1 h2 => absurd h2 (by rw [g2]; show ¬ m < D.P; exact Nat.not_lt.2 h1), fun m _ => hpg m, by rw [g4]; exact he⟩
  · rw [upd_ne _ _ e]
    have h1 := q.bl j hj
    exact ⟨by rw [g2]; exact h1.nx, h1.lo, by rw [g2]; exact h1.hi, by rw [g2, g3]; exact h1.pg, by rw [g4]; exact h1.er⟩

/-- The erasing of a block. -/
theorem erase_ct {κ : Nat → Nat} {h : H} {d fm bb i : Nat} {D : Dv} {cb : List AV} (q : DevC κ h d D fm bb cb) (ok : D.Ok) (hn : D.n + 1 < 1000) (hi : i < D.nb) (hoff : D.off = false) (he : (D.bl i).er < D.en) :
    Ct P0 E F K 45 [.ptr d 0, .ptr bb (i * 3)] h fun v h' => v = .int .i64 (((D.erase i).2 : Nat) : Int) ∧ ∃ κ', DevR κ' h' d (D.erase i).1 ∧ Ch κ h κ' h' := by
  obtain ⟨pn, c, hr⟩ := q.rows i hi
  have hc2 := hr.c2
  have b1 := q.dk.lt
  have b2 := q.bk.lt
  have b3 := q.fk.lt
  have l := q.blen
  have l2 : i * 3 + 2 < cb.length := by omega
  have c1 := q.dcol
  have c2 := q.bcol
  have c3 := q.fcol
  have hdk := q.dk
  have hbk := q.bk
  have hfk := q.fk
  have hen := ok.g.en
  have hgP := ok.g.P
  have hdb : d ≠ bb := fun e => by rw [e] at c1; omega
  have hdf : fm ≠ d := fun e => by rw [e] at c3; omega
  have hbf : fm ≠ bb := fun e => by rw [e] at c3; omega
  have l3 : i * 3 + 1 < (cb.set (i * 3 + 2) (.int .i64 (((D.bl i).er + 1 : Nat) : Int))).length := by rw [List.length_set]; omega
  have e0 : D.erase i = if (D.n : Int) = D.cut then ({ D with bl := upd D.bl i ⟨blank 5, D.P, (D.bl i).er + 1⟩, n := D.n + 1, off := true }, 50) else ({ D with bl := upd D.bl i ⟨blank 1, 0, (D.bl i).er + 1⟩, n := D.n + 1 }, 0) := by
    unfold Dv.erase
    rw [if_pos ⟨by omega, by omega⟩, hoff, if_neg (by simp), Int.toNat_natCast, if_neg (by omega)]
  refine ct_in2 L X.f45 X.k45 rfl rfl fun Q x cs G => ?_
  refine wk ?_
  by_cases hc : (D.n : Int) = D.cut
  · refine cal (c := executeI_ct L X lkp (by omega) hc fun h2 k1 k2 => eclosU_ct L X (b3 := h.n + 1) (b2 := h.n) lkp lkp k1 lkp l3 (by show D.P < 1000; omega)) (g := ?_)
    rintro _ h2 ⟨rfl, h1, u, r1, r2, pn', c', r3, r4, r5, r6, r7⟩
    refine wk ?_
    refine ret X.f45 ?_
    rw [e0, if_pos hc]
    refine ⟨rfl, ?_⟩
    have k2 : Kp (fun j => j = d ∨ j = bb) h h2 := Kp.trS r7 (fun _ _ e => .inr e) (Kp.trS r2 (fun _ _ e => .inl e) (Kp.st (.inr (.inr rfl)) (Kp.nw (Kp.nw (.refl _)))))
    have n2 := r2.n
    simp only [hp_n] at n2
    obtain ⟨κ', cb', w1, w2⟩ := q.newRow (D' := { D with bl := upd D.bl i ⟨blank 5, D.P, (D.bl i).er + 1⟩, n := D.n + 1, off := true }) hi rfl rfl rfl (by omega) k2 (bk_k r7 hdb r1) r4 r5 r6 (by omega)
    exact ⟨κ', ⟨ok.row (D' := { D with bl := upd D.bl i ⟨blank 5, D.P, (D.bl i).er + 1⟩, n := D.n + 1, off := true }) ⟨rfl, rfl, rfl, rfl⟩ hn rfl rfl rfl (.inr ⟨rfl, rfl⟩) (by omega), _, _, _, w1⟩, w2⟩
  · refine cal (c := executeD_ct L X lkp lkm hdf (by omega) hc fun h2 k1 k2 => eclosE_ct L X (b3 := h.n + 1) (b2 := h.n) lkp lkp k1 lkp l3 (by show D.P < 1000; omega)) (g := ?_)
    rintro _ h2 ⟨rfl, h1, u, r1, r2, pn', c', r3, r4, r5, r6, r7⟩
    refine wk ?_
    refine ret X.f45 ?_
    rw [e0, if_neg hc]
    refine ⟨rfl, ?_⟩
    have k2 : Kp (fun j => j = d ∨ j = bb) h h2 := Kp.trS r7 (fun _ _ e => .inr e) (Kp.trS r2 (fun _ _ e => .inl e) (Kp.st (.inr (.inr rfl)) (Kp.nw (Kp.nw (.refl _)))))
    have n2 := r2.n
    simp only [hp_n] at n2
    obtain ⟨κ', cb', w1, w2⟩ := q.newRow (D' := { D with bl := upd D.bl i ⟨blank 1, 0, (D.bl i).er + 1⟩, n := D.n + 1 }) hi rfl rfl rfl (by omega) k2 (bk_k r7 hdb r1) r4 r5 r6 (by omega)
    exact ⟨κ', ⟨ok.row (D' := { D with bl := upd D.bl i ⟨blank 1, 0, (D.bl i).er + 1⟩, n := D.n + 1 }) ⟨rfl, rfl, rfl, rfl⟩ hn rfl rfl rfl (.inl ⟨rfl, rfl⟩) (by omega), _, _, _, w1⟩, w2⟩

end
end Go.Ev

namespace Go.Ev
section
variable {P0 : Program} {E : Env} {F : T CFn} {K : T (List AV × AV)} (L : Lg P0 E F K) (X : Fx F K)
include L X
theorem fErase_ct {κ : Nat → Nat} {h : H} {d : Nat} {D : Dv} {i : Int} (r : DevR κ h d D) (hn : D.n + 1 < 1000) :
    Ct P0 E F K 12 [.ptr d 0, .int .i64 i] h fun v h' => v = .int .i64 (((D.erase i).2 : Nat) : Int) ∧ ∃ κ', DevR κ' h' d (D.erase i).1 ∧ Ch κ h κ' h' := by
  obtain ⟨ok, fm, bb, cb, q⟩ := r
  have hd := q.dk
  refine ct_in2 L X.f12 X.k12 rfl rfl fun Q x cs G => ?_
  refine wk ?_
  refine cal (c := none_ct L X hd) (g := ?_)
  rintro _ rfl
  refine wk ?_
  refine cal (c := has_ct L X hd) (g := ?_)
  rintro _ rfl
  by_cases hi : 0 ≤ i ∧ i < D.nb
  · rw [decide_eq_true hi]
    cases hoff : D.off with
    | true =>
      have e0 : D.erase i = (D, 50) := by unfold Dv.erase; rw [if_pos hi, if_pos hoff]
      unfold dvC dvL at hd
      rw [hoff] at hd
      refine wk ?_
      refine ret X.f12 ?_
      rw [e0]
      exact ⟨rfl, κ, ⟨ok, fm, bb, cb, q⟩, .refl _ _⟩
    | false =>
      unfold dvC dvL at hd
      rw [hoff] at hd
      obtain ⟨j, rfl⟩ : ∃ j : Nat, i = j := ⟨i.toNat, by omega⟩
      have hj : j < D.nb := by omega
      obtain ⟨pn, c, hr⟩ := q.rows j hj
      have hc2 := hr.c2
      have hbk := q.bk
      have hen := ok.g.en
      have hbe := (ok.bl j hj).er
      refine wk ?_
      by_cases he : D.en ≤ (D.bl j).er
      · have e0 : D.erase j = (D, 56) := by unfold Dv.erase; rw [if_pos hi, if_neg (by rw [hoff]; simp), Int.toNat_natCast, if_pos he]
        refine wk ?_
        refine ret X.f12 ?_
        rw [e0]
        exact ⟨rfl, κ, ⟨ok, fm, bb, cb, q⟩, .refl _ _⟩
      · refine wk ?_
        refine cal (c := erase_ct L X q ok hn hj hoff (by omega)) (g := ?_)
        rintro _ h1 ⟨rfl, r⟩
        refine wk ?_
        refine ret X.f12 ?_
        exact ⟨rfl, r⟩
  · rw [decide_eq_false hi]
    have e0 : D.erase i = (D, 2) := by unfold Dv.erase; rw [if_neg hi]
    refine wk ?_
    refine ret X.f12 ?_
    rw [e0]
    exact ⟨rfl, κ, ⟨ok, fm, bb, cb, q⟩, .refl _ _⟩

end
end Go.Ev

