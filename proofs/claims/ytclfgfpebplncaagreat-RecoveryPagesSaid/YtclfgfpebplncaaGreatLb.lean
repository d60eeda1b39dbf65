/- Encode; the device and its reference side by side. -/
import Derived.Test.YtclfgfpebplncaaGreatLa
import Derived.Test.YtclfgfpebplncaaGreatRfB
set_option linter.unusedVariables false
set_option linter.unusedSectionVars false
set_option linter.unusedSimpArgs false
set_option maxRecDepth 10000
set_option maxHeartbeats 4000000
namespace Go.Ev
section
variable {P0 : Program} {E : Env} {F : T CFn} {K : T (List AV × AV)} (L : Lg P0 E F K) (X : Fx F K)
include L X
section
variable {h : H}
theorem num_ct {e : Int} : Ct P0 E F K 19 [.int .i64 e] h fun v h' => v = .int .i64 e ∧ h' = h := by
  refine ct_in1 L X.f19 X.k19 rfl rfl fun Q x cs G => ?_
  refine wk ?_
  refine ret X.f19 ?_
  exact ⟨rfl, rfl⟩
theorem filled_ct {n v : Nat} (hn : 0 < n ∧ n < 1000) (hv : v < 256) : Ct P0 E F K 34 [.int .i64 ((n : Nat) : Int), .int .u8 ((v : Nat) : Int)] h fun u h' => ∃ b, u = .slc b 0 n n ∧ Bk h' b (byts (List.replicate n v)) ∧ h.n ≤ b ∧ K0 h h' := by
  refine ct_in2 L X.f34 X.k34 rfl rfl fun Q x cs G => ?_
  have e : max 0 n = n := by omega
  refine wk ?_
  rw [e]
  refine g_up L (α := Unit) (T := fun i _ => [(6, some (.int .i64 ((i : Nat) : Int))), (5, some (.slc h.n 0 n n)), (1, some (.int .u8 ((v : Nat) : Int)))]) (n := n)
    (R := fun i _ h1 => Bk h1 h.n (byts (List.replicate i v ++ List.replicate (n - i) 0)) ∧ K0 h h1) (i0 := 0) () tsb ⟨by rw [show byts (List.replicate 0 v ++ List.replicate (n - 0) 0) = rl [.int .u8 ((0 : Nat) : Int)] n by rw [rl_byts]; simp]; exact lkp, kps⟩ (Nat.zero_le _) ?_ ?_
  · rintro i _ h1 hi ⟨w1, w2⟩ ih
    have hd : List.replicate (n - i) 0 = 0 :: List.replicate (n - (i + 1)) 0 := by rw [show n - i = (n - (i + 1)) + 1 by omega]; rfl
    rw [hd] at w1
    have hlen : i < (byts (List.replicate i v ++ 0 :: List.replicate (n - (i + 1)) 0)).length := by
      rw [byts_len, List.length_append, List.length_replicate, List.length_cons]; omega
    refine wk ?_
    refine ih () _ _ ⟨?_, kps⟩ tsb
    refine bk_eq ?_ lkp
    rw [byts_set _ _ _ _ _ (by rw [List.length_replicate]), List.replicate_succ']
    simp
  · rintro _ h1 ⟨w1, w2⟩
    refine wk ?_
    refine ret X.f34 ?_
    rw [Nat.sub_self, List.replicate_zero, List.append_nil] at w1
    exact ⟨h.n, rfl, lkp, Nat.le_refl _, kps⟩
theorem capacity_ct {sz : Nat} (hz : 12 ≤ sz ∧ sz ≤ 8192) : Ct P0 E F K 97 [.int .i64 ((sz : Nat) : Int)] h fun v h' => v = .int .i64 (((sz - 4) / 8 : Nat) : Int) ∧ h' = h := by
  refine ct_in1 L X.f97 X.k97 rfl rfl fun Q x cs G => ?_
  refine wk ?_
  refine ret X.f97 ?_
  exact ⟨rfl, rfl⟩
theorem put8_ct {b at_ v cap len : Nat} {a l0 c : List Nat} (k : Bk h b (byts (a ++ l0 ++ c))) (ha : a.length = at_) (hl : l0.length = 4) (hv : v < 9223372036854775808) (hlen : (a ++ l0 ++ c).length = len) (hle : len < 10000) :
    Ct P0 E F K 99 [.slc b 0 len cap, .int .i64 ((at_ : Nat) : Int), .int .i64 ((v : Nat) : Int)] h fun u h' => Bk h' b (byts (a ++ leb 4 v ++ c)) ∧ Kp (fun j => j = b) h h' := by
  have l1 := k.lt
  rw [List.length_append, List.length_append] at hlen
  refine ct_in3 L X.f99 X.k99 rfl rfl fun Q x cs G => ?_
  refine wk ?_
  refine g_up L (α := Nat) (T := fun i u => [(6, some (.int .i64 ((i : Nat) : Int))), (0, some (.slc b 0 len cap)), (1, some (.int .i64 ((at_ : Nat) : Int))), (2, some (.int .i64 ((u : Nat) : Int)))]) (n := 4)
    (R := fun i u h1 => Bk h1 b (byts (a ++ leb i v ++ (l0.drop i ++ c))) ∧ u = v >>> (8 * i) ∧ Kp (fun j => j = b) h h1) (i0 := 0) v tsb ⟨?_, rfl, kps⟩ (Nat.zero_le _) ?_ ?_
  · rw [leb, List.append_nil, List.drop_zero, ← List.append_assoc]; exact lkp
  · rintro i u h1 hi ⟨w1, w3, w2⟩ ih
    have hd : l0.drop i = l0[i] :: l0.drop (i + 1) := List.drop_eq_getElem_cons (by omega)
    rw [hd, List.cons_append] at w1
    have hlen2 : at_ + i < (byts (a ++ leb i v ++ l0[i] :: (l0.drop (i + 1) ++ c))).length := by
      rw [byts_len, List.length_append, List.length_append, List.length_cons, leb_len]; omega
    have hu : u ≤ v := by rw [w3, Nat.shiftRight_eq_div_pow]; exact Nat.div_le_self _ _
    refine wk ?_
    refine ih (u / 256) _ _ ⟨?_, ?_, kps⟩ tsb
    · refine bk_eq ?_ lkp
      rw [byts_set _ _ _ _ _ (by rw [List.length_append, leb_len]; omega), leb_snoc, ← w3, List.append_assoc a, List.append_assoc a, List.append_assoc (leb i v)]
      rfl
    · rw [w3, Nat.shiftRight_eq_div_pow, Nat.shiftRight_eq_div_pow, ← pow256, ← pow256, Nat.pow_succ, Nat.div_div_eq_div_mul]
  · rintro u h1 ⟨w1, w3, w2⟩
    refine wk ?_
    refine ret X.f99 ?_
    refine ⟨?_, kps⟩
    rw [← hl, List.drop_length, List.nil_append] at w1
    rw [← hl]
    exact lkp
theorem right8_ct {κ : Nat → Nat} {v : AV} {l : List Ent} (k : EntR κ h v l) (hl : l.length < 100000) : Ct P0 E F K 98 [v] h fun u h' => u = .bool (decide (∀ e ∈ l, e.Ok)) ∧ h' = h := by
  rcases k.ex with ⟨rfl, rfl⟩ | ⟨rfl, _, rfl⟩ | ⟨b, cap, rfl, h1, h2⟩
  · refine ct_in1 L X.f98 X.k98 rfl rfl fun Q x cs G => ?_
    refine wk ?_
    refine g_loop L ?_
    refine wk ?_
    refine ret X.f98 ?_
    exact ⟨by simp [single], rfl⟩
  · refine ct_in1 L X.f98 X.k98 rfl rfl fun Q x cs G => ?_
    refine wk ?_
    refine g_loop L ?_
    refine wk ?_
    refine ret X.f98 ?_
    exact ⟨by simp [single], rfl⟩
  · have l1 := h1.lt
    refine ct_in1 L X.f98 X.k98 rfl rfl fun Q x cs G => ?_
    refine wk ?_
    refine g_up L (α := Unit) (T := fun i _ => [(3, some (.int .i64 ((i : Nat) : Int))), (0, some (.slc b 0 l.length cap))]) (n := l.length)
      (R := fun i _ h3 => h3 = h ∧ ∀ j x, j < i → l[j]? = some x → x.Ok) (i0 := 0) () tsb ⟨rfl, fun j x hj => absurd hj (Nat.not_lt_zero j)⟩ (Nat.zero_le _) ?_ ?_
    · rintro i _ h3 hi ⟨rfl, w2⟩ ih
      have hx : l[i]? = some l[i] := List.getElem?_eq_getElem hi
      have c0 := flat_get l (entC_len l) i 0 _ hx (by omega)
      have c1 := flat_get l (entC_len l) i 1 _ hx (by omega)
      have bad : ¬ l[i].Ok → decide (∀ e ∈ l, e.Ok) = false := fun hn => decide_eq_false fun q => hn (q _ (List.getElem_mem hi))
      generalize he : l[i] = e at *
      obtain ⟨e0, e1⟩ := e
      have c0' : (l.flatMap entC)[i * 2 + 0]? = some (.int .i64 e0) := c0
      have c1' : (l.flatMap entC)[i * 2 + 1]? = some (.int .i64 e1) := c1
      clear c0 c1
      have m0 : ∀ {lq : List (Nat × Option AV)} {y : O}, evO lq y = some (.ptr b (i * 2 + 0)) → XV (.load1 y) (hp h3.n h3.t []) lq (.int .i64 e0) (hp h3.n h3.t []) := fun q => r_load1 q lkr c0'
      have m1 : ∀ {lq : List (Nat × Option AV)} {y : O}, evO lq y = some (.ptr b (i * 2 + 1)) → XV (.load1 y) (hp h3.n h3.t []) lq (.int .i64 e1) (hp h3.n h3.t []) := fun q => r_load1 q lkr c1'
      clear c0' c1'
      by_cases q0 : e0 < 0
      · refine wk ?_
        (apply st1 L rfl; exact m0 rfl; rfl)
        refine wk ?_
        refine ret X.f98 ?_
        exact ⟨by rw [bad (by unfold Ent.Ok; simp only []; omega)]; rfl, rfl⟩
      by_cases q1 : 4294967294 < e0
      · refine wk ?_
        (apply st1 L rfl; exact m0 rfl; rfl)
        refine wk ?_
        (apply st1 L rfl; exact m0 rfl; rfl)
        refine wk ?_
        refine ret X.f98 ?_
        exact ⟨by rw [bad (by unfold Ent.Ok; simp only []; omega)]; rfl, rfl⟩
      by_cases q2 : e1 < -1
      · refine wk ?_
        (apply st1 L rfl; exact m0 rfl; rfl)
        refine wk ?_
        (apply st1 L rfl; exact m0 rfl; rfl)
        refine wk ?_
        (apply st1 L rfl; exact m1 rfl; rfl)
        refine wk ?_
        refine ret X.f98 ?_
        exact ⟨by rw [bad (by unfold Ent.Ok; simp only []; omega)]; rfl, rfl⟩
      by_cases q3 : 4294967294 < e1
      · refine wk ?_
        (apply st1 L rfl; exact m0 rfl; rfl)
        refine wk ?_
        (apply st1 L rfl; exact m0 rfl; rfl)
        refine wk ?_
        (apply st1 L rfl; exact m1 rfl; rfl)
        refine wk ?_
        (apply st1 L rfl; exact m1 rfl; rfl)
        refine wk ?_
        refine ret X.f98 ?_
        exact ⟨by rw [bad (by unfold Ent.Ok; simp only []; omega)]; rfl, rfl⟩
      · refine wk ?_
        (apply st1 L rfl; exact m0 rfl; rfl)
        refine wk ?_
        (apply st1 L rfl; exact m0 rfl; rfl)
        refine wk ?_
        (apply st1 L rfl; exact m1 rfl; rfl)
        refine wk ?_
        (apply st1 L rfl; exact m1 rfl; rfl)
        refine wk ?_
        refine ih () _ _ ⟨rfl, fun j x hj hx2 => ?_⟩ tsb
        by_cases e : j = i
        · subst e
          rw [hx] at hx2
          cases hx2
          unfold Ent.Ok; simp only []; omega
        · exact w2 j x (by omega) hx2
    · rintro _ h3 ⟨rfl, w2⟩
      refine wk ?_
      refine ret X.f98 ?_
      exact ⟨by rw [decide_eq_true (fun x hx => by obtain ⟨j, hj, e⟩ := List.getElem_of_mem hx; exact w2 j x hj (by rw [List.getElem?_eq_getElem hj, e]))]; rfl, rfl⟩
theorem encode8_ct {κ : Nat → Nat} {v : AV} {l : List Ent} {sz : Nat} (k : EntR κ h v l) (hl : l.length < 100000) (hz : 12 ≤ sz ∧ sz < 1000) :
    Ct P0 E F K 37 [.int .i64 ((sz : Nat) : Int), v] h fun u h' => (∃ bv, u = .tup [bv, .int .i64 ((encE sz l : Nat) : Int)] ∧ (encE sz l = 0 → ∃ b, bv = .slc b 0 sz sz ∧ Bk h' b (byts (encJ sz l)) ∧ h.n ≤ b)) ∧ K0 h h' := by
  by_cases hr : ∀ e ∈ l, e.Ok
  rotate_left
  · have e0 : encE sz l = 2 := if_neg hr
    have hlen : ∃ m : AV, True := ⟨.nilp, trivial⟩
    refine ct_in2 L X.f37 X.k37 rfl rfl fun Q x cs G => ?_
    refine wk ?_
    refine cal (c := capacity_ct L X (sz := sz) (by omega)) (g := ?_)
    rintro _ rfl
    refine wk ?_
    refine cal (c := right8_ct L X (κ := κ) (l := l) k hl) (g := ?_)
    rintro _ rfl
    rw [decide_eq_false hr]
    refine wk ?_
    refine ret X.f37 ?_
    exact ⟨⟨.nils, by rw [e0]; rfl, fun q => by omega⟩, kps⟩
  · by_cases hc : (sz - 4) / 8 < l.length
    · have e0 : encE sz l = 5 := by unfold encE; rw [if_pos hr, if_pos hc]
      rcases k.ex with ⟨rfl, rfl⟩ | ⟨rfl, _, rfl⟩ | ⟨eb, cap, rfl, h1, h2⟩
      · exact absurd hc (by simp)
      · exact absurd hc (by simp)
      refine ct_in2 L X.f37 X.k37 rfl rfl fun Q x cs G => ?_
      refine wk ?_
      refine cal (c := capacity_ct L X (sz := sz) (by omega)) (g := ?_)
      rintro _ rfl
      refine wk ?_
      refine cal (c := right8_ct L X (κ := κ) (l := l) k hl) (g := ?_)
      rintro _ rfl
      rw [decide_eq_true hr]
      refine wk ?_
      refine cal (c := capacity_ct L X (sz := sz) (by omega)) (g := ?_)
      rintro _ rfl
      refine wk ?_
      refine ret X.f37 ?_
      exact ⟨⟨.nils, by rw [e0]; rfl, fun q => by omega⟩, kps⟩
    · have e0 : encE sz l = 0 := by unfold encE; rw [if_pos hr, if_neg hc]
      have hcap : 4 + 8 * l.length ≤ sz := by omega
      have e1 : rl [.int .u8 ((0 : Nat) : Int)] sz = byts ([] ++ List.replicate 4 0 ++ List.replicate (sz - 4) 0) := by
        rw [rl_byts, List.nil_append, List.replicate_append_replicate, show 4 + (sz - 4) = sz by omega]
      have hl5 : ([] ++ List.replicate 4 0 ++ List.replicate (sz - 4) 0).length = sz := by simp; omega
      rcases k.ex with ⟨rfl, rfl⟩ | ⟨rfl, _, rfl⟩ | ⟨eb, cap, rfl, h1, h2⟩
      · refine ct_in2 L X.f37 X.k37 rfl rfl fun Q x cs G => ?_
        refine wk ?_
        refine cal (c := capacity_ct L X (sz := sz) (by omega)) (g := ?_)
        rintro _ rfl
        refine wk ?_
        refine cal (c := right8_ct L X (κ := κ) (l := []) k hl) (g := ?_)
        rintro _ rfl
        rw [decide_eq_true hr]
        refine wk ?_
        refine cal (c := capacity_ct L X (sz := sz) (by omega)) (g := ?_)
        rintro _ rfl
        refine wk ?_
        rw [e1]
        refine cal (c := put8_ct L X (len := sz) (at_ := 0) (v := 0) (a := []) (l0 := List.replicate 4 0) (c := List.replicate (sz - 4) 0) lkp rfl rfl (by omega) hl5 (by omega)) (g := ?_)
        rintro _ h3 ⟨w1, w2⟩
        refine wk ?_
        refine g_loop L ?_
        refine wk ?_
        refine ret X.f37 ?_
        refine ⟨⟨_, by rw [e0]; rfl, fun _ => ⟨h.n, rfl, ?_, Nat.le_refl _⟩⟩, kps⟩
        have e3 : encJ sz [] = [] ++ leb 4 0 ++ List.replicate (sz - 4) 0 := by simp [encJ]
        rw [e3]; exact lkp
      · refine ct_in2 L X.f37 X.k37 rfl rfl fun Q x cs G => ?_
        refine wk ?_
        refine cal (c := capacity_ct L X (sz := sz) (by omega)) (g := ?_)
        rintro _ rfl
        refine wk ?_
        refine cal (c := right8_ct L X (κ := κ) (l := []) k hl) (g := ?_)
        rintro _ rfl
        rw [decide_eq_true hr]
        refine wk ?_
        refine cal (c := capacity_ct L X (sz := sz) (by omega)) (g := ?_)
        rintro _ rfl
        refine wk ?_
        rw [e1]
        refine cal (c := put8_ct L X (len := sz) (at_ := 0) (v := 0) (a := []) (l0 := List.replicate 4 0) (c := List.replicate (sz - 4) 0) lkp rfl rfl (by omega) hl5 (by omega)) (g := ?_)
        rintro _ h3 ⟨w1, w2⟩
        refine wk ?_
        refine g_loop L ?_
        refine wk ?_
        refine ret X.f37 ?_
        refine ⟨⟨_, by rw [e0]; rfl, fun _ => ⟨h.n, rfl, ?_, Nat.le_refl _⟩⟩, kps⟩
        have e3 : encJ sz [] = [] ++ leb 4 0 ++ List.replicate (sz - 4) 0 := by simp [encJ]
        rw [e3]; exact lkp
      · have l1 := h1.lt
        refine ct_in2 L X.f37 X.k37 rfl rfl fun Q x cs G => ?_
        refine wk ?_
        refine cal (c := capacity_ct L X (sz := sz) (by omega)) (g := ?_)
        rintro _ rfl
        refine wk ?_
        refine cal (c := right8_ct L X (κ := κ) (l := l) k hl) (g := ?_)
        rintro _ rfl
        rw [decide_eq_true hr]
        refine wk ?_
        refine cal (c := capacity_ct L X (sz := sz) (by omega)) (g := ?_)
        rintro _ rfl
        refine wk ?_
        rw [e1]
        refine cal (c := put8_ct L X (len := sz) (at_ := 0) (v := l.length) (a := []) (l0 := List.replicate 4 0) (c := List.replicate (sz - 4) 0) lkp rfl rfl (by omega) hl5 (by omega)) (g := ?_)
        rintro _ h3 ⟨w1, w2⟩
        refine wk ?_
        refine g_up L (α := Unit) (T := fun i _ => [(7, some (.int .i64 ((i : Nat) : Int))), (6, some (.slc h.n 0 sz sz)), (1, some (.slc eb 0 l.length cap))]) (n := l.length)
          (R := fun i _ h4 => Bk h4 h.n (byts (leb 4 l.length ++ (l.take i).flatMap encG ++ List.replicate (sz - 4 - 8 * i) 0)) ∧ K0 h h4) (i0 := 0) () tsb ⟨by rw [List.take_zero, List.flatMap_nil, List.append_nil]; exact lkp, kps⟩ (Nat.zero_le _) ?_ ?_
        · rintro i _ h4 hi ⟨u1, u2⟩ ih
          have m1 := u1.lt
          have hx : l[i]? = some l[i] := List.getElem?_eq_getElem hi
          have c0 := flat_get l (entC_len l) i 0 _ hx (by omega)
          have c1 := flat_get l (entC_len l) i 1 _ hx (by omega)
          have hok := hr _ (List.getElem_mem hi)
          have hsn := flatG_snoc l i _ hx
          generalize he : l[i] = e at *
          obtain ⟨e0, e1⟩ := e
          unfold Ent.Ok at hok
          simp only [] at hok hsn
          obtain ⟨n0, rfl⟩ : ∃ n0 : Nat, e0 = n0 := ⟨e0.toNat, by omega⟩
          obtain ⟨n1, rfl⟩ : ∃ n1 : Nat, e1 = (n1 : Int) - 1 := ⟨(e1 + 1).toNat, by omega⟩
          have hk := rk_k0 u2 h1
          have m0 : ∀ {hq : H} {lq : List (Nat × Option AV)} {y : O}, Rk hq eb (l.flatMap entC) → evO lq y = some (.ptr eb (i * 2 + 0)) → XV (.load1 y) hq lq (.int .i64 ((n0 : Nat) : Int)) hq := fun kk q => r_load1 q kk c0
          have m1' : ∀ {hq : H} {lq : List (Nat × Option AV)} {y : O}, Rk hq eb (l.flatMap entC) → evO lq y = some (.ptr eb (i * 2 + 1)) → XV (.load1 y) hq lq (.int .i64 (((n1 : Nat) : Int) - 1)) hq := fun kk q => r_load1 q kk c1
          clear c0 c1
          have w3 : Bk h4 h.n (byts ((leb 4 l.length ++ (l.take i).flatMap encG) ++ List.replicate 4 0 ++ List.replicate (sz - 4 - 8 * i - 4) 0)) := by
            rw [List.append_assoc _ (List.replicate 4 0), List.replicate_append_replicate, show 4 + (sz - 4 - 8 * i - 4) = sz - 4 - 8 * i by omega]; exact u1
          have la : (leb 4 l.length ++ (l.take i).flatMap encG).length = 4 + 8 * i := by rw [List.length_append, leb_len, flatG_len, List.length_take]; omega
          refine wk ?_
          (apply st1 L rfl; exact m0 lkr rfl; rfl)
          refine wk ?_
          refine cal (c := put8_ct L X (len := sz) (at_ := 4 + 8 * i) (v := n0) (a := leb 4 l.length ++ (l.take i).flatMap encG) (l0 := List.replicate 4 0) (c := List.replicate (sz - 4 - 8 * i - 4) 0) lkp la rfl (by omega) (by rw [List.length_append, List.length_append, la]; simp; omega) (by omega)) (g := ?_)
          rintro _ h5 ⟨w4, w5⟩
          have n5 := w5.n
          try simp only [hp_n] at n5
          have w6 : Bk h5 h.n (byts ((leb 4 l.length ++ (l.take i).flatMap encG ++ leb 4 n0) ++ List.replicate 4 0 ++ List.replicate (sz - 4 - 8 * (i + 1)) 0)) := by
            rw [List.append_assoc _ (List.replicate 4 0), List.replicate_append_replicate, show 4 + (sz - 4 - 8 * (i + 1)) = sz - 4 - 8 * i - 4 by omega]; exact w4
          have hk2 : Rk h5 eb (l.flatMap entC) := rk_k w5 (by omega) hk
          refine wk ?_
          (apply st1 L rfl; exact m1' lkr rfl; rfl)
          refine wk ?_
          rw [show ((n1 : Nat) : Int) - 1 + ((1 : Nat) : Int) = ((n1 : Nat) : Int) by omega]
          refine cal (c := put8_ct L X (len := sz) (at_ := 8 + 8 * i) (v := n1) (a := leb 4 l.length ++ (l.take i).flatMap encG ++ leb 4 n0) (l0 := List.replicate 4 0) (c := List.replicate (sz - 4 - 8 * (i + 1)) 0) lkp (by rw [List.length_append, la, leb_len]; omega) rfl (by omega) (by rw [List.length_append, List.length_append, List.length_append, la, leb_len]; simp; omega) (by omega)) (g := ?_)
          rintro _ h6 ⟨w7, w8⟩
          refine wk ?_
          refine ih () _ _ ⟨?_, kps⟩ tsb
          rw [hsn, Int.toNat_natCast, show ((n1 : Nat) : Int) - 1 + 1 = ((n1 : Nat) : Int) by omega, Int.toNat_natCast]
          simp only [← List.append_assoc]
          exact w7
        · rintro _ h4 ⟨u1, u2⟩
          refine wk ?_
          refine ret X.f37 ?_
          refine ⟨⟨_, by rw [e0]; rfl, fun _ => ⟨h.n, rfl, ?_, Nat.le_refl _⟩⟩, kps⟩
          rw [List.take_length] at u1
          unfold encJ
          exact lkp
end

end
end Go.Ev

/- The device and its reference side by side, while the law builds them. -/
namespace Go.Ev

theorem r_loadF {l : List (Nat × Option AV)} {h : H} {x : O} {b o k : Nat} {c lv : List AV} (hb : Rk h b c) (h1 : o + k ≤ c.length ∧ (c.drop o).take k = lv) (e : evO l x = some (.ptr b o)) : XV (.loadN k x) h l (.agg lv) h := by
  refine ⟨?_⟩
  simp only [exec, ev_tms, evO_L e, cellsAt_rk hb h1.1, h1.2]

/-- The same geometry. -/
structure Dv.Same (D D' : Dv) : Prop where
  nb : D'.nb = D.nb
  P : D'.P = D.P
  sz : D'.sz = D.sz
  en : D'.en = D.en
  n : D'.n ≤ D.n + 1
theorem Dv.erase_same (D : Dv) (i : Int) : D.Same (D.erase i).1 := by
  unfold Dv.erase
  split
  · split
    · exact ⟨rfl, rfl, rfl, rfl, Nat.le_succ _⟩
    · split
      · exact ⟨rfl, rfl, rfl, rfl, Nat.le_succ _⟩
      · split
        · exact ⟨rfl, rfl, rfl, rfl, Nat.le_refl _⟩
        · exact ⟨rfl, rfl, rfl, rfl, Nat.le_refl _⟩
  · exact ⟨rfl, rfl, rfl, rfl, Nat.le_succ _⟩
theorem Dv.prog_same (D : Dv) (i : Int) (all : List Nat) : D.Same (D.prog i all).1 := by
  unfold Dv.prog
  split
  · split
    · exact ⟨rfl, rfl, rfl, rfl, Nat.le_succ _⟩
    · exact ⟨rfl, rfl, rfl, rfl, Nat.le_refl _⟩
  · exact ⟨rfl, rfl, rfl, rfl, Nat.le_succ _⟩

/-- Nothing but counters differ. -/
theorem DevC.cnt {κ : Nat → Nat} {h h' : H} {d fm bb : Nat} {D D' : Dv} {cb : List AV} (q : DevC κ h d D fm bb cb) (hb : Bk h' d (dvC D' fm bb)) (k : Kp (fun i => i = d) h h') (h1 : D'.nb = D.nb) (h2 : D'.P = D.P) (h3 : D'.bl = D.bl) : DevC κ h' d D' fm bb cb := by
  have f : Fw κ h κ h' := k.fw fun b _ e => by subst e; rw [q.dcol]; omega
  refine ⟨hb, q.dcol, mk_k k (fun e => ?_) q.fk, q.fcol, bk_k k (fun e => ?_) q.bk, q.bcol, by rw [h1]; exact q.blen, by rw [h1]; exact q.nb, fun i hi => ?_⟩
  · have := q.fcol; have := q.dcol; subst e; omega
  · have := q.bcol; have := q.dcol; subst e; omega
  · rw [h1] at hi
    obtain ⟨pn, c, hr⟩ := q.rows i hi
    refine ⟨pn, c, ?_⟩
    rw [h2, h3]
    exact hr.fw f (k.old pn hr.row.k.lt fun e => by have := hr.row.col; have := q.dcol; subst e; omega)
theorem DevC.chd {κ : Nat → Nat} {h h' : H} {d fm bb : Nat} {D : Dv} {cb : List AV} (q : DevC κ h d D fm bb cb) (k : Kp (fun i => i = d) h h') : Ch κ h κ h' :=
  ⟨k.mono fun b e => by subst e; rw [q.dcol]; omega, fun _ _ => rfl⟩
theorem Dv.Ok.cutS {D : Dv} (ok : D.Ok) {b : Nat} (hb : b ≤ D.sz + 64) : Dv.Ok { D with cut := (D.n : Nat), byt := b, off := false } :=
  ⟨⟨ok.g.nb, ok.g.P, ok.g.sz, ok.g.en⟩, ok.n, hb, by have := ok.n; show -1 ≤ ((D.n : Nat) : Int) ∧ ((D.n : Nat) : Int) < 1000; omega, fun i hi => let a := ok.bl i hi; ⟨a.nx, a.lo, a.hi, a.pg, a.er⟩⟩
theorem Dv.Ok.on {D : Dv} (ok : D.Ok) : Dv.Ok { D with cut := -1, off := false } :=
  ⟨⟨ok.g.nb, ok.g.P, ok.g.sz, ok.g.en⟩, ok.n, ok.byt, by show (-1 : Int) ≤ -1 ∧ (-1 : Int) < 1000; omega, fun i hi => let a := ok.bl i hi; ⟨a.nx, a.lo, a.hi, a.pg, a.er⟩⟩
/-- A change of the device leaves older blocks alone that have no colour. -/
theorem Ch.out {κ κ' : Nat → Nat} {h0 h h' : H} (q : Ch κ h κ' h') (w : K0 h0 h) (z : ∀ b, b < h0.n → κ b = 0) : K0 h0 h' :=
  Kp.trS q.k (fun i hi hs => by have := z i hi; omega) w
theorem Ch.z {κ κ' : Nat → Nat} {h0 h h' : H} (q : Ch κ h κ' h') (w : K0 h0 h) (z : ∀ b, b < h0.n → κ b = 0) : ∀ b, b < h0.n → κ' b = 0 := fun b hb => (q.col b (Nat.lt_of_lt_of_le hb w.n)).trans (z b hb)
theorem ext_z {κ : Nat → Nat} {n m : Nat} (z : ∀ b, b < m → κ b = 0) : ∀ b, b < m → ext κ n b = 0 := fun b hb => ext_0 fun _ => z b hb

theorem RDev.cnt {κ : Nat → Nat} {h : H} {D D' : Dv} {fb pb eb ecap : Nat} (q : RDev κ h D (rvC D fb pb eb ecap)) (ok : D'.Ok) (h1 : D'.nb = D.nb) (h2 : D'.P = D.P) (h3 : D'.bl = D.bl) : RDev κ h D' (rvC D' fb pb eb ecap) := by
  obtain ⟨_, fb1, pb1, eb1, ecap1, cp, ce, e, hec, r⟩ := q
  simp only [rvC, rvL, List.cons.injEq, AV.slc.injEq, true_and, and_true] at e
  obtain ⟨rfl, rfl, rfl, rfl⟩ := e
  exact ⟨ok, fb, pb, eb, ecap, cp, ce, rfl, by rw [h1]; exact hec, r.same h1 h2 h3⟩
def z11 : List AV := [.int .i64 ((0 : Nat) : Int), .int .i64 ((0 : Nat) : Int), .int .i64 ((0 : Nat) : Int), .int .i64 ((0 : Nat) : Int), .nils, .nils, .nils, .int .i64 ((0 : Nat) : Int), .int .i64 ((0 : Nat) : Int), .int .i64 ((0 : Nat) : Int), .bool false]

/-- Side by side: the device, the reference's value in a cell of the function's own, the geometry, the steps. -/
structure BI (κ : Nat → Nat) (h : H) (a2 a5 a9 d : Nat) (gl : List AV) (D D2 : Dv) (rv : List AV) (v : AV) (l : List (St × AV)) : Prop where
  dv : DevR κ h d D
  rd : RDev κ h D2 rv
  k2 : Bk h a2 gl
  k5 : Bk h a5 z11
  k9 : Bk h a9 rv
  c2 : κ a2 = 100
  c5 : κ a5 = 100
  c9 : κ a9 = 100
  st : StR κ h v l
section
variable {κ κ' : Nat → Nat} {h h' : H} {a2 a5 a9 d : Nat} {gl : List AV} {D D' D2 D2' : Dv} {rv rv' : List AV} {v : AV} {l : List (St × AV)}
theorem BI.k0 (q : BI κ h a2 a5 a9 d gl D D2 rv v l) (k : K0 h h') : BI (ext κ h.n) h' a2 a5 a9 d gl D D2 rv v l :=
  ⟨q.dv.ext k, q.rd.fw (K0.fwe k), bk_k0 k q.k2, bk_k0 k q.k5, bk_k0 k q.k9, (ext_lt q.k2.lt).trans q.c2, (ext_lt q.k5.lt).trans q.c5, (ext_lt q.k9.lt).trans q.c9, q.st.fw (K0.fwe k)⟩
theorem BI.col (q : BI κ h a2 a5 a9 d gl D D2 rv v l) (k : K0 h h') (hc : ∀ b, b < h.n → κ' b = κ b) : BI κ' h' a2 a5 a9 d gl D D2 rv v l :=
  have f : Fw κ h κ' h' := ⟨k.n, fun b hb _ => k.old b hb fun f => f, hc⟩
  ⟨(q.dv.recol hc).k0 k, q.rd.fw f, bk_k0 k q.k2, bk_k0 k q.k5, bk_k0 k q.k9, (hc _ q.k2.lt).trans q.c2, (hc _ q.k5.lt).trans q.c5, (hc _ q.k9.lt).trans q.c9, q.st.fw f⟩
theorem BI.ch (q : BI κ h a2 a5 a9 d gl D D2 rv v l) (c : Ch κ h κ' h') (r : DevR κ' h' d D') : BI κ' h' a2 a5 a9 d gl D' D2 rv v l :=
  ⟨r, q.rd.fw c.fw, bk_k c.k (by rw [q.c2]; omega) q.k2, bk_k c.k (by rw [q.c5]; omega) q.k5, bk_k c.k (by rw [q.c9]; omega) q.k9,
   (c.col _ q.k2.lt).trans q.c2, (c.col _ q.k5.lt).trans q.c5, (c.col _ q.k9.lt).trans q.c9, q.st.fw c.fw⟩
theorem BI.w9 {n : Nat} {t : T Blk} {lh : List (Nat × Option Blk)} (q : BI κ (hp n t lh) a2 a5 a9 d gl D D2 rv v l) (r : RDev κ (hp n t lh) D2' rv') (h1 : a2 ≠ a9) (h2 : a5 ≠ a9) :
    BI κ (hp n t ((a9, some (cl rv')) :: lh)) a2 a5 a9 d gl D D2' rv' v l := by
  have k : Kp (fun b => b = a9) (hp n t lh) (hp n t ((a9, some (cl rv')) :: lh)) := ⟨Nat.le_refl _, fun b _ hb => get_ne _ _ _ _ hb⟩
  have k1 : Kp (fun b => 100 ≤ κ b) (hp n t lh) (hp n t ((a9, some (cl rv')) :: lh)) := k.mono fun b e => by subst e; rw [q.c9]; exact Nat.le_refl _
  have f : Fw κ (hp n t lh) κ (hp n t ((a9, some (cl rv')) :: lh)) := k.fw fun b _ e => by subst e; rw [q.c9]; omega
  exact ⟨q.dv.kb k1, r.fw f, bk_n h1 q.k2, bk_n h2 q.k5, bk_ow q.k9, q.c2, q.c5, q.c9, q.st.fw f⟩
end
/-- At the head of the loop. -/
structure BJ (h0 : H) (κ : Nat → Nat) (h : H) (a9 d : Nat) (gl : List AV) (g2 i : Nat) (D : Dv) (rv : List AV) (v : AV) (l : List (St × AV)) : Prop where
  q : BI κ h h0.n (h0.n + 1) a9 d gl D D rv v l
  n : D.n ≤ i
  off : D.off = false
  sz : D.sz = g2
  k : K0 h0 h
  z : ∀ b, b < h0.n → κ b = 0
def BT (i a2 a9 d : Nat) (v : AV) : List (Nat × Option AV) := [(11, some (.int .i64 ((i : Nat) : Int))), (1, some v), (2, some (.ptr a2 0)), (5, some (.ptr (a2 + 1) 0)), (7, some (.ptr d 0)), (9, some (.ptr a9 0))]
theorem EntR.plain {κ : Nat → Nat} {h : H} {v : AV} {l : List Ent} (k : EntR κ h v l) : plainV v = true := by
  rcases k.ex with ⟨_, rfl⟩ | ⟨_, _, rfl⟩ | ⟨b, cap, rfl, _⟩ <;> rfl
end Go.Ev

