/- The reader of bytes. -/
import Derived.Test.YtclfgfpebplncaaGreatLgC
import Derived.Test.YtclfgfpebplncaaGreatRfB
import Derived.Test.YtclfgfpebplncaaGreatDg
set_option linter.unusedVariables false
set_option linter.unusedSectionVars false
set_option linter.unusedSimpArgs false
set_option maxRecDepth 10000
set_option maxHeartbeats 4000000
namespace Go.Ev
section
variable {P0 : Program} {E : Env} {F : T CFn} {K : T (List AV × AV)} (L : Lg P0 E F K) (X : Fx F K)
include L X
section
variable {h : H}
theorem newReader_ct {b o n c : Nat} {bs : List Nat} (k : BS h b o bs) (e : bs.length = n) (h1 : 0 < n ∧ n < 1000) :
    Ct P0 E F K 152 [.slc b o n c] h fun v h' => ∃ r cb, v = .ptr r 0 ∧ Bk h' r [.slc cb 0 n (capU + 1), .int .i64 ((0 : Nat) : Int)] ∧ BS h' cb 0 bs ∧ h.n ≤ cb ∧ h.n ≤ r ∧ cb ≠ r ∧ K0 h h' := by
  refine ct_in1 L X.f152 X.k152 rfl rfl fun Q x cs G => ?_
  refine wk ?_
  refine cal (c := clone_ct L X lkb e h1) (g := ?_)
  rintro _ h2 ⟨cb, rfl, w1, w2, w3⟩
  have n2 := w3.n
  have l2 := w1.lt_n
  simp only [hp_n] at w2 n2
  refine wk ?_
  refine ret X.f152 ?_
  exact ⟨h2.n, cb, rfl, lkp, lkb, by omega, by omega, by omega, kps⟩
theorem state_ct {r : Nat} : Ct P0 E F K 202 [.ptr r 0] h fun v h' => v = .ptr r 0 ∧ h' = h := by
  refine ct_in1 L X.f202 X.k202 rfl rfl fun Q x cs G => ?_
  refine wk ?_
  refine ret X.f202 ?_
  exact ⟨rfl, rfl⟩
theorem take_ct {r cb o n at_ m : Nat} (k : Bk h r [.slc cb o n (capU + 1), .int .i64 ((at_ : Nat) : Int)]) (hm : m ≤ n) (hn : n < 1000) (ha : at_ < 1000) :
    Ct P0 E F K 203 [.ptr r 0, .int .i64 ((m : Nat) : Int)] h fun v h' => v = .tup [.slc cb o m m, .int .i64 ((0 : Nat) : Int)] ∧ Bk h' r [.slc cb (o + m) (n - m) (capU + 1), .int .i64 ((at_ + m : Nat) : Int)] ∧ Kp (fun j => j = r) h h' := by
  refine ct_in2 L X.f203 X.k203 rfl rfl fun Q x cs G => ?_
  refine wk ?_
  (apply estSG L rfl rfl rfl rfl rfl rfl rfl; exact lkp; rfl; intro h9 hs9; (repeat (first | (apply pst1 rfl rfl; exact opv) | (apply psk1 rfl rfl))); (first | (apply p_0; exact chk) | (refine p_e1 L ?_ rfl ?_; exact chk)); refine g_hp L hs9 ?_)
  refine wk ?_
  refine ret X.f203 ?_
  exact ⟨rfl, lkp, kps⟩
theorem wget_ct {b o n c : Nat} {bs : List Nat} {a : Nat} (k : BS h b o ((bs.drop a).take n)) (hl : a + n ≤ bs.length) (hn : 1 ≤ n ∧ n ≤ 8) :
    Ct P0 E F K 156 [.slc b o n c] h fun v h' => v = .tup [.int .u64 ((leF bs a n : Nat) : Int), .int .i64 ((0 : Nat) : Int)] ∧ h' = h := by
  have hall := k.all
  have hkl : ((bs.drop a).take n).length = n := by rw [List.length_take, List.length_drop]; omega
  have hgd : ∀ i, i < n → ((bs.drop a).take n).getD i 0 = bs.getD (a + i) 0 := fun i hi => by
    simp only [List.getD_eq_getElem?_getD]
    rw [List.getElem?_take_of_lt hi, List.getElem?_drop]
  have hlt : ∀ i, i ≤ n → leF bs a i < 256 ^ i := by
    intro i
    induction i with
    | zero => intro _; simp [leF]
    | succ i ih =>
      intro hi
      have h1 := ih (by omega)
      have h2 := getD_all hall i
      rw [hgd i (by omega)] at h2
      rw [leF_snoc, Nat.pow_succ]
      have : bs.getD (a + i) 0 * 256 ^ i ≤ 255 * 256 ^ i := Nat.mul_le_mul_right _ (by omega)
      omega
  refine ct_in1 L X.f156 X.k156 rfl rfl fun Q x cs G => ?_
  refine wk ?_
  refine g_up L (α := Nat) (T := fun i u => [(16, some (.int .i64 ((i : Nat) : Int))), (15, some (.int .i64 ((n : Nat) : Int))), (14, some (.slc b o n c)), (2, some (.int .u64 ((u : Nat) : Int)))]) (n := n)
    (R := fun i u h1 => h1 = h ∧ u = leF bs a i) (i0 := 0) 0 tsb ⟨rfl, rfl⟩ (Nat.zero_le _) ?_ ?_
  · rintro i u h1 hi ⟨rfl, w1⟩ ih
    have h1' := hlt i (by omega)
    rw [← w1] at h1'
    have hb := getD_all hall i
    rw [hgd i hi] at hb
    have hlt2 := hlt (i + 1) (by omega)
    rw [leF_snoc, ← w1] at hlt2
    have hp : 256 ^ (i + 1) ≤ 256 ^ 8 := Nat.pow_le_pow_right (by omega) (by omega)
    have hp2 : (256 : Nat) ^ 8 = 18446744073709551616 := by decide
    have hpe : 2 ^ (8 * i) = 256 ^ i := (pow256 i).symm
    refine wk ?_
    (apply st1 L rfl; exact bs_load k rfl (by omega); rfl)
    rw [hgd i hi]
    refine wk ?_
    (apply st1 L rfl; exact w_shl (s := 8 * i) rfl rfl rfl (by show 8 * i ≤ 64; omega); rfl)
    rw [hpe, show (bs.getD (a + i) 0 * 256 ^ i) % pw .u64 = bs.getD (a + i) 0 * 256 ^ i from Nat.mod_eq_of_lt (by simp only [pw]; omega)]
    have hor : u ||| bs.getD (a + i) 0 * 256 ^ i = u + bs.getD (a + i) 0 * 256 ^ i := by
      have := Nat.shiftLeft_add_eq_or_of_lt (i := 8 * i) (show u < 2 ^ (8 * i) by rw [hpe]; exact h1') (bs.getD (a + i) 0)
      rw [Nat.shiftLeft_eq, hpe] at this
      rw [Nat.or_comm, ← this, Nat.add_comm]
    refine wk ?_
    (apply st1 L rfl; exact w_or rfl rfl rfl (by simp only [pw]; omega) (by simp only [pw]; omega) (by rw [hor]; simp only [pw]; omega); rfl)
    rw [hor]
    refine wk ?_
    refine ih _ _ _ ⟨rfl, ?_⟩ tsb
    rw [leF_snoc, ← w1]
  · rintro u h1 ⟨rfl, w1⟩
    refine wk ?_
    refine ret X.f156 ?_
    rw [w1]
    exact ⟨rfl, rfl⟩
theorem field_ct {r cb o n at_ m a : Nat} {bs : List Nat} (k : Bk h r [.slc cb o n (capU + 1), .int .i64 ((at_ : Nat) : Int)]) (kb : BS h cb o ((bs.drop a).take m)) (hl : a + m ≤ bs.length) (hm : m ≤ n) (hm1 : 1 ≤ m ∧ m ≤ 8) (hn : n < 1000) (ha : at_ < 1000) (hne : cb ≠ r) :
    Ct P0 E F K 223 [.ptr r 0, .int .i64 ((m : Nat) : Int)] h fun v h' => ∃ b, v = .tup [.slc b 0 1 1, .int .i64 ((0 : Nat) : Int)] ∧ Bk h' b [.int .u64 ((leF bs a m : Nat) : Int)] ∧ h.n ≤ b ∧ Bk h' r [.slc cb (o + m) (n - m) (capU + 1), .int .i64 ((at_ + m : Nat) : Int)] ∧ Kp (fun j => j = r) h h' := by
  have l1 := k.lt
  refine ct_in2 L X.f223 X.k223 rfl rfl fun Q x cs G => ?_
  refine wk ?_
  refine cal (c := take_ct L X lkp hm hn ha) (g := ?_)
  rintro _ h2 ⟨rfl, w1, w2⟩
  have n2 := w2.n
  simp only [hp_n] at n2
  refine wk ?_
  refine cal (c := wget_ct L X lkb hl hm1) (g := ?_)
  rintro _ rfl
  refine wk ?_
  refine ret X.f223 ?_
  exact ⟨h2.n, rfl, lkp, by omega, lkp, kps⟩
theorem each_ct {r cb o n at_ m a sb : Nat} {bs : List Nat} (ks : Bk h sb [.int .i64 ((m : Nat) : Int)]) (k : Bk h r [.slc cb o n (capU + 1), .int .i64 ((at_ : Nat) : Int)]) (kb : BS h cb o ((bs.drop a).take m)) (hl : a + m ≤ bs.length) (hm : m ≤ n) (hm1 : 1 ≤ m ∧ m ≤ 8) (hn : n < 1000) (ha : at_ < 1000) (hne : cb ≠ r) :
    Ct P0 E F K 222 [.slc sb 0 1 1, .fn (.func 223) [.ptr r 0] []] h fun v h' => ∃ b, v = .tup [.slc b 0 1 (capU + 1), .int .i64 ((0 : Nat) : Int)] ∧ Bk h' b [.int .u64 ((leF bs a m : Nat) : Int)] ∧ h.n ≤ b ∧ Bk h' r [.slc cb (o + m) (n - m) (capU + 1), .int .i64 ((at_ + m : Nat) : Int)] ∧ Kp (fun j => j = r) h h' := by
  have l1 := k.lt
  refine ct_in2 L X.f222 X.k222 rfl rfl fun Q x cs G => ?_
  refine wk ?_
  refine g_loop L ?_
  refine wk ?_
  refine callA L rfl rfl rfl rfl rfl (Ct.A (field_ct L X (bs := bs) (a := a) k (by exact kb) hl hm hm1 hn ha hne)) ?_
  rintro _ h2 ⟨b, rfl, w1, w2, w3, w4⟩
  have n2 := w4.n
  have l3 := w3.lt
  have l4 := w1.lt
  refine wk ?_
  (apply st1 L rfl; exact ap_n (n2 := 1) (new := [.int .u64 ((leF bs a m : Nat) : Int)]) rfl rfl (SlR.of (c := [.int .u64 ((leF bs a m : Nat) : Int)]) lkp (Nat.le_refl _) rfl) (by omega) (by omega); rfl)
  refine wk ?_
  refine g_inLoop L ?_
  refine wk ?_
  refine ret X.f222 ?_
  exact ⟨h2.n, rfl, lkp, by omega, lkp, kps⟩
end

end
end Go.Ev

namespace Go.Ev
section
variable {P0 : Program} {E : Env} {F : T CFn} {K : T (List AV × AV)} (L : Lg P0 E F K) (X : Fx F K)
include L X
section
variable {h : H}
theorem all_rd_ct {r cb o n at_ m a sb : Nat} {bs : List Nat} (ks : Bk h sb [.int .i64 ((m : Nat) : Int)]) (k : Bk h r [.slc cb o n (capU + 1), .int .i64 ((at_ : Nat) : Int)]) (kb : BS h cb o ((bs.drop a).take m)) (hl : a + m ≤ bs.length) (hm : m ≤ n) (hm1 : 1 ≤ m ∧ m ≤ 8) (hn : n < 1000) (ha : at_ < 1000) (hne : cb ≠ r) :
    Ct P0 E F K 200 [.ptr r 0, .slc sb 0 1 1] h fun v h' => ∃ b, v = .tup [.slc b 0 1 (capU + 1), .int .i64 ((0 : Nat) : Int)] ∧ Bk h' b [.int .u64 ((leF bs a m : Nat) : Int)] ∧ h.n ≤ b ∧ Bk h' r [.slc cb (o + m) (n - m) (capU + 1), .int .i64 ((at_ + m : Nat) : Int)] ∧ Kp (fun j => j = r) h h' := by
  have l1 := k.lt
  have l2 := ks.lt
  have l3 := kb.lt_n
  refine ct_in2 L X.f200 X.k200 rfl rfl fun Q x cs G => ?_
  refine wk ?_
  refine cal (c := state_ct L X) (g := ?_)
  rintro _ rfl
  refine wk ?_
  refine cal (c := each_ct L X (a := a) (bs := bs) (at_ := at_) (n := n) lkp lkp lkb hl hm hm1 hn ha (by omega)) (g := ?_)
  rintro _ h2 ⟨b, rfl, w1, w2, w3, w4⟩
  have n2 := w4.n
  have l4 := w1.lt
  have l5 := w3.lt
  simp only [hp_n] at n2 w2
  refine wk ?_
  refine ret X.f200 ?_
  exact ⟨b, rfl, lkp, by omega, lkp, kps⟩
theorem next_rd_ct {r cb o n at_ m a : Nat} {bs : List Nat} (k : Bk h r [.slc cb o n (capU + 1), .int .i64 ((at_ : Nat) : Int)]) (kb : BS h cb o ((bs.drop a).take m)) (hl : a + m ≤ bs.length) (hm : m ≤ n) (hm1 : 1 ≤ m ∧ m ≤ 8) (hn : n < 1000) (ha : at_ < 1000) (hne : cb ≠ r) :
    Ct P0 E F K 154 [.ptr r 0, .int .i64 ((m : Nat) : Int)] h fun v h' => v = .tup [.int .u64 ((leF bs a m : Nat) : Int), .int .i64 ((0 : Nat) : Int)] ∧ Bk h' r [.slc cb (o + m) (n - m) (capU + 1), .int .i64 ((at_ + m : Nat) : Int)] ∧ Kp (fun j => j = r) h h' := by
  have l1 := k.lt
  have l3 := kb.lt_n
  refine ct_in2 L X.f154 X.k154 rfl rfl fun Q x cs G => ?_
  refine wk ?_
  refine cal (c := all_rd_ct L X (a := a) (bs := bs) (at_ := at_) (n := n) (cb := cb) (o := o) lkp lkp lkb hl hm hm1 hn ha hne) (g := ?_)
  rintro _ h2 ⟨b, rfl, w1, w2, w3, w4⟩
  have n2 := w4.n
  have l4 := w1.lt
  have l5 := w3.lt
  simp only [hp_n] at n2 w2
  refine wk ?_
  refine ret X.f154 ?_
  exact ⟨rfl, lkp, kps⟩
theorem at_ct {r at_ : Nat} {v0 : AV} (k : Bk h r [v0, .int .i64 ((at_ : Nat) : Int)]) : Ct P0 E F K 159 [.ptr r 0] h fun v h' => v = .int .i64 ((at_ : Nat) : Int) ∧ h' = h := by
  refine ct_in1 L X.f159 X.k159 rfl rfl fun Q x cs G => ?_
  refine wk ?_
  refine cal (c := state_ct L X) (g := ?_)
  rintro _ rfl
  refine wk ?_
  refine ret X.f159 ?_
  exact ⟨rfl, rfl⟩
theorem zeros1_ct {v : Nat} : Ct P0 E F K 205 [.int .u8 ((v : Nat) : Int)] h fun u h' => u = .bool (decide (v ≠ 0)) ∧ h' = h := by
  refine ct_in1 L X.f205 X.k205 rfl rfl fun Q x cs G => ?_
  refine wk ?_
  by_cases hv : v = 0
  · refine wk ?_
    refine ret X.f205 ?_
    exact ⟨by rw [decide_eq_false (by omega)]; rfl, rfl⟩
  · refine wk ?_
    refine ret X.f205 ?_
    exact ⟨by rw [decide_eq_true (by omega)]; rfl, rfl⟩
/-- All bytes are zero. -/
def zer (bs : List Nat) (a n : Nat) : Bool := (List.range n).all fun i => decide (bs.getD (a + i) 0 = 0)
omit L X in
theorem zer_t {bs : List Nat} {a n : Nat} (h : ∀ i, i < n → bs.getD (a + i) 0 = 0) : zer bs a n = true := by
  unfold zer; rw [List.all_eq_true]; intro i hi; exact decide_eq_true (h i (List.mem_range.1 hi))
omit L X in
theorem zer_f {bs : List Nat} {a n i : Nat} (hi : i < n) (h : bs.getD (a + i) 0 ≠ 0) : zer bs a n = false := by
  cases hz : zer bs a n with
  | false => rfl
  | true =>
    unfold zer at hz
    rw [List.all_eq_true] at hz
    exact absurd (of_decide_eq_true (hz i (List.mem_range.2 hi))) h
theorem indexB_ct {b o n c a : Nat} {bs : List Nat} (k : BS h b o ((bs.drop a).take n)) (hl : a + n ≤ bs.length) (hn : n < 1000) :
    Ct P0 E F K 225 [.slc b o n c, .fn (.func 205) [] []] h fun v h' => (∃ i : Int, v = .int .i64 i ∧ (0 ≤ i ↔ zer bs a n = false) ∧ -1 ≤ i ∧ i < 1000) ∧ h' = h := by
  have hkl : ((bs.drop a).take n).length = n := by rw [List.length_take, List.length_drop]; omega
  have hgd : ∀ i, i < n → ((bs.drop a).take n).getD i 0 = bs.getD (a + i) 0 := fun i hi => by
    simp only [List.getD_eq_getElem?_getD]
    rw [List.getElem?_take_of_lt hi, List.getElem?_drop]
  refine ct_in2 L X.f225 X.k225 rfl rfl fun Q x cs G => ?_
  refine wk ?_
  refine g_up L (α := Unit) (T := fun i _ => [(8, some (.int .i64 ((i : Nat) : Int))), (7, some (.int .i64 ((n : Nat) : Int))), (0, some (.slc b o n c)), (1, some (.fn (.func 205) [] []))]) (n := n)
    (R := fun i _ h1 => h1 = h ∧ ∀ j, j < i → bs.getD (a + j) 0 = 0) (i0 := 0) () tsb ⟨rfl, fun j hj => absurd hj (Nat.not_lt_zero j)⟩ (Nat.zero_le _) ?_ ?_
  · rintro i _ h1 hi ⟨rfl, w1⟩ ih
    refine wk ?_
    (apply st1 L rfl; exact bs_load k rfl (by omega); rfl)
    rw [hgd i hi]
    refine wk ?_
    refine cal (c := zeros1_ct L X) (g := ?_)
    rintro _ rfl
    by_cases hz : bs.getD (a + i) 0 = 0
    · rw [decide_eq_false (show ¬ bs.getD (a + i) 0 ≠ 0 from fun q => q hz)]
      refine wk ?_
      refine ih () _ _ ⟨rfl, fun j hj => ?_⟩ tsb
      by_cases e : j = i
      · rw [e]; exact hz
      · exact w1 j (by omega)
    · rw [decide_eq_true (show bs.getD (a + i) 0 ≠ 0 from hz)]
      refine wk ?_
      refine ret X.f225 ?_
      exact ⟨⟨i, rfl, by rw [zer_f hi hz]; simp, by omega, by omega⟩, rfl⟩
  · rintro _ h1 ⟨rfl, w1⟩
    refine wk ?_
    refine ret X.f225 ?_
    exact ⟨⟨-1, rfl, by rw [zer_t w1]; simp, by omega, by omega⟩, rfl⟩
theorem containsB_ct {b o n c a : Nat} {bs : List Nat} (k : BS h b o ((bs.drop a).take n)) (hl : a + n ≤ bs.length) (hn : n < 1000) :
    Ct P0 E F K 204 [.slc b o n c, .fn (.func 205) [] []] h fun v h' => v = .bool (!zer bs a n) ∧ h' = h := by
  refine ct_in2 L X.f204 X.k204 rfl rfl fun Q x cs G => ?_
  refine wk ?_
  refine cal (c := indexB_ct L X (bs := bs) (a := a) lkb hl hn) (g := ?_)
  rintro _ ⟨i, rfl, w1, w2, w3⟩
  cases hz : zer bs a n with
  | false =>
    have h0 := w1.2 hz
    refine wk ?_
    refine ret X.f204 ?_
    exact ⟨by rw [hz]; rfl, rfl⟩
  | true =>
    have h0 : ¬ 0 ≤ i := fun q => by rw [w1.1 q] at hz; cases hz
    refine wk ?_
    refine ret X.f204 ?_
    exact ⟨by rw [hz]; rfl, rfl⟩
theorem zeros_ct {r cb o n at_ m a : Nat} {bs : List Nat} (k : Bk h r [.slc cb o n (capU + 1), .int .i64 ((at_ : Nat) : Int)]) (kb : BS h cb o ((bs.drop a).take m)) (hl : a + m ≤ bs.length) (hm : m ≤ n) (hn : n < 1000) (ha : at_ < 1000) (hne : cb ≠ r) :
    Ct P0 E F K 158 [.ptr r 0, .int .i64 ((m : Nat) : Int)] h fun v h' => v = .int .i64 ((if zer bs a m = true then 0 else 6 : Nat) : Int) ∧ (zer bs a m = true → Bk h' r [.slc cb (o + m) (n - m) (capU + 1), .int .i64 ((at_ + m : Nat) : Int)]) ∧ Kp (fun j => j = r) h h' := by
  have l1 := k.lt
  have l3 := kb.lt_n
  refine ct_in2 L X.f158 X.k158 rfl rfl fun Q x cs G => ?_
  refine wk ?_
  refine cal (c := state_ct L X) (g := ?_)
  rintro _ rfl
  refine wk ?_
  refine cal (c := take_ct L X (at_ := at_) (n := n) (cb := cb) (o := o) lkp hm hn ha) (g := ?_)
  rintro _ h2 ⟨rfl, w1, w2⟩
  have n2 := w2.n
  simp only [hp_n] at n2
  refine wk ?_
  refine cal (c := containsB_ct L X (bs := bs) (a := a) lkb hl (by omega)) (g := ?_)
  rintro _ rfl
  cases hz : zer bs a m with
  | true =>
    refine wk ?_
    refine ret X.f158 ?_
    rw [if_pos hz]
    exact ⟨rfl, fun _ => lkp, kps⟩
  | false =>
    refine wk ?_
    refine ret X.f158 ?_
    rw [if_neg (by rw [hz]; simp)]
    refine ⟨rfl, ?_, kps⟩
    intro q
    first | (cases q; done) | (rw [hz] at q; cases q)
end


end
end Go.Ev

namespace Go.Ev
section
variable {P0 : Program} {E : Env} {F : T CFn} {K : T (List AV × AV)} (L : Lg P0 E F K) (X : Fx F K)
include L X
section
variable {h : H}
theorem check_ct {b1 o1 n1 c1 b2 o2 : Nat} {data ex : List Nat} (T : Tb P0 E F K) (k1 : BS h b1 o1 data) (k2 : BS h b2 o2 ex) (e1 : data.length = n1) (e2 : ex.length = 64) (h1 : 0 < n1 ∧ n1 < 1000) :
    Ct P0 E F K 157 [.slc b1 o1 n1 c1, .slc b2 o2 64 (capU + 1)] h fun v h' => v = .int .u64 ((crcB (data ++ ex.take 60) : Nat) : Int) ∧ K0 h h' := by
  have l1 := k1.lt_n
  have l2 := k2.lt_n
  have hcl := crcB_lt (data ++ ex.take 60)
  have e3 : (ex.take 60).length = 60 := by rw [List.length_take]; omega
  refine ct_in2 L X.f157 X.k157 rfl rfl fun Q x cs G => ?_
  refine wk ?_
  refine cal (c := concat_ct L X (bs1 := data) (bs2 := ex.take 60) lkp lkb (BS.part (a := 0) (k := by exact lkb) (by omega)) e1 e3 h1 (by omega)) (g := ?_)
  rintro _ h2 ⟨b, rfl, w1, w2, w3⟩
  have n2 := w3.n
  have l3 := w1.lt_n
  simp only [hp_n] at n2 w2
  refine wk ?_
  refine cal (c := crc_ct L X T (bs := data ++ ex.take 60) lkb (by rw [List.length_append]; omega) (by omega)) (g := ?_)
  rintro _ h3 ⟨rfl, w4⟩
  refine wk ?_
  refine ret X.f157 ?_
  exact ⟨rfl, kps⟩
theorem mustT_ct {e : Int} : Ct P0 E F K 151 [.bool true, .int .i64 e] h fun v h' => v = .tup [] ∧ h' = h := by
  refine ct_in2 L X.f151 X.k151 rfl rfl fun Q x cs G => ?_
  refine wk ?_
  refine ret X.f151 ?_
  exact ⟨rfl, rfl⟩
theorem mustF_ct {e : Int} : CtP P0 E F K 151 [.bool false, .int .i64 e] h fun v h' => v = .ifc 34 (.int .i64 e) ∧ h' = h := by
  refine ctp_inG L X.f151 X.k151 rfl rfl rfl fun Q x cs G => ?_
  refine wk ?_
  refine st_panic L rfl rfl ?_
  refine g_throw L X.f151 ?_
  exact G _ _ ⟨rfl, rfl⟩
theorem dec2_ct {r cb o n at_ m a rb : Nat} {bs : List Nat} (kr : Bk h rb [.ptr r 0]) (k : Bk h r [.slc cb o n (capU + 1), .int .i64 ((at_ : Nat) : Int)]) (kb : BS h cb o ((bs.drop a).take m)) (hall : AllB bs) (hl : a + m ≤ bs.length) (hm : m ≤ n) (hm1 : 1 ≤ m ∧ m ≤ 4) (hn : n < 1000) (ha : at_ < 1000) (hne : cb ≠ r) :
    Ct P0 E F K 153 [.int .i64 ((m : Nat) : Int), .ptr rb 0] h fun v h' => v = .int .i64 ((leF bs a m : Nat) : Int) ∧ Bk h' r [.slc cb (o + m) (n - m) (capU + 1), .int .i64 ((at_ + m : Nat) : Int)] ∧ Kp (fun j => j = r) h h' := by
  have hlt := leF_lt hall m a
  have hp : 256 ^ m ≤ 256 ^ 4 := Nat.pow_le_pow_right (by omega) (by omega)
  have hlt2 : leF bs a m < 4294967296 := Nat.lt_of_lt_of_le hlt hp
  clear hp hlt
  refine ct_in2 L X.f153 X.k153 rfl rfl fun Q x cs G => ?_
  refine wk ?_
  refine cal (c := next_rd_ct L X (a := a) (bs := bs) (at_ := at_) (n := n) (cb := cb) (o := o) lkp lkb hl hm (by omega) hn ha hne) (g := ?_)
  rintro _ h2 ⟨rfl, w1, w2⟩
  refine wk ?_
  refine cal (c := mustT_ct L X) (g := ?_)
  rintro _ ⟨rfl⟩
  refine wk ?_
  refine ret X.f153 ?_
  exact ⟨rfl, lkp, kps⟩
theorem dec3_ct {r cb o n at_ a rb : Nat} {bs : List Nat} (kr : Bk h rb [.ptr r 0]) (k : Bk h r [.slc cb o n (capU + 1), .int .i64 ((at_ : Nat) : Int)]) (kb : BS h cb o ((bs.drop a).take 8)) (hl : a + 8 ≤ bs.length) (hm : 8 ≤ n) (hn : n < 1000) (ha : at_ < 1000) (hne : cb ≠ r) :
    Ct P0 E F K 155 [.ptr rb 0] h fun v h' => v = .int .u64 ((leF bs a 8 : Nat) : Int) ∧ Bk h' r [.slc cb (o + 8) (n - 8) (capU + 1), .int .i64 ((at_ + 8 : Nat) : Int)] ∧ Kp (fun j => j = r) h h' := by
  refine ct_in1 L X.f155 X.k155 rfl rfl fun Q x cs G => ?_
  refine wk ?_
  refine cal (c := next_rd_ct L X (a := a) (m := 8) (bs := bs) (at_ := at_) (n := n) (cb := cb) (o := o) lkp lkb hl hm (by omega) hn ha hne) (g := ?_)
  rintro _ h2 ⟨rfl, w1, w2⟩
  refine wk ?_
  refine cal (c := mustT_ct L X) (g := ?_)
  rintro _ ⟨rfl⟩
  refine wk ?_
  refine ret X.f155 ?_
  exact ⟨rfl, lkp, kps⟩
/-- Behind an error: what was deferred takes it up. -/
theorem dec_thrown {Q : Nat → AV → Prop} {nt : Nat} {l : List (Nat × Option AV)} {todo : List AItem} {z : AFr} {cs : List AFr} {b4 b5 : Nat} {e : Int} {x0 x1 x2 x3 x4 x5 y0 : AV} {post : AV → H → Prop} (t4 : look l 4 = some (.ptr b4 0)) (t5 : look l 5 = some (.ptr b5 0))
    (k4 : Bk h b4 [x0, x1, x2, x3, x4, x5]) (k5 : Bk h b5 [y0]) (hne : b4 ≠ b5) (hG : ∀ v h', post v h' → GO P0 E Q (finish v cs h' z))
    (hp1 : ∀ h', Kp (fun j => j = b4 ∨ j = b5) h h' → post (.tup [.agg (spC sp0), .int .i64 e]) h') :
    Good P0 E Q ⟨⟨109, nt, tms l, todo, [.call 150 [.ptr b4 0, .ptr b5 0]], .panicking [(.ifc 34 (.int .i64 e), false)], false, none⟩, z :: cs, h⟩ := by
  have l4 := k4.lt
  have l5 := k5.lt
  refine g_deferred L (by intro q; cases q) X.f150 rfl rfl rfl ?_
  refine st_recover L rfl ?_
  refine wk ?_
  (apply estSG L rfl rfl rfl rfl rfl rfl rfl; exact lkp; rfl; intro h9 hs9; (repeat (first | (apply pst1 rfl rfl; exact opv) | (apply psk1 rfl rfl))); (first | (apply p_0; exact chk) | (refine p_e1 L ?_ rfl ?_; exact chk)); refine g_hp L hs9 ?_)
  refine wk ?_
  refine g_endD L X.f150 rfl ?_
  refine g_resR L X.f109 (r_cellN t4 (Bk.e lkp) rfl (r_cell1 t5 (Bk.e lkp) rfl r_nil)) hG (hp1 _ kps)
/-- Nothing was raised. -/
theorem dec_fine {Q : Nat → AV → Prop} {nt : Nat} {l : List (Nat × Option AV)} {todo : List AItem} {z : AFr} {cs : List AFr} {b4 b5 : Nat} {x0 x1 x2 x3 x4 x5 y0 : AV} {post : AV → H → Prop} (t4 : look l 4 = some (.ptr b4 0)) (t5 : look l 5 = some (.ptr b5 0))
    (k4 : Bk h b4 [x0, x1, x2, x3, x4, x5]) (k5 : Bk h b5 [y0]) (hG : ∀ v h', post v h' → GO P0 E Q (finish v cs h' z))
    (hp1 : post (.tup [.agg [x0, x1, x2, x3, x4, x5], y0]) h) :
    Good P0 E Q ⟨⟨109, nt, tms l, todo, [.call 150 [.ptr b4 0, .ptr b5 0]], .returning, false, none⟩, z :: cs, h⟩ := by
  refine g_deferred L (by intro q; cases q) X.f150 rfl rfl rfl ?_
  refine st_recover0 L rfl ?_
  refine wk ?_
  (apply st1 L rfl; exact w_ifn0 (k := true) rfl rfl; rfl)
  refine wk ?_
  refine g_endD L X.f150 rfl ?_
  refine g_resR L X.f109 (r_cellN t4 (Bk.e lkp) rfl (r_cell1 t5 (Bk.e lkp) rfl r_nil)) hG hp1
end

end
end Go.Ev

