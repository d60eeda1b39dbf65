/- Decode. -/
import Derived.Test.YtclfgfpebplncaaGreatWa
import Derived.Test.YtclfgfpebplncaaGreatSb
set_option linter.unusedVariables false
set_option linter.unusedSectionVars false
set_option linter.unusedSimpArgs false
set_option maxRecDepth 10000
set_option maxHeartbeats 4000000
/- The description in 60 bytes: what has to hold for it to be read. Plain. -/
namespace Go.Ev

theorem take_getD (l : List Nat) (n : Nat) (h : n ≤ l.length) : l.take n = (List.range n).map fun i => l.getD i 0 := by
  apply List.ext_getElem?
  intro i
  by_cases hi : i < n
  · rw [List.getElem?_take_of_lt hi, List.getElem?_map, List.getElem?_range hi, List.getElem?_eq_getElem (by omega)]
    simp [List.getD_eq_getElem?_getD, show i < l.length by omega]
  · rw [List.getElem?_take_eq_none (by omega), List.getElem?_eq_none (by simp; omega)]
theorem getD_drop (l : List Nat) (a i : Nat) : (l.drop a).getD i 0 = l.getD (a + i) 0 := by
  simp only [List.getD_eq_getElem?_getD, List.getElem?_drop]
theorem zer_iff {bs : List Nat} {a n : Nat} : zer bs a n = true ↔ ∀ i, i < n → bs.getD (a + i) 0 = 0 := by
  constructor
  · intro h i hi
    unfold zer at h
    rw [List.all_eq_true] at h
    exact of_decide_eq_true (h i (List.mem_range.2 hi))
  · exact zer_t
theorem take_split (l : List Nat) (a m n : Nat) : (l.drop a).take (m + n) = (l.drop a).take m ++ (l.drop (a + m)).take n := by
  rw [List.take_add, List.drop_drop]

theorem take60_eq (ex : List Nat) : ex.take 60 = ex.take 8 ++ (ex.drop 8).take 8 ++ (ex.drop 16).take 8 ++ (ex.drop 24).take 4 ++ (ex.drop 28).take 4 ++ (ex.drop 32).take 4 ++ (ex.drop 36).take 24 := by
  have h0 : ex.take 60 = (ex.drop 0).take (8 + 52) := rfl
  rw [h0, take_split, show (52 : Nat) = 8 + 44 from rfl, take_split, show (44 : Nat) = 8 + 36 from rfl, take_split, show (36 : Nat) = 4 + 32 from rfl, take_split, show (32 : Nat) = 4 + 28 from rfl, take_split, show (28 : Nat) = 4 + 24 from rfl, take_split]
  simp only [List.append_assoc, List.drop_zero, Nat.zero_add]

theorem take60_iff {ex : List Nat} (ha : AllB ex) (hl : ex.length = 64) : ex.take 60 = head60 (spOf ex) ↔ leF ex 0 4 = 1280591427 ∧ zer ex 5 3 = true ∧ zer ex 36 24 = true := by
  have u1 : u64 (spOf ex).sec = leF ex 24 4 := u64_nat (Nat.lt_trans (leF_lt ha 4 24) (by decide))
  have u2 : u64 (spOf ex).idx = leF ex 28 4 := u64_nat (Nat.lt_trans (leF_lt ha 4 28) (by decide))
  have u3 : u64 (spOf ex).len = leF ex 32 4 := u64_nat (Nat.lt_trans (leF_lt ha 4 32) (by decide))
  have e1 : (spOf ex).seq = leF ex 8 8 := rfl
  have e2 : (spOf ex).prev = leF ex 16 8 := rfl
  have e3 : (spOf ex).kind = ex.getD 4 0 := rfl
  have key : ex.take 60 = head60 (spOf ex) ↔ ex.take 8 = mag (ex.getD 4 0) ∧ (ex.drop 36).take 24 = List.replicate 24 0 := by
    unfold head60
    rw [take60_eq, u1, u2, u3, e1, e2, e3, leb_leF ha 8 8 (by omega), leb_leF ha 8 16 (by omega), leb_leF ha 4 24 (by omega), leb_leF ha 4 28 (by omega), leb_leF ha 4 32 (by omega)]
    constructor
    · intro h
      obtain ⟨q1, q2⟩ := List.append_inj h (by simp [mag]; omega)
      obtain ⟨q3, -⟩ := List.append_inj q1 (by simp [mag]; omega)
      obtain ⟨q4, -⟩ := List.append_inj q3 (by simp [mag]; omega)
      obtain ⟨q5, -⟩ := List.append_inj q4 (by simp [mag]; omega)
      obtain ⟨q6, -⟩ := List.append_inj q5 (by simp [mag]; omega)
      obtain ⟨q7, -⟩ := List.append_inj q6 (by simp [mag]; omega)
      exact ⟨q7, q2⟩
    · rintro ⟨h1, h2⟩
      rw [h1, h2]
  rw [key]
  have b0 := getD_all ha 0
  have b1 := getD_all ha 1
  have b2 := getD_all ha 2
  have b3 := getD_all ha 3
  have hm : ex.take 8 = mag (ex.getD 4 0) ↔ leF ex 0 4 = 1280591427 ∧ zer ex 5 3 = true := by
    rw [take_getD ex 8 (by omega), zer_iff]
    show [ex.getD 0 0, ex.getD 1 0, ex.getD 2 0, ex.getD 3 0, ex.getD 4 0, ex.getD 5 0, ex.getD 6 0, ex.getD 7 0] = [67, 70, 84, 76, ex.getD 4 0, 0, 0, 0] ↔ ex.getD 0 0 + 256 * (ex.getD 1 0 + 256 * (ex.getD 2 0 + 256 * (ex.getD 3 0 + 256 * 0))) = 1280591427 ∧ _
    generalize ex.getD 0 0 = x0 at *
    generalize ex.getD 1 0 = x1 at *
    generalize ex.getD 2 0 = x2 at *
    generalize ex.getD 3 0 = x3 at *
    constructor
    · intro h
      simp only [List.cons.injEq, and_true, true_and] at h
      obtain ⟨h0, h1, h2, h3, h5, h6, h7⟩ := h
      refine ⟨by omega, fun i hi => ?_⟩
      rcases i with _ | _ | _ | i
      · exact h5
      · exact h6
      · exact h7
      · omega
    · rintro ⟨h1, h2⟩
      have := h2 0 (by omega)
      have := h2 1 (by omega)
      have := h2 2 (by omega)
      simp only [List.cons.injEq, and_true, true_and]
      refine ⟨by omega, by omega, by omega, by omega, ?_, ?_, ?_⟩ <;> assumption
  have hz : (ex.drop 36).take 24 = List.replicate 24 0 ↔ zer ex 36 24 = true := by
    rw [take_getD _ 24 (by rw [List.length_drop]; omega), zer_iff]
    constructor
    · intro h i hi
      have := congrArg (fun l => l[i]?) h
      simp only [List.getElem?_map, List.getElem?_range hi, List.getElem?_replicate_of_lt hi, Option.map_some, Option.some.injEq, getD_drop] at this
      exact this
    · intro h
      apply List.ext_getElem?
      intro i
      by_cases hi : i < 24
      · rw [List.getElem?_map, List.getElem?_range hi, List.getElem?_replicate_of_lt hi, Option.map_some, getD_drop, h i hi]
      · rw [List.getElem?_eq_none (by simp; omega), List.getElem?_eq_none (by simp; omega)]
  rw [hm, hz, and_assoc]

theorem decS_some {ex data : List Nat} (ha : AllB ex) (hl : ex.length = 64) (h1 : leF ex 60 4 = crcB (data ++ ex.take 60)) (h2 : leF ex 0 4 = 1280591427) (h3 : zer ex 5 3 = true) (h4 : zer ex 36 24 = true) (h5 : (spOf ex).Valid) : decS ex data = some (spOf ex) :=
  if_pos ⟨h1, h5, (take60_iff ha hl).2 ⟨h2, h3, h4⟩⟩
theorem decS_none {ex data : List Nat} (ha : AllB ex) (hl : ex.length = 64) (h : ¬ (leF ex 60 4 = crcB (data ++ ex.take 60) ∧ leF ex 0 4 = 1280591427 ∧ zer ex 5 3 = true ∧ zer ex 36 24 = true ∧ (spOf ex).Valid)) : decS ex data = none :=
  if_neg fun q => h (let ⟨a, b, c⟩ := (take60_iff ha hl).1 q.2.2; ⟨q.1, a, b, c, q.2.1⟩)
end Go.Ev

namespace Go.Ev
section
variable {P0 : Program} {E : Env} {F : T CFn} {K : T (List AV × AV)} (L : Lg P0 E F K) (X : Fx F K)
include L X
section
variable {h : H}
theorem decode_ct {b1 o1 b2 o2 m c2 : Nat} {ex data : List Nat} (T : Tb P0 E F K) (k1 : BS h b1 o1 ex) (k2 : BS h b2 o2 data) (hl1 : ex.length = 64) (hl2 : data.length = m) (hm : 0 < m ∧ m < 1000) :
    Ct P0 E F K 109 [.slc b1 o1 64 (capU + 1), .slc b2 o2 m c2] h fun v h' => (∃ e : Nat, v = .tup [.agg (spC ((decS ex data).getD sp0)), .int .i64 ((e : Nat) : Int)] ∧ (e = 0 ↔ (decS ex data).isSome = true) ∧ e < 1000) ∧ K0 h h' := by
  have l1 := k1.lt_n
  have l2 := k2.lt_n
  have a1 := k1.all
  have a2 := k2.all
  have g4 : leF ex 4 1 < 256 := leF_lt a1 1 4
  refine ct_in2 L X.f109 X.k109 rfl rfl fun Q x cs G => ?_
  refine wk ?_
  refine st_defer L rfl rfl rfl rfl ?_
  refine wk ?_
  refine cal (c := mustT_ct L X) (g := ?_)
  rintro _ rfl
  refine wk ?_
  refine cal (c := newReader_ct L X (bs := ex) lkb hl1 (by omega)) (g := ?_)
  rintro _ h2 ⟨r, cb, rfl, w1, w2, w3, w4, w5, w6⟩
  have n2 := w6.n
  have m1 := w1.lt
  have m2 := w2.lt_n
  simp only [hp_n] at n2 w3 w4
  refine wk ?_
  refine cal (c := wget_ct L X (n := 4) (a := 60) (bs := ex) (BS.part (k := by exact lkb) (by omega)) (by omega) (by omega)) (g := ?_)
  rintro _ rfl
  refine wk ?_
  refine cal (c := check_ct L X T (data := data) (ex := ex) lkb lkb hl2 hl1 hm) (g := ?_)
  rintro _ h3 ⟨rfl, w7⟩
  have n3 := w7.n
  simp only [hp_n] at n3
  by_cases hc : leF ex 60 4 = crcB (data ++ ex.take 60)
  rotate_left
  · refine wk ?_
    refine callP L rfl rfl rfl rfl rfl (mustF_ct L X) ?_
    rintro _ _ ⟨rfl, rfl⟩
    rw [decS_none a1 hl1 (by intro q; exact hc q.1)] at G
    exact dec_thrown L X rfl rfl lkp lkp (by omega) G fun h9 k9 => ⟨⟨10, rfl, by simp, by omega⟩, Kp.trS k9 (fun i hi e => by omega) kps⟩
  refine wk ?_
  refine cal (c := mustT_ct L X) (g := ?_)
  rintro _ rfl
  refine wk ?_
  refine cal (c := dec2_ct L X (a := 0) (m := 4) (bs := ex) (cb := cb) (o := 0) (at_ := 0) (n := 64) lkp lkp (BS.part (o := 0) (a := 0) (n := 4) (bs := ex) (k := by exact lkb) (by omega)) a1 (by omega) (by omega) (by omega) (by omega) (by omega) w5) (g := ?_)
  rintro _ h4 ⟨rfl, w8, w9⟩
  have n4 := w9.n
  simp only [hp_n] at n4
  by_cases hg : leF ex 0 4 = 1280591427
  rotate_left
  · refine wk ?_
    refine callP L rfl rfl rfl rfl rfl (mustF_ct L X) ?_
    rintro _ _ ⟨rfl, rfl⟩
    rw [decS_none a1 hl1 (by intro q; exact hg q.2.1)] at G
    exact dec_thrown L X rfl rfl lkp lkp (by omega) G fun h9 k9 => ⟨⟨6, rfl, by simp, by omega⟩, Kp.trS k9 (fun i hi e => by omega) kps⟩
  refine wk ?_
  refine cal (c := mustT_ct L X) (g := ?_)
  rintro _ rfl
  refine wk ?_
  refine cal (c := dec2_ct L X (a := 4) (m := 1) (bs := ex) (cb := cb) (o := 0 + 4) (at_ := 0 + 4) (n := 64 - 4) lkp lkp (BS.part (o := 0) (a := 4) (n := 1) (bs := ex) (k := by exact lkb) (by omega)) a1 (by omega) (by omega) (by omega) (by omega) (by omega) w5) (g := ?_)
  rintro _ h5 ⟨rfl, x1, x2⟩
  have n5 := x2.n
  simp only [hp_n] at n5
  refine wk ?_
  refine cal (c := zeros_ct L X (a := 5) (m := 3) (bs := ex) (cb := cb) (o := 0 + 4 + 1) (at_ := 0 + 4 + 1) (n := 64 - 4 - 1) lkp (BS.part (o := 0) (a := 5) (n := 3) (bs := ex) (k := by exact lkb) (by omega)) (by omega) (by omega) (by omega) (by omega) w5) (g := ?_)
  rintro _ h6 ⟨rfl, x3, zh6⟩
  have nh6 := zh6.n
  simp only [hp_n] at nh6
  by_cases hz : zer ex 5 3 = true
  rotate_left
  · rw [if_neg hz]
    refine wk ?_
    refine callP L rfl rfl rfl rfl rfl (mustF_ct L X) ?_
    rintro _ _ ⟨rfl, rfl⟩
    rw [decS_none a1 hl1 (by intro q; exact hz q.2.2.1)] at G
    exact dec_thrown L X rfl rfl lkp lkp (by omega) G fun h9 k9 => ⟨⟨6, rfl, by simp, by omega⟩, Kp.trS k9 (fun i hi e => by omega) kps⟩
  rw [if_pos hz]
  have x5 := x3 hz
  refine wk ?_
  refine cal (c := mustT_ct L X) (g := ?_)
  rintro _ rfl
  refine wk ?_
  refine g_loop L ?_
  refine wk ?_
  refine cal (c := at_ct L X (at_ := 0 + 4 + 1 + 3) lkp) (g := ?_)
  rintro _ rfl
  refine wk ?_
  refine cal (c := mustT_ct L X) (g := ?_)
  rintro _ rfl
  refine wk ?_
  refine cal (c := dec3_ct L X (a := 8) (bs := ex) (cb := cb) (o := 0 + 4 + 1 + 3) (at_ := 0 + 4 + 1 + 3) (n := 64 - 4 - 1 - 3) lkp lkp (BS.part (o := 0) (a := 8) (n := 8) (bs := ex) (k := by exact lkb) (by omega)) (by omega) (by omega) (by omega) (by omega) w5) (g := ?_)
  rintro _ h7 ⟨rfl, xh7, zh7⟩
  have nh7 := zh7.n
  simp only [hp_n] at nh7
  refine wk ?_
  refine g_inLoop L ?_
  refine wk ?_
  refine cal (c := at_ct L X (at_ := 0 + 4 + 1 + 3 + 8) lkp) (g := ?_)
  rintro _ rfl
  refine wk ?_
  refine cal (c := mustT_ct L X) (g := ?_)
  rintro _ rfl
  refine wk ?_
  refine cal (c := dec3_ct L X (a := 16) (bs := ex) (cb := cb) (o := 0 + 4 + 1 + 3 + 8) (at_ := 0 + 4 + 1 + 3 + 8) (n := 64 - 4 - 1 - 3 - 8) lkp lkp (BS.part (o := 0) (a := 16) (n := 8) (bs := ex) (k := by exact lkb) (by omega)) (by omega) (by omega) (by omega) (by omega) w5) (g := ?_)
  rintro _ h8 ⟨rfl, xh8, zh8⟩
  have nh8 := zh8.n
  simp only [hp_n] at nh8
  refine wk ?_
  refine g_inLoop L ?_
  refine wk ?_
  refine g_loop L ?_
  refine wk ?_
  refine cal (c := dec2_ct L X (a := 24) (m := 4) (bs := ex) (cb := cb) (o := 0 + 4 + 1 + 3 + 8 + 8) (at_ := 0 + 4 + 1 + 3 + 8 + 8) (n := 64 - 4 - 1 - 3 - 8 - 8) lkp lkp (BS.part (o := 0) (a := 24) (n := 4) (bs := ex) (k := by exact lkb) (by omega)) a1 (by omega) (by omega) (by omega) (by omega) (by omega) w5) (g := ?_)
  rintro _ h9 ⟨rfl, xh9, zh9⟩
  have nh9 := zh9.n
  simp only [hp_n] at nh9
  refine wk ?_
  refine g_inLoop L ?_
  refine wk ?_
  refine cal (c := dec2_ct L X (a := 28) (m := 4) (bs := ex) (cb := cb) (o := 0 + 4 + 1 + 3 + 8 + 8 + 4) (at_ := 0 + 4 + 1 + 3 + 8 + 8 + 4) (n := 64 - 4 - 1 - 3 - 8 - 8 - 4) lkp lkp (BS.part (o := 0) (a := 28) (n := 4) (bs := ex) (k := by exact lkb) (by omega)) a1 (by omega) (by omega) (by omega) (by omega) (by omega) w5) (g := ?_)
  rintro _ h10 ⟨rfl, xh10, zh10⟩
  have nh10 := zh10.n
  simp only [hp_n] at nh10
  refine wk ?_
  refine g_inLoop L ?_
  refine wk ?_
  refine cal (c := dec2_ct L X (a := 32) (m := 4) (bs := ex) (cb := cb) (o := 0 + 4 + 1 + 3 + 8 + 8 + 4 + 4) (at_ := 0 + 4 + 1 + 3 + 8 + 8 + 4 + 4) (n := 64 - 4 - 1 - 3 - 8 - 8 - 4 - 4) lkp lkp (BS.part (o := 0) (a := 32) (n := 4) (bs := ex) (k := by exact lkb) (by omega)) a1 (by omega) (by omega) (by omega) (by omega) (by omega) w5) (g := ?_)
  rintro _ h11 ⟨rfl, xh11, zh11⟩
  have nh11 := zh11.n
  simp only [hp_n] at nh11
  refine wk ?_
  refine g_inLoop L ?_
  refine wk ?_
  refine cal (c := at_ct L X (at_ := 0 + 4 + 1 + 3 + 8 + 8 + 4 + 4 + 4) lkp) (g := ?_)
  rintro _ rfl
  refine wk ?_
  refine callA L rfl rfl rfl rfl rfl (Ct.A (zeros_ct L X (a := 36) (m := 24) (bs := ex) (r := r) (cb := cb) (o := 0 + 4 + 1 + 3 + 8 + 8 + 4 + 4 + 4) (at_ := 0 + 4 + 1 + 3 + 8 + 8 + 4 + 4 + 4) (n := 64 - 4 - 1 - 3 - 8 - 8 - 4 - 4 - 4) lkp (BS.part (o := 0) (a := 36) (n := 24) (bs := ex) (k := by exact lkb) (by omega)) (by omega) (by omega) (by omega) (by omega) w5)) ?_
  rintro _ h12 ⟨rfl, xh12, zh12⟩
  have nh12 := zh12.n
  simp only [hp_n] at nh12
  by_cases hy : zer ex 36 24 = true
  rotate_left
  · rw [if_neg hy]
    refine wk ?_
    refine callP L rfl rfl rfl rfl rfl (mustF_ct L X) ?_
    rintro _ _ ⟨rfl, rfl⟩
    rw [decS_none a1 hl1 (by intro q; exact hy q.2.2.2.1)] at G
    exact dec_thrown L X rfl rfl lkp lkp (by omega) G fun h9 k9 => ⟨⟨6, rfl, by simp, by omega⟩, Kp.trS k9 (fun i hi e => by omega) kps⟩
  rw [if_pos hy]
  refine wk ?_
  refine cal (c := valid5_ct L X (s := spOf ex) (spOf_ok a1)) (g := ?_)
  rintro _ hl ⟨rfl, zhl⟩
  have nhl := zhl.n
  simp only [hp_n] at nhl
  by_cases hv : (spOf ex).Valid
  rotate_left
  · rw [decide_eq_false hv]
    refine wk ?_
    refine callP L rfl rfl rfl rfl rfl (mustF_ct L X) ?_
    rintro _ _ ⟨rfl, rfl⟩
    rw [decS_none a1 hl1 (by intro q; exact hv q.2.2.2.2)] at G
    exact dec_thrown L X rfl rfl lkp lkp (by omega) G fun h9 k9 => ⟨⟨6, rfl, by simp, by omega⟩, Kp.trS k9 (fun i hi e => by omega) kps⟩
  rw [decide_eq_true hv]
  refine wk ?_
  refine cal (c := mustT_ct L X) (g := ?_)
  rintro _ rfl
  refine wk ?_
  rw [decS_some a1 hl1 hc hg hz hy hv] at G
  refine g_retD L (todo := []) ?_
  exact dec_fine L X rfl rfl lkp lkp G ⟨⟨0, rfl, by simp, by omega⟩, kps⟩
end

end
end Go.Ev

