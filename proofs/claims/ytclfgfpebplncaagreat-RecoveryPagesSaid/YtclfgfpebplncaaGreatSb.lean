/- The reference of Decode. -/
import Derived.Test.YtclfgfpebplncaaGreatSa
set_option linter.unusedVariables false
set_option linter.unusedSectionVars false
set_option linter.unusedSimpArgs false
set_option maxRecDepth 10000
set_option maxHeartbeats 4000000
namespace Go.Ev
section
variable {P0 : Program} {E : Env} {F : T CFn} {K : T (List AV × AV)} (L : Lg P0 E F K) (X : Fx F K)
include L X
/-- A description, read off its bytes. -/
def spOf (ex : List Nat) : Sp := ⟨ex.getD 4 0, ((leF ex 24 4 : Nat) : Int), leF ex 8 8, leF ex 16 8, ((leF ex 28 4 : Nat) : Int), ((leF ex 32 4 : Nat) : Int)⟩
def decS (ex data : List Nat) : Option Sp := if leF ex 60 4 = crcB (data ++ ex.take 60) ∧ (spOf ex).Valid ∧ ex.take 60 = head60 (spOf ex) then some (spOf ex) else none
omit L X in
theorem spOf_ok {ex : List Nat} (h : AllB ex) : (spOf ex).Ok := ⟨getD_all h 4, leF_lt h 8 8, leF_lt h 8 16⟩
omit L X in
theorem raw_iff {ex data : List Nat} (ha : AllB ex) (hl : ex.length = 64) (hc : leF ex 60 4 = crcB (data ++ ex.take 60)) : rawB (spOf ex) data = ex ↔ ex.take 60 = head60 (spOf ex) := by
  constructor
  · intro h
    rw [← h]
    conv => lhs; unfold rawB
    rw [← head60_len (spOf ex), List.take_left]
    rw [h]
  · intro h
    unfold rawB
    rw [← h, ← hc, leb_leF ha 4 60 (by omega)]
    conv => rhs; rw [← List.take_append_drop 60 ex]
    rw [List.take_of_length_le (l := ex.drop 60) (by rw [List.length_drop]; omega)]
section
variable {h : H}
theorem rdecode_ct {b1 o1 b2 o2 m : Nat} {ex data : List Nat} (k1 : BS h b1 o1 ex) (k2 : BS h b2 o2 data) (hl1 : ex.length = 64) (hl2 : data.length = m) (hm : 0 < m ∧ m < 1000) :
    Ct P0 E F K 72 [.slc b1 o1 64 (capU + 1), .slc b2 o2 m (capU + 1)] h fun v h' => (∃ e : Nat, v = .tup [.agg (spC ((decS ex data).getD sp0)), .int .i64 ((e : Nat) : Int)] ∧ (e = 0 ↔ (decS ex data).isSome = true) ∧ e < 1000) ∧ K0 h h' := by
  have l1 := k1.lt_n
  have l2 := k2.lt_n
  have a1 := k1.all
  have a2 := k2.all
  have g0 : leF ex 60 4 < 4294967296 := leF_lt a1 4 60
  have g1 : leF ex 24 4 < 4294967296 := leF_lt a1 4 24
  have g2 : leF ex 28 4 < 4294967296 := leF_lt a1 4 28
  have g3 : leF ex 32 4 < 4294967296 := leF_lt a1 4 32
  have hcl : crcB (data ++ ex.take 60) < 4294967296 := crcB_lt _
  have ht60 : (ex.take 60).length = 60 := by rw [List.length_take]; omega
  refine ct_in2 L X.f72 X.k72 rfl rfl fun Q x cs G => ?_
  refine wk ?_
  obtain ⟨cc, q1, q2, q3⟩ := k1.ex
  have q4 := q3 4 (by omega)
  have f4 : BS (hp (h.n + 1 + 1 + 1 + 1) h.t [(h.n + 1 + 1 + 1, some (cl (byts data ++ byts (List.take 60 (List.drop 0 ex))))), (h.n + 1 + 1, none), (h.n + 1 + 1, some (cl (byts data))), (h.n + 1, some (cl [])), (h.n, some (cl [.int .u8 ((0 : Nat) : Int), .int .i64 ((0 : Nat) : Int), .int .u64 ((0 : Nat) : Int), .int .u64 ((0 : Nat) : Int), .int .i64 ((0 : Nat) : Int), .int .i64 ((0 : Nat) : Int)]))]) (h.n + 1 + 1 + 1) 0 (data ++ ex.take 60) := by
    rw [byts_app]; exact bs_new (a2.app (BS.all (BS.part (a := 0) (n := 60) k1 (by omega))))
  have main : ∀ (h5 : H) (lq : List (Nat × Option AV)) (b6 : Nat), leF ex 60 4 = crcB (data ++ ex.take 60) → Bk h5 h.n (spC sp0) → Bk h5 b6 (spC (spOf ex)) → K0 h h5 → h.n ≠ b6 → TSub (tms [(4, some (.ptr h.n 0)), (0, some (.slc b1 o1 64 (capU + 1))), (1, some (.slc b2 o2 m (capU + 1))), (6, some (.ptr b6 0))]) (tms lq) →
      Good P0 E Q ⟨⟨72, 54, tms lq, [.code c72_19], [], .run, false, none⟩, x :: cs, h5⟩ := by
    intro h5 lq b6 hc w1 w2 w3 hne ht
    refine g_tm L ht ?_
    refine g_hp L (h' := hp h5.n h5.t []) (.refl _) ?_
    have m1 := w1.lt
    have m2 := w2.lt
    have m3 := w3.n
    refine wk ?_
    refine cal (c := rvalid_ct L X (s := spOf ex) (spOf_ok a1)) (g := ?_)
    rintro _ h6 ⟨rfl, w4⟩
    have m4 := w4.n
    simp only [hp_n] at m4
    by_cases hv : (spOf ex).Valid
    · rw [decide_eq_true hv]
      refine wk ?_
      (apply pst1 rfl rfl; exact w_b2s rfl (by exact lkb) hl1)
      refine wk ?_
      refine cal (c := raw_ct L X (s := spOf ex) (data := data) (spOf_ok a1) lkb hl2 (by omega)) (g := ?_)
      rintro _ h7 ⟨rb, rfl, w5, w6, w7⟩
      have m7 := w7.n
      simp only [hp_n] at w6 m7
      have hrl : (rawB (spOf ex) data).length = 64 := by unfold rawB; rw [List.length_append, head60_len, leb_len]
      have hra : AllB (rawB (spOf ex) data) := (head60_all (spOf_ok a1).kind).app (leb_all _ _)
      (apply pst1 rfl rfl; exact w_b2s rfl (bs_of w5 hra) hrl)
      (apply pst1 rfl rfl; exact w_neS rfl rfl)
      by_cases hr : rawB (spOf ex) data = ex
      · rw [decide_eq_false (show ¬ rawB (spOf ex) data ≠ ex from fun q => q hr)]
        (apply pst1 rfl rfl; exact opv)
        refine p_e1 L ?_ rfl ?_
        · (apply kst1 rfl rfl opv rfl rfl; apply kst1 rfl rfl (w_b2s rfl (by exact lkb) hl1) rfl rfl; exact k_nil)
        refine wk ?_
        refine ret X.f72 ?_
        have hD : decS ex data = some (spOf ex) := if_pos ⟨hc, hv, (raw_iff a1 hl1 hc).1 hr⟩
        rw [hD]
        exact ⟨⟨0, rfl, by simp, by omega⟩, kps⟩
      · rw [decide_eq_true (show rawB (spOf ex) data ≠ ex from hr)]
        (apply pst1 rfl rfl; exact opv)
        refine p_e1 L ?_ rfl ?_
        · (apply kst1 rfl rfl opv rfl rfl; apply kst1 rfl rfl (w_b2s rfl (by exact lkb) hl1) rfl rfl; exact k_nil)
        refine wk ?_
        refine ret X.f72 ?_
        have hD : decS ex data = none := if_neg fun q => hr ((raw_iff a1 hl1 hc).2 q.2.2)
        rw [hD]
        exact ⟨⟨6, rfl, by simp, by omega⟩, kps⟩
    · rw [decide_eq_false hv]
      refine wk ?_
      refine ret X.f72 ?_
      have hD : decS ex data = none := if_neg fun q => hv q.2.1
      rw [hD]
      exact ⟨⟨6, rfl, by simp, by omega⟩, kps⟩
  have crcS : ∀ (lq : List (Nat × Option AV)), TSub (tms [(12, some (.int .u64 ((leF ex 60 4 : Nat) : Int))), (18, some (.slc (h.n + 1 + 1 + 1) 0 (m + 60) (capU + 1))), (4, some (.ptr h.n 0)), (0, some (.slc b1 o1 64 (capU + 1))), (1, some (.slc b2 o2 m (capU + 1)))]) (tms lq) →
      Good P0 E Q ⟨⟨72, 54, tms lq, [.drawn ⟨⟨⟨some 19, none, .callv (.c (.fn (.func 123) [] [])) [.t 18]⟩, [18]⟩, [⟨⟨some 20, none, .conv .u64 (.t 19)⟩, [19]⟩, ⟨⟨some 21, none, .bin .neq (.t 12) (.t 20) false .pint⟩, [12, 20]⟩], []⟩ [], .code c72_9, .code c72_20], [], .run, false, none⟩, x :: cs, hp (h.n + 1 + 1 + 1 + 1) h.t [(h.n + 1 + 1 + 1, some (cl (byts data ++ byts (List.take 60 (List.drop 0 ex))))), (h.n + 1 + 1, none), (h.n + 1 + 1, some (cl (byts data))), (h.n + 1, some (cl [])), (h.n, some (cl [.int .u8 ((0 : Nat) : Int), .int .i64 ((0 : Nat) : Int), .int .u64 ((0 : Nat) : Int), .int .u64 ((0 : Nat) : Int), .int .i64 ((0 : Nat) : Int), .int .i64 ((0 : Nat) : Int)]))]⟩ := by
    intro lq ht
    refine g_tm L ht ?_
    refine cal (c := rcrc_ct L X f4 (by rw [List.length_append]; omega) (by omega)) (g := ?_)
    rintro _ rfl
    by_cases hc : leF ex 60 4 = crcB (data ++ ex.take 60)
    · refine wk ?_
      refine g_alts L (fun a ha => ?_)
      simp only [List.mem_cons, List.not_mem_nil, or_false] at ha
      rcases ha with rfl | rfl | rfl | rfl | rfl | rfl
      all_goals
        refine wk ?_
        refine cal (c := rget_ct L X lkb hl1 (by omega) (by omega) (by omega)) (g := ?_)
        rintro _ rfl
        refine wk ?_
        refine cal (c := rget_ct L X lkb hl1 (by omega) (by omega) (by omega)) (g := ?_)
        rintro _ rfl
        refine wk ?_
        refine cal (c := rget_ct L X lkb hl1 (by omega) (by omega) (by omega)) (g := ?_)
        rintro _ rfl
        refine wk ?_
        refine cal (c := rget_ct L X lkb hl1 (by omega) (by omega) (by omega)) (g := ?_)
        rintro _ rfl
        refine wk ?_
        refine cal (c := rget_ct L X lkb hl1 (by omega) (by omega) (by omega)) (g := ?_)
        rintro _ rfl
        (repeat (first | (apply pst1 rfl rfl; exact opv) | (apply p_0; exact chk)))
        (apply estS L rfl rfl rfl rfl rfl rfl rfl; exact lkp; rfl)
        refine main _ _ (h.n + 1 + 1 + 1 + 1) hc ?_ ?_ ?_ (by omega) tsb
        · exact bk_eq rfl lkp
        · exact bk_eq rfl lkp
        · exact kps
    · refine wk ?_
      refine ret X.f72 ?_
      have hD : decS ex data = none := if_neg fun q => hc q.1
      rw [hD]
      exact ⟨⟨10, rfl, by simp, by omega⟩, kps⟩
  refine g_alts2 L ?_ ?_
  · refine wk ?_
    refine cal (c := rget_ct L X lkb hl1 (by omega) (by omega) (by omega)) (g := ?_)
    rintro _ rfl
    refine wk ?_
    (apply est1 L rfl rfl; exact ap_e rfl rfl (BS.slr (k := by exact lkb) hl2) (by omega) (by omega))
    refine wk ?_
    (apply est1 L rfl rfl; exact ap_u rfl rfl (BS.slr (k := bs_new a2) hl2) (BS.slr (k := BS.part (a := 0) (n := 60) (k := by exact lkb) (by omega)) ht60) (by omega) (by omega) (byts_plain _))
    refine wk ?_
    exact crcS _ tsb
  · refine wk ?_
    refine cal (c := rget_ct L X lkb hl1 (by omega) (by omega) (by omega)) (g := ?_)
    rintro _ rfl
    refine wk ?_
    (apply est1 L rfl rfl; exact ap_e rfl rfl (BS.slr (k := by exact lkb) hl2) (by omega) (by omega))
    refine wk ?_
    (apply est1 L rfl rfl; exact ap_u rfl rfl (BS.slr (k := bs_new a2) hl2) (BS.slr (k := BS.part (a := 0) (n := 60) (k := by exact lkb) (by omega)) ht60) (by omega) (by omega) (byts_plain _))
    refine wk ?_
    exact crcS _ tsb
end

end
end Go.Ev

