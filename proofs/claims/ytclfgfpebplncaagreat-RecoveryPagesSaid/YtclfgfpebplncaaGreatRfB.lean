/- The reference of the device: Read, Program. -/
import Derived.Test.YtclfgfpebplncaaGreatRfA
set_option linter.unusedVariables false
set_option linter.unusedSectionVars false
set_option linter.unusedSimpArgs false
set_option maxRecDepth 10000
set_option maxHeartbeats 4000000
namespace Go.Ev
section
variable {P0 : Program} {E : Env} {F : T CFn} {K : T (List AV × AV)} (L : Lg P0 E F K) (X : Fx F K)
include L X
section
variable {κ : Nat → Nat} {h : H} {D : Dv} {fb pb eb ecap sz en n byt : Nat} {cut : Int} {off : Bool} {cp ce : List AV}
theorem rstate_ct {i j : Nat} (q : RDevC κ h D pb eb cp ce) (ok : D.Ok) (hi : i < D.nb) (hj : j < D.P) : Ct P0 E F K 67 [.agg (rvL D.nb D.P sz en fb pb eb ecap n cut byt off), .int .i64 ((i : Nat) : Int), .int .i64 ((j : Nat) : Int)] h fun v h' => v = .int .i64 ((((D.bl i).pg j).st : Nat) : Int) ∧ K0 h h' := by
  have hgP := ok.g.P
  have hnb := ok.g.nb
  obtain ⟨rb, rcap, c, hc0, hrc, hr⟩ := q.rows i hi
  have hpk := q.pk
  have hrk := hr.k
  have hs' : c[j * 2 + 0]? = some (.int .i64 ((((D.bl i).pg j).st : Nat) : Int)) := (hr.pg j hj).st
  refine ct_in3 L X.f67 X.k67 rfl rfl fun Q x cs G => ?_
  refine wk ?_
  refine cal (c := exists_ct L X) (g := ?_)
  rintro _ h1 ⟨rfl, hk⟩
  have n1 := hk.n
  simp only [hp_n] at n1
  rw [decide_eq_true (show 0 ≤ (i : Int) ∧ (i : Int) < D.nb by omega)]
  refine wk ?_
  refine ret X.f67 ?_
  exact ⟨rfl, kps⟩

theorem rreadE_ct {i j : Nat} {rv : List AV} (r : RDev κ h D rv) (hi : i < D.nb) (hj : j < D.P) (he : D.off = true ∨ (((D.bl i).pg j).st ≠ 2 ∧ ((D.bl i).pg j).st ≠ 3)) : Ct P0 E F K 71 [.agg rv, .int .i64 ((i : Nat) : Int), .int .i64 ((j : Nat) : Int)] h fun v h' => (∃ e : Nat, v = .tup [.nils, .nils, .int .i64 ((e : Nat) : Int)] ∧ 0 < e ∧ e < 1000) ∧ K0 h h' := by
  obtain ⟨ok, fb, pb, eb, ecap, cp, ce, rfl, hecap, q⟩ := r
  have hst := ((ok.bl i hi).pg j hj).st
  have hgP := ok.g.P
  have e1 : ∀ o, D.off = o → rvC D fb pb eb ecap = rvL D.nb D.P D.sz D.en fb pb eb ecap D.n D.cut D.byt o := fun o ho => by unfold rvC; rw [ho]
  have l1 := q.pk.lt
  cases hoff : D.off with
  | true =>
    rw [e1 _ hoff]
    refine ct_in3 L X.f71 X.k71 rfl rfl fun Q x cs G => ?_
    refine wk ?_
    refine cal (c := rstate_ct L X (fb := fb) (ecap := ecap) (q.fw (K0.fwe (κ := κ) kps)) ok hi hj) (g := ?_)
    rintro _ h1 ⟨rfl, hk⟩
    have n1 := hk.n
    simp only [hp_n] at n1
    refine wk ?_
    refine ret X.f71 ?_
    exact ⟨⟨50, rfl, by omega, by omega⟩, kps⟩
  | false =>
    obtain ⟨s2, s3⟩ : ((D.bl i).pg j).st ≠ 2 ∧ ((D.bl i).pg j).st ≠ 3 := by
      rcases he with e | e
      · rw [hoff] at e; cases e
      · exact e
    rw [e1 _ hoff]
    refine ct_in3 L X.f71 X.k71 rfl rfl fun Q x cs G => ?_
    refine wk ?_
    refine cal (c := rstate_ct L X (fb := fb) (ecap := ecap) (q.fw (K0.fwe (κ := κ) kps)) ok hi hj) (g := ?_)
    rintro _ h1 ⟨rfl, hk⟩
    have n1 := hk.n
    simp only [hp_n] at n1
    refine wk ?_
    by_cases s1 : ((D.bl i).pg j).st = 1
    · refine wk ?_
      refine ret X.f71 ?_
      exact ⟨⟨52, rfl, by omega, by omega⟩, kps⟩
    · refine wk ?_
      by_cases s4 : ((D.bl i).pg j).st = 4
      · refine wk ?_
        refine ret X.f71 ?_
        exact ⟨⟨53, rfl, by omega, by omega⟩, kps⟩
      · refine wk ?_
        refine ret X.f71 ?_
        exact ⟨⟨53, rfl, by omega, by omega⟩, kps⟩
theorem rreadO_ct {i j : Nat} {rv : List AV} (r : RDev κ h D rv) (hi : i < D.nb) (hj : j < D.P) (hoff : D.off = false) (hs : ((D.bl i).pg j).st = 2 ∨ ((D.bl i).pg j).st = 3) : Ct P0 E F K 71 [.agg rv, .int .i64 ((i : Nat) : Int), .int .i64 ((j : Nat) : Int)] h fun v h' => ∃ b, v = .tup [.slc b 0 D.sz (capU + 1), .slc b D.sz 64 (capU + 1), .int .i64 ((0 : Nat) : Int)] ∧ κ b = 0 ∧ BS h b 0 ((D.bl i).pg j).b ∧ K0 h h' := by
  obtain ⟨ok, fb, pb, eb, ecap, cp, ce, rfl, hecap, q⟩ := r
  have hl := ((ok.bl i hi).pg j hj).full hs
  have hgP := ok.g.P
  have hsz := ok.g.sz
  have e1 : rvC D fb pb eb ecap = rvL D.nb D.P D.sz D.en fb pb eb ecap D.n D.cut D.byt false := by unfold rvC; rw [hoff]
  have l1 := q.pk.lt
  have hpk := q.pk
  obtain ⟨rb, rcap, c, hc0, hrc, hr⟩ := q.rows i hi
  have hrk := hr.k
  have l2 := hrk.lt
  obtain ⟨b, hc1, hcol, hb⟩ := (hr.pg j hj).full hs
  rw [hl] at hc1
  rw [e1]
  refine ct_in3 L X.f71 X.k71 rfl rfl fun Q x cs G => ?_
  refine wk ?_
  refine cal (c := rstate_ct L X (fb := fb) (ecap := ecap) (q.fw (K0.fwe (κ := κ) kps)) ok hi hj) (g := ?_)
  rintro _ h1 ⟨rfl, hk⟩
  have n1 := hk.n
  simp only [hp_n] at n1
  refine wk ?_
  refine ret X.f71 ?_
  exact ⟨b, by rw [show D.sz + 64 - D.sz = 64 by omega, Nat.zero_add]; rfl, hcol, hb, kps⟩
end

end
end Go.Ev

namespace Go.Ev
section
variable {P0 : Program} {E : Env} {F : T CFn} {K : T (List AV × AV)} (L : Lg P0 E F K) (X : Fx F K)
include L X
omit L X in
theorem RDevC.page {κ : Nat → Nat} {h : H} {D D' : Dv} {pb eb pb' i rb rcap nx : Nat} {cp ce c : List AV} {pg : Nat → Pg} (q : RDevC κ h D pb eb cp ce) (hi : i < D.nb) (hnb : D'.nb = D.nb) (hP : D'.P = D.P) (hbl : D'.bl = upd D.bl i ⟨pg, nx, (D.bl i).er⟩)
    (pk : Bk h pb' (cp.set i (.slc rb 0 D.P rcap))) (pc : κ pb' = 0) (hrc : rcap = D.P ∨ rcap = capU + 2) (rr : RRow κ h D.P pg rb c) : RDevC κ h D' pb' eb (cp.set i (.slc rb 0 D.P rcap)) ce := by
  have l1 := q.plen
  refine ⟨pk, pc, by rw [List.length_set, hnb]; exact l1, fun j hj => ?_, q.ek, q.ecol, by rw [hnb]; exact q.elen, fun j hj => ?_⟩
  · rw [hnb] at hj
    rw [hP, hbl]
    by_cases e : j = i
    · subst e
      rw [upd_eq]
      exact ⟨rb, rcap, c, List.getElem?_set_self (by omega), hrc, rr⟩
    · rw [upd_ne _ _ e, List.getElem?_set_ne (by omega)]
      exact q.rows j hj
  · rw [hnb] at hj
    rw [hbl]
    by_cases e : j = i
    · subst e
      rw [upd_eq]; exact q.er j hj
    · rw [upd_ne _ _ e]; exact q.er j hj
omit L X in
/-- A page is set in a row. -/
theorem RRow.set {κ : Nat → Nat} {h : H} {P rb j nb ab : Nat} {c : List AV} {pg : Nat → Pg} {p : Pg} (q : RRow κ h P pg rb c) (hj : j < P) (hs : p.st = 2 ∨ p.st = 3) (k : Bk h nb ((c.set (j * 2) (.int .i64 ((p.st : Nat) : Int))).set (j * 2 + 1) (.slc ab 0 p.b.length (capU + 1)))) (hc : κ nb = 0) (ak : BS h ab 0 p.b) (ac : κ ab = 0) :
    RRow κ h P (upd pg j p) nb ((c.set (j * 2) (.int .i64 ((p.st : Nat) : Int))).set (j * 2 + 1) (.slc ab 0 p.b.length (capU + 1))) := by
  have l := q.len
  refine ⟨k, hc, by rw [List.length_set, List.length_set]; exact l, fun m hm => ?_⟩
  by_cases e : m = j
  · subst e
    rw [upd_eq]
    exact ⟨by rw [List.getElem?_set_ne (by omega), List.getElem?_set_self (by omega)], fun h1 h2 => by omega, fun _ => ⟨ab, by rw [List.getElem?_set_self (by rw [List.length_set]; omega)], ac, ak⟩⟩
  · rw [upd_ne _ _ e]
    have h1 := q.pg m hm
    exact ⟨by rw [List.getElem?_set_ne (by omega), List.getElem?_set_ne (by omega)]; exact h1.st, fun a b => by rw [List.getElem?_set_ne (by omega), List.getElem?_set_ne (by omega)]; exact h1.none a b, fun a => by rw [List.getElem?_set_ne (by omega), List.getElem?_set_ne (by omega)]; exact h1.full a⟩
section
variable {κ : Nat → Nat} {h : H} {D : Dv}
theorem rProg1_ct {j : Nat} {b1 o1 c1 b2 o2 c2 fb pb eb ecap : Nat} {cp ce : List AV} {data extra : List Nat} (ok : D.Ok) (hecap : ecap = D.nb ∨ ecap = capU + 1) (q : RDevC κ h D pb eb cp ce) (hn : D.n + 1 < 1000) (hj : j < D.nb) (hnx : (D.bl j).nx < D.P) (hoff : D.off = false) (k1 : BS h b1 o1 data) (k2 : BS h b2 o2 extra) (e1 : data.length = D.sz) (e2 : extra.length = 64) :
    Ct P0 E F K 40 [.agg (rvL D.nb D.P D.sz D.en fb pb eb ecap D.n D.cut D.byt false), .int .i64 ((j : Nat) : Int), .int .i64 (((D.bl j).nx : Nat) : Int), .slc b1 o1 D.sz c1, .slc b2 o2 64 c2] h fun v h' => ∃ rv', v = .tup [.agg rv', .int .i64 ((if (D.n : Int) = D.cut then 50 else 0 : Nat) : Int)] ∧ RDev (ext κ h.n) h' (D.wr j (data ++ extra)) rv' ∧ K0 h h' := by
  have hgP := ok.g.P
  have hnb := ok.g.nb
  have hsz := ok.g.sz
  have hby := ok.byt
  have l1 := q.pk.lt
  have l2 := q.ek.lt
  have hpk := q.pk
  have hek := q.ek
  have l3 := k1.lt_n
  have l4 := k2.lt_n
  have a1 := k1.all
  have a2 := k2.all
  have hal : (data ++ extra).length = D.sz + 64 := by rw [List.length_append]; omega
  obtain ⟨rb, rcap, c, hc0, hrc, hr⟩ := q.rows j hj
  have hrk := hr.k
  have l5 := hrk.lt
  have hij : 0 ≤ (j : Int) ∧ (j : Int) < D.nb := by omega
  refine ct_in5 L X.f40 X.k40 rfl rfl fun Q x cs G => ?_
  refine wk ?_
  refine cal (c := exists_ct L X) (g := ?_)
  rintro _ h1 ⟨rfl, hk1⟩
  have n1 := hk1.n
  simp only [hp_n] at n1
  rw [decide_eq_true hij]
  refine wk ?_
  refine cal (c := rnext_ct L X (fb := fb) (ecap := ecap) (q.fw (K0.fwe (κ := κ) kps)) ok) (g := ?_)
  rintro _ h2 ⟨rfl, hk2⟩
  have n2 := hk2.n
  simp only [hp_n] at n2
  rw [if_pos hij, Int.toNat_natCast]
  refine wk ?_
  have f1 : BS (hp (h2.n + 1) h2.t [(h2.n, some (cl []))]) b1 o1 data := lkb
  (apply st1 L rfl; exact ap_e rfl rfl (f1.slr e1) (by omega) (by omega); rfl)
  refine wk ?_
  have f2 : BS (hp (h2.n + 1 + 1) h2.t [(h2.n + 1, some (cl (byts data))), (h2.n, some (cl []))]) b2 o2 extra := lkb
  have f3 : BS (hp (h2.n + 1 + 1) h2.t [(h2.n + 1, some (cl (byts data))), (h2.n, some (cl []))]) (h2.n + 1) 0 data := bs_new a1
  (apply st1 L rfl; exact ap_u rfl rfl (f3.slr (by omega)) (f2.slr e2) (by omega) (by omega) (byts_plain _); rfl)
  refine wk ?_
  have main : ∀ (h5 : H) (lq : List (Nat × Option AV)) (off : Bool) (kb : Nat), Bk h5 h.n (rvL D.nb D.P D.sz D.en fb pb eb ecap D.n D.cut D.byt off) → Bk h5 (h.n + 1) zbL → Bk h5 (h2.n + 1 + 1 + 1) [.int .i64 (((D.pgW (data ++ extra)).st : Nat) : Int), .slc (h2.n + 1 + 1) 0 (D.sz + 64) (capU + 1)] → BS h5 (h2.n + 1 + 1) 0 (D.pgW (data ++ extra)).b → Bk h5 kb [] → kb ≠ h.n → kb ≠ h.n + 1 →
      K0 h h5 → off = decide ((D.n : Int) = D.cut) → TSub (tms [(1, some (.int .i64 ((j : Nat) : Int))), (2, some (.int .i64 (((D.bl j).nx : Nat) : Int))), (5, some (.ptr h.n 0)), (10, some (.ptr (h.n + 1) 0)), (13, some (.ptr (h2.n + 1 + 1 + 1) 0)), (14, some (.int .i64 ((if (D.n : Int) = D.cut then 50 else 0 : Nat) : Int))), (88, some (.slc kb 0 0 0)), (93, some (.slc rb 0 D.P rcap))]) (tms lq) →
      Good P0 E Q ⟨⟨40, 109, tms lq, [.ops [⟨some 94, none, .append 2 32 (.t 88) (.t 93)⟩, ⟨some 16, none, .mv (.t 94)⟩], .code c40_52], [], .run, false, none⟩, x :: cs, h5⟩ := by
    intro h5 lq off kb w1 w2 w3 w4 w5 w6 w7 w8 w9 ht
    refine g_tm L ht ?_
    refine g_hp L (h' := hp h5.n h5.t []) (.refl _) ?_
    have m1 := w1.lt
    have m2 := w2.lt
    have m3 := w3.lt
    have m4 := w4.lt_n
    have m5 := w5.lt
    have lc := hr.len
    (apply st1 L rfl; exact ap_e (new := c) rfl rfl (SlR.of (c := c) lkp (by omega) (by rw [List.drop_zero, ← lc, List.take_length])) (by omega) (by omega); rfl)
    have lc2 : (D.bl j).nx * 2 + 1 < c.length := by omega
    refine wk ?_
    refine cal (c := with_ct L X (i := j) (cp := cp) lkp q.plen hnb hj) (g := ?_)
    rintro _ h6 ⟨pb', rfl, u5, u6, u7⟩
    have n6 := u7.n
    have m6 := u5.lt
    simp only [hp_n] at n6 u6
    refine wk ?_
    refine ret X.f40 ?_
    have hpl := D.pgW_len (data ++ extra) (by omega)
    refine ⟨_, rfl, ⟨ok.setPage (D' := D.wr j (data ++ extra)) (p := D.pgW (data ++ extra)) hj hnx (D.pgW_st _) (by rw [hpl, hal]) ⟨rfl, rfl, rfl, rfl⟩ hn rfl rfl rfl, fb, pb', eb, ecap, _, _, ?_, hecap,
      (q.fw (K0.fwe (κ := κ) kps)).page (rcap := capU + 2) (pg := upd (D.bl j).pg (D.bl j).nx (D.pgW (data ++ extra))) (nx := (D.bl j).nx + 1) hj rfl rfl rfl lkp (ext_ge (by omega)) (.inr rfl)
        ((hr.fw (K0.fwe (κ := κ) kps)).set (ab := h2.n + 1 + 1) hnx (D.pgW_st _) ?_ (ext_ge (by omega)) ?_ (ext_ge (by omega)))⟩, kps⟩
    · show _ = rvC _ _ _ _ _
      unfold rvC Dv.wr
      rw [hoff, Bool.false_or, ← w9]; rfl
    · rw [hpl, hal]; exact lkp
    · exact lkb
  by_cases hc : (D.n : Int) = D.cut
  · have e2 : D.pgW (data ++ extra) = ⟨if D.byt = (data ++ extra).length then 2 else 3, torn D.byt (data ++ extra)⟩ := if_pos hc
    have hb0 : BS (hp (h2.n + 1 + 1 + 1) h2.t [(h2.n + 1 + 1, some (cl (byts data ++ byts extra))), (h2.n + 1, none), (h2.n + 1, some (cl (byts data))), (h2.n, some (cl []))]) (h2.n + 1 + 1) 0 (data ++ extra) := by
      rw [byts_app]; exact bs_new (a1.app a2)
    have hlb : (byts data ++ byts extra).length = D.sz + 64 := by rw [byts_app]; simp only [byts, List.length_map]; exact hal
    have hcb : ∀ m, m < D.sz + 64 → (byts data ++ byts extra)[m]? = some (.int .u8 (((data ++ extra).getD m 0 : Nat) : Int)) := fun m hm => by rw [byts_app]; exact byts_get _ m (by omega)
    refine wk ?_
    refine g_up L (α := Unit) (T := fun i _ => [(15, some (.int .i64 ((i : Nat) : Int))), (12, some (.slc (h2.n + 1 + 1) 0 (D.sz + 64) (capU + 1))), (5, some (.ptr h.n 0)), (10, some (.ptr (h.n + 1) 0)), (13, some (.ptr (h2.n + 1 + 1 + 1) 0)), (1, some (.int .i64 ((j : Nat) : Int))), (2, some (.int .i64 (((D.bl j).nx : Nat) : Int)))]) (n := D.sz + 64)
      (R := fun i _ h3 => (∃ cc, Bk h3 (h2.n + 1 + 1) cc ∧ D.byt ≤ i ∧ cc.length = D.sz + 64 ∧ ∀ m, m < D.sz + 64 → cc[m]? = some (.int .u8 ((if D.byt ≤ m ∧ m < i then 255 else (data ++ extra).getD m 0 : Nat) : Int))) ∧ Bk h3 h.n (rvL D.nb D.P D.sz D.en fb pb eb ecap D.n D.cut D.byt false) ∧ Bk h3 (h.n + 1) zbL ∧
        Bk h3 (h2.n + 1 + 1 + 1) [.int .i64 ((2 : Nat) : Int), .slc (h2.n + 1 + 1) 0 (D.sz + 64) (capU + 1)] ∧ K0 h h3) (i0 := D.byt) () tsb ⟨⟨_, lkp, Nat.le_refl _, hlb, fun m hm => by rw [if_neg (by omega)]; exact hcb m hm⟩, lkp, lkp, lkp, kps⟩ hby ?_ ?_
    · rintro i _ h3 hi ⟨⟨cc, w1, w0, w2, w3⟩, w4, w5, w6, w7⟩ ih
      have hlen : i < cc.length := by omega
      have m1 := w1.lt
      have m2 := w4.lt
      have m3 := w6.lt
      refine wk ?_
      refine ih () _ _ ⟨⟨_, lkp, by omega, by rw [List.length_set]; exact w2, fun m hm => ?_⟩, lkp, lkp, lkp, kps⟩ tsb
      by_cases e : m = i
      · subst e
        rw [List.getElem?_set_self hlen, if_pos (by omega)]
      · rw [List.getElem?_set_ne (by omega), w3 m hm]
        by_cases e3 : D.byt ≤ m ∧ m < i
        · rw [if_pos e3, if_pos (by omega)]
        · rw [if_neg e3, if_neg (by omega)]
    · rintro _ h3 ⟨⟨cc, w1, w0, w2, w3⟩, w4, w5, w6, w7⟩
      have m1 := w1.lt
      have m2 := w4.lt
      have m3 := w6.lt
      have hbs : BS h3 (h2.n + 1 + 1) 0 (torn D.byt (data ++ extra)) := by
        refine ⟨⟨cc, w1, by rw [torn_len _ _ (by omega)]; omega, fun m hm => ?_⟩, fun m hm => ?_⟩
        · rw [torn_len _ _ (by omega)] at hm
          rw [Nat.zero_add, w3 m (by omega), torn_get _ _ (by omega) _ hm]
          by_cases e3 : D.byt ≤ m
          · rw [if_pos e3, if_pos (by omega)]
          · rw [if_neg e3, if_neg (by omega)]
        · rw [torn_len _ _ (by omega)] at hm
          rw [torn_get _ _ (by omega) _ hm]
          split
          · omega
          · exact (a1.app a2) m hm
      refine wk ?_
      by_cases hbt : D.byt < D.sz + 64
      · refine wk ?_
        refine main _ _ true h3.n lkp lkp ?_ ?_ lkp (by omega) (by omega) kps (decide_eq_true hc).symm ?_
        · rw [e2, hal, if_neg (by omega)]; exact lkp
        · rw [e2]; exact lkb
        · rw [if_pos hc]; exact tsb
      · refine wk ?_
        refine main _ _ true h3.n lkp lkp ?_ ?_ lkp (by omega) (by omega) kps (decide_eq_true hc).symm ?_
        · rw [e2, hal, if_pos (by omega)]; exact lkp
        · rw [e2]; exact lkb
        · rw [if_pos hc]; exact tsb
  · have e2 : D.pgW (data ++ extra) = ⟨2, data ++ extra⟩ := if_neg hc
    refine wk ?_
    refine cal (c := fails_ct L X) (g := ?_)
    rintro _ h3 ⟨rfl, hk3⟩
    have n3 := hk3.n
    simp only [hp_n] at n3
    refine wk ?_
    refine main _ _ false h3.n lkp lkp ?_ ?_ lkp (by omega) (by omega) kps (decide_eq_false hc).symm ?_
    · rw [e2]; exact lkp
    · rw [e2]
      have hb : BS (hp (h2.n + 1 + 1 + 1 + 1) h2.t [(h2.n + 1 + 1 + 1, some (cl [.int .i64 ((2 : Nat) : Int), .slc (h2.n + 1 + 1) 0 (D.sz + 64) (capU + 1)])), (h2.n + 1 + 1 + 1, some (cl [.int .i64 ((0 : Nat) : Int), .nils])), (h2.n + 1 + 1, some (cl (byts data ++ byts extra))), (h2.n + 1, none), (h2.n + 1, some (cl (byts data))), (h2.n, some (cl []))]) (h2.n + 1 + 1) 0 (data ++ extra) := by
        rw [byts_app]
        exact bs_n (by omega) (bs_w (bs_new (a1.app a2)))
      exact lkb
    · rw [if_neg hc]; exact tsb
theorem rProgram_ct {i : Int} {rv : List AV} {b1 o1 c1 b2 o2 c2 p : Nat} {data extra : List Nat} (r : RDev κ h D rv) (hn : D.n + 1 < 1000) (hp1 : 0 ≤ i ∧ i < D.nb → p = (D.bl i.toNat).nx) (k1 : BS h b1 o1 data) (k2 : BS h b2 o2 extra) (e1 : data.length = D.sz) (e2 : extra.length = 64) :
    Ct P0 E F K 40 [.agg rv, .int .i64 i, .int .i64 ((p : Nat) : Int), .slc b1 o1 D.sz c1, .slc b2 o2 64 c2] h fun v h' => ∃ rv', v = .tup [.agg rv', .int .i64 (((D.prog i (data ++ extra)).2 : Nat) : Int)] ∧ RDev (ext κ h.n) h' (D.prog i (data ++ extra)).1 rv' ∧ K0 h h' := by
  obtain ⟨ok, fb, pb, eb, ecap, cp, ce, rfl, hecap, q⟩ := r
  have hgP := ok.g.P
  have hnb := ok.g.nb
  have hsz := ok.g.sz
  have hby := ok.byt
  have l1 := q.pk.lt
  have l2 := q.ek.lt
  have hpk := q.pk
  have hek := q.ek
  have l3 := k1.lt_n
  have l4 := k2.lt_n
  have eo : ∀ o, D.off = o → rvC D fb pb eb ecap = rvL D.nb D.P D.sz D.en fb pb eb ecap D.n D.cut D.byt o := fun o ho => by unfold rvC; rw [ho]
  by_cases hi : (0 ≤ i ∧ i < D.nb) ∧ p < D.P
  · obtain ⟨hi1, hi3⟩ := hi
    have hpe := hp1 hi1
    have hcond : 0 ≤ i ∧ i < D.nb ∧ (D.bl i.toNat).nx < D.P := ⟨hi1.1, hi1.2, by omega⟩
    obtain ⟨j, rfl⟩ : ∃ j : Nat, i = j := ⟨i.toNat, by omega⟩
    have hj : j < D.nb := by omega
    cases hoff : D.off with
    | true =>
      have e0 : D.prog j (data ++ extra) = (D, 50) := by unfold Dv.prog; rw [if_pos hcond, if_pos hoff]
      rw [e0, eo _ hoff]
      refine ct_in5 L X.f40 X.k40 rfl rfl fun Q x cs G => ?_
      refine wk ?_
      refine cal (c := exists_ct L X) (g := ?_)
      rintro _ h1 ⟨rfl, hk⟩
      have n1 := hk.n
      simp only [hp_n] at n1
      rw [decide_eq_true hi1]
      refine wk ?_
      refine ret X.f40 ?_
      exact ⟨_, rfl, ⟨ok, fb, pb, eb, ecap, cp, ce, (eo _ hoff).symm, hecap, q.fw (K0.fwe kps)⟩, kps⟩
    | false =>
      rw [Int.toNat_natCast] at hpe hcond
      subst hpe
      have e0 : D.prog j (data ++ extra) = (D.wr j (data ++ extra), if (D.n : Int) = D.cut then 50 else 0) := by unfold Dv.prog; rw [Int.toNat_natCast, if_pos hcond, if_neg (by rw [hoff]; simp)]
      rw [e0, eo _ hoff]
      exact rProg1_ct L X ok hecap q hn hj hcond.2.2 hoff k1 k2 e1 e2
  · have e0 : D.prog i (data ++ extra) = (D, 2) := by
      unfold Dv.prog
      rw [if_neg]
      rintro ⟨a1, a2, a3⟩
      have := hp1 ⟨a1, a2⟩
      exact hi ⟨⟨a1, a2⟩, by omega⟩
    rw [e0]
    refine ct_in5 L X.f40 X.k40 rfl rfl fun Q x cs G => ?_
    refine wk ?_
    refine cal (c := exists_ct L X) (g := ?_)
    rintro _ h1 ⟨rfl, hk⟩
    have n1 := hk.n
    simp only [hp_n] at n1
    by_cases hi2 : 0 ≤ i ∧ i < D.nb
    · rw [decide_eq_true hi2]
      refine wk ?_
      refine ret X.f40 ?_
      exact ⟨_, rfl, ⟨ok, fb, pb, eb, ecap, cp, ce, rfl, hecap, q.fw (K0.fwe kps)⟩, kps⟩
    · rw [decide_eq_false hi2]
      refine wk ?_
      refine ret X.f40 ?_
      exact ⟨_, rfl, ⟨ok, fb, pb, eb, ecap, cp, ce, rfl, hecap, q.fw (K0.fwe kps)⟩, kps⟩
end

end
end Go.Ev

