/- The reference of the device: New, Erase, Next. -/
import Derived.Test.YtclfgfpebplncaaGreatFlB
import Derived.Test.YtclfgfpebplncaaGreatLgC
set_option linter.unusedVariables false
set_option linter.unusedSectionVars false
set_option linter.unusedSimpArgs false
set_option maxRecDepth 10000
set_option maxHeartbeats 4000000
namespace Go.Ev
section
variable {P0 : Program} {E : Env} {F : T CFn} {K : T (List AV × AV)} (L : Lg P0 E F K) (X : Fx F K)
include L X
section
variable {κ : Nat → Nat} {h : H} {D : Dv} {fb pb eb ecap nb P sz en n byt : Nat} {cut : Int} {off : Bool} {cp ce : List AV}
theorem exists_ct {i : Int} : Ct P0 E F K 46 [.agg (rvL nb P sz en fb pb eb ecap n cut byt off), .int .i64 i] h fun v h' => v = .bool (decide (0 ≤ i ∧ i < nb)) ∧ K0 h h' := by
  refine ct_in2 L X.f46 X.k46 rfl rfl fun Q x cs G => ?_
  refine wk ?_
  by_cases hi : 0 ≤ i
  · refine wk ?_
    by_cases hj : i < nb
    · refine wk ?_
      refine ret X.f46 ?_
      exact ⟨by simp [single, hi, hj], kps⟩
    · refine wk ?_
      refine ret X.f46 ?_
      exact ⟨by simp [single, hi, hj], kps⟩
  · refine wk ?_
    refine ret X.f46 ?_
    exact ⟨by simp [single, hi], kps⟩

theorem fails_ct : Ct P0 E F K 47 [.agg (rvL nb P sz en fb pb eb ecap n cut byt off)] h fun v h' => v = .bool false ∧ K0 h h' := by
  refine ct_in1 L X.f47 X.k47 rfl rfl fun Q x cs G => ?_
  refine wk ?_
  refine g_loop L ?_
  refine wk ?_
  refine ret X.f47 ?_
  exact ⟨rfl, kps⟩

theorem rrestart_ct : Ct P0 E F K 42 [.agg (rvL nb P sz en fb pb eb ecap n cut byt off)] h fun v h' => v = .agg (rvL nb P sz en fb pb eb ecap n (-1) byt false) ∧ K0 h h' := by
  refine ct_in1 L X.f42 X.k42 rfl rfl fun Q x cs G => ?_
  refine wk ?_
  refine ret X.f42 ?_
  exact ⟨rfl, kps⟩

theorem pend_ct (hoff : D.off = false) (h2 : D.sz < 10000) {b : Nat} (hbb : b ≤ D.sz + 64) : Ct P0 E F K 11 [.agg (rvC D fb pb eb ecap), .int .i64 ((D.n : Nat) : Int), .int .i64 ((b : Nat) : Int)] h fun v h' => v = .tup [.agg (rvC { D with cut := (D.n : Nat), byt := b, off := false } fb pb eb ecap), .int .i64 ((0 : Nat) : Int)] ∧ K0 h h' := by
  unfold rvC rvL
  rw [hoff]
  refine ct_in3 L X.f11 X.k11 rfl rfl fun Q x cs G => ?_
  refine wk ?_
  refine ret X.f11 ?_
  exact ⟨rfl, kps⟩

theorem right_ct {g0 g1 g2 g3 : Nat} (h0 : 2 ≤ g0 ∧ g0 ≤ 6) (h1 : 2 ≤ g1 ∧ g1 ≤ 6) (h2 : 12 ≤ g2 ∧ g2 ≤ 30) (h3 : 1 ≤ g3 ∧ g3 ≤ 1000) : Ct P0 E F K 96 [.agg (geoC g0 g1 g2 g3)] h fun v h' => v = .bool true ∧ K0 h h' := by
  refine ct_in1 L X.f96 X.k96 rfl rfl fun Q x cs G => ?_
  refine wk ?_
  refine ret X.f96 ?_
  exact ⟨rfl, kps⟩

/-- Pages in one state: the first i in state s, the others in state 0. -/
structure RpRow (P i : Nat) (s : Nat) (c : List AV) : Prop where
  len : c.length = P * 2
  nil : ∀ j, j < P → c[j * 2 + 1]? = some .nils
  st : ∀ j, j < P → c[j * 2]? = some (.int .i64 ((if j < i then s else 0 : Nat) : Int))
omit L X in
theorem RpRow.step {P i s : Nat} {c : List AV} (r : RpRow P i s c) (hi : i < P) : RpRow P (i + 1) s (c.set (i * 2) (.int .i64 ((s : Nat) : Int))) := by
  refine ⟨by rw [List.length_set]; exact r.len, fun j hj => ?_, fun j hj => ?_⟩
  · rw [List.getElem?_set_ne (by omega)]; exact r.nil j hj
  · by_cases e : j = i
    · subst e
      rw [List.getElem?_set_self (by rw [r.len]; omega), if_pos (Nat.lt_succ_self j)]
    · rw [List.getElem?_set_ne (by omega), r.st j hj]
      by_cases h1 : j < i
      · rw [if_pos h1, if_pos (by omega)]
      · rw [if_neg h1, if_neg (by omega)]
omit L X in
theorem RpRow.init (s : Nat) : ∀ P, RpRow P 0 s (rl [.int .i64 ((0 : Nat) : Int), .nils] P)
  | 0 => ⟨rfl, fun j hj => by omega, fun j hj => by omega⟩
  | P + 1 => by
    have ih := RpRow.init s P
    have e : rl [.int .i64 ((0 : Nat) : Int), .nils] (P + 1) = .int .i64 ((0 : Nat) : Int) :: .nils :: rl [.int .i64 ((0 : Nat) : Int), .nils] P := rfl
    rw [e]
    have hl := ih.len
    refine ⟨by rw [List.length_cons, List.length_cons]; omega, fun j hj => ?_, fun j hj => ?_⟩
    · cases j with
      | zero => rfl
      | succ j => rw [show (j + 1) * 2 + 1 = j * 2 + 1 + 1 + 1 by omega]; simpa using ih.nil j (by omega)
    · cases j with
      | zero => rfl
      | succ j => rw [show (j + 1) * 2 = j * 2 + 1 + 1 by omega]; simpa using ih.st j (by omega)

theorem rpages_ct {P s : Nat} (hP : P < 1000) : Ct P0 E F K 49 [.int .i64 ((P : Nat) : Int), .int .i64 ((s : Nat) : Int)] h fun v h' => ∃ rb c, v = .slc rb 0 P P ∧ Bk h' rb c ∧ RpRow P P s c ∧ h.n ≤ rb ∧ K0 h h' := by
  refine ct_in2 L X.f49 X.k49 rfl rfl fun Q x cs G => ?_
  refine wk ?_
  refine g_up L (α := Unit) (T := fun i _ => [(6, some (.int .i64 ((i : Nat) : Int))), (0, some (.int .i64 ((P : Nat) : Int))), (1, some (.int .i64 ((s : Nat) : Int))), (5, some (.slc h.n 0 P P))]) (n := P)
    (R := fun i _ h1 => (∃ c, Bk h1 h.n c ∧ RpRow P i s c) ∧ K0 h h1) (i0 := 0) () tsb ⟨⟨_, lkp, RpRow.init s P⟩, kps⟩ (Nat.zero_le _) ?_ ?_
  · rintro i _ h1 hi ⟨⟨c, hc, hr⟩, hk⟩ ih
    have hlen : i * 2 + 0 < c.length := by rw [hr.len]; omega
    refine wk ?_
    exact ih () _ _ ⟨⟨_, lkp, hr.step hi⟩, kps⟩ tsb
  · rintro _ h1 ⟨⟨c, hc, hr⟩, hk⟩
    refine wk ?_
    refine ret X.f49 ?_
    exact ⟨h.n, c, rfl, lkp, hr, Nat.le_refl _, kps⟩
end

end
end Go.Ev

namespace Go.Ev
section
variable {P0 : Program} {E : Env} {F : T CFn} {K : T (List AV × AV)} (L : Lg P0 E F K) (X : Fx F K)
include L X
omit L X in
theorem RDevC.row {κ : Nat → Nat} {h : H} {D D' : Dv} {pb eb pb' eb' i rb rcap nx er : Nat} {cp ce c : List AV} {pg : Nat → Pg} (q : RDevC κ h D pb eb cp ce) (hi : i < D.nb) (hnb : D'.nb = D.nb) (hP : D'.P = D.P) (hbl : D'.bl = upd D.bl i ⟨pg, nx, er⟩)
    (pk : Bk h pb' (cp.set i (.slc rb 0 D.P rcap))) (pc : κ pb' = 0) (hrc : rcap = D.P ∨ rcap = capU + 2) (rr : RRow κ h D.P pg rb c) (ek : Bk h eb' (ce.set i (.int .i64 ((er : Nat) : Int)))) (ec : κ eb' = 0) : RDevC κ h D' pb' eb' (cp.set i (.slc rb 0 D.P rcap)) (ce.set i (.int .i64 ((er : Nat) : Int))) := by
  have l1 := q.plen
  have l2 := q.elen
  refine ⟨pk, pc, by rw [List.length_set, hnb]; exact l1, fun j hj => ?_, ek, ec, by rw [List.length_set, hnb]; exact l2, fun j hj => ?_⟩
  · rw [hnb] at hj
    rw [hP, hbl]
    by_cases e : j = i
    · subst e
      rw [upd_eq]
      exact ⟨rb, rcap, c, List.getElem?_set_self (by omega), hrc, rr⟩
    · rw [upd_ne _ _ e, List.getElem?_set_ne (by omega)]
      exact q.rows j hj
  · rw [hnb] at hj
    rw [hbl]
    by_cases e : j = i
    · subst e
      rw [upd_eq, List.getElem?_set_self (by omega)]
    · rw [upd_ne _ _ e, List.getElem?_set_ne (by omega)]
      exact q.er j hj
section
variable {κ : Nat → Nat} {h : H} {D : Dv} {fb pb eb ecap nb P sz en n byt : Nat} {cut : Int} {off : Bool} {cp ce : List AV}
theorem with_ct {i rb rcap : Nat} (pk : Bk h pb cp) (hl : cp.length = nb) (hn : 2 ≤ nb ∧ nb ≤ 6) (hi : i < nb) : Ct P0 E F K 48 [.agg (rvL nb P sz en fb pb eb ecap n cut byt off), .int .i64 ((i : Nat) : Int), .slc rb 0 P rcap] h fun v h' => ∃ pb', v = .agg (rvL nb P sz en fb pb' eb ecap n cut byt off) ∧ Bk h' pb' (cp.set i (.slc rb 0 P rcap)) ∧ h.n ≤ pb' ∧ K0 h h' := by
  have l1 := pk.lt
  have l2 : i < ([] ++ cp).length := by rw [List.nil_append]; omega
  refine ct_in3 L X.f48 X.k48 rfl rfl fun Q x cs G => ?_
  refine wk ?_
  (apply st1 L rfl; exact ap_k (sl := 0) (old := []) (new := cp) rfl rfl (SlR.of (c := []) lkp (by simp) rfl) (SlR.of (c := cp) lkp (by omega) (by rw [List.drop_zero, Nat.mul_one, ← hl, List.take_length])) (by omega) (by decide) (by omega); rfl)
  refine wk ?_
  refine ret X.f48 ?_
  refine ⟨_, by rw [Nat.zero_add]; rfl, lkp, by omega, kps⟩

theorem rnext_ct {i : Int} (q : RDevC κ h D pb eb cp ce) (ok : D.Ok) : Ct P0 E F K 38 [.agg (rvL D.nb D.P sz en fb pb eb ecap n cut byt off), .int .i64 i] h fun v h' => v = .int .i64 ((if 0 ≤ i ∧ i < D.nb then (D.bl i.toNat).nx else 0 : Nat) : Int) ∧ K0 h h' := by
  have hgP := ok.g.P
  refine ct_in2 L X.f38 X.k38 rfl rfl fun Q x cs G => ?_
  refine wk ?_
  refine cal (c := exists_ct L X) (g := ?_)
  rintro _ h1 ⟨rfl, hk⟩
  by_cases hi : 0 ≤ i ∧ i < D.nb
  · rw [decide_eq_true hi]
    obtain ⟨j, rfl⟩ : ∃ j : Nat, i = j := ⟨i.toNat, by omega⟩
    simp only [if_pos hi, Int.toNat_natCast] at G
    have hj : j < D.nb := by omega
    obtain ⟨rb, rcap, c, hc0, hrc, hr⟩ := q.rows j hj
    have hb := ok.bl j hj
    have hnx := hb.nx
    have hpk := q.pk
    have hrk := hr.k
    have l1 := hpk.lt
    have l2 := hrk.lt
    have n1 := hk.n
    simp only [hp_n] at n1
    refine wk ?_
    refine g_up L (α := Unit) (T := fun m _ => [(5, some (.int .i64 ((m : Nat) : Int))), (2, some (.ptr h.n 0)), (1, some (.int .i64 ((j : Nat) : Int)))]) (n := (D.bl j).nx)
      (R := fun m _ h2 => Bk h2 h.n (rvL D.nb D.P sz en fb pb eb ecap n cut byt off) ∧ K0 h h2) (i0 := 0) () tsb ⟨lkp, kps⟩ (Nat.zero_le _) ?_ ?_
    · rintro m _ h2 hm ⟨w1, w2⟩ ih
      have hs := (hr.pg m (by omega)).st
      have hs' : c[m * 2 + 0]? = some (.int .i64 ((((D.bl j).pg m).st : Nat) : Int)) := hs
      have hne := hb.lo m hm
      refine wk ?_
      exact ih () _ _ ⟨lkp, kps⟩ tsb
    · rintro _ h2 ⟨w1, w2⟩
      by_cases he : (D.bl j).nx < D.P
      · have hs := (hr.pg (D.bl j).nx he).st
        have hs' : c[(D.bl j).nx * 2 + 0]? = some (.int .i64 ((((D.bl j).pg (D.bl j).nx).st : Nat) : Int)) := hs
        have hne := hb.hi (D.bl j).nx (Nat.le_refl _) he
        refine wk ?_
        refine ret X.f38 ?_
        exact ⟨rfl, kps⟩
      · refine wk ?_
        refine ret X.f38 ?_
        exact ⟨by show AV.int .i64 ((D.P : Nat) : Int) = _; rw [show (D.bl j).nx = D.P by omega], kps⟩
  · rw [decide_eq_false hi]
    simp only [if_neg hi] at G
    refine wk ?_
    refine ret X.f38 ?_
    exact ⟨rfl, Kp.tr0 hk kps⟩

theorem rErase_ct {i : Int} {rv : List AV} (r : RDev κ h D rv) (hn : D.n + 1 < 1000) : Ct P0 E F K 13 [.agg rv, .int .i64 i] h fun v h' => ∃ rv', v = .tup [.agg rv', .int .i64 (((D.erase i).2 : Nat) : Int)] ∧ RDev (ext κ h.n) h' (D.erase i).1 rv' ∧ K0 h h' := by
  obtain ⟨ok, fb, pb, eb, ecap, cp, ce, rfl, hecap, q⟩ := r
  have hgP := ok.g.P
  have hnb := ok.g.nb
  have hen := ok.g.en
  have l1 := q.pk.lt
  have l2 := q.ek.lt
  have hpk := q.pk
  have hek := q.ek
  by_cases hi : 0 ≤ i ∧ i < D.nb
  · obtain ⟨j, rfl⟩ : ∃ j : Nat, i = j := ⟨i.toNat, by omega⟩
    have hj : j < D.nb := by omega
    have her := q.er j hj
    have hle := (ok.bl j hj).er
    cases hoff : D.off with
    | true =>
      have e0 : D.erase j = (D, 50) := by unfold Dv.erase; rw [if_pos hi, if_pos hoff]
      rw [e0]
      have e1 : rvC D fb pb eb ecap = rvL D.nb D.P D.sz D.en fb pb eb ecap D.n D.cut D.byt true := by unfold rvC; rw [hoff]
      rw [e1]
      refine ct_in2 L X.f13 X.k13 rfl rfl fun Q x cs G => ?_
      refine wk ?_
      refine cal (c := exists_ct L X) (g := ?_)
      rintro _ h1 ⟨rfl, hk⟩
      have n1 := hk.n
      simp only [hp_n] at n1
      rw [decide_eq_true hi]
      refine wk ?_
      refine ret X.f13 ?_
      exact ⟨_, rfl, ⟨ok, fb, pb, eb, ecap, cp, ce, e1.symm, hecap, q.fw (K0.fwe kps)⟩, kps⟩
    | false =>
      have e1 : rvC D fb pb eb ecap = rvL D.nb D.P D.sz D.en fb pb eb ecap D.n D.cut D.byt false := by unfold rvC; rw [hoff]
      by_cases he : D.en ≤ (D.bl j).er
      · have e0 : D.erase j = (D, 56) := by unfold Dv.erase; rw [if_pos hi, if_neg (by rw [hoff]; simp), Int.toNat_natCast, if_pos he]
        rw [e0, e1]
        refine ct_in2 L X.f13 X.k13 rfl rfl fun Q x cs G => ?_
        refine wk ?_
        refine cal (c := exists_ct L X) (g := ?_)
        rintro _ h1 ⟨rfl, hk⟩
        have n1 := hk.n
        simp only [hp_n] at n1
        rw [decide_eq_true hi]
        refine wk ?_
        refine ret X.f13 ?_
        exact ⟨_, rfl, ⟨ok, fb, pb, eb, ecap, cp, ce, e1.symm, hecap, q.fw (K0.fwe kps)⟩, kps⟩
      · have e0 : D.erase j = if (D.n : Int) = D.cut then ({ D with bl := upd D.bl j ⟨blank 5, D.P, (D.bl j).er + 1⟩, n := D.n + 1, off := true }, 50) else ({ D with bl := upd D.bl j ⟨blank 1, 0, (D.bl j).er + 1⟩, n := D.n + 1 }, 0) := by
          unfold Dv.erase
          rw [if_pos hi, hoff, if_neg (by simp), Int.toNat_natCast, if_neg (by omega)]
        rw [e0, e1]
        refine ct_in2 L X.f13 X.k13 rfl rfl fun Q x cs G => ?_
        refine wk ?_
        refine cal (c := exists_ct L X) (g := ?_)
        rintro _ h1 ⟨rfl, hk⟩
        rw [decide_eq_true hi]
        have n1 := hk.n
        simp only [hp_n] at n1
        refine wk ?_
        by_cases hc : (D.n : Int) = D.cut
        · simp only [if_pos hc] at G
          refine wk ?_
          refine cal (c := rpages_ct L X (s := 5) (by omega)) (g := ?_)
          rintro _ h2 ⟨rb, rc, rfl, w1, w2, w3, w4⟩
          have n2 := w4.n
          simp only [hp_n] at n2 w3
          refine wk ?_
          refine cal (c := with_ct L X (i := j) (cp := cp) lkp q.plen hnb hj) (g := ?_)
          rintro _ h3 ⟨pb', rfl, w5, w6, w7⟩
          have n3 := w7.n
          simp only [hp_n] at n3 w6
          have l4 := w5.lt
          have l5 := w1.lt
          have l3 : j < ([] ++ ce).length := by rw [List.nil_append, q.elen]; exact hj
          have her' : ([] ++ ce)[j]? = some (.int .i64 (((D.bl j).er : Nat) : Int)) := by rw [List.nil_append]; exact her
          refine wk ?_
          (apply st1 L rfl; exact ap_k (sl := 0) (old := []) (new := ce) rfl rfl (SlR.of (c := []) lkp (by simp) rfl) (SlR.of (c := ce) lkp (by rw [q.elen]; omega) (by rw [List.drop_zero, Nat.mul_one, ← q.elen, List.take_length])) (by omega) (by decide) (by omega); rfl)
          refine wk ?_
          refine ret X.f13 ?_
          refine ⟨_, by rw [Nat.zero_add]; rfl, ⟨ok.row (i := j) (s := 5) (nx := D.P) (er := (D.bl j).er + 1) ⟨rfl, rfl, rfl, rfl⟩ hn rfl rfl rfl (by omega) (by omega), fb, pb', h3.n + 1, capU + 1, _, _, (by first | rfl | (unfold rvC rvL; rw [hoff])), .inr rfl,
            (q.fw (K0.fwe (κ := κ) kps)).row (rcap := D.P) (pg := blank 5) hj rfl rfl rfl lkp (ext_ge (by omega)) (.inl rfl) ⟨lkp, ext_ge (by omega), w2.len, fun m hm => ⟨by rw [w2.st m hm, if_pos hm]; rfl, fun _ _ => w2.nil m hm, fun hs => absurd hs (by show ¬ (5 = 2 ∨ 5 = 3); omega)⟩⟩ lkp (ext_ge (by omega))⟩, kps⟩
        · simp only [if_neg hc] at G
          refine wk ?_
          refine cal (c := fails_ct L X) (g := ?_)
          rintro _ hf ⟨rfl, wf⟩
          have nf := wf.n
          simp only [hp_n] at nf
          refine wk ?_
          refine cal (c := rpages_ct L X (s := 1) (by omega)) (g := ?_)
          rintro _ h2 ⟨rb, rc, rfl, w1, w2, w3, w4⟩
          have n2 := w4.n
          simp only [hp_n] at n2 w3
          refine wk ?_
          refine cal (c := with_ct L X (i := j) (cp := cp) lkp q.plen hnb hj) (g := ?_)
          rintro _ h3 ⟨pb', rfl, w5, w6, w7⟩
          have n3 := w7.n
          simp only [hp_n] at n3 w6
          have l4 := w5.lt
          have l5 := w1.lt
          have l3 : j < ([] ++ ce).length := by rw [List.nil_append, q.elen]; exact hj
          have her' : ([] ++ ce)[j]? = some (.int .i64 (((D.bl j).er : Nat) : Int)) := by rw [List.nil_append]; exact her
          refine wk ?_
          (apply st1 L rfl; exact ap_k (sl := 0) (old := []) (new := ce) rfl rfl (SlR.of (c := []) lkp (by simp) rfl) (SlR.of (c := ce) lkp (by rw [q.elen]; omega) (by rw [List.drop_zero, Nat.mul_one, ← q.elen, List.take_length])) (by omega) (by decide) (by omega); rfl)
          refine wk ?_
          refine ret X.f13 ?_
          refine ⟨_, by rw [Nat.zero_add]; rfl, ⟨ok.row (i := j) (s := 1) (nx := 0) (er := (D.bl j).er + 1) ⟨rfl, rfl, rfl, rfl⟩ hn rfl rfl rfl (by omega) (by omega), fb, pb', h3.n + 1, capU + 1, _, _, (by first | rfl | (unfold rvC rvL; rw [hoff])), .inr rfl,
            (q.fw (K0.fwe (κ := κ) kps)).row (rcap := D.P) (pg := blank 1) hj rfl rfl rfl lkp (ext_ge (by omega)) (.inl rfl) ⟨lkp, ext_ge (by omega), w2.len, fun m hm => ⟨by rw [w2.st m hm, if_pos hm]; rfl, fun _ _ => w2.nil m hm, fun hs => absurd hs (by show ¬ (1 = 2 ∨ 1 = 3); omega)⟩⟩ lkp (ext_ge (by omega))⟩, kps⟩
  · have e0 : D.erase i = (D, 2) := by unfold Dv.erase; rw [if_neg hi]
    rw [e0]
    refine ct_in2 L X.f13 X.k13 rfl rfl fun Q x cs G => ?_
    refine wk ?_
    refine cal (c := exists_ct L X) (g := ?_)
    rintro _ h1 ⟨rfl, hk⟩
    have n1 := hk.n
    simp only [hp_n] at n1
    rw [decide_eq_false hi]
    refine wk ?_
    refine ret X.f13 ?_
    exact ⟨_, rfl, ⟨ok, fb, pb, eb, ecap, cp, ce, rfl, hecap, q.fw (K0.fwe kps)⟩, kps⟩
end

end
end Go.Ev

namespace Go.Ev
section
variable {P0 : Program} {E : Env} {F : T CFn} {K : T (List AV × AV)} (L : Lg P0 E F K) (X : Fx F K)
include L X
/-- A device under construction: i blocks are there. -/
def mbL (g0 g1 g2 g3 fb : Nat) (fv : AV) (eb : Nat) : List AV := [.int .i64 ((g0 : Nat) : Int), .int .i64 ((g1 : Nat) : Int), .int .i64 ((g2 : Nat) : Int), .int .i64 ((g3 : Nat) : Int), .slc fb 0 0 0, fv, .slc eb 0 g0 g0, .int .i64 ((0 : Nat) : Int), .int .i64 (-1), .int .i64 ((0 : Nat) : Int), .bool false]
def zbL : List AV := [.int .i64 ((0 : Nat) : Int), .int .i64 ((0 : Nat) : Int), .int .i64 ((0 : Nat) : Int), .int .i64 ((0 : Nat) : Int), .nils, .nils, .nils, .int .i64 ((0 : Nat) : Int), .int .i64 ((0 : Nat) : Int), .int .i64 ((0 : Nat) : Int), .bool false]
/-- The rows that are there already. -/
structure Rows (m : Nat) (h : H) (P i : Nat) (pb : Nat) (cp : List AV) : Prop where
  k : Bk h pb cp
  len : cp.length = i
  new : m < pb
  row : ∀ j, j < i → ∃ rb c, cp[j]? = some (.slc rb 0 P P) ∧ Bk h rb c ∧ RpRow P P 1 c ∧ m < rb ∧ rb < pb
section
variable {κ : Nat → Nat} {h : H} {D : Dv} {g0 g1 g2 g3 : Nat}
theorem rnew_ct (h0 : 2 ≤ g0 ∧ g0 ≤ 6) (h1 : 2 ≤ g1 ∧ g1 ≤ 6) (h2 : 12 ≤ g2 ∧ g2 ≤ 30) (h3 : 1 ≤ g3 ∧ g3 ≤ 1000) : Ct P0 E F K 36 [.agg (geoC g0 g1 g2 g3), .nils] h fun v h' => ∃ rv, v = .tup [.agg rv, .int .i64 ((0 : Nat) : Int)] ∧ RDev (ext κ h.n) h' (Dv.new g0 g1 g2 g3) rv ∧ K0 h h' := by
  refine ct_in2 L X.f36 X.k36 rfl rfl fun Q x cs G => ?_
  refine wk ?_
  refine cal (c := right_ct L X h0 h1 h2 h3) (g := ?_)
  rintro _ h4 ⟨rfl, hk⟩
  have n4 := hk.n
  simp only [hp_n] at n4
  refine wk ?_
  refine g_loop L ?_
  refine wk ?_
  have main : ∀ (h5 : H) (lq : List (Nat × Option AV)) (mb eb fb : Nat), Bk h5 h.n (geoC g0 g1 g2 g3) → Bk h5 (h.n + 1) zbL → Bk h5 mb (mbL g0 g1 g2 g3 fb .nils eb) → Bk h5 eb (rl [.int .i64 ((0 : Nat) : Int)] g0) → K0 h h5 → h.n + 1 < mb → h.n + 1 < eb → eb ≠ mb →
      TSub (tms [(8, some (.int .i64 ((0 : Nat) : Int))), (2, some (.ptr h.n 0)), (4, some (.ptr (h.n + 1) 0)), (7, some (.ptr mb 0))]) (tms lq) →
      Good P0 E Q ⟨⟨36, 48, tms lq, [.code c36_32, .inBlock 2, .code c36_36], [], .run, false, none⟩, x :: cs, h5⟩ := by
    rintro h5 lq mb eb fb k1 k2 k3 k4 k5 l1 l2 l3 ht
    have l4 := k3.lt
    have l5 := k4.lt
    have l6 := k5.n
    refine g_up L (α := Unit) (T := fun i _ => [(8, some (.int .i64 ((i : Nat) : Int))), (2, some (.ptr h.n 0)), (4, some (.ptr (h.n + 1) 0)), (7, some (.ptr mb 0))]) (n := g0)
      (R := fun i _ h6 => ∃ fv pb cp, Bk h6 h.n (geoC g0 g1 g2 g3) ∧ Bk h6 (h.n + 1) zbL ∧ Bk h6 mb (mbL g0 g1 g2 g3 fb fv eb) ∧ Bk h6 eb (rl [.int .i64 ((0 : Nat) : Int)] g0) ∧ K0 h h6 ∧ (i = 0 ∧ fv = .nils ∨ 0 < i ∧ fv = .slc pb 0 i (capU + 1) ∧ mb < pb ∧ eb < pb ∧ h.n + 1 < pb ∧ Rows mb h6 g1 i pb cp)) (i0 := 0) () ht ⟨.nils, 0, [], k1, k2, k3, k4, k5, .inl ⟨rfl, rfl⟩⟩ (Nat.zero_le _) ?_ ?_
    · rintro i _ h6 hi ⟨fv, pb, cp, w1, w2, w3, w4, w5, w6⟩ ih
      have m1 := w1.lt
      have m3 := w3.lt
      have m4 := w4.lt
      rcases w6 with ⟨w6, w7⟩ | ⟨w6, w7, w8, w9, wa, wb⟩
      · subst w6
        subst w7
        refine wk ?_
        refine cal (c := rpages_ct L X (s := 1) (by omega)) (g := ?_)
        rintro _ h7 ⟨rb, c, rfl, u1, u2, u3, u4⟩
        have n7 := u4.n
        have m5 := u1.lt
        simp only [hp_n] at u3 n7
        refine wk ?_
        (apply est1 L rfl rfl; exact ap_n (n2 := 1) (new := [.slc rb 0 g1 g1]) rfl rfl (SlR.of (c := [.slc rb 0 g1 g1]) lkp (by simp) rfl) (by omega) (by omega))
        refine wk ?_
        refine ih () _ _ ⟨_, h7.n + 1, _, lkp, lkp, lkp, lkp, kps, .inr ⟨by omega, rfl, by omega, by omega, by omega, lkp, rfl, by omega, fun j hj => ⟨rb, c, ?_, lkp, u2, by omega, by omega⟩⟩⟩ tsb
        rw [show j = 0 by omega]; rfl
      · subst w7
        have wk1 := wb.k
        have m6 := wk1.lt
        refine wk ?_
        refine cal (c := rpages_ct L X (s := 1) (by omega)) (g := ?_)
        rintro _ h7 ⟨rb, c, rfl, u1, u2, u3, u4⟩
        have n7 := u4.n
        have m5 := u1.lt
        simp only [hp_n] at u3 n7
        refine wk ?_
        (apply est1 L rfl rfl; exact ap_u (n2 := 1) (old := cp) (new := [.slc rb 0 g1 g1]) rfl rfl (SlR.of (c := cp) lkp (by rw [wb.len]; omega) (by rw [List.drop_zero, Nat.mul_one, ← wb.len, List.take_length])) (SlR.of (c := [.slc rb 0 g1 g1]) lkp (by simp) rfl) (by omega) (by omega) rfl)
        refine wk ?_
        refine ih () _ _ ⟨_, h7.n + 1, _, lkp, lkp, lkp, lkp, kps, .inr ⟨by omega, rfl, by omega, by omega, by omega, lkp, by rw [List.length_append, wb.len]; rfl, by omega, fun j hj => ?_⟩⟩ tsb
        by_cases e : j < i
        · obtain ⟨rb', c', v1, v2, v3, v4, v5⟩ := wb.row j e
          have m7 := v2.lt
          exact ⟨rb', c', by rw [List.getElem?_append_left (by rw [wb.len]; exact e)]; exact v1, lkp, v3, v4, by omega⟩
        · have e : j = i := by omega
          subst e
          exact ⟨rb, c, by rw [List.getElem?_append_right (by rw [wb.len]; exact Nat.le_refl _), wb.len, Nat.sub_self]; rfl, lkp, u2, by omega, by omega⟩
    · rintro _ h6 ⟨fv, pb, cp, w1, w2, w3, w4, w5, w6⟩
      rcases w6 with ⟨w6, w7⟩ | ⟨w6, w7, w8, w9, wa, wb⟩
      · omega
      · subst w7
        have m1 := w1.lt
        have m2 := wb.k.lt
        have wk2 := wb.k
        refine wk ?_
        refine ret X.f36 ?_
        refine ⟨_, rfl, ⟨⟨⟨h0, h1, h2, h3⟩, by show (0 : Nat) < 1000; omega, Nat.zero_le _, by show (-1 : Int) ≤ -1 ∧ (-1 : Int) < 1000; omega, fun i hi => ⟨Nat.zero_le _, fun j hj => absurd hj (Nat.not_lt_zero j), fun j _ _ => rfl, fun j _ => ⟨fun hs => absurd hs (by show ¬ (1 = 2 ∨ 1 = 3); omega), fun _ _ => rfl, (by show 1 ≤ 1 ∧ 1 ≤ 5; omega)⟩, Nat.zero_le _⟩⟩,
          fb, pb, eb, g0, cp, _, rfl, .inl rfl, ⟨by exact lkp, ext_ge (by omega), wb.len, fun i hi => ?_, lkp, ext_ge (by omega), by rw [rl_len]; exact Nat.mul_one _, fun i hi => ?_⟩⟩, kps⟩
        · obtain ⟨rb', c', v1, v2, v3, v4, v5⟩ := wb.row i hi
          have m7 := v2.lt
          have m8 : mb ≠ rb' := by omega
          exact ⟨rb', g1, c', v1, .inl rfl, lkp, ext_ge (by omega), v3.len, fun j hj => ⟨by rw [v3.st j hj, if_pos (show j < g1 from hj)]; rfl, fun _ _ => v3.nil j hj, fun hs => absurd hs (by show ¬ (1 = 2 ∨ 1 = 3); omega)⟩⟩
        · rw [rl_get _ _ _ (by show i < g0 * 1; rw [Nat.mul_one]; exact hi), show i % [AV.int .i64 ((0 : Nat) : Int)].length = 0 from Nat.mod_one i]; rfl
  refine g_alts4 L ?_ ?_ ?_ ?_
  · refine wk ?_
    exact main _ _ (h4.n + 1 + 1) (h4.n + 1) h4.n lkp lkp lkp lkp kps (by omega) (by omega) (by omega) tsb
  · refine wk ?_
    exact main _ _ (h4.n + 1 + 1) (h4.n + 1) h4.n lkp lkp lkp lkp kps (by omega) (by omega) (by omega) tsb
  · refine wk ?_
    exact main _ _ (h4.n + 1) (h4.n + 1 + 1) h4.n lkp lkp lkp lkp kps (by omega) (by omega) (by omega) tsb
  · refine wk ?_
    exact main _ _ (h4.n + 1 + 1) (h4.n + 1) h4.n lkp lkp lkp lkp kps (by omega) (by omega) (by omega) tsb
end

end
end Go.Ev

