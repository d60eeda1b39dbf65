/- The intact pages, both ways. -/
import Derived.Test.YtclfgfpebplncaaGreatLb
import Derived.Test.YtclfgfpebplncaaGreatLc
set_option linter.unusedVariables false
set_option linter.unusedSectionVars false
set_option linter.unusedSimpArgs false
set_option maxRecDepth 10000
set_option maxHeartbeats 4000000
/- Lists of intact pages that grow. -/
namespace Go.Ev

structure PLo (C : Nat → Prop) (lo : Nat) (h : H) (sz : Nat) (f : Nat → PgE × Nat → List AV) (v : AV) (L : List PgE) : Prop where
  ex : ∃ l : List (PgE × Nat), l.map (·.1) = L ∧ (∀ x ∈ l, BS h x.2 0 x.1.data ∧ C x.2 ∧ x.1.data.length = sz) ∧ ((l = [] ∧ v = .nils) ∨ (l ≠ [] ∧ ∃ b, v = .slc b 0 l.length (capU + 8) ∧ Bk h b (l.flatMap (f sz)) ∧ lo ≤ b ∧ ∀ x ∈ l, x.2 ≠ b))
section
variable {C : Nat → Prop} {lo : Nat} {h h' : H} {sz : Nat} {f : Nat → PgE × Nat → List AV} {v : AV} {L : List PgE}
theorem PLo.nil : PLo C lo h sz f .nils [] := ⟨[], rfl, fun x hx => (by cases hx), .inl ⟨rfl, rfl⟩⟩
theorem PLo.k0 (q : PLo C lo h sz f v L) (k : K0 h h') : PLo C lo h' sz f v L := by
  obtain ⟨l, h1, h2, h3⟩ := q.ex
  refine ⟨l, h1, fun x hx => ?_, ?_⟩
  · obtain ⟨a, b, c⟩ := h2 x hx
    exact ⟨a.k0 k, b, c⟩
  · rcases h3 with h3 | ⟨h4, b, h5, h6, h7, h8⟩
    · exact .inl h3
    · exact .inr ⟨h4, b, h5, bk_k0 k h6, h7, h8⟩
theorem PLo.pl {κ : Nat → Nat} (q : PLo C lo h sz f v L) (hC : ∀ b, C b → κ b = 0) (hlo : ∀ b, lo ≤ b → κ b = 0) : PL κ h sz f v L := by
  obtain ⟨l, h1, h2, h3⟩ := q.ex
  refine ⟨l, h1, fun x hx => ?_, ?_⟩
  · obtain ⟨a, b, c⟩ := h2 x hx
    exact ⟨a, hC _ b, c⟩
  · rcases h3 with h3 | ⟨h4, b, h5, h6, h7, h8⟩
    · exact .inl h3
    · exact .inr ⟨h4, b, h5, h6, hlo _ h7⟩
theorem PLo.app {l : List (PgE × Nat)} {x : PgE} {db N : Nat} (hm : l.map (·.1) = L) (hl : ∀ y ∈ l, BS h' y.2 0 y.1.data ∧ C y.2 ∧ y.1.data.length = sz) (hx : BS h' db 0 x.data ∧ C db ∧ x.data.length = sz)
    (hb : Bk h' N (l.flatMap (f sz) ++ f sz (x, db))) (hlo : lo ≤ N) (hne : ∀ y ∈ l, y.2 ≠ N) (hne2 : db ≠ N) : PLo C lo h' sz f (.slc N 0 (l.length + 1) (capU + 8)) (L ++ [x]) := by
  refine ⟨l ++ [(x, db)], by rw [List.map_append, hm]; rfl, fun y hy => ?_, .inr ⟨by simp, N, by simp, ?_, hlo, fun y hy => ?_⟩⟩
  · rcases List.mem_append.1 hy with hy | hy
    · exact hl y hy
    · rw [List.mem_singleton] at hy; subst hy; exact hx
  · rw [List.flatMap_append]; simpa using hb
  · rcases List.mem_append.1 hy with hy | hy
    · exact hne y hy
    · rw [List.mem_singleton] at hy; subst hy; exact hne2
end
def ext1 (κ : Nat → Nat) (n : Nat) : Nat → Nat := fun b => if b < n then κ b else 1
theorem ext1_0 {κ : Nat → Nat} {n b : Nat} (h : ext1 κ n b = 0) : b < n ∧ κ b = 0 := by
  unfold ext1 at h
  split at h
  · exact ⟨by assumption, h⟩
  · cases h
theorem K0.fw1 {κ : Nat → Nat} {h h' : H} (k : K0 h h') : Fw κ h (ext1 κ h.n) h' := ⟨k.n, fun b hb _ => k.old b hb fun f => f, fun b hb => if_pos hb⟩
theorem PL.plain {κ : Nat → Nat} {h : H} {sz : Nat} {f : Nat → PgE × Nat → List AV} {v : AV} {L : List PgE} (q : PL κ h sz f v L) : cellsV v = some [v] ∧ plainV v = true := by
  obtain ⟨l, h1, h2, ⟨rfl, rfl⟩ | ⟨h4, b, rfl, h6⟩⟩ := q.ex <;> exact ⟨rfl, rfl⟩
theorem rowTo_len (D : Dv) (i n : Nat) : (rowTo D i n).length ≤ n := by
  unfold rowTo
  exact Nat.le_trans (List.length_filterMap_le _ _) (by rw [List.length_range]; exact Nat.le_refl _)
theorem pagesTo_len (D : Dv) : ∀ n, (pagesTo D n).length ≤ n * D.P
  | 0 => by simp [pagesTo]
  | n + 1 => by
    rw [pagesTo_succ, List.length_append, Nat.add_mul]
    have := pagesTo_len D n
    have := rowTo_len D n D.P
    omega
end Go.Ev

namespace Go.Ev
section
variable {P0 : Program} {E : Env} {F : T CFn} {K : T (List AV × AV)} (L : Lg P0 E F K) (X : Fx F K)
include L X
section
variable {κ : Nat → Nat} {h : H} {d : Nat} {D : Dv}
theorem pages_ct (T : Tb P0 E F K) (r : DevR κ h d D) : Ct P0 E F K 54 [.ptr d 0] h fun u h' => PL (ext κ h.n) h' D.sz peC u (pagesOf D) ∧ K0 h h' := by
  have hok := r.ok
  have hP := hok.g.P
  have hnb := hok.g.nb
  have hsz := hok.g.sz
  refine ct_in1 L X.f54 X.k54 rfl rfl fun Q x cs G => ?_
  obtain ⟨-, fm, bb, cb, rq⟩ := r
  have r : DevR κ h d D := ⟨hok, fm, bb, cb, rq⟩
  refine wk ?_
  refine cal (c := geometry_ct L X rq.dk) (g := ?_)
  rintro _ h1 ⟨rfl, w1⟩
  have n1 := w1.n
  try simp only [hp_n] at n1
  refine wk ?_
  refine g_up L (α := AV) (T := fun i v => [(15, some (.int .i64 ((i : Nat) : Int))), (14, some (.int .i64 ((D.nb : Nat) : Int))), (2, some v), (3, some (.ptr h1.n 0)), (0, some (.ptr d 0))]) (n := D.nb)
    (R := fun i v h2 => PLo (fun b => h.n ≤ b) (h1.n + 1) h2 D.sz peC v (pagesTo D i) ∧ K0 h h2 ∧ Bk h2 h1.n (geoC D.nb D.P D.sz D.en)) (i0 := 0) .nils tsb ⟨PLo.nil, kps, lkp⟩ (Nat.zero_le _) ?_ ?_
  · rintro i v h2 hi ⟨w2, w3, w4⟩ ih
    have r2 := r.k0 w3
    obtain ⟨-, fm2, bb2, cb2, rq2⟩ := r2
    obtain ⟨pn, c, hr⟩ := rq2.rows i hi
    have l4 := w4.lt
    have hnx := (hok.bl i hi).nx
    refine wk ?_
    refine cal (c := next_ct L X rq2.dk rq2.bk hi hr.c1) (g := ?_)
    rintro _ rfl
    refine wk ?_
    refine g_up L (α := AV) (T := fun j v => [(21, some (.int .i64 ((j : Nat) : Int))), (20, some (.int .i64 (((D.bl i).nx : Nat) : Int))), (4, some (.int .i64 ((i : Nat) : Int))), (15, some (.int .i64 ((i : Nat) : Int))), (14, some (.int .i64 ((D.nb : Nat) : Int))), (2, some v), (3, some (.ptr h1.n 0)), (0, some (.ptr d 0))]) (n := (D.bl i).nx)
      (R := fun j v h3 => PLo (fun b => h.n ≤ b) (h1.n + 1) h3 D.sz peC v (pagesTo D i ++ rowTo D i j) ∧ K0 h h3 ∧ Bk h3 h1.n (geoC D.nb D.P D.sz D.en)) (i0 := 0) v tsb ⟨by rw [show rowTo D i 0 = [] from rfl, List.append_nil]; exact w2, w3, w4⟩ (Nat.zero_le _) ?_ ?_
    · rintro j v h3 hj ⟨u1, u2, u3⟩ ih2
      have r3 := r.k0 u2
      have l3 := u3.lt
      have u3' := u3
      unfold geoC at u3'
      have hpgo := (hok.bl i hi).pg j (by omega)
      have hmul : i * D.P ≤ 5 * D.P := Nat.mul_le_mul_right _ (by omega)
      have hlen : (pagesTo D i ++ rowTo D i j).length ≤ 100 := by
        rw [List.length_append]
        have := pagesTo_len D i
        have := rowTo_len D i j
        omega
      rw [rowTo_succ, ← List.append_assoc] at ih2
      by_cases hs : D.off = false ∧ (((D.bl i).pg j).st = 2 ∨ ((D.bl i).pg j).st = 3)
      · obtain ⟨hoff, hst⟩ := hs
        have hl := hpgo.full hst
        have epg : pageOf D i j = (decS (((D.bl i).pg j).b.drop D.sz) (((D.bl i).pg j).b.take D.sz)).map fun s => ⟨i * D.P + j, s, ((D.bl i).pg j).b.take D.sz⟩ := by
          unfold pageOf; rw [if_neg (by rw [hoff]; simp), if_pos hst]
        rw [epg] at ih2
        refine wk ?_
        refine cal (c := readO_ct L X r3 hi hj hoff hst) (g := ?_)
        rintro _ h4 ⟨b1, b2, rfl, x1, x2, x3, x4, x5⟩
        have n4 := x5.n
        refine wk ?_
        refine cal (c := decode_ct L X T (ex := ((D.bl i).pg j).b.drop D.sz) (data := ((D.bl i).pg j).b.take D.sz) (m := D.sz) x2 x1 (by rw [List.length_drop]; omega) (by rw [List.length_take]; omega) (by omega)) (g := ?_)
        rintro _ h5 ⟨⟨e, rfl, x6, x7⟩, x8⟩
        have n5 := x8.n
        have kk : K0 h3 h5 := Kp.tr0 x8 x5
        have kk0 : K0 h h5 := Kp.tr0 kk u2
        have u5 := bk_k0 kk u3'
        have lb1 := x1.lt_n
        have y1 := x1.k0 x8
        have u1' := u1.k0 kk
        cases hd : decS (((D.bl i).pg j).b.drop D.sz) (((D.bl i).pg j).b.take D.sz) with
        | none =>
          have he : e ≠ 0 := fun q => by have := x6.1 q; rw [hd] at this; cases this
          rw [hd] at ih2
          refine wk ?_
          refine ih2 v _ _ ⟨?_, kps, lkp⟩ tsb
          rw [Option.map_none, Option.toList_none, List.append_nil]
          exact u1'.k0 kps
        | some s =>
          have he : e = 0 := x6.2 (by rw [hd]; rfl)
          subst he
          rw [hd] at ih2
          rw [Option.map_some, Option.toList_some] at ih2
          rw [Option.getD_some]
          obtain ⟨ll, g1, g2, g3⟩ := u1.ex
          have g4 : ll.length = (pagesTo D i ++ rowTo D i j).length := by rw [← g1, List.length_map]
          have hx : (((D.bl i).pg j).b.take D.sz).length = D.sz := by rw [List.length_take]; omega
          have hf : ∀ x ∈ ll, (peC D.sz x).length = 8 := fun _ _ => rfl
          rcases g3 with ⟨rfl, rfl⟩ | ⟨gn, lb, rfl, g5, g6, g7⟩
          · refine wk ?_
            (apply st1 L rfl; exact ap_n (new := peC D.sz (⟨i * D.P + j, s, ((D.bl i).pg j).b.take D.sz⟩, b1)) rfl rfl (SlR.of (c := peC D.sz (⟨i * D.P + j, s, ((D.bl i).pg j).b.take D.sz⟩, b1)) lkp (Nat.le_refl _) rfl) (by omega) (by omega); rfl)
            refine wk ?_
            refine ih2 _ _ _ ⟨PLo.app (l := []) (x := ⟨i * D.P + j, s, ((D.bl i).pg j).b.take D.sz⟩) (db := b1) (N := h5.n + 1 + 1) g1 (fun y hy => (by cases hy)) ⟨by exact lkb, by omega, hx⟩ (by exact lkp) (by omega) (fun y hy => (by cases hy)) (by omega), by exact kps, by exact lkp⟩ tsb
          · have g8 := g5.lt
            have g9 := bk_k0 kk g5
            refine wk ?_
            (apply st1 L rfl; exact ap_u (old := ll.flatMap (peC D.sz)) (new := peC D.sz (⟨i * D.P + j, s, ((D.bl i).pg j).b.take D.sz⟩, b1)) rfl rfl (SlR.of (c := ll.flatMap (peC D.sz)) lkp (by rw [flat_len ll hf]; omega) (by rw [List.drop_zero, List.take_of_length_le (by rw [flat_len ll hf]; exact Nat.le_refl _)])) (SlR.of (c := peC D.sz (⟨i * D.P + j, s, ((D.bl i).pg j).b.take D.sz⟩, b1)) lkp (Nat.le_refl _) rfl) (by omega) (by omega) rfl; rfl)
            refine wk ?_
            refine ih2 _ _ _ ⟨PLo.app (l := ll) (x := ⟨i * D.P + j, s, ((D.bl i).pg j).b.take D.sz⟩) (db := b1) (N := h5.n + 1 + 1) g1 (fun y hy => ?_) ⟨by exact lkb, by omega, hx⟩ (by exact lkp) (by omega) (fun y hy => ?_) (by omega), by exact kps, by exact lkp⟩ tsb
            · obtain ⟨e1, e2, e3⟩ := g2 y hy
              have e4 := e1.lt_n
              have e5 := e1.k0 kk
              have e6 := g7 y hy
              exact ⟨lkb, e2, e3⟩
            · have e4 := (g2 y hy).1.lt_n
              omega
      · have epg : pageOf D i j = none := by
          unfold pageOf
          by_cases ho : D.off = true
          · rw [if_pos ho]
          · rw [if_neg ho, if_neg fun q => hs ⟨by simpa using ho, q⟩]
        rw [epg] at ih2
        refine wk ?_
        have hbad : D.off = true ∨ (((D.bl i).pg j).st ≠ 2 ∧ ((D.bl i).pg j).st ≠ 3) := by
          by_cases ho : D.off = true
          · exact .inl ho
          · exact .inr ⟨fun q => hs ⟨by simpa using ho, .inl q⟩, fun q => hs ⟨by simpa using ho, .inr q⟩⟩
        refine cal (c := readE_ct L X r3 hi hj hbad) (g := ?_)
        rintro _ h4 ⟨⟨e, rfl, x1, x2⟩, x3⟩
        refine wk ?_
        refine ih2 v _ _ ⟨?_, Kp.tr0 x3 u2, bk_k0 x3 u3⟩ tsb
        rw [Option.toList_none, List.append_nil]
        exact u1.k0 x3
    · rintro v h3 ⟨u1, u2, u3⟩
      refine wk ?_
      refine ih v _ _ ⟨?_, u2, u3⟩ tsb
      rw [pagesTo_succ, rowTo_nx hok hi D.P (Nat.le_refl _) hnx]
      exact u1
  · rintro v h2 ⟨w2, w3, w4⟩
    refine wk ?_
    refine ret X.f54 ?_
    exact ⟨w2.pl (fun b hb => ext_ge hb) fun b hb => ext_ge (by omega), w3⟩
theorem Pages_ct (T : Tb P0 E F K) (r : DevR κ h d D) : Ct P0 E F K 20 [.ptr d 0] h fun u h' => ∃ pb v, u = .fn (.func 70) [] [.ptr pb 0] ∧ Bk h' pb [v] ∧ h.n ≤ pb ∧ PL (ext κ h.n) h' D.sz peC v (pagesOf D) ∧ K0 h h' := by
  refine ct_in1 L X.f20 X.k20 rfl rfl fun Q x cs G => ?_
  refine wk ?_
  refine cal (c := pages_ct L X T r) (g := ?_)
  rintro v h1 ⟨w1, w2⟩
  have n1 := w2.n
  try simp only [hp_n] at n1
  have hq := w1.plain
  refine wk ?_
  (apply stS1 L rfl rfl rfl hq.1 hq.2; exact lkp; (show 0 < 1; omega); rfl)
  refine wk ?_
  refine ret X.f20 ?_
  exact ⟨h1.n, v, rfl, lkp, n1, w1.fw (Kp.fw0 kps), kps⟩
theorem pages11_ct {rv : List AV} (r : RDev κ h D rv) : Ct P0 E F K 21 [.agg rv] h fun u h' => PL (ext κ h.n) h' D.sz peR u (pagesOf D) ∧ K0 h h' := by
  obtain ⟨hok, fb, pb, eb, ecap, cp, ce, rfl, hecap, rdc⟩ := r
  have r : RDev κ h D (rvC D fb pb eb ecap) := ⟨hok, fb, pb, eb, ecap, cp, ce, rfl, hecap, rdc⟩
  have hP := hok.g.P
  have hnb := hok.g.nb
  have hsz := hok.g.sz
  cases hoff : D.off with
  | true =>
    have eo : rvC D fb pb eb ecap = rvL D.nb D.P D.sz D.en fb pb eb ecap D.n D.cut D.byt true := by unfold rvC; rw [hoff]
    rw [eo, pagesOf_off hoff]
    refine ct_in1 L X.f21 X.k21 rfl rfl fun Q x cs G => ?_
    refine wk ?_
    refine ret X.f21 ?_
    exact ⟨PL.nil _ _ _ _, kps⟩
  | false =>
  have eo : rvC D fb pb eb ecap = rvL D.nb D.P D.sz D.en fb pb eb ecap D.n D.cut D.byt false := by unfold rvC; rw [hoff]
  rw [eo] at r ⊢
  refine ct_in1 L X.f21 X.k21 rfl rfl fun Q x cs G => ?_
  refine wk ?_
  refine g_up L (α := AV) (T := fun i v => [(4, some (.int .i64 ((i : Nat) : Int))), (3, some v), (1, some (.ptr h.n 0))]) (n := D.nb)
    (R := fun i v h2 => PLo (fun b => b < h.n ∧ κ b = 0) (h.n + 1) h2 D.sz peR v (pagesTo D i) ∧ K0 h h2 ∧ Bk h2 h.n (rvL D.nb D.P D.sz D.en fb pb eb ecap D.n D.cut D.byt false)) (i0 := 0) .nils tsb ⟨PLo.nil, kps, lkp⟩ (Nat.zero_le _) ?_ ?_
  · rintro i v h2 hi ⟨w2, w3, w4⟩ ih
    have l4 := w4.lt
    have w4' := w4
    unfold rvL at w4'
    refine wk ?_
    refine g_up L (α := AV) (T := fun j v => [(5, some (.int .i64 ((j : Nat) : Int))), (4, some (.int .i64 ((i : Nat) : Int))), (3, some v), (1, some (.ptr h.n 0))]) (n := D.P)
      (R := fun j v h3 => PLo (fun b => b < h.n ∧ κ b = 0) (h.n + 1) h3 D.sz peR v (pagesTo D i ++ rowTo D i j) ∧ K0 h h3 ∧ Bk h3 h.n (rvL D.nb D.P D.sz D.en fb pb eb ecap D.n D.cut D.byt false)) (i0 := 0) v tsb ⟨by rw [show rowTo D i 0 = [] from rfl, List.append_nil]; exact w2, w3, w4⟩ (Nat.zero_le _) ?_ ?_
    · rintro j v h3 hj ⟨u1, u2, u3⟩ ih2
      have r3 := r.fw (K0.fw1 u2)
      have l3 := u3.lt
      have u3' := u3
      unfold rvL at u3'
      have hpgo := (hok.bl i hi).pg j (by omega)
      have hmul : i * D.P ≤ 5 * D.P := Nat.mul_le_mul_right _ (by omega)
      have hlen : (pagesTo D i ++ rowTo D i j).length ≤ 100 := by
        rw [List.length_append]
        have := pagesTo_len D i
        have := rowTo_len D i j
        omega
      rw [rowTo_succ, ← List.append_assoc] at ih2
      by_cases hs : D.off = false ∧ (((D.bl i).pg j).st = 2 ∨ ((D.bl i).pg j).st = 3)
      · obtain ⟨hoff, hst⟩ := hs
        have hl := hpgo.full hst
        have epg : pageOf D i j = (decS (((D.bl i).pg j).b.drop D.sz) (((D.bl i).pg j).b.take D.sz)).map fun s => ⟨i * D.P + j, s, ((D.bl i).pg j).b.take D.sz⟩ := by
          unfold pageOf; rw [if_neg (by rw [hoff]; simp), if_pos hst]
        rw [epg] at ih2
        refine wk ?_
        refine cal (c := rreadO_ct L X r3 hi (by omega) hoff hst) (g := ?_)
        rintro _ h4 ⟨b1, rfl, x1, x2, x5⟩
        have n4 := x5.n
        obtain ⟨x3, x4⟩ := ext1_0 x1
        have x2' := x2.k0 x5
        have y2 : BS h4 b1 D.sz (((D.bl i).pg j).b.drop D.sz) := by
          have := BS.part (a := D.sz) (n := 64) x2' (by omega)
          rwa [Nat.zero_add, List.take_of_length_le (by rw [List.length_drop]; omega)] at this
        have y1 : BS h4 b1 0 (((D.bl i).pg j).b.take D.sz) := BS.part (a := 0) (n := D.sz) x2' (by omega)
        refine wk ?_
        refine cal (c := rdecode_ct L X (ex := ((D.bl i).pg j).b.drop D.sz) (data := ((D.bl i).pg j).b.take D.sz) (m := D.sz) y2 y1 (by rw [List.length_drop]; omega) (by rw [List.length_take]; omega) (by omega)) (g := ?_)
        rintro _ h5 ⟨⟨e, rfl, x6, x7⟩, x8⟩
        have n5 := x8.n
        have kk : K0 h3 h5 := Kp.tr0 x8 x5
        have kk0 : K0 h h5 := Kp.tr0 kk u2
        have u5 := bk_k0 kk u3'
        have lb1 := y1.lt_n
        have y1 := y1.k0 x8
        have u1' := u1.k0 kk
        cases hd : decS (((D.bl i).pg j).b.drop D.sz) (((D.bl i).pg j).b.take D.sz) with
        | none =>
          have he : e ≠ 0 := fun q => by have := x6.1 q; rw [hd] at this; cases this
          rw [hd] at ih2
          refine wk ?_
          refine ih2 v _ _ ⟨?_, kps, lkp⟩ tsb
          rw [Option.map_none, Option.toList_none, List.append_nil]
          exact u1'.k0 kps
        | some s =>
          have he : e = 0 := x6.2 (by rw [hd]; rfl)
          subst he
          rw [hd] at ih2
          rw [Option.map_some, Option.toList_some] at ih2
          rw [Option.getD_some]
          obtain ⟨ll, g1, g2, g3⟩ := u1.ex
          have g4 : ll.length = (pagesTo D i ++ rowTo D i j).length := by rw [← g1, List.length_map]
          have hx : (((D.bl i).pg j).b.take D.sz).length = D.sz := by rw [List.length_take]; omega
          have hf : ∀ x ∈ ll, (peR D.sz x).length = 8 := fun _ _ => rfl
          rcases g3 with ⟨rfl, rfl⟩ | ⟨gn, lb, rfl, g5, g6, g7⟩
          · refine wk ?_
            (apply st1 L rfl; exact ap_n (new := peR D.sz (⟨i * D.P + j, s, ((D.bl i).pg j).b.take D.sz⟩, b1)) rfl rfl (SlR.of (c := peR D.sz (⟨i * D.P + j, s, ((D.bl i).pg j).b.take D.sz⟩, b1)) lkp (Nat.le_refl _) rfl) (by omega) (by omega); rfl)
            refine wk ?_
            refine ih2 _ _ _ ⟨PLo.app (l := []) (x := ⟨i * D.P + j, s, ((D.bl i).pg j).b.take D.sz⟩) (db := b1) (N := h5.n + 1 + 1) g1 (fun y hy => (by cases hy)) ⟨by exact lkb, ⟨x3, x4⟩, hx⟩ (by exact lkp) (by omega) (fun y hy => (by cases hy)) (by omega), by exact kps, by exact lkp⟩ tsb
          · have g8 := g5.lt
            have g9 := bk_k0 kk g5
            refine wk ?_
            (apply st1 L rfl; exact ap_u (old := ll.flatMap (peR D.sz)) (new := peR D.sz (⟨i * D.P + j, s, ((D.bl i).pg j).b.take D.sz⟩, b1)) rfl rfl (SlR.of (c := ll.flatMap (peR D.sz)) lkp (by rw [flat_len ll hf]; omega) (by rw [List.drop_zero, List.take_of_length_le (by rw [flat_len ll hf]; exact Nat.le_refl _)])) (SlR.of (c := peR D.sz (⟨i * D.P + j, s, ((D.bl i).pg j).b.take D.sz⟩, b1)) lkp (Nat.le_refl _) rfl) (by omega) (by omega) rfl; rfl)
            refine wk ?_
            refine ih2 _ _ _ ⟨PLo.app (l := ll) (x := ⟨i * D.P + j, s, ((D.bl i).pg j).b.take D.sz⟩) (db := b1) (N := h5.n + 1 + 1) g1 (fun y hy => ?_) ⟨by exact lkb, ⟨x3, x4⟩, hx⟩ (by exact lkp) (by omega) (fun y hy => ?_) (by omega), by exact kps, by exact lkp⟩ tsb
            · obtain ⟨e1, e2, e3⟩ := g2 y hy
              have e4 := e1.lt_n
              have e5 := e1.k0 kk
              have e6 := g7 y hy
              exact ⟨lkb, e2, e3⟩
            · have e4 := (g2 y hy).1.lt_n
              omega
      · have epg : pageOf D i j = none := by
          unfold pageOf
          by_cases ho : D.off = true
          · rw [if_pos ho]
          · rw [if_neg ho, if_neg fun q => hs ⟨by simpa using ho, q⟩]
        rw [epg] at ih2
        refine wk ?_
        have hbad : D.off = true ∨ (((D.bl i).pg j).st ≠ 2 ∧ ((D.bl i).pg j).st ≠ 3) := by
          by_cases ho : D.off = true
          · exact .inl ho
          · exact .inr ⟨fun q => hs ⟨by simpa using ho, .inl q⟩, fun q => hs ⟨by simpa using ho, .inr q⟩⟩
        refine cal (c := rreadE_ct L X r3 hi (by omega) hbad) (g := ?_)
        rintro _ h4 ⟨⟨e, rfl, x1, x2⟩, x3⟩
        refine wk ?_
        refine ih2 v _ _ ⟨?_, Kp.tr0 x3 u2, bk_k0 x3 u3⟩ tsb
        rw [Option.toList_none, List.append_nil]
        exact u1.k0 x3
    · rintro v h3 ⟨u1, u2, u3⟩
      have u3' := u3
      unfold rvL at u3'
      refine wk ?_
      refine ih v _ _ ⟨?_, u2, u3⟩ tsb
      rw [pagesTo_succ]
      exact u1
  · rintro v h2 ⟨w2, w3, w4⟩
    have w4' := w4
    unfold rvL at w4'
    refine wk ?_
    refine ret X.f21 ?_
    exact ⟨w2.pl (fun b hb => (ext_lt hb.1).trans hb.2) fun b hb => ext_ge (by omega), w3⟩
end

end
end Go.Ev

