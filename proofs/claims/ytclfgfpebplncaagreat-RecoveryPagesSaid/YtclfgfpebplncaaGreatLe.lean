/- The law. -/
import Derived.Test.YtclfgfpebplncaaGreatLd
set_option linter.unusedVariables false
set_option linter.unusedSectionVars false
set_option linter.unusedSimpArgs false
set_option maxRecDepth 10000
set_option maxHeartbeats 4000000
namespace Go.Ev
section
variable {P0 : Program} {E : Env} {F : T CFn} {K : T (List AV × AV)} (L : Lg P0 E F K) (X : Fx F K)
include L X
section
variable {h : H}
theorem pages1_ct {lp pb sz : Nat} {v : AV} {l : List (PgE × Nat)} (I : Nat → H → Prop) (J : H → Prop) (hlen : l.length ≤ 100) (hv : (l = [] ∧ v = .nils) ∨ ∃ lb, v = .slc lb 0 l.length (capU + 8)) (hI : ∀ i hh, I i hh → Bk hh pb [v] ∧ ∀ lb n c, v = .slc lb 0 n c → Bk hh lb (l.flatMap (peC sz))) (hK : ∀ i hh h', I i hh → K0 hh h' → I i h')
    (hY : ∀ i x hh, l[i]? = some x → I i hh → CtA P0 E F K (.yield lp) [.int .i64 ((x.1.at_ : Nat) : Int), .agg (spC x.1.s)] hh fun u h' => (u = .bool true ∧ I (i + 1) h') ∨ (u = .bool false ∧ J h')) (h0 : I 0 h) :
    Ct P0 E F K 70 [.fn (.yield lp) [] [], .ptr pb 0] h fun u h' => I l.length h' ∨ J h' := by
  have hf : ∀ x ∈ l, (peC sz x).length = 8 := fun _ _ => rfl
  rcases hv with ⟨rfl, rfl⟩ | ⟨lb, rfl⟩
  · have k0 := (hI 0 h h0).1
    refine ct_in2 L X.f70 X.k70 rfl rfl fun Q x cs G => ?_
    refine wk ?_
    refine g_loop L ?_
    refine wk ?_
    refine ret X.f70 ?_
    exact .inl (hK 0 _ _ h0 kps)
  · have k0 := (hI 0 h h0).1
    refine ct_in2 L X.f70 X.k70 rfl rfl fun Q x cs G => ?_
    refine wk ?_
    refine g_up L (α := Unit) (T := fun i _ => [(7, some (.int .i64 ((i : Nat) : Int))), (6, some (.int .i64 ((l.length : Nat) : Int))), (5, some (.slc lb 0 l.length (capU + 8))), (0, some (.fn (.yield lp) [] []))]) (n := l.length)
      (R := fun i _ hh => I i hh) (i0 := 0) () tsb (hK 0 _ _ h0 kps) (Nat.zero_le _) ?_ ?_
    · rintro i _ h2 hi w ih
      have hx : l[i]? = some l[i] := List.getElem?_eq_getElem hi
      have k1 := (hI i h2 w).2 lb _ _ rfl
      have hdt := flat_dt l hf i _ hx
      generalize l[i] = y at *
      obtain ⟨⟨pa, s, data⟩, db⟩ := y
      have hdt' : i * 8 + 8 ≤ (l.flatMap (peC sz)).length ∧ ((l.flatMap (peC sz)).drop (i * 8)).take 8 = [.int .u8 ((s.kind : Nat) : Int), .int .i64 s.sec, .int .u64 ((s.seq : Nat) : Int), .int .u64 ((s.prev : Nat) : Int), .int .i64 s.idx, .int .i64 s.len, .int .i64 ((pa : Nat) : Int), .slc db 0 sz (capU + 1)] := hdt
      have k2 := k1.rk
      refine wk ?_
      (apply st1 L rfl; exact r_loadF lkr hdt' rfl; rfl)
      refine wk ?_
      refine callA L rfl rfl rfl rfl rfl (hY i _ _ hx (hK i _ _ w (by exact kps))) ?_
      rintro _ h3 (⟨rfl, w3⟩ | ⟨rfl, w3⟩)
      · refine wk ?_
        refine ih () _ _ w3 ?_; exact tsb
      · refine wk ?_
        refine ret X.f70 ?_
        exact .inr w3
    · rintro _ h2 w
      refine wk ?_
      refine ret X.f70 ?_
      exact .inl w
end

end
end Go.Ev

/- More operations; blocks of any kind; calls known beforehand. -/
namespace Go.Ev

/-- A block that is known, of any kind. -/
structure Gk (h : H) (b : Nat) (x : Blk) : Prop where
  e : H.get h b = some x
  lt : b < h.n
section
variable {n : Nat} {t : T Blk} {lh : List (Nat × Option Blk)} {b i : Nat} {c : Blk} {x : Option Blk} {h h' : H} {S : Nat → Prop}
theorem gk_0 (k : Gk h b c) : Gk (hp h.n h.t []) b c := k
theorem gk_new : Gk (hp (n + 1) t ((n, some c) :: lh)) n c := ⟨get_eq _ _ _ _ _, Nat.lt_succ_self n⟩
theorem gk_w (k : Gk (hp n t lh) i c) : Gk (hp (n + 1) t ((n, x) :: lh)) i c := ⟨(get_ne _ _ _ _ (Nat.ne_of_lt k.lt)).trans k.e, Nat.lt_succ_of_lt k.lt⟩
theorem gk_ow (h : b < n) : Gk (hp n t ((b, some c) :: lh)) b c := ⟨get_eq _ _ _ _ _, h⟩
theorem gk_n (hne : i ≠ b) (k : Gk (hp n t lh) i c) : Gk (hp n t ((b, x) :: lh)) i c := ⟨(get_ne _ _ _ _ hne).trans k.e, k.lt⟩
theorem gk_k (q : Kp S h h') (hs : ¬ S i) (k : Gk h i c) : Gk h' i c := ⟨q.get k.e k.lt hs, Nat.lt_of_lt_of_le k.lt q.n⟩
theorem gk_k0 (q : K0 h h') (k : Gk h i c) : Gk h' i c := gk_k q (fun f => f) k
end
/-- Such a block is looked up. -/
theorem lkg {p : Prop} (h : p := by
  (repeat (first | assumption | exact gk_new | (apply gk_0; first | assumption | (apply gk_k0; assumption)) | apply gk_w | (refine gk_ow ?_; omega) | (apply gk_n; first | omega | assumption)))) : p := h

section
variable {l : List (Nat × Option AV)} {h : H} {x y : O} {q : Bool}
theorem w_eqFn {f : Nat} {a c : List AV} (e : evO l x = some (.fn (.func f) a c)) (e1 : evO l y = some .nilf) : XV (.bin .eql x y q .nilF) h l (.bool false) h := ⟨by simp only [exec, ev_tms, evO_L e, evO_L e1]; rfl⟩
theorem iEq_self (a : Int) : iEq a a = true := by rw [iEq_eq]; exact decide_eq_true rfl
theorem w_neSp {s : Sp} (e : evO l x = some (.agg (spC s))) (e1 : evO l y = some (.agg (spC s))) : XV (.bin .neq x y q (.agg [(0, 0, .pint), (1, 0, .pint), (2, 0, .pint), (3, 0, .pint), (4, 0, .pint), (5, 0, .pint)])) h l (.bool false) h := by
  refine ⟨?_⟩
  simp [exec, ev_tms, evO_L e, evO_L e1, binV, binEq, eqAny, nilBoth, eqv, eqParts, getL, intEq, kEq_self, iEq_self, spC, vo]
theorem w_maxI {k : IntKind} {a d : Int} {m : Nat} (e : evO l x = some (.int k a)) (e1 : evO l y = some (.int k d)) (hm : max a d = ((m : Nat) : Int)) : XV (.maxmin true x y) h l (.int k ((m : Nat) : Int)) h := ⟨x_max (evO_L e) (evO_L e1) hm⟩
end

section
variable {P : Program} {E : Env} {F : T CFn} {K : T (List AV × AV)} {Q : Nat → AV → Prop}
/-- A call that is known beforehand. -/
theorem ct_memo {f : Nat} {g : CFn} {args : List AV} {v : AV} (hf : T.get F f = some g) (hm : memo K f args = some v) (h : H) : Ct P E F K f args h fun u h' => u = v ∧ h' = h := by
  intro Q x cs hG
  have h1 := hG v h ⟨rfl, rfl⟩
  simp only [doCall, hf, memoD, hm]
  exact h1
variable {fn nt : Nat} {l : List (Nat × Option AV)} {k : List AItem} {ds : List ADef} {dfd : Bool} {h : H}
variable (L : Lg P E F K)
include L
end
end Go.Ev

namespace Go.Ev
section
variable {P0 : Program} {E : Env} {F : T CFn} {K : T (List AV × AV)} (L : Lg P0 E F K) (X : Fx F K)
include L X
omit L X in
def LT (a5 a6 pb a11 a12 : Nat) : List (Nat × Option AV) := [(12, some (.ptr a12 0)), (11, some (.ptr a11 0)), (10, some (.fn (.func 70) [] [.ptr pb 0])), (6, some (.ptr a6 0)), (5, some (.ptr a5 0))]
omit L X in
/-- What stands while the law looks at the lists. -/
structure LW (h : H) (a5 pb a11 sz : Nat) (many : Int) (v1 v2 : AV) (l1 l2 : List (PgE × Nat)) : Prop where
  k5 : Bk h a5 [.int .i64 many]
  kp : Bk h pb [v1]
  k11 : Bk h a11 [v2]
  hv1 : (l1 = [] ∧ v1 = .nils) ∨ ∃ lb, v1 = .slc lb 0 l1.length (capU + 8)
  hl1 : ∀ lb n c, v1 = .slc lb 0 n c → Bk h lb (l1.flatMap (peC sz))
  hv2 : (l2 = [] ∧ v2 = .nils) ∨ ∃ lb, v2 = .slc lb 0 l2.length (capU + 8)
  hl2 : ∀ lb n c, v2 = .slc lb 0 n c → Bk h lb (l2.flatMap (peR sz))
omit L X in
theorem LW.k0 {h h' : H} {a5 pb a11 sz : Nat} {many : Int} {v1 v2 : AV} {l1 l2 : List (PgE × Nat)} (q : LW h a5 pb a11 sz many v1 v2 l1 l2) (k : K0 h h') : LW h' a5 pb a11 sz many v1 v2 l1 l2 :=
  ⟨bk_k0 k q.k5, bk_k0 k q.kp, bk_k0 k q.k11, q.hv1, fun lb n c e => bk_k0 k (q.hl1 lb n c e), q.hv2, fun lb n c e => bk_k0 k (q.hl2 lb n c e)⟩
omit L X in
noncomputable def lpB (nt a5 a6 pb a11 a12 a13 mk : Nat) (st : LS) (pd : Option CC) : Blk := .loop ⟨st, pd, 4, nt, tms [(42, some (.fn (.func 70) [] [.ptr pb 0])), (13, some (.ptr a13 0)), (12, some (.ptr a12 0)), (11, some (.ptr a11 0)), (10, some (.fn (.func 70) [] [.ptr pb 0])), (6, some (.ptr a6 0)), (5, some (.ptr a5 0))], [43, 44], c4_28, c4_40, mk⟩
omit L X in
/-- So many rounds. -/
structure RI (h hh : H) (nt a5 a6 pb a11 a12 t : Nat) (many : Int) (i : Nat) : Prop where
  k : K0 h hh
  n : Bk hh h.n [.int .i64 ((i : Nat) : Int)]
  lp : Gk hh (h.n + 1 + 1) (lpB nt a5 a6 pb a11 a12 h.n (h.n + 1) .ready none)
  mr : Gk hh (h.n + 1) (.dfr (some []))
  go : t = 0 → i = 0 ∨ ((i : Nat) : Int) < many
omit L X in
structure RJ (h hh : H) (nt a5 a6 pb a11 a12 t : Nat) (many : Int) (len i : Nat) : Prop where
  k : K0 h hh
  n : Bk hh h.n [.int .i64 ((i : Nat) : Int)]
  lp : Gk hh (h.n + 1 + 1) (lpB nt a5 a6 pb a11 a12 h.n (h.n + 1) .done (some (.exit 2)))
  mr : Gk hh (h.n + 1) (.dfr (some []))
  b1 : 1 ≤ i ∧ i ≤ len
  tz : t = 0
  m : max 1 many = ((i : Nat) : Int)
section
variable {h : H} {Q : Nat → AV → Prop} {a5 a6 pb a11 a12 sz t nt : Nat} {many : Int} {v1 v2 : AV} {l1 l2 : List (PgE × Nat)} {ds : List ADef}
/-- One turn of the law's loop. -/
theorem law_turn (w : LW h a5 pb a11 sz many v1 v2 l1 l2) (hm : l1.map (·.1) = l2.map (·.1)) (hlen : l1.length ≤ 100) (ht : t < 2) (k12 : Bk h a12 [.int .i64 ((t : Nat) : Int)])
    (ih : ∀ h' a12' m' l', K0 h h' → Bk h' a12' [.int .i64 ((t + 1 : Nat) : Int)] → Gk h' m' (.dfr (some [])) → h.n ≤ m' → TSub (tms (LT a5 a6 pb a11 a12')) (tms l') → Good P0 E Q ⟨⟨4, nt, tms l', [.inLoop c4_58, .inBlock 0, .code c4_63], .mark m' :: ds, .run, false, none⟩, [], h'⟩) :
    Good P0 E Q ⟨⟨4, nt, tms (LT a5 a6 pb a11 a12), [.code c4_58, .inLoop c4_58, .inBlock 0, .code c4_63], ds, .run, false, none⟩, [], hp h.n h.t []⟩ := by
  have hlen2 : l1.length = l2.length := by have := congrArg List.length hm; simpa using this
  have l12 := k12.lt
  unfold LT
  refine wk ?_
  refine keep L (nm := [42, 13, 12, 11, 10, 6, 5]) rfl ?_
  have hY : ∀ i x hh, l1[i]? = some x → RI h hh nt a5 a6 pb a11 a12 t many i → CtA P0 E F K (.yield (h.n + 1 + 1)) [.int .i64 ((x.1.at_ : Nat) : Int), .agg (spC x.1.s)] hh fun u h' => (u = .bool true ∧ RI h h' nt a5 a6 pb a11 a12 t many (i + 1)) ∨ (u = .bool false ∧ ∃ j, RJ h h' nt a5 a6 pb a11 a12 t many l1.length j) := by
    intro i x hh hx r
    obtain ⟨⟨pa, s, data⟩, db⟩ := x
    have hi := (List.getElem?_eq_some_iff.1 hx).1
    have hi2 : i < l2.length := by omega
    have hx2 : l2[i]? = some l2[i] := List.getElem?_eq_getElem hi2
    have he : l2[i].1 = ⟨pa, s, data⟩ := by
      have := congrArg (fun q => q[i]?) hm
      simp only [List.getElem?_map, hx, hx2, Option.map_some, Option.some.injEq] at this
      exact this.symm
    generalize l2[i] = y at *
    obtain ⟨_, db2⟩ := y
    simp only [] at he
    subst he
    obtain ⟨lb, rfl⟩ : ∃ lb, v2 = .slc lb 0 l2.length (capU + 8) := by
      rcases w.hv2 with ⟨e, _⟩ | e
      · rw [e] at hi2; exact absurd hi2 (Nat.not_lt_zero i)
      · exact e
    have hf : ∀ x ∈ l2, (peR sz x).length = 8 := fun _ _ => rfl
    have c0 := flat_get l2 hf i 0 _ hx2 (by omega)
    have c0' : (l2.flatMap (peR sz))[i * 8 + 0]? = some (.int .i64 ((pa : Nat) : Int)) := c0
    have c1 := flat_dt l2 hf i _ hx2
    have c1' : i * 8 + 1 + 6 ≤ (l2.flatMap (peR sz)).length ∧ ((l2.flatMap (peR sz)).drop (i * 8 + 1)).take 6 = spC s := by
      refine ⟨by omega, ?_⟩
      rw [← List.drop_drop]
      have e2 : (((l2.flatMap (peR sz)).drop (i * 8)).drop 1).take 6 = ((((l2.flatMap (peR sz)).drop (i * 8)).take 8).drop 1).take 6 := by
        rw [List.drop_take, List.take_take]; rfl
      rw [e2, c1.2]; rfl
    clear c0 c1
    have w2 := w.k0 r.k
    have la := w.k11.lt
    have lb5 := w.k5.lt
    have lbb := (w.hl2 lb _ _ rfl).lt
    have kl2 := w2.hl2 lb _ _ rfl
    have k11 := w2.k11
    have k5 := w2.k5
    have q12 := bk_k0 r.k k12
    have kn := r.n
    have ln := kn.lt
    have hlp := r.lp
    have hmk := r.mr
    have rk := r.k
    have llp := hlp.lt
    have hle := hlp.e
    unfold lpB at hle
    refine ct_round L (l1 := [(44, some (.agg (spC s))), (43, some (.int .i64 ((pa : Nat) : Int))), (42, some (.fn (.func 70) [] [.ptr pb 0])), (13, some (.ptr h.n 0)), (12, some (.ptr a12 0)), (11, some (.ptr a11 0)), (10, some (.fn (.func 70) [] [.ptr pb 0])), (6, some (.ptr a6 0)), (5, some (.ptr a5 0))]) hle rfl ?_
    intro Q z cs G
    refine wk ?_
    refine st_begin L (Gk.e lkg) ?_
    refine wk ?_
    (apply pst1 rfl rfl; exact r_loadF (Bk.rk lkp) c1' rfl)
    refine wk ?_
    (apply pst1 rfl rfl; exact w_neSp (s := s) rfl rfl)
    refine wk ?_
    by_cases ht0 : t = 0
    · by_cases hb : ((i + 1 : Nat) : Int) < many
      · refine wk ?_
        refine rd_end L (Gk.e lkg) G (.inl ⟨rfl, ?_⟩)
        exact ⟨by exact kps, by exact lkp, gk_ow (by omega), by exact lkg, fun _ => .inr hb⟩
      · refine wk ?_
        refine rd_exit L rfl (Gk.e lkg) G (.inr ⟨rfl, i + 1, ?_⟩)
        exact ⟨by exact kps, by exact lkp, gk_ow (by omega), by exact lkg, ⟨by omega, by omega⟩, ht0, by have := r.go ht0; omega⟩
    · refine wk ?_
      refine rd_end L (Gk.e lkg) G (.inl ⟨rfl, ?_⟩)
      exact ⟨by exact kps, by exact lkp, gk_ow (by omega), by exact lkg, fun q => absurd q ht0⟩
  refine g_range L (post := fun _ h' => RI h h' nt a5 a6 pb a11 a12 t many l1.length ∨ ∃ j, RJ h h' nt a5 a6 pb a11 a12 t many l1.length j) rfl rfl rfl ?_ ?_
  · refine (Ct.A (pages1_ct L X (sz := sz) (v := v1) (l := l1) (fun i hh => RI h hh nt a5 a6 pb a11 a12 t many i) (fun hh => ∃ j, RJ h hh nt a5 a6 pb a11 a12 t many l1.length j) hlen w.hv1 (fun i hh r => ⟨bk_k0 r.k w.kp, fun lb n c e => bk_k0 r.k (w.hl1 lb n c e)⟩) (fun i hh h' r k => ⟨Kp.tr0 k r.k, bk_k0 k r.n, gk_k0 k r.lp, gk_k0 k r.mr, r.go⟩) hY ⟨by exact kps, by exact lkp, by exact lkg, by exact lkg, fun _ => .inl rfl⟩))
  · rintro v h3 (r | ⟨j, r⟩)
    · have rk := r.k
      have w2 := w.k0 rk
      have k11 := w2.k11
      have k5 := w2.k5
      have q12 := bk_k0 r.k k12
      have kn := r.n
      have ln := kn.lt
      have hlp := r.lp
      have hmk := r.mr
      have llp := hlp.lt
      have hle := hlp.e
      have la := w.k11.lt
      have lb5 := w.k5.lt
      unfold lpB at hle
      refine st_endN L (n := h3.n) (t := h3.t) (lh := []) hle (by intro q; cases q) ?_
      have go := r.go
      have hM : max ((1 : Nat) : Int) many = (((max 1 many).toNat : Nat) : Int) := by omega
      by_cases ht0 : t = 0
      · subst ht0
        have go := go rfl
        rcases w.hv2 with ⟨rfl, rfl⟩ | ⟨lb, rfl⟩
        all_goals
          try simp only [List.length_nil] at hlen2
          refine wk ?_
          (apply st1 L rfl; exact w_maxI rfl rfl hM; rfl)
          refine wk ?_
          refine ih _ (h3.n) (h.n + 1) _ (by exact kps) (by exact lkp) (by exact lkg) (by omega) (by unfold LT; exact tsb)
      · obtain rfl : t = 1 := by omega
        rcases w.hv2 with ⟨rfl, rfl⟩ | ⟨lb, rfl⟩
        all_goals
          try simp only [List.length_nil] at hlen2
          refine wk ?_
          refine ih _ (h3.n) (h.n + 1) _ (by exact kps) (by exact lkp) (by exact lkg) (by omega) (by unfold LT; exact tsb)
    · have rk := r.k
      have w2 := w.k0 rk
      have k11 := w2.k11
      have k5 := w2.k5
      have q12 := bk_k0 r.k k12
      have kn := r.n
      have ln := kn.lt
      have hlp := r.lp
      have hmk := r.mr
      have llp := hlp.lt
      have hle := hlp.e
      have la := w.k11.lt
      have lb5 := w.k5.lt
      unfold lpB at hle
      refine st_endX L (n := h3.n) (t := h3.t) (lh := []) hle (by intro q; cases q) ?_
      have hb := r.b1
      have ht0 := r.tz
      subst ht0
      have hM := r.m
      rcases w.hv2 with ⟨rfl, rfl⟩ | ⟨lb, rfl⟩
      · rw [List.length_nil] at hlen2; omega
      · refine wk ?_
        (apply st1 L rfl; exact w_maxI rfl rfl hM; rfl)
        refine wk ?_
        refine ih _ (h3.n) (h.n + 1) _ (by exact kps) (by exact lkp) (by exact lkg) (by omega) (by unfold LT; exact tsb)
end

end
end Go.Ev

namespace Go.Ev
section
variable {P0 : Program} {E : Env} {F : T CFn} {K : T (List AV × AV)} (L : Lg P0 E F K) (X : Fx F K)
include L X
section
variable {h : H}
structure Wk (P : Program) (E : Env) (F : T CFn) (K : T (List AV × AV)) : Prop where
  ct : ∀ h, Ct P E F K 7 [] h fun v h' => v = .bool true ∧ h' = h
/-- The law. -/
theorem law_good {κ : Nat → Nat} {g0 g1 g2 g3 many : Int} {v : AV} {l : List (St × AV)} (T : Tb P0 E F K) (W : Wk P0 E F K) (k : StR κ h v l) (z : ∀ b, b < h.n → κ b = 0) :
    Good P0 E (fun fn u => fn = 4 ∧ u = .bool true) ⟨⟨4, cf4.ntmps, tms [(2, some (.int .i64 many)), (1, some v), (0, some (.agg (geoI g0 g1 g2 g3)))], [.code cf4.body], [], .run, false, none⟩, [], hp h.n h.t []⟩ := by
  by_cases hr : 2 ≤ g0 ∧ g0 ≤ 6 ∧ 2 ≤ g1 ∧ g1 ≤ 6 ∧ 12 ≤ g2 ∧ g2 ≤ 30 ∧ 1 ≤ g3 ∧ g3 ≤ 1000 ∧ l.length ≤ 30
  rotate_left
  · refine wk ?_
    refine cal (c := fewF_ct L X (κ := κ) (l := l) (k.fw (Kp.fw0 (by exact kps))) hr) (g := ?_)
    rintro _ h1 ⟨rfl, w1⟩
    have n1 := w1.n
    simp only [hp_n] at n1
    refine wk ?_
    refine cal (c := W.ct _) (g := ?_)
    try rintro _ _ ⟨rfl, rfl⟩
    try rintro _ rfl
    refine wk ?_
    refine g_retD L (todo := []) ?_
    exact g_fin L X.f4 (r_cell1 rfl (Bk.e lkp) rfl r_nil) ⟨rfl, rfl⟩
  · obtain ⟨n0, rfl⟩ : ∃ n : Nat, g0 = n := ⟨g0.toNat, by omega⟩
    obtain ⟨n1, rfl⟩ : ∃ n : Nat, g1 = n := ⟨g1.toNat, by omega⟩
    obtain ⟨n2, rfl⟩ : ∃ n : Nat, g2 = n := ⟨g2.toNat, by omega⟩
    obtain ⟨n3, rfl⟩ : ∃ n : Nat, g3 = n := ⟨g3.toNat, by omega⟩
    refine wk ?_
    refine cal (c := fewT_ct L X (κ := κ) (l := l) (k.fw (Kp.fw0 (by exact kps))) hr) (g := ?_)
    rintro _ h1 ⟨rfl, w1⟩
    have m1 := w1.n
    simp only [hp_n] at m1
    by_cases he : ∀ x ∈ l, x.1.ents.length ≤ 4
    rotate_left
    · rw [decide_eq_false he]
      refine wk ?_
      refine cal (c := W.ct _) (g := ?_)
      try rintro _ _ ⟨rfl, rfl⟩
      try rintro _ rfl
      refine wk ?_
      refine g_retD L (todo := []) ?_
      exact g_fin L X.f4 (r_cell1 rfl (Bk.e lkp) rfl r_nil) ⟨rfl, rfl⟩
    · rw [decide_eq_true he]
      refine wk ?_
      have p5 : Bk h1 (h.n + 1) [.int .i64 many] := by exact lkp
      have p6 : Bk h1 (h.n + 1 + 1) [.bool false] := by exact lkp
      have kk1 : K0 h h1 := Kp.tr0 w1 (by exact kps)
      have k1 := k.fw (K0.fwe kk1)
      refine cal (c := build_ct L X (g0 := n0) (g1 := n1) (g2 := n2) (g3 := n3) k1 (fun b _ => ext_0 (z b)) (by omega) (by omega) (by omega) (by omega) hr.2.2.2.2.2.2.2.2 he) (g := ?_)
      rintro _ h2 ⟨d, rv, D, κ2, rfl, r2, rd2, hn2, hoff, z2, w2⟩
      have m2 := w2.n
      try simp only [hp_n] at m2 z2
      have rd2' := rd2
      obtain ⟨-, fb, pb0, eb, ecap, cp, ce, rfl, -, -⟩ := rd2'
      have p5 := bk_k0 w2 p5
      have p6 := bk_k0 w2 p6
      refine wk ?_
      have kA : K0 h2 (hp (h2.n + 1) h2.t [(h2.n, some (cl (rvC D fb pb0 eb ecap))), (h2.n, some (cl z11))]) := kps
      have r3 := r2.ext kA
      have rd3 := rd2.fw (K0.fwe kA)
      refine cal (c := Pages_ct L X T r3) (g := ?_)
      rintro _ h3 ⟨pb, v1, rfl, w3, w4, w5, w6⟩
      have m3 := w6.n
      try simp only [hp_n] at m3 w4 w5
      have lpb := w3.lt
      refine wk ?_
      (apply st1 L rfl; exact w_eqFn rfl rfl; rfl)
      refine wk ?_
      have r4 := r3.ext w6
      have rd4 := rd3.fw (K0.fwe w6)
      refine cal (c := pages11_ct L X rd4) (g := ?_)
      rintro v2 h4 ⟨w7, w8⟩
      have m4 := w8.n
      try simp only [hp_n] at m4 w7
      have hq := w7.plain
      refine wk ?_
      (apply stS1 L rfl rfl rfl hq.1 hq.2; exact lkp; (show 0 < 1; omega); rfl)
      refine wk ?_
      have r5 := r4.ext w8
      have kB : K0 h4 (hp (h4.n + 1) h4.t [(h4.n, some (cl [v2])), (h4.n, some (cl [.nils]))]) := kps
      have r6 := r5.ext kB
      have q1 := (w5.fw (K0.fwe w8)).fw (K0.fwe kB)
      have q2 := w7.fw (K0.fwe kB)
      refine cal (c := fErase_ct L X r6 (by omega)) (g := ?_)
      rintro _ h5 ⟨rfl, κ7, -, ch⟩
      have zl : ∀ b, b < h1.n → ext (ext (ext (ext κ2 h2.n) (h2.n + 1)) h3.n) h4.n b = 0 := fun b hb => ext_0 fun _ => ext_0 fun _ => ext_0 fun _ => ext_0 fun _ => z2 b hb
      have zg : ∀ b, h2.n ≤ b → ext (ext (ext (ext κ2 h2.n) (h2.n + 1)) h3.n) h4.n b = 0 := fun b hb => ext_0 fun _ => ext_0 fun _ => ext_0 fun _ => ext_ge hb
      have o5 : Bk h5 (h.n + 1) [.int .i64 many] := bk_k ch.k (by rw [show _ = 0 from zl _ (by omega)]; omega) (by exact lkp)
      have o6 : Bk h5 (h.n + 1 + 1) [.bool false] := bk_k ch.k (by rw [show _ = 0 from zl _ (by omega)]; omega) (by exact lkp)
      have op : Bk h5 pb [v1] := bk_k ch.k (by rw [show _ = 0 from zg _ (by omega)]; omega) (by exact lkp)
      have o11 : Bk h5 h4.n [v2] := bk_k ch.k (by rw [show _ = 0 from zg _ (by omega)]; omega) (by exact lkp)
      obtain ⟨l1, e1, e2, e3⟩ := (q1.fw ch.fw).ex
      obtain ⟨l2, f1, f2, f3⟩ := (q2.fw ch.fw).ex
      have lenp : (pagesOf D).length ≤ 36 := by
        have a1 := pagesTo_len D D.nb
        have a2 := r2.ok.g.nb
        have a3 := r2.ok.g.P
        have a4 : D.nb * D.P ≤ 6 * 6 := Nat.mul_le_mul (by omega) (by omega)
        unfold pagesOf; omega
      have len1 : l1.length ≤ 100 := by
        have := congrArg List.length e1
        rw [List.length_map] at this; omega
      have w : LW h5 (h.n + 1) pb h4.n D.sz many v1 v2 l1 l2 := by
        refine ⟨o5, op, o11, ?_, ?_, ?_, ?_⟩
        · rcases e3 with e3 | ⟨_, b, e4, e5, e6⟩
          · exact .inl e3
          · exact .inr ⟨b, e4⟩
        · rintro lb n c rfl
          rcases e3 with ⟨_, e3⟩ | ⟨_, b, e4, e5, e6⟩
          · cases e3
          · cases e4; exact e5
        · rcases f3 with e3 | ⟨_, b, e4, e5, e6⟩
          · exact .inl e3
          · exact .inr ⟨b, e4⟩
        · rintro lb n c rfl
          rcases f3 with ⟨_, e3⟩ | ⟨_, b, e4, e5, e6⟩
          · cases e3
          · cases e4; exact e5
      have lo6 := o6.lt
      refine wk ?_
      refine g_loop L ?_
      refine keep L (nm := [12, 11, 10, 6, 5]) rfl ?_
      have kC : K0 h5 (hp (h5.n + 1) h5.t [(h5.n, some (cl [.int .i64 ((0 : Nat) : Int)])), (h5.n, some (cl [.int .i64 ((0 : Nat) : Int)]))]) := kps
      refine law_turn L X (h := hp (h5.n + 1) h5.t [(h5.n, some (cl [.int .i64 ((0 : Nat) : Int)])), (h5.n, some (cl [.int .i64 ((0 : Nat) : Int)]))]) (t := 0) (a5 := h.n + 1) (a6 := h.n + 1 + 1) (pb := pb) (a11 := h4.n) (a12 := h5.n) (w.k0 kC) (e1.trans f1.symm) len1 (by omega) (by exact lkp) ?_
      intro h6 b6 m6 t6 k6 k12 g6 hm6 ht6
      simp only [hp_n] at hm6
      have o6b : Bk h6 (h.n + 1 + 1) [.bool false] := bk_k0 k6 (by exact lkp)
      refine g_inLoop L (g_tm L ht6 ?_)
      refine law_turn L X (h := h6) (t := 1) ((w.k0 kC).k0 k6) (e1.trans f1.symm) len1 (by omega) k12 ?_
      intro h7 b7 m7 t7 k7 k13 g7 hm7 ht7
      have o6c : Bk h7 (h.n + 1 + 1) [.bool false] := bk_k0 k7 o6b
      have g8 := gk_k0 k7 g6
      have lg6 := g6.lt
      refine g_inLoop L (g_tm L ht7 ?_)
      unfold LT
      refine wk ?_
      refine cal (c := W.ct _) (g := ?_)
      try rintro _ _ ⟨rfl, rfl⟩
      try rintro _ rfl
      refine wk ?_
      refine g_retD L (todo := []) ?_
      refine g_mark L (by intro q; cases q) (Gk.e lkg) ?_
      refine g_mark L (by intro q; cases q) (Gk.e lkg) ?_
      exact g_fin L X.f4 (r_cell1 rfl (Bk.e lkp) rfl r_nil) ⟨rfl, rfl⟩
end

end
end Go.Ev

