/- Intact pages; steps and entries; few. -/
import Derived.Test.YtclfgfpebplncaaGreatWb
import Derived.Test.YtclfgfpebplncaaGreatCd
set_option linter.unusedVariables false
set_option linter.unusedSectionVars false
set_option linter.unusedSimpArgs false
set_option maxRecDepth 10000
set_option maxHeartbeats 4000000
/- Rows of records; the intact pages of a device, as plain data and in a heap. -/
namespace Go.Ev

theorem flat_len {α : Type} {f : α → List AV} {k : Nat} : ∀ (l : List α), (∀ x ∈ l, (f x).length = k) → (l.flatMap f).length = l.length * k
  | [], _ => by simp
  | x :: r, h => by
    rw [List.flatMap_cons, List.length_append, flat_len r (fun y hy => h y (List.mem_cons_of_mem _ hy)), h x (List.mem_cons_self ..), List.length_cons, Nat.add_mul]; omega
theorem flat_get {α : Type} {f : α → List AV} {k : Nat} : ∀ (l : List α), (∀ x ∈ l, (f x).length = k) → ∀ (i j : Nat) (x : α), l[i]? = some x → j < k → (l.flatMap f)[i * k + j]? = (f x)[j]?
  | [], _, i, j, x, h, _ => by simp at h
  | y :: r, hl, i, j, x, h, hj => by
    have hy := hl y (List.mem_cons_self ..)
    rw [List.flatMap_cons]
    cases i with
    | zero =>
      simp only [List.getElem?_cons_zero, Option.some.injEq] at h
      subst h
      rw [Nat.zero_mul, Nat.zero_add, List.getElem?_append_left (by omega)]
    | succ i =>
      rw [List.getElem?_cons_succ] at h
      rw [List.getElem?_append_right (by rw [hy, Nat.add_mul]; omega), hy, show (i + 1) * k + j - k = i * k + j by rw [Nat.add_mul]; omega]
      exact flat_get r (fun z hz => hl z (List.mem_cons_of_mem _ hz)) i j x h hj
theorem flat_dt {α : Type} {f : α → List AV} {k : Nat} (l : List α) (h : ∀ x ∈ l, (f x).length = k) (i : Nat) (x : α) (hx : l[i]? = some x) : i * k + k ≤ (l.flatMap f).length ∧ ((l.flatMap f).drop (i * k)).take k = f x := by
  have hi := (List.getElem?_eq_some_iff.1 hx).1
  have hm : x ∈ l := List.mem_of_getElem? hx
  have h1 : i * k + k ≤ (l.flatMap f).length := by
    rw [flat_len l h]
    have : (i + 1) * k ≤ l.length * k := Nat.mul_le_mul_right k hi
    rw [Nat.add_mul] at this; omega
  refine ⟨h1, ?_⟩
  apply List.ext_getElem?
  intro j
  by_cases hj : j < k
  · rw [List.getElem?_take_of_lt hj, List.getElem?_drop, flat_get l h i j x hx hj]
  · rw [List.getElem?_take_eq_none (by omega), List.getElem?_eq_none (by rw [h x hm]; omega)]

/-- An intact page. -/
structure PgE where
  at_ : Nat
  s : Sp
  data : List Nat
def pageOf (D : Dv) (i j : Nat) : Option PgE :=
  if D.off = true then none
  else if ((D.bl i).pg j).st = 2 ∨ ((D.bl i).pg j).st = 3 then (decS (((D.bl i).pg j).b.drop D.sz) (((D.bl i).pg j).b.take D.sz)).map fun s => ⟨i * D.P + j, s, ((D.bl i).pg j).b.take D.sz⟩
  else none
def rowTo (D : Dv) (i n : Nat) : List PgE := (List.range n).filterMap (pageOf D i)
def pagesTo (D : Dv) (n : Nat) : List PgE := (List.range n).flatMap fun i => rowTo D i D.P
def pagesOf (D : Dv) : List PgE := pagesTo D D.nb
theorem rowTo_succ (D : Dv) (i n : Nat) : rowTo D i (n + 1) = rowTo D i n ++ (pageOf D i n).toList := by
  unfold rowTo
  rw [List.range_succ, List.filterMap_append]
  cases h : pageOf D i n <;> simp [h]
theorem pagesTo_succ (D : Dv) (n : Nat) : pagesTo D (n + 1) = pagesTo D n ++ rowTo D n D.P := by
  unfold pagesTo
  rw [List.range_succ, List.flatMap_append]; simp
/-- Behind a block's next page there is none. -/
theorem rowTo_nx {D : Dv} (ok : D.Ok) {i : Nat} (hi : i < D.nb) : ∀ n, n ≤ D.P → (D.bl i).nx ≤ n → rowTo D i n = rowTo D i (D.bl i).nx
  | 0, _, h => by rw [show (D.bl i).nx = 0 by omega]
  | n + 1, hn, h => by
    by_cases e : (D.bl i).nx = n + 1
    · rw [e]
    · rw [rowTo_succ, rowTo_nx ok hi n (by omega) (by omega)]
      have hst := (ok.bl i hi).hi n (by omega) (by omega)
      have : pageOf D i n = none := by
        unfold pageOf
        rw [hst]
        by_cases ho : D.off = true
        · rw [if_pos ho]
        · rw [if_neg ho, if_neg (by omega)]
      rw [this]; simp
theorem rowTo_off {D : Dv} (h : D.off = true) (i n : Nat) : rowTo D i n = [] := by
  unfold rowTo
  rw [List.filterMap_eq_nil_iff]
  intro j _
  unfold pageOf; rw [if_pos h]
theorem pagesOf_off {D : Dv} (h : D.off = true) : pagesOf D = [] := by
  unfold pagesOf pagesTo
  simp only [rowTo_off h]
  simp

def peC (sz : Nat) (x : PgE × Nat) : List AV := spC x.1.s ++ [.int .i64 ((x.1.at_ : Nat) : Int), .slc x.2 0 sz (capU + 1)]
def peR (sz : Nat) (x : PgE × Nat) : List AV := .int .i64 ((x.1.at_ : Nat) : Int) :: (spC x.1.s ++ [.slc x.2 0 sz (capU + 1)])
/-- A list of intact pages in a heap. -/
structure PL (κ : Nat → Nat) (h : H) (sz : Nat) (f : Nat → PgE × Nat → List AV) (v : AV) (L : List PgE) : Prop where
  ex : ∃ l : List (PgE × Nat), l.map (·.1) = L ∧ (∀ x ∈ l, BS h x.2 0 x.1.data ∧ κ x.2 = 0 ∧ x.1.data.length = sz) ∧ ((l = [] ∧ v = .nils) ∨ (l ≠ [] ∧ ∃ b, v = .slc b 0 l.length (capU + 8) ∧ Bk h b (l.flatMap (f sz)) ∧ κ b = 0))
theorem PL.fw {κ κ' : Nat → Nat} {h h' : H} {sz : Nat} {f : Nat → PgE × Nat → List AV} {v : AV} {L : List PgE} (q : PL κ h sz f v L) (w : Fw κ h κ' h') : PL κ' h' sz f v L := by
  obtain ⟨l, h1, h2, h3⟩ := q.ex
  refine ⟨l, h1, fun x hx => ?_, ?_⟩
  · obtain ⟨a, b, c⟩ := h2 x hx
    exact ⟨w.bs a b, (w.col _ a.lt_n).trans b, c⟩
  · rcases h3 with h3 | ⟨h4, b, h5, h6, h7⟩
    · exact .inl h3
    · exact .inr ⟨h4, b, h5, w.bk h6 h7, (w.col _ h6.lt).trans h7⟩
theorem PL.nil (κ : Nat → Nat) (h : H) (sz : Nat) (f : Nat → PgE × Nat → List AV) : PL κ h sz f .nils [] := ⟨[], rfl, fun x hx => (by cases hx), .inl ⟨rfl, rfl⟩⟩

/-- Other colours for blocks that are not there yet. -/
theorem DevR.recol {κ κ' : Nat → Nat} {h : H} {d : Nat} {D : Dv} (q : DevR κ h d D) (hc : ∀ b, b < h.n → κ' b = κ b) : DevR κ' h d D := by
  obtain ⟨ok, fm, bb, cb, r⟩ := q
  have f : Fw κ h κ' h := ⟨Nat.le_refl _, fun _ _ _ => rfl, hc⟩
  refine ⟨ok, fm, bb, cb, r.dk, (hc _ r.dk.lt).trans r.dcol, r.fk, (hc _ r.fk.lt).trans r.fcol, r.bk, (hc _ r.bk.lt).trans r.bcol, r.blen, r.nb, fun i hi => ?_⟩
  obtain ⟨pn, c, hr⟩ := r.rows i hi
  exact ⟨pn, c, hr.fw f rfl⟩
theorem DevR.ext {κ : Nat → Nat} {h h' : H} {d : Nat} {D : Dv} (q : DevR κ h d D) (k : K0 h h') : DevR (Go.Ev.ext κ h.n) h' d D := (q.recol fun b hb => ext_lt hb).k0 k
end Go.Ev

/- Entries and steps that came in. -/
namespace Go.Ev

abbrev Ent := Int × Int
def entC (e : Ent) : List AV := [.int .i64 e.1, .int .i64 e.2]
theorem entC_len (l : List Ent) : ∀ x ∈ l, (entC x).length = 2 := fun _ _ => rfl
/-- Entries in a heap. -/
structure EntR (κ : Nat → Nat) (h : H) (v : AV) (l : List Ent) : Prop where
  ex : (l = [] ∧ v = .nils) ∨ (l = [] ∧ ∃ a, v = .opq (.slice (some a) 0 0)) ∨ ∃ b cap, v = .slc b 0 l.length cap ∧ Rk h b (l.flatMap entC) ∧ κ b = 0
def Ent.Ok (e : Ent) : Prop := 0 ≤ e.1 ∧ e.1 ≤ 4294967294 ∧ -1 ≤ e.2 ∧ e.2 ≤ 4294967294
instance (e : Ent) : Decidable e.Ok := by unfold Ent.Ok; infer_instance
def encG (e : Ent) : List Nat := leb 4 e.1.toNat ++ leb 4 (e.2 + 1).toNat
def encJ (sz : Nat) (l : List Ent) : List Nat := leb 4 l.length ++ l.flatMap encG ++ List.replicate (sz - 4 - 8 * l.length) 0
def encE (sz : Nat) (l : List Ent) : Nat := if ∀ e ∈ l, e.Ok then (if (sz - 4) / 8 < l.length then 5 else 0) else 2
theorem encG_len (e : Ent) : (encG e).length = 8 := by simp [encG, leb_len]
theorem flatG_len : ∀ (l : List Ent), (l.flatMap encG).length = 8 * l.length
  | [] => rfl
  | e :: r => by rw [List.flatMap_cons, List.length_append, encG_len, flatG_len r, List.length_cons]; omega
theorem flatG_snoc (l : List Ent) (i : Nat) (e : Ent) (h : l[i]? = some e) : (l.take (i + 1)).flatMap encG = (l.take i).flatMap encG ++ (leb 4 e.1.toNat ++ leb 4 (e.2 + 1).toNat) := by
  rw [List.take_add_one, h, List.flatMap_append]; simp [encG]
theorem AllB.flat {α : Type} {f : α → List Nat} : ∀ (l : List α), (∀ x, AllB (f x)) → AllB (l.flatMap f)
  | [], _ => by intro i hi; exact absurd hi (Nat.not_lt_zero i)
  | x :: r, h => by rw [List.flatMap_cons]; exact (h x).app (AllB.flat r h)
theorem encJ_all (sz : Nat) (l : List Ent) : AllB (encJ sz l) := ((leb_all _ _).app (AllB.flat l fun e => (leb_all _ _).app (leb_all _ _))).app (AllB.rep (by omega))
theorem encJ_len {sz : Nat} {l : List Ent} (h : 4 + 8 * l.length ≤ sz) : (encJ sz l).length = sz := by
  unfold encJ; rw [List.length_append, List.length_append, leb_len, flatG_len, List.length_replicate]; omega

/-- A step. -/
structure St where
  blk : Int
  er : Bool
  cut : Bool
  byt : Int
  sp : Sp
  dat : Nat
  ents : List Ent
def stC (x : St × AV) : List AV := [.int .i64 x.1.blk, .bool x.1.er, .bool x.1.cut, .int .i64 x.1.byt, .int .u8 ((x.1.sp.kind : Nat) : Int), .int .i64 x.1.sp.sec, .int .u64 ((x.1.sp.seq : Nat) : Int), .int .u64 ((x.1.sp.prev : Nat) : Int), .int .i64 x.1.sp.idx, .int .i64 x.1.sp.len, .int .u8 ((x.1.dat : Nat) : Int), x.2]
theorem stC_len (l : List (St × AV)) : ∀ x ∈ l, (stC x).length = 12 := fun _ _ => rfl
structure StR (κ : Nat → Nat) (h : H) (v : AV) (l : List (St × AV)) : Prop where
  el : ∀ x ∈ l, EntR κ h x.2 x.1.ents ∧ x.1.sp.Ok ∧ x.1.dat < 256
  ex : (l = [] ∧ v = .nils) ∨ ∃ b cap, v = .slc b 0 l.length cap ∧ Rk h b (l.flatMap stC) ∧ κ b = 0
theorem Fw.rk {κ κ' : Nat → Nat} {h h' : H} {b : Nat} {c : List AV} (f : Fw κ h κ' h') (k : Rk h b c) (hc : κ b = 0) : Rk h' b c := k.keep f.n (f.old b k.lt hc)
theorem EntR.fw {κ κ' : Nat → Nat} {h h' : H} {v : AV} {l : List Ent} (q : EntR κ h v l) (f : Fw κ h κ' h') : EntR κ' h' v l := by
  refine ⟨?_⟩
  rcases q.ex with h1 | h1 | ⟨b, cap, h1, h2, h3⟩
  · exact .inl h1
  · exact .inr (.inl h1)
  · exact .inr (.inr ⟨b, cap, h1, f.rk h2 h3, (f.col b h2.lt).trans h3⟩)
theorem StR.fw {κ κ' : Nat → Nat} {h h' : H} {v : AV} {l : List (St × AV)} (q : StR κ h v l) (f : Fw κ h κ' h') : StR κ' h' v l := by
  refine ⟨fun x hx => let ⟨a, b⟩ := q.el x hx; ⟨a.fw f, b⟩, ?_⟩
  rcases q.ex with h1 | ⟨b, cap, h1, h2, h3⟩
  · exact .inl h1
  · exact .inr ⟨b, cap, h1, f.rk h2 h3, (f.col b h2.lt).trans h3⟩
/-- A geometry, as it came in. -/
def geoI (g0 g1 g2 g3 : Int) : List AV := [.int .i64 g0, .int .i64 g1, .int .i64 g2, .int .i64 g3]
end Go.Ev

namespace Go.Ev
section
variable {P0 : Program} {E : Env} {F : T CFn} {K : T (List AV × AV)} (L : Lg P0 E F K) (X : Fx F K)
include L X
omit L X in
theorem fcases {g0 g1 g2 g3 : Int} {l : List (St × AV)} (h : ¬ (2 ≤ g0 ∧ g0 ≤ 6 ∧ 2 ≤ g1 ∧ g1 ≤ 6 ∧ 12 ≤ g2 ∧ g2 ≤ 30 ∧ 1 ≤ g3 ∧ g3 ≤ 1000 ∧ l.length ≤ 30)) : (g0 < 2) ∨ (2 ≤ g0 ∧ 6 < g0) ∨ (2 ≤ g0 ∧ g0 ≤ 6 ∧ g1 < 2) ∨ (2 ≤ g0 ∧ g0 ≤ 6 ∧ 2 ≤ g1 ∧ 6 < g1) ∨ (2 ≤ g0 ∧ g0 ≤ 6 ∧ 2 ≤ g1 ∧ g1 ≤ 6 ∧ g2 < 12) ∨ (2 ≤ g0 ∧ g0 ≤ 6 ∧ 2 ≤ g1 ∧ g1 ≤ 6 ∧ 12 ≤ g2 ∧ 30 < g2) ∨ (2 ≤ g0 ∧ g0 ≤ 6 ∧ 2 ≤ g1 ∧ g1 ≤ 6 ∧ 12 ≤ g2 ∧ g2 ≤ 30 ∧ g3 < 1) ∨ (2 ≤ g0 ∧ g0 ≤ 6 ∧ 2 ≤ g1 ∧ g1 ≤ 6 ∧ 12 ≤ g2 ∧ g2 ≤ 30 ∧ 1 ≤ g3 ∧ 1000 < g3) ∨ (2 ≤ g0 ∧ g0 ≤ 6 ∧ 2 ≤ g1 ∧ g1 ≤ 6 ∧ 12 ≤ g2 ∧ g2 ≤ 30 ∧ 1 ≤ g3 ∧ g3 ≤ 1000 ∧ 30 < l.length) := by
  by_cases h0 : g0 < 2
  · exact .inl (by omega)
  by_cases h1 : 6 < g0
  · exact .inr (.inl ⟨by omega, by omega⟩)
  by_cases h2 : g1 < 2
  · exact .inr (.inr (.inl ⟨by omega, by omega, by omega⟩))
  by_cases h3 : 6 < g1
  · exact .inr (.inr (.inr (.inl ⟨by omega, by omega, by omega, by omega⟩)))
  by_cases h4 : g2 < 12
  · exact .inr (.inr (.inr (.inr (.inl ⟨by omega, by omega, by omega, by omega, by omega⟩))))
  by_cases h5 : 30 < g2
  · exact .inr (.inr (.inr (.inr (.inr (.inl ⟨by omega, by omega, by omega, by omega, by omega, by omega⟩)))))
  by_cases h6 : g3 < 1
  · exact .inr (.inr (.inr (.inr (.inr (.inr (.inl ⟨by omega, by omega, by omega, by omega, by omega, by omega, by omega⟩))))))
  by_cases h7 : 1000 < g3
  · exact .inr (.inr (.inr (.inr (.inr (.inr (.inr (.inl ⟨by omega, by omega, by omega, by omega, by omega, by omega, by omega, by omega⟩)))))))
  exact .inr (.inr (.inr (.inr (.inr (.inr (.inr (.inr (⟨by omega, by omega, by omega, by omega, by omega, by omega, by omega, by omega, by omega⟩))))))))
section
variable {h : H}
theorem fewF_ct {κ : Nat → Nat} {g0 g1 g2 g3 : Int} {v : AV} {l : List (St × AV)} (k : StR κ h v l) (hn : ¬ (2 ≤ g0 ∧ g0 ≤ 6 ∧ 2 ≤ g1 ∧ g1 ≤ 6 ∧ 12 ≤ g2 ∧ g2 ≤ 30 ∧ 1 ≤ g3 ∧ g3 ≤ 1000 ∧ l.length ≤ 30)) : Ct P0 E F K 6 [.agg (geoI g0 g1 g2 g3), v] h fun u h' => u = .bool false ∧ K0 h h' := by
  rcases k.ex with ⟨rfl, rfl⟩ | ⟨b, cap, rfl, h1, h2⟩
  · rcases fcases hn with hc | hc | hc | hc | hc | hc | hc | hc | hc
    all_goals
      try simp only [List.length_nil] at hc
      refine ct_in2 L X.f6 X.k6 rfl rfl fun Q x cs G => ?_
      refine wk ?_
      refine ret X.f6 ?_
      exact ⟨rfl, kps⟩
  · rcases fcases hn with hc | hc | hc | hc | hc | hc | hc | hc | hc
    all_goals
      refine ct_in2 L X.f6 X.k6 rfl rfl fun Q x cs G => ?_
      refine wk ?_
      refine ret X.f6 ?_
      exact ⟨rfl, kps⟩
theorem fewT_ct {κ : Nat → Nat} {g0 g1 g2 g3 : Int} {v : AV} {l : List (St × AV)} (k : StR κ h v l) (hn : 2 ≤ g0 ∧ g0 ≤ 6 ∧ 2 ≤ g1 ∧ g1 ≤ 6 ∧ 12 ≤ g2 ∧ g2 ≤ 30 ∧ 1 ≤ g3 ∧ g3 ≤ 1000 ∧ l.length ≤ 30) : Ct P0 E F K 6 [.agg (geoI g0 g1 g2 g3), v] h fun u h' => u = .bool (decide (∀ x ∈ l, x.1.ents.length ≤ 4)) ∧ K0 h h' := by
  have hel := k.el
  rcases k.ex with ⟨rfl, rfl⟩ | ⟨b, cap, rfl, h1, h2⟩
  · refine ct_in2 L X.f6 X.k6 rfl rfl fun Q x cs G => ?_
    refine wk ?_
    refine g_loop L ?_
    refine wk ?_
    refine ret X.f6 ?_
    exact ⟨by simp [single], kps⟩
  · have l1 := h1.lt
    refine ct_in2 L X.f6 X.k6 rfl rfl fun Q x cs G => ?_
    refine wk ?_
    refine g_up L (α := Unit) (T := fun i _ => [(5, some (.int .i64 ((i : Nat) : Int))), (1, some (.slc b 0 l.length cap))]) (n := l.length)
      (R := fun i _ h3 => K0 h h3 ∧ ∀ j x, j < i → l[j]? = some x → x.1.ents.length ≤ 4) (i0 := 0) () tsb ⟨kps, fun j x hj => absurd hj (Nat.not_lt_zero j)⟩ (Nat.zero_le _) ?_ ?_
    · rintro i _ h3 hi ⟨w1, w2⟩ ih
      have hx : l[i]? = some l[i] := List.getElem?_eq_getElem hi
      have hk := rk_k0 w1 h1
      have key : ∀ ev, l[i].2 = ev → (l.flatMap stC)[i * 12 + 11]? = some ev := fun ev he => by rw [flat_get l (stC_len l) i 11 _ hx (by omega), ← he]; rfl
      rcases (hel _ (List.getElem_mem hi)).1.ex with ⟨e1, e2⟩ | ⟨e1, _, e2⟩ | ⟨eb, ec, e2, e3⟩
      · refine wk ?_
        (apply st1 L rfl; exact r_load1 rfl lkr (key _ e2); rfl)
        refine wk ?_
        refine ih () _ _ ⟨w1, fun j x hj hx2 => ?_⟩ tsb
        by_cases e : j = i
        · subst e
          rw [hx] at hx2
          cases hx2
          rw [e1]; simp
        · exact w2 j x (by omega) hx2
      · refine wk ?_
        (apply st1 L rfl; exact r_load1 rfl lkr (key _ e2); rfl)
        refine wk ?_
        refine ih () _ _ ⟨w1, fun j x hj hx2 => ?_⟩ tsb
        by_cases e : j = i
        · subst e
          rw [hx] at hx2
          cases hx2
          rw [e1]; simp
        · exact w2 j x (by omega) hx2
      · by_cases h4 : l[i].1.ents.length ≤ 4
        · refine wk ?_
          (apply st1 L rfl; exact r_load1 rfl lkr (key _ e2); rfl)
          refine wk ?_
          refine ih () _ _ ⟨w1, fun j x hj hx2 => ?_⟩ tsb
          by_cases e : j = i
          · subst e
            rw [hx] at hx2
            cases hx2
            exact h4
          · exact w2 j x (by omega) hx2
        · refine wk ?_
          (apply st1 L rfl; exact r_load1 rfl lkr (key _ e2); rfl)
          refine wk ?_
          refine ret X.f6 ?_
          exact ⟨by rw [decide_eq_false (fun q => h4 (q _ (List.getElem_mem hi)))]; rfl, w1⟩
    · rintro _ h3 ⟨w1, w2⟩
      refine wk ?_
      refine ret X.f6 ?_
      exact ⟨by rw [decide_eq_true (fun x hx => by obtain ⟨j, hj, e⟩ := List.getElem_of_mem hx; exact w2 j x hj (by rw [List.getElem?_eq_getElem hj, e]))]; rfl, kps⟩
end

end
end Go.Ev

