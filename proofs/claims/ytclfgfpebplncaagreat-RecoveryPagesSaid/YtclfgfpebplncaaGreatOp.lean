/- What comes in. -/
import Derived.Test.YtclfgfpebplncaaGreatLb
import Derived.ChangeSame
import Derived.DataReads
set_option linter.unusedVariables false
set_option linter.unusedSimpArgs false
set_option linter.unusedSectionVars false
/- What comes in: slices in the model's memory, read as rows of an abstract heap. -/
namespace Go.Ev
open Go.ChangeShapes

/-! tries of lists -/
noncomputable def ofG {α : Type} : Nat → List α → T α
  | _, [] => .leaf
  | i, x :: r => T.set (ofG (i + 1) r) i (some x)
theorem ofG_get {α : Type} : ∀ (l : List α) (i j : Nat), T.get (ofG i l) j = if i ≤ j then l[j - i]? else none
  | [], i, j => by simp only [ofG, T.get_leaf]; split <;> simp
  | x :: r, i, j => by
    simp only [ofG, T.get_set, ofG_get r]
    by_cases h1 : j = i
    · subst h1; simp
    · rw [if_neg h1]
      by_cases h2 : i + 1 ≤ j
      · rw [if_pos h2, if_pos (by omega), show j - i = (j - (i + 1)) + 1 by omega, List.getElem?_cons_succ]
      · rw [if_neg h2, if_neg (by omega)]
theorem ofG0 {α : Type} (l : List α) (j : Nat) : T.get (ofG 0 l) j = l[j]? := by rw [ofG_get, if_pos (Nat.zero_le _), Nat.sub_zero]

/-! slices in memory -/
section
variable {W : World} {a : Addr} {k cap : Nat}
theorem cell_some {v : Value} (h : W.cell? a = some v) : a.spot = none ∧ ∃ cs e fr, W.heap[a.block]? = some (.cells cs e fr) ∧ cs[a.off]? = some v := by
  unfold World.cell? at h
  split at h
  · rename_i cs e fr hb
    cases hs : a.spot with
    | none => rw [hs] at h; exact ⟨rfl, cs, e, fr, hb, h⟩
    | some _ => rw [hs] at h; cases h
  · cases h
theorem add_eq {n : Nat} (h : a.spot = none) : a.add n = ⟨a.block, a.off + n, none⟩ := by
  unfold Addr.add
  obtain ⟨b, o, s⟩ := a
  split
  · rename_i h0; subst h0; simp only at h; subst h; rfl
  · rfl
/-- A slice with room: its cells. -/
theorem slc_open (hk : 0 < k) (hcap : 0 < cap) {f : Nat → List Value} (h : ∀ i, i < cap → W.cells? 0 (a.add (i * k)) k = some (f i)) :
    ∃ cs e fr, a.spot = none ∧ W.heap[a.block]? = some (.cells cs e fr) ∧ a.off + cap * k ≤ cs.size ∧ ∀ i j, i < cap → j < k → cs[a.off + (i * k + j)]? = (f i)[j]? := by
  have h0 := World.cells?_some (h 0 hcap)
  have c0 := h0.2.2 0 hk
  have hl0 := h0.2.1
  rw [List.getElem?_eq_getElem (by omega)] at c0
  have e0 : (a.add (0 * k)).add 0 = a := by rw [Nat.zero_mul]; rfl
  rw [e0] at c0
  obtain ⟨hs, cs, e, fr, hb, -⟩ := cell_some c0
  have key : ∀ i j, i < cap → j < k → cs[a.off + (i * k + j)]? = (f i)[j]? := by
    intro i j hi hj
    have h1 := (World.cells?_some (h i hi)).2.2 j hj
    rw [add_eq hs, addr_add, cell_at hb] at h1
    rw [← h1, Nat.add_assoc]
  refine ⟨cs, e, fr, hs, hb, ?_, key⟩
  have h1 := key (cap - 1) (k - 1) (by omega) (by omega)
  have h2 := (World.cells?_some (h (cap - 1) (by omega))).2.1
  rw [List.getElem?_eq_getElem (by omega)] at h1
  have h3 := (Array.getElem?_eq_some_iff.1 h1).1
  have h4 : cap * k = (cap - 1) * k + k := by
    have : (cap - 1 + 1) * k = (cap - 1) * k + k := by rw [Nat.add_mul, Nat.one_mul]
    rwa [show cap - 1 + 1 = cap by omega] at this
  omega
end

section
variable {H : Type} {enc : TypeId × Value → H} {P : Program} {W : World} {held : Bool} {t e : TypeId} {fuel : Nat}
/-- Elements of a slice, all that it has room for. -/
theorem elems_open (ht : P.underlying t = some (.slice e)) {v : Value} {y : DataW H × List MemPlace} (h : DataW.trod enc P W 0 (fun _ => true) held fuel t [v] = some y) :
    v = .slice none 0 0 ∨ ∃ a len cap n, v = .slice (some a) len cap ∧ len ≤ cap ∧ ∀ i, i < cap → ∃ c z, W.cells? 0 (a.add (i * P.cellsOf e)) (P.cellsOf e) = some c ∧ DataW.trod enc P W 0 (fun _ => true) held n e c = some z := by
  rcases DataW.trod_slice ht h with ⟨h1, -⟩ | ⟨a, len, cap, elems, rest, n, -, h1, -, -, hle, -, hlen, hel, hsp, -⟩
  · left; simpa using h1
  · right
    refine ⟨a, len, cap, n, by simpa using h1, hle, fun i hi => ?_⟩
    obtain ⟨hr1, hr2⟩ := hsp rfl
    have : ∃ z, (W.cells? 0 (a.add (i * P.cellsOf e)) (P.cellsOf e)).bind (DataW.trod enc P W 0 (fun _ => true) held n e) = some z := by
      by_cases hi2 : i < len
      · rw [hel i hi2]
        exact ⟨_, List.getElem?_eq_getElem (by omega)⟩
      · have := hr2 (i - len) (by omega)
        rw [show len + (i - len) = i by omega] at this
        rw [this]
        exact ⟨_, List.getElem?_eq_getElem (by omega)⟩
    obtain ⟨z, hz⟩ := this
    rw [Option.bind_eq_some_iff] at hz
    obtain ⟨c, h2, h3⟩ := hz
    exact ⟨c, z, h2, h3⟩
theorem dt1 {cs : List Value} {o : Nat} {v : Value} (h : (cs.drop o).take 1 = [v]) : cs[o]? = some v := by
  have := congrArg (fun l => l[0]?) h
  simpa [List.getElem?_take, List.getElem?_drop] using this
theorem int_at {k : IntKind} {cs : List Value} {o : Nat} {z : DataW H × List MemPlace} {sp : Nat → Bool} (ht : P.underlying t = some (.int k)) (hc : P.cellsOf t = 1) (h : DataW.trod enc P W 0 sp held fuel t ((cs.drop o).take (P.cellsOf t)) = some z) :
    ∃ n, cs[o]? = some (.int k n) ∧ (Lit.int k n).wf = true := by
  rw [hc] at h
  obtain ⟨n, h1, -, h2⟩ := DataW.trod_int ht h
  exact ⟨n, dt1 h1, h2⟩
theorem bool_at {cs : List Value} {o : Nat} {z : DataW H × List MemPlace} {sp : Nat → Bool} (ht : P.underlying t = some .bool) (hc : P.cellsOf t = 1) (h : DataW.trod enc P W 0 sp held fuel t ((cs.drop o).take (P.cellsOf t)) = some z) :
    ∃ b, cs[o]? = some (.bool b) := by
  rw [hc] at h
  obtain ⟨n, h1, -⟩ := DataW.trod_bool ht h
  exact ⟨n, dt1 h1⟩
theorem wf_nat {k : IntKind} {n : Int} (hs : k.signed = false) (h : (Lit.int k n).wf = true) : ∃ m : Nat, n = m ∧ m < pw k := by
  simp only [Lit.wf, Bool.and_eq_true, decide_eq_true_eq] at h
  cases k <;> first | (cases hs; done) | (simp only [IntKind.min, IntKind.max, IntKind.signed, IntKind.bits] at h; exact ⟨n.toNat, by simp at h; omega, by simp [pw] at h ⊢; omega⟩)
end
end Go.Ev

/- The law's steps, as they lie in the model's memory. -/
namespace Go.Ev
open Go.ChangeShapes

/-- The types of a step. -/
structure TyR (P : Program) : Prop where
  u3 : P.underlying 3 = some (.int .i64)
  c3 : P.cellsOf 3 = 1
  u4 : P.underlying 4 = some .bool
  c4 : P.cellsOf 4 = 1
  u5 : P.underlying 5 = some (.int .u8)
  c5 : P.cellsOf 5 = 1
  u42 : P.underlying 42 = some (.int .u64)
  c42 : P.cellsOf 42 = 1
  u60 : P.underlying 60 = some (.int .u8)
  c60 : P.cellsOf 60 = 1
  u41 : P.underlying 41 = some (.slice 97)
  c41 : P.cellsOf 41 = 1
  u24 : P.underlying 24 = some (.slice 91)
  u97 : ∃ fs, P.underlying 97 = some (.struct fs) ∧ fs.map (fun f => (f.type, f.offset)) = #[(3, 0), (3, 1)]
  c97 : P.cellsOf 97 = 2
  u62 : ∃ fs, P.underlying 62 = some (.struct fs) ∧ fs.map (fun f => (f.type, f.offset)) = #[(60, 0), (3, 1), (42, 2), (42, 3), (3, 4), (3, 5)]
  c62 : P.cellsOf 62 = 6
  u91 : ∃ fs, P.underlying 91 = some (.struct fs) ∧ fs.map (fun f => (f.type, f.offset)) = #[(3, 0), (4, 1), (4, 2), (3, 3), (62, 4), (5, 10), (41, 11)]
  c91 : P.cellsOf 91 = 12

theorem fld {fs : Array Field} {A : Array (TypeId × Nat)} (h : fs.map (fun f => (f.type, f.offset)) = A) {i : Nat} {t : TypeId} {o : Nat} (hi : A[i]? = some (t, o)) : ∃ f, fs[i]? = some f ∧ f.type = t ∧ f.offset = o := by
  subst h
  rw [Array.getElem?_map, Option.map_eq_some_iff] at hi
  obtain ⟨f, h1, h2⟩ := hi
  cases h2
  exact ⟨f, h1, rfl, rfl⟩

section
variable {H : Type} {enc : TypeId × Value → H} {P : Program} {W : World} {held : Bool}
/-- A field of a record that is read. -/
theorem fld_at {t : TypeId} {n0 : Nat} {cs : List Value} {x : DataW H × List MemPlace} {A : Array (TypeId × Nat)} {sp : Nat → Bool} (hu : ∃ fs, P.underlying t = some (.struct fs) ∧ fs.map (fun f => (f.type, f.offset)) = A)
    (h : DataW.trod enc P W 0 sp held n0 t cs = some x) : cs.length = P.cellsOf t ∧ ∃ n, ∀ (i : Nat) (t' : TypeId) (o : Nat), A[i]? = some (t', o) → ∃ z, DataW.trod enc P W 0 sp held n t' ((cs.drop o).take (P.cellsOf t')) = some z := by
  obtain ⟨fs, h1, h2⟩ := hu
  obtain ⟨xs, n, -, -, hl, hlen, hf⟩ := DataW.trod_struct h1 h
  refine ⟨hl, n, fun i t' o hi => ?_⟩
  obtain ⟨f, h3, h4, h5⟩ := fld h2 hi
  have h6 := hf i f h3
  have h7 := (Array.getElem?_eq_some_iff.1 h3).1
  rw [h4, h5] at h6
  rw [h6]
  exact ⟨_, List.getElem?_eq_getElem (by omega)⟩

def entV (x : Ent) : List Value := [.int .i64 x.1, .int .i64 x.2]
theorem ent_open (T : TyR P) {n0 : Nat} {cs : List Value} {x : DataW H × List MemPlace} {sp : Nat → Bool} (h : DataW.trod enc P W 0 sp held n0 97 cs = some x) : ∃ e : Ent, cs = entV e := by
  obtain ⟨hl, n, hf⟩ := fld_at T.u97 h
  rw [T.c97] at hl
  obtain ⟨z0, h0⟩ := hf 0 3 0 rfl
  obtain ⟨z1, h1⟩ := hf 1 3 1 rfl
  obtain ⟨a, a1, -⟩ := int_at T.u3 T.c3 h0
  obtain ⟨b, b1, -⟩ := int_at T.u3 T.c3 h1
  refine ⟨(a, b), List.ext_getElem? fun i => ?_⟩
  rcases i with _ | _ | i
  · exact a1
  · exact b1
  · rw [List.getElem?_eq_none (by omega)]; rfl

def stV (s : St) (ev : Value) : List Value := [.int .i64 s.blk, .bool s.er, .bool s.cut, .int .i64 s.byt, .int .u8 ((s.sp.kind : Nat) : Int), .int .i64 s.sp.sec, .int .u64 ((s.sp.seq : Nat) : Int), .int .u64 ((s.sp.prev : Nat) : Int), .int .i64 s.sp.idx, .int .i64 s.sp.len, .int .u8 ((s.dat : Nat) : Int), ev]
theorem drop_take_get {cs : List Value} {o k j : Nat} {v : Value} (h : ((cs.drop o).take k)[j]? = some v) : cs[o + j]? = some v := by
  have hj : j < k := by
    have := (List.getElem?_eq_some_iff.1 h).1
    rw [List.length_take] at this; omega
  rwa [List.getElem?_take_of_lt hj, List.getElem?_drop] at h
theorem step_open (T : TyR P) {n0 : Nat} {cs : List Value} {x : DataW H × List MemPlace} {sp : Nat → Bool} (h : DataW.trod enc P W 0 sp held n0 91 cs = some x) :
    ∃ (s : St) (ev : Value) (n : Nat) (y : DataW H × List MemPlace), cs = stV s ev ∧ s.sp.Ok ∧ s.dat < 256 ∧ DataW.trod enc P W 0 sp held n 41 [ev] = some y := by
  obtain ⟨hl, n, hf⟩ := fld_at T.u91 h
  rw [T.c91] at hl
  obtain ⟨z0, h0⟩ := hf 0 3 0 rfl
  obtain ⟨z1, h1⟩ := hf 1 4 1 rfl
  obtain ⟨z2, h2⟩ := hf 2 4 2 rfl
  obtain ⟨z3, h3⟩ := hf 3 3 3 rfl
  obtain ⟨z4, h4⟩ := hf 4 62 4 rfl
  obtain ⟨z5, h5⟩ := hf 5 5 10 rfl
  obtain ⟨z6, h6⟩ := hf 6 41 11 rfl
  obtain ⟨v0, a0, -⟩ := int_at T.u3 T.c3 h0
  obtain ⟨v1, a1⟩ := bool_at T.u4 T.c4 h1
  obtain ⟨v2, a2⟩ := bool_at T.u4 T.c4 h2
  obtain ⟨v3, a3, -⟩ := int_at T.u3 T.c3 h3
  obtain ⟨hl4, m, hg⟩ := fld_at T.u62 h4
  obtain ⟨y0, g0⟩ := hg 0 60 0 rfl
  obtain ⟨y1, g1⟩ := hg 1 3 1 rfl
  obtain ⟨y2, g2⟩ := hg 2 42 2 rfl
  obtain ⟨y3, g3⟩ := hg 3 42 3 rfl
  obtain ⟨y4, g4⟩ := hg 4 3 4 rfl
  obtain ⟨y5, g5⟩ := hg 5 3 5 rfl
  obtain ⟨w0, b0, k0⟩ := int_at T.u60 T.c60 g0
  obtain ⟨w1, b1, -⟩ := int_at T.u3 T.c3 g1
  obtain ⟨w2, b2, k2⟩ := int_at T.u42 T.c42 g2
  obtain ⟨w3, b3, k3⟩ := int_at T.u42 T.c42 g3
  obtain ⟨w4, b4, -⟩ := int_at T.u3 T.c3 g4
  obtain ⟨w5, b5, -⟩ := int_at T.u3 T.c3 g5
  obtain ⟨v5, a5, k5⟩ := int_at T.u5 T.c5 h5
  obtain ⟨w0, rfl, rk0⟩ := wf_nat rfl k0
  obtain ⟨w2, rfl, rk2⟩ := wf_nat rfl k2
  obtain ⟨w3, rfl, rk3⟩ := wf_nat rfl k3
  obtain ⟨v5, rfl, rk5⟩ := wf_nat rfl k5
  have b0 := drop_take_get b0
  have b1 := drop_take_get b1
  have b2 := drop_take_get b2
  have b3 := drop_take_get b3
  have b4 := drop_take_get b4
  have b5 := drop_take_get b5
  rw [T.c41] at h6
  have e6 : (cs.drop 11).take 1 = [cs[11]] := by
    rw [List.drop_eq_getElem_cons (show 11 < cs.length by omega)]; rfl
  rw [e6] at h6
  refine ⟨⟨v0, v1, v2, v3, ⟨w0, w1, w2, w3, w4, w5⟩, v5, []⟩, cs[11], n, z6, List.ext_getElem? fun i => ?_, ⟨rk0, rk2, rk3⟩, rk5, h6⟩
  rcases i with _ | _ | _ | _ | _ | _ | _ | _ | _ | _ | _ | _ | i
  · exact a0
  · exact a1
  · exact a2
  · exact a3
  · exact b0
  · exact b1
  · exact b2
  · exact b3
  · exact b4
  · exact b5
  · exact a5
  · exact List.getElem?_eq_getElem (by omega)
  · rw [List.getElem?_eq_none (by omega)]; rfl
theorem stV_ents (s : St) (l : List Ent) (ev : Value) : stV { s with ents := l } ev = stV s ev := rfl

/-- The entries of a step, opened: where they lie. -/
def EO (W : World) (v : Value) (x : List Ent × Option Loc) : Prop :=
  match x.2 with
  | none => x.1 = [] ∧ (v = .slice none 0 0 ∨ ∃ a, v = .slice (some a) 0 0)
  | some l => ∃ cap cs e fr, v = .slice (some ⟨l.cb, l.base, none⟩) x.1.length cap ∧ x.1.length ≤ cap ∧ l.base + cap * 2 ≤ l.csz ∧ W.heap[l.cb]? = some (.cells cs e fr) ∧ cs.size = l.csz ∧ ∀ i y, x.1[i]? = some y → ∀ j, j < 2 → cs[l.base + (i * 2 + j)]? = (entV y)[j]?
theorem skol {α : Type} {n : Nat} (hn : 0 < n) {R : Nat → α → Prop} (h : ∀ i, i < n → ∃ y, R i y) : ∃ f : Nat → α, ∀ i, i < n → R i (f i) := by
  have : ∀ i, ∃ y, i < n → R i y := fun i => by
    by_cases hi : i < n
    · obtain ⟨y, hy⟩ := h i hi; exact ⟨y, fun _ => hy⟩
    · obtain ⟨y, -⟩ := h 0 hn; exact ⟨y, fun q => absurd q hi⟩
  exact Classical.axiomOfChoice this
theorem range_get {α : Type} (f : Nat → α) (n i : Nat) (x : α) (h : ((List.range n).map f)[i]? = some x) : i < n ∧ x = f i := by
  rw [List.getElem?_map, Option.map_eq_some_iff] at h
  obtain ⟨j, h1, h2⟩ := h
  obtain ⟨h3, h4⟩ := List.getElem?_eq_some_iff.1 h1
  rw [List.length_range] at h3
  rw [List.getElem_range] at h4
  subst h4
  exact ⟨h3, h2.symm⟩
theorem entries_open (T : TyR P) {n0 : Nat} {v : Value} {y : DataW H × List MemPlace} (h : DataW.trod enc P W 0 (fun _ => true) held n0 41 [v] = some y) : ∃ x, EO W v x := by
  rcases elems_open T.u41 h with rfl | ⟨a, len, cap, n, rfl, hle, hc⟩
  · exact ⟨([], none), rfl, .inl rfl⟩
  · by_cases hcap : cap = 0
    · subst hcap
      obtain rfl : len = 0 := by omega
      exact ⟨([], none), rfl, .inr ⟨a, rfl⟩⟩
    · rw [T.c97] at hc
      have hc2 : ∀ i, i < cap → ∃ e : Ent, W.cells? 0 (a.add (i * 2)) 2 = some (entV e) := fun i hi => by
        obtain ⟨c, z, h1, h2⟩ := hc i hi
        obtain ⟨e, rfl⟩ := ent_open T h2
        exact ⟨e, h1⟩
      obtain ⟨f, hf⟩ := skol (Nat.pos_of_ne_zero hcap) hc2
      obtain ⟨cs, e, fr, hs, hb, hsz, hk⟩ := slc_open (k := 2) (by omega) (Nat.pos_of_ne_zero hcap) hf
      obtain ⟨ab, ao, as⟩ := a
      simp only at hs hb hsz hk
      subst hs
      have hlen : ((List.range len).map f).length = len := by simp
      refine ⟨((List.range len).map f, some ⟨ab, ao, cs.size⟩), cap, cs, e, fr, ?_, ?_, hsz, hb, rfl, fun i y hi j hj => ?_⟩
      · show _ = Value.slice (some ⟨ab, ao, none⟩) ((List.range len).map f).length cap
        rw [hlen]
      · show ((List.range len).map f).length ≤ cap
        rw [hlen]; exact hle
      · obtain ⟨h1, rfl⟩ := range_get f len i y hi
        exact hk i j (by omega) hj

theorem get_ofL (l : List AV) (i : Nat) : T.get (ofL 0 (.leaf : T AV) l) i = l[i]? := cl_get l i
def eAV (b : Nat) (v : Value) (x : List Ent × Option Loc) : AV := match x.2 with
  | none => (match v with
    | .slice none _ _ => .nils
    | _ => .opq v)
  | some _ => .slc b 0 x.1.length (capU + 2)
theorem entC_V {φ : Phi} (e : Ent) : VRs φ (entC e) (entV e) := .cons (.int _ _) (.cons (.int _ _) .nil)
theorem stC_V {φ : Phi} (s : St) {av : AV} {ev : Value} (h : VR φ av ev) : VRs φ (stC (s, av)) (stV s ev) :=
  .cons (.int _ _) (.cons (.bool _) (.cons (.bool _) (.cons (.int _ _) (.cons (.int _ _) (.cons (.int _ _) (.cons (.int _ _) (.cons (.int _ _) (.cons (.int _ _) (.cons (.int _ _) (.cons (.int _ _) (.cons h .nil)))))))))))
end
end Go.Ev

/- The law's steps, laid into an abstract heap. -/
namespace Go.Ev
open Go.ChangeShapes

section
variable {H1 : Type} {enc : TypeId × Value → H1} {P : Program} {E : Env} {W : World} {held : Bool}
theorem VR_eAV {φ : Phi} {b : Nat} {v : Value} {x : List Ent × Option Loc} (h : EO W v x) (hφ : φ b = x.2) : VR φ (eAV b v x) v := by
  obtain ⟨xs, ol⟩ := x
  cases ol with
  | none =>
    obtain ⟨-, rfl | ⟨a, rfl⟩⟩ := h
    · exact .nils
    · exact .opq _
  | some l =>
    obtain ⟨cap, cs, e, fr, rfl, h1, h2, -, -, -⟩ := h
    exact .slcU hφ h1 h2 fun _ => rfl
theorem BR_row {φ : Phi} {l : Loc} {xs : List AV} {cs : Array Value} {e : TypeId} {fr : Nat × Nat} (hs : cs.size = l.csz) (hn : l.base + xs.length ≤ cs.size) (h : ∀ (i : Nat) (v : AV), xs[i]? = some v → ∃ v', cs[l.base + i]? = some v' ∧ VR φ v v') :
    BR E φ l (cellsR xs) (.cells cs e fr) :=
  .cells (fun q => by cases q) hs hn fun i v hi hv => h i v (by rw [get_ofL] at hv; exact hv)
theorem flat_at {α : Type} {f : α → List AV} {k : Nat} (hk : 0 < k) (l : List α) (hl : ∀ x ∈ l, (f x).length = k) {i : Nat} {v : AV} (h : (l.flatMap f)[i]? = some v) : ∃ x, l[i / k]? = some x ∧ (f x)[i % k]? = some v ∧ i / k * k + i % k = i := by
  have h1 : i < (l.flatMap f).length := (List.getElem?_eq_some_iff.1 h).1
  rw [flat_len l hl] at h1
  have h2 : i / k < l.length := by rw [Nat.div_lt_iff_lt_mul hk]; exact h1
  have h3 : i / k * k + i % k = i := by rw [Nat.mul_comm]; exact Nat.div_add_mod i k
  refine ⟨l[i / k], List.getElem?_eq_getElem h2, ?_, h3⟩
  rw [← flat_get l hl (i / k) (i % k) _ (List.getElem?_eq_getElem h2) (Nat.mod_lt _ hk), h3]
  exact h
theorem BR_ents {φ : Phi} {v : Value} {x : List Ent × Option Loc} {l : Loc} (h : EO W v x) (hl : x.2 = some l) : ∃ o, W.heap[l.cb]? = some o ∧ BR E φ l (cellsR (x.1.flatMap entC)) o := by
  obtain ⟨xs, ol⟩ := x
  simp only at hl
  subst hl
  obtain ⟨cap, cs, e, fr, rfl, h1, h2, h3, h4, h5⟩ := h
  simp only at h1 h5
  refine ⟨_, h3, BR_row h4 ?_ fun i u hi => ?_⟩
  · rw [flat_len xs (entC_len xs)]
    have : xs.length * 2 ≤ cap * 2 := Nat.mul_le_mul_right 2 h1
    omega
  · obtain ⟨y, g1, g2, g3⟩ := flat_at (by omega) xs (entC_len xs) hi
    obtain ⟨u', g4, g5⟩ := (entC_V (φ := φ) y).get g2
    refine ⟨u', ?_, g5⟩
    rw [← g4, ← h5 _ y g1 (i % 2) (Nat.mod_lt _ (by omega)), g3]

/-- The steps that came in, laid into a heap of the abstract machine. -/
theorem steps_open (Ty : TyR P) {n0 : Nat} {v : Value} {y : DataW H1 × List MemPlace} (h : DataW.trod enc P W 0 (fun _ => true) held n0 24 [v] = some y) (hv : ∀ a, v = .slice (some a) 0 0 → a.spot = none ∧ ∃ cs e fr, W.heap[a.block]? = some (.cells cs e fr)) :
    ∃ (h0 : H) (φ : Phi) (av : AV) (l : List (St × AV)), VR φ av v ∧ HR E W.heap φ h0 W.heap ∧ StR (fun _ => 0) h0 av l := by
  have lt_of : ∀ {cb : Nat} {o : Obj}, W.heap[cb]? = some o → cb < W.heap.size := fun q => by
    rcases Nat.lt_or_ge _ W.heap.size with h' | h'
    · exact h'
    · rw [Array.getElem?_eq_none h'] at q; cases q
  rcases elems_open Ty.u24 h with rfl | ⟨a, len, cap, n, rfl, hle, hc⟩
  · exact ⟨⟨0, .leaf⟩, fun _ => none, .nils, [], .nils, HR.none _, fun x hx => (by cases hx), .inl ⟨rfl, rfl⟩⟩
  · by_cases hcap : cap = 0
    · subst hcap
      obtain rfl : len = 0 := by omega
      obtain ⟨hs, cs, e, fr, hb⟩ := hv a rfl
      obtain ⟨ab, ao, as⟩ := a
      simp only at hs hb
      subst hs
      refine ⟨⟨1, ofG 0 [cellsR []]⟩, fun b => if b = 0 then some ⟨ab, 0, cs.size⟩ else none, .slc 0 0 0 0, [], .slcX (l := ⟨ab, 0, cs.size⟩) rfl (by decide) (Nat.le_refl _) (fun q => absurd q (by omega)), ?_, ?_⟩
      · have hx : ∀ b x, H.get ⟨1, ofG 0 [cellsR []]⟩ b = some x → x = cellsR [] := by
          intro b x hx
          have : T.get (ofG 0 [cellsR []]) b = some x := hx
          rw [ofG0] at this
          cases b with
          | zero => simpa using this.symm
          | succ b => simp at this
        refine ⟨fun b l hb2 => ?_, fun b l hb2 => ?_, fun b l x hb2 hx2 => ?_, fun b b' l l' x x' _ _ hx2 _ hr _ => ?_, fun b l x _ hx2 hr => ?_, fun _ _ => rfl, Nat.le_refl _⟩
        · by_cases e0 : b = 0
          · subst e0; show 0 < 1; omega
          · rw [if_neg e0] at hb2; cases hb2
        · by_cases e0 : b = 0
          · rw [if_pos e0] at hb2; cases hb2; exact lt_of hb
          · rw [if_neg e0] at hb2; cases hb2
        · by_cases e0 : b = 0
          · rw [if_pos e0] at hb2
            cases hb2
            rw [hx b x hx2]
            exact ⟨_, hb, BR_row rfl (Nat.zero_le _) fun i v hi => by simp at hi⟩
          · rw [if_neg e0] at hb2; cases hb2
        · rw [hx b x hx2] at hr; cases hr
        · rw [hx b x hx2] at hr; cases hr
      · exact ⟨fun x hx => (by cases hx), .inr ⟨0, 0, rfl, ⟨⟨true, by show T.get (ofG 0 [cellsR []]) 0 = _; rw [ofG0]; rfl⟩, by show 0 < 1; omega⟩, rfl⟩⟩
    · have hpos := Nat.pos_of_ne_zero hcap
      rw [Ty.c91] at hc
      have hc2 : ∀ i, i < cap → ∃ q : St × Value × (List Ent × Option Loc), W.cells? 0 (a.add (i * 12)) 12 = some (stV q.1 q.2.1) ∧ q.1.sp.Ok ∧ q.1.dat < 256 ∧ EO W q.2.1 q.2.2 := fun i hi => by
        obtain ⟨c, z, h1, h2⟩ := hc i hi
        obtain ⟨s, ev, m, z2, rfl, h3, h4, h5⟩ := step_open Ty h2
        obtain ⟨x, hx⟩ := entries_open Ty h5
        exact ⟨(s, ev, x), h1, h3, h4, hx⟩
      obtain ⟨f, hf⟩ := skol hpos hc2
      obtain ⟨cs, e, fr, hs, hb, hsz, hk⟩ := slc_open (k := 12) (f := fun i => stV (f i).1 (f i).2.1) (by omega) hpos fun i hi => (hf i hi).1
      obtain ⟨ab, ao, as⟩ := a
      simp only at hs hb hsz hk
      subst hs
      let l : List (St × AV) := (List.range len).map fun i => ({ (f i).1 with ents := (f i).2.2.1 }, eAV (i + 1) (f i).2.1 (f i).2.2)
      have hlen : l.length = len := by simp [l]
      let B : List Blk := cellsR (l.flatMap stC) :: (List.range len).map fun i => cellsR ((f i).2.2.1.flatMap entC)
      let φ : Phi := fun b => match b with
        | 0 => some ⟨ab, ao, cs.size⟩
        | i + 1 => if i < len then (f i).2.2.2 else none
      have φs : ∀ i, i < len → φ (i + 1) = (f i).2.2.2 := fun i hi => if_pos hi
      have hB : ∀ b x, H.get ⟨len + 1, ofG 0 B⟩ b = some x → (b = 0 ∧ x = cellsR (l.flatMap stC)) ∨ ∃ i, b = i + 1 ∧ i < len ∧ x = cellsR ((f i).2.2.1.flatMap entC) := by
        intro b x hx
        have hx : T.get (ofG 0 B) b = some x := hx
        rw [ofG0] at hx
        cases b with
        | zero => left; exact ⟨rfl, by simpa [B] using hx.symm⟩
        | succ i =>
          right
          have hx : ((List.range len).map fun i => cellsR ((f i).2.2.1.flatMap entC))[i]? = some x := hx
          obtain ⟨h1, h2⟩ := range_get (fun i => cellsR ((f i).2.2.1.flatMap entC)) len i x hx
          exact ⟨i, rfl, h1, h2⟩
      have ro : ∀ b x, H.get ⟨len + 1, ofG 0 B⟩ b = some x → roB x = true := by
        intro b x hx
        rcases hB b x hx with ⟨-, rfl⟩ | ⟨i, -, -, rfl⟩ <;> rfl
      refine ⟨⟨len + 1, ofG 0 B⟩, φ, .slc 0 0 len (capU + 12), l, .slcU (l := ⟨ab, ao, cs.size⟩) rfl hle hsz fun _ => rfl, ?_, ?_⟩
      · refine ⟨fun b lo hb2 => ?_, fun b lo hb2 => ?_, fun b lo x hb2 hx2 => ?_, fun b b' lo lo' x x' _ _ hx2 _ hr _ => ?_, fun b lo x _ hx2 hr => ?_, fun _ _ => rfl, Nat.le_refl _⟩
        · cases b with
          | zero => show 0 < len + 1; omega
          | succ i =>
            show i + 1 < len + 1
            have hb2 : (if i < len then (f i).2.2.2 else none) = some lo := hb2
            by_cases hi : i < len
            · omega
            · rw [if_neg hi] at hb2; cases hb2
        · cases b with
          | zero =>
            have hb2 : some (⟨ab, ao, cs.size⟩ : Loc) = some lo := hb2
            cases hb2; exact lt_of hb
          | succ i =>
            have hb2 : (if i < len then (f i).2.2.2 else none) = some lo := hb2
            by_cases hi : i < len
            · rw [if_pos hi] at hb2
              obtain ⟨o, h1, -⟩ := BR_ents (E := E) (φ := φ) (hf i (by omega)).2.2.2 hb2
              exact lt_of h1
            · rw [if_neg hi] at hb2; cases hb2
        · rcases hB b x hx2 with ⟨rfl, rfl⟩ | ⟨i, rfl, hi, rfl⟩
          · have hb2 : some (⟨ab, ao, cs.size⟩ : Loc) = some lo := hb2
            cases hb2
            refine ⟨_, hb, BR_row rfl ?_ fun i u hu => ?_⟩
            · show ao + (l.flatMap stC).length ≤ cs.size
              rw [flat_len l (stC_len l), hlen]
              have : len * 12 ≤ cap * 12 := Nat.mul_le_mul_right 12 hle
              omega
            · obtain ⟨q, g1, g2, g3⟩ := flat_at (by omega) l (stC_len l) hu
              obtain ⟨g4, rfl⟩ := range_get _ len _ q g1
              have g5 : VR φ (eAV (i / 12 + 1) (f (i / 12)).2.1 (f (i / 12)).2.2) (f (i / 12)).2.1 := VR_eAV (hf _ (by omega)).2.2.2 (φs _ g4)
              obtain ⟨u', g6, g7⟩ := (stC_V (s := { (f (i / 12)).1 with ents := (f (i / 12)).2.2.1 }) g5).get g2
              refine ⟨u', ?_, g7⟩
              show cs[ao + i]? = some u'
              rw [← g6, stV_ents, ← hk (i / 12) (i % 12) (by omega) (Nat.mod_lt _ (by omega)), g3]
          · have hb2 : (if i < len then (f i).2.2.2 else none) = some lo := hb2
            rw [if_pos hi] at hb2
            exact BR_ents (hf i (by omega)).2.2.2 hb2
        · rw [ro b x hx2] at hr; cases hr
        · rw [ro b x hx2] at hr; cases hr
      · refine ⟨fun x hx => ?_, .inr ⟨0, capU + 12, by rw [hlen], ⟨⟨true, ?_⟩, by show 0 < len + 1; omega⟩, rfl⟩⟩
        · obtain ⟨i, hi, e0⟩ := List.getElem_of_mem hx
          have h1 : l[i]? = some x := by rw [List.getElem?_eq_getElem hi, e0]
          obtain ⟨h2, rfl⟩ := range_get _ len i x h1
          obtain ⟨-, h3, h4, h5⟩ := hf i (by omega)
          refine ⟨⟨?_⟩, h3, h4⟩
          have h6 : H.get ⟨len + 1, ofG 0 B⟩ (i + 1) = some (cellsR ((f i).2.2.1.flatMap entC)) := by
            show T.get (ofG 0 B) (i + 1) = _
            rw [ofG0]
            show ((List.range len).map fun i => cellsR ((f i).2.2.1.flatMap entC))[i]? = _
            rw [List.getElem?_map, List.getElem?_range h2]; rfl
          generalize (f i).2.2 = w at *
          obtain ⟨xs, ol⟩ := w
          cases ol with
          | none =>
            obtain ⟨rfl, h7 | ⟨a, h7⟩⟩ := h5
            · left; rw [h7]; exact ⟨rfl, rfl⟩
            · right; left; rw [h7]; exact ⟨rfl, a, rfl⟩
          | some lo => right; right; exact ⟨i + 1, capU + 2, rfl, ⟨⟨true, h6⟩, by show i + 1 < len + 1; omega⟩, rfl⟩
        · show T.get (ofG 0 B) 0 = _
          rw [ofG0]; rfl
/-- A call that begins where some of the heap is known. -/
theorem calls_from {F : T CFn} (hT : TabOk P E F) {Q : Nat → AV → Prop} {f : Nat} {args : List AV} {g : CFn} {h0 : H} {φ : Phi} (hgf : T.get F f = some g) (hn : Nat.ble args.length g.ntmps = true) (hg : Good P E Q ⟨⟨f, g.ntmps, ofL 0 .leaf args, [.code g.body], [], .run, false, none⟩, [], h0⟩)
    {args' : Array Value} (ha : VRs φ args args'.toList) (w : World) (hr : HR E w.heap φ h0 w.heap) {R : Ending → World → Prop} (hQ : ∀ fn v h φ v' (w' : World), Q fn v → VR φ v v' → HW E w φ h w' → fn = f ∧ R (.returned v') w') : Calls P f args' w R := by
  intro cs
  have hA : At E w cs ⟨⟨f, g.ntmps, ofL 0 .leaf args, [.code g.body], [], .run, false, Option.none⟩, [], h0⟩ (lone (Frame.enter P f args' .normal) cs w) :=
    ⟨φ, _, [], w, rfl, enter_FR (dfd := false) hT hgf ha (ble_true hn), .nil, ⟨hr, .refl _⟩⟩
  obtain ⟨fn, v, h, fr, w', φ', v', q, s1, s2, s3, s4, s5⟩ := hg _ _ _ hA
  obtain ⟨e, hR⟩ := hQ fn v h φ' v' w' q s4 s5
  exact ⟨.returned v', w', fr, hR, s1, by rw [s2, e], s3⟩
/-- A record of numbers that came in. -/
theorem geo_open (u3 : P.underlying 3 = some (.int .i64)) (c3 : P.cellsOf 3 = 1) (c : P.cellsOf 23 = 4) (hu : ∃ fs, P.underlying 23 = some (.struct fs) ∧ fs.map (fun f => (f.type, f.offset)) = #[(3, 0), (3, 1), (3, 2), (3, 3)]) {n0 : Nat} {cs : List Value} {x : DataW H1 × List MemPlace} {sp : Nat → Bool}
    (h : DataW.trod enc P W 0 sp held n0 23 cs = some x) : ∃ g0 g1 g2 g3 : Int, cs = [.int .i64 g0, .int .i64 g1, .int .i64 g2, .int .i64 g3] := by
  obtain ⟨hl, n, hf⟩ := fld_at hu h
  rw [c] at hl
  obtain ⟨z0, h0⟩ := hf 0 3 0 rfl
  obtain ⟨z1, h1⟩ := hf 1 3 1 rfl
  obtain ⟨z2, h2⟩ := hf 2 3 2 rfl
  obtain ⟨z3, h3⟩ := hf 3 3 3 rfl
  obtain ⟨v0, a0, -⟩ := int_at u3 c3 h0
  obtain ⟨v1, a1, -⟩ := int_at u3 c3 h1
  obtain ⟨v2, a2, -⟩ := int_at u3 c3 h2
  obtain ⟨v3, a3, -⟩ := int_at u3 c3 h3
  refine ⟨v0, v1, v2, v3, List.ext_getElem? fun i => ?_⟩
  rcases i with _ | _ | _ | _ | i
  · exact a0
  · exact a1
  · exact a2
  · exact a3
  · rw [List.getElem?_eq_none (by omega)]; rfl
/-- A slice that came in has its outer form. -/
theorem slice_form {t e : TypeId} {r : Reach} {base : Nat} {v : Value} (ht : P.underlying t = some (.slice e)) (h : Value.okWide P W r base t v) : v.cells.toList = [v] ∧ ∀ a, v = .slice (some a) 0 0 → a.spot = none ∧ ∃ cs e fr, W.heap[a.block]? = some (.cells cs e fr) := by
  simp only [Value.okWide, ht, Cell.okWide, Cell.ok] at h
  cases v <;> (try simp only [] at h) <;> first | (exact h.elim) | skip
  rename_i ad len cap
  refine ⟨rfl, fun a e0 => ?_⟩
  cases e0
  obtain ⟨-, -, h3⟩ := h
  obtain ⟨-, h4, row, cells, h5, -⟩ := h3
  refine ⟨h4, ?_⟩
  unfold World.shape? at h5
  split at h5
  · rename_i c el fr hb; exact ⟨_, _, _, hb⟩
  · cases h5
end
end Go.Ev

