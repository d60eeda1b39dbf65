/- Slices; light steps at once; contracts. -/
import Derived.Test.YtclfgfpebplncaaGreatLgA
set_option linter.unusedVariables false
set_option linter.unusedSimpArgs false
set_option linter.unusedSectionVars false
/- A logic over the abstract machine: slices and what they hold. -/
namespace Go.Ev

/-- A slice of n elements, whose cells are xs. -/
inductive SlR (size : Nat) (h : H) : AV → Nat → List AV → Prop where
  | nils : SlR size h .nils 0 []
  | slc {b o n cap : Nat} {c xs : List AV} (hb : H.get h b = some (cl c)) (hk : o + n * size ≤ c.length) (hx : (c.drop o).take (n * size) = xs) (hlt : b < h.n) : SlR size h (.slc b o n cap) n xs

/-- The block that a slice lies in. -/
def own (v : AV) (i : Nat) : Prop := ∃ o n c, v = .slc i o n c

theorem SlR.len {size n : Nat} {h : H} {v : AV} {xs : List AV} (s : SlR size h v n xs) : xs.length = n * size := by
  cases s with
  | nils => simp
  | slc hb hk hx hlt => rw [← hx, List.length_take, List.length_drop]; omega

theorem SlR.keep {size n : Nat} {h h' : H} {v : AV} {xs : List AV} {S : Nat → Prop} (s : SlR size h v n xs) (k : Kp S h h') (ho : ∀ i, own v i → ¬ S i) : SlR size h' v n xs := by
  cases s with
  | nils => exact .nils
  | slc hb hk hx hlt => exact .slc ((k.old _ hlt (ho _ ⟨_, _, _, rfl⟩)).trans hb) hk hx (Nat.lt_of_lt_of_le hlt k.n)
theorem SlR.cells {size n : Nat} {h : H} {v : AV} {xs : List AV} (s : SlR size h v n xs) : cellsOf size n h v = some xs := by
  cases s with
  | nils => rfl
  | @slc b o _ cap c _ hb hk hx hlt =>
    show cellsAt h b o (Nat.mul n size) = some xs
    have := cellsAt_cl hb hk
    rw [hx] at this; exact this

theorem SlR.lenV {size n : Nat} {h : H} {v : AV} {xs : List AV} (s : SlR size h v n xs) : lenV v = some n := by cases s <;> rfl

/-- An append to it copies, or what lay there before is given up. -/
def capOk (size : Nat) : AV → Prop
  | .slc _ _ n cap => cap = n ∧ n < capU ∨ cap = capU + size
  | _ => True

section
variable {l : List (Nat × Option AV)} {h : H} {x y : O} {s v : AV} {size bytes sl n : Nat} {old new : List AV}
end
end Go.Ev

/- A logic over the abstract machine: slices, 2. -/
namespace Go.Ev

/-- Its capacity is known, or known to be unknown. -/
def capKn (size : Nat) : AV → Prop
  | .slc _ _ n cap => n ≤ cap ∧ cap < capU ∨ cap = capU + size
  | _ => True
theorem capOk.kn {size : Nat} {v : AV} (h : capOk size v) : capKn size v := by
  cases v with
  | slc b o n cap =>
    rcases h with ⟨h1, h2⟩ | h
    · subst h1; exact .inl ⟨Nat.le_refl _, h2⟩
    · exact .inr h
  | _ => trivial

/-- A bound of a slice expression. -/
inductive BndR (l : List (Nat × Option AV)) : Option O → Option Nat → Prop where
  | no : BndR l none none
  | att {x : O} {k : IntKind} {a : Nat} (e : evO l x = some (.int k (a : Nat))) : BndR l (some x) (some a)
theorem BndR.opt {l : List (Nat × Option AV)} {o : Option O} {a : Option Nat} (b : BndR l o a) : optNat (tms l) o = some a := by
  cases b with
  | no => rfl
  | @att x k a e =>
    have e' : evO l x = some (.int k (Int.ofNat a)) := e
    simp only [optNat, ev_tms, evO_L e']

section
variable {l : List (Nat × Option AV)} {h : H} {x y z : O} {s v : AV} {size n a b : Nat} {xs : List AV} {lo hi : Option O} {la lb : Option Nat}
theorem nble_false {a b : Nat} (h : b < a) : Nat.ble a b = false := by
  cases hq : Nat.ble a b with
  | false => rfl
  | true => have := ble_true hq; omega

/-- Bytes. -/
def byts (bs : List Nat) : List AV := bs.map fun v => .int .u8 (v : Nat)
theorem bytesV_byts : ∀ {bs : List Nat}, (∀ v ∈ bs, v < 256) → bytesV (byts bs) = some bs
  | [], _ => rfl
  | v :: r, h => by
    have h1 : Nat.ble v 255 = true := by rw [Nat.ble_eq]; have := h v (List.mem_cons_self ..); omega
    have h2 := bytesV_byts (bs := r) fun v hv => h v (List.mem_cons_of_mem _ hv)
    show bytesV (.int .u8 (Int.ofNat v) :: byts r) = _
    simp only [bytesV, h1, h2]
theorem x_b2s {bs : List Nat} (e : evO l x = some s) (hs : SlR 1 h s n (byts bs)) (hb : ∀ v ∈ bs, v < 256) : exec (.b2s x) h (tms l) = .val (.str bs) h := by
  have hc := hs.cells
  simp only [exec, ev_tms, evO_L e]
  generalize hxs : byts bs = xs at hs hc
  cases hs with
  | nils =>
    cases bs with
    | nil => rfl
    | cons v r => cases hxs
  | @slc b o _ cap c _ hbk hk hx hlt =>
    have : cellsAt h b o n = some xs := by
      have e : Nat.mul n 1 = n := Nat.mul_one n
      show cellsAt h b o n = some xs
      rw [← e]; exact hc
    simp only [this, ← hxs, bytesV_byts hb]
theorem x_neS {a b : List Nat} {t : Bool} {q : Bool} (e : evO l x = some (.str a)) (e1 : evO l y = some (.str b)) (ht : decide (a ≠ b) = t) : exec (.bin .neq x y q .pstr) h (tms l) = .val (.bool t) h := by
  simp only [exec, ev_tms, evO_L e, evO_L e1, binV, binSS, nlEq_eq]
  rw [← ht]
  by_cases hab : a = b
  · subst hab; simp [vo]
  · simp [hab, vo]
end
end Go.Ev

/- A logic over the abstract machine: operations of which something is known. -/
namespace Go.Ev

section
variable {P : Program} {E : Env} {F : T CFn} {K : T (List AV × AV)} {Q : Nat → AV → Prop}
variable {fn nt : Nat} {l q : List (Nat × Option AV)} {k : List AItem} {ds : List ADef} {dfd : Bool} {ro : Option Nat} {cs : List AFr} {h h' : H} {gd : Option (Nat × Bool)} {op : COp} {nm : List Nat} {pre chk : List DI} {ps : List Ph} {v : AV} {d : Nat} {r : List CI}

variable (L : Lg P E F K)
include L
end

section
variable {l : List (Nat × Option AV)} {h : H} {x y z : O} {s v zero : AV} {size n a b i : Nat} {xs c lv : List AV}

theorem x_luk {sh : Sh} {m ky : O} {r cl0 : Nat} {kv : AV} (e : evO l m = some (.map r)) (hb : H.get h r = some (.map [] cl0)) (ek : evO l ky = some kv) (hk : keyOk sh kv = true) : exec (.lookup sh zero m ky false) h (tms l) = .val zero h := by
  simp only [exec, ev_tms, evO_L e, evO_L ek, hb, findQ, hk, findK]

/-- A cell of a slice. -/
theorem SlR.cell {b o cap i : Nat} (s : SlR 1 h (.slc b o n cap) n xs) (hi : xs[i]? = some v) : ∃ c, H.get h b = some (cl c) ∧ c[o + i]? = some v := by
  cases s with
  | slc hb hk hx hlt =>
    refine ⟨_, hb, ?_⟩
    have hlen : i < n := by
      have := (List.getElem?_eq_some_iff.1 hi).1
      rw [← hx, List.length_take] at this
      omega
    rw [← hx, List.getElem?_take_of_lt (by omega), List.getElem?_drop] at hi
    exact hi
end

theorem hp_n (n : Nat) (t : T Blk) (l : List (Nat × Option Blk)) : (hp n t l).n = n := rfl
end Go.Ev

/- A logic over the abstract machine: single operations, in a form that is looked up fast. -/
namespace Go.Ev

/-- The operation gives this value and leaves this heap. -/
structure XV (op : COp) (h : H) (l : List (Nat × Option AV)) (v : AV) (h' : H) : Prop where
  e : exec op h (tms l) = .val v h'
/-- The operation is wanted. -/
structure WT (l : List (Nat × Option AV)) (g : Option (Nat × Bool)) (b : Bool) : Prop where
  e : wanted (tms l) g = some b
/-- A block of the heap. -/
structure HB (h : H) (b : Nat) (c : List AV) : Prop where
  e : H.get h b = some (cl c)

section
variable {n : Nat} {t : T Blk} {lh : List (Nat × Option Blk)} {b i : Nat} {c : List AV} {x : Option Blk}
end

section
variable {l : List (Nat × Option AV)} {lh : List (Nat × Option Blk)} {n : Nat} {t : T Blk} {h : H} {x y z : O} {v u : AV} {b o : Nat} {c lv : List AV}
theorem z_iaddr0 {k : IntKind} {i len cap size : Nat} (e : evO l x = some (.slc b 0 len cap)) (e1 : evO l y = some (.int k (i : Nat))) (hi : i < len) : XV (.iaddrS size x y) h l (.ptr b (i * size)) h := ⟨x_iaddrS (evO_L e) (evO_L e1) hi (Nat.zero_add _)⟩
theorem z_iaddr {k : IntKind} {i len cap size : Nat} (e : evO l x = some (.slc b o len cap)) (e1 : evO l y = some (.int k (i : Nat))) (hi : i < len) : XV (.iaddrS size x y) h l (.ptr b (o + i * size)) h := ⟨x_iaddrS (evO_L e) (evO_L e1) hi rfl⟩
theorem z_alloc' : XV (.alloc c) (hp n t lh) l (.ptr n 0) (hp (n + 1) t ((n, some (cl c)) :: lh)) := ⟨x_alloc⟩
theorem z_box {k : Nat} (e : evO l x = some v) (hc : cellsV v = some lv) (hk : Nat.beq lv.length k = true) : XV (.box k x) (hp n t lh) l (.ptr n 0) (hp (n + 1) t ((n, some (cl lv)) :: lh)) := ⟨y_box e hc hk⟩
theorem z_bslice {k : Nat} {ps : List (Nat × Nat × O)} (hf : fillO l ps c = some lv) : XV (.bslice k c ps) (hp n t lh) l (.slc n 0 k k) (hp (n + 1) t ((n, some (cl lv)) :: lh)) := ⟨y_bslice hf⟩
section
variable {a d : Nat} {p r : Int} {k : IntKind} {sh : Sh} {q : Bool}
theorem z_add (e : evO l x = some (.int .i64 (a : Nat))) (e1 : evO l y = some (.int .i64 (d : Nat))) (hr : a + d < 9223372036854775808) : XV (.bin .add x y q sh) h l (.int .i64 ((a + d : Nat) : Int)) h := ⟨y_add e e1 hr⟩
theorem z_sub (e : evO l x = some (.int .i64 (a : Nat))) (e1 : evO l y = some (.int .i64 (d : Nat))) (hr : d ≤ a) (h1 : a < 9223372036854775808) : XV (.bin .sub x y q sh) h l (.int .i64 ((a - d : Nat) : Int)) h := ⟨y_sub e e1 hr h1⟩
theorem z_mul (e : evO l x = some (.int .i64 (a : Nat))) (e1 : evO l y = some (.int .i64 (d : Nat))) (hr : a * d < 9223372036854775808) : XV (.bin .mul x y q sh) h l (.int .i64 ((a * d : Nat) : Int)) h := ⟨y_mul e e1 hr⟩
theorem z_lssT (e : evO l x = some (.int k p)) (e1 : evO l y = some (.int k r)) (ht : p < r) : XV (.bin .lss x y q sh) h l (.bool true) h := ⟨x_lss (evO_L e) (evO_L e1) (decide_eq_true ht)⟩
theorem z_lssF (e : evO l x = some (.int k p)) (e1 : evO l y = some (.int k r)) (ht : ¬ p < r) : XV (.bin .lss x y q sh) h l (.bool false) h := ⟨x_lss (evO_L e) (evO_L e1) (decide_eq_false ht)⟩
theorem z_leqT (e : evO l x = some (.int k p)) (e1 : evO l y = some (.int k r)) (ht : p ≤ r) : XV (.bin .leq x y q sh) h l (.bool true) h := ⟨x_leq (evO_L e) (evO_L e1) (decide_eq_true ht)⟩
theorem z_leqF (e : evO l x = some (.int k p)) (e1 : evO l y = some (.int k r)) (ht : ¬ p ≤ r) : XV (.bin .leq x y q sh) h l (.bool false) h := ⟨x_leq (evO_L e) (evO_L e1) (decide_eq_false ht)⟩
theorem z_gtrT (e : evO l x = some (.int k p)) (e1 : evO l y = some (.int k r)) (ht : r < p) : XV (.bin .gtr x y q sh) h l (.bool true) h := ⟨x_gtr (evO_L e) (evO_L e1) (decide_eq_true ht)⟩
theorem z_gtrF (e : evO l x = some (.int k p)) (e1 : evO l y = some (.int k r)) (ht : ¬ r < p) : XV (.bin .gtr x y q sh) h l (.bool false) h := ⟨x_gtr (evO_L e) (evO_L e1) (decide_eq_false ht)⟩
theorem z_geqT (e : evO l x = some (.int k p)) (e1 : evO l y = some (.int k r)) (ht : r ≤ p) : XV (.bin .geq x y q sh) h l (.bool true) h := ⟨x_geq (evO_L e) (evO_L e1) (decide_eq_true ht)⟩
theorem z_geqF (e : evO l x = some (.int k p)) (e1 : evO l y = some (.int k r)) (ht : ¬ r ≤ p) : XV (.bin .geq x y q sh) h l (.bool false) h := ⟨x_geq (evO_L e) (evO_L e1) (decide_eq_false ht)⟩
theorem z_eqT (e : evO l x = some (.int k p)) (e1 : evO l y = some (.int k r)) (ht : p = r) : XV (.bin .eql x y q .pint) h l (.bool true) h := ⟨x_eqI (evO_L e) (evO_L e1) (decide_eq_true ht)⟩
theorem z_eqF (e : evO l x = some (.int k p)) (e1 : evO l y = some (.int k r)) (ht : ¬ p = r) : XV (.bin .eql x y q .pint) h l (.bool false) h := ⟨x_eqI (evO_L e) (evO_L e1) (decide_eq_false ht)⟩
theorem z_neT (e : evO l x = some (.int k p)) (e1 : evO l y = some (.int k r)) (ht : p ≠ r) : XV (.bin .neq x y q .pint) h l (.bool true) h := ⟨x_neI (evO_L e) (evO_L e1) (decide_eq_true ht)⟩
theorem z_neF (e : evO l x = some (.int k p)) (e1 : evO l y = some (.int k r)) (ht : ¬ p ≠ r) : XV (.bin .neq x y q .pint) h l (.bool false) h := ⟨x_neI (evO_L e) (evO_L e1) (decide_eq_false ht)⟩
end
end

section
variable {P : Program} {E : Env} {F : T CFn} {K : T (List AV × AV)} {Q : Nat → AV → Prop}
variable {fn nt : Nat} {l q : List (Nat × Option AV)} {k : List AItem} {ds : List ADef} {dfd : Bool} {ro : Option Nat} {cs : List AFr} {h h' : H} {gd : Option (Nat × Bool)} {op : COp} {nm : List Nat} {pre chk : List DI} {ps : List Ph} {v : AV} {d : Nat} {r : List CI}
variable {n b o : Nat} {t : T Blk} {lh : List (Nat × Option Blk)} {x y : O} {c c' lv : List AV}
variable (L : Lg P E F K)
include L
end
end Go.Ev

/- A logic over the abstract machine: one cell of a long row. -/
namespace Go.Ev

section
variable {P : Program} {E : Env} {F : T CFn} {K : T (List AV × AV)} {Q : Nat → AV → Prop}
variable {fn nt : Nat} {l : List (Nat × Option AV)} {k : List AItem} {ds : List ADef} {dfd : Bool} {ro : Option Nat} {cs : List AFr} {gd : Option (Nat × Bool)} {v : AV} {r : List CI}
variable {n b o : Nat} {t : T Blk} {lh : List (Nat × Option Blk)} {x y : O} {c : List AV}
variable (L : Lg P E F K)
include L
theorem stz1 (hw : WT l gd true) (e : evO l x = some (.ptr b o)) (e1 : evO l y = some v) (hc : cellsV v = some [v]) (hp1 : plainV v = true) (hb : HB (hp n t lh) b c) (ho : o < c.length)
    (g : Good P E Q ⟨⟨fn, nt, tms l, .ops r :: k, ds, .run, dfd, ro⟩, cs, hp n t ((b, some (cl (c.set o v))) :: lh)⟩) :
    Good P E Q ⟨⟨fn, nt, tms l, .ops (⟨none, gd, .store 1 x y⟩ :: r) :: k, ds, .run, dfd, ro⟩, cs, hp n t lh⟩ :=
  g_store L hw.e (evO_L e) (evO_L e1) hc rfl (by simp only [allPlain, hp1]) hb.e ho (setL_one c v o ho) g
end
end Go.Ev

/- A logic over the abstract machine: steps that look at no heap and do no sums, taken at once. -/
namespace Go.Ev

/-- The value of a light operation. -/
def tv (op : COp) (l : List (Nat × Option AV)) : Option AV :=
  match op with
  | .mv x => evO l x
  | .pick c a b => (match evO l c with
    | some (.bool true) => evO l a
    | some (.bool false) => evO l b
    | _ => none)
  | .nilc x => (match evO l x with
    | some (.ptr b o) => some (.ptr b o)
    | _ => none)
  | .faddr x off => (match evO l x with
    | some (.ptr b o) => some (.ptr b (o + off))
    | _ => none)
  | .lenS x => (match evO l x with
    | some (.slc _ _ n _) => some (.int .i64 ((n : Nat) : Int))
    | some .nils => some (.int .i64 ((0 : Nat) : Int))
    | some (.opq u) => (match u with
      | .slice _ n _ => some (.int .i64 ((n : Nat) : Int))
      | _ => none)
    | _ => none)
  | .extract x i => (match evO l x with
    | some (.tup vs) => vs[i]?
    | _ => none)
  | .field1 x off => (match evO l x with
    | some (.agg vs) => vs[off]?
    | _ => none)
  | .fieldN x off k => (match evO l x with
    | some (.agg vs) => (match dtO vs off k with
      | some lv => some (.agg lv)
      | none => none)
    | _ => none)
  | .build z ps => (match fillO l ps z with
    | some lv => some (.agg lv)
    | none => none)
  | .mkfn f a c => (match evsO l a with
    | some va => (match evsO l c with
      | some vc => some (.fn f va vc)
      | none => none)
    | none => none)
  | .mkif k x => (match evO l x with
    | some v => some (.ifc k v)
    | none => none)
  | .un o x => (match o with
    | .not => (match evO l x with
      | some (.bool t) => some (.bool (!t))
      | _ => none)
    | _ => none)
  | .bin o x y _ sh => (match o with
    | .eql => (match sh with
      | .ptr => (match evO l x with
        | some (.ptr _ _) => (match evO l y with | some .nilp => some (.bool false) | _ => none)
        | some .nilp => (match evO l y with | some .nilp => some (.bool true) | _ => none)
        | _ => none)
      | .nilS => (match evO l x with
        | some (.slc _ _ _ _) => (match evO l y with | some .nils => some (.bool false) | _ => none)
        | some .nils => (match evO l y with | some .nils => some (.bool true) | _ => none)
        | _ => none)
      | _ => none)
    | .neq => (match sh with
      | .ptr => (match evO l x with
        | some (.ptr _ _) => (match evO l y with | some .nilp => some (.bool true) | _ => none)
        | some .nilp => (match evO l y with | some .nilp => some (.bool false) | _ => none)
        | _ => none)
      | .nilS => (match evO l x with
        | some (.slc _ _ _ _) => (match evO l y with | some .nils => some (.bool true) | _ => none)
        | some .nils => (match evO l y with | some .nils => some (.bool false) | _ => none)
        | _ => none)
      | _ => none)
    | _ => none)
  | _ => none

theorem tv_ok {op : COp} {l : List (Nat × Option AV)} {v : AV} {h : H} (e : tv op l = some v) : exec op h (tms l) = .val v h := by
  cases op <;> try simp only [tv] at e
  case mv x => exact y_mv e
  case pick c a b =>
    cases hc : evO l c with
    | none => rw [hc] at e; cases e
    | some u =>
      rw [hc] at e
      cases u <;> (try simp only at e) <;> first | (cases e; done) | skip
      rename_i t
      cases t <;> (try simp only at e)
      · exact y_pickF hc e
      · exact y_pickT hc e
  case nilc x =>
    cases hc : evO l x with
    | none => rw [hc] at e; cases e
    | some u =>
      rw [hc] at e
      cases u <;> (try simp only at e) <;> first | (cases e; done) | skip
      cases e; exact x_nilc (evO_L hc)
  case faddr x off =>
    cases hc : evO l x with
    | none => rw [hc] at e; cases e
    | some u =>
      rw [hc] at e
      cases u <;> (try simp only at e) <;> first | (cases e; done) | skip
      cases e; exact x_faddr (evO_L hc) rfl
  case lenS x =>
    cases hc : evO l x with
    | none => rw [hc] at e; cases e
    | some u =>
      rw [hc] at e
      cases u <;> (try simp only at e) <;> first | (cases e; done) | skip
      · cases e; exact x_lenS0 (evO_L hc)
      · cases e; exact x_lenS (evO_L hc)
      · rename_i q
        cases q <;> (try simp only at e) <;> first | (cases e; done) | skip
        cases e; simp only [exec, ev_tms, evO_L hc]; rfl
  case extract x i =>
    cases hc : evO l x with
    | none => rw [hc] at e; cases e
    | some u =>
      rw [hc] at e
      cases u <;> (try simp only at e) <;> first | (cases e; done) | skip
      exact x_extract (evO_L hc) e
  case field1 x off =>
    cases hc : evO l x with
    | none => rw [hc] at e; cases e
    | some u =>
      rw [hc] at e
      cases u <;> (try simp only at e) <;> first | (cases e; done) | skip
      exact x_field1 (evO_L hc) e
  case fieldN x off k =>
    cases hc : evO l x with
    | none => rw [hc] at e; cases e
    | some u =>
      rw [hc] at e
      cases u <;> (try simp only at e) <;> first | (cases e; done) | skip
      rename_i vs
      cases hd : dtO vs off k with
      | none => rw [hd] at e; cases e
      | some lv => rw [hd] at e; cases e; exact y_fieldN hc hd
  case build z ps =>
    cases hc : fillO l ps z with
    | none => rw [hc] at e; cases e
    | some lv => rw [hc] at e; cases e; exact y_build hc
  case mkfn f a c =>
    cases ha : evsO l a with
    | none => rw [ha] at e; cases e
    | some va =>
      cases hc : evsO l c with
      | none => rw [ha, hc] at e; cases e
      | some vc => rw [ha, hc] at e; cases e; exact y_mkfn ha hc
  case mkif k x =>
    cases hc : evO l x with
    | none => rw [hc] at e; cases e
    | some u => rw [hc] at e; cases e; exact y_mkif hc
  case un o x =>
    cases o <;> (try simp only at e) <;> first | (cases e; done) | skip
    cases hc : evO l x with
    | none => rw [hc] at e; cases e
    | some u =>
      rw [hc] at e
      cases u <;> (try simp only at e) <;> first | (cases e; done) | skip
      cases e; exact x_not (evO_L hc)
  case bin o x y q sh =>
    cases o <;> (try simp only at e) <;> first | (cases e; done) | skip
    all_goals
      cases sh <;> (try simp only at e) <;> first | (cases e; done) | skip
      all_goals
        cases hc : evO l x with
        | none => rw [hc] at e; cases e
        | some u =>
          rw [hc] at e
          cases u <;> (try simp only at e) <;> first | (cases e; done) | skip
          all_goals
            cases hd : evO l y with
            | none => rw [hd] at e; cases e
            | some w =>
              rw [hd] at e
              cases w <;> (try simp only at e) <;> first | (cases e; done) | skip
              cases e
              simp only [exec, ev_tms, evO_L hc, evO_L hd]
              rfl
  all_goals first | (cases e; done) | (unfold tv at e; cases e; done)

/-- A guard. -/
def gdO (g : Option (Nat × Bool)) (l : List (Nat × Option AV)) : Option Bool :=
  match g with
  | none => some true
  | some p => (match look l p.1 with
    | some (.bool c) => some (bEq c p.2)
    | some (.tup []) => some false
    | _ => none)
theorem gdO_ok {g : Option (Nat × Bool)} {l : List (Nat × Option AV)} {b : Bool} (e : gdO g l = some b) : wanted (tms l) g = some b := by
  cases g with
  | none => exact e
  | some p => simp only [gdO] at e; simp only [wanted, ov_look]; exact e

def ins (d : Option Nat) (v : AV) (l : List (Nat × Option AV)) : List (Nat × Option AV) :=
  match d with
  | none => l
  | some d => (d, some v) :: l
theorem put_ins (d : Option Nat) (v : AV) (l : List (Nat × Option AV)) : put (tms l) d v = tms (ins d v l) := by cases d <;> rfl

/-- Onward, as far as light steps go. -/
def adv : Nat → List AItem → List (Nat × Option AV) → List AItem × List (Nat × Option AV)
  | 0, td, l => (td, l)
  | n + 1, td, l => match td with
    | [] => ([], l)
    | i :: k => match i with
      | .inBlock _ => adv n k l
      | .inScope _ => adv n k l
      | .ops r => (match r with
        | [] => adv n k l
        | c :: r => (match gdO c.guard l with
          | some true => (match tv c.op l with
            | some v => (match c.dst with
              | some d => adv n (.ops r :: k) ((d, some v) :: l)
              | none => adv n (.ops r :: k) l)
            | none => (.ops (c :: r) :: k, l))
          | some false => (match c.dst with
            | some d => adv n (.ops r :: k) ((d, some (.tup [])) :: l)
            | none => adv n (.ops r :: k) l)
          | none => (.ops (c :: r) :: k, l)))
      | .code c => (match c with
        | .skip => adv n k l
        | .label _ => adv n k l
        | .seq a b => adv n (.code a :: .code b :: k) l
        | .block id b => adv n (.code b :: .inBlock id :: k) l
        | .scope b => adv n (.code b :: .inScope b :: k) l
        | .ops r => adv n (.ops r :: k) l
        | .cond x a b => (match evO l x with
          | some (.bool true) => adv n (.code a :: k) l
          | some (.bool false) => adv n (.code b :: k) l
          | _ => (.code c :: k, l))
        | .exit id => (match exitTo id k with
          | some k' => adv n k' l
          | none => (.code c :: k, l))
        | .goto lb => (match gotoIn lb k with
          | some k' => adv n k' l
          | none => (.code c :: k, l))
        | _ => (.code c :: k, l))
      | _ => (i :: k, l)

section
variable {P : Program} {E : Env} {F : T CFn} {K : T (List AV × AV)} {Q : Nat → AV → Prop}
variable (L : Lg P E F K)
variable {fn nt : Nat} {k : List AItem} {ds : List ADef} {dfd : Bool} {ro : Option Nat} {cs : List AFr} {h h' : H}
include L
theorem adv_ok : ∀ (n : Nat) {td td' : List AItem} {l l' : List (Nat × Option AV)}, adv n td l = (td', l') →
    Good P E Q ⟨⟨fn, nt, tms l', td', ds, .run, dfd, ro⟩, cs, h⟩ → Good P E Q ⟨⟨fn, nt, tms l, td, ds, .run, dfd, ro⟩, cs, h⟩
  | 0, td, td', l, l', e, g => by cases e; exact g
  | n + 1, td, td', l, l', e, g => by
    have ih := fun {td : List AItem} {l : List (Nat × Option AV)} (e : adv n td l = (td', l')) => adv_ok n e g
    cases td with
    | nil => cases e; exact g
    | cons i k =>
      cases i with
      | inBlock id => exact g_inBlock L (ih e)
      | inScope b => exact g_inScope L (ih e)
      | ops r =>
        cases r with
        | nil => exact g_opsE L (ih e)
        | cons c r =>
          obtain ⟨d, gd, op⟩ := c
          simp only [adv] at e
          cases hg : gdO gd l with
          | none => rw [hg] at e; cases e; exact g
          | some b =>
            rw [hg] at e
            cases b with
            | false => cases d with
              | none => exact g_ops_skip L (gdO_ok hg) (ih e)
              | some d => exact g_ops_skip L (gdO_ok hg) (ih e)
            | true =>
              simp only at e
              cases hv : tv op l with
              | none => rw [hv] at e; cases e; exact g
              | some v =>
                rw [hv] at e
                cases d with
                | none => exact g_opv L (gdO_ok hg) (tv_ok hv) (ih e)
                | some d => exact g_opv L (gdO_ok hg) (tv_ok hv) (ih e)
      | code c =>
        cases c with
        | skip => exact g_skip L (ih e)
        | label _ => exact g_label L (ih e)
        | seq a b => exact g_seq L (ih e)
        | block id b => exact g_block L (ih e)
        | scope b => exact g_scope L (ih e)
        | ops r => exact g_opsB L (ih e)
        | cond x a b =>
          simp only [adv] at e
          cases hx : evO l x with
          | none => rw [hx] at e; cases e; exact g
          | some u =>
            rw [hx] at e
            cases u <;> (try simp only at e) <;> first | (cases e; exact g) | skip
            rename_i t
            cases t with
            | true => exact gcT L (evO_L hx) (ih e)
            | false => exact gcF L (evO_L hx) (ih e)
        | exit id =>
          simp only [adv] at e
          cases hx : exitTo id k with
          | none => rw [hx] at e; cases e; exact g
          | some k' => rw [hx] at e; exact g_exit L hx (ih e)
        | goto lb =>
          simp only [adv] at e
          cases hx : gotoIn lb k with
          | none => rw [hx] at e; cases e; exact g
          | some k' => rw [hx] at e; exact g_goto L hx (ih e)
        | _ => cases e; exact g
      | _ => cases e; exact g
end
end Go.Ev

/- A logic over the abstract machine: blocks that are known; single operations and the light steps behind them; contracts. -/
namespace Go.Ev

/-- A block of cells that is known. -/
structure Bk (h : H) (b : Nat) (c : List AV) : Prop where
  e : H.get h b = some (cl c)
  lt : b < h.n

section
variable {n : Nat} {t : T Blk} {lh : List (Nat × Option Blk)} {b i : Nat} {c c0 : List AV} {x : Option Blk} {h h' : H} {S : Nat → Prop}
theorem bk_0 (k : Bk h b c) : Bk (hp h.n h.t []) b c := k
theorem bk_new : Bk (hp (n + 1) t ((n, some (cl c)) :: lh)) n c := ⟨get_eq _ _ _ _ _, Nat.lt_succ_self n⟩
theorem bk_w (k : Bk (hp n t lh) i c) : Bk (hp (n + 1) t ((n, x) :: lh)) i c := ⟨(get_ne _ _ _ _ (Nat.ne_of_lt k.lt)).trans k.e, Nat.lt_succ_of_lt k.lt⟩
theorem bk_ow (k : Bk (hp n t lh) b c0) : Bk (hp n t ((b, some (cl c)) :: lh)) b c := ⟨get_eq _ _ _ _ _, k.lt⟩
theorem bk_n (hne : i ≠ b) (k : Bk (hp n t lh) i c) : Bk (hp n t ((b, x) :: lh)) i c := ⟨(get_ne _ _ _ _ hne).trans k.e, k.lt⟩
theorem bk_k (q : Kp S h h') (hs : ¬ S i) (k : Bk h i c) : Bk h' i c := ⟨q.get k.e k.lt hs, Nat.lt_of_lt_of_le k.lt q.n⟩
theorem bk_k0 (q : K0 h h') (k : Bk h i c) : Bk h' i c := bk_k q (fun f => f) k
theorem Kp.tr0 {m : H} (q : K0 m h') (k : Kp S h m) : Kp S h h' :=
  ⟨Nat.le_trans k.n q.n, fun b hb hs => (q.old b (Nat.lt_of_lt_of_le hb k.n) fun f => f).trans (k.old b hb hs)⟩
theorem Kp.trS {m : H} {S' : Nat → Prop} (q : Kp S' m h') (hs : ∀ i, i < h.n → S' i → S i) (k : Kp S h m) : Kp S h h' :=
  ⟨Nat.le_trans k.n q.n, fun b hb hn => (q.old b (Nat.lt_of_lt_of_le hb k.n) fun f => hn (hs b hb f)).trans (k.old b hb hn)⟩
theorem bk_eq (e : c0 = c) (k : Bk h b c0) : Bk h b c := e ▸ k
theorem Bk.hb (k : Bk h b c) : HB h b c := ⟨k.e⟩
end

/-- A map that is known. -/
structure Mk (h : H) (r : Nat) (es : List AEnt) (ck : Nat) : Prop where
  e : H.get h r = some (.map es ck)
  lt : r < h.n
section
variable {n : Nat} {t : T Blk} {lh : List (Nat × Option Blk)} {b i ck : Nat} {es : List AEnt} {x : Option Blk} {h h' : H} {S : Nat → Prop}
theorem mk_0 (k : Mk h b es ck) : Mk (hp h.n h.t []) b es ck := k
theorem mk_new : Mk (hp (n + 1) t ((n, some (.map es ck)) :: lh)) n es ck := ⟨get_eq _ _ _ _ _, Nat.lt_succ_self n⟩
theorem mk_w (k : Mk (hp n t lh) i es ck) : Mk (hp (n + 1) t ((n, x) :: lh)) i es ck := ⟨(get_ne _ _ _ _ (Nat.ne_of_lt k.lt)).trans k.e, Nat.lt_succ_of_lt k.lt⟩
theorem mk_n (hne : i ≠ b) (k : Mk (hp n t lh) i es ck) : Mk (hp n t ((b, x) :: lh)) i es ck := ⟨(get_ne _ _ _ _ hne).trans k.e, k.lt⟩
theorem mk_k (q : Kp S h h') (hs : ¬ S i) (k : Mk h i es ck) : Mk h' i es ck := ⟨q.get k.e k.lt hs, Nat.lt_of_lt_of_le k.lt q.n⟩
theorem mk_k0 (q : K0 h h') (k : Mk h i es ck) : Mk h' i es ck := mk_k q (fun f => f) k
end

/-! operations -/
section
variable {l : List (Nat × Option AV)} {lh : List (Nat × Option Blk)} {n : Nat} {t : T Blk} {h : H} {x y z : O} {v u : AV} {b o : Nat} {c lv : List AV}
theorem w_load1 (e : evO l x = some (.ptr b o)) (hb : Bk h b c) (hv : c[o]? = some v) : XV (.load1 x) h l v h := ⟨x_load1 (evO_L e) hb.e hv⟩
theorem w_loadN {k : Nat} (e : evO l x = some (.ptr b o)) (hb : Bk h b c) (hv : dtO c o k = some lv) : XV (.loadN k x) h l (.agg lv) h := ⟨y_loadN e hb.e hv⟩
theorem w_load2 {u : AV} (e : evO l x = some (.ptr b o)) (hb : Bk h b c) (hu : c[o]? = some u) (hv : c[o + 1]? = some v) : XV (.loadN 2 x) h l (.agg [u, v]) h := by
  have h1 := (List.getElem?_eq_some_iff.1 hv).1
  refine ⟨x_loadN (evO_L e) hb.e (by omega) ?_⟩
  apply List.ext_getElem?
  intro i
  rcases i with _ | _ | i
  · rw [List.getElem?_take_of_lt (by omega), List.getElem?_drop]; exact hu
  · rw [List.getElem?_take_of_lt (by omega), List.getElem?_drop]; exact hv
  · rw [List.getElem?_take_eq_none (by omega)]; rfl
theorem w_mks {bytes a : Nat} {k j : IntKind} (e : evO l x = some (.int k ((a : Nat) : Int))) (e1 : evO l y = some (.int j ((a : Nat) : Int))) (h2 : a * bytes ≤ 281474976710656) (h3 : a ≤ 281474976710656) :
    XV (.mkslice bytes c x y) (hp n t lh) l (.slc n 0 a a) (hp (n + 1) t ((n, some (cl (rl c a))) :: lh)) := ⟨x_mkslice (evO_L e) (evO_L e1) (Nat.le_refl _) h2 h3 rfl⟩
theorem w_iaddr1 {k : IntKind} {i len cap : Nat} (e : evO l x = some (.slc b o len cap)) (e1 : evO l y = some (.int k ((i : Nat) : Int))) (hi : i < len) : XV (.iaddrS 1 x y) h l (.ptr b (o + i)) h := ⟨x_iaddrS (evO_L e) (evO_L e1) hi (by show o + i * 1 = _; rw [Nat.mul_one])⟩
theorem w_iaddr10 {k : IntKind} {i len cap : Nat} (e : evO l x = some (.slc b 0 len cap)) (e1 : evO l y = some (.int k ((i : Nat) : Int))) (hi : i < len) : XV (.iaddrS 1 x y) h l (.ptr b i) h := ⟨x_iaddrS (evO_L e) (evO_L e1) hi (by show 0 + i * 1 = _; rw [Nat.mul_one, Nat.zero_add])⟩
theorem w_iaddrA1 {k : IntKind} {i len : Nat} (e : evO l x = some (.ptr b 0)) (e1 : evO l y = some (.int k ((i : Nat) : Int))) (hi : i < len) : XV (.iaddrA len 1 x y) h l (.ptr b i) h := ⟨x_iaddrA (evO_L e) (evO_L e1) hi (by show 0 + i * 1 = _; rw [Nat.mul_one, Nat.zero_add])⟩
theorem w_mkmap : XV .mkmap (hp n t lh) l (.map n) (hp (n + 1) t ((n, some (.map [] 0)) :: lh)) := ⟨x_mkmap⟩
theorem w_luk {sh : Sh} {r cl0 : Nat} {kv zero : AV} (e : evO l x = some (.map r)) (ek : evO l y = some kv) (hk : keyOk sh kv = true) (hb : Mk h r [] cl0) : XV (.lookup sh zero x y false) h l zero h := ⟨x_luk e hb.e ek hk⟩
theorem w_ifn {sh : Bool} {k : Nat} (e : evO l x = some (.ifc k v)) (e1 : evO l y = some .nili) : XV (.bin .neq x y sh .iface) h l (.bool true) h := ⟨by simp only [exec, ev_tms, evO_L e, evO_L e1]; cases sh <;> rfl⟩
theorem w_ifn0 {k : Bool} (e : evO l x = some .nili) (e1 : evO l y = some .nili) : XV (.bin .neq x y true .iface) h l (.bool false) h := ⟨by simp only [exec, ev_tms, evO_L e, evO_L e1]; rfl⟩
theorem w_tassert {k : Nat} {z : AV} (e : evO l x = some (.ifc k v)) : XV (.tassert x k z false) h l v h := ⟨x_tassert (evO_L e)⟩
section
variable {a d : Nat} {p r : Int} {k j : IntKind} {sh : Sh} {q : Bool}
theorem w_lssT (e : evO l x = some (.int k ((a : Nat) : Int))) (e1 : evO l y = some (.int k ((d : Nat) : Int))) (ht : a < d) : XV (.bin .lss x y q sh) h l (.bool true) h := z_lssT e e1 (by omega)
theorem w_lssF (e : evO l x = some (.int k ((a : Nat) : Int))) (e1 : evO l y = some (.int k ((d : Nat) : Int))) (ht : d ≤ a) : XV (.bin .lss x y q sh) h l (.bool false) h := z_lssF e e1 (by omega)
theorem w_leqT (e : evO l x = some (.int k ((a : Nat) : Int))) (e1 : evO l y = some (.int k ((d : Nat) : Int))) (ht : a ≤ d) : XV (.bin .leq x y q sh) h l (.bool true) h := z_leqT e e1 (by omega)
theorem w_leqF (e : evO l x = some (.int k ((a : Nat) : Int))) (e1 : evO l y = some (.int k ((d : Nat) : Int))) (ht : d < a) : XV (.bin .leq x y q sh) h l (.bool false) h := z_leqF e e1 (by omega)
theorem w_gtrT (e : evO l x = some (.int k ((a : Nat) : Int))) (e1 : evO l y = some (.int k ((d : Nat) : Int))) (ht : d < a) : XV (.bin .gtr x y q sh) h l (.bool true) h := z_gtrT e e1 (by omega)
theorem w_gtrF (e : evO l x = some (.int k ((a : Nat) : Int))) (e1 : evO l y = some (.int k ((d : Nat) : Int))) (ht : a ≤ d) : XV (.bin .gtr x y q sh) h l (.bool false) h := z_gtrF e e1 (by omega)
theorem w_geqT (e : evO l x = some (.int k ((a : Nat) : Int))) (e1 : evO l y = some (.int k ((d : Nat) : Int))) (ht : d ≤ a) : XV (.bin .geq x y q sh) h l (.bool true) h := z_geqT e e1 (by omega)
theorem w_geqF (e : evO l x = some (.int k ((a : Nat) : Int))) (e1 : evO l y = some (.int k ((d : Nat) : Int))) (ht : a < d) : XV (.bin .geq x y q sh) h l (.bool false) h := z_geqF e e1 (by omega)
theorem w_eqT (e : evO l x = some (.int k ((a : Nat) : Int))) (e1 : evO l y = some (.int k ((d : Nat) : Int))) (ht : a = d) : XV (.bin .eql x y q .pint) h l (.bool true) h := z_eqT e e1 (by omega)
theorem w_eqF (e : evO l x = some (.int k ((a : Nat) : Int))) (e1 : evO l y = some (.int k ((d : Nat) : Int))) (ht : a ≠ d) : XV (.bin .eql x y q .pint) h l (.bool false) h := z_eqF e e1 (by omega)
theorem w_neT (e : evO l x = some (.int k ((a : Nat) : Int))) (e1 : evO l y = some (.int k ((d : Nat) : Int))) (ht : a ≠ d) : XV (.bin .neq x y q .pint) h l (.bool true) h := z_neT e e1 (by omega)
theorem w_neF (e : evO l x = some (.int k ((a : Nat) : Int))) (e1 : evO l y = some (.int k ((d : Nat) : Int))) (ht : a = d) : XV (.bin .neq x y q .pint) h l (.bool false) h := z_neF e e1 (by omega)
/-- Numbers that may lie under zero. -/
theorem w_addI (e : evO l x = some (.int .i64 p)) (e1 : evO l y = some (.int .i64 r)) (h1 : -9223372036854775808 ≤ p + r) (h2 : p + r ≤ 9223372036854775807) : XV (.bin .add x y q sh) h l (.int .i64 (p + r)) h := ⟨x_add (evO_L e) (evO_L e1) (wr_i64 h1 h2)⟩
theorem w_subI (e : evO l x = some (.int .i64 p)) (e1 : evO l y = some (.int .i64 r)) (h1 : -9223372036854775808 ≤ p - r) (h2 : p - r ≤ 9223372036854775807) : XV (.bin .sub x y q sh) h l (.int .i64 (p - r)) h := ⟨x_sub (evO_L e) (evO_L e1) (wr_i64 h1 h2)⟩
theorem w_subU (hs : k.signed = false) (e : evO l x = some (.int k ((a : Nat) : Int))) (e1 : evO l y = some (.int k ((d : Nat) : Int))) (hd : d ≤ a) (ha : a < pw k) : XV (.bin .sub x y q sh) h l (.int k ((a - d : Nat) : Int)) h :=
  ⟨x_sub (evO_L e) (evO_L e1) (by rw [← Int.ofNat_sub hd, wr_nat hs (by omega)])⟩
theorem w_convU (hs : k.signed = false) (e : evO l x = some (.int j ((a : Nat) : Int))) (ha : a < pw k) : XV (.conv k x) h l (.int k ((a : Nat) : Int)) h := ⟨x_convU hs (evO_L e) (Nat.mod_eq_of_lt ha)⟩
theorem w_convM (hs : k.signed = false) (e : evO l x = some (.int j ((a : Nat) : Int))) : XV (.conv k x) h l (.int k ((a % pw k : Nat) : Int)) h := ⟨x_convU hs (evO_L e) rfl⟩
theorem w_convN (e : evO l x = some (.int j ((a : Nat) : Int))) (h2 : a < 9223372036854775808) : XV (.conv .i64 x) h l (.int .i64 ((a : Nat) : Int)) h := ⟨x_conv (evO_L e) (wr_i64 (by omega) (by omega))⟩
theorem w_shr {s : Nat} (e : evO l x = some (.int k ((a : Nat) : Int))) (e1 : evO l y = some (.int j ((s : Nat) : Int))) (hs : s ≤ bits k) : XV (.bin .shr x y q sh) h l (.int k ((a >>> s : Nat) : Int)) h := ⟨x_shr (evO_L e) (evO_L e1) hs rfl⟩
theorem w_xor (hs : k.signed = false) (e : evO l x = some (.int k ((a : Nat) : Int))) (e1 : evO l y = some (.int k ((d : Nat) : Int))) (ha : a < pw k) (hc : d < pw k) (hx : (a ^^^ d) < pw k) : XV (.bin .xor x y q sh) h l (.int k ((a ^^^ d : Nat) : Int)) h := ⟨x_xor hs (evO_L e) (evO_L e1) ha hc hx rfl⟩
theorem w_notU (hs : k.signed = false) (e : evO l x = some (.int k ((a : Nat) : Int))) (ha : a < pw k) : XV (.un .xor x) h l (.int k ((pw k - 1 - a : Nat) : Int)) h := ⟨x_notU hs (evO_L e) ha rfl⟩
theorem w_quo (e : evO l x = some (.int .i64 ((a : Nat) : Int))) (e1 : evO l y = some (.int .i64 ((d : Nat) : Int))) (hd : 0 < d) (ha : a < 9223372036854775808) : XV (.bin .quo x y q sh) h l (.int .i64 ((a / d : Nat) : Int)) h := by
  refine ⟨?_⟩
  have h0 : iEq ((d : Nat) : Int) (Int.ofNat 0) = false := by
    rw [iEq_eq]; exact decide_eq_false (by show ((d : Nat) : Int) ≠ 0; omega)
  have h1 : Int.tdiv ((a : Nat) : Int) ((d : Nat) : Int) = ((a / d : Nat) : Int) := rfl
  have h2 : a / d ≤ a := Nat.div_le_self a d
  simp only [exec, ev_tms, evO_L e, evO_L e1, binV, binII, kEq_self, h0, h1, vo]
  clear h1
  generalize a / d = q at *
  rw [wr_i64 (by omega) (by omega)]
theorem w_quoU (hs : k.signed = false) (e : evO l x = some (.int k ((a : Nat) : Int))) (e1 : evO l y = some (.int k ((d : Nat) : Int))) (hd : 0 < d) (ha : a < pw k) : XV (.bin .quo x y q sh) h l (.int k ((a / d : Nat) : Int)) h := by
  refine ⟨?_⟩
  have h0 : iEq ((d : Nat) : Int) (Int.ofNat 0) = false := by
    rw [iEq_eq]; exact decide_eq_false (by show ((d : Nat) : Int) ≠ 0; omega)
  have h1 : Int.tdiv ((a : Nat) : Int) ((d : Nat) : Int) = ((a / d : Nat) : Int) := rfl
  have h2 : a / d ≤ a := Nat.div_le_self a d
  simp only [exec, ev_tms, evO_L e, evO_L e1, binV, binII, kEq_self, h0, h1, vo]
  rw [wr_nat hs (by omega)]
theorem w_rem (e : evO l x = some (.int k ((a : Nat) : Int))) (e1 : evO l y = some (.int k ((d : Nat) : Int))) (hd : 0 < d) : XV (.bin .rem x y q sh) h l (.int k ((a % d : Nat) : Int)) h := by
  refine ⟨?_⟩
  have h0 : iEq ((d : Nat) : Int) (Int.ofNat 0) = false := by
    rw [iEq_eq]; exact decide_eq_false (by show ((d : Nat) : Int) ≠ 0; omega)
  have h1 : Int.tmod ((a : Nat) : Int) ((d : Nat) : Int) = ((a % d : Nat) : Int) := rfl
  simp only [exec, ev_tms, evO_L e, evO_L e1, binV, binII, kEq_self, h0, h1, vo]
theorem w_minT (e : evO l x = some (.int k ((a : Nat) : Int))) (e1 : evO l y = some (.int k ((d : Nat) : Int))) : XV (.maxmin false x y) h l (.int k ((min a d : Nat) : Int)) h := ⟨x_max (evO_L e) (evO_L e1) (by show min (a : Int) (d : Int) = _; omega)⟩
theorem w_maxT (e : evO l x = some (.int k ((a : Nat) : Int))) (e1 : evO l y = some (.int k ((d : Nat) : Int))) : XV (.maxmin true x y) h l (.int k ((max a d : Nat) : Int)) h := ⟨x_max (evO_L e) (evO_L e1) (by show max (a : Int) (d : Int) = _; omega)⟩
end
end

/-! one operation, and the light steps behind it -/
/-- What a call of a function comes to, where the caller goes on from there. -/
def Ct (P : Program) (E : Env) (F : T CFn) (K : T (List AV × AV)) (f : Nat) (args : List AV) (h : H) (post : AV → H → Prop) : Prop :=
  ∀ (Q : Nat → AV → Prop) (x : AFr) (cs : List AFr), (∀ v h', post v h' → GO P E Q (finish v cs h' x)) → GO P E Q (doCall F K (.func f) args false x cs h)

def argL : Nat → List AV → List (Nat × Option AV) → List (Nat × Option AV)
  | _, [], acc => acc
  | i, a :: r, acc => argL (i + 1) r ((i, some a) :: acc)
theorem argL_ok : ∀ (args : List AV) (i : Nat) (acc : List (Nat × Option AV)), ofL i (tms acc) args = tms (argL i args acc)
  | [], _, _ => rfl
  | a :: r, i, acc => argL_ok r (i + 1) ((i, some a) :: acc)

/-- Results that are temporaries. -/
def resO (l : List (Nat × Option AV)) : List CRes → Option (List AV)
  | [] => some []
  | .tmp i :: r => (match look l i with
    | some v => (match resO l r with
      | some vs => some (v :: vs)
      | none => none)
    | none => none)
  | _ :: _ => none
theorem resO_ok {l : List (Nat × Option AV)} {h : H} : ∀ {rs : List CRes} {vs : List AV}, resO l rs = some vs → results (tms l) h rs = some vs
  | [], vs, e => by cases e; rfl
  | .tmp i :: r, vs, e => by
    simp only [resO] at e
    cases h1 : look l i with
    | none => rw [h1] at e; cases e
    | some v =>
      cases h2 : resO l r with
      | none => rw [h1, h2] at e; cases e
      | some us => rw [h1, h2] at e; cases e; exact r_tmp h1 (resO_ok h2)
  | .cell1 _ :: r, vs, e => by cases e
  | .cellN _ _ :: r, vs, e => by cases e
  | .bad :: r, vs, e => by cases e

section
variable {P : Program} {E : Env} {F : T CFn} {K : T (List AV × AV)} {Q : Nat → AV → Prop}
variable {fn nt : Nat} {l l' : List (Nat × Option AV)} {k td' : List AItem} {ds : List ADef} {dfd : Bool} {ro : Option Nat} {cs : List AFr} {h h' : H} {gd : Option (Nat × Bool)} {op : COp} {v : AV} {d : Option Nat} {r : List CI}
variable {n b o : Nat} {t : T Blk} {lh : List (Nat × Option Blk)} {x y : O} {c c' lv : List AV} {post : AV → H → Prop}
variable (L : Lg P E F K)
include L

theorem st1 {d : Nat} (hg : gdO gd l = some true) (hx : XV op h l v h') (ha : adv 1000 (.ops r :: k) ((d, some v) :: l) = (td', l')) (g : Good P E Q ⟨⟨fn, nt, tms l', td', ds, .run, dfd, ro⟩, cs, h'⟩) :
    Good P E Q ⟨⟨fn, nt, tms l, .ops (⟨some d, gd, op⟩ :: r) :: k, ds, .run, dfd, ro⟩, cs, h⟩ :=
  g_opv L (gdO_ok hg) hx.e (adv_ok L 1000 ha g)
theorem stS {m : Nat} (hg : gdO gd l = some true) (e : evO l x = some (.ptr b o)) (e1 : evO l y = some v) (hc : cellsV v = some lv) (hm : Nat.beq lv.length m = true) (hp1 : allPlain lv = true) (hb : Bk (hp n t lh) b c) (hs : setO lv c o = some c')
    (ha : adv 1000 (.ops r :: k) l = (td', l')) (g : Good P E Q ⟨⟨fn, nt, tms l', td', ds, .run, dfd, ro⟩, cs, hp n t ((b, some (cl c')) :: lh)⟩) :
    Good P E Q ⟨⟨fn, nt, tms l, .ops (⟨none, gd, .store m x y⟩ :: r) :: k, ds, .run, dfd, ro⟩, cs, hp n t lh⟩ := y_store L (gdO_ok hg) e e1 hc hm hp1 hb.e hs (adv_ok L 1000 ha g)
theorem stS1 (hg : gdO gd l = some true) (e : evO l x = some (.ptr b o)) (e1 : evO l y = some v) (hc : cellsV v = some [v]) (hp1 : plainV v = true) (hb : Bk (hp n t lh) b c) (ho : o < c.length)
    (ha : adv 1000 (.ops r :: k) l = (td', l')) (g : Good P E Q ⟨⟨fn, nt, tms l', td', ds, .run, dfd, ro⟩, cs, hp n t ((b, some (cl (c.set o v))) :: lh)⟩) :
    Good P E Q ⟨⟨fn, nt, tms l, .ops (⟨none, gd, .store 1 x y⟩ :: r) :: k, ds, .run, dfd, ro⟩, cs, hp n t lh⟩ := stz1 L ⟨gdO_ok hg⟩ e e1 hc hp1 ⟨hb.e⟩ ho (adv_ok L 1000 ha g)

omit L in
theorem setL_two (c : List AV) (v u : AV) (o : Nat) (ho : o + 1 < c.length) : setL [v, u] c o = (c.set o v).set (o + 1) u := by
  apply List.ext_getElem?
  intro i
  rw [setL_get [v, u] c o i (by simp; omega), List.getElem?_set, List.getElem?_set, List.length_set]
  by_cases h1 : o + 1 = i
  · subst h1; simp [ho]
  · by_cases h2 : o = i
    · subst h2; simp; omega
    · rw [if_neg h1, if_neg h2, if_neg (by simp; omega)]
theorem stS2 {u : AV} (hg : gdO gd l = some true) (e : evO l x = some (.ptr b o)) (e1 : evO l y = some (.agg [v, u])) (hp1 : plainV v = true) (hp2 : plainV u = true) (hb : Bk (hp n t lh) b c) (ho : o + 1 < c.length)
    (ha : adv 1000 (.ops r :: k) l = (td', l')) (g : Good P E Q ⟨⟨fn, nt, tms l', td', ds, .run, dfd, ro⟩, cs, hp n t ((b, some (cl ((c.set o v).set (o + 1) u))) :: lh)⟩) :
    Good P E Q ⟨⟨fn, nt, tms l, .ops (⟨none, gd, .store 2 x y⟩ :: r) :: k, ds, .run, dfd, ro⟩, cs, hp n t lh⟩ :=
  g_store L (gdO_ok hg) (evO_L e) (evO_L e1) rfl rfl (by simp only [allPlain, hp1, hp2]) hb.e (by have : [v, u].length = 2 := rfl; omega) (setL_two c v u o ho) (adv_ok L 1000 ha g)

/-- A call. -/
theorem callc {d : Nat} {f : Nat} {a : List O} {va cp args : List AV} (hg : gdO gd l = some true) (e : evO l x = some (.fn (.func f) [] cp)) (ha : evsO l a = some va) (hr : catO va cp = some args) (hc : Ct P E F K f args h post)
    (g : ∀ v h', post v h' → Good P E Q ⟨⟨fn, nt, tms ((d, some v) :: l), .ops r :: k, ds, .run, dfd, ro⟩, cs, hp h'.n h'.t []⟩) :
    Good P E Q ⟨⟨fn, nt, tms l, .ops (⟨some d, gd, .callv x a⟩ :: r) :: k, ds, .run, dfd, ro⟩, cs, h⟩ :=
  g_opc L (gdO_ok hg) (y_callC e ha hr) (hc Q _ cs fun v h' p => fin_op L cvb (g v h' p))
theorem callc0 {f : Nat} {a : List O} {va cp args : List AV} (hg : gdO gd l = some true) (e : evO l x = some (.fn (.func f) [] cp)) (ha : evsO l a = some va) (hr : catO va cp = some args) (hc : Ct P E F K f args h post)
    (g : ∀ v h', post v h' → Good P E Q ⟨⟨fn, nt, tms l, .ops r :: k, ds, .run, dfd, ro⟩, cs, hp h'.n h'.t []⟩) :
    Good P E Q ⟨⟨fn, nt, tms l, .ops (⟨none, gd, .callv x a⟩ :: r) :: k, ds, .run, dfd, ro⟩, cs, h⟩ :=
  g_opc L (gdO_ok hg) (y_callC e ha hr) (hc Q _ cs fun v h' p => fin_op L (dst := none) cvb (g v h' p))

/-- A call that leaves the heap as it is. -/
theorem callcE {d : Nat} {f : Nat} {a : List O} {va cp args : List AV} {R : AV → Prop} (hg : gdO gd l = some true) (e : evO l x = some (.fn (.func f) [] cp)) (ha : evsO l a = some va) (hr : catO va cp = some args) (hc : Ct P E F K f args (hp n t lh) fun v h' => R v ∧ h' = hp n t lh)
    (g : ∀ v, R v → Good P E Q ⟨⟨fn, nt, tms ((d, some v) :: l), .ops r :: k, ds, .run, dfd, ro⟩, cs, hp n t lh⟩) :
    Good P E Q ⟨⟨fn, nt, tms l, .ops (⟨some d, gd, .callv x a⟩ :: r) :: k, ds, .run, dfd, ro⟩, cs, hp n t lh⟩ :=
  g_opc L (gdO_ok hg) (y_callC e ha hr) (hc Q _ cs fun v h' p => fin_op L cvb (p.2 ▸ g v p.1))
theorem callc0E {f : Nat} {a : List O} {va cp args : List AV} {R : AV → Prop} (hg : gdO gd l = some true) (e : evO l x = some (.fn (.func f) [] cp)) (ha : evsO l a = some va) (hr : catO va cp = some args) (hc : Ct P E F K f args (hp n t lh) fun v h' => R v ∧ h' = hp n t lh)
    (g : ∀ v, R v → Good P E Q ⟨⟨fn, nt, tms l, .ops r :: k, ds, .run, dfd, ro⟩, cs, hp n t lh⟩) :
    Good P E Q ⟨⟨fn, nt, tms l, .ops (⟨none, gd, .callv x a⟩ :: r) :: k, ds, .run, dfd, ro⟩, cs, hp n t lh⟩ :=
  g_opc L (gdO_ok hg) (y_callC e ha hr) (hc Q _ cs fun v h' p => fin_op L (dst := none) cvb (p.2 ▸ g v p.1))

theorem ct_inG {f : Nat} {g : CFn} {args : List AV} {l0 l1 : List (Nat × Option AV)} {td : List AItem} (hf : T.get F f = some g) (hm : T.get K f = none) (hn : Nat.ble args.length g.ntmps = true) (hl : argL 0 args [] = l0) (ha : adv 1000 [.code g.body] l0 = (td, l1))
    (body : ∀ (Q : Nat → AV → Prop) (x : AFr) (cs : List AFr), (∀ v h', post v h' → GO P E Q (finish v cs h' x)) → Good P E Q ⟨⟨f, g.ntmps, tms l1, td, [], .run, false, none⟩, x :: cs, hp h.n h.t []⟩) : Ct P E F K f args h post := by
  intro Q x cs hG
  have h1 : ofL 0 .leaf args = tms l0 := by rw [← hl]; exact argL_ok args 0 []
  exact g_in L hf hm hn h1 (adv_ok L 1000 ha (body Q x cs hG))
section
variable {f : Nat} {g : CFn} {l1 : List (Nat × Option AV)} {td : List AItem} {a0 a1 a2 a3 a4 a5 a6 a7 : AV}
theorem ct_in1 (hf : T.get F f = some g) (hm : T.get K f = none) (hn : Nat.ble 1 g.ntmps = true) (ha : adv 1000 [.code g.body] [(0, some a0)] = (td, l1))
    (body : ∀ (Q : Nat → AV → Prop) (x : AFr) (cs : List AFr), (∀ v h', post v h' → GO P E Q (finish v cs h' x)) → Good P E Q ⟨⟨f, g.ntmps, tms l1, td, [], .run, false, none⟩, x :: cs, hp h.n h.t []⟩) : Ct P E F K f [a0] h post := ct_inG L hf hm hn rfl ha body
theorem ct_in2 (hf : T.get F f = some g) (hm : T.get K f = none) (hn : Nat.ble 2 g.ntmps = true) (ha : adv 1000 [.code g.body] [(1, some a1), (0, some a0)] = (td, l1))
    (body : ∀ (Q : Nat → AV → Prop) (x : AFr) (cs : List AFr), (∀ v h', post v h' → GO P E Q (finish v cs h' x)) → Good P E Q ⟨⟨f, g.ntmps, tms l1, td, [], .run, false, none⟩, x :: cs, hp h.n h.t []⟩) : Ct P E F K f [a0, a1] h post := ct_inG L hf hm hn rfl ha body
theorem ct_in3 (hf : T.get F f = some g) (hm : T.get K f = none) (hn : Nat.ble 3 g.ntmps = true) (ha : adv 1000 [.code g.body] [(2, some a2), (1, some a1), (0, some a0)] = (td, l1))
    (body : ∀ (Q : Nat → AV → Prop) (x : AFr) (cs : List AFr), (∀ v h', post v h' → GO P E Q (finish v cs h' x)) → Good P E Q ⟨⟨f, g.ntmps, tms l1, td, [], .run, false, none⟩, x :: cs, hp h.n h.t []⟩) : Ct P E F K f [a0, a1, a2] h post := ct_inG L hf hm hn rfl ha body
theorem ct_in4 (hf : T.get F f = some g) (hm : T.get K f = none) (hn : Nat.ble 4 g.ntmps = true) (ha : adv 1000 [.code g.body] [(3, some a3), (2, some a2), (1, some a1), (0, some a0)] = (td, l1))
    (body : ∀ (Q : Nat → AV → Prop) (x : AFr) (cs : List AFr), (∀ v h', post v h' → GO P E Q (finish v cs h' x)) → Good P E Q ⟨⟨f, g.ntmps, tms l1, td, [], .run, false, none⟩, x :: cs, hp h.n h.t []⟩) : Ct P E F K f [a0, a1, a2, a3] h post := ct_inG L hf hm hn rfl ha body
theorem ct_in5 (hf : T.get F f = some g) (hm : T.get K f = none) (hn : Nat.ble 5 g.ntmps = true) (ha : adv 1000 [.code g.body] [(4, some a4), (3, some a3), (2, some a2), (1, some a1), (0, some a0)] = (td, l1))
    (body : ∀ (Q : Nat → AV → Prop) (x : AFr) (cs : List AFr), (∀ v h', post v h' → GO P E Q (finish v cs h' x)) → Good P E Q ⟨⟨f, g.ntmps, tms l1, td, [], .run, false, none⟩, x :: cs, hp h.n h.t []⟩) : Ct P E F K f [a0, a1, a2, a3, a4] h post := ct_inG L hf hm hn rfl ha body
end

theorem retc {g : CFn} {x : AFr} {vs : List AV} (hf : T.get F fn = some g) (hr : results (tms l) h g.results = some vs) (hG : ∀ v h', post v h' → GO P E Q (finish v cs h' x)) (p : post (single vs) h) :
    Good P E Q ⟨⟨fn, nt, tms l, .code .ret :: k, [], .run, false, none⟩, x :: cs, h⟩ := g_ret L hf hr (hG _ _ p)
theorem endc {g : CFn} {x : AFr} {vs : List AV} (hf : T.get F fn = some g) (hr : results (tms l) h g.results = some vs) (hG : ∀ v h', post v h' → GO P E Q (finish v cs h' x)) (p : post (single vs) h) :
    Good P E Q ⟨⟨fn, nt, tms l, [], [], .run, false, none⟩, x :: cs, h⟩ := g_end L hf hr (hG _ _ p)

omit L in
theorem Ct.mono {post' : AV → H → Prop} {f : Nat} {args : List AV} (c : Ct P E F K f args h post') (m : ∀ v h', post' v h' → post v h') : Ct P E F K f args h post := fun Q x cs g => c Q x cs fun v h' p => g v h' (m v h' p)

/-- Less is known of the temporaries: those that are named are kept. -/
theorem keep {nm : List Nat} {q : List (Nat × Option AV)} {todo : List AItem} {mode : AMode} (ho : onlyO l nm = some q) (g : Good P E Q ⟨⟨fn, nt, tms q, todo, ds, mode, dfd, ro⟩, cs, h⟩) : Good P E Q ⟨⟨fn, nt, tms l, todo, ds, mode, dfd, ro⟩, cs, h⟩ := by
  refine g_tm L (tm' := tms q) (fun i v hv => ?_) g
  rw [← onlyO_eq ho] at hv
  clear ho g
  induction nm with
  | nil => simp only [only, T.get_leaf] at hv; cases hv
  | cons a nm ih =>
    simp only [only] at hv
    cases ha : T.get (tms l) a with
    | none => rw [ha] at hv; exact ih hv
    | some u =>
      rw [ha] at hv
      simp only [T.get_set] at hv
      by_cases hi : i = a
      · subst hi; rw [if_pos rfl] at hv; rw [ha]; exact hv
      · rw [if_neg hi] at hv; exact ih hv

/-- A loop that counts up. 's': what else changes. -/
theorem g_up {α : Type} {bd : CC} (T : Nat → α → List (Nat × Option AV)) (n : Nat) (R : Nat → α → H → Prop) {i0 : Nat} (s0 : α) {h0 : H}
    (hT : TSub (tms (T i0 s0)) (tms l)) (hR : R i0 s0 h0) (hi : i0 ≤ n)
    (body : ∀ i s h, i < n → R i s h → (∀ s' h' l', R (i + 1) s' h' → TSub (tms (T (i + 1) s')) (tms l') → Good P E Q ⟨⟨fn, nt, tms l', .inLoop bd :: k, ds, .run, dfd, ro⟩, cs, h'⟩) → Good P E Q ⟨⟨fn, nt, tms (T i s), .code bd :: .inLoop bd :: k, ds, .run, dfd, ro⟩, cs, hp h.n h.t []⟩)
    (done : ∀ s h, R n s h → Good P E Q ⟨⟨fn, nt, tms (T n s), .code bd :: .inLoop bd :: k, ds, .run, dfd, ro⟩, cs, hp h.n h.t []⟩) :
    Good P E Q ⟨⟨fn, nt, tms l, .code (.loop bd) :: k, ds, .run, dfd, ro⟩, cs, h0⟩ := by
  have main : ∀ m i s h, i + m = n → R i s h → Good P E Q ⟨⟨fn, nt, tms (T i s), .code bd :: .inLoop bd :: k, ds, .run, dfd, ro⟩, cs, hp h.n h.t []⟩ := by
    intro m
    induction m with
    | zero => intro i s h e hR; have : i = n := by omega
              subst this; exact done s h hR
    | succ m ih =>
      intro i s h e hR
      exact body i s h (by omega) hR fun s' h' l' hR' hT' => g_inLoop L (g_tm L hT' (ih (i + 1) s' h' (by omega) hR'))
  exact g_loop L (g_tm L hT (main (n - i0) i0 s0 h0 (by omega) hR))

/-! regions that draw their order -/
section
variable {q : List (Nat × Option AV)} {nm : List Nat} {pre chk : List DI} {ps : List Ph} {di : Nat}
omit L in
theorem pst1 (ho : onlyO l nm = some q) (hg : gdO gd q = some true) (hx : XV op h q v h')
    (g : GPure P E Q pre chk ps k fn nt (tms ((di, some v) :: l)) ds dfd ro cs h') : GPure P E Q (⟨⟨some di, gd, op⟩, nm⟩ :: pre) chk ps k fn nt (tms l) ds dfd ro cs h := p_v ho (gdO_ok hg) hx.e g
omit L in
theorem psk1 (ho : onlyO l nm = some q) (hg : gdO gd q = some false)
    (g : GPure P E Q pre chk ps k fn nt (tms ((di, some (.tup [])) :: l)) ds dfd ro cs h) : GPure P E Q (⟨⟨some di, gd, op⟩, nm⟩ :: pre) chk ps k fn nt (tms l) ds dfd ro cs h := p_s ho (gdO_ok hg) g
omit L in
theorem kst1 (ho : onlyO l nm = some q) (hg : gdO gd q = some true) (hx : XV op h q v h') (hl : look l di = some v) (ha : avOk 20 v = true) (g : checks chk (tms l) h = true) : checks (⟨⟨some di, gd, op⟩, nm⟩ :: chk) (tms l) h = true := k_v ho (gdO_ok hg) hx.e hl ha g
omit L in
theorem ksk1 (ho : onlyO l nm = some q) (hg : gdO gd q = some false) (hl : look l di = some (.tup [])) (g : checks chk (tms l) h = true) : checks (⟨⟨some di, gd, op⟩, nm⟩ :: chk) (tms l) h = true := k_s ho (gdO_ok hg) hl g
theorem p_e1 (hc : checks chk (tms l) h = true) (ha : adv 1000 k l = (td', l')) (g : Good P E Q ⟨⟨fn, nt, tms l', td', ds, .run, dfd, ro⟩, cs, h⟩) : GPure P E Q [] chk [] k fn nt (tms l) ds dfd ro cs h := p_e hc (adv_ok L 1000 ha g)
theorem est1 (ho : onlyO l nm = some q) (hg : gdO gd q = some true) (hx : XV op h q v h')
    (g : GPure P E Q pre chk ps k fn nt (tms ((di, some v) :: l)) ds dfd ro cs h') : Good P E Q ⟨⟨fn, nt, tms l, .drawn ⟨⟨⟨some di, gd, op⟩, nm⟩, pre, chk⟩ ps :: k, ds, .run, dfd, ro⟩, cs, h⟩ := e_v L ho (gdO_ok hg) hx.e g
theorem esk1 (ho : onlyO l nm = some q) (hg : gdO gd q = some false)
    (g : GPure P E Q pre chk ps k fn nt (tms ((di, some (.tup [])) :: l)) ds dfd ro cs h) : Good P E Q ⟨⟨fn, nt, tms l, .drawn ⟨⟨⟨some di, gd, op⟩, nm⟩, pre, chk⟩ ps :: k, ds, .run, dfd, ro⟩, cs, h⟩ := e_s L ho (gdO_ok hg) g
theorem dcall {f : Nat} {a : List O} {va cp args : List AV} (ho : onlyO l nm = some q) (hg : gdO gd q = some true) (e : evO q x = some (.fn (.func f) [] cp)) (ha : evsO q a = some va) (hr : catO va cp = some args) (hc : Ct P E F K f args h post)
    (g : ∀ v h', post v h' → GPure P E Q pre chk ps k fn nt (tms ((di, some v) :: l)) ds dfd ro cs (hp h'.n h'.t [])) :
    Good P E Q ⟨⟨fn, nt, tms l, .drawn ⟨⟨⟨some di, gd, .callv x a⟩, nm⟩, pre, chk⟩ ps :: k, ds, .run, dfd, ro⟩, cs, h⟩ :=
  e_c L ho (gdO_ok hg) (y_callC e ha hr) (hc Q _ cs fun v h' p => fd cvb (g v h' p))
theorem dcall0 {f : Nat} {a : List O} {va cp args : List AV} (ho : onlyO l nm = some q) (hg : gdO gd q = some true) (e : evO q x = some (.fn (.func f) [] cp)) (ha : evsO q a = some va) (hr : catO va cp = some args) (hc : Ct P E F K f args h post)
    (g : ∀ v h', post v h' → GPure P E Q pre chk ps k fn nt (tms l) ds dfd ro cs (hp h'.n h'.t [])) :
    Good P E Q ⟨⟨fn, nt, tms l, .drawn ⟨⟨⟨none, gd, .callv x a⟩, nm⟩, pre, chk⟩ ps :: k, ds, .run, dfd, ro⟩, cs, h⟩ :=
  e_c L ho (gdO_ok hg) (y_callC e ha hr) (hc Q _ cs fun v h' p => fd0 cvb (g v h' p))
theorem dcallE {f : Nat} {a : List O} {va cp args : List AV} {R : AV → Prop} (ho : onlyO l nm = some q) (hg : gdO gd q = some true) (e : evO q x = some (.fn (.func f) [] cp)) (ha : evsO q a = some va) (hr : catO va cp = some args) (hc : Ct P E F K f args (hp n t lh) fun v h' => R v ∧ h' = hp n t lh)
    (g : ∀ v, R v → GPure P E Q pre chk ps k fn nt (tms ((di, some v) :: l)) ds dfd ro cs (hp n t lh)) :
    Good P E Q ⟨⟨fn, nt, tms l, .drawn ⟨⟨⟨some di, gd, .callv x a⟩, nm⟩, pre, chk⟩ ps :: k, ds, .run, dfd, ro⟩, cs, hp n t lh⟩ :=
  e_c L ho (gdO_ok hg) (y_callC e ha hr) (hc Q _ cs fun v h' p => fd cvb (p.2 ▸ g v p.1))
theorem dcall0E {f : Nat} {a : List O} {va cp args : List AV} {R : AV → Prop} (ho : onlyO l nm = some q) (hg : gdO gd q = some true) (e : evO q x = some (.fn (.func f) [] cp)) (ha : evsO q a = some va) (hr : catO va cp = some args) (hc : Ct P E F K f args (hp n t lh) fun v h' => R v ∧ h' = hp n t lh)
    (g : ∀ v, R v → GPure P E Q pre chk ps k fn nt (tms l) ds dfd ro cs (hp n t lh)) :
    Good P E Q ⟨⟨fn, nt, tms l, .drawn ⟨⟨⟨none, gd, .callv x a⟩, nm⟩, pre, chk⟩ ps :: k, ds, .run, dfd, ro⟩, cs, hp n t lh⟩ :=
  e_c L ho (gdO_ok hg) (y_callC e ha hr) (hc Q _ cs fun v h' p => fd0 cvb (p.2 ▸ g v p.1))
/-- A store, as an effect. The heap: at least what is said. -/
theorem estS {m : Nat} (ho : onlyO l nm = some q) (hg : gdO gd q = some true) (e : evO q x = some (.ptr b o)) (e1 : evO q y = some v) (hc : cellsV v = some lv) (hm : Nat.beq lv.length m = true) (hp1 : allPlain lv = true)
    (hb : Bk (hp n t lh) b c) (hs : setO lv c o = some c') (g : Good P E Q ⟨⟨fn, nt, tms l, k, ds, .run, dfd, ro⟩, cs, hp n t ((b, some (cl c')) :: lh)⟩) :
    Good P E Q ⟨⟨fn, nt, tms l, .drawn ⟨⟨⟨none, gd, .store m x y⟩, nm⟩, [], []⟩ [] :: k, ds, .run, dfd, ro⟩, cs, hp n t lh⟩ :=
  e_st L ho (gdO_ok hg) e e1 hc hm hp1 hb.e hs fun h' hs' => p_e k_nil (g_hp L hs' g)
theorem estS1 (ho : onlyO l nm = some q) (hg : gdO gd q = some true) (e : evO q x = some (.ptr b o)) (e1 : evO q y = some v) (hc : cellsV v = some [v]) (hp1 : plainV v = true)
    (hb : Bk (hp n t lh) b c) (ho' : o < c.length) (g : Good P E Q ⟨⟨fn, nt, tms l, k, ds, .run, dfd, ro⟩, cs, hp n t ((b, some (cl (c.set o v))) :: lh)⟩) :
    Good P E Q ⟨⟨fn, nt, tms l, .drawn ⟨⟨⟨none, gd, .store 1 x y⟩, nm⟩, [], []⟩ [] :: k, ds, .run, dfd, ro⟩, cs, hp n t lh⟩ := by
  obtain ⟨h', q1, q2⟩ := put_sub (n := n) (t := t) (lh := lh) (lv := [v]) (by simp only [allPlain, hp1]) hb.e (by have : [v].length = 1 := rfl; omega) (setL_one c v o ho')
  have hx : exec (.store 1 x y) (hp n t lh) (tms q) = .val .unk h' := by simp only [exec, ev_tms, evO_L e, evO_L e1, hc, q1]; rfl
  exact e_val L (dst := none) (by rw [onlyO_eq ho]; exact gdO_ok hg) (by rw [onlyO_eq ho]; exact hx) (p_e (l := l) k_nil (g_hp L q2 g))
theorem g_alts4 {a1 a2 a3 a4 : Alt} (g1 : GPure P E Q a1.pre a1.chk a1.l k fn nt (tms l) ds dfd ro cs h) (g2 : GPure P E Q a2.pre a2.chk a2.l k fn nt (tms l) ds dfd ro cs h) (g3 : GPure P E Q a3.pre a3.chk a3.l k fn nt (tms l) ds dfd ro cs h) (g4 : GPure P E Q a4.pre a4.chk a4.l k fn nt (tms l) ds dfd ro cs h) :
    Good P E Q ⟨⟨fn, nt, tms l, .code (.alts [a1, a2, a3, a4]) :: k, ds, .run, dfd, ro⟩, cs, h⟩ :=
  g_alts L fun a ha => by
    simp only [List.mem_cons, List.not_mem_nil, or_false] at ha
    rcases ha with e | e | e | e <;> subst e <;> assumption
theorem g_alts2 {a1 a2 : Alt} (g1 : GPure P E Q a1.pre a1.chk a1.l k fn nt (tms l) ds dfd ro cs h) (g2 : GPure P E Q a2.pre a2.chk a2.l k fn nt (tms l) ds dfd ro cs h) : Good P E Q ⟨⟨fn, nt, tms l, .code (.alts [a1, a2]) :: k, ds, .run, dfd, ro⟩, cs, h⟩ :=
  g_alts L fun a ha => by
    cases ha with
    | head => exact g1
    | tail _ h => cases h with
      | head => exact g2
      | tail _ h => cases h
end
end
end Go.Ev

