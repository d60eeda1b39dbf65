/- Single operations, control, drawn regions: a logic over the abstract machine. -/
import Derived.KernelRfl
import Derived.Test.YtclfgfpebplncaaGreatEvG
set_option linter.unusedVariables false
set_option linter.unusedSimpArgs false
set_option linter.unusedSectionVars false
/- The checksum: by a table as bit by bit. Plain numbers. -/
namespace Go.Ev.Crc

def poly : Nat := 2197175160
/-- One bit. -/
def f1 (x : Nat) : Nat := if x % 2 = 1 then (x / 2) ^^^ poly else x / 2
def f8 (x : Nat) : Nat := f1 (f1 (f1 (f1 (f1 (f1 (f1 (f1 x)))))))

theorem f1_bit (x i : Nat) : (f1 x).testBit i = (x.testBit (i + 1) ^^ (x.testBit 0 && poly.testBit i)) := by
  unfold f1
  have h0 : x.testBit 0 = decide (x % 2 = 1) := Nat.testBit_zero x
  by_cases h : x % 2 = 1
  · rw [if_pos h, Nat.testBit_xor, h0, decide_eq_true h, Nat.testBit_div_two]; simp
  · rw [if_neg h, h0, decide_eq_false h, Nat.testBit_div_two]; simp

theorem f1_xor (x y : Nat) : f1 (x ^^^ y) = f1 x ^^^ f1 y := by
  apply Nat.eq_of_testBit_eq
  intro i
  rw [Nat.testBit_xor, f1_bit, f1_bit, f1_bit, Nat.testBit_xor, Nat.testBit_xor]
  cases x.testBit (i + 1) <;> cases y.testBit (i + 1) <;> cases x.testBit 0 <;> cases y.testBit 0 <;> cases poly.testBit i <;> rfl

theorem f8_xor (x y : Nat) : f8 (x ^^^ y) = f8 x ^^^ f8 y := by simp only [f8, f1_xor]

theorem f1_two (x : Nat) : f1 (2 * x) = x := by
  unfold f1; rw [if_neg (by omega)]; omega

theorem f8_256 (x : Nat) : f8 (256 * x) = x := by
  unfold f8
  rw [show 256 * x = 2 * (2 * (2 * (2 * (2 * (2 * (2 * (2 * x))))))) by omega]
  simp only [f1_two]

theorem split8 (u : Nat) : (256 * (u / 256)) ^^^ (u % 256) = u := by
  apply Nat.eq_of_testBit_eq
  intro i
  rw [Nat.testBit_xor, show 256 = 2 ^ 8 from rfl, Nat.testBit_two_pow_mul, Nat.testBit_mod_two_pow, Nat.testBit_div_two_pow]
  by_cases h : i < 8
  · have : ¬ i ≥ 8 := by omega
    simp [h, this]
  · have h' : i ≥ 8 := by omega
    have e : i - 8 + 8 = i := by omega
    simp [h, h', e]

theorem f1_lt {x : Nat} (h : x < 2 ^ 32) : f1 x < 2 ^ 32 := by
  unfold f1
  split
  · exact Nat.xor_lt_two_pow (by omega) (by decide)
  · omega
theorem f8_lt {x : Nat} (h : x < 2 ^ 32) : f8 x < 2 ^ 32 := f1_lt (f1_lt (f1_lt (f1_lt (f1_lt (f1_lt (f1_lt (f1_lt h)))))))

/-- A step by a table. -/
def tstep (tab : List Nat) (s b : Nat) : Nat := (s >>> 8) ^^^ tab.getD ((s % 256) ^^^ b) 0
/-- A step bit by bit. -/
def bstep (s b : Nat) : Nat := f8 (s ^^^ b)

/-- The table. -/
def TabOf (tab : List Nat) : Prop := tab = (List.range 256).map f8

theorem tab_get {tab : List Nat} (ht : TabOf tab) {i : Nat} (hi : i < 256) : tab.getD i 0 = f8 i := by
  rw [ht]; simp [hi]

theorem step_eq {tab : List Nat} (ht : TabOf tab) {s b : Nat} (hb : b < 2 ^ 8) : tstep tab s b = bstep s b := by
  unfold tstep bstep
  have hx : (s % 256) ^^^ b < 256 := Nat.xor_lt_two_pow (n := 8) (Nat.mod_lt _ (by decide)) hb
  rw [tab_get ht hx]
  have h1 : (s ^^^ b) / 256 = s >>> 8 := by
    apply Nat.eq_of_testBit_eq
    intro i
    rw [show 256 = 2 ^ 8 from rfl, Nat.testBit_div_two_pow, Nat.testBit_xor, Nat.testBit_shiftRight]
    have : b.testBit (i + 8) = false := Nat.testBit_lt_two_pow (Nat.lt_of_lt_of_le hb (Nat.pow_le_pow_right (by omega) (by omega)))
    rw [this, Nat.add_comm 8 i]; simp
  have h2 : (s ^^^ b) % 256 = (s % 256) ^^^ b := by
    have hb' : b = b % 256 := (Nat.mod_eq_of_lt hb).symm
    apply Nat.eq_of_testBit_eq
    intro i
    rw [show 256 = 2 ^ 8 from rfl, Nat.testBit_mod_two_pow, Nat.testBit_xor, Nat.testBit_xor, Nat.testBit_mod_two_pow]
    by_cases h : i < 8
    · simp [h]
    · have : b.testBit i = false := Nat.testBit_lt_two_pow (Nat.lt_of_lt_of_le hb (Nat.pow_le_pow_right (by omega) (by omega)))
      simp [h, this]
  have h3 : f8 (s ^^^ b) = (s ^^^ b) / 256 ^^^ f8 ((s ^^^ b) % 256) := by
    conv => lhs; rw [← split8 (s ^^^ b)]
    rw [f8_xor, f8_256]
  rw [h3, h1, h2]

theorem bstep_lt {s b : Nat} (hs : s < 2 ^ 32) (hb : b < 2 ^ 8) : bstep s b < 2 ^ 32 :=
  f8_lt (Nat.xor_lt_two_pow hs (Nat.lt_of_lt_of_le hb (by decide)))

/-- The checksum of bytes. -/
def upd (s : Nat) (bs : List Nat) : Nat := bs.foldl bstep s
theorem upd_eq {tab : List Nat} (ht : TabOf tab) : ∀ (bs : List Nat) (s : Nat), (∀ b ∈ bs, b < 2 ^ 8) → bs.foldl (tstep tab) s = upd s bs
  | [], s, _ => rfl
  | b :: r, s, h => by
    unfold upd
    rw [List.foldl_cons, List.foldl_cons, step_eq ht (h b (List.mem_cons_self ..))]
    exact upd_eq ht r _ fun x hx => h x (List.mem_cons_of_mem _ hx)
theorem upd_lt : ∀ (bs : List Nat) (s : Nat), s < 2 ^ 32 → (∀ b ∈ bs, b < 2 ^ 8) → upd s bs < 2 ^ 32
  | [], s, h, _ => h
  | b :: r, s, hs, h => by
    unfold upd
    rw [List.foldl_cons]
    exact upd_lt r _ (bstep_lt hs (h b (List.mem_cons_self ..))) fun x hx => h x (List.mem_cons_of_mem _ hx)
end Go.Ev.Crc

/- A logic over the abstract machine: less is known; temporaries and heaps as lists over a base. -/
namespace Go.Ev

/-! less is known -/
inductive BSub : Blk → Blk → Prop where
  | cells {ro : Bool} {n' n : Nat} {c' c : T AV} (hn : n' ≤ n) (h : ∀ i v, i < n' → T.get c' i = some v → T.get c i = some v) : BSub (.cells ro n' c') (.cells ro n c)
  | same (x : Blk) : BSub x x

theorem BSub.ro {x' x : Blk} (h : BSub x' x) : roB x' = roB x := by cases h <;> rfl

def TSub (tm' tm : T AV) : Prop := ∀ t v, T.get tm' t = some v → T.get tm t = some v

structure HSub (h' h : H) : Prop where
  n : h.n ≤ h'.n
  blk : ∀ b x', H.get h' b = some x' → ∃ x, H.get h b = some x ∧ BSub x' x

theorem HSub.refl (h : H) : HSub h h := ⟨Nat.le_refl _, fun b x hx => ⟨x, hx, .same x⟩⟩
theorem TSub.refl (t : T AV) : TSub t t := fun _ _ h => h
theorem BSub.trans {a b c : Blk} (h : BSub a b) (k : BSub b c) : BSub a c := by
  cases h with
  | same => exact k
  | cells h1 h2 => cases k with
    | same => exact .cells h1 h2
    | cells k1 k2 => exact .cells (Nat.le_trans h1 k1) fun i v hi hv => k2 i v (Nat.lt_of_lt_of_le hi h1) (h2 i v hi hv)
theorem HSub.trans {a b c : H} (h : HSub a b) (k : HSub b c) : HSub a c :=
  ⟨Nat.le_trans k.n h.n, fun x y hy => let ⟨z, h1, h2⟩ := h.blk x y hy; let ⟨u, k1, k2⟩ := k.blk x z h1; ⟨u, k1, h2.trans k2⟩⟩

section
variable {E : Env} {w0 : World} {φ : Phi}

theorem BR.sub {l : Loc} {x' x : Blk} {o : Obj} (hb : BSub x' x) (h : BR E φ l x o) : BR E φ l x' o := by
  cases hb with
  | same => exact h
  | cells h1 h2 => cases h with
    | cells hf hs hn hc => exact .cells hf hs (by omega) fun i v hi hv => hc i v (by omega) (h2 i v hi hv)

theorem HW.sub {h' h : H} {w : World} (hs : HSub h' h) (k : HW E w0 φ h w) : HW E w0 φ h' w := by
  refine ⟨?_, k.like⟩
  have hr := k.hr
  refine ⟨fun b l hb => Nat.lt_of_lt_of_le (hr.bound b l hb) hs.n, hr.cbound, fun b l x hb hx => ?_, fun b b' l l' x x' h1 h2 h3 h4 h5 h6 => ?_, fun b l x hb hx h5 => ?_, hr.old, hr.size⟩
  · obtain ⟨y, g1, g2⟩ := hs.blk b x hx
    obtain ⟨o, g3, g4⟩ := hr.blk b l y hb g1
    exact ⟨o, g3, g4.sub g2⟩
  · obtain ⟨y, g1, g2⟩ := hs.blk b x h3
    obtain ⟨y', g3, g4⟩ := hs.blk b' x' h4
    exact hr.inj b b' l l' y y' h1 h2 g1 g3 (by rw [← g2.ro]; exact h5) h6
  · obtain ⟨y, g1, g2⟩ := hs.blk b x hx
    exact hr.own b l y hb g1 (by rw [← g2.ro]; exact h5)

theorem FR.subT {fn nt : Nat} {tm tm' : T AV} {todo : List AItem} {ds : List ADef} {mode : AMode} {dfd : Bool} {ro : Option Nat} {fr : Frame} (ht : TSub tm' tm) (h : FR E φ ⟨fn, nt, tm, todo, ds, mode, dfd, ro⟩ fr) : FR E φ ⟨fn, nt, tm', todo, ds, mode, dfd, ro⟩ fr := by
  refine ⟨h.fn, h.kind, h.ro, h.defers, h.mode, ?_, h.dr⟩
  have hb := h.body
  simp only at hb ⊢
  generalize fr.tmps = q1 at hb ⊢
  generalize fr.todo = q2 at hb ⊢
  cases hb with
  | plain h1 hi => exact .plain ⟨h1.size, fun t v hv => h1.val t v (ht t v hv)⟩ hi
  | gone h1 => exact .gone ⟨h1.size, fun t v hv => h1.val t v (ht t v hv)⟩
  | drawn hs he hp h1 hi => exact .drawn hs he hp ⟨h1.size, fun t v hv => h1.val t v (ht t v hv)⟩ hi
end

section
variable {P : Program} {E : Env} {F : T CFn} {K : T (List AV × AV)} {Q : Nat → AV → Prop}

theorem good_sub {fn nt : Nat} {tm tm' : T AV} {todo : List AItem} {ds : List ADef} {mode : AMode} {dfd : Bool} {ro : Option Nat} {cs : List AFr} {h h' : H} (ht : TSub tm' tm) (hh : HSub h' h)
    (hg : Good P E Q ⟨⟨fn, nt, tm', todo, ds, mode, dfd, ro⟩, cs, h'⟩) : Good P E Q ⟨⟨fn, nt, tm, todo, ds, mode, dfd, ro⟩, cs, h⟩ := by
  intro w0 cs0 m hA
  obtain ⟨φ, fr, cs1, w, rfl, hf, hfs, hr⟩ := hA.ex
  exact hg w0 cs0 _ ⟨φ, fr, cs1, w, rfl, hf.subT ht, hfs, hr.sub hh⟩

/-- What is asked of a step's outcome. -/
def GO (P : Program) (E : Env) (Q : Nat → AV → Prop) (o : Out) : Prop := match o with
  | .one c => Good P E Q c
  | .many l => ∀ c ∈ l, Good P E Q c
  | .done fn v _ => Q fn v
  | .fail => False

/-- What the logic stands on. -/
structure Lg (P : Program) (E : Env) (F : T CFn) (K : T (List AV × AV)) : Prop where
  hE : EnvOk P E
  hT : TabOk P E F
  hK : MemOk P K

variable (L : Lg P E F K)
include L

theorem g_step {c : Conf} (h : GO P E Q (step F K c)) : Good P E Q c := by
  refine good_step L.hE L.hT L.hK ?_
  cases hs : step F K c <;> rw [hs] at h <;> exact h
end

/-! lists over a base -/
noncomputable def ov {α : Type} (t : T α) : List (Nat × Option α) → T α
  | [] => t
  | p :: r => T.set (ov t r) p.1 p.2

theorem ov_get {α : Type} (t : T α) (k : Nat) (x : Option α) (r : List (Nat × Option α)) (i : Nat) : T.get (ov t ((k, x) :: r)) i = if i = k then x else T.get (ov t r) i := T.get_set _ _ _ _
theorem ov_eq {α : Type} (t : T α) (k : Nat) (x : Option α) (r : List (Nat × Option α)) : T.get (ov t ((k, x) :: r)) k = x := by rw [ov_get, if_pos rfl]
theorem ov_ne {α : Type} (t : T α) {k i : Nat} (x : Option α) (r : List (Nat × Option α)) (h : i ≠ k) : T.get (ov t ((k, x) :: r)) i = T.get (ov t r) i := by rw [ov_get, if_neg h]

def look {α : Type} : List (Nat × Option α) → Nat → Option α
  | [], _ => none
  | p :: r, i => match Nat.beq i p.1 with
    | true => p.2
    | false => look r i

theorem ov_look {α : Type} (i : Nat) : ∀ r : List (Nat × Option α), T.get (ov (.leaf : T α) r) i = look r i
  | [] => T.get_leaf i
  | p :: r => by
    obtain ⟨k, x⟩ := p
    rw [ov_get, ov_look i r]
    simp only [look]
    cases hb : Nat.beq i k with
    | true => rw [if_pos (beq_true hb)]
    | false => rw [if_neg (beq_false hb)]

/-- temporaries -/
noncomputable abbrev tms (l : List (Nat × Option AV)) : T AV := ov .leaf l
def evL (l : List (Nat × Option AV)) (o : O) : AV := match o with
  | .t i => (match look l i with | some v => v | none => .unk)
  | .c v => v
theorem ev_tms (l : List (Nat × Option AV)) (o : O) : ev (tms l) o = evL l o := by
  cases o with
  | t i => simp only [ev, evL, ov_look]; cases look l i <;> rfl
  | c v => rfl

/-- A heap: a base, and what lies over it. -/
noncomputable abbrev hp (n : Nat) (t : T Blk) (l : List (Nat × Option Blk)) : H := ⟨n, ov t l⟩
/-- A row of cells. -/
noncomputable def cl (l : List AV) : Blk := .cells false l.length (ofL 0 .leaf l)

theorem cl_get (l : List AV) (i : Nat) : T.get (ofL 0 (.leaf : T AV) l) i = l[i]? := by
  rw [ofL_get]
  by_cases h : i < l.length
  · rw [if_pos (by omega), Nat.sub_zero]
  · rw [if_neg (by omega), T.get_leaf, List.getElem?_eq_none (by omega)]

theorem get_eq (n : Nat) (t : T Blk) (b : Nat) (x : Option Blk) (r : List (Nat × Option Blk)) : H.get (hp n t ((b, x) :: r)) b = x := ov_eq _ _ _ _
theorem get_ne (n : Nat) (t : T Blk) {b i : Nat} (x : Option Blk) (r : List (Nat × Option Blk)) (h : i ≠ b) : H.get (hp n t ((b, x) :: r)) i = H.get (hp n t r) i := ov_ne _ _ _ h
end Go.Ev

/- A logic over the abstract machine: the rules of control. -/
namespace Go.Ev

section
variable {P : Program} {E : Env} {F : T CFn} {K : T (List AV × AV)} {Q : Nat → AV → Prop}
variable (L : Lg P E F K)
variable {fn nt : Nat} {tm : T AV} {todo k : List AItem} {ds : List ADef} {dfd : Bool} {ro : Option Nat} {cs : List AFr} {h h' : H}
include L

theorem g_skip (g : Good P E Q ⟨⟨fn, nt, tm, k, ds, .run, dfd, ro⟩, cs, h⟩) : Good P E Q ⟨⟨fn, nt, tm, .code .skip :: k, ds, .run, dfd, ro⟩, cs, h⟩ := g_step L g
theorem g_label {l : Nat} (g : Good P E Q ⟨⟨fn, nt, tm, k, ds, .run, dfd, ro⟩, cs, h⟩) : Good P E Q ⟨⟨fn, nt, tm, .code (.label l) :: k, ds, .run, dfd, ro⟩, cs, h⟩ := g_step L g
theorem g_seq {a b : CC} (g : Good P E Q ⟨⟨fn, nt, tm, .code a :: .code b :: k, ds, .run, dfd, ro⟩, cs, h⟩) : Good P E Q ⟨⟨fn, nt, tm, .code (.seq a b) :: k, ds, .run, dfd, ro⟩, cs, h⟩ := g_step L g
theorem g_block {id : Nat} {b : CC} (g : Good P E Q ⟨⟨fn, nt, tm, .code b :: .inBlock id :: k, ds, .run, dfd, ro⟩, cs, h⟩) : Good P E Q ⟨⟨fn, nt, tm, .code (.block id b) :: k, ds, .run, dfd, ro⟩, cs, h⟩ := g_step L g
theorem g_loop {b : CC} (g : Good P E Q ⟨⟨fn, nt, tm, .code b :: .inLoop b :: k, ds, .run, dfd, ro⟩, cs, h⟩) : Good P E Q ⟨⟨fn, nt, tm, .code (.loop b) :: k, ds, .run, dfd, ro⟩, cs, h⟩ := g_step L g
theorem g_inLoop {b : CC} (g : Good P E Q ⟨⟨fn, nt, tm, .code b :: .inLoop b :: k, ds, .run, dfd, ro⟩, cs, h⟩) : Good P E Q ⟨⟨fn, nt, tm, .inLoop b :: k, ds, .run, dfd, ro⟩, cs, h⟩ := g_step L g
theorem g_scope {b : CC} (g : Good P E Q ⟨⟨fn, nt, tm, .code b :: .inScope b :: k, ds, .run, dfd, ro⟩, cs, h⟩) : Good P E Q ⟨⟨fn, nt, tm, .code (.scope b) :: k, ds, .run, dfd, ro⟩, cs, h⟩ := g_step L g
theorem g_inBlock {id : Nat} (g : Good P E Q ⟨⟨fn, nt, tm, k, ds, .run, dfd, ro⟩, cs, h⟩) : Good P E Q ⟨⟨fn, nt, tm, .inBlock id :: k, ds, .run, dfd, ro⟩, cs, h⟩ := g_step L g
theorem g_inScope {b : CC} (g : Good P E Q ⟨⟨fn, nt, tm, k, ds, .run, dfd, ro⟩, cs, h⟩) : Good P E Q ⟨⟨fn, nt, tm, .inScope b :: k, ds, .run, dfd, ro⟩, cs, h⟩ := g_step L g
theorem g_exit {id : Nat} {k' : List AItem} (e : Ev.exitTo id k = some k') (g : Good P E Q ⟨⟨fn, nt, tm, k', ds, .run, dfd, ro⟩, cs, h⟩) : Good P E Q ⟨⟨fn, nt, tm, .code (.exit id) :: k, ds, .run, dfd, ro⟩, cs, h⟩ := by
  refine g_step L ?_
  simp only [Ev.step, stepItem, stepCode, e]; exact g
theorem g_goto {l : Nat} {k' : List AItem} (e : Ev.gotoIn l k = some k') (g : Good P E Q ⟨⟨fn, nt, tm, k', ds, .run, dfd, ro⟩, cs, h⟩) : Good P E Q ⟨⟨fn, nt, tm, .code (.goto l) :: k, ds, .run, dfd, ro⟩, cs, h⟩ := by
  refine g_step L ?_
  simp only [Ev.step, stepItem, stepCode, e]; exact g

/-- A test: both ways. -/
theorem g_cond {x : O} {a b : CC} {t : Bool} (e : ev tm x = .bool t) (g1 : t = true → Good P E Q ⟨⟨fn, nt, tm, .code a :: k, ds, .run, dfd, ro⟩, cs, h⟩) (g2 : t = false → Good P E Q ⟨⟨fn, nt, tm, .code b :: k, ds, .run, dfd, ro⟩, cs, h⟩) :
    Good P E Q ⟨⟨fn, nt, tm, .code (.cond x a b) :: k, ds, .run, dfd, ro⟩, cs, h⟩ := by
  refine g_step L ?_
  show GO P E Q (match ev tm x with | .bool true => .one ⟨⟨fn, nt, tm, .code a :: k, ds, .run, dfd, ro⟩, cs, h⟩ | .bool false => .one ⟨⟨fn, nt, tm, .code b :: k, ds, .run, dfd, ro⟩, cs, h⟩ | _ => .fail)
  rw [e]
  cases t with
  | true => exact g1 rfl
  | false => exact g2 rfl

/-! the operations of a region in order -/
omit L in
/-- They run. -/
def GOps (P : Program) (E : Env) (F : T CFn) (K : T (List AV × AV)) (Q : Nat → AV → Prop) (l : List CI) (k : List AItem) (fn nt : Nat) (tm : T AV) (ds : List ADef) (dfd : Bool) (ro : Option Nat) (cs : List AFr) (h : H) : Prop :=
  GO P E Q (goOps F K (opsL l tm h) k fn nt ds dfd ro cs)

theorem g_opsI {l : List CI} (g : GOps P E F K Q l k fn nt tm ds dfd ro cs h) : Good P E Q ⟨⟨fn, nt, tm, .ops l :: k, ds, .run, dfd, ro⟩, cs, h⟩ := g_step L g

omit L in
theorem o_call {dst : Option Nat} {gd : Option (Nat × Bool)} {op : COp} {r : List CI} {f : AFn} {args : List AV} (hw : wanted tm gd = some true) (hx : exec op h tm = .call f args)
    (g : GO P E Q (doCall F K f args false ⟨fn, nt, tm, .ops (⟨dst, gd, op⟩ :: r) :: k, ds, .run, dfd, ro⟩ cs h)) :
    GOps P E F K Q (⟨dst, gd, op⟩ :: r) k fn nt tm ds dfd ro cs h := by
  unfold GOps
  simp only [opsL, hw, hx]
  exact g

omit L in
theorem o_dfr {dst : Option Nat} {gd : Option (Nat × Bool)} {op : COp} {r : List CI} {f : Nat} {args : List AV} (hw : wanted tm gd = some true) (hx : exec op h tm = .dfr f args)
    (g : Good P E Q ⟨⟨fn, nt, put tm dst (.tup []), .ops r :: k, .call f args :: ds, .run, dfd, none⟩, cs, h⟩) :
    GOps P E F K Q (⟨dst, gd, op⟩ :: r) k fn nt tm ds dfd none cs h := by
  unfold GOps
  simp only [opsL, hw, hx]
  exact g

omit L in
theorem o_pan {dst : Option Nat} {gd : Option (Nat × Bool)} {op : COp} {r : List CI} {v : AV} (hw : wanted tm gd = some true) (hx : exec op h tm = .pan v)
    (g : Good P E Q ⟨⟨fn, nt, tm, .ops (⟨dst, gd, op⟩ :: r) :: k, ds, .panicking [(v, false)], dfd, ro⟩, cs, h⟩) :
    GOps P E F K Q (⟨dst, gd, op⟩ :: r) k fn nt tm ds dfd ro cs h := by
  unfold GOps
  simp only [opsL, hw, hx]
  exact g

/-! calls and returns -/
theorem g_enter {f : Nat} {g : CFn} {args : List AV} {x : AFr} (hf : T.get F f = some g) (hm : memo K f args = none) (hn : Nat.ble args.length g.ntmps = true)
    (h1 : Good P E Q ⟨⟨f, g.ntmps, ofL 0 .leaf args, [.code g.body], [], .run, false, none⟩, x :: cs, h⟩) : GO P E Q (doCall F K (.func f) args false x cs h) := by
  simp only [doCall, hf, memoD, hm, hn]
  exact h1

/-- The results, given to the frame beneath. -/
theorem g_unwind {g : CFn} {l : List AV} {x : AFr} (hf : T.get F fn = some g) (hr : results tm h g.results = some l) (h1 : GO P E Q (finish (single l) cs h x)) :
    Good P E Q ⟨⟨fn, nt, tm, todo, [], .returning, false, none⟩, x :: cs, h⟩ := by
  refine g_step L ?_
  show GO P E Q (match T.get F fn with | none => .fail | some g => match results tm h g.results with | some l => Ev.doReturn fn false (single l) (x :: cs) h | none => .fail)
  rw [hf]; simp only [hr]
  exact h1

theorem g_ret {g : CFn} {l : List AV} {x : AFr} (hf : T.get F fn = some g) (hr : results tm h g.results = some l) (h1 : GO P E Q (finish (single l) cs h x)) :
    Good P E Q ⟨⟨fn, nt, tm, .code .ret :: k, [], .run, false, none⟩, x :: cs, h⟩ :=
  g_step L (show Good P E Q ⟨⟨fn, nt, tm, .code .ret :: k, [], .returning, false, none⟩, x :: cs, h⟩ from g_unwind L hf hr h1)

theorem g_end {g : CFn} {l : List AV} {x : AFr} (hf : T.get F fn = some g) (hr : results tm h g.results = some l) (h1 : GO P E Q (finish (single l) cs h x)) :
    Good P E Q ⟨⟨fn, nt, tm, [], [], .run, false, none⟩, x :: cs, h⟩ :=
  g_step L (show Good P E Q ⟨⟨fn, nt, tm, [], [], .returning, false, none⟩, x :: cs, h⟩ from g_unwind L hf hr h1)

/-! regions that draw their order -/
omit L in
/-- Operations that need no frame, and what follows. -/
def GPure (P : Program) (E : Env) (Q : Nat → AV → Prop) (pre chk : List DI) (l : List Ph) (k : List AItem) (fn nt : Nat) (tm : T AV) (ds : List ADef) (dfd : Bool) (ro : Option Nat) (cs : List AFr) (h : H) : Prop :=
  GO P E Q (onward pre chk l k fn nt tm ds dfd ro cs h)

omit L in
theorem p_val {ci : CI} {nm : List Nat} {pre chk : List DI} {l : List Ph} {v : AV} (hw : wanted (only tm nm) ci.guard = some true) (hx : exec ci.op h (only tm nm) = .val v h')
    (g : GPure P E Q pre chk l k fn nt (put tm ci.dst v) ds dfd ro cs h') : GPure P E Q (⟨ci, nm⟩ :: pre) chk l k fn nt tm ds dfd ro cs h := by
  unfold GPure onward at g ⊢
  simp only [pures, hw, hx]
  exact g
omit L in
theorem p_skip {ci : CI} {nm : List Nat} {pre chk : List DI} {l : List Ph} (hw : wanted (only tm nm) ci.guard = some false)
    (g : GPure P E Q pre chk l k fn nt (put tm ci.dst (.tup [])) ds dfd ro cs h) : GPure P E Q (⟨ci, nm⟩ :: pre) chk l k fn nt tm ds dfd ro cs h := by
  unfold GPure onward at g ⊢
  simp only [pures, hw]
  exact g
omit L in
theorem p_nil {chk : List DI} {l : List Ph} (hc : checks chk tm h = true) (g : Good P E Q ⟨⟨fn, nt, tm, (match l with | [] => k | p :: r => .drawn p r :: k), ds, .run, dfd, ro⟩, cs, h⟩) :
    GPure P E Q [] chk l k fn nt tm ds dfd ro cs h := by
  unfold GPure onward
  simp only [pures, hc]
  cases l <;> exact g

theorem g_drawn {pre chk : List DI} {l : List Ph} (g : GPure P E Q pre chk l k fn nt tm ds dfd ro cs h) : Good P E Q ⟨⟨fn, nt, tm, .code (.drawn pre chk l) :: k, ds, .run, dfd, ro⟩, cs, h⟩ := g_step L g

omit L in
/-- Every order that a region may draw. -/
theorem go_any {l : List Out} (h1 : ∀ o ∈ l, (∃ c, o = .one c)) (h2 : ∀ o ∈ l, GO P E Q o) : GO P E Q (anyOf l) := by
  rcases anyOf_mem (l := l) rfl with e | ⟨xs, e, g⟩
  · exfalso
    have : ∀ l : List Out, (∀ o ∈ l, ∃ c, o = .one c) → anyOf l ≠ .fail := by
      intro l
      induction l with
      | nil => intro _ h; cases h
      | cons o l ih =>
        intro h h'
        obtain ⟨c, rfl⟩ := h o (List.mem_cons_self ..)
        simp only [anyOf] at h'
        rcases anyOf_mem (l := l) rfl with e | ⟨xs, e, _⟩
        · exact ih (fun o ho => h o (List.mem_cons_of_mem _ ho)) e
        · rw [e] at h'; cases h'
    exact this l h1 e
  · rw [e]
    have : ∀ (l : List Out) (xs : List Conf), anyOf l = .many xs → (∀ o ∈ l, GO P E Q o) → ∀ c ∈ xs, Good P E Q c := by
      intro l
      induction l with
      | nil => intro xs h _ c hc; cases h; cases hc
      | cons o l ih =>
        intro xs h hg c hc
        simp only [anyOf] at h
        cases o with
        | one d =>
          simp only at h
          cases hl : anyOf l with
          | many ys =>
            rw [hl] at h
            cases h
            rcases List.mem_cons.1 hc with e | hc
            · subst e; exact hg _ (List.mem_cons_self ..)
            · exact ih ys hl (fun o ho => hg o (List.mem_cons_of_mem _ ho)) c hc
          | _ => rw [hl] at h; cases h
        | _ => cases h
    exact fun c hc => this l xs e h2 c hc
theorem g_alts {l : List Alt} (g : ∀ a ∈ l, GPure P E Q a.pre a.chk a.l k fn nt tm ds dfd ro cs h) : Good P E Q ⟨⟨fn, nt, tm, .code (.alts l) :: k, ds, .run, dfd, ro⟩, cs, h⟩ := by
  refine g_step L (show GO P E Q (anyOf (l.map fun a => onward a.pre a.chk a.l k fn nt tm ds dfd ro cs h)) from ?_)
  refine go_any (fun o ho => ?_) (fun o ho => ?_)
  · obtain ⟨a, ha, rfl⟩ := List.mem_map.1 ho
    rcases onward_out a.pre a.chk a.l k fn nt tm ds dfd ro cs h with e | e
    · have := g a ha
      unfold GPure at this
      rw [e] at this; exact this.elim
    · exact e
  · obtain ⟨a, ha, rfl⟩ := List.mem_map.1 ho
    exact g a ha

/-- An effect of such a region. -/
theorem e_val {dst : Option Nat} {gd : Option (Nat × Bool)} {op : COp} {nm : List Nat} {pre chk : List DI} {l : List Ph} {v : AV} (hw : wanted (only tm nm) gd = some true) (hx : exec op h (only tm nm) = .val v h')
    (g : GPure P E Q pre chk l k fn nt (put tm dst v) ds dfd ro cs h') : Good P E Q ⟨⟨fn, nt, tm, .drawn ⟨⟨⟨dst, gd, op⟩, nm⟩, pre, chk⟩ l :: k, ds, .run, dfd, ro⟩, cs, h⟩ := by
  refine g_step L ?_
  simp only [Ev.step, stepItem, hw, hx]
  exact g
theorem e_skip {dst : Option Nat} {gd : Option (Nat × Bool)} {op : COp} {nm : List Nat} {pre chk : List DI} {l : List Ph} (hw : wanted (only tm nm) gd = some false)
    (g : GPure P E Q pre chk l k fn nt (put tm dst (.tup [])) ds dfd ro cs h) : Good P E Q ⟨⟨fn, nt, tm, .drawn ⟨⟨⟨dst, gd, op⟩, nm⟩, pre, chk⟩ l :: k, ds, .run, dfd, ro⟩, cs, h⟩ := by
  refine g_step L ?_
  simp only [Ev.step, stepItem, hw]
  exact g
theorem e_call {dst : Option Nat} {gd : Option (Nat × Bool)} {op : COp} {nm : List Nat} {pre chk : List DI} {l : List Ph} {f : AFn} {args : List AV} (hw : wanted (only tm nm) gd = some true) (hx : exec op h (only tm nm) = .call f args)
    (g : GO P E Q (doCall F K f args false ⟨fn, nt, tm, .drawn ⟨⟨⟨dst, gd, op⟩, nm⟩, pre, chk⟩ l :: k, ds, .run, dfd, ro⟩ cs h)) : Good P E Q ⟨⟨fn, nt, tm, .drawn ⟨⟨⟨dst, gd, op⟩, nm⟩, pre, chk⟩ l :: k, ds, .run, dfd, ro⟩, cs, h⟩ := by
  refine g_step L ?_
  simp only [Ev.step, stepItem, hw, hx]
  exact g
omit L in
theorem fin_drawn {dst : Option Nat} {gd : Option (Nat × Bool)} {op : COp} {nm : List Nat} {pre chk : List DI} {l : List Ph} {v : AV} (hb : op ≠ .bad) (g : GPure P E Q pre chk l k fn nt (put tm dst v) ds dfd ro cs h) :
    GO P E Q (finish v cs h ⟨fn, nt, tm, .drawn ⟨⟨⟨dst, gd, op⟩, nm⟩, pre, chk⟩ l :: k, ds, .run, dfd, ro⟩) := by
  cases op <;> first | exact absurd rfl hb | exact g
end
end Go.Ev

/- A logic over the abstract machine: what single operations give. -/
namespace Go.Ev

/-! numbers -/
theorem wr_in (k : IntKind) {a : Int} (h1 : k.min ≤ a) (h2 : a ≤ k.max) : wr k a = a := by
  rw [wr_eq]
  cases k <;> simp only [IntKind.min, IntKind.max, IntKind.signed, IntKind.bits, IntKind.wrap] at * <;> simp at * <;> (try split) <;> omega

theorem wr_i64 {a : Int} (h1 : -9223372036854775808 ≤ a) (h2 : a ≤ 9223372036854775807) : wr .i64 a = a := wr_in .i64 (by simpa [IntKind.min, IntKind.signed, IntKind.bits] using h1) (by simpa [IntKind.max, IntKind.signed, IntKind.bits] using h2)
section
variable {l : List (Nat × Option AV)} {h : H} {x y z : O} {v : AV} {b o : Nat}

theorem x_mv (e : evL l x = v) : exec (.mv x) h (tms l) = .val v h := by simp only [exec, ev_tms, e]
theorem x_nilc (e : evL l x = .ptr b o) : exec (.nilc x) h (tms l) = .val (.ptr b o) h := by simp only [exec, ev_tms, e]
theorem x_faddr {off q : Nat} (e : evL l x = .ptr b o) (hq : Nat.add o off = q) : exec (.faddr x off) h (tms l) = .val (.ptr b q) h := by simp only [exec, ev_tms, e, hq]
theorem x_load1 {c : List AV} (e : evL l x = .ptr b o) (hb : H.get h b = some (cl c)) (hv : c[o]? = some v) : exec (.load1 x) h (tms l) = .val v h := by
  have hlt : o < c.length := (List.getElem?_eq_some_iff.1 hv).1
  have : Nat.ble (Nat.succ o) c.length = true := by rw [Nat.ble_eq]; exact hlt
  simp only [exec, ev_tms, e, hb, cl, this, vo, cl_get, hv]
theorem x_iaddrS {k : IntKind} {i len cap size q : Nat} (e : evL l x = .slc b o len cap) (e1 : evL l y = .int k (i : Nat)) (hi : i < len) (hq : Nat.add o (Nat.mul i size) = q) : exec (.iaddrS size x y) h (tms l) = .val (.ptr b q) h := by
  have : Nat.ble (Nat.succ i) len = true := by rw [Nat.ble_eq]; exact hi
  have e1' : evL l y = .int k (Int.ofNat i) := e1
  simp only [exec, ev_tms, e, e1', this, hq]
theorem x_lenS {len cap : Nat} (e : evL l x = .slc b o len cap) : exec (.lenS x) h (tms l) = .val (.int .i64 (len : Nat)) h := by
  simp only [exec, ev_tms, e]; rfl
theorem x_lenS0 (e : evL l x = .nils) : exec (.lenS x) h (tms l) = .val (.int .i64 0) h := by
  simp only [exec, ev_tms, e]; rfl
theorem x_not {t : Bool} (e : evL l x = .bool t) : exec (.un .not x) h (tms l) = .val (.bool (!t)) h := by
  simp only [exec, ev_tms, e]
theorem x_extract {i : Nat} {vs : List AV} (e : evL l x = .tup vs) (hv : vs[i]? = some v) : exec (.extract x i) h (tms l) = .val v h := by
  simp only [exec, ev_tms, e, hv, vo]
theorem x_conv {k j : IntKind} {a r : Int} (e : evL l x = .int j a) (hr : wr k a = r) : exec (.conv k x) h (tms l) = .val (.int k r) h := by
  simp only [exec, ev_tms, e, hr]

section
variable {k : IntKind} {a c r : Int} {sh : Sh} {q : Bool}
theorem x_add (e : evL l x = .int k a) (e1 : evL l y = .int k c) (hr : wr k (a + c) = r) : exec (.bin .add x y q sh) h (tms l) = .val (.int k r) h := by
  simp only [exec, ev_tms, e, e1, binV, binII, kEq_self]
  show vo h (some (.int k (wr k (a + c)))) = _
  rw [hr]; rfl
theorem x_sub (e : evL l x = .int k a) (e1 : evL l y = .int k c) (hr : wr k (a - c) = r) : exec (.bin .sub x y q sh) h (tms l) = .val (.int k r) h := by
  simp only [exec, ev_tms, e, e1, binV, binII, kEq_self]
  show vo h (some (.int k (wr k (a - c)))) = _
  rw [hr]; rfl
theorem x_mul (e : evL l x = .int k a) (e1 : evL l y = .int k c) (hr : wr k (a * c) = r) : exec (.bin .mul x y q sh) h (tms l) = .val (.int k r) h := by
  simp only [exec, ev_tms, e, e1, binV, binII, kEq_self]
  show vo h (some (.int k (wr k (a * c)))) = _
  rw [hr]; rfl
theorem x_lss {t : Bool} (e : evL l x = .int k a) (e1 : evL l y = .int k c) (ht : decide (a < c) = t) : exec (.bin .lss x y q sh) h (tms l) = .val (.bool t) h := by
  simp only [exec, ev_tms, e, e1, binV, binII, kEq_self, iLt_eq, vo, ht]
theorem x_leq {t : Bool} (e : evL l x = .int k a) (e1 : evL l y = .int k c) (ht : decide (a ≤ c) = t) : exec (.bin .leq x y q sh) h (tms l) = .val (.bool t) h := by
  simp only [exec, ev_tms, e, e1, binV, binII, kEq_self, iLt_eq, vo]
  rw [← ht]; congr 2
  by_cases hc : a ≤ c
  · rw [decide_eq_true hc, decide_eq_false (by omega)]; rfl
  · rw [decide_eq_false hc, decide_eq_true (by omega)]; rfl
theorem x_gtr {t : Bool} (e : evL l x = .int k a) (e1 : evL l y = .int k c) (ht : decide (c < a) = t) : exec (.bin .gtr x y q sh) h (tms l) = .val (.bool t) h := by
  simp only [exec, ev_tms, e, e1, binV, binII, kEq_self, iLt_eq, vo, ht]
theorem x_geq {t : Bool} (e : evL l x = .int k a) (e1 : evL l y = .int k c) (ht : decide (c ≤ a) = t) : exec (.bin .geq x y q sh) h (tms l) = .val (.bool t) h := by
  simp only [exec, ev_tms, e, e1, binV, binII, kEq_self, iLt_eq, vo]
  rw [← ht]; congr 2
  by_cases hc : c ≤ a
  · rw [decide_eq_true hc, decide_eq_false (by omega)]; rfl
  · rw [decide_eq_false hc, decide_eq_true (by omega)]; rfl
theorem x_eqI {t : Bool} (e : evL l x = .int k a) (e1 : evL l y = .int k c) (ht : decide (a = c) = t) : exec (.bin .eql x y q sh) h (tms l) = .val (.bool t) h := by
  simp only [exec, ev_tms, e, e1, binV, binII, kEq_self, iEq_eq, vo, ht]
theorem x_neI {t : Bool} (e : evL l x = .int k a) (e1 : evL l y = .int k c) (ht : decide (a ≠ c) = t) : exec (.bin .neq x y q sh) h (tms l) = .val (.bool t) h := by
  simp only [exec, ev_tms, e, e1, binV, binII, kEq_self, iEq_eq, vo]
  rw [← ht]; congr 2
  by_cases hc : a = c
  · rw [decide_eq_true hc, decide_eq_false (by omega)]; rfl
  · rw [decide_eq_false hc, decide_eq_true hc]; rfl
end

end

/-! the rules again, over lists -/
section
variable {P : Program} {E : Env} {F : T CFn} {K : T (List AV × AV)} {Q : Nat → AV → Prop}
variable {fn nt : Nat} {l : List (Nat × Option AV)} {todo k : List AItem} {ds : List ADef} {dfd : Bool} {ro : Option Nat} {cs : List AFr} {h h' : H}

variable (L : Lg P E F K)
include L
/-- A function is entered. -/
theorem g_in {f : Nat} {g : CFn} {args : List AV} {l0 : List (Nat × Option AV)} {x : AFr} (hf : T.get F f = some g) (hm : T.get K f = none) (hn : Nat.ble args.length g.ntmps = true) (hl : ofL 0 .leaf args = tms l0)
    (h1 : Good P E Q ⟨⟨f, g.ntmps, tms l0, [.code g.body], [], .run, false, none⟩, x :: cs, h⟩) : GO P E Q (doCall F K (.func f) args false x cs h) :=
  g_enter L hf (by simp only [memo, hm]) hn (hl ▸ h1)
end
end Go.Ev

/- A logic over the abstract machine: operations one at a time, with less known in between. -/
namespace Go.Ev

theorem IR.ops_inv {E : Env} {φ : Phi} {nt : Nat} {l : List CI} {i' : Item} (h : IR E φ nt (.ops l) i') : ∃ ops td, l = td.map (ciAt E nt ops) ∧ i' = .inRegion ops td := by
  cases h; exact ⟨_, _, rfl, rfl⟩

section
variable {P : Program} {E : Env} {F : T CFn} {K : T (List AV × AV)} {Q : Nat → AV → Prop}
variable (L : Lg P E F K)
variable {fn nt : Nat} {tm : T AV} {todo k : List AItem} {ds : List ADef} {dfd : Bool} {ro : Option Nat} {cs : List AFr} {h h' : H}
include L

/-- One operation that gives a value. -/
theorem g_opv {dst : Option Nat} {gd : Option (Nat × Bool)} {op : COp} {r : List CI} {v : AV} (hw : wanted tm gd = some true) (hx : exec op h tm = .val v h')
    (g : Good P E Q ⟨⟨fn, nt, put tm dst v, .ops r :: k, ds, .run, dfd, ro⟩, cs, h'⟩) : Good P E Q ⟨⟨fn, nt, tm, .ops (⟨dst, gd, op⟩ :: r) :: k, ds, .run, dfd, ro⟩, cs, h⟩ := by
  intro w0 cs0 m hA
  obtain ⟨φ, fr, cs1, w, rfl, hf, hfs, hr⟩ := hA.ex
  obtain ⟨f1, tmps, todo', defers, mode, kind, ro'⟩ := fr
  obtain ⟨h1, h2, h3, h4, h5, h6, h7⟩ := hf
  simp only at h1 h2 h3 h4 h5 h6 h7 hfs hr
  cases h5
  cases h6 with
  | plain ht hi =>
    cases hi with
    | @cons _ i' _ k' hi hk =>
      obtain ⟨ops, td, e1, rfl⟩ := hi.ops_inv
      cases td with
      | nil => cases e1
      | cons j rest =>
        rw [List.map_cons, List.cons.injEq] at e1
        obtain ⟨e1, rfl⟩ := e1
        rcases ciAt_R E nt ops j with hbad | ⟨o, ho, q1, q2, q3, q4⟩
        · rw [hbad] at e1; cases e1; cases hx
        · rw [← e1] at q1 q3 q4
          simp only at q1 q3 q4
          subst q1
          have hb : BR' φ fn dfd ro (⟨f1, tmps, .inRegion ops (j :: rest) :: k', defers, .run, kind, ro'⟩ : Frame) := ⟨h1, h2, h3⟩
          have hwc := wanted_R (a := ⟨tmps, defers⟩) ht q3 hw
          rw [q4] at hx
          have hnd : ∀ c, o.op ≠ .defer c := notDefer hx (by intro _ _ e; cases e) (by intro e; cases e)
          have hsim := sim_val hr.hr (TR.rho (a := ⟨tmps, defers⟩) ht) L.hE hx
          obtain ⟨φ1, v', w1, ⟨s1, _⟩, s2, s3, s4, s5⟩ := hsim
          have hstep := step_val (b := ⟨f1, tmps, .inRegion ops (j :: rest) :: k', defers, .run, kind, ro'⟩) (a := ⟨tmps, defers⟩) (cs := cs1 ++ cs0) (k := k') (rest := rest) ho hwc hnd s2
          have hd' : DRs φ1 ds ((⟨tmps, defers⟩ : Act).put o.dst v').defers := by
            have : ((⟨tmps, defers⟩ : Act).put o.dst v').defers = defers := by cases o.dst <;> rfl
            rw [this]; exact h4.mono s1
          have hA' : At E w0 cs0 ⟨⟨fn, nt, put tm o.dst v, .ops (rest.map (ciAt E nt ops)) :: k, ds, .run, dfd, ro⟩, cs, h'⟩ (lone ((⟨f1, tmps, .inRegion ops (j :: rest) :: k', defers, .run, kind, ro'⟩ : Frame).atR ((⟨tmps, defers⟩ : Act).put o.dst v') (.inRegion ops rest :: k')) (cs1 ++ cs0) w1) :=
            ⟨φ1, _, cs1, w1, rfl, (hb.mono s1).FR ((ht.mono s1).put' (a := ⟨tmps, defers⟩) q2 s3) hd' (.cons (.ops ops rest) (hk.mono s1)), hfs.mono s1, hr.to s4 s5⟩
          obtain ⟨fn', u, hh, fr', w', φ', u', q, s, t⟩ := g w0 cs0 _ hA'
          exact ⟨fn', u, hh, fr', w', φ', u', q, .head hstep s, t⟩

/-- An operation that is not wanted. -/
theorem g_ops_skip {dst : Option Nat} {gd : Option (Nat × Bool)} {op : COp} {r : List CI} (hw : wanted tm gd = some false)
    (g : Good P E Q ⟨⟨fn, nt, put tm dst (.tup []), .ops r :: k, ds, .run, dfd, ro⟩, cs, h⟩) : Good P E Q ⟨⟨fn, nt, tm, .ops (⟨dst, gd, op⟩ :: r) :: k, ds, .run, dfd, ro⟩, cs, h⟩ := by
  intro w0 cs0 m hA
  obtain ⟨φ, fr, cs1, w, rfl, hf, hfs, hr⟩ := hA.ex
  obtain ⟨f1, tmps, todo', defers, mode, kind, ro'⟩ := fr
  obtain ⟨h1, h2, h3, h4, h5, h6, h7⟩ := hf
  simp only at h1 h2 h3 h4 h5 h6 h7 hfs hr
  cases h5
  cases h6 with
  | plain ht hi =>
    cases hi with
    | @cons _ i' _ k' hi hk =>
      obtain ⟨ops, td, e1, rfl⟩ := hi.ops_inv
      cases td with
      | nil => cases e1
      | cons j rest =>
        rw [List.map_cons, List.cons.injEq] at e1
        obtain ⟨e1, rfl⟩ := e1
        have hb : BR' φ fn dfd ro (⟨f1, tmps, .inRegion ops (j :: rest) :: k', defers, .run, kind, ro'⟩ : Frame) := ⟨h1, h2, h3⟩
        rcases ciAt_R E nt ops j with hbad | ⟨o, ho, q1, q2, q3, q4⟩
        · rw [hbad] at e1; cases e1; cases hw
        · rw [← e1] at q1 q3 q4
          simp only at q1 q3 q4
          subst q1
          have hwc := wanted_R (a := ⟨tmps, defers⟩) ht q3 hw
          have hstep := stepR_op_skip (P := P) (b := ⟨f1, tmps, .inRegion ops (j :: rest) :: k', defers, .run, kind, ro'⟩) (a := ⟨tmps, defers⟩) (k := k') (cs := cs1 ++ cs0) (w := w) (ops := ops) (i := j) (rest := rest) (by rw [ho]; simpa using hwc)
          rw [ho] at hstep
          simp only [Option.bind_some] at hstep
          have hd' : DRs φ ds ((⟨tmps, defers⟩ : Act).put o.dst undef).defers := by
            have : ((⟨tmps, defers⟩ : Act).put o.dst undef).defers = defers := by cases o.dst <;> rfl
            rw [this]; exact h4
          have hA' : At E w0 cs0 ⟨⟨fn, nt, put tm o.dst (.tup []), .ops (rest.map (ciAt E nt ops)) :: k, ds, .run, dfd, ro⟩, cs, h⟩ (lone ((⟨f1, tmps, .inRegion ops (j :: rest) :: k', defers, .run, kind, ro'⟩ : Frame).atR ((⟨tmps, defers⟩ : Act).put o.dst undef) (.inRegion ops rest :: k')) (cs1 ++ cs0) w) :=
            ⟨φ, _, cs1, w, rfl, hb.FR (ht.put' (a := ⟨tmps, defers⟩) q2 (.tup .nil)) hd' (.cons (.ops ops rest) hk), hfs, hr⟩
          obtain ⟨fn', u, hh, fr', w', φ', u', q, s, t⟩ := g w0 cs0 _ hA'
          exact ⟨fn', u, hh, fr', w', φ', u', q, .head hstep s, t⟩

/-- A region in order begins. -/
theorem g_opsB {l : List CI} (g : Good P E Q ⟨⟨fn, nt, tm, .ops l :: k, ds, .run, dfd, ro⟩, cs, h⟩) : Good P E Q ⟨⟨fn, nt, tm, .code (.ops l) :: k, ds, .run, dfd, ro⟩, cs, h⟩ := by
  intro w0 cs0 m hA
  obtain ⟨φ, fr, cs1, w, rfl, hf, hfs, hr⟩ := hA.ex
  obtain ⟨f1, tmps, todo', defers, mode, kind, ro'⟩ := fr
  obtain ⟨h1, h2, h3, h4, h5, h6, h7⟩ := hf
  simp only at h1 h2 h3 h4 h5 h6 h7 hfs hr
  cases h5
  cases h6 with
  | plain ht hi =>
    cases hi with
    | @cons _ i' _ k' hi hk =>
      have hinv : ∀ {x : AItem}, IR E φ nt x i' → x = .code (.ops l) → ∃ id ops, i' = .code (.region id ops false) ∧ l = (List.range ops.size).map (ciAt E nt ops) := by
        intro x hx ex
        cases hx with
        | code c =>
          simp only [AItem.code.injEq] at ex
          cases c with
          | region id ops d =>
            cases d with
            | false =>
              simp only [compC, compRegion, CC.ops.injEq] at ex
              refine ⟨id, ops, rfl, ?_⟩
              rw [← ex]
              apply List.ext_getElem?
              intro i
              simp only [List.getElem?_map, Array.getElem?_toList]
              by_cases hi : i < ops.size
              · rw [List.getElem?_range hi, Array.getElem?_eq_getElem hi]; simp [ciAt, hi]
              · rw [Array.getElem?_eq_none (by omega), List.getElem?_eq_none (by simpa using hi)]; rfl
            | true =>
              simp only [compC, compRegion] at ex
              repeat' split at ex
              all_goals cases ex
          | rangeFunc f ps a b => simp only [compC] at ex; split at ex <;> cases ex
          | _ => cases ex
        | _ => cases ex
      obtain ⟨id, ops, rfl, rfl⟩ := hinv hi rfl
      have hb : BR' φ fn dfd ro (⟨f1, tmps, .code (.region id ops false) :: k', defers, .run, kind, ro'⟩ : Frame) := ⟨h1, h2, h3⟩
      have hstep := stepR_region (P := P) (b := ⟨f1, tmps, .code (.region id ops false) :: k', defers, .run, kind, ro'⟩) (a := ⟨tmps, defers⟩) (k := k') (cs := cs1 ++ cs0) (w := w) (ops := ops) (id := id)
      have hA' : At E w0 cs0 ⟨⟨fn, nt, tm, .ops ((List.range ops.size).map (ciAt E nt ops)) :: k, ds, .run, dfd, ro⟩, cs, h⟩ (lone ((⟨f1, tmps, .code (.region id ops false) :: k', defers, .run, kind, ro'⟩ : Frame).atR (⟨tmps, defers⟩ : Act) (.inRegion ops (List.range ops.size) :: k')) (cs1 ++ cs0) w) :=
        ⟨φ, _, cs1, w, rfl, hb.FR (a := ⟨tmps, defers⟩) ht h4 (.cons (.ops ops (List.range ops.size)) hk), hfs, hr⟩
      obtain ⟨fn', u, hh, fr', w', φ', u', q, s, t⟩ := g w0 cs0 _ hA'
      exact ⟨fn', u, hh, fr', w', φ', u', q, .head hstep s, t⟩

theorem g_opsE (g : Good P E Q ⟨⟨fn, nt, tm, k, ds, .run, dfd, ro⟩, cs, h⟩) : Good P E Q ⟨⟨fn, nt, tm, .ops [] :: k, ds, .run, dfd, ro⟩, cs, h⟩ := g_step L g
theorem g_opc {dst : Option Nat} {gd : Option (Nat × Bool)} {op : COp} {r : List CI} {f : AFn} {args : List AV} (hw : wanted tm gd = some true) (hx : exec op h tm = .call f args)
    (g : GO P E Q (doCall F K f args false ⟨fn, nt, tm, .ops (⟨dst, gd, op⟩ :: r) :: k, ds, .run, dfd, ro⟩ cs h)) : Good P E Q ⟨⟨fn, nt, tm, .ops (⟨dst, gd, op⟩ :: r) :: k, ds, .run, dfd, ro⟩, cs, h⟩ :=
  g_opsI L (o_call hw hx g)
theorem fin_op {dst : Option Nat} {gd : Option (Nat × Bool)} {op : COp} {r : List CI} {v : AV} (hb : op ≠ .bad) (g : Good P E Q ⟨⟨fn, nt, put tm dst v, .ops r :: k, ds, .run, dfd, ro⟩, cs, h⟩) :
    GO P E Q (finish v cs h ⟨fn, nt, tm, .ops (⟨dst, gd, op⟩ :: r) :: k, ds, .run, dfd, ro⟩) := by
  cases op <;> first | exact absurd rfl hb | exact g
end
end Go.Ev

/- A logic over the abstract machine: what single operations give, 2: memory. -/
namespace Go.Ev

/-! operands in lists -/
def evsL (l : List (Nat × Option AV)) : List O → List AV
  | [] => []
  | x :: r => evL l x :: evsL l r
theorem evs_tms (l : List (Nat × Option AV)) : ∀ xs : List O, evs (tms l) xs = evsL l xs
  | [] => rfl
  | x :: r => by simp only [evs, evsL, ev_tms, evs_tms l r]
def fillL (l : List (Nat × Option AV)) : List (Nat × Nat × O) → List AV → Option (List AV)
  | [], cells => some cells
  | p :: r, cells =>
    match cellsV (evL l p.2.2) with
    | some x => (match Nat.beq x.length p.2.1, Nat.ble (Nat.add p.1 p.2.1) cells.length with
      | true, true => fillL l r (setL x cells p.1)
      | _, _ => none)
    | none => none
theorem fill_tms (l : List (Nat × Option AV)) : ∀ (ps : List (Nat × Nat × O)) (cells : List AV), fill (tms l) ps cells = fillL l ps cells
  | [], cells => rfl
  | p :: r, cells => by
    simp only [fill, fillL, ev_tms]
    cases cellsV (evL l p.2.2) with
    | none => rfl
    | some x =>
      simp only [fill_tms l r]
      generalize Nat.beq x.length p.2.1 = q1
      generalize Nat.ble (Nat.add p.1 p.2.1) cells.length = q2
      cases q1 <;> cases q2 <;> rfl

section
variable {l : List (Nat × Option AV)} {lh : List (Nat × Option Blk)} {n : Nat} {t : T Blk} {h : H} {x y z : O} {v : AV} {b o : Nat} {c lv : List AV}

theorem loadN_cl {c : List AV} : ∀ {k o : Nat}, o + k ≤ c.length → loadN (ofL 0 (.leaf : T AV) c) k o = some ((c.drop o).take k)
  | 0, o, h => by simp [loadN]
  | k + 1, o, h => by
    have hlt : o < c.length := by omega
    simp only [loadN, cl_get, List.getElem?_eq_getElem hlt]
    rw [show Nat.succ o = o + 1 from rfl, loadN_cl (k := k) (o := o + 1) (by omega)]
    simp only [Option.some.injEq]
    rw [List.drop_eq_getElem_cons hlt, List.take_succ_cons]

theorem cellsAt_cl {k : Nat} (hb : H.get h b = some (cl c)) (hk : o + k ≤ c.length) : cellsAt h b o k = some ((c.drop o).take k) := by
  cases k with
  | zero => simp [cellsAt]
  | succ k =>
    have : Nat.ble (Nat.add o (k + 1)) c.length = true := by rw [Nat.ble_eq]; exact hk
    simp only [cellsAt, hb, cl, this]
    exact loadN_cl hk

theorem x_loadN {k : Nat} (e : evL l x = .ptr b o) (hb : H.get h b = some (cl c)) (hk : o + k ≤ c.length) (hv : (c.drop o).take k = lv) : exec (.loadN k x) h (tms l) = .val (.agg lv) h := by
  simp only [exec, ev_tms, e, cellsAt_cl hb hk, hv]
theorem x_alloc : exec (.alloc c) (hp n t lh) (tms l) = .val (.ptr n 0) (hp (n + 1) t ((n, some (cl c)) :: lh)) := rfl
theorem x_box {k : Nat} (e : evL l x = v) (hc : cellsV v = some lv) (hk : Nat.beq lv.length k = true) : exec (.box k x) (hp n t lh) (tms l) = .val (.ptr n 0) (hp (n + 1) t ((n, some (cl lv)) :: lh)) := by
  simp only [exec, ev_tms, e, hc, hk]; rfl
theorem x_build {ps : List (Nat × Nat × O)} (hf : fillL l ps c = some lv) : exec (.build c ps) h (tms l) = .val (.agg lv) h := by
  simp only [exec, fill_tms, hf]
theorem x_bslice {k : Nat} {ps : List (Nat × Nat × O)} (hf : fillL l ps c = some lv) : exec (.bslice k c ps) (hp n t lh) (tms l) = .val (.slc n 0 k k) (hp (n + 1) t ((n, some (cl lv)) :: lh)) := by
  simp only [exec, fill_tms, hf]; rfl
theorem x_mkfn {f : AFn} {a cp : List O} {va vc : List AV} (ha : evsL l a = va) (hc : evsL l cp = vc) : exec (.mkfn f a cp) h (tms l) = .val (.fn f va vc) h := by
  simp only [exec, evs_tms, ha, hc]
theorem x_call {f : AFn} {a : List O} {va first cp r : List AV} (e : evL l x = .fn f first cp) (ha : evsL l a = va) (hr : List.append first (List.append va cp) = r) : exec (.callv x a) h (tms l) = .call f r := by
  simp only [exec, ev_tms, e, evs_tms, ha, hr]
theorem x_mkif {k : Nat} (e : evL l x = v) : exec (.mkif k x) h (tms l) = .val (.ifc k v) h := by simp only [exec, ev_tms, e]
theorem x_tassert {k : Nat} {z : AV} (e : evL l x = .ifc k v) : exec (.tassert x k z false) h (tms l) = .val v h := by
  have : Nat.beq k k = true := Nat.beq_refl k
  simp only [exec, ev_tms, e, this]
theorem x_field1 {vs : List AV} {off : Nat} (e : evL l x = .agg vs) (hv : vs[off]? = some v) : exec (.field1 x off) h (tms l) = .val v h := by simp only [exec, ev_tms, e, hv, vo]
theorem x_fieldN {vs : List AV} {off k : Nat} (e : evL l x = .agg vs) (hv : (vs.drop off).take k = lv) : exec (.fieldN x off k) h (tms l) = .val (.agg lv) h := by simp only [exec, ev_tms, e, hv]
theorem x_iaddrA {k : IntKind} {i len size q : Nat} (e : evL l x = .ptr b o) (e1 : evL l y = .int k (i : Nat)) (hi : i < len) (hq : Nat.add o (Nat.mul i size) = q) : exec (.iaddrA len size x y) h (tms l) = .val (.ptr b q) h := by
  have : Nat.ble (Nat.succ i) len = true := by rw [Nat.ble_eq]; exact hi
  have e1' : evL l y = .int k (Int.ofNat i) := e1
  simp only [exec, ev_tms, e, e1', this, hq]
theorem x_mkslice {k j : IntKind} {ln cn bytes : Nat} (e : evL l x = .int k (ln : Nat)) (e1 : evL l y = .int j (cn : Nat)) (h1 : ln ≤ cn) (h2 : cn * bytes ≤ 281474976710656) (h3 : cn ≤ 281474976710656) (hv : rl c cn = lv) :
    exec (.mkslice bytes c x y) (hp n t lh) (tms l) = .val (.slc n 0 ln cn) (hp (n + 1) t ((n, some (cl lv)) :: lh)) := by
  have e' : evL l x = .int k (Int.ofNat ln) := e
  have e1' : evL l y = .int j (Int.ofNat cn) := e1
  have g1 : Nat.ble ln cn = true := by rw [Nat.ble_eq]; exact h1
  have g2 : Nat.ble (Nat.mul cn bytes) 281474976710656 = true := by rw [Nat.ble_eq]; exact h2
  have g3 : Nat.ble cn 281474976710656 = true := by rw [Nat.ble_eq]; exact h3
  simp only [exec, ev_tms, e', e1', g1, g2, g3, hv]; rfl
theorem x_mkmap : exec .mkmap (hp n t lh) (tms l) = .val (.map n) (hp (n + 1) t ((n, some (.map [] 0)) :: lh)) := rfl
theorem x_max {k : IntKind} {a d r : Int} {mx : Bool} (e : evL l x = .int k a) (e1 : evL l y = .int k d) (hr : (match mx with | true => max a d | false => min a d) = r) : exec (.maxmin mx x y) h (tms l) = .val (.int k r) h := by
  simp only [exec, ev_tms, e, e1, maxminV, kEq_self, vo, iLt_eq]
  subst hr
  cases mx with
  | true =>
    by_cases hc : a < d
    · simp only [decide_eq_true hc]; rw [Int.max_eq_right (by omega)]
    · simp only [decide_eq_false hc]; rw [Int.max_eq_left (by omega)]
  | false =>
    by_cases hc : d < a
    · simp only [decide_eq_true hc]; rw [Int.min_eq_right (by omega)]
    · simp only [decide_eq_false hc]; rw [Int.min_eq_left (by omega)]
end

/-! stores -/
theorem ovl_get_cl (c lv : List AV) (o : Nat) (hk : o + lv.length ≤ c.length) (i : Nat) : T.get (storeN o (ofL 0 .leaf c) lv) i = (setL lv c o)[i]? := by
  rw [storeN_get, cl_get]
  exact (setL_get lv c o i hk).symm
theorem setL_len : ∀ (xs l : List AV) (o : Nat), o + xs.length ≤ l.length → (setL xs l o).length = l.length
  | xs, l, 0, h => by
    have : setL xs l 0 = xs ++ l.drop xs.length := by cases l <;> rfl
    rw [this]; simp; omega
  | xs, [], o + 1, h => by simp at h
  | xs, a :: l, o + 1, h => by
    simp only [setL, List.length_cons] at h ⊢
    rw [setL_len xs l o (by omega)]

theorem setL_one (c : List AV) (v : AV) : ∀ (o : Nat), o < c.length → setL [v] c o = c.set o v := by
  intro o ho
  apply List.ext_getElem?
  intro i
  rw [setL_get [v] c o i (by simp; omega), List.getElem?_set]
  by_cases hi : o = i
  · subst hi; simp [ho]
  · rw [if_neg hi, if_neg (by simp; omega)]

/-- What a store leaves is more than is said of it. -/
theorem put_sub {n b o : Nat} {t : T Blk} {lh : List (Nat × Option Blk)} {c c' lv : List AV} (hp1 : allPlain lv = true) (hb : H.get (hp n t lh) b = some (cl c)) (hk : o + lv.length ≤ c.length) (hs : setL lv c o = c') :
    ∃ h', putBlk (hp n t lh) b o lv = some h' ∧ HSub (hp n t ((b, some (cl c')) :: lh)) h' := by
  cases lv with
  | nil =>
    refine ⟨_, rfl, Nat.le_refl _, fun i z hz => ?_⟩
    have hcc : c' = c := by rw [← hs]; apply List.ext_getElem?; intro i; rw [setL_get [] c o i (by simpa using hk)]; simp; omega
    subst hcc
    by_cases e : i = b
    · subst e; rw [get_eq] at hz; cases hz; exact ⟨_, hb, .same _⟩
    · rw [get_ne _ _ _ _ e] at hz; exact ⟨z, hz, .same z⟩
  | cons a lv =>
    have g1 : Nat.ble (Nat.add o (a :: lv).length) c.length = true := by rw [Nat.ble_eq]; exact hk
    refine ⟨H.set (hp n t lh) b (.cells false c.length (storeN o (ofL 0 .leaf c) (a :: lv))), ?_, Nat.le_refl _, fun i z hz => ?_⟩
    · simp only [putBlk, hb, cl, g1, hp1]
    · by_cases e : i = b
      · subst e
        rw [get_eq] at hz; cases hz
        refine ⟨_, by rw [H.get_set, if_pos rfl], ?_⟩
        unfold cl
        refine .cells (by rw [← hs, setL_len _ _ _ hk]; exact Nat.le_refl _) fun j u hj hu => ?_
        rw [cl_get] at hu
        rw [ovl_get_cl _ _ _ hk, hs]; exact hu
      · rw [get_ne _ _ _ _ e] at hz
        exact ⟨z, by rw [H.get_set, if_neg e]; exact hz, .same z⟩

section
variable {P : Program} {E : Env} {F : T CFn} {K : T (List AV × AV)} {Q : Nat → AV → Prop}
variable (L : Lg P E F K)
variable {fn nt : Nat} {l : List (Nat × Option AV)} {todo k : List AItem} {ds : List ADef} {dfd : Bool} {ro : Option Nat} {cs : List AFr} {n b o : Nat} {t : T Blk} {lh : List (Nat × Option Blk)} {r : List CI} {gd : Option (Nat × Bool)} {x y : O} {v : AV} {c c' lv : List AV}
include L

/-- A store, cell by cell. -/
theorem g_store {m : Nat} (hw : wanted (tms l) gd = some true) (e : evL l x = .ptr b o) (e1 : evL l y = v) (hc : cellsV v = some lv) (hm : Nat.beq lv.length m = true) (hp1 : allPlain lv = true)
    (hb : H.get (hp n t lh) b = some (cl c)) (hk : o + lv.length ≤ c.length) (hs : setL lv c o = c')
    (g : Good P E Q ⟨⟨fn, nt, tms l, .ops r :: k, ds, .run, dfd, ro⟩, cs, hp n t ((b, some (cl c')) :: lh)⟩) :
    Good P E Q ⟨⟨fn, nt, tms l, .ops (⟨none, gd, .store m x y⟩ :: r) :: k, ds, .run, dfd, ro⟩, cs, hp n t lh⟩ := by
  have hput := put_sub (n := n) (t := t) (lh := lh) hp1 hb hk hs
  obtain ⟨h', q1, q2⟩ := hput
  have hx : exec (.store m x y) (hp n t lh) (tms l) = .val .unk h' := by simp only [exec, ev_tms, e, e1, hc, hm, q1]
  exact g_opv L (dst := none) hw hx (good_sub (.refl _) q2 g)

/-- Less is known of the temporaries. -/
theorem g_tm {tm tm' : T AV} {h : H} {mode : AMode} (ht : TSub tm' tm) (g : Good P E Q ⟨⟨fn, nt, tm', todo, ds, mode, dfd, ro⟩, cs, h⟩) : Good P E Q ⟨⟨fn, nt, tm, todo, ds, mode, dfd, ro⟩, cs, h⟩ := good_sub ht (.refl _) g
theorem g_hp {tm : T AV} {h h' : H} {mode : AMode} (hh : HSub h' h) (g : Good P E Q ⟨⟨fn, nt, tm, todo, ds, mode, dfd, ro⟩, cs, h'⟩) : Good P E Q ⟨⟨fn, nt, tm, todo, ds, mode, dfd, ro⟩, cs, h⟩ := good_sub (.refl _) hh g

theorem o1 {d : Nat} {op : COp} {h h' : H} (hw : wanted (tms l) gd = some true) (hx : exec op h (tms l) = .val v h') (g : Good P E Q ⟨⟨fn, nt, tms ((d, some v) :: l), .ops r :: k, ds, .run, dfd, ro⟩, cs, h'⟩) :
    Good P E Q ⟨⟨fn, nt, tms l, .ops (⟨some d, gd, op⟩ :: r) :: k, ds, .run, dfd, ro⟩, cs, h⟩ := g_opv L hw hx g
theorem os {d : Nat} {op : COp} {h : H} (hw : wanted (tms l) gd = some false) (g : Good P E Q ⟨⟨fn, nt, tms ((d, some (.tup [])) :: l), .ops r :: k, ds, .run, dfd, ro⟩, cs, h⟩) :
    Good P E Q ⟨⟨fn, nt, tms l, .ops (⟨some d, gd, op⟩ :: r) :: k, ds, .run, dfd, ro⟩, cs, h⟩ := g_ops_skip L hw g
theorem fi {d : Nat} {op : COp} {h : H} (hb : op ≠ .bad) (g : Good P E Q ⟨⟨fn, nt, tms ((d, some v) :: l), .ops r :: k, ds, .run, dfd, ro⟩, cs, h⟩) :
    GO P E Q (finish v cs h ⟨fn, nt, tms l, .ops (⟨some d, gd, op⟩ :: r) :: k, ds, .run, dfd, ro⟩) := fin_op L hb g
end

/-! less is known, said of lists -/
theorem tsub_nil {tm : T AV} : TSub (tms []) tm := fun t v h => by rw [ov_look] at h; cases h
theorem tsub_cons {l l' : List (Nat × Option AV)} {k : Nat} {v : AV} (h : look l k = some v) (hs : TSub (tms l') (tms l)) : TSub (tms ((k, some v) :: l')) (tms l) := by
  intro t u hu
  rw [ov_get] at hu
  by_cases e : t = k
  · subst e; rw [if_pos rfl] at hu; cases hu; rw [ov_look]; exact h
  · rw [if_neg e] at hu; exact hs t u hu

section
variable {P : Program} {E : Env} {F : T CFn} {K : T (List AV × AV)} {Q : Nat → AV → Prop}
variable (L : Lg P E F K)
variable {fn nt : Nat} {l : List (Nat × Option AV)} {todo k : List AItem} {ds : List ADef} {dfd : Bool} {ro : Option Nat} {cs : List AFr} {h : H} {x : O} {a b : CC} {t : Bool}
include L
theorem gc (e : evL l x = .bool t) (g1 : t = true → Good P E Q ⟨⟨fn, nt, tms l, .code a :: k, ds, .run, dfd, ro⟩, cs, h⟩) (g2 : t = false → Good P E Q ⟨⟨fn, nt, tms l, .code b :: k, ds, .run, dfd, ro⟩, cs, h⟩) :
    Good P E Q ⟨⟨fn, nt, tms l, .code (.cond x a b) :: k, ds, .run, dfd, ro⟩, cs, h⟩ := g_cond L ((ev_tms l x).trans e) g1 g2
theorem gcT (e : evL l x = .bool true) (g1 : Good P E Q ⟨⟨fn, nt, tms l, .code a :: k, ds, .run, dfd, ro⟩, cs, h⟩) :
    Good P E Q ⟨⟨fn, nt, tms l, .code (.cond x a b) :: k, ds, .run, dfd, ro⟩, cs, h⟩ := gc L e (fun _ => g1) (fun h => by cases h)
theorem gcF (e : evL l x = .bool false) (g1 : Good P E Q ⟨⟨fn, nt, tms l, .code b :: k, ds, .run, dfd, ro⟩, cs, h⟩) :
    Good P E Q ⟨⟨fn, nt, tms l, .code (.cond x a b) :: k, ds, .run, dfd, ro⟩, cs, h⟩ := gc L e (fun h => by cases h) (fun _ => g1)
end
theorem cvb {f : O} {a : List O} : COp.callv f a ≠ .bad := by intro h; cases h
end Go.Ev

/- A logic over the abstract machine: bits; bytes. -/
namespace Go.Ev

theorem wr_mod {k : IntKind} (hs : k.signed = false) (a : Nat) : wr k (a : Nat) = ((a % pw k : Nat) : Int) := by
  rw [wr_eq, pw_eq]
  unfold IntKind.wrap
  have : ((a : Nat) : Int) % (2 ^ k.bits : Int) = ((a % 2 ^ k.bits : Nat) : Int) := by
    rw [Int.natCast_emod]; congr 1
  rw [this]
  simp only [hs, Bool.false_and, Bool.false_eq_true, if_false, false_and]

theorem toU_nat {k : IntKind} {a : Nat} (h : a < pw k) : toU k (a : Nat) = a := by
  show Nat.mod a (pw k) = a
  exact Nat.mod_eq_of_lt h

theorem wr_nat {k : IntKind} (hs : k.signed = false) {a : Nat} (h : a < pw k) : wr k (a : Nat) = (a : Nat) := by
  rw [wr_mod hs, Nat.mod_eq_of_lt h]

section
variable {l : List (Nat × Option AV)} {h : H} {x y : O} {k : IntKind} {a c r : Nat} {sh : Sh} {q : Bool}

theorem x_xor (hs : k.signed = false) (e : evL l x = .int k (a : Nat)) (e1 : evL l y = .int k (c : Nat)) (ha : a < pw k) (hc : c < pw k) (hx : (a ^^^ c) < pw k) (hr : a ^^^ c = r) : exec (.bin .xor x y q sh) h (tms l) = .val (.int k (r : Nat)) h := by
  simp only [exec, ev_tms, e, e1, binV, binII, kEq_self, vo, toU_nat ha, toU_nat hc]
  have : wr k (Int.ofNat (Nat.xor a c)) = (r : Nat) := by
    show wr k ((a ^^^ c : Nat) : Int) = _
    rw [wr_nat hs hx, hr]
  rw [this]
theorem x_shr {j : IntKind} {s : Nat} (e : evL l x = .int k (a : Nat)) (e1 : evL l y = .int j (s : Nat)) (hs : s ≤ bits k) (hr : a >>> s = r) : exec (.bin .shr x y q sh) h (tms l) = .val (.int k (r : Nat)) h := by
  have e1' : evL l y = .int j (Int.ofNat s) := e1
  simp only [exec, ev_tms, e, e1', binV, binII, vo]
  have h1 : minN s (bits k) = s := by rw [minN_eq]; exact Nat.min_eq_left hs
  have h2 : Int.fdiv (a : Nat) (Int.ofNat (Nat.pow 2 s)) = ((a >>> s : Nat) : Int) := by
    rw [Nat.shiftRight_eq_div_pow, Int.fdiv_eq_ediv_of_nonneg _ (by exact Int.natCast_nonneg _)]
    rfl
  rw [h1, h2, hr]
theorem x_convU {j : IntKind} {k' : IntKind} (hs : k'.signed = false) (e : evL l x = .int j (a : Nat)) (hr : a % pw k' = r) : exec (.conv k' x) h (tms l) = .val (.int k' (r : Nat)) h := by
  simp only [exec, ev_tms, e, wr_mod hs, hr]
theorem x_notU (hs : k.signed = false) (e : evL l x = .int k (a : Nat)) (ha : a < pw k) (hr : pw k - 1 - a = r) : exec (.un .xor x) h (tms l) = .val (.int k (r : Nat)) h := by
  simp only [exec, ev_tms, e, toU_nat ha]
  have : wr k (Int.ofNat (Nat.sub (Nat.sub (pw k) 1) a)) = (r : Nat) := by
    show wr k ((pw k - 1 - a : Nat) : Int) = _
    have hp : 0 < pw k := Nat.lt_of_le_of_lt (Nat.zero_le _) ha
    rw [wr_nat hs (by omega), hr]
  rw [this]
end

end Go.Ev

/- A logic over the abstract machine: single operations whose results are written out. -/
namespace Go.Ev

/-- An operand's value, written out. -/
def evO (l : List (Nat × Option AV)) (o : O) : Option AV := match o with
  | .t i => look l i
  | .c v => some v
theorem evO_L {l : List (Nat × Option AV)} {x : O} {v : AV} (e : evO l x = some v) : evL l x = v := by
  cases x with
  | t i => simp only [evO] at e; simp only [evL, e]
  | c u => simp only [evO, Option.some.injEq] at e; simp only [evL, e]
def evsO (l : List (Nat × Option AV)) : List O → Option (List AV)
  | [] => some []
  | x :: r => match evO l x, evsO l r with
    | some v, some vs => some (v :: vs)
    | _, _ => none
theorem evsO_L {l : List (Nat × Option AV)} : ∀ {xs : List O} {vs : List AV}, evsO l xs = some vs → evsL l xs = vs
  | [], vs, h => by simp only [evsO, Option.some.injEq] at h; simp only [evsL, h]
  | x :: r, vs, h => by
    simp only [evsO] at h
    cases e1 : evO l x with
    | none => rw [e1] at h; cases h
    | some v =>
      cases e2 : evsO l r with
      | none => rw [e1, e2] at h; cases h
      | some us =>
        rw [e1, e2] at h; simp only [Option.some.injEq] at h
        simp only [evsL, evO_L e1, evsO_L e2, h]
/-- Two rows, one behind the other. -/
def catO : List AV → List AV → Option (List AV)
  | [], c => some c
  | v :: r, c => match catO r c with
    | some x => some (v :: x)
    | none => none
theorem catO_eq : ∀ {a c r : List AV}, catO a c = some r → List.append a c = r
  | [], c, r, h => by simp only [catO, Option.some.injEq] at h; exact h
  | v :: a, c, r, h => by
    simp only [catO] at h
    cases e : catO a c with
    | none => rw [e] at h; cases h
    | some x => rw [e] at h; simp only [Option.some.injEq] at h; rw [← h, ← catO_eq e]; rfl
/-- A row's head is written over. -/
def ovO : List AV → List AV → Option (List AV)
  | [], c => some c
  | _ :: _, [] => none
  | v :: r, _ :: c => match ovO r c with
    | some x => some (v :: x)
    | none => none
def setO (lv : List AV) : List AV → Nat → Option (List AV)
  | c, 0 => ovO lv c
  | [], _ + 1 => none
  | a :: c, o + 1 => match setO lv c o with
    | some x => some (a :: x)
    | none => none
theorem ovO_eq : ∀ {lv c r : List AV}, ovO lv c = some r → lv.length ≤ c.length ∧ lv ++ c.drop lv.length = r
  | [], c, r, h => by simp only [ovO, Option.some.injEq] at h; simp [h]
  | _ :: _, [], r, h => by cases h
  | v :: lv, _ :: c, r, h => by
    simp only [ovO] at h
    cases e : ovO lv c with
    | none => rw [e] at h; cases h
    | some x =>
      rw [e] at h; simp only [Option.some.injEq] at h
      obtain ⟨h1, h2⟩ := ovO_eq e
      refine ⟨by simp only [List.length_cons]; omega, ?_⟩
      rw [← h, ← h2]; simp
theorem setO_eq {lv : List AV} : ∀ {c : List AV} {o : Nat} {r : List AV}, setO lv c o = some r → o + lv.length ≤ c.length ∧ setL lv c o = r
  | c, 0, r, h => by
    have h' : ovO lv c = some r := by cases c <;> exact h
    obtain ⟨h1, h2⟩ := ovO_eq h'
    refine ⟨by omega, ?_⟩
    have : setL lv c 0 = lv ++ c.drop lv.length := by cases c <;> rfl
    rw [this, h2]
  | [], o + 1, r, h => by cases h
  | a :: c, o + 1, r, h => by
    simp only [setO] at h
    cases e : setO lv c o with
    | none => rw [e] at h; cases h
    | some x =>
      rw [e] at h; simp only [Option.some.injEq] at h
      obtain ⟨h1, h2⟩ := setO_eq e
      refine ⟨by simp only [List.length_cons]; omega, ?_⟩
      rw [← h, ← h2]; rfl
/-- Parts of a row. -/
def tkO : List AV → Nat → Option (List AV)
  | _, 0 => some []
  | [], _ + 1 => none
  | v :: c, k + 1 => match tkO c k with
    | some x => some (v :: x)
    | none => none
def dtO : List AV → Nat → Nat → Option (List AV)
  | c, 0, k => tkO c k
  | [], _ + 1, _ => none
  | _ :: c, o + 1, k => dtO c o k
theorem tkO_eq : ∀ {c : List AV} {k : Nat} {r : List AV}, tkO c k = some r → k ≤ c.length ∧ c.take k = r
  | c, 0, r, h => by cases c <;> (simp only [tkO, Option.some.injEq] at h; simp [← h])
  | [], k + 1, r, h => by cases h
  | v :: c, k + 1, r, h => by
    simp only [tkO] at h
    cases e : tkO c k with
    | none => rw [e] at h; cases h
    | some x =>
      rw [e] at h; simp only [Option.some.injEq] at h
      obtain ⟨h1, h2⟩ := tkO_eq e
      exact ⟨by simp only [List.length_cons]; omega, by rw [← h, ← h2]; rfl⟩
theorem dtO_eq : ∀ {c : List AV} {o k : Nat} {r : List AV}, dtO c o k = some r → o + k ≤ c.length ∧ (c.drop o).take k = r
  | c, 0, k, r, h => by
    have h' : tkO c k = some r := by cases c <;> exact h
    obtain ⟨h1, h2⟩ := tkO_eq h'
    exact ⟨by omega, by simpa using h2⟩
  | [], o + 1, k, r, h => by cases h
  | _ :: c, o + 1, k, r, h => by
    obtain ⟨h1, h2⟩ := dtO_eq (c := c) (o := o) h
    exact ⟨by simp only [List.length_cons]; omega, by simpa using h2⟩
def fillO (l : List (Nat × Option AV)) : List (Nat × Nat × O) → List AV → Option (List AV)
  | [], c => some c
  | p :: r, c => match evO l p.2.2 with
    | none => none
    | some v => match cellsV v with
      | none => none
      | some x => match Nat.beq x.length p.2.1 with
        | false => none
        | true => match setO x c p.1 with
          | none => none
          | some d => fillO l r d
theorem fillO_L {l : List (Nat × Option AV)} : ∀ {ps : List (Nat × Nat × O)} {c r : List AV}, fillO l ps c = some r → fillL l ps c = some r
  | [], c, r, h => by simp only [fillO] at h; simp only [fillL, h]
  | p :: ps, c, r, h => by
    simp only [fillO] at h
    cases e1 : evO l p.2.2 with
    | none => rw [e1] at h; cases h
    | some v =>
      cases e2 : cellsV v with
      | none => rw [e1] at h; simp only [e2] at h; cases h
      | some x =>
        cases e3 : Nat.beq x.length p.2.1 with
        | false => rw [e1] at h; simp only [e2, e3] at h; cases h
        | true =>
          cases e4 : setO x c p.1 with
          | none => rw [e1] at h; simp only [e2, e3, e4] at h; cases h
          | some d =>
            rw [e1] at h; simp only [e2, e3, e4] at h
            obtain ⟨h1, h2⟩ := setO_eq e4
            have h3 := Nat.eq_of_beq_eq_true e3
            have g1 : Nat.ble (Nat.add p.1 p.2.1) c.length = true := by rw [Nat.ble_eq]; show p.1 + p.2.1 ≤ c.length; omega
            simp only [fillL, evO_L e1, e2, e3, g1, h2]
            exact fillO_L h

section
variable {l : List (Nat × Option AV)} {lh : List (Nat × Option Blk)} {n : Nat} {t : T Blk} {h : H} {x y z : O} {v u : AV} {b o : Nat} {c lv : List AV}
theorem y_mv (e : evO l x = some v) : exec (.mv x) h (tms l) = .val v h := x_mv (evO_L e)
theorem y_pickT (e : evO l x = some (.bool true)) (e1 : evO l y = some v) : exec (.pick x y z) h (tms l) = .val v h := by
  simp only [exec, ev_tms, evO_L e, evO_L e1]
theorem y_pickF (e : evO l x = some (.bool false)) (e1 : evO l z = some v) : exec (.pick x y z) h (tms l) = .val v h := by
  simp only [exec, ev_tms, evO_L e, evO_L e1]
theorem y_box {k : Nat} (e : evO l x = some v) (hc : cellsV v = some lv) (hk : Nat.beq lv.length k = true) : exec (.box k x) (hp n t lh) (tms l) = .val (.ptr n 0) (hp (n + 1) t ((n, some (cl lv)) :: lh)) := x_box (evO_L e) hc hk
theorem y_build {ps : List (Nat × Nat × O)} (hf : fillO l ps c = some lv) : exec (.build c ps) h (tms l) = .val (.agg lv) h := x_build (fillO_L hf)
theorem y_bslice {k : Nat} {ps : List (Nat × Nat × O)} (hf : fillO l ps c = some lv) : exec (.bslice k c ps) (hp n t lh) (tms l) = .val (.slc n 0 k k) (hp (n + 1) t ((n, some (cl lv)) :: lh)) := x_bslice (fillO_L hf)
theorem y_mkfn {f : AFn} {a cp : List O} {va vc : List AV} (ha : evsO l a = some va) (hc : evsO l cp = some vc) : exec (.mkfn f a cp) h (tms l) = .val (.fn f va vc) h := x_mkfn (evsO_L ha) (evsO_L hc)
theorem y_callC {f : AFn} {a : List O} {va cp r : List AV} (e : evO l x = some (.fn f [] cp)) (ha : evsO l a = some va) (hr : catO va cp = some r) : exec (.callv x a) h (tms l) = .call f r :=
  x_call (evO_L e) (evsO_L ha) (by show List.append va cp = r; exact catO_eq hr)
theorem y_mkif {k : Nat} (e : evO l x = some v) : exec (.mkif k x) h (tms l) = .val (.ifc k v) h := x_mkif (evO_L e)
theorem y_loadN {k : Nat} (e : evO l x = some (.ptr b o)) (hb : H.get h b = some (cl c)) (hv : dtO c o k = some lv) : exec (.loadN k x) h (tms l) = .val (.agg lv) h :=
  x_loadN (evO_L e) hb (dtO_eq hv).1 (dtO_eq hv).2
theorem y_fieldN {vs : List AV} {off k : Nat} (e : evO l x = some (.agg vs)) (hv : dtO vs off k = some lv) : exec (.fieldN x off k) h (tms l) = .val (.agg lv) h := x_fieldN (evO_L e) (dtO_eq hv).2

/-! numbers that are natural -/
section
variable {k : IntKind} {a d r : Nat} {sh : Sh} {q : Bool}
theorem y_add (e : evO l x = some (.int .i64 (a : Nat))) (e1 : evO l y = some (.int .i64 (d : Nat))) (hr : a + d < 9223372036854775808) : exec (.bin .add x y q sh) h (tms l) = .val (.int .i64 ((a + d : Nat) : Int)) h :=
  x_add (evO_L e) (evO_L e1) (by rw [wr_i64 (by omega) (by omega)]; omega)
theorem y_sub (e : evO l x = some (.int .i64 (a : Nat))) (e1 : evO l y = some (.int .i64 (d : Nat))) (hr : d ≤ a) (h1 : a < 9223372036854775808) : exec (.bin .sub x y q sh) h (tms l) = .val (.int .i64 ((a - d : Nat) : Int)) h :=
  x_sub (evO_L e) (evO_L e1) (by rw [wr_i64 (by omega) (by omega)]; omega)
theorem y_mul (e : evO l x = some (.int .i64 (a : Nat))) (e1 : evO l y = some (.int .i64 (d : Nat))) (hr : a * d < 9223372036854775808) : exec (.bin .mul x y q sh) h (tms l) = .val (.int .i64 ((a * d : Nat) : Int)) h :=
  x_mul (evO_L e) (evO_L e1) (by rw [wr_i64 (by have := Int.mul_nonneg (Int.natCast_nonneg a) (Int.natCast_nonneg d); omega) (by rw [← Int.natCast_mul]; omega)]; exact (Int.natCast_mul a d).symm)
end
end

/-! results -/
section
variable {l : List (Nat × Option AV)} {h : H} {v : AV} {b o i : Nat} {c lv lw : List AV} {rs : List CRes}
theorem r_nil : results (tms l) h [] = some [] := rfl
theorem r_tmp (e : evO l (.t i) = some v) (r : results (tms l) h rs = some lv) : results (tms l) h (.tmp i :: rs) = some (v :: lv) := by
  simp only [results, r, ev_tms, evO_L e]
theorem r_cell1 (e : evO l (.t i) = some (.ptr b o)) (hb : H.get h b = some (cl c)) (hv : c[o]? = some v) (r : results (tms l) h rs = some lv) : results (tms l) h (.cell1 i :: rs) = some (v :: lv) := by
  have hlt : o < c.length := (List.getElem?_eq_some_iff.1 hv).1
  have : Nat.ble (Nat.succ o) c.length = true := by rw [Nat.ble_eq]; exact hlt
  simp only [results, r, ev_tms, evO_L e, hb, cl, this, cl_get, hv]
theorem r_cellN {k : Nat} (e : evO l (.t i) = some (.ptr b o)) (hb : H.get h b = some (cl c)) (hv : dtO c o k = some lw) (r : results (tms l) h rs = some lv) : results (tms l) h (.cellN i k :: rs) = some (.agg lw :: lv) := by
  simp only [results, r, ev_tms, evO_L e, cellsAt_cl hb (dtO_eq hv).1, (dtO_eq hv).2]
end

section
variable {P : Program} {E : Env} {F : T CFn} {K : T (List AV × AV)} {Q : Nat → AV → Prop}
variable (L : Lg P E F K)
variable {fn nt : Nat} {l : List (Nat × Option AV)} {todo k : List AItem} {ds : List ADef} {dfd : Bool} {ro : Option Nat} {cs : List AFr} {n b o : Nat} {t : T Blk} {lh : List (Nat × Option Blk)} {r : List CI} {gd : Option (Nat × Bool)} {x y : O} {v : AV} {c c' lv : List AV} {h h' : H}
include L
theorem y_store {m : Nat} (hw : wanted (tms l) gd = some true) (e : evO l x = some (.ptr b o)) (e1 : evO l y = some v) (hc : cellsV v = some lv) (hm : Nat.beq lv.length m = true) (hp1 : allPlain lv = true)
    (hb : H.get (hp n t lh) b = some (cl c)) (hs : setO lv c o = some c')
    (g : Good P E Q ⟨⟨fn, nt, tms l, .ops r :: k, ds, .run, dfd, ro⟩, cs, hp n t ((b, some (cl c')) :: lh)⟩) :
    Good P E Q ⟨⟨fn, nt, tms l, .ops (⟨none, gd, .store m x y⟩ :: r) :: k, ds, .run, dfd, ro⟩, cs, hp n t lh⟩ :=
  g_store L hw (evO_L e) (evO_L e1) hc hm hp1 hb (setO_eq hs).1 (setO_eq hs).2 g

section
variable {f : Nat} {g : CFn} {x : AFr} {a0 a1 a2 a3 a4 a5 a6 a7 : AV} (hf : T.get F f = some g) (hm : T.get K f = none)
include hf hm
end
end

/-! what is kept -/
/-- A heap that has grown: what lay there lies there still, but for the blocks S. -/
structure Kp (S : Nat → Prop) (h h' : H) : Prop where
  n : h.n ≤ h'.n
  old : ∀ b, b < h.n → ¬ S b → H.get h' b = H.get h b
theorem Kp.refl {S : Nat → Prop} (h : H) : Kp S h h := ⟨Nat.le_refl _, fun _ _ _ => rfl⟩
theorem Kp.trans {S : Nat → Prop} {a b c : H} (h : Kp S a b) (k : Kp S b c) : Kp S a c :=
  ⟨Nat.le_trans h.n k.n, fun i hi hs => (k.old i (Nat.lt_of_lt_of_le hi h.n) hs).trans (h.old i hi hs)⟩
theorem Kp.mono {S S' : Nat → Prop} {a b : H} (hs : ∀ i, S i → S' i) (h : Kp S a b) : Kp S' a b := ⟨h.n, fun i hi hn => h.old i hi fun k => hn (hs i k)⟩
abbrev K0 (h h' : H) : Prop := Kp (fun _ => False) h h'
theorem Kp.get {S : Nat → Prop} {h h' : H} {b : Nat} {x : Option Blk} (k : Kp S h h') (hx : H.get h b = x) (hb : b < h.n) (hs : ¬ S b) : H.get h' b = x := (k.old b hb hs).trans hx
theorem Kp.nw {S : Nat → Prop} {n : Nat} {t : T Blk} {lh : List (Nat × Option Blk)} {h : H} {x : Option Blk} (k : Kp S h (hp n t lh)) : Kp S h (hp (n + 1) t ((n, x) :: lh)) := by
  refine ⟨Nat.le_succ_of_le k.n, fun b hb hs => ?_⟩
  have hlt : b < n := Nat.lt_of_lt_of_le hb k.n
  refine Eq.trans ?_ (k.old b hb hs)
  exact get_ne _ _ _ _ (by omega)
theorem Kp.st {S : Nat → Prop} {n b : Nat} {t : T Blk} {lh : List (Nat × Option Blk)} {h : H} {x : Option Blk} (hb : h.n ≤ b ∨ S b) (k : Kp S h (hp n t lh)) : Kp S h (hp n t ((b, x) :: lh)) := by
  refine ⟨k.n, fun i hi hs => ?_⟩
  refine Eq.trans ?_ (k.old i hi hs)
  have hne : i ≠ b := by
    intro e; subst e
    rcases hb with h1 | h1
    · omega
    · exact hs h1
  exact get_ne _ _ _ _ hne
end Go.Ev

/- A logic over the abstract machine: regions that draw their order, over lists. -/
namespace Go.Ev

/-- The temporaries that are named, written out. -/
def onlyO (l : List (Nat × Option AV)) : List Nat → Option (List (Nat × Option AV))
  | [] => some []
  | t :: r => match look l t, onlyO l r with
    | some v, some q => some ((t, some v) :: q)
    | _, _ => none
theorem onlyO_eq {l : List (Nat × Option AV)} : ∀ {nm : List Nat} {q : List (Nat × Option AV)}, onlyO l nm = some q → only (tms l) nm = tms q
  | [], q, h => by simp only [onlyO, Option.some.injEq] at h; subst h; rfl
  | t :: r, q, h => by
    simp only [onlyO] at h
    cases e1 : look l t with
    | none => rw [e1] at h; cases h
    | some v =>
      cases e2 : onlyO l r with
      | none => rw [e1, e2] at h; cases h
      | some q' =>
        rw [e1, e2] at h; simp only [Option.some.injEq] at h
        subst h
        simp only [only, ov_look, e1, onlyO_eq e2]; rfl

/-- A value that can be asked for. -/
def avOk (d : Nat) : AV → Bool :=
  match d with
  | 0 => fun _ => false
  | Nat.succ d => fun x => match x with
    | .fn f a c => a.all (avOk d) && c.all (avOk d) && (match f with | .func _ => true | .yield _ => false)
    | .ifc _ v => avOk d v
    | .agg l => l.all (avOk d)
    | .tup l => l.all (avOk d)
    | .opq _ => false
    | .unk => false
    | _ => true
theorem allEq_refl {f : AV → AV → Bool} : ∀ {l : List AV}, (∀ x ∈ l, f x x = true) → allEq f l l = true
  | [], _ => rfl
  | a :: l, h => by
    simp only [allEq, h a (List.mem_cons_self ..)]
    exact allEq_refl fun x hx => h x (List.mem_cons_of_mem _ hx)
theorem avEq_refl : ∀ (d : Nat) (v : AV), avOk d v = true → avEq d v v = true
  | 0, _, h => by cases h
  | d + 1, v, h => by
    have ih := avEq_refl d
    have hl : ∀ {l : List AV}, l.all (avOk d) = true → allEq (avEq d) l l = true := fun {l} hl => by
      rw [List.all_eq_true] at hl
      exact allEq_refl fun x hx => ih x (hl x hx)
    cases v with
    | bool a => simp only [avEq, bEq_eq, decide_true]
    | int k a => simp only [avEq, kEq_self, iEq_eq, decide_true]
    | str a => simp only [avEq, nlEq_eq, decide_true]
    | ptr b o => simp only [avEq, Nat.beq_refl]
    | slc b o n c => simp only [avEq, Nat.beq_refl]
    | map r => simp only [avEq, Nat.beq_refl]
    | fn f a c =>
      simp only [avOk, Bool.and_eq_true] at h
      obtain ⟨⟨h1, h2⟩, h3⟩ := h
      cases f with
      | func n => simp only [avEq, hl h1, hl h2, fnEq, Nat.beq_refl]
      | yield n => cases h3
    | ifc t v =>
      simp only [avOk] at h
      simp only [avEq, Nat.beq_refl, ih v h]
    | agg l => simp only [avOk] at h; simp only [avEq, hl h]
    | tup l => simp only [avOk] at h; simp only [avEq, hl h]
    | opq _ => cases h
    | unk => cases h
    | _ => rfl

section
variable {P : Program} {E : Env} {F : T CFn} {K : T (List AV × AV)} {Q : Nat → AV → Prop}
variable {fn nt : Nat} {l q : List (Nat × Option AV)} {k : List AItem} {ds : List ADef} {dfd : Bool} {ro : Option Nat} {cs : List AFr} {h h' : H} {gd : Option (Nat × Bool)} {op : COp} {nm : List Nat} {pre chk : List DI} {ps : List Ph} {v : AV}

theorem p_v {d : Nat} (ho : onlyO l nm = some q) (hw : wanted (tms q) gd = some true) (hx : exec op h (tms q) = .val v h')
    (g : GPure P E Q pre chk ps k fn nt (tms ((d, some v) :: l)) ds dfd ro cs h') : GPure P E Q (⟨⟨some d, gd, op⟩, nm⟩ :: pre) chk ps k fn nt (tms l) ds dfd ro cs h := by
  refine p_val (v := v) (h' := h') ?_ ?_ g <;> (simp only [onlyO_eq ho]; assumption)
theorem p_s {d : Nat} (ho : onlyO l nm = some q) (hw : wanted (tms q) gd = some false)
    (g : GPure P E Q pre chk ps k fn nt (tms ((d, some (.tup [])) :: l)) ds dfd ro cs h) : GPure P E Q (⟨⟨some d, gd, op⟩, nm⟩ :: pre) chk ps k fn nt (tms l) ds dfd ro cs h := by
  refine p_skip ?_ g
  simp only [onlyO_eq ho]; assumption
theorem p_0 {p : Ph} {r : List Ph} (hc : checks chk (tms l) h = true) (g : Good P E Q ⟨⟨fn, nt, tms l, .drawn p r :: k, ds, .run, dfd, ro⟩, cs, h⟩) : GPure P E Q [] chk (p :: r) k fn nt (tms l) ds dfd ro cs h := p_nil hc g
theorem p_e (hc : checks chk (tms l) h = true) (g : Good P E Q ⟨⟨fn, nt, tms l, k, ds, .run, dfd, ro⟩, cs, h⟩) : GPure P E Q [] chk [] k fn nt (tms l) ds dfd ro cs h := p_nil hc g
theorem k_nil {tm : T AV} : checks [] tm h = true := rfl
theorem k_v {d : Nat} (ho : onlyO l nm = some q) (hw : wanted (tms q) gd = some true) (hx : exec op h (tms q) = .val v h') (hl : look l d = some v) (ha : avOk 20 v = true) (g : checks chk (tms l) h = true) :
    checks (⟨⟨some d, gd, op⟩, nm⟩ :: chk) (tms l) h = true := by
  have : check ⟨⟨some d, gd, op⟩, nm⟩ (tms l) h = true := by
    unfold check
    simp only [onlyO_eq ho, hw, hx, holds, ov_look, hl]
    exact avEq_refl _ _ ha
  simp only [checks, this, g]
theorem k_s {d : Nat} (ho : onlyO l nm = some q) (hw : wanted (tms q) gd = some false) (hl : look l d = some (.tup [])) (g : checks chk (tms l) h = true) :
    checks (⟨⟨some d, gd, op⟩, nm⟩ :: chk) (tms l) h = true := by
  have : check ⟨⟨some d, gd, op⟩, nm⟩ (tms l) h = true := by
    unfold check
    simp only [onlyO_eq ho, hw, holds, ov_look, hl]
    exact avEq_refl _ _ rfl
  simp only [checks, this, g]

variable (L : Lg P E F K)
include L
theorem e_v {d : Nat} (ho : onlyO l nm = some q) (hw : wanted (tms q) gd = some true) (hx : exec op h (tms q) = .val v h')
    (g : GPure P E Q pre chk ps k fn nt (tms ((d, some v) :: l)) ds dfd ro cs h') : Good P E Q ⟨⟨fn, nt, tms l, .drawn ⟨⟨⟨some d, gd, op⟩, nm⟩, pre, chk⟩ ps :: k, ds, .run, dfd, ro⟩, cs, h⟩ :=
  e_val L (v := v) (h' := h') (by rw [onlyO_eq ho]; exact hw) (by rw [onlyO_eq ho]; exact hx) g
theorem e_s {d : Nat} (ho : onlyO l nm = some q) (hw : wanted (tms q) gd = some false)
    (g : GPure P E Q pre chk ps k fn nt (tms ((d, some (.tup [])) :: l)) ds dfd ro cs h) : Good P E Q ⟨⟨fn, nt, tms l, .drawn ⟨⟨⟨some d, gd, op⟩, nm⟩, pre, chk⟩ ps :: k, ds, .run, dfd, ro⟩, cs, h⟩ :=
  e_skip L (by rw [onlyO_eq ho]; exact hw) g
theorem e_c {dst : Option Nat} {f : AFn} {args : List AV} (ho : onlyO l nm = some q) (hw : wanted (tms q) gd = some true) (hx : exec op h (tms q) = .call f args)
    (g : GO P E Q (doCall F K f args false ⟨fn, nt, tms l, .drawn ⟨⟨⟨dst, gd, op⟩, nm⟩, pre, chk⟩ ps :: k, ds, .run, dfd, ro⟩ cs h)) : Good P E Q ⟨⟨fn, nt, tms l, .drawn ⟨⟨⟨dst, gd, op⟩, nm⟩, pre, chk⟩ ps :: k, ds, .run, dfd, ro⟩, cs, h⟩ :=
  e_call L (by rw [onlyO_eq ho]; exact hw) (by rw [onlyO_eq ho]; exact hx) g
omit L in
theorem fd {d : Nat} (hb : op ≠ .bad) (g : GPure P E Q pre chk ps k fn nt (tms ((d, some v) :: l)) ds dfd ro cs h) :
    GO P E Q (finish v cs h ⟨fn, nt, tms l, .drawn ⟨⟨⟨some d, gd, op⟩, nm⟩, pre, chk⟩ ps :: k, ds, .run, dfd, ro⟩) := fin_drawn hb g
omit L in
theorem fd0 (hb : op ≠ .bad) (g : GPure P E Q pre chk ps k fn nt (tms l) ds dfd ro cs h) :
    GO P E Q (finish v cs h ⟨fn, nt, tms l, .drawn ⟨⟨⟨none, gd, op⟩, nm⟩, pre, chk⟩ ps :: k, ds, .run, dfd, ro⟩) := fin_drawn (dst := none) hb g
/-- A store, as an effect of such a region. -/
theorem e_st {m n b o : Nat} {t : T Blk} {lh : List (Nat × Option Blk)} {x y : O} {c c' lv : List AV} (ho : onlyO l nm = some q) (hw : wanted (tms q) gd = some true) (e : evO q x = some (.ptr b o)) (e1 : evO q y = some v) (hc : cellsV v = some lv) (hm : Nat.beq lv.length m = true) (hp1 : allPlain lv = true)
    (hb : H.get (hp n t lh) b = some (cl c)) (hs : setO lv c o = some c')
    (g : ∀ h', HSub (hp n t ((b, some (cl c')) :: lh)) h' → GPure P E Q pre chk ps k fn nt (tms l) ds dfd ro cs h') :
    Good P E Q ⟨⟨fn, nt, tms l, .drawn ⟨⟨⟨none, gd, .store m x y⟩, nm⟩, pre, chk⟩ ps :: k, ds, .run, dfd, ro⟩, cs, hp n t lh⟩ := by
  obtain ⟨h', q1, q2⟩ := put_sub (n := n) (t := t) (lh := lh) hp1 hb (setO_eq hs).1 (setO_eq hs).2
  have hx : exec (.store m x y) (hp n t lh) (tms q) = .val .unk h' := by simp only [exec, ev_tms, evO_L e, evO_L e1, hc, hm, q1]
  exact e_val L (dst := none) (by rw [onlyO_eq ho]; exact hw) (by rw [onlyO_eq ho]; exact hx) (g h' q2)
end
end Go.Ev

