/- Frames, regions, returns, loops. -/
import Derived.Test.YtclfgfpebplncaaGreatEvE
import Derived.AtR
import Derived.Defers
import Derived.RangeFuncIn
import Derived.Below
set_option linter.unusedVariables false
set_option linter.unusedSimpArgs false
set_option linter.unusedSectionVars false
/- Frames of the abstract machine and of the model. -/
namespace Go.Ev

inductive CR (φ : Phi) : List (AV × Bool) → List PanicEntry → Prop where
  | nil : CR φ [] []
  | cons {v : AV} {v' : Value} {b : Bool} {l : List (AV × Bool)} {l' : List PanicEntry} (h : VR φ v v') (hs : CR φ l l') : CR φ ((v, b) :: l) ({ v := v', recovered := b } :: l')

theorem CR.mono {φ φ' : Phi} (hp : Phi.le φ φ') {l : List (AV × Bool)} {l' : List PanicEntry} (h : CR φ l l') : CR φ' l l' := by
  induction h with
  | nil => exact .nil
  | cons h _ ih => exact .cons (h.mono hp) ih
theorem CR.append {φ : Phi} {a b : List (AV × Bool)} {a' b' : List PanicEntry} (h : CR φ a a') (k : CR φ b b') : CR φ (a ++ b) (a' ++ b') := by
  induction h with
  | nil => exact k
  | cons h _ ih => exact .cons h ih

inductive MR (φ : Phi) : AMode → FrameMode → Prop where
  | run : MR φ .run .run
  | returning : MR φ .returning .returning
  | panicking {l : List (AV × Bool)} {l' : List PanicEntry} (h : CR φ l l') : MR φ (.panicking l) (.panicking l')

theorem MR.mono {φ φ' : Phi} (hp : Phi.le φ φ') {m : AMode} {m' : FrameMode} (h : MR φ m m') : MR φ' m m' := by
  cases h with
  | run => exact .run
  | returning => exact .returning
  | panicking h => exact .panicking (h.mono hp)

/-- The items of a frame. -/
inductive IR (E : Env) (φ : Phi) (nt : Nat) : AItem → Item → Prop where
  | code (c : Code) : IR E φ nt (.code (compC E nt c)) (.code c)
  | inBlock (id : Nat) : IR E φ nt (.inBlock id) (.inBlock id)
  | inLoop (c : Code) : IR E φ nt (.inLoop (compC E nt c)) (.inLoop c)
  | inScope (c : Code) : IR E φ nt (.inScope (compC E nt c)) (.inScope c)
  | ops (ops : Array Oper) (td : List Nat) : IR E φ nt (.ops (td.map (ciAt E nt ops))) (.inRegion ops td)
  | inRF {l : Nat} {lo : Loc} (h : φ l = some lo) : IR E φ nt (.inRF l) (.inRangeFunc lo.cb)
  | endRF {l : Nat} {lo : Loc} (h : φ l = some lo) : IR E φ nt (.endRF l) (.endRangeFunc lo.cb)
  | beginRound : IR E φ nt .beginRound .beginRound

inductive IRs (E : Env) (φ : Phi) (nt : Nat) : List AItem → List Item → Prop where
  | nil : IRs E φ nt [] []
  | cons {i : AItem} {i' : Item} {l : List AItem} {l' : List Item} (h : IR E φ nt i i') (hs : IRs E φ nt l l') : IRs E φ nt (i :: l) (i' :: l')

theorem IR.mono {E : Env} {φ φ' : Phi} (hp : Phi.le φ φ') {nt : Nat} {i : AItem} {i' : Item} (h : IR E φ nt i i') : IR E φ' nt i i' := by
  cases h with
  | code c => exact .code c
  | inBlock id => exact .inBlock id
  | inLoop c => exact .inLoop c
  | inScope c => exact .inScope c
  | ops o td => exact .ops o td
  | inRF h => exact .inRF (hp _ _ h)
  | endRF h => exact .endRF (hp _ _ h)
  | beginRound => exact .beginRound
theorem IRs.mono {E : Env} {φ φ' : Phi} (hp : Phi.le φ φ') {nt : Nat} {i : List AItem} {i' : List Item} (h : IRs E φ nt i i') : IRs E φ' nt i i' := by
  induction h with
  | nil => exact .nil
  | cons h _ ih => exact .cons (h.mono hp) ih

/-- Temporaries and items; of a frame that runs no more, its items are nothing. -/
inductive TD (E : Env) (φ : Phi) (nt : Nat) (tm : T AV) : List AItem → Array Value → List Item → Prop where
  | plain {todo : List AItem} {tmps : Array Value} {todo' : List Item} (ht : TR φ nt tm tmps) (hi : IRs E φ nt todo todo') : TD E φ nt tm todo tmps todo'
  | gone {tmps : Array Value} {todo' : List Item} (ht : TR φ nt tm tmps) : TD E φ nt tm [.gone] tmps todo'
  | drawn {Rg : Reg} {k : Nat} {D td : List Nat} {e : Row} {p : Ph} {l : List Ph} {todo : List AItem} {tmps : Array Value} {todo' : List Item} (hs : DS E nt Rg k D (e.j :: td)) (he : (es' E nt Rg)[k]? = some e)
      (hp : phasesFrom (ne' E nt Rg) (es' E nt Rg) ((es' E nt Rg).drop k) k = p :: l) (ht : TRd E φ nt Rg k (e.j :: td) tm tmps) (hi : IRs E φ nt todo todo') : TD E φ nt tm (.drawn p l :: todo) tmps (.inRegion Rg.ops (e.j :: td) :: todo')

theorem TD.mono {E : Env} {φ φ' : Phi} (hp : Phi.le φ φ') {nt : Nat} {tm : T AV} {todo : List AItem} {tmps : Array Value} {todo' : List Item} (h : TD E φ nt tm todo tmps todo') : TD E φ' nt tm todo tmps todo' := by
  cases h with
  | plain ht hi => exact .plain (ht.mono hp) (hi.mono hp)
  | drawn hs he hq ht hi => exact .drawn hs he hq (ht.mono hp) (hi.mono hp)
  | gone ht => exact .gone (ht.mono hp)

def isD (l : List AItem) : Bool := match l with | .drawn _ _ :: _ => true | _ => false

theorem IRs.noD {E : Env} {φ : Phi} {nt : Nat} {i : List AItem} {i' : List Item} (h : IRs E φ nt i i') : isD i = false := by
  cases h with
  | nil => rfl
  | cons h _ => cases h <;> rfl

def kindR (d : Bool) : CallKind := match d with | true => .deferred | false => .normal

structure FR (E : Env) (φ : Phi) (x : AFr) (fr : Frame) : Prop where
  fn : fr.fn = x.fn
  kind : fr.kind = kindR x.dfd
  ro : OptR φ x.ro fr.roundOf
  defers : DRs φ x.defers fr.defers
  mode : MR φ x.mode fr.mode
  body : TD E φ x.nt x.tm x.todo fr.tmps fr.todo
  dr : isD x.todo = true → x.mode = .run

theorem FR.mono {E : Env} {φ φ' : Phi} (hp : Phi.le φ φ') {x : AFr} {fr : Frame} (h : FR E φ x fr) : FR E φ' x fr :=
  ⟨h.fn, h.kind, h.ro.mono hp, h.defers.mono hp, h.mode.mono hp, h.body.mono hp, h.dr⟩

inductive FRs (E : Env) (φ : Phi) : List AFr → List Frame → Prop where
  | nil : FRs E φ [] []
  | cons {x : AFr} {fr : Frame} {l : List AFr} {l' : List Frame} (h : FR E φ x fr) (hs : FRs E φ l l') : FRs E φ (x :: l) (fr :: l')

theorem FRs.mono {E : Env} {φ φ' : Phi} (hp : Phi.le φ φ') {l : List AFr} {l' : List Frame} (h : FRs E φ l l') : FRs E φ' l l' := by
  induction h with
  | nil => exact .nil
  | cons h _ ih => exact .cons (h.mono hp) ih

/-- The abstract heap and the world. -/
structure HW (E : Env) (w0 : World) (φ : Phi) (h : H) (w : World) : Prop where
  hr : HR E w0.heap φ h w.heap
  like : Like w0 w

theorem HW.to {E : Env} {w0 : World} {φ φ' : Phi} {h h' : H} {w w' : World} (k : HW E w0 φ h w) (hr : HR E w0.heap φ' h' w'.heap) (hl : Like w w') : HW E w0 φ' h' w' := ⟨hr, k.like.trans hl⟩

/-- The model stands where the abstract machine stands: over the frames cs0, whose world was w0. -/
structure At (E : Env) (w0 : World) (cs0 : List Frame) (c : Conf) (m : Machine) : Prop where
  ex : ∃ φ fr cs w, m = lone fr (cs ++ cs0) w ∧ FR E φ c.fr fr ∧ FRs E φ c.cs cs ∧ HW E w0 φ c.h w

/-- One step of the abstract machine, answered by the model. -/
def Goes (P : Program) (E : Env) (w0 : World) (cs0 : List Frame) (o : Out) (m : Machine) : Prop :=
  match o with
  | .one c => ∃ m', Steps P m m' ∧ At E w0 cs0 c m'
  | .many l => ∃ c ∈ l, ∃ m', Steps P m m' ∧ At E w0 cs0 c m'
  | .done fn v h => ∃ fr w φ v', Steps P m (lone fr cs0 w) ∧ fr.fn = fn ∧ fr.leaving P w (.returned v') ∧ VR φ v v' ∧ HW E w0 φ h w
  | .fail => True

/-! the searches of a way out -/
theorem findLabel_R (E : Env) (nt : Nat) (l : Nat) : ∀ (c : Code), Ev.findLabel (compC E nt c) l = (Go.findLabel c l).map (compC E nt)
  | .seq a b => by
    simp only [compC, Ev.findLabel, Go.findLabel]
    rw [findLabel_R E nt l a, findLabel_R E nt l b]
    cases Go.findLabel a l with
    | some r => rfl
    | none => rfl
  | .label l' => by
    simp only [compC, Ev.findLabel, Go.findLabel]
    by_cases h : l' = l
    · subst h
      have : Nat.beq l' l' = true := Nat.beq_refl l'
      rw [this]; simp [compC]
    · have : Nat.beq l' l = false := by cases hb : Nat.beq l' l with | false => rfl | true => exact absurd (beq_true hb) h
      rw [this]; simp [h]
  | .region id ops d => by
    simp only [compC, compRegion, Go.findLabel, Option.map_none]
    repeat' split
    all_goals rfl
  | .rangeFunc f ps a b => by
    simp only [compC, Go.findLabel, Option.map_none]
    repeat' split
    all_goals rfl
  | .skip => rfl
  | .cond _ _ _ => rfl
  | .block _ _ => rfl
  | .loop _ => rfl
  | .exit _ => rfl
  | .scope _ => rfl
  | .goto _ => rfl
  | .ret => rfl
  | .refuse _ => rfl

theorem exitTo_R {E : Env} {φ : Phi} {nt id : Nat} {k : List AItem} {k' : List Item} (h : IRs E φ nt k k') :
    (Ev.exitTo id k = none → Go.exitTo id k' = none) ∧ (∀ r, Ev.exitTo id k = some r → ∃ r', Go.exitTo id k' = some r' ∧ IRs E φ nt r r') := by
  induction h with
  | nil => exact ⟨fun _ => rfl, fun r h => by simp [Ev.exitTo] at h⟩
  | cons h hs ih =>
    cases h with
    | inBlock id' =>
      simp only [Ev.exitTo, Go.exitTo]
      by_cases he : id' = id
      · subst he
        have : Nat.beq id' id' = true := Nat.beq_refl id'
        rw [this]
        exact ⟨fun h => (by cases h), fun r h => by simp only [Option.some.injEq] at h; subst h; exact ⟨_, by simp, hs⟩⟩
      · have hb : Nat.beq id' id = false := by cases hb : Nat.beq id' id with | false => rfl | true => exact absurd (beq_true hb) he
        rw [hb]
        have : (id' == id) = false := by simp [he]
        simp only [this, Bool.false_eq_true, if_false]
        exact ih
    | _ => exact ih

theorem gotoIn_R {E : Env} {φ : Phi} {nt l : Nat} {k : List AItem} {k' : List Item} (h : IRs E φ nt k k') :
    (Ev.gotoIn l k = none → Go.gotoIn l k' = none) ∧ (∀ r, Ev.gotoIn l k = some r → ∃ r', Go.gotoIn l k' = some r' ∧ IRs E φ nt r r') := by
  induction h with
  | nil => exact ⟨fun _ => rfl, fun r h => by simp [Ev.gotoIn] at h⟩
  | cons h hs ih =>
    cases h with
    | inScope c =>
      simp only [Ev.gotoIn, Go.gotoIn, findLabel_R]
      cases Go.findLabel c l with
      | none => simpa using ih
      | some r =>
        simp only [Option.map_some]
        exact ⟨fun h => (by cases h), fun q h => by simp only [Option.some.injEq] at h; subst h; exact ⟨_, rfl, .cons (.code _) (.cons (.inScope _) hs)⟩⟩
    | _ => exact ih

end Go.Ev

/- The operations of a region, one after another. -/
namespace Go.Ev

section
variable {P : Program} {E : Env} {w0 : World} {φ : Phi} {h : H} {w : World} {tm : T AV} {nt : Nat}

theorem TR.put' {a : Act} (h : TR φ nt tm a.tmps) {d : Option Nat} (hd : dstOk nt d = true) {v : AV} {v' : Value} (hv : VR φ v v') : TR φ nt (Ev.put tm d v) (a.put d v').tmps := by
  have := h.put hd hv
  cases d with
  | none => exact this
  | some d => exact this

/-- Is the operation wanted? -/
theorem wanted_R {a : Act} (h : TR φ nt tm a.tmps) {ops : Array Oper} {o : Oper} {g : Option (Nat × Bool)} (hg : guardOf ops o.guard = some g) {q : Bool} (hw : Ev.wanted tm g = some q) :
    Region.wanted o (yielded ops a.tmps) = q := by
  unfold guardOf at hg
  unfold Region.wanted
  cases hgd : o.guard with
  | none =>
    rw [hgd] at hg; simp only [Option.some.injEq] at hg; subst hg
    simp only [Ev.wanted, Option.some.injEq] at hw; exact hw
  | some p =>
    obtain ⟨j, b⟩ := p
    rw [hgd] at hg
    simp only at hg ⊢
    split at hg
    · rename_i d hd
      simp only [Option.some.injEq] at hg; subst hg
      simp only [Ev.wanted] at hw
      have hy : yielded ops a.tmps j = match a.tmps[d]? with | some (.bool c) => some c | _ => none := by
        unfold yielded; rw [hd]; rfl
      rw [hy]
      split at hw
      · rename_i c hc
        simp only [Option.some.injEq] at hw; subst hw
        have := (h.val d _ hc).bool_inv
        rw [Array.getD_eq_getD_getElem?] at this
        cases ht : a.tmps[d]? with
        | none => rw [ht] at this; simp [undef] at this
        | some u =>
          rw [ht] at this; simp at this; subst this
          cases b <;> cases c <;> rfl
      · rename_i hc
        simp only [Option.some.injEq] at hw; subst hw
        obtain ⟨c, e1, _⟩ := (h.val d _ hc).tup_inv
        rw [Array.getD_eq_getD_getElem?] at e1
        cases ht : a.tmps[d]? with
        | none => rfl
        | some u => rw [ht] at e1; simp at e1; subst e1; rfl
      · cases hw
    · cases hg

/-- An operation of the table is the region's. -/
theorem ciAt_R (E : Env) (nt : Nat) (ops : Array Oper) (j : Nat) :
    (ciAt E nt ops j = ⟨none, none, .bad⟩) ∨ (∃ o, ops[j]? = some o ∧ (ciAt E nt ops j).dst = o.dst ∧ dstOk nt o.dst = true ∧ guardOf ops o.guard = some (ciAt E nt ops j).guard ∧ (ciAt E nt ops j).op = compOp E o.op) := by
  unfold ciAt
  cases ho : ops[j]? with
  | none => exact .inl rfl
  | some o =>
    simp only
    unfold compOper
    cases h1 : dstOk nt o.dst with
    | false => exact .inl rfl
    | true =>
      cases h2 : guardOf ops o.guard with
      | none => exact .inl rfl
      | some g => exact .inr ⟨o, rfl, rfl, h1, h2, rfl⟩

variable {b : Frame} {cs : List Frame} {k : List Item} {ops : Array Oper}

/-- An operation that gives a value. -/
theorem step_val {a : Act} {j : Nat} {rest : List Nat} {o : Oper} {v : Value} {w' : World} (ho : ops[j]? = some o) (hw : Region.wanted o (yielded ops a.tmps) = true) (hd : ∀ c, o.op ≠ .defer c)
    (hx : (execOp a.eval o).run P w = .ok (.value v) w' ∨ ((execOp a.eval o).run P w = .ok .skip w' ∧ v = undef)) :
    Go.step P (lone (b.atR a (.inRegion ops (j :: rest) :: k)) cs w) = .next (lone (b.atR (a.put o.dst v) (.inRegion ops rest :: k)) cs w') := by
  have hf := Frame.finish_atR b a ops j rest k v
  rw [ho] at hf
  simp only [Option.bind_some] at hf
  rw [← hf]
  apply step_lone_go
  rw [stepGR_op ho hw, Oper.semAt_eq _ _ _ hd]
  rcases hx with hx | ⟨hx, rfl⟩
  · simp [stepG.apply, Sem.runT_eq, hx]
  · simp [stepG.apply, Sem.runT_eq, hx]

/-- Where the operations of a region have come to. -/
def OpsEnd (E : Env) (nt : Nat) (ops : Array Oper) (w0 : World) (r : OR) (φ : Phi) (a : Act) (td : List Nat) (w : World) : Prop :=
  match r with
  | .fin tm h => td = [] ∧ TR φ nt tm a.tmps ∧ HW E w0 φ h w
  | .at_ i l tm h x => ∃ j rest o, td = j :: rest ∧ ops[j]? = some o ∧ i = ciAt E nt ops j ∧ l = rest.map (ciAt E nt ops) ∧ i.dst = o.dst ∧ dstOk nt o.dst = true ∧
      Region.wanted o (yielded ops a.tmps) = true ∧ exec (compOp E o.op) h tm = x ∧ (¬ VF x) ∧ TR φ nt tm a.tmps ∧ HW E w0 φ h w
  | .fail => True

theorem ops_run (hE : EnvOk P E) : ∀ (td : List Nat) (tm : T AV) (h : H) (φ : Phi) (a : Act) (w : World), TR φ nt tm a.tmps → HW E w0 φ h w →
    ∃ φ' a' td' w', Phi.le φ φ' ∧ a'.defers = a.defers ∧
      (opsL (td.map (ciAt E nt ops)) tm h ≠ .fail → Steps P (lone (b.atR a (.inRegion ops td :: k)) cs w) (lone (b.atR a' (.inRegion ops td' :: k)) cs w')) ∧
      OpsEnd E nt ops w0 (opsL (td.map (ciAt E nt ops)) tm h) φ' a' td' w'
  | [], tm, h, φ, a, w, ht, hr => ⟨φ, a, [], w, .refl _, rfl, fun _ => .refl _ _, rfl, ht, hr⟩
  | j :: td, tm, h, φ, a, w, ht, hr => by
    rw [List.map_cons]
    generalize hi : ciAt E nt ops j = i
    have hfail : ∀ {r : OR}, opsL (i :: td.map (ciAt E nt ops)) tm h = .fail → ∃ φ' a' td' w', Phi.le φ φ' ∧ a'.defers = a.defers ∧
      (opsL (i :: td.map (ciAt E nt ops)) tm h ≠ .fail → Steps P (lone (b.atR a (.inRegion ops (j :: td) :: k)) cs w) (lone (b.atR a' (.inRegion ops td' :: k)) cs w')) ∧
      OpsEnd E nt ops w0 (opsL (i :: td.map (ciAt E nt ops)) tm h) φ' a' td' w' := by
      intro r e
      exact ⟨φ, a, [], w, .refl _, rfl, fun hn => absurd e hn, by rw [e]; trivial⟩
    rcases ciAt_R E nt ops j with hbad | ⟨o, ho, h1, h2, h3, h4⟩
    · rw [hi] at hbad
      exact hfail (r := .fail) (by rw [hbad]; rfl)
    rw [hi] at h1 h3 h4
    cases hw : Ev.wanted tm i.guard with
    | none => exact hfail (r := .fail) (by simp only [opsL, hw])
    | some q =>
      have hwc := wanted_R ht h3 hw
      cases q with
      | false =>
        have e : opsL (i :: td.map (ciAt E nt ops)) tm h = opsL (td.map (ciAt E nt ops)) (Ev.put tm i.dst (.tup [])) h := by simp only [opsL, hw]
        have hstep := stepR_op_skip (P := P) (b := b) (a := a) (k := k) (cs := cs) (w := w) (ops := ops) (i := j) (rest := td) (by rw [ho]; simpa using hwc)
        rw [ho] at hstep
        simp only [Option.bind_some] at hstep
        obtain ⟨φ', a', td', w', g1, g2, g3, g4⟩ := ops_run hE td (Ev.put tm i.dst (.tup [])) h φ (a.put o.dst undef) w (by rw [h1]; exact ht.put' h2 (.tup .nil)) hr
        exact ⟨φ', a', td', w', g1, by rw [g2]; cases o.dst <;> rfl, fun hn => .head hstep (g3 (by rw [e] at hn; exact hn)), by rw [e]; exact g4⟩
      | true =>
        have hat : ∀ x, exec i.op h tm = x → ¬ VF x → ∃ φ' a' td' w', Phi.le φ φ' ∧ a'.defers = a.defers ∧
            (OR.at_ i (td.map (ciAt E nt ops)) tm h x ≠ .fail → Steps P (lone (b.atR a (.inRegion ops (j :: td) :: k)) cs w) (lone (b.atR a' (.inRegion ops td' :: k)) cs w')) ∧
            OpsEnd E nt ops w0 (OR.at_ i (td.map (ciAt E nt ops)) tm h x) φ' a' td' w' := by
          intro x hx hv
          exact ⟨φ, a, j :: td, w, .refl _, rfl, fun _ => .refl _ _, j, td, o, rfl, ho, hi.symm, rfl, h1, h2, hwc, by rw [← h4]; exact hx, hv, ht, hr⟩
        cases hx : exec i.op h tm with
        | fail => exact hfail (r := .fail) (by simp only [opsL, hw, hx])
        | val v h' =>
          rw [h4] at hx
          have hsim := sim_val hr.hr ht.rho hE hx
          obtain ⟨φ1, v', w1, ⟨s1, _⟩, s2, s3, s4, s5⟩ := hsim
          have s4 := hr.to s4 s5
          have hnd : ∀ c, o.op ≠ .defer c := by
            intro c e
            rw [e] at hx
            simp only [compOp] at hx
            split at hx
            · simp only [exec] at hx; split at hx <;> cases hx
            · simp [exec] at hx
          have hstep := step_val (b := b) (cs := cs) (k := k) (rest := td) ho hwc hnd s2
          have e : opsL (i :: td.map (ciAt E nt ops)) tm h = opsL (td.map (ciAt E nt ops)) (Ev.put tm i.dst v) h' := by rw [← h4] at hx; simp only [opsL, hw, hx]
          obtain ⟨φ', a', td', w', g1, g2, g3, g4⟩ := ops_run hE td (Ev.put tm i.dst v) h' φ1 (a.put o.dst v') w1 (by rw [h1]; exact (ht.mono s1).put' h2 s3) s4
          exact ⟨φ', a', td', w', s1.trans g1, by rw [g2]; cases o.dst <;> rfl, fun hn => .head hstep (g3 (by rw [e] at hn; exact hn)), by rw [e]; exact g4⟩
        | call f args =>
          have e : opsL (i :: td.map (ciAt E nt ops)) tm h = .at_ i (td.map (ciAt E nt ops)) tm h (.call f args) := by simp only [opsL, hw, hx]
          rw [e]; exact hat _ hx (by rintro (⟨_, _, e⟩ | e) <;> cases e)
        | dfr f args =>
          have e : opsL (i :: td.map (ciAt E nt ops)) tm h = .at_ i (td.map (ciAt E nt ops)) tm h (.dfr f args) := by simp only [opsL, hw, hx]
          rw [e]; exact hat _ hx (by rintro (⟨_, _, e⟩ | e) <;> cases e)
        | pan v =>
          have e : opsL (i :: td.map (ciAt E nt ops)) tm h = .at_ i (td.map (ciAt E nt ops)) tm h (.pan v) := by simp only [opsL, hw, hx]
          rw [e]; exact hat _ hx (by rintro (⟨_, _, e⟩ | e) <;> cases e)
        | recover =>
          have e : opsL (i :: td.map (ciAt E nt ops)) tm h = .at_ i (td.map (ciAt E nt ops)) tm h .recover := by simp only [opsL, hw, hx]
          rw [e]; exact hat _ hx (by rintro (⟨_, _, e⟩ | e) <;> cases e)
        | next ws =>
          have e : opsL (i :: td.map (ciAt E nt ops)) tm h = .at_ i (td.map (ciAt E nt ops)) tm h (.next ws) := by simp only [opsL, hw, hx]
          rw [e]; exact hat _ hx (by rintro (⟨_, _, e⟩ | e) <;> cases e)
end
end Go.Ev

/- Regions that draw their order: the operations that wait are run. -/
namespace Go.Ev

section
variable {P : Program} {E : Env} {F : T CFn} {w0 : World} {φ : Phi} {h : H} {w : World} {cs0 : List Frame}

theorem Goes.steps {o : Out} {m m1 : Machine} (hs : Steps P m m1) (hg : Goes P E w0 cs0 o m1) : Goes P E w0 cs0 o m := by
  cases o with
  | one c => obtain ⟨m', a, b⟩ := hg; exact ⟨m', hs.trans a, b⟩
  | many l => obtain ⟨c, hc, m', a, b⟩ := hg; exact ⟨c, hc, m', hs.trans a, b⟩
  | done fn v h => obtain ⟨fr, w, φ, v', a, b⟩ := hg; exact ⟨fr, w, φ, v', hs.trans a, b⟩
  | fail => trivial

/-- A running frame's standing: b has the frame's function, kind and round. -/
structure BR' (φ : Phi) (fn : Nat) (dfd : Bool) (ro : Option Nat) (b : Frame) : Prop where
  fn : b.fn = fn
  kind : b.kind = kindR dfd
  ro : OptR φ ro b.roundOf

theorem BR'.mono {φ φ' : Phi} (hp : Phi.le φ φ') {fn : Nat} {dfd : Bool} {ro : Option Nat} {b : Frame} (h : BR' φ fn dfd ro b) : BR' φ' fn dfd ro b := ⟨h.fn, h.kind, h.ro.mono hp⟩

theorem BR'.FR {fn nt : Nat} {dfd : Bool} {ro : Option Nat} {b : Frame} (h : BR' φ fn dfd ro b) {tm : T AV} {a : Act} {ds : List ADef} {todo : List AItem} {todo' : List Item}
    (ht : TR φ nt tm a.tmps) (hd : DRs φ ds a.defers) (hi : IRs E φ nt todo todo') : Ev.FR E φ ⟨fn, nt, tm, todo, ds, .run, dfd, ro⟩ (b.atR a todo') :=
  ⟨h.fn, h.kind, h.ro, hd, .run, .plain ht hi, fun h => absurd (hi.noD.symm.trans h) (by decide)⟩


end

theorem HR.grow {E : Env} {w0 : Array Obj} {φ : Phi} {h h' : H} {m : Array Obj} (hr : HR E w0 φ h m) (hn : h.n ≤ h'.n) (hb : ∀ b, b < h.n → H.get h' b = H.get h b) : HR E w0 φ h' m := by
  have ex : ∀ {b : Nat} {l : Loc} {x : Blk}, φ b = some l → H.get h' b = some x → H.get h b = some x := fun hφ hx => by rw [hb _ (hr.bound _ _ hφ)] at hx; exact hx
  exact ⟨fun b l hφ => Nat.lt_of_lt_of_le (hr.bound b l hφ) hn, hr.cbound, fun b l x hφ hx => hr.blk b l x hφ (ex hφ hx), fun b b' l l' x x' h1 h2 h3 h4 => hr.inj b b' l l' x x' h1 h2 (ex h1 h3) (ex h2 h4),
    fun b l x hφ hx => hr.own b l x hφ (ex hφ hx), hr.old, hr.size⟩

section
variable {P : Program} {E : Env} {w0 : World} {nt : Nat} {Rg : Reg} {k : Nat} {φ : Phi} {tm : T AV} {h : H} {bn : Nat → Option Nat} {D td : List Nat} {w : World} {j : Nat}

structure Pd (E : Env) (w0 : World) (nt : Nat) (Rg : Reg) (k : Nat) (φ : Phi) (tm : T AV) (h : H) (bn : Nat → Option Nat) (D td : List Nat) (tmps : Array Value) (m : World) : Prop where
  hr : HW E w0 φ h m
  ds : DS E nt Rg k D td
  tr : TRd E φ nt Rg k td tm tmps
  pf : ∀ j ∈ td, Pend E nt Rg k j → cl' E nt Rg j ≠ 2 → PF E nt Rg tm h j
  pm : ∀ j ∈ td, Pend E nt Rg k j → cl' E nt Rg j = 2 → PM E nt Rg tm h (bn j) j ∧ ∀ b, bn j = some b → φ b = none ∧ b < h.n
  inj : ∀ i j b, bn i = some b → bn j = some b → i = j

theorem TRd.step {a : Act} (ht : TRd E φ nt Rg k (j :: td) tm a.tmps) {d : Option Nat} (hd : dstOk nt d = true) (hj : (ci' E nt Rg j).dst = d) {u : AV} {v' : Value} (hh : HoldsP tm d u) (hv : VR φ u v') :
    TRd E φ nt Rg k td tm (a.put d v').tmps := by
  have hsz : (a.put d v').tmps.size = a.tmps.size := by cases d <;> simp [Act.put]
  refine ⟨by rw [hsz]; exact ht.size, fun t v hg hp => ?_⟩
  by_cases e : d = some t
  · subst e
    have hlt : t < a.tmps.size := by rw [ht.size]; exact ble_true hd
    rw [hh t rfl] at hg; cases hg
    show VR φ _ ((a.tmps.setIfInBounds t v').getD t undef)
    rw [getD_set _ _ _ _ _ hlt, if_pos rfl]; exact hv
  · have hold : (a.put d v').tmps.getD t undef = a.tmps.getD t undef := by
      cases d with
      | none => rfl
      | some d =>
        have hlt : d < a.tmps.size := by rw [ht.size]; exact ble_true hd
        show ((a.tmps.setIfInBounds d v').getD t undef) = _
        rw [getD_set _ _ _ _ _ hlt, if_neg (fun e' => e (by rw [e']))]
    rw [hold]
    refine ht.val t v hg fun i hi hpi => ?_
    rcases List.mem_cons.1 hi with e' | hi
    · subst e'; rw [hj]; exact e
    · exact hp i hi hpi

variable {b : Frame} {cs : List Frame} {k' : List Item}

/-- One operation that waits is run. -/
theorem catch_step (hE : EnvOk P E) {a : Act} (hp : Pd E w0 nt Rg k φ tm h bn D (j :: td) a.tmps w) (hc : cl' E nt Rg j ≠ 3) :
    ∃ φ' a' w', Go.step P (lone (b.atR a (.inRegion Rg.ops (j :: td) :: k')) cs w) = .next (lone (b.atR a' (.inRegion Rg.ops td :: k')) cs w') ∧ Phi.le φ φ' ∧ a'.defers = a.defers ∧
      Pd E w0 nt Rg k φ' tm h bn (j :: D) td a'.tmps w' := by
  obtain ⟨g1, g2, g3, g4⟩ := hp.ds.head
  have hpe := hp.ds.pend hc
  have hT : TR φ nt (only tm (nm' Rg j)) a.tmps := only_TR hp.tr.size (hp.ds.names hp.tr)
  rcases ciAt_R E nt Rg.ops j with hbad | ⟨o, ho, h1, h2, h3, h4⟩
  · exfalso; apply hc; unfold cl'; rw [hbad]; rfl
  have hds := hp.ds.next hc
  have hnt : ∀ i ∈ td, i ≠ j := fun i hi e => (g4.apart i hi).1 (e ▸ List.mem_cons_self ..)
  have hdef : ∀ v, (a.put o.dst v).defers = a.defers := by intro v; cases o.dst <;> rfl
  -- whichever value it is
  have fin : ∀ (φ' : Phi) (u : AV) (v' : Value) (w' : World), Phi.le φ φ' → HW E w0 φ' h w' → HoldsP tm (ci' E nt Rg j).dst u → VR φ' u v' → (∀ i ∈ td, ∀ b, bn i = some b → φ b = none → b < h.n → φ' b = none) →
      Go.step P (lone (b.atR a (.inRegion Rg.ops (j :: td) :: k')) cs w) = .next (lone (b.atR (a.put o.dst v') (.inRegion Rg.ops td :: k')) cs w') →
      ∃ φ' a' w', Go.step P (lone (b.atR a (.inRegion Rg.ops (j :: td) :: k')) cs w) = .next (lone (b.atR a' (.inRegion Rg.ops td :: k')) cs w') ∧ Phi.le φ φ' ∧ a'.defers = a.defers ∧
        Pd E w0 nt Rg k φ' tm h bn (j :: D) td a'.tmps w' := by
    intro φ' u v' w' hle hr' hh hv hno hstep
    refine ⟨φ', a.put o.dst v', w', hstep, hle, hdef v', hr', hds, (hp.tr.mono hle).step h2 h1 (by rw [← h1]; exact hh) hv, ?_, ?_, hp.inj⟩
    · exact fun i hi => hp.pf i (List.mem_cons_of_mem _ hi)
    · intro i hi hpi h2
      obtain ⟨q1, q2⟩ := hp.pm i (List.mem_cons_of_mem _ hi) hpi h2
      exact ⟨q1, fun b hb => ⟨hno i hi b hb (q2 b hb).1 (q2 b hb).2, (q2 b hb).2⟩⟩
  have hnd : ∀ c, o.op ≠ .defer c := by
    intro c e
    apply hc
    unfold cl'
    rw [h4, e]
    simp only [compOp]
    split <;> rfl
  have skip : wanted (only tm (nm' Rg j)) (ci' E nt Rg j).guard = some false → HoldsP tm (ci' E nt Rg j).dst (.tup []) →
      ∃ φ' a' w', Go.step P (lone (b.atR a (.inRegion Rg.ops (j :: td) :: k')) cs w) = .next (lone (b.atR a' (.inRegion Rg.ops td :: k')) cs w') ∧ Phi.le φ φ' ∧ a'.defers = a.defers ∧
        Pd E w0 nt Rg k φ' tm h bn (j :: D) td a'.tmps w' := by
    intro hw hh
    have hwc := wanted_R hT h3 hw
    have hstep := stepR_op_skip (P := P) (b := b) (a := a) (k := k') (cs := cs) (w := w) (ops := Rg.ops) (i := j) (rest := td) (by rw [ho]; simpa using hwc)
    rw [ho] at hstep
    simp only [Option.bind_some] at hstep
    exact fin φ (.tup []) undef w (.refl _) hp.hr hh (.tup .nil) (fun _ _ _ _ h _ => h) hstep
  by_cases hm : cl' E nt Rg j = 2
  · obtain ⟨q1, q2⟩ := hp.pm j (List.mem_cons_self ..) hpe hm
    rcases q1 with ⟨_, hw, hh⟩ | ⟨bk, blk, h0, v, e1, hw, hx, e2, hh, hg⟩
    · exact skip hw hh
    · have hwc := wanted_R hT h3 hw
      have hx' : exec (compOp E o.op) h0 (only tm (nm' Rg j)) = .val v (H.new h0 blk) := by rw [← h4]; exact hx
      have hcl : cls (compOp E o.op) = 2 := by rw [← h4]; exact hm
      obtain ⟨v', ob, l, blk', s1, s2, s3, s4, s5⟩ := mk_sim (w := w) hT.rho hE hcl hx'
      have hbk : blk' = blk := by
        have : H.get (H.new h0 blk) h0.n = H.get (H.new h0 blk') h0.n := by rw [s2]
        rw [H.get_new, if_pos rfl, H.get_new, if_pos rfl] at this
        cases this; rfl
      subst hbk
      subst e2
      obtain ⟨q3, q4⟩ := q2 _ e1
      obtain ⟨s6, s7⟩ := s5 _ (Phi.le_upd l q3) (Phi.upd_same _ _ _)
      have hr' := hp.hr.hr.alloc (l := l) s3 q3 (Nat.le_refl _) q4 hg (fun _ _ _ => rfl) s7 s4
      have hstep := step_val (b := b) (cs := cs) (k := k') (rest := td) (P := P) ho hwc hnd (.inl s1)
      refine fin (φ.upd h0.n l) v v' (w.alloc ob) (Phi.le_upd l q3) (hp.hr.to (w' := w.alloc ob) hr' ⟨rfl, rfl, rfl⟩) hh s6 ?_ hstep
      intro i hi bi hbi hni _
      rw [Phi.upd_ne _ _ (fun e => hnt i hi (hp.inj i j bi hbi (by rw [e1, e])))]; exact hni
  · have hpf := hp.pf j (List.mem_cons_self ..) hpe hm
    rcases hpf with ⟨hw, hh⟩ | ⟨hw, v, h1', hx, hh⟩
    · exact skip hw hh
    · have hwc := wanted_R hT h3 hw
      have hc01 : cls (ci' E nt Rg j).op = 0 ∨ cls (ci' E nt Rg j).op = 1 := by
        rcases cls_cases hc with h | h | h
        · exact .inl h
        · exact .inr h
        · exact absurd h hm
      have hk := exec_keeps hc01 hx
      subst hk
      have hx' : exec (compOp E o.op) h1' (only tm (nm' Rg j)) = .val v h1' := by rw [← h4]; exact hx
      have hsim := sim_val hp.hr.hr hT.rho hE hx'
      obtain ⟨φ1, v', w1, ⟨s1, s1'⟩, s2, s3, s4, s5⟩ := hsim
      have hstep := step_val (b := b) (cs := cs) (k := k') (rest := td) ho hwc hnd s2
      refine fin φ1 v v' w1 s1 (hp.hr.to s4 s5) hh s3 ?_ hstep
      intro i hi bi hbi hni hlt
      rw [s1' bi (by omega)]; exact hni

/-- All that waits up to the next effect. -/
theorem catch_up (hE : EnvOk P E) : ∀ (td D : List Nat) (φ : Phi) (a : Act) (w : World), Pd E w0 nt Rg k φ tm h bn D td a.tmps w →
    ∃ φ' a' w' D' td', Steps P (lone (b.atR a (.inRegion Rg.ops td :: k')) cs w) (lone (b.atR a' (.inRegion Rg.ops td' :: k')) cs w') ∧ Phi.le φ φ' ∧ a'.defers = a.defers ∧ Pd E w0 nt Rg k φ' tm h bn D' td' a'.tmps w' ∧
      (td' = [] ∨ ∃ j r, td' = j :: r ∧ cl' E nt Rg j = 3)
  | [], D, φ, a, w, hp => ⟨φ, a, w, D, [], .refl _ _, .refl _, rfl, hp, .inl rfl⟩
  | j :: td, D, φ, a, w, hp => by
    by_cases hc : cl' E nt Rg j = 3
    · exact ⟨φ, a, w, D, j :: td, .refl _ _, .refl _, rfl, hp, .inr ⟨j, td, rfl, hc⟩⟩
    · obtain ⟨φ1, a1, w1, s1, s2, s3, s4⟩ := catch_step (b := b) (cs := cs) (k' := k') hE hp hc
      obtain ⟨φ', a', w', D', td', g1, g2, g3, g4, g5⟩ := catch_up hE td (j :: D) φ1 a1 w1 s4
      exact ⟨φ', a', w', D', td', .head s1 g1, s2.trans g2, by rw [g3, s3], g4, g5⟩
end

section
variable {P : Program} {E : Env} {w0 : World} {nt : Nat} {Rg : Reg} {φ : Phi} {tm : T AV} {h : H} {D td : List Nat} {w : World} {cs0 : List Frame}
variable {b : Frame} {a : Act} {fn : Nat} {dfd : Bool} {ro : Option Nat} {ds : List ADef} {kk : List AItem} {kk' : List Item} {xs : List AFr} {cs : List Frame}

theorem pre_eq (k : Nat) : (preOf (ne' E nt Rg) (es' E nt Rg) k).map rowD = ((List.range Rg.ops.size).filter fun j => !(Nat.beq (cl' E nt Rg j) 3) && Nat.beq (cn' E nt Rg j) k).map fun j => rowD (rw' E nt Rg j) := by
  unfold preOf ne' restOf rowsOf
  rw [List.filter_map, List.filter_map, List.map_map, List.filter_filter]
  congr 1
  refine List.filter_congr fun j _ => ?_
  simp only [Function.comp]
  rw [Bool.and_comm]
  rfl

theorem mem_pre {k j : Nat} : j ∈ ((List.range Rg.ops.size).filter fun j => !(Nat.beq (cl' E nt Rg j) 3) && Nat.beq (cn' E nt Rg j) k) ↔ j < Rg.ops.size ∧ cl' E nt Rg j ≠ 3 ∧ cn' E nt Rg j = k := by
  rw [List.mem_filter, List.mem_range, Bool.and_eq_true]
  constructor
  · rintro ⟨h1, h2, h3⟩
    refine ⟨h1, fun e => ?_, beq_true h3⟩
    rw [e] at h2; simp at h2
  · rintro ⟨h1, h2, h3⟩
    refine ⟨h1, ?_, by rw [h3]; exact Nat.beq_refl _⟩
    cases hb : Nat.beq (cl' E nt Rg j) 3 with
    | false => rfl
    | true => exact absurd (beq_true hb) h2

theorem hasMk_pre {k : Nat} (hm : hasMk (preOf (ne' E nt Rg) (es' E nt Rg) k) = false) {j : Nat} (hj : j < Rg.ops.size) (hc : cl' E nt Rg j ≠ 3) (hk : cn' E nt Rg j = k) : cl' E nt Rg j ≠ 2 := by
  intro h2
  unfold hasMk at hm
  rw [List.any_eq_false] at hm
  have : rw' E nt Rg j ∈ preOf (ne' E nt Rg) (es' E nt Rg) k := by
    unfold preOf
    rw [List.mem_filter]
    refine ⟨mem_ne.2 ⟨j, hj, rfl, hc⟩, ?_⟩
    show Nat.beq (cn' E nt Rg j) k = true
    rw [hk]; exact Nat.beq_refl _
  have h3 := hm _ this
  apply h3
  show Nat.beq (cl' E nt Rg j) 2 = true
  rw [h2]; rfl

/-- Onward in a region that draws its order. -/
theorem onward_sim (hE : EnvOk P E) {k : Nat} {pre chk : List DI} {l : List Ph} (hr : HW E w0 φ h w) (hb : BR' φ fn dfd ro b) (hd : DRs φ ds a.defers) (hk : IRs E φ nt kk kk') (hfs : FRs E φ xs cs)
    (hs : DS E nt Rg k D td) (hsz : a.tmps.size = nt)
    (ht : ∀ t v, T.get tm t = some v → (∀ j ∈ td, cl' E nt Rg j ≠ 3 → cn' E nt Rg j < k → (ci' E nt Rg j).dst ≠ some t) → VR φ v (a.tmps.getD t undef))
    (hnew : ∀ j, j < Rg.ops.size → cl' E nt Rg j ≠ 3 → cn' E nt Rg j = k → j ∉ D) (hmk : ∀ j ∈ td, cl' E nt Rg j = 2 → ¬ (cn' E nt Rg j < k))
    (hpre : pre = (preOf (ne' E nt Rg) (es' E nt Rg) k).map rowD)
    (hchk : ∀ j ∈ td, cl' E nt Rg j ≠ 3 → cl' E nt Rg j ≠ 2 → (cn' E nt Rg j < k ∨ (cn' E nt Rg j = k ∧ cl' E nt Rg j = 1 ∧ hasMk (preOf (ne' E nt Rg) (es' E nt Rg) k) = true)) → rowD (rw' E nt Rg j) ∈ chk)
    (hl : l = phasesFrom (ne' E nt Rg) (es' E nt Rg) ((es' E nt Rg).drop k) k) :
    Goes P E w0 cs0 (onward pre chk l kk fn nt tm ds dfd ro xs h) (lone (b.atR a (.inRegion Rg.ops td :: kk')) (cs ++ cs0) w) := by
  unfold onward
  cases hpu : pures pre tm h with
  | none => exact trivial
  | some q =>
    obtain ⟨tm', h'⟩ := q
    simp only
    cases hck : checks chk tm' h' with
    | false => exact trivial
    | true =>
      simp only
      rw [hpre, pre_eq] at hpu
      obtain ⟨bn, R⟩ := pures_run hs.reg _ _ _ _ _ hpu (List.Pairwise.filter _ List.pairwise_lt_range) (fun j hj => ⟨(mem_pre.1 hj).1, (mem_pre.1 hj).2.1, (mem_pre.1 hj).2.2⟩)
      have htd : ∀ j, j < Rg.ops.size → cl' E nt Rg j ≠ 3 → cn' E nt Rg j = k → j ∈ td := fun j h1 h2 h3 => (hs.ext.all j h1).resolve_left (hnew j h1 h2 h3)
      have hP : Pd E w0 nt Rg k φ tm' h' bn D td a.tmps w := by
        refine ⟨⟨hr.hr.grow R.n R.blk, hr.like⟩, hs, ⟨hsz, fun t v hg hp => ?_⟩, ?_, ?_, R.inj⟩
        · have e : T.get tm' t = T.get tm t := R.tm t fun j hj => by
            obtain ⟨q1, q2, q3⟩ := mem_pre.1 hj
            exact hp j (htd j q1 q2 q3) ⟨q2, by omega⟩
          exact ht t v (e ▸ hg) fun j hj h1 h2 => hp j hj ⟨h1, by omega⟩
        · intro j hj hpj h2
          obtain ⟨p1, p2⟩ := hpj
          have hjs := (hs.ext.apart j hj).2
          by_cases hlt : cn' E nt Rg j < k
          · exact check_PF (checks_mem hck _ (hchk j hj p1 h2 (.inl hlt)))
          · have hkj : cn' E nt Rg j = k := by omega
            have hmem := mem_pre.2 ⟨hjs, p1, hkj⟩
            rcases cls_cases p1 with h0 | h0 | h0
            · exact R.pf j hmem h2 (.inl h0)
            · cases hm : hasMk (preOf (ne' E nt Rg) (es' E nt Rg) k) with
              | true => exact check_PF (checks_mem hck _ (hchk j hj p1 h2 (.inr ⟨hkj, h0, hm⟩)))
              | false =>
                refine R.pf j hmem h2 (.inr fun i hi => ?_)
                obtain ⟨q1, q2, q3⟩ := mem_pre.1 hi
                exact hasMk_pre hm q1 q2 q3
            · exact absurd h0 h2
        · intro j hj hpj h2
          obtain ⟨p1, p2⟩ := hpj
          have hjs := (hs.ext.apart j hj).2
          have hkj : cn' E nt Rg j = k := by have := hmk j hj h2; omega
          refine ⟨R.mks j (mem_pre.2 ⟨hjs, p1, hkj⟩) h2, fun b hb => ?_⟩
          obtain ⟨r1, r2⟩ := R.rng j b hb
          refine ⟨?_, r2⟩
          cases hφ : φ b with
          | none => rfl
          | some lo => have := hr.hr.bound b lo hφ; omega
      obtain ⟨φ', a', w', D', td', g1, g2, g3, g4, g5⟩ := catch_up (b := b) (cs := cs ++ cs0) (k' := kk') hE td D φ a w hP
      refine .steps g1 ?_
      have hd' : DRs φ' ds a'.defers := by rw [g3]; exact hd.mono g2
      rcases g5 with rfl | ⟨j, r, rfl, hcj⟩
      · have hlen := g4.ds.fin
        rw [List.drop_eq_nil_of_le hlen] at hl
        simp only [phasesFrom] at hl
        subst hl
        have hT : TR φ' nt tm' a'.tmps := ⟨g4.tr.size, fun t v hg => g4.tr.val t v hg fun j hj => by cases hj⟩
        exact ⟨_, .one stepR_region_end, φ', _, cs, w', rfl, (hb.mono g2).FR hT hd' (hk.mono g2), hfs.mono g2, g4.hr⟩
      · obtain ⟨e, he, hej⟩ := g4.ds.eff hcj
        have hlt : k < (es' E nt Rg).length := (List.getElem?_eq_some_iff.1 he).1
        have hdrop : (es' E nt Rg).drop k = e :: (es' E nt Rg).drop (k + 1) := by
          rw [List.drop_eq_getElem_cons hlt]
          have := (List.getElem?_eq_some_iff.1 he).2
          rw [this]
        rw [hdrop] at hl
        simp only [phasesFrom] at hl
        subst hl
        subst hej
        refine ⟨_, .refl _ _, φ', _, cs, w', rfl, ?_, hfs.mono g2, g4.hr⟩
        refine ⟨(hb.mono g2).fn, (hb.mono g2).kind, (hb.mono g2).ro, hd', .run, ?_, fun _ => rfl⟩
        refine .drawn g4.ds he ?_ g4.tr (hk.mono g2)
        rw [hdrop]; rfl

theorem mem_chk {k j : Nat} {e : Row} (hj : j < Rg.ops.size) (hc : cl' E nt Rg j ≠ 3) (h2 : cl' E nt Rg j ≠ 2)
    (h : (cn' E nt Rg j ≤ k ∧ tb e.bits j = false) ∨ (cn' E nt Rg j = k + 1 ∧ cl' E nt Rg j = 1 ∧ hasMk (preOf (ne' E nt Rg) (es' E nt Rg) (k + 1)) = true)) :
    rowD (rw' E nt Rg j) ∈ (chkOf (ne' E nt Rg) (es' E nt Rg) e k).map rowD := by
  refine List.mem_map.2 ⟨_, ?_, rfl⟩
  unfold chkOf
  rw [List.mem_filter]
  refine ⟨mem_ne.2 ⟨j, hj, rfl, hc⟩, ?_⟩
  have hb : Nat.beq (clsR (rw' E nt Rg j)) 2 = false := by
    cases hb : Nat.beq (clsR (rw' E nt Rg j)) 2 with
    | false => rfl
    | true => exact absurd (beq_true hb) h2
  rw [hb]
  simp only
  have hcn : cnt (es' E nt Rg) (rw' E nt Rg j) = cn' E nt Rg j := rfl
  rw [hcn]
  rcases h with ⟨h1, h3⟩ | ⟨h1, h3, h4⟩
  · have : Nat.ble (cn' E nt Rg j) k = true := by rw [Nat.ble_eq]; exact h1
    rw [this]
    simp only
    show (!tb e.bits j) = true
    rw [h3]; rfl
  · have : Nat.ble (cn' E nt Rg j) k = false := by
      cases hb : Nat.ble (cn' E nt Rg j) k with
      | false => rfl
      | true => have := ble_true hb; omega
    rw [this]
    have hcl : clsR (rw' E nt Rg j) = 1 := h3
    simp only [h1, hcl, Nat.succ_eq_add_one, h4, Bool.and_true]
    rw [show Nat.beq (k + 1) (k + 1) = true from Nat.beq_refl _]; rfl

/-- An effect has been done. -/
theorem eff_done (hE : EnvOk P E) {k : Nat} {e : Row} {p : Ph} {l : List Ph} {o : Oper} {v : AV} {v' : Value} (hr : HW E w0 φ h w) (hb : BR' φ fn dfd ro b) (hd : DRs φ ds a.defers) (hk : IRs E φ nt kk kk') (hfs : FRs E φ xs cs)
    (hs : DS E nt Rg k D (e.j :: td)) (he : (es' E nt Rg)[k]? = some e) (hp : phasesFrom (ne' E nt Rg) (es' E nt Rg) ((es' E nt Rg).drop k) k = p :: l) (ht : TRd E φ nt Rg k (e.j :: td) tm a.tmps)
    (h1 : (ciAt E nt Rg.ops e.j).dst = o.dst) (h2 : dstOk nt o.dst = true) (hv : VR φ v v') :
    Goes P E w0 cs0 (onward p.pre p.chk l kk fn nt (put tm o.dst v) ds dfd ro xs h) (lone (b.atR (a.put o.dst v') (.inRegion Rg.ops td :: kk')) (cs ++ cs0) w) := by
  obtain ⟨e1, e2, e3, e4⟩ := es_get he
  obtain ⟨g1, g2, g3, g4⟩ := hs.head
  have hlt : k < (es' E nt Rg).length := (List.getElem?_eq_some_iff.1 he).1
  have hdrop : (es' E nt Rg).drop k = e :: (es' E nt Rg).drop (k + 1) := by
    rw [List.drop_eq_getElem_cons hlt]
    have := (List.getElem?_eq_some_iff.1 he).2
    rw [this]
  rw [hdrop] at hp
  simp only [phasesFrom, List.cons.injEq] at hp
  obtain ⟨rfl, rfl⟩ := hp
  have hdf : (a.put o.dst v').defers = a.defers := by cases o.dst <;> rfl
  have hsz : (a.put o.dst v').tmps.size = a.tmps.size := by cases o.dst <;> simp [Act.put]
  refine onward_sim (a := a.put o.dst v') (k := k + 1) hE hr hb (by rw [hdf]; exact hd) hk hfs (hs.nextE e3) (by rw [hsz]; exact ht.size) ?_ ?_ ?_ rfl ?_ rfl
  · intro t u hg hpd
    rw [put_get] at hg
    by_cases e' : o.dst = some t
    · rw [if_pos e'] at hg; cases hg
      rw [e'] at h2 ⊢
      have hlt : t < a.tmps.size := by rw [ht.size]; exact ble_true h2
      show VR φ v ((a.tmps.setIfInBounds t v').getD t undef)
      rw [getD_set _ _ _ _ _ hlt, if_pos rfl]; exact hv
    · rw [if_neg e'] at hg
      have hold : (a.put o.dst v').tmps.getD t undef = a.tmps.getD t undef := by
        cases hdst : o.dst with
        | none => rfl
        | some d =>
          rw [hdst] at h2 e'
          have hlt : d < a.tmps.size := by rw [ht.size]; exact ble_true h2
          show ((a.tmps.setIfInBounds d v').getD t undef) = _
          rw [getD_set _ _ _ _ _ hlt, if_neg (fun e'' => e' (by rw [e'']))]
      rw [hold]
      refine ht.val t u hg fun j hj hpj => ?_
      rcases List.mem_cons.1 hj with e'' | hj
      · rw [e''] at hpj; exact absurd e3 hpj.1
      · exact hpd j hj hpj.1 (by have := hpj.2; omega)
  · intro j hj hc hcn hd
    rcases List.mem_cons.1 hd with e' | hd
    · rw [e'] at hc; exact hc e3
    · exact g2 (hs.cl j hd _ (reg_prefix hs.reg hj hc (by omega : k < cn' E nt Rg j) he))
  · intro j hj hc hcn
    obtain ⟨q1, q2⟩ := g4.apart j hj
    exact q1 (List.mem_cons_of_mem _ (g3 j (reg_maker hs.reg q2 hc (by omega) he)))
  · intro j hj hc hc2 hor
    obtain ⟨q1, q2⟩ := g4.apart j hj
    refine mem_chk q2 hc hc2 ?_
    rcases hor with h3 | h3
    · refine .inl ⟨by omega, ?_⟩
      cases hb : tb e.bits j with
      | false => rfl
      | true => rw [e4] at hb; exact absurd (List.mem_cons_of_mem _ (g3 j hb)) q1
    · exact .inr h3
end
end Go.Ev

/- Values given back to frames that wait. -/
namespace Go.Ev

section
variable {P : Program} {E : Env} {F : T CFn} {w0 : World} {φ : Phi} {h : H} {w : World} {cs0 : List Frame}

/-- A deferred call's frame gives way: what becomes of the frame under it. -/
def settleF (c : Frame) : Frame :=
  match c.mode with
  | .panicking ({ recovered := true, .. } :: older) =>
    match older.dropWhile (!·.goexit) with
    | [] => { c with mode := .returning }
    | rest => { c with mode := .panicking rest }
  | _ => c

theorem CR.noExit {l : List (AV × Bool)} {l' : List PanicEntry} (h : CR φ l l') : l'.dropWhile (!·.goexit) = [] := by
  induction h with
  | nil => rfl
  | cons _ _ ih => rw [List.dropWhile_cons]; simpa using ih

theorem settle_FR {x : AFr} {fr : Frame} (hf : FR E φ x fr) : FR E φ { x with mode := Ev.settle x.mode } (settleF fr) := by
  obtain ⟨fn, tmps, todo, defers, mode, kind, ro⟩ := fr
  obtain ⟨xfn, xnt, xtm, xtodo, xdefers, xmode, xdfd, xro⟩ := x
  obtain ⟨h1, h2, h3, h4, h5, h6, h7⟩ := hf
  simp only at h1 h2 h3 h4 h5 h6 h7
  cases h5 with
  | run => exact ⟨h1, h2, h3, h4, .run, h6, fun _ => rfl⟩
  | returning => exact ⟨h1, h2, h3, h4, .returning, h6, h7⟩
  | panicking hc =>
    cases hc with
    | nil => exact ⟨h1, h2, h3, h4, .panicking .nil, h6, h7⟩
    | @cons v v' b l l' hv hs =>
      cases b with
      | false => exact ⟨h1, h2, h3, h4, .panicking (.cons hv hs), h6, h7⟩
      | true =>
        have := hs.noExit
        refine ⟨?_, ?_, ?_, ?_, ?_, ?_, fun h => (by cases h7 h)⟩ <;> simp only [settleF, this, Ev.settle] <;> first | assumption | exact .returning

/-- A value comes back. -/
theorem finish_sim {x : AFr} {xs : List AFr} {fr : Frame} {cs : List Frame} {v : AV} {v' : Value} {m : Machine} (hr : HW E w0 φ h w) (hf : FR E φ x fr) (hfs : FRs E φ xs cs) (hv : VR φ v v')
    (hE : EnvOk P E) (hm : Steps P m (lone (fr.finish v') (cs ++ cs0) w)) : Goes P E w0 cs0 (finish v xs h x) m := by
  obtain ⟨fn, tmps, todo, defers, mode, kind, ro⟩ := fr
  obtain ⟨xfn, xnt, xtm, xtodo, xdefers, xmode, xdfd, xro⟩ := x
  obtain ⟨h1, h2, h3, h4, h5, h6, h7⟩ := hf
  simp only at h1 h2 h3 h4 h5 h6 h7
  cases h5 with
  | returning => exact trivial
  | panicking _ => exact trivial
  | run =>
    cases h6 with
    | plain ht hi =>
      cases hi with
      | nil => exact trivial
      | @cons _ _ kx kx' hi hk =>
        cases hi with
        | ops ops td =>
          cases td with
          | nil => exact trivial
          | cons j rest =>
            simp only [finish, List.map_cons]
            rcases ciAt_R E xnt ops j with hbad | ⟨o, ho, q1, q2, q3, q4⟩
            · rw [hbad]; exact trivial
            · generalize hci : ciAt E xnt ops j = i at q1 q3 q4
              obtain ⟨dst, g, op⟩ := i
              simp only at q1
              subst q1
              have hgo : Goes P E w0 cs0 (.one ⟨⟨xfn, xnt, Ev.put xtm o.dst v, .ops (rest.map (ciAt E xnt ops)) :: kx, xdefers, .run, xdfd, xro⟩, xs, h⟩) m := by
                refine ⟨_, hm, φ, _, cs, w, rfl, ⟨?_, ?_, ?_, ?_, ?_, ?_, ?_⟩, hfs, hr⟩
                · exact h1
                · exact h2
                · exact h3
                · exact h4
                · exact .run
                · simp only [Frame.finish, ho, Option.bind_some]
                  have hp := TR.put' (a := ⟨tmps, defers⟩) ht q2 hv
                  refine .plain ?_ (.cons (.ops ops rest) hk)
                  cases hdst : o.dst with
                  | none => rw [hdst] at hp; exact hp
                  | some d => rw [hdst] at hp; exact hp
                · exact fun h => by cases h
              cases op <;> first | exact trivial | exact hgo
        | inRF hl =>
          refine ⟨_, hm, φ, _, cs, w, rfl, ⟨h1, h2, h3, h4, .run, ?_, fun h => by cases h⟩, hfs, hr⟩
          exact .plain ht (.cons (.endRF hl) hk)
        | _ => exact trivial
    | gone ht => exact trivial
    | @drawn Rg k D td e p l kx _ kx' hs he hp ht hi =>
      obtain ⟨⟨⟨dst, g, op⟩, nms⟩, pre, chk⟩ := p
      simp only [finish]
      have hp0 := hp
      have hlt : k < (es' E xnt Rg).length := (List.getElem?_eq_some_iff.1 he).1
      have hdrop : (es' E xnt Rg).drop k = e :: (es' E xnt Rg).drop (k + 1) := by
        rw [List.drop_eq_getElem_cons hlt]
        have := (List.getElem?_eq_some_iff.1 he).2
        rw [this]
      rw [hdrop] at hp
      simp only [phasesFrom, List.cons.injEq, Ph.mk.injEq] at hp
      obtain ⟨⟨hed, hpre, hchk⟩, hl⟩ := hp
      have hci : ciAt E xnt Rg.ops e.j = ⟨dst, g, op⟩ := by
        have h1 : e.d = ⟨ciAt E xnt Rg.ops e.j, namesAt Rg.ops e.j⟩ := by have := (es_get he).2.1; rw [this]; rfl
        rw [h1] at hed
        exact congrArg DI.ci hed
      rcases ciAt_R E xnt Rg.ops e.j with hbad | ⟨o, ho, q1, q2, q3, q4⟩
      · rw [hci] at hbad; cases hbad; exact trivial
      · have hdo : dst = o.dst := by rw [hci] at q1; exact q1
        subst hdo
        have hgo : Goes P E w0 cs0 (onward pre chk l kx xfn xnt (put xtm o.dst v) xdefers xdfd xro xs h) m := by
          refine .steps hm ?_
          have hb : BR' φ xfn xdfd xro (⟨fn, tmps, .inRegion Rg.ops (e.j :: td) :: kx', defers, .run, kind, ro⟩ : Frame) := ⟨h1, h2, h3⟩
          have := eff_done (a := ⟨tmps, defers⟩) (b := ⟨fn, tmps, .inRegion Rg.ops (e.j :: td) :: kx', defers, .run, kind, ro⟩) (P := P) (cs0 := cs0) hE hr hb h4 hi hfs hs he hp0 ht (o := o) (by rw [hci]) q2 hv
          have hf : ((⟨fn, tmps, .inRegion Rg.ops (e.j :: td) :: kx', defers, .run, kind, ro⟩ : Frame).finish v') = (⟨fn, tmps, .inRegion Rg.ops (e.j :: td) :: kx', defers, .run, kind, ro⟩ : Frame).atR ((⟨tmps, defers⟩ : Act).put o.dst v') (.inRegion Rg.ops td :: kx') := by
            simp only [Frame.finish, ho, Option.bind_some]
            cases o.dst <;> rfl
          rw [hf]; exact this
        cases op <;> first | exact trivial | exact hgo

/-- What the model does when a frame is done. -/
def backF (dfd : Bool) (v : Value) (c : Frame) : Frame := match dfd with | true => settleF c | false => c.finish v

theorem give_sim (hE : EnvOk P E) {xs : List AFr} {cs : List Frame} {v : AV} {v' : Value} {m : Machine} {dfd : Bool} (hr : HW E w0 φ h w) (hfs : FRs E φ xs cs) (hv : VR φ v v')
    (hm : ∀ c rest, cs ++ cs0 = c :: rest → Go.step P m = .next (lone (backF dfd v' c) rest w)) : Goes P E w0 cs0 (giveTo dfd v xs h) m := by
  cases hfs with
  | nil => exact trivial
  | @cons x fr xs cs hf hfs =>
    have hm := hm fr (cs ++ cs0) rfl
    cases dfd with
    | true =>
      have := settle_FR hf
      exact ⟨_, .one hm, φ, _, cs, w, rfl, this, hfs, hr⟩
    | false => exact finish_sim hr hf hfs hv hE (.one hm)
end
end Go.Ev

/- Calls: a frame is entered; a round of a loop. -/
namespace Go.Ev

section
variable {P : Program} {E : Env} {F : T CFn} {w0 : World} {φ : Phi} {h : H} {w : World} {cs0 : List Frame}

theorem enter_TR {args : List AV} {args' : Array Value} {n : Nat} (ha : VRs φ args args'.toList) (hn : args.length ≤ n) :
    TR φ n (ofL 0 .leaf args) (args' ++ Array.replicate (n - args'.size) undef) := by
  have hlen := ha.length
  simp only [Array.length_toList] at hlen
  refine ⟨by simp; omega, fun t v ht => ?_⟩
  rw [ofL_get] at ht
  by_cases hlt : t < args.length
  · rw [if_pos (by omega), Nat.sub_zero] at ht
    obtain ⟨v', h1, h2⟩ := ha.get ht
    rw [Array.getElem?_toList] at h1
    rw [Array.getD_eq_getD_getElem?, Array.getElem?_append_left (by omega), h1]
    exact h2
  · rw [if_neg (by omega)] at ht
    cases ht

theorem enter_FR (hT : TabOk P E F) {f : Nat} {g : CFn} {args : List AV} {args' : Array Value} {dfd : Bool} (hg : T.get F f = some g) (ha : VRs φ args args'.toList) (hn : args.length ≤ g.ntmps) :
    FR E φ ⟨f, g.ntmps, ofL 0 .leaf args, [.code g.body], [], .run, dfd, none⟩ (Frame.enter P f args' (kindR dfd)) := by
  obtain ⟨fn, c, h1, h2, h3, rfl⟩ := hT.fn f g hg
  refine ⟨rfl, rfl, .none, .nil, .run, ?_, fun h => (by cases h)⟩
  simp only [Frame.enter, h1, Option.map_some, Option.getD_some, Option.bind_some, h3]
  exact .plain (enter_TR ha hn) (.cons (.code c) .nil)

theorem setParams_R {n : Nat} : ∀ {ps : List Nat} {args : List AV} {args' : List Value} {tm tm' : T AV} {tmps : Array Value}, setParams ps args tm = some tm' → VRs φ args args' → TR φ n tm tmps → (∀ p ∈ ps, p < n) →
    ps.length = args'.length ∧ TR φ n tm' ((ps.zip args').foldl (fun (tmps : Array Value) (x : Nat × Value) => tmps.setIfInBounds x.1 x.2) tmps)
  | [], [], _, tm, tm', tmps, h, ha, ht, _ => by cases ha; simp only [setParams, Option.some.injEq] at h; subst h; exact ⟨rfl, ht⟩
  | p :: ps, a :: as, _, tm, tm', tmps, h, ha, ht, hp => by
    cases ha with
    | cons hv hs =>
      simp only [setParams] at h
      have := ht.put (d := some p) (by show Nat.ble (p + 1) n = true; rw [Nat.ble_eq]; exact hp p (List.mem_cons_self ..)) hv
      obtain ⟨q1, q2⟩ := setParams_R h hs this (fun q hq => hp q (List.mem_cons_of_mem _ hq))
      exact ⟨by simp [q1], by simpa using q2⟩
  | [], _ :: _, _, tm, tm', tmps, h, ha, ht, _ => by simp [setParams] at h
  | _ :: _, [], _, tm, tm', tmps, h, ha, ht, _ => by simp [setParams] at h

theorem HW.loop_at (hr : HW E w0 φ h w) {r : Nat} {l : Loc} {x : ALoop} (hφ : φ r = some l) (hb : H.get h r = some (.loop x)) : ∃ x', w.heap[l.cb]? = some (.loop x') ∧ LR E φ x x' := by
  obtain ⟨o, h1, h2⟩ := hr.hr.blk _ _ _ hφ hb
  cases h2 with
  | loop h => exact ⟨_, h1, h⟩

theorem getLoop_run {l : Nat} {x : Loop} (hb : w.heap[l]? = some (.loop x)) : (Instr.getLoop l).run P w = .ok x w := by simp [Instr.getLoop, getObj, Sem.run, hb]

theorem round_FR {r : Nat} {l : Loc} {x : ALoop} {x' : Loop} {tm : T AV} {args : List AV} {args' : Array Value} {dfd : Bool} (hφ : φ r = some l) (hl : LR E φ x x') (ha : VRs φ args args'.toList) (hs : setParams x.params args x.tmps = some tm) :
    args'.size = x'.params.size ∧ FR E φ ⟨x.fn, x.nt, tm, [.code x.assign, .beginRound, .code x.body], [], .run, dfd, some r⟩
      (Frame.round l.cb x'.fn ((x'.params.zip args').foldl (fun tmps (t, a) => tmps.setIfInBounds t a) x'.tmps) x'.assign x'.body (kindR dfd)) := by
  obtain ⟨q1, q2⟩ := setParams_R hs ha hl.tmps hl.plt
  rw [hl.params] at q1 q2
  refine ⟨by simpa using q1.symm, hl.fn, rfl, .some hφ, .nil, .run, .plain ?_ ?_, fun h => (by cases h)⟩
  · have e : ((x'.params.zip args').foldl (fun (tmps : Array Value) (x : Nat × Value) => tmps.setIfInBounds x.1 x.2) x'.tmps) = ((x'.params.toList.zip args'.toList).foldl (fun (tmps : Array Value) (x : Nat × Value) => tmps.setIfInBounds x.1 x.2) x'.tmps) := by
      rw [← Array.foldl_toList, Array.toList_zip]
    show TR φ x.nt tm ((x'.params.zip args').foldl (fun (tmps : Array Value) (x : Nat × Value) => tmps.setIfInBounds x.1 x.2) x'.tmps)
    rw [e]; exact q2
  · rw [hl.assign, hl.body]
    exact .cons (.code _) (.cons .beginRound (.cons (.code _) .nil))

/-- What follows on a call's answer: the next machine, for the frames that call. -/
def CallGoes (P : Program) (dfd : Bool) (r : Result Next) (fr : Frame) (cs : List Frame) (m : Machine) : Prop :=
  (∀ f args w', r = .ok (.enter f args) w' → Go.step P m = .next (lone (Frame.enter P f args (kindR dfd)) (fr :: cs) w')) ∧
  (∀ l f tmps assign body w', r = .ok (.round l f tmps assign body) w' → Go.step P m = .next (lone (Frame.round l f tmps assign body (kindR dfd)) (fr :: cs) w'))

/-- Calls that are known beforehand. -/
structure MemOk (P : Program) (K : T (List AV × AV)) : Prop where
  ok : ∀ f args v, T.get K f = some (args, v) → ∀ (φ : Phi) (args' : Array Value) (w : World), VRs φ args args'.toList →
    Calls P f args' w fun e w' => ∃ v', e = .returned v' ∧ (∀ φ, VR φ v v') ∧ RowKit.Below w.heap.size w w'

theorem HW.ext {w' : World} (hw : HW E w0 φ h w) (hb : RowKit.Below w.heap.size w w') : HW E w0 φ h w' := by
  have hr := hw.hr
  have hs := hb.size
  have he := hb.block
  refine hw.to ?_ ⟨hb.os, hb.tape, hb.output⟩
  refine ⟨hr.bound, fun b l hφ => Nat.lt_of_lt_of_le (hr.cbound b l hφ) hs, fun b l x hφ hx => ?_, hr.inj, hr.own, fun c hc => ?_, Nat.le_trans hr.size hs⟩
  · obtain ⟨o, h1, h2⟩ := hr.blk b l x hφ hx
    exact ⟨o, by rw [he _ (hr.cbound b l hφ)]; exact h1, h2⟩
  · rw [he c (Nat.lt_of_lt_of_le hc hr.size)]; exact hr.old c hc

theorem memo_inv {K : T (List AV × AV)} {f : Nat} {args : List AV} {v : AV} (h : memo K f args = some v) : T.get K f = some (args, v) := by
  unfold memo at h
  split at h
  · cases h
  · rename_i p hp
    split at h
    · rename_i ha
      cases h
      have := allEq_eq (avEq_eq 20) ha
      rw [hp, ← this]
    · cases h

theorem doCall_sim {K : T (List AV × AV)} (hE : EnvOk P E) (hT : TabOk P E F) (hK : MemOk P K) {f : AFn} {args : List AV} {dfd : Bool} {x : AFr} {xs : List AFr} {fr : Frame} {cs : List Frame} {r : Result Next} {m : Machine}
    (hr : HW E w0 φ h w) (hf : FR E φ x fr) (hfs : FRs E φ xs cs) (hc : Callee P E φ f args r w) (hm : CallGoes P dfd r fr (cs ++ cs0) m) :
    Goes P E w0 cs0 (doCall F K f args dfd x xs h) m := by
  cases f with
  | func f =>
    simp only [doCall]
    cases hg : T.get F f with
    | none => exact trivial
    | some g =>
      simp only
      obtain ⟨args', h1, h2⟩ := hc
      obtain ⟨fn, c, q1, q2, q3, q4⟩ := hT.fn f g hg
      have hen := hm.1 _ _ _ (h2 fn q1 q2 (by rw [q3]; rfl))
      cases hmm : memoD dfd K f args with
      | some v =>
        simp only
        cases dfd with
        | true => cases hmm
        | false =>
          obtain ⟨e, w', fr', ⟨v', rfl, k1, k2⟩, k4, k5, k6⟩ := hK.ok _ _ _ (memo_inv hmm) φ args' w h1 (fr :: (cs ++ cs0))
          exact finish_sim (hr.ext k2) hf hfs (k1 φ) hE (.head hen (Steps.trans k4 (.one (step_leave_returned k6))))
      | none =>
        simp only
        cases hn : Nat.ble args.length g.ntmps with
        | false => exact trivial
        | true => exact ⟨_, .one hen, φ, _, fr :: cs, w, rfl, enter_FR hT hg h1 (ble_true hn), .cons hf hfs, hr⟩
  | yield l =>
    simp only [doCall]
    cases hg : H.get h l with
    | none => exact trivial
    | some bl =>
      cases bl with
      | loop y =>
        simp only
        cases hs : setParams y.params args y.tmps with
        | none => exact trivial
        | some tm =>
          obtain ⟨lo, args', h1, h2, h3⟩ := hc
          obtain ⟨y', g1, g2⟩ := hr.loop_at h1 hg
          obtain ⟨q1, q2⟩ := round_FR (dfd := dfd) h1 g2 h2 hs
          have hrun : r = .ok (.round lo.cb y'.fn ((y'.params.zip args').foldl (fun tmps (t, a) => tmps.setIfInBounds t a) y'.tmps) y'.assign y'.body) w := by
            rw [h3]
            simp only [Instr.yield, Sem.run_bind, getLoop_run g1, Result.andThen_ok, q1, ne_eq, not_true_eq_false, if_false]
            rfl
          have := hm.2 _ _ _ _ _ _ hrun
          exact ⟨_, .one this, φ, _, fr :: cs, w, rfl, q2, .cons hf hfs, hr⟩
      | _ => exact trivial
end
end Go.Ev

/- Behind the operations of a region. -/
namespace Go.Ev

section
variable {P : Program} {E : Env} {F : T CFn} {K : T (List AV × AV)} {w0 : World} {φ : Phi} {h : H} {w : World} {cs0 : List Frame}

theorem call_goes {b : Frame} {a : Act} {ops : Array Oper} {j : Nat} {rest : List Nat} {k : List Item} {cs : List Frame} {o : Oper} (ho : ops[j]? = some o) (hw : Region.wanted o (yielded ops a.tmps) = true) (hd : ∀ c, o.op ≠ .defer c) :
    CallGoes P false ((execOp a.eval o).run P w) (b.atR a (.inRegion ops (j :: rest) :: k)) cs (lone (b.atR a (.inRegion ops (j :: rest) :: k)) cs w) := by
  refine ⟨fun f args w' hx => ?_, fun l f tmps assign body w' hx => ?_⟩
  · apply step_lone_go
    rw [stepGR_op ho hw, Oper.semAt_eq _ _ _ hd]
    simp [stepG.apply, Sem.runT_eq, hx, Frame.atR, kindR]
  · apply step_lone_go
    rw [stepGR_op ho hw, Oper.semAt_eq _ _ _ hd]
    simp [stepG.apply, Sem.runT_eq, hx, Frame.atR, kindR]

theorem notDefer {c : Op} {tm : T AV} {x : R} (hx : exec (compOp E c) h tm = x) (h1 : ∀ f args, x ≠ .dfr f args) (h2 : x ≠ .fail) : ∀ cl, c ≠ .defer cl := by
  intro cl e
  subst e
  simp only [compOp] at hx
  split at hx
  · simp only [exec] at hx
    split at hx
    · exact h1 _ _ hx.symm
    · exact h2 hx.symm
  · simp only [exec] at hx; exact h2 hx.symm

theorem goOps_sim (hE : EnvOk P E) (hT : TabOk P E F) (hK : MemOk P K) {r : OR} {nt fn : Nat} {dfd : Bool} {ro : Option Nat} {b : Frame} {ops : Array Oper} {a : Act} {td : List Nat} {k : List AItem} {k' : List Item} {ds : List ADef} {xs : List AFr} {cs : List Frame}
    (he : OpsEnd E nt ops w0 r φ a td w) (hb : BR' φ fn dfd ro b) (hd : DRs φ ds a.defers) (hk : IRs E φ nt k k') (hfs : FRs E φ xs cs) :
    Goes P E w0 cs0 (goOps F K r k fn nt ds dfd ro xs) (lone (b.atR a (.inRegion ops td :: k')) (cs ++ cs0) w) := by
  cases r with
  | fail => exact trivial
  | fin tm h =>
    obtain ⟨rfl, ht, hr⟩ := he
    exact ⟨_, .one stepR_region_end, φ, _, cs, w, rfl, hb.FR ht hd hk, hfs, hr⟩
  | at_ i l tm h x =>
    obtain ⟨j, rest, o, rfl, ho, hi, rfl, hdst, hdok, hw, hx, hvf, ht, hr⟩ := he
    cases x with
    | val v h' => exact trivial
    | fail => exact trivial
    | call f args =>
      have hnd := notDefer hx (by intro _ _ e; cases e) (by intro e; cases e)
      have hc := sim_call (P := P) (w := w) hr.hr ht.rho hx
      have hfr : FR E φ ⟨fn, nt, tm, .ops (i :: rest.map (ciAt E nt ops)) :: k, ds, .run, dfd, ro⟩ (b.atR a (.inRegion ops (j :: rest) :: k')) := by
        rw [hi]; exact hb.FR ht hd (.cons (.ops ops (j :: rest)) hk)
      exact doCall_sim hE hT hK hr hfr hfs hc (call_goes ho hw hnd)
    | next ws =>
      obtain ⟨y, hy, φ', v', w', s1, s2, s3, s4, s5⟩ := sim_next hr.hr ht.rho hx
      have s4 := hr.to s4 s5
      have hnd := notDefer hx (by intro _ _ e; cases e) (by intro e; cases e)
      have hstep := step_val (b := b) (cs := cs ++ cs0) (k := k') (rest := rest) ho hw hnd s2
      refine ⟨_, List.mem_map.2 ⟨y, hy, rfl⟩, _, .one hstep, φ', _, cs, w', rfl, ?_, hfs.mono s1.1, s4⟩
      have hd' : DRs φ' ds (a.put o.dst v').defers := by
        have : (a.put o.dst v').defers = a.defers := by cases o.dst <;> rfl
        rw [this]; exact hd.mono s1.1
      rw [hdst]
      exact (hb.mono s1.1).FR ((ht.mono s1.1).put' hdok s3) hd' (.cons (.ops ops rest) (hk.mono s1.1))
    | pan v =>
      obtain ⟨v', s1, s2⟩ := sim_pan (P := P) (w := w) hr.hr ht.rho hx
      have hnd := notDefer hx (by intro _ _ e; cases e) (by intro e; cases e)
      have hstep : Go.step P (lone (b.atR a (.inRegion ops (j :: rest) :: k')) (cs ++ cs0) w) = .next (lone ((b.atR a (.inRegion ops (j :: rest) :: k')).raise [{ v := v', recovered := false }]) (cs ++ cs0) w) := by
        apply step_lone_go
        rw [stepGR_op ho hw, Oper.semAt_eq _ _ _ hnd]
        simp [stepG.apply, Sem.runT_eq, s1]
      refine ⟨_, .one hstep, φ, _, cs, w, rfl, ?_, hfs, hr⟩
      rw [Frame.raise_atR, hi]
      have := hb.FR ht hd (.cons (.ops ops (j :: rest)) hk)
      exact ⟨this.fn, this.kind, this.ro, this.defers, .panicking (.cons s2 .nil), this.body, fun h => (by cases h)⟩
    | dfr f args =>
      cases ro with
      | some l => exact trivial
      | none =>
        obtain ⟨d, c, hop, s1, s2⟩ := sim_dfr (P := P) (w := w) hr.hr ht.rho hx
        have hro : b.roundOf = none := by have := hb.ro; cases hbr : b.roundOf with | none => rfl | some _ => rw [hbr] at this; cases this
        have hstep : Go.step P (lone (b.atR a (.inRegion ops (j :: rest) :: k')) (cs ++ cs0) w) = .next (lone (b.atR ({ a with defers := d :: a.defers }.put o.dst undef) (.inRegion ops rest :: k')) (cs ++ cs0) w) := by
          have hf := Frame.finish_atR b { a with defers := d :: a.defers } ops j rest k' undef
          rw [ho] at hf
          simp only [Option.bind_some] at hf
          rw [← hf]
          apply step_lone_go
          rw [stepGR_op ho hw, hro, Oper.semAt_none]
          simp [stepG.apply, Sem.runT_eq, s1, Frame.atR]
        refine ⟨_, .one hstep, φ, _, cs, w, rfl, ?_, hfs, hr⟩
        have hd' : DRs φ (.call f args :: ds) ({ a with defers := d :: a.defers }.put o.dst undef : Act).defers := by
          have : ({ a with defers := d :: a.defers }.put o.dst undef : Act).defers = d :: a.defers := by cases o.dst <;> rfl
          rw [this]; exact .cons s2 hd
        rw [hdst]
        exact hb.FR (TR.put' (a := { a with defers := d :: a.defers }) ht hdok (.tup .nil)) hd' (.cons (.ops ops rest) hk)
    | recover =>
      cases ro with
      | some l => exact trivial
      | none =>
        obtain ⟨s1, c, hop⟩ := sim_rec (P := P) (w := w) hr.hr ht.rho hx
        have hnd := notDefer hx (by intro _ _ e; cases e) (by intro e; cases e)
        have hro : b.roundOf = none := by have := hb.ro; cases hbr : b.roundOf with | none => rfl | some _ => rw [hbr] at this; cases this
        have hf := fun v => Frame.finish_atR b a ops j rest k' v
        rw [ho] at hf
        simp only [Option.bind_some] at hf
        have hdp : ∀ v, (a.put o.dst v).defers = a.defers := by intro v; cases o.dst <;> rfl
        have stepN : ∀ callers, tryRecover (b.atR a (.inRegion ops (j :: rest) :: k')) callers = none →
            Go.step P (lone (b.atR a (.inRegion ops (j :: rest) :: k')) callers w) = .next (lone (b.atR (a.put o.dst .nilIface) (.inRegion ops rest :: k')) callers w) := by
          intro callers hn
          rw [← hf]
          apply step_lone_go
          rw [stepGR_op ho hw, Oper.semAt_eq _ _ _ hnd]
          have hr2 : (b.atR a (.inRegion ops (j :: rest) :: k')).roundOf = none := hro
          simp [stepG.apply, Sem.runT_eq, s1, hr2, hn]
        have nil : ∀ (ys : List AFr) (fs : List Frame), FRs E φ ys fs → tryRecover (b.atR a (.inRegion ops (j :: rest) :: k')) (fs ++ cs0) = none →
            Goes P E w0 cs0 (.one ⟨⟨fn, nt, Ev.put tm i.dst .nili, .ops (rest.map (ciAt E nt ops)) :: k, ds, .run, dfd, none⟩, ys, h⟩) (lone (b.atR a (.inRegion ops (j :: rest) :: k')) (fs ++ cs0) w) := by
          intro ys fs hys hn
          refine ⟨_, .one (stepN _ hn), φ, _, fs, w, rfl, ?_, hys, hr⟩
          rw [hdst]
          exact hb.FR (ht.put' hdok .nili) (by rw [hdp]; exact hd) (.cons (.ops ops rest) hk)
        have hkind : (b.atR a (.inRegion ops (j :: rest) :: k')).kind = kindR dfd := hb.kind
        cases dfd with
        | false =>
          refine nil xs cs hfs ?_
          unfold tryRecover
          rw [hkind]; rfl
        | true =>
          cases hfs with
          | nil => exact trivial
          | @cons x fr xs cs hfr hfs =>
            obtain ⟨ffn, ftmps, ftodo, fdefers, fmode, fkind, fro⟩ := fr
            obtain ⟨xfn, xnt, xtm, xtodo, xdefers, xmode, xdfd, xro⟩ := x
            obtain ⟨h1, h2, h3, h4, h5, h6, h7⟩ := hfr
            simp only at h1 h2 h3 h4 h5 h6 h7
            cases h5 with
            | run => exact nil _ _ (.cons ⟨h1, h2, h3, h4, .run, h6, h7⟩ hfs) (by show tryRecover _ (_ :: (cs ++ cs0)) = none; unfold tryRecover; rw [hkind]; rfl)
            | returning => exact nil _ _ (.cons ⟨h1, h2, h3, h4, .returning, h6, h7⟩ hfs) (by show tryRecover _ (_ :: (cs ++ cs0)) = none; unfold tryRecover; rw [hkind]; rfl)
            | panicking hc =>
              cases hc with
              | nil => exact nil _ _ (.cons ⟨h1, h2, h3, h4, .panicking .nil, h6, h7⟩ hfs) (by show tryRecover _ (_ :: (cs ++ cs0)) = none; unfold tryRecover; rw [hkind]; rfl)
              | @cons v v' q l l' hv hs =>
                cases q with
                | true => exact nil _ _ (.cons ⟨h1, h2, h3, h4, .panicking (.cons hv hs), h6, fun h => (by cases h7 h)⟩ hfs) (by show tryRecover _ (_ :: (cs ++ cs0)) = none; unfold tryRecover; rw [hkind]; rfl)
                | false =>
                  have hstep : Go.step P (lone (b.atR a (.inRegion ops (j :: rest) :: k')) (⟨ffn, ftmps, ftodo, fdefers, .panicking ({ v := v', recovered := false } :: l'), fkind, fro⟩ :: (cs ++ cs0)) w) =
                      .next (lone (b.atR (a.put o.dst v') (.inRegion ops rest :: k')) (⟨ffn, ftmps, ftodo, fdefers, .panicking ({ v := v', recovered := true } :: l'), fkind, fro⟩ :: (cs ++ cs0)) w) := by
                    have htr : tryRecover (b.atR a (.inRegion ops (j :: rest) :: k')) (⟨ffn, ftmps, ftodo, fdefers, .panicking ({ v := v', recovered := false } :: l'), fkind, fro⟩ :: (cs ++ cs0)) =
                        some (v', ⟨ffn, ftmps, ftodo, fdefers, .panicking ({ v := v', recovered := true } :: l'), fkind, fro⟩ :: (cs ++ cs0)) := by
                      unfold tryRecover; rw [hkind]; rfl
                    rw [← hf]
                    apply step_lone_go
                    rw [stepGR_op ho hw, Oper.semAt_eq _ _ _ hnd]
                    have hr2 : (b.atR a (.inRegion ops (j :: rest) :: k')).roundOf = none := hro
                    simp [stepG.apply, Sem.runT_eq, s1, hr2, htr]
                  refine ⟨_, .one hstep, φ, _, ⟨ffn, ftmps, ftodo, fdefers, .panicking ({ v := v', recovered := true } :: l'), fkind, fro⟩ :: cs, w, rfl, ?_, .cons ⟨h1, h2, h3, h4, .panicking (.cons hv hs), h6, fun h => (by cases h7 h)⟩ hfs, hr⟩
                  rw [hdst]
                  exact hb.FR (ht.put' hdok hv) (by rw [hdp]; exact hd) (.cons (.ops ops rest) hk)
end
end Go.Ev

/- The body ends, or leaves. -/
namespace Go.Ev

section
variable {P : Program} {E : Env} {F : T CFn} {w0 : World} {φ : Phi} {h : H} {w w' : World} {cs0 : List Frame}
variable {b c : Frame} {a : Act} {k : List Item} {rest : List Frame} {dfd : Bool} {l : Nat} {v : Value}

theorem round_end (hb : b.roundOf = some l) (hk : b.kind = kindR dfd) (hr : (Instr.endRound l none).run P w = .ok v w') :
    Go.step P (lone (b.atR a []) (c :: rest) w) = .next (lone (backF dfd v c) rest w') :=
  step_lone_go (by cases dfd <;> simp [stepG, stepG.exec, Frame.atR, hb, hk, kindR, Sem.runT_eq, hr, Go.doReturn, backF, settleF] <;> rfl)
theorem round_ret (hb : b.roundOf = some l) (hk : b.kind = kindR dfd) (hr : (Instr.endRound l (some .ret)).run P w = .ok v w') :
    Go.step P (lone (b.atR a (.code .ret :: k)) (c :: rest) w) = .next (lone (backF dfd v c) rest w') :=
  step_lone_go (by cases dfd <;> simp [stepG, stepG.exec, Frame.atR, hb, hk, kindR, Sem.runT_eq, hr, Go.doReturn, backF, settleF] <;> rfl)
theorem round_exit {id : Nat} (hx : Go.exitTo id k = none) (hb : b.roundOf = some l) (hk : b.kind = kindR dfd) (hr : (Instr.endRound l (some (.exit id))).run P w = .ok v w') :
    Go.step P (lone (b.atR a (.code (.exit id) :: k)) (c :: rest) w) = .next (lone (backF dfd v c) rest w') :=
  step_lone_go (by cases dfd <;> simp [stepG, stepG.exec, Frame.atR, hb, hk, hx, kindR, Sem.runT_eq, hr, Go.doReturn, backF, settleF] <;> rfl)
theorem round_goto {t : Nat} (hx : Go.gotoIn t k = none) (hb : b.roundOf = some l) (hk : b.kind = kindR dfd) (hr : (Instr.endRound l (some (.goto t))).run P w = .ok v w') :
    Go.step P (lone (b.atR a (.code (.goto t) :: k)) (c :: rest) w) = .next (lone (backF dfd v c) rest w') :=
  step_lone_go (by cases dfd <;> simp [stepG, stepG.exec, Frame.atR, hb, hk, hx, kindR, Sem.runT_eq, hr, Go.doReturn, backF, settleF] <;> rfl)

theorem setObj_loop {x : Loop} (ob : Obj) (hb : w.heap[l]? = some (.loop x)) : (setObj l ob).run P w = .ok () (setW w l ob) := by simp [setObj, Sem.run, hb, setW]

theorem endRound_run {x : Loop} (hb : w.heap[l]? = some (.loop x)) (j : Option Code) :
    (Instr.endRound l j).run P w = .ok (.bool j.isNone) (setW w l (.loop { x with state := if j.isNone then .ready else .done, pending := j })) := by
  simp only [Instr.endRound, Sem.run_bind, getLoop_run hb, Result.andThen_ok, setObj_loop _ hb, Sem.run_pure]

/-- A loop's record written over. -/
theorem HW.loopOver (hr : HW E w0 φ h w) {r : Nat} {lo : Loc} {x y : ALoop} {y' : Loop} (hφ : φ r = some lo) (hb : H.get h r = some (.loop x)) (hl : LR E φ y y') :
    HW E w0 φ (H.set h r (.loop y)) (setW w lo.cb (.loop y')) := hr.to (w' := setW w lo.cb (.loop y')) (hr.hr.over hφ hb rfl (.loop hl) rfl) ⟨rfl, rfl, rfl⟩

theorem leave_round (hE : EnvOk P E) {jump : Option Code} {fn nt : Nat} {tm : T AV} {todo : List AItem} {ds : List ADef} {r : Nat} {xs : List AFr} {cs : List Frame} {m : Machine}
    (hr : HW E w0 φ h w) (hro : OptR φ (some r) b.roundOf) (hfs : FRs E φ xs cs)
    (hm : ∀ l v w' c rest, b.roundOf = some l → (Instr.endRound l jump).run P w = .ok v w' → cs ++ cs0 = c :: rest → Go.step P m = .next (lone (backF dfd v c) rest w')) :
    Goes P E w0 cs0 (leave (jump.map (compC E nt)) fn nt tm todo ds dfd (some r) xs h) m := by
  simp only [leave]
  cases hg : H.get h r with
  | none => exact trivial
  | some bl =>
    cases bl with
    | loop x =>
      obtain ⟨st, pd, f, n, t, ps, as, bd, d⟩ := x
      generalize hbr : b.roundOf = br at hro hm
      cases hro with
      | @some _ lo hφ =>
        obtain ⟨x', g1, g2⟩ := hr.loop_at hφ hg
        have hrun := fun j => endRound_run (P := P) g1 j
        cases jump with
        | none =>
          simp only [Option.map_none]
          have hr' := hr.loopOver (y := ⟨.ready, none, f, n, t, ps, as, bd, d⟩) (y' := { x' with state := .ready, pending := none }) hφ hg
            ⟨rfl, rfl, g2.fn, g2.tmps, g2.params, g2.plt, g2.assign, g2.body, g2.defers⟩
          exact give_sim hE (v' := .bool true) hr' hfs (.bool true) fun c rest e => hm _ _ _ c rest rfl (hrun none) e
        | some j =>
          simp only [Option.map_some]
          cases hb : Nat.beq n nt with
          | false => exact trivial
          | true =>
          have hn : n = nt := beq_true hb
          subst hn
          have hr' := hr.loopOver (y := ⟨.done, some (compC E n j), f, n, t, ps, as, bd, d⟩) (y' := { x' with state := .done, pending := some j }) hφ hg
            ⟨rfl, rfl, g2.fn, g2.tmps, g2.params, g2.plt, g2.assign, g2.body, g2.defers⟩
          exact give_sim hE (v' := .bool false) hr' hfs (.bool false) fun c rest e => hm _ _ _ c rest rfl (hrun (some j)) e
    | _ => exact trivial
end
end Go.Ev

/- One item of code. -/
namespace Go.Ev

section
variable {P : Program} {E : Env} {F : T CFn} {K : T (List AV × AV)} {w0 : World} {φ : Phi} {h : H} {w : World} {cs0 : List Frame}
variable {b : Frame} {a : Act} {fn nt : Nat} {dfd : Bool} {ro : Option Nat} {tm : T AV} {ds : List ADef} {k : List AItem} {k' : List Item} {xs : List AFr} {cs : List Frame}

theorem stepR_scope {c : Code} : Go.step P (lone (b.atR a (.code (.scope c) :: k')) cs w) = .next (lone (b.atR a (.code c :: .inScope c :: k')) cs w) :=
  step_lone_go (by simp [stepG, stepG.exec, Frame.atR])
theorem stepR_inScope {c : Code} : Go.step P (lone (b.atR a (.inScope c :: k')) cs w) = .next (lone (b.atR a k') cs w) :=
  step_lone_go (by simp [stepG, stepG.exec, Frame.atR])

theorem ro_none {o : Option Nat} (h : OptR φ Option.none o) : o = Option.none := by cases h; rfl

/-- The items that only move on. -/
theorem one_sim {todo : List AItem} {todo' : List Item} {m : Machine} (hr : HW E w0 φ h w) (hb : BR' φ fn dfd ro b) (ht : TR φ nt tm a.tmps) (hd : DRs φ ds a.defers) (hi : IRs E φ nt todo todo') (hfs : FRs E φ xs cs)
    (hm : Go.step P m = .next (lone (b.atR a todo') (cs ++ cs0) w)) : Goes P E w0 cs0 (.one ⟨⟨fn, nt, tm, todo, ds, .run, dfd, ro⟩, xs, h⟩) m :=
  ⟨_, .one hm, φ, _, cs, w, rfl, hb.FR ht hd hi, hfs, hr⟩

theorem code_sim (hE : EnvOk P E) (hT : TabOk P E F) (hK : MemOk P K) (hr : HW E w0 φ h w) (hb : BR' φ fn dfd ro b) (ht : TR φ nt tm a.tmps) (hd : DRs φ ds a.defers) (hk : IRs E φ nt k k') (hfs : FRs E φ xs cs) (c : Code)
    (hnd : ∀ id ops, c ≠ .region id ops true) (hrf : ∀ f ps x y, c ≠ .rangeFunc f ps x y) :
    Goes P E w0 cs0 (stepCode F K (compC E nt c) k fn nt tm ds dfd ro xs h) (lone (b.atR a (.code c :: k')) (cs ++ cs0) w) := by
  cases c with
  | skip => exact one_sim hr hb ht hd hk hfs stepR_skip
  | label l => exact one_sim hr hb ht hd hk hfs stepR_label
  | seq x y => exact one_sim hr hb ht hd (.cons (.code x) (.cons (.code y) hk)) hfs stepR_seq
  | block id x => exact one_sim hr hb ht hd (.cons (.code x) (.cons (.inBlock id) hk)) hfs stepR_block
  | loop x => exact one_sim hr hb ht hd (.cons (.code x) (.cons (.inLoop x) hk)) hfs stepR_loop
  | scope x => exact one_sim hr hb ht hd (.cons (.code x) (.cons (.inScope x) hk)) hfs stepR_scope
  | refuse s => exact trivial
  | cond x y z =>
    simp only [compC, stepCode]
    split
    · rename_i hc
      have := VR.bool_inv (hc ▸ ht.rho x)
      exact one_sim hr hb ht hd (.cons (.code y) hk) hfs (stepR_cond (t := true) this)
    · rename_i hc
      have := VR.bool_inv (hc ▸ ht.rho x)
      exact one_sim hr hb ht hd (.cons (.code z) hk) hfs (stepR_cond (t := false) this)
    · exact trivial
  | region id ops d =>
    cases d with
    | true => exact absurd rfl (hnd id ops)
    | false =>
      have hl : ops.toList.map (compOper E nt ops) = (List.range ops.size).map (ciAt E nt ops) := by
        apply List.ext_getElem?
        intro i
        simp only [List.getElem?_map, Array.getElem?_toList]
        by_cases hi : i < ops.size
        · rw [List.getElem?_range hi, Array.getElem?_eq_getElem hi]; simp [ciAt, hi]
        · rw [Array.getElem?_eq_none (by omega), List.getElem?_eq_none (by simpa using hi)]; rfl
      simp only [compC, compRegion, stepCode, hl]
      refine .steps (.one stepR_region) ?_
      obtain ⟨φ', a', td', w', g1, g2, g3, g4⟩ := ops_run (P := P) (b := b) (k := k') (cs := cs ++ cs0) (ops := ops) hE (List.range ops.size) tm h φ a w ht hr
      by_cases hf : opsL ((List.range ops.size).map (ciAt E nt ops)) tm h = .fail
      · rw [hf]; exact trivial
      · exact .steps (g3 hf) (goOps_sim hE hT hK g4 (hb.mono g1) (by rw [g2]; exact hd.mono g1) (hk.mono g1) (hfs.mono g1))
  | rangeFunc f ps x y => exact absurd rfl (hrf f ps x y)
  | ret =>
    simp only [compC, stepCode]
    cases ro with
    | none =>
      simp only [leave]
      have hro := ro_none hb.ro
      refine ⟨_, .one (stepR_ret hro), φ, _, cs, w, rfl, ?_, hfs, hr⟩
      have := hb.FR ht hd (.cons (.code .ret) hk)
      exact ⟨this.fn, this.kind, this.ro, this.defers, .returning, this.body, fun h => (by cases h)⟩
    | some r =>
      exact leave_round hE (jump := some .ret) hr hb.ro hfs fun l v w' c rest e1 e2 e3 => by rw [e3]; exact round_ret e1 hb.kind e2
  | exit id =>
    simp only [compC, stepCode]
    obtain ⟨x1, x2⟩ := exitTo_R (id := id) hk
    split
    · rename_i r hx
      obtain ⟨r', q1, q2⟩ := x2 _ hx
      exact one_sim hr hb ht hd q2 hfs (stepR_exit q1)
    · rename_i hx
      cases ro with
      | none => exact trivial
      | some r => exact leave_round hE (jump := some (.exit id)) hr hb.ro hfs fun l v w' c rest e1 e2 e3 => by rw [e3]; exact round_exit (x1 hx) e1 hb.kind e2
  | goto l =>
    simp only [compC, stepCode]
    obtain ⟨x1, x2⟩ := gotoIn_R (l := l) hk
    split
    · rename_i r hx
      obtain ⟨r', q1, q2⟩ := x2 _ hx
      exact one_sim hr hb ht hd q2 hfs (stepR_goto q1)
    · rename_i hx
      cases ro with
      | none => exact trivial
      | some r => exact leave_round hE (jump := some (.goto l)) hr hb.ro hfs fun l v w' c rest e1 e2 e3 => by rw [e3]; exact round_goto (x1 hx) e1 hb.kind e2
end
end Go.Ev

/- One item. -/
namespace Go.Ev

section
variable {P : Program} {E : Env} {F : T CFn} {K : T (List AV × AV)} {w0 : World} {φ : Phi} {h : H} {w : World} {cs0 : List Frame}
variable {b : Frame} {a : Act} {fn nt : Nat} {dfd : Bool} {ro : Option Nat} {tm : T AV} {ds : List ADef} {k : List AItem} {k' : List Item} {xs : List AFr} {cs : List Frame}

theorem beginRound_run {l : Nat} {x : Loop} (hb : w.heap[l]? = some (.loop x)) (hs : x.state = .ready) : (Instr.beginRound l).run P w = .ok () (setW w l (.loop { x with state := .busy })) := by
  simp only [Instr.beginRound, Sem.run_bind, getLoop_run hb, Result.andThen_ok, setObj_loop _ hb, hs, Sem.run_pure]

theorem endLoop_run {l : Nat} {x : Loop} (hb : w.heap[l]? = some (.loop x)) (hs : (x.state == .busy) = false) : (Instr.endLoop l).run P w = .ok x.pending (setW w l (.loop { x with state := .exhausted })) := by
  simp only [Instr.endLoop, Sem.run_bind, getLoop_run hb, Result.andThen_ok, hs, Bool.false_eq_true, if_false, setObj_loop _ hb, Sem.run_pure]

theorem item_sim (hE : EnvOk P E) (hT : TabOk P E F) (hK : MemOk P K) (hr : HW E w0 φ h w) (hb : BR' φ fn dfd ro b) (ht : TR φ nt tm a.tmps) (hd : DRs φ ds a.defers) (hk : IRs E φ nt k k') (hfs : FRs E φ xs cs) {i : AItem} {i' : Item} (hi : IR E φ nt i i')
    (hnd : ∀ id ops, i' ≠ .code (.region id ops true)) (hrf : ∀ f ps x y, i' ≠ .code (.rangeFunc f ps x y)) :
    Goes P E w0 cs0 (stepItem F K i k fn nt tm ds dfd ro xs h) (lone (b.atR a (i' :: k')) (cs ++ cs0) w) := by
  cases hi with
  | code c => exact code_sim hE hT hK hr hb ht hd hk hfs c (fun id ops e => hnd id ops (by rw [e])) (fun f ps x y e => hrf f ps x y (by rw [e]))
  | inBlock id => exact one_sim hr hb ht hd hk hfs stepR_inBlock
  | inScope c => exact one_sim hr hb ht hd hk hfs stepR_inScope
  | inLoop c => exact one_sim hr hb ht hd (.cons (.code c) (.cons (.inLoop c) hk)) hfs stepR_inLoop
  | ops ops td =>
    simp only [stepItem]
    obtain ⟨φ', a', td', w', g1, g2, g3, g4⟩ := ops_run (P := P) (b := b) (k := k') (cs := cs ++ cs0) (ops := ops) hE td tm h φ a w ht hr
    by_cases hf : opsL (td.map (ciAt E nt ops)) tm h = .fail
    · rw [hf]; exact trivial
    · exact .steps (g3 hf) (goOps_sim hE hT hK g4 (hb.mono g1) (by rw [g2]; exact hd.mono g1) (hk.mono g1) (hfs.mono g1))
  | inRF _ => exact trivial
  | beginRound =>
    simp only [stepItem]
    cases ro with
    | none => exact trivial
    | some r =>
      simp only
      cases hg : H.get h r with
      | none => exact trivial
      | some bl =>
        cases bl with
        | loop x =>
          obtain ⟨st, pd, f, n, t, ps, as, bd, d⟩ := x
          cases st with
          | ready =>
            have hro := hb.ro
            generalize hbr : b.roundOf = br at hro
            cases hro with
            | @some _ lo hφ =>
              obtain ⟨x', g1, g2⟩ := hr.loop_at hφ hg
              have hrun := beginRound_run (P := P) g1 g2.state
              have hr' := hr.loopOver (y := ⟨.busy, pd, f, n, t, ps, as, bd, d⟩) (y' := { x' with state := .busy }) hφ hg
                ⟨rfl, g2.pending, g2.fn, g2.tmps, g2.params, g2.plt, g2.assign, g2.body, g2.defers⟩
              exact ⟨_, .one (stepR_beginRound hbr hrun), φ, _, cs, _, rfl, hb.FR ht hd hk, hfs, hr'⟩
          | _ => exact trivial
        | _ => exact trivial
  | endRF hφ =>
    rename_i r lo
    simp only [stepItem]
    cases hg : H.get h r with
    | none => exact trivial
    | some bl =>
      cases bl with
      | loop x =>
        obtain ⟨st, pd, f, n, t, ps, as, bd, d⟩ := x
        obtain ⟨x', g1, g2⟩ := hr.loop_at hφ hg
        have hr' := hr.loopOver (y := ⟨.exhausted, pd, f, n, t, ps, as, bd, d⟩) (y' := { x' with state := .exhausted }) hφ hg
          ⟨rfl, g2.pending, g2.fn, g2.tmps, g2.params, g2.plt, g2.assign, g2.body, g2.defers⟩
        have hpd : pd = x'.pending.map (compC E n) := g2.pending
        have hst : x'.state = lsR st := g2.state
        have keyN : (x'.state == .busy) = false → pd = none → Goes P E w0 cs0 (.one ⟨⟨fn, nt, tm, k, ds, .run, dfd, ro⟩, xs, H.set h r (.loop ⟨.exhausted, pd, f, n, t, ps, as, bd, d⟩)⟩) (lone (b.atR a (.endRangeFunc lo.cb :: k')) (cs ++ cs0) w) := by
          intro hs hp
          have hstep := stepR_endRangeFunc (b := b) (a := a) (k := k') (cs := cs ++ cs0) (endLoop_run (P := P) g1 hs)
          cases hpx : x'.pending with
          | none =>
            rw [hpx] at hstep hr'
            exact ⟨_, .one hstep, φ, _, cs, _, rfl, hb.FR ht hd hk, hfs, hr'⟩
          | some j => rw [hpx, hp] at hpd; cases hpd
        have keyS : (x'.state == .busy) = false → ∀ j, pd = some j → n = nt → Goes P E w0 cs0 (.one ⟨⟨fn, nt, tm, .code j :: k, ds, .run, dfd, ro⟩, xs, H.set h r (.loop ⟨.exhausted, pd, f, n, t, ps, as, bd, d⟩)⟩) (lone (b.atR a (.endRangeFunc lo.cb :: k')) (cs ++ cs0) w) := by
          intro hs j hp hn
          have hstep := stepR_endRangeFunc (b := b) (a := a) (k := k') (cs := cs ++ cs0) (endLoop_run (P := P) g1 hs)
          cases hpx : x'.pending with
          | none => rw [hpx, hp] at hpd; cases hpd
          | some c =>
            rw [hpx] at hstep hr'
            rw [hpx, hp] at hpd
            simp only [Option.map_some, Option.some.injEq] at hpd
            subst hn
            rw [hpd]
            exact ⟨_, .one hstep, φ, _, cs, _, rfl, hb.FR ht hd (.cons (.code c) hk), hfs, hr'⟩
        have pick : ∀ q, (x'.state == .busy) = false → pd = q → Goes P E w0 cs0 (match q with
            | some j => (match Nat.beq n nt with
              | true => .one ⟨⟨fn, nt, tm, .code j :: k, ds, .run, dfd, ro⟩, xs, H.set h r (.loop ⟨.exhausted, pd, f, n, t, ps, as, bd, d⟩)⟩
              | false => .fail)
            | none => .one ⟨⟨fn, nt, tm, k, ds, .run, dfd, ro⟩, xs, H.set h r (.loop ⟨.exhausted, pd, f, n, t, ps, as, bd, d⟩)⟩) (lone (b.atR a (.endRangeFunc lo.cb :: k')) (cs ++ cs0) w) := by
          intro q hs hq
          cases q with
          | none => exact keyN hs hq
          | some j =>
            cases hn : Nat.beq n nt with
            | false => simp only [hn]; exact trivial
            | true => simp only [hn]; exact keyS hs j hq (beq_true hn)
        have key := fun hs => pick pd hs rfl
        cases st with
        | busy => exact trivial
        | ready => exact key (by rw [hst]; rfl)
        | done => exact key (by rw [hst]; rfl)
        | exhausted => exact key (by rw [hst]; rfl)
      | _ => exact trivial
end
end Go.Ev

/- A range over a function begins. -/
namespace Go.Ev

section
variable {P : Program} {E : Env} {F : T CFn} {w0 : World} {φ : Phi} {h : H} {w : World} {cs0 : List Frame}
variable {b : Frame} {a : Act} {fn nt : Nat} {dfd : Bool} {ro : Option Nat} {tm : T AV} {ds : List ADef} {k : List AItem} {k' : List Item} {xs : List AFr} {cs : List Frame}

theorem enterLoop_sim (hw : HW E w0 φ h w) (hb : BR' φ fn dfd ro b) (ht : TR φ nt tm a.tmps) {ps : Array Tmp} {x y : Code} (hps : ∀ p ∈ ps.toList, p < nt) {l : Nat} {mark : List ADef} {h' : H}
    (he : Ev.enterLoop fn nt tm ps.toList (compC E nt x) (compC E nt y) ro h = some (l, mark, h')) :
    ∃ φ' lo mark' w', Phi.le φ φ' ∧ (Instr.enterLoop b.fn a.tmps ps x y b.roundOf).run P w = .ok (lo.cb, mark') w' ∧ φ' l = some lo ∧ DRs φ' mark mark' ∧ HW E w0 φ' h' w' := by
  have hro := hb.ro
  have hr := hw.hr
  cases ro with
  | none =>
    have hrn := ro_none hro
    simp only [Ev.enterLoop, Option.some.injEq, Prod.mk.injEq] at he
    obtain ⟨rfl, rfl, rfl⟩ := he
    have hle1 : Phi.le φ (φ.upd h.n ⟨w.heap.size, 0, 0⟩) := Phi.le_upd _ hr.fresh
    have hr1 : HR E w0.heap (φ.upd h.n ⟨w.heap.size, 0, 0⟩) (H.new h (.dfr (some []))) (w.alloc (.deferred (some []))).heap := hr.new rfl (.dfrS .nil) rfl
    have hfr2 := hr1.fresh
    have hle2 : Phi.le (φ.upd h.n ⟨w.heap.size, 0, 0⟩) ((φ.upd h.n ⟨w.heap.size, 0, 0⟩).upd (H.new h (.dfr (some []))).n ⟨w.heap.size + 1, 0, 0⟩) := Phi.le_upd _ hfr2
    refine ⟨_, ⟨w.heap.size + 1, 0, 0⟩, [{ target := .collected w.heap.size, args := #[] }], (w.alloc (.deferred (some []))).alloc (.loop { state := .ready, pending := none, fn := b.fn, tmps := a.tmps, params := ps, assign := x, body := y, defers := w.heap.size }), hle1.trans hle2, ?_, ?_, ?_, ?_⟩
    · simp [Instr.enterLoop, hrn]
    · exact Phi.upd_same _ _ _
    · exact .cons (.mark (hle2 _ _ (Phi.upd_same φ h.n ⟨w.heap.size, 0, 0⟩))) .nil
    · refine hw.to ?_ ⟨rfl, rfl, rfl⟩
      refine hr1.new (l := ⟨w.heap.size + 1, 0, 0⟩) (by simp) (.loop ⟨rfl, rfl, hb.fn, ht.mono (hle1.trans hle2), rfl, hps, rfl, rfl, ⟨w.heap.size, 0, 0⟩, ?_, rfl⟩) rfl
      exact hle2 _ _ (Phi.upd_same φ h.n ⟨w.heap.size, 0, 0⟩)
  | some r =>
    simp only [Ev.enterLoop] at he
    cases hg : H.get h r with
    | none => rw [hg] at he; cases he
    | some bl =>
      rw [hg] at he
      cases bl with
      | loop z =>
        simp only [Option.some.injEq, Prod.mk.injEq] at he
        obtain ⟨rfl, rfl, rfl⟩ := he
        generalize hbr : b.roundOf = br at hro
        cases hro with
        | @some _ lo hφ =>
          obtain ⟨z', g1, g2⟩ := hw.loop_at hφ hg
          obtain ⟨d, d1, d2⟩ := g2.defers
          have hle : Phi.le φ (φ.upd h.n ⟨w.heap.size, 0, 0⟩) := Phi.le_upd _ hr.fresh
          refine ⟨_, ⟨w.heap.size, 0, 0⟩, [], w.alloc (.loop { state := .ready, pending := none, fn := b.fn, tmps := a.tmps, params := ps, assign := x, body := y, defers := z'.defers }), hle, ?_, Phi.upd_same _ _ _, .nil, ?_⟩
          · simp [Instr.enterLoop, getLoop_run g1]
          · refine hw.to ?_ ⟨rfl, rfl, rfl⟩
            exact hr.new (l := ⟨w.heap.size, 0, 0⟩) rfl (.loop ⟨rfl, rfl, hb.fn, ht.mono hle, rfl, hps, rfl, rfl, d, hle _ _ d1, d2⟩) rfl
      | _ => cases he
end
end Go.Ev

/- A range over a function: the call. -/
namespace Go.Ev

section
variable {P : Program} {E : Env} {F : T CFn} {K : T (List AV × AV)} {w0 : World} {φ : Phi} {h : H} {w : World} {cs0 : List Frame}
variable {b : Frame} {a : Act} {fn nt : Nat} {dfd : Bool} {ro : Option Nat} {tm : T AV} {ds : List ADef} {k : List AItem} {k' : List Item} {xs : List AFr} {cs : List Frame}

theorem callee_run2 {f : AFn} {first cap as : List AV} {xv : Value} {as' : Array Value} (hv : VR φ (.fn f first cap) xv) (has : VRs φ as as'.toList) :
    Callee P E φ f (List.append first (List.append as cap)) ((do let d ← Deferred.ofValue xv as'; invoke d.target d.args : Sem Next).run P w) w := by
  cases f with
  | func g =>
    obtain ⟨a', c', e1, h1, h2⟩ := hv.fnF_inv
    refine ⟨a' ++ as' ++ c', ?_, fun fn q1 q2 q3 => ?_⟩
    · simp only [Array.toList_append, List.append_assoc]
      exact h1.append (has.append h2)
    · simp only [e1, Deferred.ofValue, Sem.run_bind, Sem.run_pure, Result.andThen_ok, invoke]
      exact run_callFunc q1 q2 q3 _
  | yield r =>
    cases hv with
    | @fnY _ l hφ =>
      refine ⟨l, #[] ++ as', hφ, ?_, ?_⟩
      · simp only [Array.toList_append]
        show VRs φ ([] ++ (as ++ [])) _
        simpa using has
      · simp only [Deferred.ofValue, Sem.run_bind, Sem.run_pure, Result.andThen_ok, invoke]

theorem rf_goes {g : Operand} {ps : Array Tmp} {x y : Code} {l : Nat} {mark : List Deferred} {w1 : World}
    (he : (Instr.enterLoop b.fn a.tmps ps x y b.roundOf).run P w = .ok (l, mark) w1) :
    CallGoes P false ((do let d ← Deferred.ofValue (a.eval g) #[.func (.yield l) #[] #[]]; invoke d.target d.args : Sem Next).run P w1)
      (b.atR { a with defers := mark ++ a.defers } (.inRangeFunc l :: k')) cs (lone (b.atR a (.code (.rangeFunc g ps x y) :: k')) cs w) := by
  have hev := Frame.eval_atR b { a with defers := mark ++ a.defers } (.inRangeFunc l :: k')
  simp only [Frame.atR] at hev
  have hre : resolve ({ tmps := a.tmps, defers := mark ++ a.defers } : Act).eval { callee := .value g, args := #[.const (.func (.yield l) #[] #[])], argTypes := #[] } 0 = Deferred.ofValue (a.eval g) #[.func (.yield l) #[] #[]] := by
    simp only [resolve]
    have : ({ tmps := a.tmps, defers := mark ++ a.defers } : Act).eval g = a.eval g := by cases g <;> rfl
    rw [this]; simp [Act.eval]
  refine ⟨fun f args w' hx => ?_, fun l' f tmps assign body w' hx => ?_⟩
  · apply step_lone_go
    rw [Sem.run_bind] at hx
    simp [stepG, stepG.exec, Frame.atR, Sem.runT_eq, he, GStep.bare_after, stepG.apply, hev, Sem.run_bind, hre, hx, kindR]
  · apply step_lone_go
    rw [Sem.run_bind] at hx
    simp [stepG, stepG.exec, Frame.atR, Sem.runT_eq, he, GStep.bare_after, stepG.apply, hev, Sem.run_bind, hre, hx, kindR]

theorem rf_sim (hE : EnvOk P E) (hT : TabOk P E F) (hK : MemOk P K) (hr : HW E w0 φ h w) (hb : BR' φ fn dfd ro b) (ht : TR φ nt tm a.tmps) (hd : DRs φ ds a.defers) (hk : IRs E φ nt k k') (hfs : FRs E φ xs cs) (g : Operand) (ps : Array Tmp) (x y : Code) :
    Goes P E w0 cs0 (stepCode F K (compC E nt (.rangeFunc g ps x y)) k fn nt tm ds dfd ro xs h) (lone (b.atR a (.code (.rangeFunc g ps x y) :: k')) (cs ++ cs0) w) := by
  simp only [compC]
  cases hps : ps.toList.all (fun p => Nat.ble (Nat.succ p) nt) with
  | false => exact trivial
  | true =>
    simp only [stepCode]
    have hps' : ∀ p ∈ ps.toList, p < nt := fun p hp => ble_true (List.all_eq_true.1 hps p hp)
    cases he : Ev.enterLoop fn nt tm ps.toList (compC E nt x) (compC E nt y) ro h with
    | none => exact trivial
    | some q =>
      obtain ⟨l, mark, h'⟩ := q
      obtain ⟨φ', lo, mark', w', e1, e2, e3, e4, e5⟩ := enterLoop_sim hr hb ht hps' he
      simp only
      split
      · rename_i f first cap hv
        have hv := hv ▸ (ht.rho g).mono e1
        have hc := callee_run2 (P := P) (E := E) (w := w') (as := [.fn (.yield l) [] []]) (as' := #[.func (.yield lo.cb) #[] #[]]) hv (.cons (.fnY e3) .nil)
        have hfr : FR E φ' ⟨fn, nt, tm, .inRF l :: k, List.append mark ds, .run, dfd, ro⟩ (b.atR { a with defers := mark' ++ a.defers } (.inRangeFunc lo.cb :: k')) :=
          (hb.mono e1).FR (a := { a with defers := mark' ++ a.defers }) (ht.mono e1) (e4.append (hd.mono e1)) (.cons (.inRF e3) (hk.mono e1))
        exact doCall_sim hE hT hK e5 hfr (hfs.mono e1) hc (rf_goes e2)
      · exact trivial
end
end Go.Ev

