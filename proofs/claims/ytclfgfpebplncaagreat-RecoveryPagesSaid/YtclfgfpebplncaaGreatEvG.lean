/- One step, runs, calls, the tables of a program. -/
import Derived.Test.YtclfgfpebplncaaGreatEvF
import Derived.RangeFuncLeaves
set_option linter.unusedVariables false
set_option linter.unusedSimpArgs false
set_option linter.unusedSectionVars false
/- A frame that is not running. -/
namespace Go.Ev

section
variable {P : Program} {E : Env} {F : T CFn} {w0 : World} {φ : Phi} {h : H} {w : World} {cs0 : List Frame}

/-- The results of a function, read. -/
theorem results_R (hE : EnvOk P E) (hr : HW E w0 φ h w) {nt : Nat} {tm : T AV} {tmps : Array Value} (ht : TR φ nt tm tmps) : ∀ (rs : List ResultVar) (l : List AV), results tm h (rs.map (compRes E)) = some l →
    ∃ vs : List Value, VRs φ l vs ∧ (rs.mapM (fun | .tmp t => pure (tmps.getD t undef) | .cell a t => do loadVar t (← asAddr (tmps.getD a undef)) : ResultVar → Sem Value)).run P w = .ok vs w
  | [], l, hx => by simp only [List.map_nil, results, Option.some.injEq] at hx; subst hx; exact ⟨[], .nil, rfl⟩
  | r :: rs, l, hx => by
    rw [List.map_cons] at hx
    simp only [results] at hx
    split at hx
    · cases hx
    · rename_i l1 h1
      obtain ⟨vs, v1, v2⟩ := results_R hE hr ht rs l1 h1
      have key : ∀ (u : AV) (v' : Value), l = u :: l1 → VR φ u v' → ((match r with | .tmp t => pure (tmps.getD t undef) | .cell a t => do loadVar t (← asAddr (tmps.getD a undef))) : Sem Value).run P w = .ok v' w →
          ∃ vs : List Value, VRs φ l vs ∧ ((r :: rs).mapM (fun | .tmp t => pure (tmps.getD t undef) | .cell a t => do loadVar t (← asAddr (tmps.getD a undef)) : ResultVar → Sem Value)).run P w = .ok vs w := by
        intro u v' e hv hrun
        refine ⟨v' :: vs, by rw [e]; exact .cons hv v1, ?_⟩
        rw [List.mapM_cons, Sem.run_bind]
        cases r with
        | tmp t => simp only at hrun ⊢; rw [hrun]; simp only [Result.andThen_ok, Sem.run_bind, v2, Sem.run_pure]
        | cell a t => simp only at hrun ⊢; rw [hrun]; simp only [Result.andThen_ok, Sem.run_bind, v2, Sem.run_pure]
      cases r with
      | tmp t =>
        simp only [compRes, Option.some.injEq] at hx
        exact key _ _ hx.symm (by
          have := ht.rho (a := ⟨tmps, []⟩) (.tmp t)
          exact this) rfl
      | cell a t =>
        simp only [compRes] at hx
        cases hi : Ev.inf E t with
        | none => rw [hi] at hx; simp at hx
        | some i =>
          rw [hi] at hx
          simp only at hx
          cases hag : aggT E t with
          | none => rw [hag] at hx; simp at hx
          | some q =>
            rw [hag] at hx
            have hrho := ht.rho (a := ⟨tmps, []⟩) (.tmp a)
            have hev : ev tm (.t a) = ev tm (opd (.tmp a)) := rfl
            cases q with
            | true =>
              simp only at hx
              split at hx
              · rename_i b o hb
                obtain ⟨lo, hφ, ea⟩ := VR.ptr_inv (hb ▸ hrho)
                split at hx
                · rename_i xs hc
                  simp only [Option.some.injEq] at hx
                  obtain ⟨us, u1, u2, u3⟩ := hr.hr.cellsAt hφ hc (lo.base + o) (fun _ => rfl)
                  have hl := run_loadCells_at P (w := w) u3
                  rw [u1] at hl
                  refine key _ (.agg us.toArray) hx.symm (.agg (by simpa using u2)) ?_
                  have ea' : tmps.getD a undef = .pointer (some ⟨lo.cb, lo.base + o, none⟩) := ea
                  simp only [ea', asAddr, Sem.run_bind, Sem.run_pure, Result.andThen_ok, loadVar, run_agg hE hag, if_true, run_size hE hi, hl]
                · cases hx
              · cases hx
            | false =>
              simp only at hx
              split at hx
              · rename_i b o hb
                obtain ⟨lo, hφ, ea⟩ := VR.ptr_inv (hb ▸ hrho)
                split at hx
                · rename_i rb n c hg
                  split at hx
                  · rename_i v hle hgc
                    simp only [Option.some.injEq] at hx
                    obtain ⟨cs, e, _, c1, c2, c3, c4⟩ := hr.hr.cellsOf_blk hφ hg
                    obtain ⟨v', g1, g2⟩ := c4 o v (ble_true hle) hgc
                    refine key _ v' hx.symm g2 ?_
                    have ea' : tmps.getD a undef = .pointer (some ⟨lo.cb, lo.base + o, none⟩) := ea
                    have hcell : w.cell? ⟨lo.cb, lo.base + o, none⟩ = some v' := by rw [cell_at c1]; exact g1
                    simp [ea', asAddr, loadVar, run_agg hE hag, hcell]
                  · cases hx
                · cases hx
              · cases hx
end
end Go.Ev

/- A frame that is not running: its deferred calls, its results, its panic. -/
namespace Go.Ev

section
variable {P : Program} {E : Env} {F : T CFn} {w0 : World} {φ : Phi} {h : H} {w : World} {cs0 : List Frame}

theorem HW.dfr_at (hr : HW E w0 φ h w) {r : Nat} {l : Loc} {x : List ADef} (hφ : φ r = some l) (hb : H.get h r = some (.dfr (some x))) : ∃ x', w.heap[l.cb]? = some (.deferred (some x')) ∧ DRs φ x x' := by
  obtain ⟨o, h1, h2⟩ := hr.hr.blk _ _ _ hφ hb
  cases h2 with
  | dfrS h => exact ⟨_, h1, h⟩

theorem raise_FR {x : AFr} {fr : Frame} {l : List (AV × Bool)} {l' : List PanicEntry} (hf : FR E φ x fr) (hd : isD x.todo = false) (hc : CR φ l l') : FR E φ { x with mode := Ev.raise x.mode l } (fr.raise l') := by
  obtain ⟨fn, tmps, todo, defers, mode, kind, ro⟩ := fr
  obtain ⟨xfn, xnt, xtm, xtodo, xdefers, xmode, xdfd, xro⟩ := x
  obtain ⟨h1, h2, h3, h4, h5, h6, h7⟩ := hf
  simp only at h1 h2 h3 h4 h5 h6 h7 hd
  have hno : isD xtodo = true → ∀ {p : Prop}, p := fun h => by rw [hd] at h; cases h
  cases h5 with
  | run => exact ⟨h1, h2, h3, h4, .panicking hc, h6, fun h => hno h⟩
  | returning => exact ⟨h1, h2, h3, h4, .panicking hc, h6, fun h => hno h⟩
  | panicking hc' => exact ⟨h1, h2, h3, h4, .panicking (hc.append hc'), h6, fun h => hno h⟩

theorem single_R {l : List AV} {vs : List Value} (h : VRs φ l vs) : VR φ (single l) (if h : vs.toArray.size = 1 then vs.toArray[0] else .tuple vs.toArray) := by
  cases h with
  | nil => exact .tup .nil
  | cons hv hs =>
    cases hs with
    | nil => exact hv
    | cons hv' hs => simp [single]; exact .tup (.cons hv (.cons hv' hs))

theorem results_run (hE : EnvOk P E) (hr : HW E w0 φ h w) {nt : Nat} {tm : T AV} {tmps : Array Value} (ht : TR φ nt tm tmps) {fn : Func} {c : Code} {l : List AV} (hx : results tm h (compF E fn c).results = some l) :
    ∃ v, (Go.results fn tmps).run P w = .ok v w ∧ VR φ (single l) v := by
  obtain ⟨vs, v1, v2⟩ := results_R hE hr ht fn.results.toList l hx
  refine ⟨_, ?_, single_R v1⟩
  unfold Go.results
  rw [Sem.run_bind, Array.mapM_eq_mapM_toList, Sem.run_map]
  erw [v2]
  rfl

theorem take_run {r : Nat} {ds : List Deferred} (hb : w.heap[r]? = some (.deferred (some ds))) : (Instr.takeDeferred r).run P w = .ok ds (setW w r (.deferred none)) := by
  simp [Instr.takeDeferred, getObj, setObj, Sem.run, hb, setW]
end
end Go.Ev

/- One step. -/
namespace Go.Ev

section
variable {P : Program} {E : Env} {F : T CFn} {K : T (List AV × AV)} {w0 : World} {φ : Phi} {h : H} {w : World} {cs0 : List Frame}
variable {b : Frame} {a : Act} {fn nt : Nat} {dfd : Bool} {ro : Option Nat} {tm : T AV} {ds : List ADef} {k : List AItem} {k' : List Item} {xs : List AFr} {cs : List Frame}

/-- One of the orders: it begins. -/
theorem alt_sim (hE : EnvOk P E) (hr : HW E w0 φ h w) (hb : BR' φ fn dfd ro b) (ht : TR φ nt tm a.tmps) (hd : DRs φ ds a.defers) (hk : IRs E φ nt k k') (hfs : FRs E φ xs cs) (Rg : Reg) {td : List Nat} (hreg : regOk (rowsOf E nt Rg) = true)
    (hext : Ext Rg.ops.size Rg.bits [] td) :
    Goes P E w0 cs0 (onward ((preOf (restOf (rowsOf E nt Rg)) (effsOf (rowsOf E nt Rg)) 0).map rowD) ((chk0Of (restOf (rowsOf E nt Rg)) (effsOf (rowsOf E nt Rg))).map rowD)
      (phasesFrom (restOf (rowsOf E nt Rg)) (effsOf (rowsOf E nt Rg)) (effsOf (rowsOf E nt Rg)) 0) k fn nt tm ds dfd ro xs h) (lone (b.atR a (.inRegion Rg.ops td :: k')) (cs ++ cs0) { w with drawn := w.drawn + 1 }) := by
  have hs : DS E nt Rg 0 [] td :=
    ⟨hreg, hext, fun j hj => (by cases hj), fun m e hm => absurd hm (Nat.not_lt_zero m), fun m e _ _ hd => (by cases hd)⟩
  refine onward_sim (k := 0) (w := { w with drawn := w.drawn + 1 }) hE (hr.to (w' := { w with drawn := w.drawn + 1 }) hr.hr ⟨rfl, rfl, rfl⟩) hb hd hk hfs hs ht.size (fun t v hg _ => ht.val t v hg) (fun j _ _ _ hd => (by cases hd)) (fun j _ _ hlt => absurd hlt (Nat.not_lt_zero _)) rfl ?_ rfl
  intro j hj hc hc2 hor
  rcases hor with h1 | ⟨h1, h2, h3⟩
  · exact absurd h1 (Nat.not_lt_zero _)
  · refine List.mem_map.2 ⟨_, ?_, rfl⟩
    unfold chk0Of
    rw [List.mem_filter]
    refine ⟨mem_ne.2 ⟨j, (hext.apart j hj).2, rfl, hc⟩, ?_⟩
    have e1 : cnt (effsOf (rowsOf E nt Rg)) (rw' E nt Rg j) = 0 := h1
    have e2 : clsR (rw' E nt Rg j) = 1 := h2
    have e3 : hasMk (preOf (restOf (rowsOf E nt Rg)) (effsOf (rowsOf E nt Rg)) 0) = true := h3
    rw [e1, e2, e3]; rfl

theorem onward_out (pre chk : List DI) (l : List Ph) (k : List AItem) (fn nt : Nat) (tm : T AV) (ds : List ADef) (dfd : Bool) (ro : Option Nat) (cs : List AFr) (h : H) :
    onward pre chk l k fn nt tm ds dfd ro cs h = .fail ∨ ∃ c, onward pre chk l k fn nt tm ds dfd ro cs h = .one c := by
  unfold onward
  cases pures pre tm h with
  | none => exact .inl rfl
  | some q =>
    obtain ⟨tm', h'⟩ := q
    simp only
    cases checks chk tm' h' with
    | false => exact .inl rfl
    | true => cases l <;> exact .inr ⟨_, rfl⟩

theorem anyOf_mem : ∀ {l : List Out} {r : Out}, anyOf l = r → r = .fail ∨ ∃ cs, r = .many cs ∧ ∀ o ∈ l, ∃ c ∈ cs, o = .one c
  | [], r, h => .inr ⟨[], h.symm, fun o ho => by cases ho⟩
  | o :: l, r, h => by
    simp only [anyOf] at h
    cases o with
    | one c =>
      simp only at h
      rcases anyOf_mem (l := l) rfl with h1 | ⟨cs, h1, h2⟩
      · rw [h1] at h; exact .inl h.symm
      · rw [h1] at h
        refine .inr ⟨c :: cs, h.symm, fun o ho => ?_⟩
        rcases List.mem_cons.1 ho with e | ho
        · exact ⟨c, List.mem_cons_self .., e⟩
        · obtain ⟨c', q1, q2⟩ := h2 o ho
          exact ⟨c', List.mem_cons_of_mem _ q1, q2⟩
    | _ => exact .inl h.symm

theorem anyOf_sim {l : List Out} {o : Out} {m : Machine} (ho : o ∈ l) (h : Goes P E w0 cs0 o m) : Goes P E w0 cs0 (anyOf l) m := by
  rcases anyOf_mem (l := l) rfl with h1 | ⟨cs, h1, h2⟩
  · rw [h1]; exact trivial
  · rw [h1]
    obtain ⟨c, q1, rfl⟩ := h2 o ho
    exact ⟨c, q1, h⟩

/-- A region that draws its order begins. -/
theorem draw_sim (hE : EnvOk P E) (hr : HW E w0 φ h w) (hb : BR' φ fn dfd ro b) (ht : TR φ nt tm a.tmps) (hd : DRs φ ds a.defers) (hk : IRs E φ nt k k') (hfs : FRs E φ xs cs) (id : Nat) (ops : Array Oper) :
    Goes P E w0 cs0 (stepCode F K (compC E nt (.region id ops true)) k fn nt tm ds dfd ro xs h) (lone (b.atR a (.code (.region id ops true) :: k')) (cs ++ cs0) w) := by
  simp only [compC, compRegion]
  cases hbef : befOk ops with
  | false => exact trivial
  | true =>
    simp only
    have hstep : ∀ {o : Out}, Goes P E w0 cs0 o (lone (b.atR a (.inRegion ops (Region.schedule true ops (w.tape w.drawn (.order b.fn id))) :: k')) (cs ++ cs0) { w with drawn := w.drawn + 1 }) → Goes P E w0 cs0 o (lone (b.atR a (.code (.region id ops true) :: k')) (cs ++ cs0) w) := by
      intro o g
      refine .steps (.one stepR_region_draw) ?_
      rw [hE.mixed]; exact g
    have hext := sched_ext hbef (w.tape w.drawn (.order b.fn id))
    cases hreg : regOk (rowsOf E nt (reg0 ops)) with
    | true => exact hstep (alt_sim hE hr hb ht hd hk hfs (reg0 ops) hreg hext)
    | false =>
      simp only
      cases hall : (variants E nt ops 8 (reg0 ops).bits).all fun b => regOk (rowsOf E nt ⟨ops, b⟩) with
      | false => exact trivial
      | true =>
        obtain ⟨v, q1, q2⟩ := variants_ext (E := E) (nt := nt) 8 _ hext
        rw [List.all_eq_true] at hall
        simp only [stepCode, List.map_map]
        refine hstep (anyOf_sim (List.mem_map.2 ⟨v, q1, rfl⟩) ?_)
        exact alt_sim hE hr hb ht hd hk hfs ⟨ops, v⟩ (hall v q1) q2

/-- An effect of such a region. -/
theorem eff_sim (hE : EnvOk P E) (hT : TabOk P E F) (hK : MemOk P K) (hr : HW E w0 φ h w) (hb : BR' φ fn dfd ro b) (hd : DRs φ ds a.defers) (hk : IRs E φ nt k k') (hfs : FRs E φ xs cs)
    {Rg : Reg} {q : Nat} {D td : List Nat} {e : Row} {p : Ph} {l : List Ph} (hs : DS E nt Rg q D (e.j :: td)) (he : (es' E nt Rg)[q]? = some e)
    (hp : phasesFrom (ne' E nt Rg) (es' E nt Rg) ((es' E nt Rg).drop q) q = p :: l) (ht : TRd E φ nt Rg q (e.j :: td) tm a.tmps) :
    Goes P E w0 cs0 (stepItem F K (.drawn p l) k fn nt tm ds dfd ro xs h) (lone (b.atR a (.inRegion Rg.ops (e.j :: td) :: k')) (cs ++ cs0) w) := by
  simp only [stepItem]
  have hlt : q < (es' E nt Rg).length := (List.getElem?_eq_some_iff.1 he).1
  have hdrop : (es' E nt Rg).drop q = e :: (es' E nt Rg).drop (q + 1) := by
    rw [List.drop_eq_getElem_cons hlt]
    have := (List.getElem?_eq_some_iff.1 he).2
    rw [this]
  have hpe : p.eff = ⟨ciAt E nt Rg.ops e.j, namesAt Rg.ops e.j⟩ := by
    have hp' := hp
    rw [hdrop] at hp'
    simp only [phasesFrom, List.cons.injEq] at hp'
    rw [← hp'.1]
    have := (es_get he).2.1
    show e.d = _
    rw [this]; rfl
  have hT' : TR φ nt (only tm (nm' Rg e.j)) a.tmps := only_TR ht.size (hs.names ht)
  have hnm : p.eff.names = nm' Rg e.j := by rw [hpe]; rfl
  have hci : p.eff.ci = ciAt E nt Rg.ops e.j := by rw [hpe]
  rw [hnm, hci]
  rcases ciAt_R E nt Rg.ops e.j with hbad | ⟨o, ho, h1, h2, h3, h4⟩
  · rw [hbad]; exact trivial
  · rw [h1, h4]
    split
    · exact trivial
    · rename_i hw
      have hwc := wanted_R hT' h3 hw
      have hstep := stepR_op_skip (P := P) (b := b) (a := a) (k := k') (cs := cs ++ cs0) (w := w) (ops := Rg.ops) (i := e.j) (rest := td) (by rw [ho]; simpa using hwc)
      rw [ho] at hstep
      simp only [Option.bind_some] at hstep
      exact .steps (.one hstep) (eff_done hE hr hb hd hk hfs hs he hp ht h1 h2 (.tup .nil))
    · rename_i hw
      have hwc := wanted_R hT' h3 hw
      split
      · rename_i v h' hx
        obtain ⟨φ1, v', w1, ⟨s1, s1'⟩, s2, s3, s4, s5⟩ := sim_val hr.hr hT'.rho hE hx
        have s4 := hr.to s4 s5
        have hnd : ∀ c, o.op ≠ .defer c := notDefer hx (by intro _ _ e; cases e) (by intro e; cases e)
        have hstep := step_val (b := b) (cs := cs ++ cs0) (k := k') (rest := td) ho hwc hnd s2
        exact .steps (.one hstep) (eff_done hE s4 (hb.mono s1) (hd.mono s1) (hk.mono s1) (hfs.mono s1) hs he hp (ht.mono s1) h1 h2 s3)
      · rename_i f args hx
        have hnd : ∀ c, o.op ≠ .defer c := notDefer hx (by intro _ _ e; cases e) (by intro e; cases e)
        have hc := sim_call (P := P) (w := w) hr.hr hT'.rho hx
        have hfr : FR E φ ⟨fn, nt, tm, .drawn p l :: k, ds, .run, dfd, ro⟩ (b.atR a (.inRegion Rg.ops (e.j :: td) :: k')) :=
          ⟨hb.fn, hb.kind, hb.ro, hd, .run, .drawn hs he hp ht hk, fun _ => rfl⟩
        exact doCall_sim hE hT hK hr hfr hfs hc (call_goes ho hwc hnd)
      · exact trivial

theorem settleF_eq (c : Frame) : ({ c with mode := Go.settle c.mode } : Frame) = settleF c := by
  obtain ⟨fn, tmps, todo, defers, mode, kind, ro⟩ := c
  unfold settleF Go.settle
  cases mode with
  | run => rfl
  | returning => rfl
  | panicking l =>
    cases l with
    | nil => rfl
    | cons e l =>
      obtain ⟨v, rec, g⟩ := e
      cases rec with
      | false => rfl
      | true => simp only; cases l.dropWhile (!·.goexit) <;> rfl

theorem dfr_goes {fr : Frame} {d : Deferred} {ds' : List Deferred} {f : Nat} {c : Array Value} (hm : fr.mode ≠ .run) (hd : fr.defers = d :: ds') (ht : d.target = .fn (.func f) c) :
    CallGoes P true ((invoke d.target d.args).run P w) { fr with defers := ds' } cs (lone fr cs w) := by
  obtain ⟨t, as⟩ := d
  simp only at ht
  subst ht
  refine ⟨fun f args w' hx => ?_, fun l f tmps assign body w' hx => ?_⟩
  · simp only at hx
    refine step_lone_go ?_
    cases hmode : fr.mode with
    | run => exact absurd hmode hm
    | returning => simp [stepG, Go.unwind, callDeferred, hmode, hd, hx, kindR]
    | panicking chain => simp [stepG, Go.unwind, callDeferred, hmode, hd, hx, kindR]
  · simp only at hx
    refine step_lone_go ?_
    cases hmode : fr.mode with
    | run => exact absurd hmode hm
    | returning => simp [stepG, Go.unwind, callDeferred, hmode, hd, hx, kindR]
    | panicking chain => simp [stepG, Go.unwind, callDeferred, hmode, hd, hx, kindR]

theorem dropD_get (t : Nat) : ∀ (l : List DI) (tm : T AV) (v : AV), T.get (dropD l tm) t = some v → T.get tm t = some v ∧ ∀ i ∈ l, i.ci.dst ≠ some t
  | [], tm, v, h => ⟨h, fun i hi => by cases hi⟩
  | a :: l, tm, v, h => by
    simp only [dropD] at h
    obtain ⟨h1, h2⟩ := dropD_get t l _ v h
    cases hd : a.ci.dst with
    | none =>
      rw [hd] at h1
      refine ⟨h1, fun i hi => ?_⟩
      rcases List.mem_cons.1 hi with e | hi
      · rw [e, hd]; intro e; cases e
      · exact h2 i hi
    | some d =>
      rw [hd] at h1
      simp only [T.get_set] at h1
      by_cases e : t = d
      · rw [if_pos e] at h1; cases h1
      · rw [if_neg e] at h1
        refine ⟨h1, fun i hi => ?_⟩
        rcases List.mem_cons.1 hi with e' | hi
        · rw [e', hd]; intro e''; cases e''; exact e rfl
        · exact h2 i hi

/-- A panic comes to a frame that stands in a region that draws its order. -/
theorem raise_gone {yfn ynt : Nat} {ytm : T AV} {p : Ph} {lp : List Ph} {r : List AItem} {yd : List ADef} {ym : AMode} {ydfd : Bool} {yro : Option Nat} {fr : Frame} {l : List (AV × Bool)} {l' : List PanicEntry}
    (hf : FR E φ ⟨yfn, ynt, ytm, .drawn p lp :: r, yd, ym, ydfd, yro⟩ fr) (hc : CR φ l l') : FR E φ ⟨yfn, ynt, dropD p.chk ytm, [.gone], yd, Ev.raise ym l, ydfd, yro⟩ (fr.raise l') := by
  obtain ⟨fn, tmps, todo, defers, mode, kind, ro⟩ := fr
  obtain ⟨h1, h2, h3, h4, h5, h6, h7⟩ := hf
  simp only at h1 h2 h3 h4 h5 h6 h7
  have hr := h7 rfl
  subst hr
  cases h5
  refine ⟨h1, h2, h3, h4, .panicking hc, ?_, fun h => by cases h⟩
  cases h6 with
  | plain _ hi => have := hi.noD; cases this
  | @drawn Rg q D td e _ _ _ _ _ hs he hp ht hi =>
    refine .gone ⟨ht.size, fun t v hv => ?_⟩
    obtain ⟨g1, g2⟩ := dropD_get t _ _ _ hv
    refine ht.val t v g1 fun j hj hpj hd => ?_
    obtain ⟨e1, e2, e3, e4⟩ := es_get he
    obtain ⟨s1, s2, s3, s4⟩ := hs.head
    have hlt : q < (es' E ynt Rg).length := (List.getElem?_eq_some_iff.1 he).1
    have hdrop : (es' E ynt Rg).drop q = e :: (es' E ynt Rg).drop (q + 1) := by
      rw [List.drop_eq_getElem_cons hlt]
      have := (List.getElem?_eq_some_iff.1 he).2
      rw [this]
    rw [hdrop] at hp
    simp only [phasesFrom, List.cons.injEq] at hp
    have hpc : p.chk = (chkOf (ne' E ynt Rg) (es' E ynt Rg) e q).map rowD := by rw [← hp.1]
    rcases List.mem_cons.1 hj with e' | hj
    · rw [e'] at hpj; exact hpj.1 e3
    · obtain ⟨q1, q2⟩ := s4.apart j hj
      have hbit : tb e.bits j = false := by
        cases hb : tb e.bits j with
        | false => rfl
        | true => rw [e4] at hb; exact absurd (List.mem_cons_of_mem _ (s3 j hb)) q1
      have h2 : cl' E ynt Rg j ≠ 2 := by
        intro h2
        have := reg_maker hs.reg q2 h2 hpj.2 he
        rw [← e4, hbit] at this; cases this
      have := mem_chk (k := q) (e := e) q2 hpj.1 h2 (.inl ⟨hpj.2, hbit⟩)
      exact g2 _ (hpc ▸ this) hd

theorem unwind_sim (hE : EnvOk P E) (hT : TabOk P E F) (hK : MemOk P K) {x : AFr} {fr : Frame} (hr : HW E w0 φ h w) (hf : FR E φ x fr) (hfs : FRs E φ xs cs) (hm : x.mode ≠ .run) :
    Goes P E w0 cs0 (Ev.unwind F K x.fn x.nt x.tm x.todo x.mode x.dfd x.ro xs h x.defers) (lone fr (cs ++ cs0) w) := by
  obtain ⟨fn, tmps, todo, defers, mode, kind, ro⟩ := fr
  obtain ⟨xfn, xnt, xtm, xtodo, xdefers, xmode, xdfd, xro⟩ := x
  obtain ⟨h1, h2, h3, h4, h5, h6, h7⟩ := hf
  simp only at h1 h2 h3 h4 h5 h6 h7 hm
  have hmr : mode ≠ .run := by intro e; subst e; cases h5; exact hm rfl
  unfold Ev.unwind
  cases h4 with
  | @cons d d' dl dl' hd hds =>
    cases hd with
    | @mark bk l hφ =>
      simp only
      split
      · rename_i dd hg
        obtain ⟨x', g1, g2⟩ := hr.dfr_at hφ hg
        have hstep := step_collected (P := P) (fr := ⟨fn, tmps, todo, ⟨.collected l.cb, #[]⟩ :: dl', mode, kind, ro⟩) (cs := cs ++ cs0) hmr rfl rfl (take_run (P := P) g1)
        refine ⟨_, .one hstep, φ, _, cs, _, rfl, ⟨h1, h2, h3, g2.append hds, h5, h6, h7⟩, hfs, ?_⟩
        exact hr.to (w' := setW w l.cb (.deferred none)) (hr.hr.over hφ hg rfl .dfrN rfl) ⟨rfl, rfl, rfl⟩
      · exact trivial
    | @call f args c as ha =>
      simp only
      have hfr : FR E φ ⟨xfn, xnt, xtm, xtodo, dl, xmode, xdfd, xro⟩ (⟨fn, tmps, todo, dl', mode, kind, ro⟩ : Frame) := ⟨h1, h2, h3, hds, h5, h6, h7⟩
      refine doCall_sim hE hT hK (r := (invoke (.fn (.func f) c) as).run P w) hr hfr hfs ?_ (dfr_goes (fr := ⟨fn, tmps, todo, ⟨.fn (.func f) c, as⟩ :: dl', mode, kind, ro⟩) (d := ⟨.fn (.func f) c, as⟩) hmr rfl rfl)
      refine ⟨as ++ c, by simpa using ha, fun fn q1 q2 q3 => ?_⟩
      simp only [invoke]
      exact run_callFunc q1 q2 q3 _
  | nil =>
    simp only
    cases h5 with
    | run => exact absurd rfl hm
    | panicking hc =>
      rename_i l l'
      simp only
      cases hg : T.get F xfn with
      | none => exact trivial
      | some g =>
        simp only
        obtain ⟨fn', c', q1, q2, q3, q4⟩ := hT.fn _ _ hg
        cases hfs with
        | nil => exact trivial
        | @cons y fy ys cs hy hys =>
          simp only
          have hstep := step_going_panicked (P := P) (fr := ⟨fn, tmps, todo, [], .panicking l', kind, ro⟩) (c := fy) (cs := cs ++ cs0) (w := w) (chain := l') ⟨rfl, rfl, fn', by rw [h1]; exact q1⟩
          rw [← Frame.raise_mode] at hstep
          obtain ⟨yfn, ynt, ytm, ytodo, ydefers, ymode, ydfd, yro⟩ := y
          have key : isD ytodo = false → Goes P E w0 cs0 (.one ⟨⟨yfn, ynt, ytm, ytodo, ydefers, Ev.raise ymode l, ydfd, yro⟩, ys, h⟩) (lone (⟨fn, tmps, todo, [], .panicking l', kind, ro⟩ : Frame) (fy :: (cs ++ cs0)) w) :=
            fun hd => ⟨_, .one hstep, φ, _, cs, w, rfl, raise_FR hy hd hc, hys, hr⟩
          cases hd : isD ytodo with
          | true =>
            cases ytodo with
            | nil => cases hd
            | cons i r =>
              cases i with
              | drawn p lp => exact ⟨_, .one hstep, φ, _, cs, w, rfl, raise_gone hy hc, hys, hr⟩
              | _ => cases hd
          | false =>
            have := key hd
            cases ytodo with
            | nil => exact this
            | cons i r => cases i <;> first | (cases hd; done) | exact this
    | returning =>
      simp only
      cases hg : T.get F xfn with
      | none => exact trivial
      | some g =>
        simp only
        obtain ⟨fn', c', q1, q2, q3, rfl⟩ := hT.fn _ _ hg
        have hpl : TR φ xnt xtm tmps := by
          cases h6 with
          | plain ht _ => exact ht
          | gone ht => exact ht
          | drawn => exact absurd (h7 rfl) hm
        split
        · rename_i l hres
          obtain ⟨v, r1, r2⟩ := results_run (w := w) hE hr hpl hres
          have hff : P.funcs[fn]? = some fn' := by rw [h1]; exact q1
          subst h2
          cases hfs with
          | nil =>
            cases xdfd with
            | true => exact trivial
            | false => exact ⟨_, w, φ, v, .refl _ _, h1, ⟨rfl, rfl, rfl, fn', hff, r1⟩, r2, hr⟩
          | @cons y fy ys cs hy hys =>
            simp only [Ev.doReturn]
            refine give_sim (v' := v) hE hr (.cons hy hys) r2 fun c rest e => ?_
            rw [e]
            cases xdfd with
            | false => exact step_leave_returned ⟨rfl, rfl, rfl, fn', hff, r1⟩
            | true =>
              have := step_going_returned (P := P) (fr := ⟨fn, tmps, todo, [], .returning, kindR true, ro⟩) (c := c) (cs := rest) (w := w) (v := v) rfl ⟨rfl, rfl, fn', hff, r1⟩
              rw [settleF_eq] at this
              exact this
        · exact trivial

/-- One step of the abstract machine, answered by the model. -/
theorem step_sim (hE : EnvOk P E) (hT : TabOk P E F) (hK : MemOk P K) {c : Conf} {m : Machine} (hA : At E w0 cs0 c m) : Goes P E w0 cs0 (Ev.step F K c) m := by
  obtain ⟨φ, fr, cs, w, rfl, hf, hfs, hr⟩ := hA.ex
  obtain ⟨x, xs, h⟩ := c
  simp only at hf hfs hr
  cases hmd : x.mode with
  | returning =>
    have := unwind_sim (cs0 := cs0) hE hT hK hr hf hfs (by rw [hmd]; intro e; cases e)
    obtain ⟨xfn, xnt, xtm, xtodo, xdefers, xmode, xdfd, xro⟩ := x
    simp only at hmd; subst hmd; exact this
  | panicking l =>
    have := unwind_sim (cs0 := cs0) hE hT hK hr hf hfs (by rw [hmd]; intro e; cases e)
    obtain ⟨xfn, xnt, xtm, xtodo, xdefers, xmode, xdfd, xro⟩ := x
    simp only at hmd; subst hmd; exact this
  | run =>
    obtain ⟨fn, tmps, todo, defers, mode, kind, ro⟩ := fr
    obtain ⟨xfn, xnt, xtm, xtodo, xdefers, xmode, xdfd, xro⟩ := x
    simp only at hmd; subst hmd
    obtain ⟨h1, h2, h3, h4, h5, h6, h7⟩ := hf
    simp only at h1 h2 h3 h4 h5 h6 h7
    cases h5
    have hb : BR' φ xfn xdfd xro (⟨fn, tmps, todo, defers, .run, kind, ro⟩ : Frame) := ⟨h1, h2, h3⟩
    simp only [Ev.step]
    cases h6 with
    | gone ht => exact trivial
    | @drawn Rg q D td e p l kx _ kx' hs he hp ht hi =>
      exact eff_sim (a := ⟨tmps, defers⟩) (b := ⟨fn, tmps, .inRegion Rg.ops (e.j :: td) :: kx', defers, .run, kind, ro⟩) hE hT hK hr hb h4 hi hfs hs he hp ht
    | plain ht hi =>
      cases hi with
      | nil =>
        simp only
        cases xro with
        | none =>
          simp only [leave]
          have hro : ro = none := ro_none h3
          subst hro
          refine ⟨_, .one (stepR_end (b := ⟨fn, tmps, [], defers, .run, kind, none⟩) (a := ⟨tmps, defers⟩) rfl), φ, _, cs, w, rfl, ⟨h1, h2, .none, h4, .returning, .plain ht .nil, fun h => by cases h⟩, hfs, hr⟩
        | some r =>
          exact leave_round (jump := none) (nt := xnt) (dfd := xdfd) (b := ⟨fn, tmps, [], defers, .run, kind, ro⟩) hE hr h3 hfs fun l v w' c rest e1 e2 e3 => by
            rw [e3]; exact round_end (b := ⟨fn, tmps, [], defers, .run, kind, ro⟩) (a := ⟨tmps, defers⟩) e1 hb.kind e2
      | @cons i i' kx kx' hi hk =>
        simp only
        have hitem : (∀ id ops, i' ≠ .code (.region id ops true)) → (∀ f ps x y, i' ≠ .code (.rangeFunc f ps x y)) →
            Goes P E w0 cs0 (stepItem F K i kx xfn xnt xtm xdefers xdfd xro xs h) (lone (⟨fn, tmps, i' :: kx', defers, .run, kind, ro⟩ : Frame) (cs ++ cs0) w) := fun n1 n2 =>
          item_sim (a := ⟨tmps, defers⟩) (b := ⟨fn, tmps, i' :: kx', defers, .run, kind, ro⟩) hE hT hK hr hb ht h4 hk hfs hi n1 n2
        cases hi with
        | code c =>
          cases c with
          | region id ops d =>
            cases d with
            | true => exact draw_sim (a := ⟨tmps, defers⟩) (b := ⟨fn, tmps, .code (.region id ops true) :: kx', defers, .run, kind, ro⟩) hE hr hb ht h4 hk hfs id ops
            | false => exact hitem (fun _ _ e => by cases e) (fun _ _ _ _ e => by cases e)
          | rangeFunc f ps x y => exact rf_sim (a := ⟨tmps, defers⟩) (b := ⟨fn, tmps, .code (.rangeFunc f ps x y) :: kx', defers, .run, kind, ro⟩) hE hT hK hr hb ht h4 hk hfs f ps x y
          | _ => exact hitem (fun _ _ e => by cases e) (fun _ _ _ _ e => by cases e)
        | _ => exact hitem (fun _ _ e => by cases e) (fun _ _ _ _ e => by cases e)

/-- Whichever way is taken, the model comes to an end that the abstract machine foresees. -/
theorem safe_sim (hE : EnvOk P E) (hT : TabOk P E F) (hK : MemOk P K) {Q : Nat → AV → H → Prop} {c : Conf} (hs : Safe F K Q c) : ∀ {m : Machine}, At E w0 cs0 c m →
    ∃ fn v h fr w φ v', Q fn v h ∧ Steps P m (lone fr cs0 w) ∧ fr.fn = fn ∧ fr.leaving P w (.returned v') ∧ VR φ v v' ∧ HW E w0 φ h w := by
  induction hs with
  | @one c c' h1 h2 ih =>
    intro m hA
    have := step_sim (w0 := w0) (cs0 := cs0) hE hT hK hA
    rw [h1] at this
    obtain ⟨m', s1, s2⟩ := this
    obtain ⟨fn, v, h, fr, w, φ, v', q, s, r⟩ := ih s2
    exact ⟨fn, v, h, fr, w, φ, v', q, s1.trans s, r⟩
  | @many c l h1 h2 ih =>
    intro m hA
    have := step_sim (w0 := w0) (cs0 := cs0) hE hT hK hA
    rw [h1] at this
    obtain ⟨c', hc, m', s1, s2⟩ := this
    obtain ⟨fn, v, h, fr, w, φ, v', q, s, r⟩ := ih c' hc s2
    exact ⟨fn, v, h, fr, w, φ, v', q, s1.trans s, r⟩
  | @done c fn v h h1 h2 =>
    intro m hA
    have := step_sim (w0 := w0) (cs0 := cs0) hE hT hK hA
    rw [h1] at this
    obtain ⟨fr, w, φ, v', s1, s2, s3, s4, s5⟩ := this
    exact ⟨fn, v, h, fr, w, φ, v', h2, s1, s2, s3, s4, s5⟩
end
end Go.Ev

/- Runs of the abstract machine, and what follows of the model. -/
namespace Go.Ev

/-! runs -/
section
variable (F : T CFn) (K : T (List AV × AV))

/-- All ways end with what is asked. -/
noncomputable def runQ (q : Nat → AV → Bool) : Nat → Conf → Bool
  | 0 => fun _ => false
  | Nat.succ n => fun c => match step F K c with
    | .one c => runQ q n c
    | .many l => List.foldr (fun c (b : Bool) => match runQ q n c with | true => b | false => false) true l
    | .done fn v _ => q fn v
    | .fail => false

/-- The confs at which all ways stop. -/
noncomputable def runS (s : Conf → Bool) : Nat → Conf → Option (List Conf)
  | 0 => fun _ => none
  | Nat.succ n => fun c => match s c with
    | true => some [c]
    | false => match step F K c with
      | .one c => runS s n c
      | .many l => List.foldr (fun c (b : Option (List Conf)) => match runS s n c with | some x => (match b with | some y => some (List.append x y) | none => none) | none => none) (some []) l
      | .done _ _ _ => none
      | .fail => none
end

/-- At the bottom frame a temporary is set. -/
noncomputable def stopAt (d : Nat) (c : Conf) : Bool :=
  match c with
  | ⟨⟨_, _, tm, _, _, _, _, _⟩, cs, _⟩ => match cs with
    | [] => (match T.get tm d with | some _ => true | none => false)
    | _ => false

/-- Some temporaries and blocks are kept, the others given up. -/
noncomputable def onlyB (t : T Blk) : List Nat → T Blk
  | [] => .leaf
  | b :: r => match T.get t b with
    | some x => T.set (onlyB t r) b (some x)
    | none => onlyB t r

noncomputable def trim (ts bs : List Nat) (n : Nat) (c : Conf) : Option Conf :=
  match c with
  | ⟨⟨fn, nt, tm, todo, ds, mode, dfd, ro⟩, cs, h⟩ => match Nat.ble h.n n with
    | true => some ⟨⟨fn, nt, only tm ts, todo, ds, mode, dfd, ro⟩, cs, ⟨n, onlyB h.t bs⟩⟩
    | false => none

/-- A function's call begins. -/
noncomputable def start (F : T CFn) (f : Nat) (args : List AV) : Option Conf := match T.get F f with
  | some g => (match Nat.ble args.length g.ntmps with
    | true => some ⟨⟨f, g.ntmps, ofL 0 .leaf args, [.code g.body], [], .run, false, none⟩, [], ⟨0, .leaf⟩⟩
    | false => none)
  | none => none

section
variable {P : Program} {E : Env} {F : T CFn} {K : T (List AV × AV)}

/-- Wherever the model stands so, it comes to an end that is asked. -/
def Good (P : Program) (E : Env) (Q : Nat → AV → Prop) (c : Conf) : Prop :=
  ∀ (w0 : World) (cs0 : List Frame) (m : Machine), At E w0 cs0 c m → ∃ fn v h fr w φ v', Q fn v ∧ Steps P m (lone fr cs0 w) ∧ fr.fn = fn ∧ fr.leaving P w (.returned v') ∧ VR φ v v' ∧ HW E w0 φ h w

theorem good_step (hE : EnvOk P E) (hT : TabOk P E F) (hK : MemOk P K) {Q : Nat → AV → Prop} {c : Conf} (h : match step F K c with
    | .one c' => Good P E Q c' | .many l => ∀ c' ∈ l, Good P E Q c' | .done fn v _ => Q fn v | .fail => False) : Good P E Q c := by
  intro w0 cs0 m hA
  have := step_sim (w0 := w0) (cs0 := cs0) hE hT hK hA
  cases hs : step F K c with
  | one c' =>
    rw [hs] at this h
    obtain ⟨m', s1, s2⟩ := this
    obtain ⟨fn, v, h, fr, w, φ, v', q, s, r⟩ := h w0 cs0 m' s2
    exact ⟨fn, v, h, fr, w, φ, v', q, s1.trans s, r⟩
  | many l =>
    rw [hs] at this h
    obtain ⟨c', hc, m', s1, s2⟩ := this
    obtain ⟨fn, v, h, fr, w, φ, v', q, s, r⟩ := h c' hc w0 cs0 m' s2
    exact ⟨fn, v, h, fr, w, φ, v', q, s1.trans s, r⟩
  | done fn v h' =>
    rw [hs] at this h
    obtain ⟨fr, w, φ, v', s1, s2, s3, s4, s5⟩ := this
    exact ⟨fn, v, h', fr, w, φ, v', h, s1, s2, s3, s4, s5⟩
  | fail => rw [hs] at h; exact h.elim

theorem good_runQ (hE : EnvOk P E) (hT : TabOk P E F) (hK : MemOk P K) {q : Nat → AV → Bool} : ∀ (n : Nat) (c : Conf), runQ F K q n c = true → Good P E (fun fn v => q fn v = true) c
  | 0, c, h => by simp [runQ] at h
  | n + 1, c, h => by
    simp only [runQ] at h
    refine good_step hE hT hK ?_
    cases hs : step F K c with
    | one c' => rw [hs] at h; exact good_runQ hE hT hK n c' h
    | many l =>
      rw [hs] at h
      simp only at h ⊢
      have key : ∀ l : List Conf, List.foldr (fun c (b : Bool) => match runQ F K q n c with | true => b | false => false) true l = true → ∀ c ∈ l, runQ F K q n c = true := by
        intro l
        induction l with
        | nil => intro _ c hc; cases hc
        | cons a l ih =>
          intro h c hc
          simp only [List.foldr] at h
          split at h
          · rename_i ha
            rcases List.mem_cons.1 hc with e | hc
            · rw [e]; exact ha
            · exact ih h c hc
          · cases h
      exact fun c' hc => good_runQ hE hT hK n c' (key l h c' hc)
    | done fn v h' => rw [hs] at h; exact h
    | fail => rw [hs] at h; cases h

theorem good_runS (hE : EnvOk P E) (hT : TabOk P E F) (hK : MemOk P K) {Q : Nat → AV → Prop} {s : Conf → Bool} : ∀ (n : Nat) (c : Conf) (l : List Conf), runS F K s n c = some l → (∀ c' ∈ l, Good P E Q c') → Good P E Q c
  | 0, c, l, h, _ => by simp [runS] at h
  | n + 1, c, l, h, hl => by
    simp only [runS] at h
    split at h
    · simp only [Option.some.injEq] at h; subst h; exact hl c (List.mem_cons_self ..)
    · refine good_step hE hT hK ?_
      cases hs : step F K c with
      | one c' => rw [hs] at h; exact good_runS hE hT hK n c' l h hl
      | many cs =>
        rw [hs] at h
        simp only at h ⊢
        have key : ∀ (cs : List Conf) (l : List Conf), List.foldr (fun c (b : Option (List Conf)) => match runS F K s n c with | some x => (match b with | some y => some (List.append x y) | none => none) | none => none) (some []) cs = some l →
            ∀ c ∈ cs, ∃ x, runS F K s n c = some x ∧ ∀ y ∈ x, y ∈ l := by
          intro cs
          induction cs with
          | nil => intro l _ c hc; cases hc
          | cons a cs ih =>
            intro l h c hc
            simp only [List.foldr] at h
            split at h
            · rename_i x hx
              split at h
              · rename_i y hy
                simp only [Option.some.injEq] at h; subst h
                rcases List.mem_cons.1 hc with e | hc
                · rw [e]; exact ⟨x, hx, fun z hz => List.mem_append_left _ hz⟩
                · obtain ⟨x', g1, g2⟩ := ih y hy c hc
                  exact ⟨x', g1, fun z hz => List.mem_append_right _ (g2 z hz)⟩
              · cases h
            · cases h
        intro c' hc
        obtain ⟨x, g1, g2⟩ := key cs l h c' hc
        exact good_runS hE hT hK n c' x g1 fun y hy => hl y (g2 y hy)
      | done fn v h' => rw [hs] at h; cases h
      | fail => rw [hs] at h; cases h

theorem onlyB_get (t : T Blk) (b : Nat) : ∀ l : List Nat, T.get (onlyB t l) b = if b ∈ l then T.get t b else none
  | [] => by simp [onlyB, T.get_leaf]
  | x :: l => by
    simp only [onlyB]
    cases hx : T.get t x with
    | none =>
      simp only []
      rw [onlyB_get t b l]
      by_cases e : b = x
      · subst e; simp [hx]
      · simp [e]
    | some v =>
      simp only []
      rw [T.get_set, onlyB_get t b l]
      by_cases e : b = x
      · subst e; simp [hx]
      · simp [e]

theorem At.trim {w0 : World} {cs0 : List Frame} {ts bs : List Nat} {n : Nat} {c c' : Conf} {m : Machine} (hA : At E w0 cs0 c m) (ht : Ev.trim ts bs n c = some c') : At E w0 cs0 c' m := by
  obtain ⟨φ, fr, cs, w, rfl, hf, hfs, hr⟩ := hA.ex
  obtain ⟨⟨fn, nt, tm, todo, ds, mode, dfd, ro⟩, xs, h⟩ := c
  simp only [Ev.trim] at ht
  split at ht
  · rename_i hn
    simp only [Option.some.injEq] at ht; subst ht
    have hn := ble_true hn
    have ex : ∀ {b : Nat} {x : Blk}, H.get ⟨n, onlyB h.t bs⟩ b = some x → H.get h b = some x := by
      intro b x hx
      have hx : T.get (onlyB h.t bs) b = some x := hx
      rw [onlyB_get] at hx
      by_cases e : b ∈ bs
      · rw [if_pos e] at hx; exact hx
      · rw [if_neg e] at hx; cases hx
    have ext : ∀ {t : Nat} {v : AV}, T.get (only tm ts) t = some v → T.get tm t = some v := by
      intro t v hv
      rw [only_get] at hv
      by_cases e : t ∈ ts
      · rw [if_pos e] at hv; exact hv
      · rw [if_neg e] at hv; cases hv
    refine ⟨φ, fr, cs, w, rfl, ⟨hf.fn, hf.kind, hf.ro, hf.defers, hf.mode, ?_, hf.dr⟩, hfs, ?_⟩
    · have hb := hf.body
      simp only at hb
      generalize fr.tmps = q1 at hb ⊢
      generalize fr.todo = q2 at hb ⊢
      cases hb with
      | plain ht hi => exact .plain ⟨ht.size, fun t v hv => ht.val t v (ext hv)⟩ hi
      | gone ht => exact .gone ⟨ht.size, fun t v hv => ht.val t v (ext hv)⟩
      | drawn hs he hp ht hi => exact .drawn hs he hp ⟨ht.size, fun t v hv => ht.val t v (ext hv)⟩ hi
    · have hw := hr
      have hr := hw.hr
      refine ⟨?_, hw.like⟩
      exact ⟨fun b l hb => Nat.lt_of_lt_of_le (hr.bound b l hb) hn, hr.cbound, fun b l x hb hx => hr.blk b l x hb (ex hx), fun b b' l l' x x' h1 h2 h3 h4 => hr.inj b b' l l' x x' h1 h2 (ex h3) (ex h4),
        fun b l x hb hx => hr.own b l x hb (ex hx), hr.old, hr.size⟩
  · cases ht

theorem good_trim {Q : Nat → AV → Prop} {ts bs : List Nat} {n : Nat} {c c' : Conf} (ht : Ev.trim ts bs n c = some c') (hg : Good P E Q c') : Good P E Q c :=
  fun w0 cs0 m hA => hg w0 cs0 m (hA.trim ht)

/-- A segment of a run. -/
noncomputable def seg (F : T CFn) (K : T (List AV × AV)) (d : Nat) (ts bs : List Nat) (n fuel : Nat) (c : Conf) : Option (List (Option Conf)) :=
  match runS F K (stopAt d) fuel c with
  | some l => some (l.map (trim ts bs n))
  | none => none

theorem good_seg (hE : EnvOk P E) (hT : TabOk P E F) (hK : MemOk P K) {Q : Nat → AV → Prop} {d : Nat} {ts bs : List Nat} {n fuel k : Nat} {c c' : Conf} (h : seg F K d ts bs n fuel c = some (List.replicate k (some c'))) (hg : Good P E Q c') : Good P E Q c := by
  unfold seg at h
  split at h
  · rename_i l hl
    simp only [Option.some.injEq] at h
    refine good_runS hE hT hK fuel c l hl fun x hx => ?_
    have : trim ts bs n x ∈ List.replicate k (some c') := by rw [← h]; exact List.mem_map.2 ⟨x, hx, rfl⟩
    exact good_trim (List.eq_of_mem_replicate this) hg
  · cases h

/-! calls -/
theorem HR.none (m : Array Obj) : HR E m (fun _ => Option.none) ⟨0, .leaf⟩ m :=
  ⟨fun _ _ h => (by cases h), fun _ _ h => (by cases h), fun _ _ _ h => (by cases h), fun _ _ _ _ _ _ h => (by cases h), fun _ _ _ h => (by cases h), fun _ _ => rfl, Nat.le_refl _⟩

theorem calls_of_good (hT : TabOk P E F) {Q : Nat → AV → Prop} {f : Nat} {args : List AV} {c : Conf} (hs : start F f args = some c) (hg : Good P E Q c) {args' : Array Value} (ha : VRs (fun _ => none) args args'.toList) (w : World)
    {R : Ending → World → Prop} (hQ : ∀ fn v h φ v' (w' : World), Q fn v → VR φ v v' → HW E w φ h w' → fn = f ∧ R (.returned v') w') : Calls P f args' w R := by
  intro cs
  unfold start at hs
  split at hs
  · rename_i g hgf
    split at hs
    · rename_i hn
      simp only [Option.some.injEq] at hs; subst hs
      have hA : At E w cs ⟨⟨f, g.ntmps, ofL 0 .leaf args, [.code g.body], [], .run, false, Option.none⟩, [], ⟨0, .leaf⟩⟩ (lone (Frame.enter P f args' .normal) cs w) :=
        ⟨_, _, [], w, rfl, enter_FR (dfd := false) hT hgf ha (ble_true hn), .nil, ⟨.none _, .refl _⟩⟩
      obtain ⟨fn, v, h, fr, w', φ, v', q, s1, s2, s3, s4, s5⟩ := hg _ _ _ hA
      obtain ⟨e, hR⟩ := hQ fn v h φ v' w' q s4 s5
      exact ⟨.returned v', w', fr, hR, s1, by rw [s2, e], s3⟩
    · cases hs
  · cases hs

/-- A value that names no block. -/
def noRef : Nat → AV → Bool
  | 0, _ => false
  | d + 1, v => match v with
    | .bool _ => true
    | .int _ _ => true
    | .str _ => true
    | .nilp => true
    | .nils => true
    | .nilm => true
    | .nilf => true
    | .nili => true
    | .fn (.func _) a c => a.all (noRef d) && c.all (noRef d)
    | .ifc _ v => noRef d v
    | .agg l => l.all (noRef d)
    | .tup l => l.all (noRef d)
    | _ => false

theorem noRef_R : ∀ (d : Nat) (v : AV), noRef d v = true → ∀ {φ φ' : Phi} {v' : Value}, VR φ v v' → VR φ' v v'
  | 0, v, h, φ, φ', v', _ => by simp [noRef] at h
  | d + 1, v, h, φ, φ', v', hv => by
    have hl : ∀ (l : List AV) (l' : List Value), l.all (noRef d) = true → VRs φ l l' → VRs φ' l l' := by
      intro l
      induction l with
      | nil => intro l' _ h; cases h; exact .nil
      | cons a l ih =>
        intro l' ha h
        simp only [List.all_cons, Bool.and_eq_true] at ha
        cases h with | cons h1 h2 => exact .cons (noRef_R d a ha.1 h1) (ih _ ha.2 h2)
    cases hv with
    | bool b => exact .bool b
    | int k n => exact .int k n
    | str hs => exact .str hs
    | nilp => exact .nilp
    | nils => exact .nils
    | nilm => exact .nilm
    | nilf => exact .nilf
    | nili => exact .nili
    | ptr _ => simp [noRef] at h
    | slcX _ _ _ _ => simp [noRef] at h
    | slcU _ _ _ _ => simp [noRef] at h
    | map _ => simp [noRef] at h
    | fnF ha hc => simp only [noRef, Bool.and_eq_true] at h; exact .fnF (hl _ _ h.1 ha) (hl _ _ h.2 hc)
    | fnY _ => simp [noRef] at h
    | ifc hv => simp only [noRef] at h; exact .ifc (noRef_R d _ h hv)
    | agg ha => simp only [noRef] at h; exact .agg (hl _ _ h ha)
    | tup ha => simp only [noRef] at h; exact .tup (hl _ _ h ha)
    | opq _ => exact .opq _
    | unk _ => exact .unk _

theorem noRefs_R {d : Nat} : ∀ {l : List AV} {l' : List Value}, l.all (noRef d) = true → ∀ {φ φ' : Phi}, VRs φ l l' → VRs φ' l l'
  | [], _, _, φ, φ', h => by cases h; exact .nil
  | a :: l, _, ha, φ, φ', h => by
    simp only [List.all_cons, Bool.and_eq_true] at ha
    cases h with | cons h1 h2 => exact .cons (noRef_R d a ha.1 h1) (noRefs_R ha.2 h2)

/-- One call more that is known beforehand. -/
theorem MemOk.add (hK : MemOk P K) (hT : TabOk P E F) {f : Nat} {args : List AV} {v : AV} {c : Conf} (hs : start F f args = some c) (hg : Good P E (fun fn u => fn = f ∧ u = v) c) (ha : args.all (noRef 20) = true) (hv : noRef 20 v = true) :
    MemOk P (T.set K f (some (args, v))) := by
  refine ⟨fun f' args' v' hk φ vs w hvs => ?_⟩
  rw [T.get_set] at hk
  by_cases e : f' = f
  · subst e
    rw [if_pos rfl] at hk
    cases hk
    refine calls_of_good hT hs hg (noRefs_R ha hvs) w fun fn u h φ' u' w' q hu hr => ?_
    obtain ⟨rfl, rfl⟩ := q
    exact ⟨rfl, u', rfl, fun φ => noRef_R 20 _ hv hu, ⟨hr.like.os, hr.like.tape, hr.like.output, hr.hr.size, fun k hk => hr.hr.old k hk⟩⟩
  · rw [if_neg e] at hk
    exact hK.ok _ _ _ hk φ vs w hvs

theorem MemOk.leaf : MemOk P .leaf := ⟨fun f args v h => by rw [T.get_leaf] at h; cases h⟩
end
end Go.Ev

/- The tables of a program. -/
namespace Go.Ev

theorem infFrom_get : ∀ (l : List TypeInfo) (n : Nat) (t : T TypeInfo) (i : Nat), T.get (infFrom n l t) i = if n ≤ i ∧ i < n + l.length then l[i - n]? else T.get t i
  | [], n, t, i => by simp [infFrom]; omega
  | a :: l, n, t, i => by
    rw [infFrom, infFrom_get l (n + 1), T.get_set]
    by_cases h1 : n + 1 ≤ i ∧ i < n + 1 + l.length
    · rw [if_pos h1, if_pos (by simp; omega)]
      obtain ⟨k, rfl⟩ : ∃ k, i = n + 1 + k := ⟨i - (n + 1), by omega⟩
      rw [show n + 1 + k - (n + 1) = k by omega, show n + 1 + k - n = k + 1 by omega]; simp
    · rw [if_neg h1]
      by_cases h2 : i = n
      · subst h2; rw [if_pos rfl, if_pos (by simp)]; simp
      · rw [if_neg h2, if_neg (by simp; omega)]

noncomputable def envOf (P : Program) (S : List Nat) : Env := ⟨infFrom 0 P.types.toList .leaf, S⟩
noncomputable def tabOf (P : Program) (E : Env) : T CFn := tabFrom E 0 P.funcs.toList .leaf

theorem envOk (P : Program) (S : List Nat) (hs : S.all (fun t => !(P.stoodInHeld t) && !(P.eqGuardType P.depth t)) = true) (hm : P.follows .mixedOrders = true) : EnvOk P (envOf P S) := by
  refine ⟨fun t i h => ?_, fun t ht => ?_, hm⟩
  · have h : T.get (infFrom 0 P.types.toList .leaf) t = some i := h
    rw [infFrom_get] at h
    split at h
    · rw [Nat.sub_zero] at h
      have h : P.types[t]? = some i := by simpa using h
      have hlt : t < P.types.size := (Array.getElem?_eq_some_iff.1 h).1
      unfold Tables.info?
      rw [if_pos hlt]; exact h
    · rw [T.get_leaf] at h; cases h
  · have := List.all_eq_true.1 hs t ht
    simpa using this

theorem tabFrom_get (E : Env) : ∀ (l : List Func) (n : Nat) (t : T CFn) (i : Nat) (g : CFn), (∀ i g, n ≤ i → T.get t i = some g → False) → T.get (tabFrom E n l t) i = some g → T.get t i = some g ∨ ∃ fn c, n ≤ i ∧ l[i - n]? = some fn ∧ fn.body = some c ∧ g = compF E fn c
  | [], n, t, i, g, _, h => .inl h
  | a :: l, n, t, i, g, ht, h => by
    rw [tabFrom] at h
    cases hb : a.body with
    | none =>
      rw [hb] at h
      rcases tabFrom_get E l (n + 1) t i g (fun i g hi => ht i g (by omega)) h with h | ⟨fn, c, h1, h2, h3, h4⟩
      · exact .inl h
      · refine .inr ⟨fn, c, by omega, ?_, h3, h4⟩
        rw [show i - n = (i - (n + 1)) + 1 by omega]; simpa using h2
    | some c =>
      rw [hb] at h
      simp only at h
      rcases tabFrom_get E l (n + 1) _ i g (fun i g hi hg => by rw [T.get_set, if_neg (by omega)] at hg; exact ht i g (by omega) hg) h with h | ⟨fn, c', h1, h2, h3, h4⟩
      · rw [T.get_set] at h
        by_cases e : i = n
        · rw [if_pos e] at h; cases h
          exact .inr ⟨a, c, by omega, by rw [e, Nat.sub_self]; rfl, hb, rfl⟩
        · rw [if_neg e] at h; exact .inl h
      · refine .inr ⟨fn, c', by omega, ?_, h3, h4⟩
        rw [show i - n = (i - (n + 1)) + 1 by omega]; simpa using h2

theorem tabOk (P : Program) (E : Env) (hn : P.funcs.toList.all (fun f => !(f.name == "runtime.NumGoroutine")) = true) : TabOk P E (tabOf P E) := by
  refine ⟨fun f g h => ?_⟩
  rcases tabFrom_get E P.funcs.toList 0 .leaf f g (fun _ _ _ h => by rw [T.get_leaf] at h; cases h) h with h | ⟨fn, c, h1, h2, h3, h4⟩
  · rw [T.get_leaf] at h; cases h
  · rw [Nat.sub_zero] at h2
    refine ⟨fn, c, by simpa using h2, ?_, h3, h4⟩
    have := List.all_eq_true.1 hn fn (List.mem_of_getElem? h2)
    simpa using this
end Go.Ev

/- Confs written down. -/
namespace Go.Ev

/-- A part of code: 0 and 1 say which way at a fork. -/
def nav : CC → List Nat → CC
  | c, [] => c
  | c, 0 :: r => match c with
    | .seq a _ => nav a r
    | .cond _ a _ => nav a r
    | .block _ b => nav b r
    | .loop b => nav b r
    | .scope b => nav b r
    | .rangeFunc _ _ a _ => nav a r
    | _ => .bad
  | c, _ :: r => match c with
    | .seq _ b => nav b r
    | .cond _ _ b => nav b r
    | .rangeFunc _ _ _ b => nav b r
    | _ => .bad

noncomputable def bodyOf (F : T CFn) (f : Nat) : CC := match T.get F f with
  | some g => g.body
  | none => .bad

def dropN {α : Type} (l : List α) : Nat → List α
  | 0 => l
  | Nat.succ n => match l with
    | [] => []
    | _ :: r => dropN r n

def opsAt (c : CC) (n : Nat) : List CI := match c with
  | .ops l => dropN l n
  | _ => []

def drawnAt (c : CC) (n : Nat) : AItem := match c with
  | .drawn _ _ l => (match dropN l n with
    | p :: r => .drawn p r
    | [] => .gone)
  | _ => .gone

noncomputable def ofP {α : Type} (t : T α) : List (Nat × α) → T α
  | [] => t
  | p :: r => T.set (ofP t r) p.1 (some p.2)

noncomputable def cellsL (l : List AV) : Blk := .cells false l.length (ofL 0 .leaf l)
noncomputable def cellsR (l : List AV) : Blk := .cells true l.length (ofL 0 .leaf l)

def lenIs {α : Type} : Nat → List α → Bool
  | 0, [] => true
  | Nat.succ n, _ :: r => lenIs n r
  | _, _ => false

/-- At the n-th frame a temporary is set, and so many blocks were made. -/
noncomputable def stopD (n d N : Nat) (c : Conf) : Bool :=
  match c with
  | ⟨⟨_, _, tm, _, _, _, _, _⟩, cs, h⟩ => match lenIs n cs with
    | true => (match Nat.ble N h.n with
      | true => (match T.get tm d with | some _ => true | none => false)
      | false => false)
    | false => false

/-- A segment of a run. -/
noncomputable def segD (F : T CFn) (K : T (List AV × AV)) (dep d N : Nat) (ts bs : List Nat) (n fuel : Nat) (c : Conf) : Option (List (Option Conf)) :=
  match runS F K (stopD dep d N) fuel c with
  | some l => some (l.map (trim ts bs n))
  | none => none

theorem good_segD {P : Program} {E : Env} {F : T CFn} {K : T (List AV × AV)} (hE : EnvOk P E) (hT : TabOk P E F) (hK : MemOk P K) {Q : Nat → AV → Prop} {dep d N : Nat} {ts bs : List Nat} {n fuel k : Nat} {c c' : Conf}
    (h : segD F K dep d N ts bs n fuel c = some (List.replicate k (some c'))) (hg : Good P E Q c') : Good P E Q c := by
  unfold segD at h
  split at h
  · rename_i l hl
    simp only [Option.some.injEq] at h
    refine good_runS hE hT hK fuel c l hl fun x hx => ?_
    have : trim ts bs n x ∈ List.replicate k (some c') := by rw [← h]; exact List.mem_map.2 ⟨x, hx, rfl⟩
    exact good_trim (List.eq_of_mem_replicate this) hg
  · cases h

theorem Good.mono {P : Program} {E : Env} {Q Q' : Nat → AV → Prop} {c : Conf} (hg : Good P E Q c) (h : ∀ fn v, Q fn v → Q' fn v) : Good P E Q' c :=
  fun w0 cs0 m hA => let ⟨fn, v, hh, fr, w, φ, v', q, r⟩ := hg w0 cs0 m hA; ⟨fn, v, hh, fr, w, φ, v', h fn v q, r⟩

/-- The end that is asked: of this function, with this value. -/
def qIs (f : Nat) (u : AV) (fn : Nat) (v : AV) : Bool := match Nat.beq fn f with
  | true => avEq 20 v u
  | false => false

theorem qIs_eq {f : Nat} {u : AV} {fn : Nat} {v : AV} (h : qIs f u fn v = true) : fn = f ∧ v = u := by
  unfold qIs at h
  split at h
  · rename_i hb; exact ⟨beq_true hb, avEq_eq _ _ _ h⟩
  · cases h

noncomputable def confOf (o : Option Conf) : Conf := match o with
  | some c => c
  | none => ⟨⟨0, 0, .leaf, [], [], .run, false, none⟩, [], ⟨0, .leaf⟩⟩

def isSomeC (o : Option Conf) : Bool := match o with
  | some _ => true
  | none => false

theorem confOf_eq {o : Option Conf} (h : isSomeC o = true) : o = some (confOf o) := by
  cases o with
  | none => cases h
  | some c => rfl

theorem good_run {P : Program} {E : Env} {F : T CFn} {K : T (List AV × AV)} (hE : EnvOk P E) (hT : TabOk P E F) (hK : MemOk P K) {f : Nat} {u : AV} {n : Nat} {c : Conf} (h : runQ F K (qIs f u) n c = true) :
    Good P E (fun fn v => fn = f ∧ v = u) c :=
  (good_runQ hE hT hK n c h).mono fun _ _ => qIs_eq
end Go.Ev

