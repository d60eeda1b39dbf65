/- append, copy, maps; every operation that gives a value. -/
import Derived.Test.YtclfgfpebplncaaGreatEvC
set_option linter.unusedVariables false
set_option linter.unusedSimpArgs false
set_option linter.unusedSectionVars false
/- One operation that gives a value. Part 8: append and copy, against the abstract heap. -/
namespace Go.Ev

section
variable {P : Program} {E : Env} {w0 : Array Obj} {φ : Phi} {h h' : H} {w : World} {tm : T AV} {ρ : Operand → Value} {o : Oper} {v : AV}

theorem HR.newPre (hr : HR E w0 φ h w.heap) {xs : List AV} {cs : Array Value} (e : TypeId) {vs : List Value} (hx : VRs φ xs vs) (hp : ∃ r, cs.toList = vs ++ r) :
    Phi.le φ (φ.upd h.n ⟨w.heap.size, 0, cs.size⟩) ∧ HR E w0 (φ.upd h.n ⟨w.heap.size, 0, cs.size⟩) (Ev.newCells h xs) (w.heap.push (.cells cs e (0, 0))) := by
  have hle := Phi.le_upd ⟨w.heap.size, 0, cs.size⟩ hr.fresh
  obtain ⟨r, hr'⟩ := hp
  have hlen := hx.length
  have hcl : cs.size = vs.length + r.length := by rw [← Array.length_toList, hr', List.length_append]
  refine ⟨hle, hr.new rfl (.cells (fun _ => rfl) rfl (by show 0 + xs.length ≤ cs.size; omega) fun i v hi hg => ?_) rfl⟩
  rw [ofL_get, if_pos (by omega), Nat.sub_zero] at hg
  obtain ⟨v', h1, h2⟩ := (hx.mono hle).get hg
  refine ⟨v', ?_, h2⟩
  show cs[0 + i]? = some v'
  rw [Nat.zero_add, ← Array.getElem?_toList, hr', List.getElem?_append_left (by omega)]
  exact h1

theorem run_first {P : Program} {w : World} {size n cap : Nat} {cb off : Nat} {vs : List Value} (hl : vs.length = n * size) (h : ∀ (j : Nat) (v : Value), vs[j]? = some v → w.cell? ⟨cb, off + j, none⟩ = some v) :
    (Builtin.firstCells size n (.slice (some ⟨cb, off, none⟩) n cap)).run P w = .ok vs.toArray w :=
  run_firstCells_some w size n ⟨cb, off, none⟩ n cap vs hl fun j v hj => by rw [addr_add]; exact h j v hj

/-- What a call of append over a slice may come to; 'new'' is appended. -/
structure AppR (P : Program) (w : World) (size bytes n : Nat) (elem : TypeId) (zs : Nat → Array Value) (new' : Array Value) (R : Option Addr → Nat → Nat → Result Value) : Prop where
  room : ∀ base sLen sCap w', sLen + n ≤ sCap → (∀ a, base = some a → (storeCells (a.add (sLen * size)) new'.toList).run P w = .ok () w') → (base = none → w' = w) →
    R base sLen sCap = .ok (.slice base (sLen + n) sCap) w'
  grow : ∀ base sLen sCap old, (Builtin.firstCells size sLen (.slice base sLen sCap)).run P w.drew = .ok old w.drew → sCap < sLen + n → (sLen + n) * (bytes + 1) ≤ 1099511627776 →
    R base sLen sCap = .ok (.slice (some ⟨w.heap.size, 0, none⟩) (sLen + n) (grownCap w (sLen + n) sCap elem))
      (w.drew.alloc (.cells (old ++ (new' ++ zs (grownCap w (sLen + n) sCap elem - (sLen + n)))) elem))
  zsz : ∀ k, (zs k).size = k * size

theorem cell_drew (w : World) (a : Addr) : w.drew.cell? a = w.cell? a := rfl

theorem appendV_sim (hr : HR E w0 φ h w.heap) {size bytes n : Nat} {elem : TypeId} {zs : Nat → Array Value} {new : List AV} {new' : Array Value} {R : Option Addr → Nat → Nat → Result Value} {s : AV} {s' : Value}
    (hR : AppR P w size bytes n elem zs new' R) (hn : VRs φ new new'.toList) (hnl : new.length = n * size) (hs : VR φ s s') (hx : appendV size bytes h s new n = .val v h') :
    ∃ base sLen sCap, s' = .slice base sLen sCap ∧ ∃ φ' v' w', Phi.le1 h.n φ φ' ∧ R base sLen sCap = .ok v' w' ∧ VR φ' v v' ∧ HR E w0 φ' h' w'.heap ∧ Like w w' := by
  have hnl' : new'.size = n * size := by rw [← Array.length_toList, ← hn.length, hnl]
  have grow : ∀ (h0 : H) (sLen sCap : Nat) (base : Option Addr) (old : List AV) (ovs : List Value), HR E w0 φ h0 w.heap → VRs φ old ovs → ovs.length = sLen * size →
      (Builtin.firstCells size sLen (.slice base sLen sCap)).run P w.drew = .ok ovs.toArray w.drew → sCap < sLen + n → (sLen + n) * (bytes + 1) ≤ 1099511627776 →
      ∃ φ' v' w', Phi.le1 h0.n φ φ' ∧ R base sLen sCap = .ok v' w' ∧ VR φ' (.slc h0.n 0 (sLen + n) (capU + size)) v' ∧ HR E w0 φ' (Ev.newCells h0 (List.append old new)) w'.heap ∧ Like w w' := by
    intro h0 sLen sCap base old ovs hr0 ho hol hf hlt hb
    have hg := hR.grow base sLen sCap _ hf hlt hb
    have hge := grownCap_ge w (sLen + n) sCap elem
    generalize grownCap w (sLen + n) sCap elem = newCap at hg hge
    obtain ⟨hle, hr'⟩ := hr0.newPre (cs := ovs.toArray ++ (new' ++ zs (newCap - (sLen + n)))) elem (ho.append hn) ⟨(zs (newCap - (sLen + n))).toList, by simp⟩
    refine ⟨_, _, _, ⟨hle, fun _ hb => Phi.upd_ne _ _ hb⟩, hg, ?_, hr', ⟨rfl, rfl, rfl⟩⟩
    have hsz : (ovs.toArray ++ (new' ++ zs (newCap - (sLen + n)))).size = newCap * size := by
      simp only [Array.size_append, List.size_toArray, hol, hnl', hR.zsz]
      rw [← Nat.add_mul, ← Nat.add_mul]; congr 1; omega
    exact .slcU (Phi.upd_same _ _ _) hge (by show 0 + newCap * size ≤ (ovs.toArray ++ (new' ++ zs (newCap - (sLen + n)))).size; rw [hsz]; omega) (fun _ => rfl)
  unfold appendV at hx
  cases n with
  | zero =>
    have hnil : new' = #[] := Array.eq_empty_of_size_eq_zero (by simpa using hnl')
    subst hnil
    simp only at hx
    split at hx
    · simp only [Ev.R.val.injEq] at hx; obtain ⟨rfl, rfl⟩ := hx
      exact ⟨none, 0, 0, hs.nils_inv, φ, _, w, .refl _ _, hR.room none 0 0 w (Nat.le_refl _) (by simp) (fun _ => rfl), .nils, hr, .refl _⟩
    · simp only [Ev.R.val.injEq] at hx; obtain ⟨rfl, rfl⟩ := hx
      obtain ⟨l, off, c', hφ, ea, hle, hor⟩ := hs.slc_inv
      refine ⟨_, _, _, ea, φ, _, w, .refl _ _, hR.room _ _ _ w (by omega) (by intro a _; rfl) (by simp), ?_, hr, .refl _⟩
      rw [ea] at hs; exact hs
    · cases hx
  | succ n =>
    simp only at hx
    split at hx
    · split at hx
      · rename_i hb
        have hb : (n + 1) * (bytes + 1) ≤ 1099511627776 := ble_true hb
        simp only [Ev.R.val.injEq] at hx; obtain ⟨rfl, rfl⟩ := hx
        have := grow h 0 0 none [] [] hr .nil (by simp) (by simp [Builtin.firstCells]) (by omega) (by simpa using hb)
        simp only [Nat.zero_add] at this
        exact ⟨none, 0, 0, hs.nils_inv, this⟩
      · cases hx
    · rename_i b k sl cap
      obtain ⟨l, off, c', hφ, ea, hle, hor⟩ := hs.slc_inv
      refine ⟨_, _, _, ea, ?_⟩
      split at hx
      · cases hx
      · rename_i hb
        have hb : (sl + (n + 1)) * (bytes + 1) ≤ 1099511627776 := ble_true hb
        split at hx
        · rename_i hcu
          have hcu : capU ≤ cap := ble_true hcu
          split at hx
          · rename_i old k' c hce hold hblk hpl
            have hce : cap = capU + size := beq_true hce
            subst hce
            simp only [Ev.R.val.injEq] at hx; obtain ⟨rfl, rfl⟩ := hx
            rcases hor with ⟨hc, _⟩ | ⟨k2, hk2, hfit, hoff⟩
            · omega
            · have hk2 : k2 = size := by omega
              subst hk2
              obtain ⟨vs, v1, v2, v3⟩ := hr.cellsAt hφ hold off (fun hn => hoff (Nat.pos_of_mul_pos_right hn))
              have v1 : vs.length = sl * k2 := v1
              by_cases hroom : sl + (n + 1) ≤ c'
              · obtain ⟨cs, e, b1, b2, b3, b4⟩ := hr.cellsOf_blkW hφ hblk
                have hmul : (sl + (n + 1)) * k2 ≤ c' * k2 := Nat.mul_le_mul_right _ hroom
                rw [Nat.add_mul] at hmul
                obtain ⟨w', s1, s2, s3⟩ := run_storeCells_at P new'.toList w l.cb (off + sl * k2) 0 cs e b1 (by rw [Array.length_toList, hnl']; omega) (allPlain_one hn hpl)
                have hrm := hR.room (some ⟨l.cb, off, none⟩) sl c' w' hroom (by intro a ha; cases ha; rw [addr_add]; exact s1) (by simp)
                have hlen : (List.append old new).length = sl * k2 + (n + 1) * k2 := by
                  show (old ++ new).length = _
                  rw [List.length_append, hnl, v2.length, v1]
                obtain ⟨hle', hr'⟩ := hr.rename (off := off) (xs := List.append old new) (cs' := ovl cs (off + sl * k2) new'.toList) (e := e) hφ hblk (by rw [ovl_size, b2]) (by rw [ovl_size, hlen]; omega) (by
                  intro i v hi
                  rw [ovl_get _ _ _ _ (by rw [Array.length_toList, hnl']; omega)]
                  have hi : (old ++ new)[i]? = some v := hi
                  by_cases hlt : i < old.length
                  · rw [List.getElem?_append_left hlt] at hi
                    obtain ⟨v', g1, g2⟩ := v2.get hi
                    have hv3 := v3 i v' g1
                    rw [cell_at b1] at hv3
                    have := v2.length
                    exact ⟨v', by rw [if_neg (by omega)]; exact hv3, g2⟩
                  · rw [List.getElem?_append_right (by omega)] at hi
                    obtain ⟨v', g1, g2⟩ := hn.get hi
                    have := v2.length
                    have hin : i - old.length < new.length := (List.getElem?_eq_some_iff.1 hi).1
                    refine ⟨v', ?_, g2⟩
                    rw [if_pos (by rw [Array.length_toList, hnl']; omega), ← g1]; congr 1; omega)
                refine ⟨_, _, w', ⟨hle', fun _ hb => Phi.upd_ne _ _ hb⟩, hrm, ?_, ?_, s3⟩
                · exact .slcU (l := ⟨l.cb, off, l.csz⟩) (Phi.upd_same _ _ _) hroom hfit (fun _ => rfl)
                · rw [s2, Nat.add_zero]; exact hr'
              · exact grow (H.del h b) sl c' _ old vs (hr.del b) v2 v1 (run_first v1 v3) (by omega) hb
          · cases hx
        · rename_i hcu
          have hcu : cap < capU := ble_false hcu
          have hc' : c' = cap ∧ (0 < cap → off = l.base + k) := by
            rcases hor with ⟨_, e1, e2⟩ | ⟨k2, e, _⟩
            · exact ⟨e1, e2⟩
            · omega
          obtain ⟨rfl, hoff⟩ := hc'
          split at hx
          · rename_i hroom
            have hroom : sl + (n + 1) ≤ c' := ble_true hroom
            split at hx
            · rename_i h1 hput
              simp only [Ev.R.val.injEq] at hx; obtain ⟨rfl, rfl⟩ := hx
              obtain ⟨w', s1, s2, s3⟩ := hr.putBlk P hφ hput hn (off + sl * size) (fun _ => by
                have := hoff (by omega)
                show _ = l.base + (k + sl * size); omega)
              have hrm := hR.room (some ⟨l.cb, off, none⟩) sl c' w' hroom (by intro a ha; cases ha; rw [addr_add]; exact s1) (by simp)
              exact ⟨φ, _, w', .refl _ _, hrm, .slcX hφ hcu hroom hoff, s2, s3⟩
            · cases hx
          · rename_i hroom
            have hroom : c' < sl + (n + 1) := ble_false hroom
            split at hx
            · rename_i old hold
              simp only [Ev.R.val.injEq] at hx; obtain ⟨rfl, rfl⟩ := hx
              obtain ⟨vs, v1, v2, v3⟩ := hr.cellsAt hφ hold off (fun hn => hoff (by have := Nat.pos_of_mul_pos_right hn; omega))
              exact grow h sl c' _ old vs hr v2 v1 (run_first v1 v3) hroom hb
            · cases hx
    · cases hx

theorem run_lenOf {x : AV} {x' : Value} {n : Nat} (hx : VR φ x x') (hl : lenV x = some n) : (Builtin.lenOf x').run P w = .ok n w := by
  cases hx with
  | nils => simp only [lenV, Option.some.injEq] at hl; subst hl; rfl
  | slcX _ _ _ _ => simp only [lenV, Option.some.injEq] at hl; subst hl; rfl
  | slcU _ _ _ _ => simp only [lenV, Option.some.injEq] at hl; subst hl; rfl
  | str hs => simp only [lenV, Option.some.injEq] at hl; subst hl; rw [← hs, List.length_map]; rfl
  | _ => simp [lenV] at hl

theorem strCells_R (φ : Phi) : ∀ (n : Nat) (s : List Nat) (l : List UInt8), l.map (·.toNat) = s → VRs φ (strCells n s) ((l.take n).map fun b => Value.int .u8 (b.toNat : Int))
  | 0, s, l, _ => by simp [strCells]; exact .nil
  | n + 1, s, [], h => by simp at h; subst h; exact .nil
  | n + 1, s, b :: l, h => by
    simp only [List.map_cons] at h; subst h
    exact .cons (.int _ _) (strCells_R φ n _ l rfl)

/-- The first elements: the same in every world with this memory. -/
theorem run_cellsOf (hr : HR E w0 φ h w.heap) {size n : Nat} {x : AV} {x' : Value} {l : List AV} (hx : VR φ x x') (hc : cellsOf size n h x = some l) (hn : ∀ k, lenV x = some k → n ≤ k) :
    ∃ vs : List Value, VRs φ l vs ∧ ∀ w1 : World, w1.heap = w.heap → (Builtin.firstCells size n x').run P w1 = .ok vs.toArray w1 := by
  have hcell : ∀ (w1 : World), w1.heap = w.heap → ∀ a, a.spot = none → w1.cell? a = w.cell? a := by
    intro w1 h1 a _; simp only [World.cell?, h1]
  cases x with
  | nils =>
    simp only [cellsOf, Option.some.injEq] at hc; subst hc
    exact ⟨[], .nil, fun w1 _ => by rw [hx.nils_inv]; simp [Builtin.firstCells]⟩
  | slc b o m c =>
    obtain ⟨lo, off, c', hφ, ea, hle, hor⟩ := hx.slc_inv
    simp only [cellsOf] at hc
    have hnm : n ≤ m := hn m rfl
    obtain ⟨vs, v1, v2, v3⟩ := hr.cellsAt hφ hc off (fun hp => by
      have hp := Nat.pos_of_mul_pos_right hp
      rcases hor with ⟨_, e, ho⟩ | ⟨_, _, _, ho⟩
      · exact ho (by omega)
      · exact ho (by omega))
    have v1 : vs.length = n * size := v1
    refine ⟨vs, v2, fun w1 h1 => ?_⟩
    rw [ea]
    exact run_firstCells_some w1 size n ⟨lo.cb, off, none⟩ m c' vs v1 fun j v hj => by
      rw [addr_add, hcell w1 h1 _ rfl]; exact v3 j v hj
  | str s =>
    obtain ⟨b, ea, hs⟩ := hx.str_inv
    simp only [cellsOf] at hc
    split at hc
    · simp only [Option.some.injEq] at hc; subst hc
      refine ⟨_, strCells_R φ n s _ hs, fun w1 _ => ?_⟩
      rw [ea]
      simp only [Builtin.firstCells, Sem.run_pure, Result.ok.injEq, and_true]
      apply Array.ext'
      simp [List.map_take]
    · cases hc
  | _ => simp [cellsOf] at hc

theorem cellsAt_length {b o n : Nat} {l : List AV} (hc : cellsAt h b o n = some l) : l.length = n := by
  unfold cellsAt at hc
  cases n with
  | zero => simp only [Option.some.injEq] at hc; subst hc; rfl
  | succ n =>
    simp only at hc
    split at hc
    · split at hc
      · exact (loadN_get hc).1
      · cases hc
    · cases hc

theorem strCells_length : ∀ (n : Nat) (s : List Nat), n ≤ s.length → (strCells n s).length = n
  | 0, s, _ => by simp [strCells]
  | n + 1, [], h => by simp at h
  | n + 1, b :: s, h => by simp only [List.length_cons] at h; simp [strCells, strCells_length n s (by omega)]

theorem cellsOf_length {size n k : Nat} {x : AV} {l : List AV} (hl : lenV x = some k) (hn : n ≤ k) (hc : cellsOf size n h x = some l) : l.length = n * size := by
  cases x with
  | nils => simp only [lenV, cellsOf, Option.some.injEq] at hl hc; subst hl hc; have : n = 0 := by omega
            subst this; simp
  | slc b o m c => simp only [cellsOf] at hc; exact cellsAt_length hc
  | str s =>
    simp only [lenV, cellsOf, Option.some.injEq] at hl hc; subst hl
    split at hc
    · rename_i h1
      have h1 := beq_true h1
      simp only [Option.some.injEq] at hc; subst hc
      rw [h1, strCells_length n s hn, Nat.mul_one]
    · cases hc
  | _ => simp [lenV] at hl

theorem rl_len (z : List AV) : ∀ n, (rl z n).length = n * z.length
  | 0 => by simp [rl]
  | n + 1 => by show (z ++ rl z n).length = _; rw [List.length_append, rl_len z n, Nat.succ_mul]; omega

theorem zero_at (hE : EnvOk P E) {e : TypeId} {z : List AV} (hz : zeroL E e = some z) : ∃ v i, Ev.inf E e = some i ∧ (∀ w1 : World, (zeroValue e).run P w1 = .ok v w1) ∧ v.cells.size = i.size ∧ z.length = i.size ∧ ∀ φ, VRs φ z v.cells.toList := by
  obtain ⟨v, i, h1, h2, h3, h4, h5⟩ := run_zeroL hE hz default
  refine ⟨v, i, h1, fun w1 => ?_, h3, h4, h5⟩
  obtain ⟨v', i', h1', h2', _⟩ := run_zeroL hE hz w1
  simp only [zeroValue, Sem.run_bind, run_info hE h1, Result.andThen_ok] at h2 h2' ⊢
  cases hzz : i.zero with
  | none => rw [hzz] at h2; simp at h2
  | some z0 => rw [hzz] at h2; simp at h2 ⊢; exact h2

theorem sized_inf {e : TypeId} {s : Nat} {i : TypeInfo} (hs : sized E e = some s) (hi : Ev.inf E e = some i) : i.size = s ∧ s ≠ 0 := by
  unfold sized at hs; rw [hi] at hs; simp only at hs
  split at hs
  · simp at hs
  · rename_i hb; simp at hs; exact ⟨hs, hs ▸ beq_false hb⟩

theorem bytesT_inf {e : TypeId} {i : TypeInfo} (hi : Ev.inf E e = some i) : bytesT E e = i.bytes := by unfold bytesT; rw [hi]

section
variable (hr : HR E w0 φ h w.heap) (hρ : RhoR φ tm ρ)
include hr hρ

theorem sim_append (hE : EnvOk P E) {c : Call} {s x : Operand} {t u e : TypeId} {d : TypeDesc} {n : Nat} {z : List AV} (ho : o.op = .call c) (hc : c.callee = .builtin .append) (ha : c.args.toList = [s, x]) (ht : c.argTypes.toList = [t, u])
    (hu : und E t = some (.slice e)) (hu' : und E u = some d) (hd : d = .string ∨ ∃ e', d = .slice e') (hs : sized E e = some n) (hz : zeroL E e = some z)
    (hx : exec (.append n (bytesT E e) (opd s) (opd x)) h tm = .val v h') : Sim1 E w0 φ w h ((execOp ρ o).run P w) v h' := by
  simp only [exec] at hx
  obtain ⟨zv, i, hi, hzr, hzs, hzl, hzR⟩ := zero_at hE hz
  obtain ⟨hin, hn0⟩ := sized_inf hs hi
  subst hin
  split at hx
  · rename_i k hl
    split at hx
    · rename_i new hnew
      have hlx := run_lenOf (P := P) (w := w) (hρ x) hl
      obtain ⟨vs, v1, v2⟩ := run_cellsOf (P := P) hr (hρ x) hnew (fun k' hk' => by rw [hl] at hk'; cases hk'; exact Nat.le_refl _)
      have hlen : new.length = k * i.size := by
        exact cellsOf_length hl (Nat.le_refl _) hnew
      rw [bytesT_inf hi] at hx
      have happ : AppR P w i.size i.bytes k e (Builtin.zeroCells zv.cells) vs.toArray (fun b sl sc => (Builtin.append_ #[t, u] o.type #[.slice b sl sc, ρ x]).run P w) :=
        ⟨fun b sl sc w' h1 h2 h3 => app_room hE hu hu' hd hi hlx (v2 w rfl) h1 h2 h3,
         fun b sl sc old h1 h2 h3 => app_grow hE hu hu' hd hi (hzr _) hlx (v2 w.drew rfl) h1 h2 h3, fun k => by rw [size_zeroCells, hzs]⟩
      obtain ⟨b, sl, sc, e1, φ', v', w', e2, e3, e4, e5⟩ := appendV_sim hr happ (by simpa using v1) hlen (hρ s) hx
      refine ⟨φ', v', w', e2, .inl ?_, e4, e5⟩
      have hty : c.argTypes = #[t, u] := by rw [← Array.toArray_toList (xs := c.argTypes), ht]
      rw [run_builtin ho hc, args2 ha, e1, hty]
      simp only [builtin, Sem.run_bind, e3, Result.andThen_ok, Sem.run_pure]
    · cases hx
  · cases hx

theorem sim_appendZ (hE : EnvOk P E) {c : Call} {s x : Operand} {t u e : TypeId} {k : IntKind} {n : Nat} {z : List AV} (ho : o.op = .call c) (hc : c.callee = .builtin .append) (ha : c.args.toList = [s, x]) (ht : c.argTypes.toList = [t, u])
    (hu : und E t = some (.slice e)) (hu' : und E u = some (.int k)) (hs : sized E e = some n) (hz : zeroL E e = some z)
    (hx : exec (.appendZ (bytesT E e) z (opd s) (opd x)) h tm = .val v h') : Sim1 E w0 φ w h ((execOp ρ o).run P w) v h' := by
  simp only [exec] at hx
  obtain ⟨zv, i, hi, hzr, hzs, hzl, hzR⟩ := zero_at hE hz
  obtain ⟨hin, hn0⟩ := sized_inf hs hi
  subst hin
  split at hx
  · rename_i j m hl
    have ex := VR.int_inv (hl ▸ hρ x)
    split at hx
    · rename_i h1 h2
      have h1 : m * bytesT E e ≤ 281474976710656 := ble_true h1
      have h2 : m ≤ 281474976710656 := ble_true h2
      rw [bytesT_inf hi] at hx h1
      have hnew : VRs φ (rl z m) (zerosC zv i.size m).toList := by
        unfold zerosC
        split
        · rename_i h0
          have : rl z m = [] := List.eq_nil_of_length_eq_zero (by rw [rl_len, hzl]; exact h0)
          rw [this]; exact .nil
        · exact rl_R (hzR φ) m _ rfl
      have happ : AppR P w i.size i.bytes m e (Builtin.zeroCells zv.cells) (zerosC zv i.size m) (fun b sl sc => (Builtin.append_ #[t, u] o.type #[.slice b sl sc, ρ x]).run P w) :=
        ⟨fun b sl sc w' q1 q2 q3 => appZ_room hE hu hu' hi rfl ex hzr h2 h1 q1 q2 q3,
         fun b sl sc old q1 q2 q3 => appZ_grow hE hu hu' hi rfl ex hzr h2 h1 q1 q2 q3, fun k => by rw [size_zeroCells, hzs]⟩
      rw [hzl] at hx
      obtain ⟨b, sl, sc, e1, φ', v', w', e2, e3, e4, e5⟩ := appendV_sim hr happ hnew (by rw [rl_len, hzl]) (hρ s) hx
      refine ⟨φ', v', w', e2, .inl ?_, e4, e5⟩
      have hty : c.argTypes = #[t, u] := by rw [← Array.toArray_toList (xs := c.argTypes), ht]
      rw [run_builtin ho hc, args2 ha, e1, hty]
      simp only [builtin, Sem.run_bind, e3, Result.andThen_ok, Sem.run_pure]
    · cases hx
  · cases hx

theorem sim_copy (hE : EnvOk P E) {c : Call} {d s : Operand} {t e : TypeId} {r : List TypeId} {n : Nat} (ho : o.op = .call c) (hc : c.callee = .builtin .copy) (ha : c.args.toList = [d, s]) (ht : c.argTypes.toList = t :: r)
    (hu : und E t = some (.slice e)) (hs : sized E e = some n) (hx : exec (.copy n (opd d) (opd s)) h tm = .val v h') : Sim1 E w0 φ w h ((execOp ρ o).run P w) v h' := by
  simp only [exec] at hx
  obtain ⟨hsz, hn0⟩ := run_sized hE hs w
  split at hx
  · rename_i sn hl
    have hlx := run_lenOf (P := P) (w := w) (hρ s) hl
    split at hx
    · rename_i hd
      have ed := VR.nils_inv (hd ▸ hρ d)
      simp only [Ev.R.val.injEq] at hx; obtain ⟨rfl, rfl⟩ := hx
      have hfc : ∃ cells, (Builtin.firstCells n 0 (ρ s)).run P w = .ok cells w := by
        have := hρ s
        cases hev : ev tm (opd s) with
        | nils => rw [hev] at this; rw [this.nils_inv]; exact ⟨_, by simp [Builtin.firstCells]; rfl⟩
        | slc b o m c' =>
          rw [hev] at this
          obtain ⟨lo, off, c', hφ, ea, hle, hor⟩ := this.slc_inv
          rw [ea]
          exact ⟨_, run_firstCells_some w n 0 ⟨lo.cb, off, none⟩ m c' [] (by simp) (by simp)⟩
        | str q => rw [hev] at this; obtain ⟨b, ea, hs⟩ := this.str_inv; rw [ea]; exact ⟨_, by simp [Builtin.firstCells]; rfl⟩
        | _ => rw [hev] at hl; simp [lenV] at hl
      obtain ⟨cells, hfc⟩ := hfc
      refine .same (v' := goInt 0) hr ?_ (.int _ _)
      rw [run_builtin ho hc, args2 ha, ed]
      simp [builtin, Builtin.copy_, ts_get ht, run_und hE hu, hsz, hlx, hfc]
    · rename_i b k dn cap hd
      obtain ⟨l, off, c', hφ, ed, hle, hor⟩ := VR.slc_inv (hd ▸ hρ d)
      split at hx
      · rename_i xs hxs
        split at hx
        · rename_i h1 hput
          simp only [Ev.R.val.injEq] at hx; obtain ⟨rfl, rfl⟩ := hx
          have hmin : minN sn dn = Nat.min sn dn := by
            unfold minN
            cases hb : Nat.ble sn dn with
            | true => have := ble_true hb; show sn = min sn dn; omega
            | false => have := ble_false hb; show dn = min sn dn; omega
          have hms : minN sn dn ≤ sn := by rw [hmin]; exact Nat.min_le_left _ _
          have hmd : minN sn dn ≤ dn := by rw [hmin]; exact Nat.min_le_right _ _
          obtain ⟨vs, v1, v2⟩ := run_cellsOf (P := P) hr (hρ s) hxs (fun k' hk' => by rw [hl] at hk'; cases hk'; exact hms)
          have hlen := cellsOf_length hl hms hxs
          obtain ⟨w', s1, s2, s3⟩ := hr.putBlk P hφ hput v1 off (fun hp => by
            have hp : 0 < minN sn dn * n := by rw [← hlen]; exact hp
            have hp := Nat.pos_of_mul_pos_right hp
            rcases hor with ⟨_, e, ho⟩ | ⟨_, _, _, ho⟩
            · exact ho (by omega)
            · exact ho (by omega))
          refine ⟨φ, goInt (minN sn dn), w', .refl _ _, .inl ?_, .int _ _, s2, s3⟩
          rw [run_builtin ho hc, args2 ha, ed]
          have v2 := v2 w rfl
          rw [hmin] at v2
          simp [builtin, Builtin.copy_, ts_get ht, run_und hE hu, hsz, hlx, v2, s1, hmin]
        · cases hx
      · cases hx
    · cases hx
  · cases hx
end
end
end Go.Ev

/- One operation that gives a value. Part 9: maps. -/
namespace Go.Ev

section
variable {P : Program} {E : Env} {w0 : Array Obj} {φ : Phi} {h h' : H} {w : World} {tm : T AV} {ρ : Operand → Value} {o : Oper} {v : AV}

theorem ERs.get {l : List AEnt} {l' : List MapEntry} (h : ERs φ l l') {i : Nat} {e : AEnt} (hi : l[i]? = some e) : ∃ e', l'[i]? = some e' ∧ ER φ e e' := by
  induction h generalizing i with
  | nil => simp at hi
  | cons he _ ih =>
    cases i with
    | zero => simp at hi; subst hi; exact ⟨_, rfl, he⟩
    | succ i => simp at hi ⊢; exact ih hi

theorem ERs.append {a b : List AEnt} {a' b' : List MapEntry} (h : ERs φ a a') (k : ERs φ b b') : ERs φ (a ++ b) (a' ++ b') := by
  induction h with
  | nil => exact k
  | cons he _ ih => exact .cons he ih

theorem ERs.modify {l : List AEnt} {l' : List MapEntry} (h : ERs φ l l') {f : AEnt → AEnt} {g : MapEntry → MapEntry} {i : Nat} (hf : ∀ e e', l[i]? = some e → l'[i]? = some e' → ER φ e e' → ER φ (f e) (g e')) :
    ERs φ (l.modify i f) (l'.modify i g) := by
  induction h generalizing i with
  | nil => simp; exact .nil
  | cons he hs ih =>
    cases i with
    | zero => simp only [List.modify_zero_cons]; exact .cons (hf _ _ rfl rfl he) hs
    | succ i => simp only [List.modify_succ_cons]; exact .cons he (ih fun e e' h1 h2 h3 => hf e e' (by simpa using h1) (by simpa using h2) h3)

theorem ERs.erase {l : List AEnt} {l' : List MapEntry} (h : ERs φ l l') (i : Nat) : ERs φ (l.eraseIdx i) (l'.eraseIdx i) := by
  induction h generalizing i with
  | nil => simp; exact .nil
  | cons he hs ih =>
    cases i with
    | zero => simpa using hs
    | succ i => simpa using .cons he (ih i)

/-! the abstract search -/
theorem findK_none {f : AV → AV → Option Bool} {k : AV} : ∀ {es : List AEnt}, findK f k es = some none → ∀ e ∈ es, f k e.key = some false
  | [], _ => by simp
  | a :: es, h => by
    simp only [findK] at h
    split at h
    · cases h
    · rename_i h1
      intro e he
      rcases List.mem_cons.1 he with rfl | he
      · exact h1
      · exact findK_none h e he
    · cases h

theorem findK_some {f : AV → AV → Option Bool} {k : AV} {e : AEnt} : ∀ {es : List AEnt}, findK f k es = some (some e) →
    ∃ j, es[j]? = some e ∧ f k e.key = some true ∧ (∀ m x, m < j → es[m]? = some x → f k x.key = some false) ∧
      (∀ v es2, updK f k v es = some es2 → es2 = es.modify j (fun e => ⟨k, v, e.born⟩) ∧ keyEq k e.key = true)
  | [], h => by simp [findK] at h
  | a :: es, h => by
    simp only [findK] at h
    split at h
    · rename_i h1
      simp only [Option.some.injEq] at h; subst h
      refine ⟨0, rfl, h1, fun m x hm => absurd hm (by omega), fun v es2 hu => ?_⟩
      simp only [updK, h1] at hu
      split at hu
      · rename_i hk
        simp only [Option.some.injEq] at hu; subst hu
        exact ⟨by simp, hk⟩
      · cases hu
    · rename_i h1
      obtain ⟨j, g1, g2, g3, g4⟩ := findK_some h
      refine ⟨j + 1, by simpa using g1, g2, fun m x hm hx => ?_, fun v es2 hu => ?_⟩
      · cases m with
        | zero => simp at hx; subst hx; exact h1
        | succ m => exact g3 m x (by omega) (by simpa using hx)
      · simp only [updK, h1] at hu
        split at hu
        · rename_i r hr
          simp only [Option.some.injEq] at hu; subst hu
          obtain ⟨q1, q2⟩ := g4 v r hr
          exact ⟨by rw [q1]; simp, q2⟩
        · cases hu
    · cases h

theorem delK_cases {f : AV → AV → Option Bool} {k : AV} : ∀ {es es2 : List AEnt}, delK f k es = some es2 →
    (findK f k es = some none ∧ es2 = es) ∨ (∃ j e, findK f k es = some (some e) ∧ es[j]? = some e ∧ f k e.key = some true ∧ (∀ m x, m < j → es[m]? = some x → f k x.key = some false) ∧ es2 = es.eraseIdx j)
  | [], es2, h => by simp only [delK, Option.some.injEq] at h; subst h; exact .inl ⟨rfl, rfl⟩
  | a :: es, es2, h => by
    simp only [delK] at h
    split at h
    · rename_i h1
      simp only [Option.some.injEq] at h; subst h
      exact .inr ⟨0, a, by simp [findK, h1], rfl, h1, fun m x hm => absurd hm (by omega), by simp⟩
    · rename_i h1
      split at h
      · rename_i r hr
        simp only [Option.some.injEq] at h; subst h
        rcases delK_cases hr with ⟨g1, rfl⟩ | ⟨j, e, g1, g2, g3, g4, rfl⟩
        · exact .inl ⟨by simp [findK, h1, g1], rfl⟩
        · refine .inr ⟨j + 1, e, by simp [findK, h1, g1], by simpa using g2, g3, fun m x hm hx => ?_, by simp⟩
          cases m with
          | zero => simp at hx; subst hx; exact h1
          | succ m => exact g4 m x (by omega) (by simpa using hx)
      · cases h
    · cases h

/-! the search of the model -/
theorem kEq_self (k : IntKind) : kEq k k = true := by cases k <;> rfl

theorem bytes_beq {a b : ByteArray} {s t : List Nat} (ha : a.data.toList.map (·.toNat) = s) (hb : b.data.toList.map (·.toNat) = t) : (a == b) = nlEq s t := by
  rw [← bytes_eq ha hb, ByteArray.toList_eq, ByteArray.toList_eq]
  obtain ⟨x⟩ := a
  obtain ⟨y⟩ := b
  have : ((⟨x⟩ : ByteArray) == ⟨y⟩) = (x == y) := rfl
  rw [this, Bool.eq_iff_iff, beq_iff_eq, beq_iff_eq]
  exact ⟨fun h => by rw [h], fun h => Array.ext' h⟩

theorem sameNow_R {d : TypeDesc} {n : Nat} {sh : Sh} {a b : AV} {a' b' : Value} {q q' : Bool} (he : eqv n sh a b = some q) (ha : VR φ a a') (hb : VR φ b b') (hs : Instr.sameNow d a' b' = some q') : q' = q := by
  obtain ⟨k1, k2⟩ := eqv_kn he
  cases n with
  | zero => simp [eqv] at he
  | succ n =>
    unfold Instr.sameNow at hs
    split at hs
    · rename_i k x k' y
      split at hs
      · rename_i hk
        subst hk
        simp only [Option.some.injEq] at hs; subst hs
        cases ha with
        | int => cases hb with
          | int => cases sh <;> simp [eqv, intEq, boolEq, strEq, ptrEq, ifcEq, nilEqS, nilEqM, nilEqF, kEq_self] at he
                   rw [← iEq_beq]; exact he
          | opq => simp [kn] at k2
          | unk => simp [kn] at k2
        | opq => simp [kn] at k1
        | unk => simp [kn] at k1
      · cases hs
    · rename_i x y
      simp only [Option.some.injEq] at hs; subst hs
      cases ha with
      | str hx => cases hb with
        | str hy => cases sh <;> simp [eqv, intEq, boolEq, strEq, ptrEq, ifcEq, nilEqS, nilEqM, nilEqF] at he
                    rw [bytes_beq hx hy]; exact he
        | opq => simp [kn] at k2
        | unk => simp [kn] at k2
      | opq => simp [kn] at k1
      | unk => simp [kn] at k1
    · rename_i x y
      simp only [Option.some.injEq] at hs; subst hs
      cases ha with
      | bool => cases hb with
        | bool => cases sh <;> simp [eqv, intEq, boolEq, strEq, ptrEq, ifcEq, nilEqS, nilEqM, nilEqF] at he
                  subst he; cases x <;> cases y <;> rfl
        | opq => simp [kn] at k2
        | unk => simp [kn] at k2
      | opq => simp [kn] at k1
      | unk => simp [kn] at k1
    · cases hs

/-- What the search for a key finds. -/
def Found (es : List MapEntry) (r : Option Nat) (q : Option (Nat × Value)) : Prop :=
  match r with
  | none => q = none
  | some j => ∃ e, es[j]? = some e ∧ q = some (j, e.val)

theorem findKey_R (hE : EnvOk P E) {t : TypeId} {d : TypeDesc} {k : AV} {k' : Value} (hd : und E t = some d) (hk : VR φ k k') {es : List AEnt} {es' : List MapEntry} (hes : ERs φ es es') :
    (∀ (hn : ∀ e ∈ es, eqv 20 (shapeOf E 5 t) k e.key = some false), (Instr.findKey t k' es').run P w = .ok none w) ∧
    (∀ j e, es[j]? = some e → eqv 20 (shapeOf E 5 t) k e.key = some true → (∀ m x, m < j → es[m]? = some x → eqv 20 (shapeOf E 5 t) k x.key = some false) →
      ∃ e', es'[j]? = some e' ∧ (Instr.findKey t k' es').run P w = .ok (some (j, e'.val)) w) := by
  have eq : ∀ {e : AEnt} {e' : MapEntry} {b : Bool}, ER φ e e' → eqv 20 (shapeOf E 5 t) k e.key = some b → (Op.equal t k' e'.key).run P w = .ok b w := by
    intro e e' b he hb
    exact run_eqv hE 5 t 20 10000 k e.key _ _ b (by decide) hb hk he.key
  have askN : ∀ {es : List AEnt} {es' : List MapEntry}, ERs φ es es' → (∀ e ∈ es, eqv 20 (shapeOf E 5 t) k e.key = some false) → ∀ i, (Instr.findAsking t k' es' i).run P w = .ok none w := by
    intro es es' hes
    induction hes with
    | nil => intro _ i; rfl
    | cons he _ ih =>
      intro hn i
      simp only [Instr.findAsking, Sem.run_bind, eq he (hn _ (List.mem_cons_self ..)), Result.andThen_ok, Bool.false_eq_true, if_false]
      exact ih (fun e he => hn e (List.mem_cons_of_mem _ he)) (i + 1)
  have nowN : ∀ {es : List AEnt} {es' : List MapEntry}, ERs φ es es' → (∀ e ∈ es, eqv 20 (shapeOf E 5 t) k e.key = some false) → ∀ i r, Instr.findNow d k' es' i = some r → r = none := by
    intro es es' hes
    induction hes with
    | nil => intro _ i r hr; simp only [Instr.findNow, Option.some.injEq] at hr; exact hr.symm
    | cons he _ ih =>
      intro hn i r hr
      simp only [Instr.findNow] at hr
      split at hr
      · rename_i hs; have := sameNow_R (hn _ (List.mem_cons_self ..)) hk he.key hs; cases this
      · exact ih (fun e he => hn e (List.mem_cons_of_mem _ he)) (i + 1) r hr
      · cases hr
  have askS : ∀ {es : List AEnt} {es' : List MapEntry}, ERs φ es es' → ∀ j e, es[j]? = some e → eqv 20 (shapeOf E 5 t) k e.key = some true → (∀ m x, m < j → es[m]? = some x → eqv 20 (shapeOf E 5 t) k x.key = some false) →
      ∀ i, ∃ e', es'[j]? = some e' ∧ (Instr.findAsking t k' es' i).run P w = .ok (some (i + j, e'.val)) w := by
    intro es es' hes
    induction hes with
    | nil => intro j e hj; simp at hj
    | @cons a a' l l' he _ ih =>
      intro j e hj ht hm i
      cases j with
      | zero =>
        simp at hj; subst hj
        exact ⟨a', rfl, by simp [Instr.findAsking, eq he ht]⟩
      | succ j =>
        obtain ⟨e', g1, g2⟩ := ih j e (by simpa using hj) ht (fun m x hlt hx => hm (m + 1) x (by omega) (by simpa using hx)) (i + 1)
        refine ⟨e', by simpa using g1, ?_⟩
        simp only [Instr.findAsking, Sem.run_bind, eq he (hm 0 a (by omega) rfl), Result.andThen_ok, Bool.false_eq_true, if_false]
        rw [g2]; congr 3; omega
  have nowS : ∀ {es : List AEnt} {es' : List MapEntry}, ERs φ es es' → ∀ j e, es[j]? = some e → eqv 20 (shapeOf E 5 t) k e.key = some true → (∀ m x, m < j → es[m]? = some x → eqv 20 (shapeOf E 5 t) k x.key = some false) →
      ∀ i r, Instr.findNow d k' es' i = some r → ∃ e', es'[j]? = some e' ∧ r = some (i + j, e'.val) := by
    intro es es' hes
    induction hes with
    | nil => intro j e hj; simp at hj
    | @cons a a' l l' he _ ih =>
      intro j e hj ht hm i r hr
      simp only [Instr.findNow] at hr
      cases j with
      | zero =>
        simp at hj; subst hj
        split at hr
        · simp only [Option.some.injEq] at hr; subst hr; exact ⟨a', rfl, rfl⟩
        · rename_i hs; have := sameNow_R ht hk he.key hs; cases this
        · cases hr
      | succ j =>
        split at hr
        · rename_i hs; have := sameNow_R (hm 0 a (by omega) rfl) hk he.key hs; cases this
        · obtain ⟨e', g1, g2⟩ := ih j e (by simpa using hj) ht (fun m x hlt hx => hm (m + 1) x (by omega) (by simpa using hx)) (i + 1) r hr
          exact ⟨e', by simpa using g1, by rw [g2]; congr 2; omega⟩
        · cases hr
  refine ⟨fun hn => ?_, fun j e hj ht hm => ?_⟩
  · simp only [Instr.findKey, Sem.run_bind, run_und hE hd, Result.andThen_ok]
    split
    · rename_i r hr; rw [nowN hes hn 0 r hr]; rfl
    · exact askN hes hn 0
  · simp only [Instr.findKey, Sem.run_bind, run_und hE hd, Result.andThen_ok]
    obtain ⟨e', g1, g2⟩ := askS hes j e hj ht hm 0
    refine ⟨e', g1, ?_⟩
    split
    · rename_i r hr
      obtain ⟨e2, q1, q2⟩ := nowS hes j e hj ht hm 0 r hr
      rw [g1] at q1; cases q1
      rw [q2, Nat.zero_add]; rfl
    · rw [g2, Nat.zero_add]
end
end Go.Ev

/- One operation that gives a value. Part 10: the map operations. -/
namespace Go.Ev

section
variable {P : Program} {E : Env} {w0 : Array Obj} {φ : Phi} {h h' : H} {w : World} {tm : T AV} {ρ : Operand → Value} {o : Oper} {v : AV}

theorem offsOk_get {n : Nat} : ∀ {l : List (Nat × Nat × Sh)}, offsOk n l = true → ∀ p ∈ l, p.1 < n
  | [], _ => by simp
  | a :: l, h => by
    unfold offsOk at h
    split at h
    · rename_i h1
      intro p hp
      rcases List.mem_cons.1 hp with rfl | hp
      · exact ble_true h1
      · exact offsOk_get h p hp
    · cases h

theorem checkKey_int (hE : EnvOk P E) {t : TypeId} {k : IntKind} (hu : und E t = some (.int k)) (b : Bool) (n : Nat) (x : Value) : (Instr.checkKey b (n + 1) t x).run P w = .ok () w := by
  simp only [Instr.checkKey, Sem.run_bind, run_und hE hu, Result.andThen_ok]
  cases x <;> rfl

theorem checkKey_fields (hE : EnvOk P E) {d : Nat} (b : Bool) (n : Nat) {cs : Array Value} : ∀ (fs : List Field) (l : List (Nat × Nat × Sh)), fs.mapM (fieldSh E (shapeOf E d)) = some l → fs.all (intF E) = true → (∀ p ∈ l, p.1 < cs.size) →
    (forIn fs PUnit.unit (fun (f : Field) (_ : PUnit) => (do
      if f.name ≠ "_" then Instr.checkKey b (n + 1) f.type (← part f.type cs f.offset)
      pure (ForInStep.yield PUnit.unit) : Sem (ForInStep PUnit))) : Sem PUnit).run P w = .ok PUnit.unit w
  | [], l, _, _, _ => by simp
  | f :: fs, l, hl, ha, ho => by
    simp only [List.mapM_cons, Option.bind_eq_bind, Option.bind_eq_some_iff] at hl
    obtain ⟨p, h1, r, h2, h3⟩ := hl
    simp only [Option.pure_def, Option.some.injEq] at h3; subst h3
    simp only [List.all_cons, Bool.and_eq_true] at ha
    have ih := checkKey_fields hE b n fs r h2 ha.2 (fun p hp => ho p (List.mem_cons_of_mem _ hp))
    have hi := ha.1
    unfold intF at hi
    split at hi
    · cases hi
    · rename_i hname
      split at hi
      · rename_i k hu
        unfold fieldSh at h1
        rw [hname] at h1
        simp only at h1
        split at h1
        · simp only [Option.some.injEq] at h1; subst h1
          have hlt := ho _ (List.mem_cons_self ..)
          simp only at hlt
          have hag : aggT E f.type = some false := by unfold aggT; rw [hu]
          have hpart : (part f.type cs f.offset).run P w = .ok cs[f.offset] w := by
            simp [part, run_agg hE hag, Array.getElem?_eq_getElem hlt]
          have hne : f.name ≠ "_" := by intro e; rw [e] at hname; simp at hname
          simp only [List.forIn_cons, Sem.run_bind, if_pos hne, hpart, Result.andThen_ok, checkKey_int hE hu, Sem.run_pure, ih]
        · cases h1
      · cases hi

theorem shape_key (hE : EnvOk P E) {t : TypeId} {sh : Sh} (hs : keySh E t = some sh) : sh = shapeOf E 5 t := by
  unfold keySh at hs
  split at hs
  · simp only [Option.some.injEq] at hs; exact hs.symm
  · simp only [Option.some.injEq] at hs; exact hs.symm
  · simp only [Option.some.injEq] at hs; exact hs.symm
  · split at hs
    · simp only [Option.some.injEq] at hs; exact hs.symm
    · cases hs
  · cases hs

theorem checkKey_n (n : Nat) (hE : EnvOk P E) {t : TypeId} {sh : Sh} {k : AV} {k' : Value} (hs : keySh E t = some sh) (hk : keyOk sh k = true) (hv : VR φ k k') (b : Bool) :
    (Instr.checkKey b (n + 2) t k').run P w = .ok () w ∧ ∃ d, und E t = some d := by
  have hsh := shape_key hE hs
  unfold keySh at hs
  split at hs
  · rename_i hu
    exact ⟨by simp only [Instr.checkKey, Sem.run_bind, run_und hE hu, Result.andThen_ok]; cases k' <;> rfl, _, hu⟩
  · rename_i j hu
    exact ⟨checkKey_int hE hu b (n + 1) k', _, hu⟩
  · rename_i hu
    exact ⟨by simp only [Instr.checkKey, Sem.run_bind, run_und hE hu, Result.andThen_ok]; cases k' <;> rfl, _, hu⟩
  · rename_i fs hu
    refine ⟨?_, _, hu⟩
    split at hs
    · rename_i hall
      unfold shapeOf at hsh
      rw [hu] at hsh
      simp only at hsh
      split at hsh
      · subst hsh; simp [keyOk] at hk
      · rename_i hmem
        cases hm : fs.toList.mapM (fieldSh E (shapeOf E 4)) with
        | none => rw [hm] at hsh; subst hsh; simp [keyOk] at hk
        | some l =>
          rw [hm] at hsh; simp only at hsh; subst hsh
          unfold keyOk at hk
          simp only at hk
          split at hk
          · rename_i xs
            obtain ⟨cs, rfl, hcs⟩ := hv.agg_inv
            have hlen := hcs.length
            simp only [Array.length_toList] at hlen
            have hf := checkKey_fields (P := P) (w := w) hE b n (cs := cs) fs.toList l hm hall (fun p hp => by rw [← hlen]; exact offsOk_get hk p hp)
            rw [Instr.checkKey]
            simp only [Sem.run_bind, run_und hE hu, Result.andThen_ok]
            rw [← Array.forIn_toList]
            exact (congrArg (fun r : Result PUnit => r.andThen fun a w' => Sem.run P (pure ()) w') hf).trans rfl
          · cases hk
    · cases hs
  · cases hs

theorem checkKey_R (hE : EnvOk P E) {t : TypeId} {sh : Sh} {k : AV} {k' : Value} (hs : keySh E t = some sh) (hk : keyOk sh k = true) (hv : VR φ k k') (b : Bool) :
    (Instr.checkKey b 10000 t k').run P w = .ok () w ∧ ∃ d, und E t = some d := checkKey_n 9998 hE hs hk hv b

/-! the key that stays -/
theorem intsEq_R : ∀ {l m : List AV} {l' m' : List Value}, intsEq l m = true → VRs φ l l' → VRs φ m m' → l' = m' ∧ (∀ n, (m'.zip l').all (fun x => Instr.sameBits n x.1 x.2) = true)
  | [], [], _, _, _, h1, h2 => by cases h1; cases h2; simp
  | [], _ :: _, _, _, h, _, _ => by simp [intsEq] at h
  | _ :: _, [], _, _, h, _, _ => by simp [intsEq] at h
  | a :: l, b :: m, _, _, h, h1, h2 => by
    cases h1 with
    | cons ha hl =>
      cases h2 with
      | cons hb hm =>
        simp only [intsEq] at h
        split at h
        · rename_i hi
          obtain ⟨e1, e2⟩ := intsEq_R h hl hm
          cases a with
          | int k x => cases b with
            | int j y =>
              simp only [intEq] at hi
              split at hi
              · rename_i hk
                have hk := kEq_true hk
                subst hk
                simp only [Option.some.injEq] at hi
                rw [iEq_beq] at hi
                have := eq_of_beq hi
                subst this
                rw [ha.int_inv, hb.int_inv, e1]
                refine ⟨rfl, fun n => ?_⟩
                have := e2 n
                rw [e1] at this
                simp only [List.zip_cons_cons, List.all_cons, Bool.and_eq_true]
                exact ⟨by cases n <;> simp [Instr.sameBits], this⟩
              · cases hi
            | _ => simp [intEq] at hi
          | _ => simp [intEq] at hi
        · cases h

theorem keyEq_R {k e : AV} {k' e' : Value} (h : keyEq k e = true) (hk : VR φ k k') (he : VR φ e e') : Instr.sameBits 10000 e' k' = true := by
  cases k with
  | int j a => cases e with
    | int i b =>
      simp only [keyEq] at h
      split at h
      · rename_i hj
        have := kEq_true hj; subst this
        rw [iEq_beq] at h
        have := eq_of_beq h; subst this
        rw [hk.int_inv, he.int_inv]; simp [Instr.sameBits]
      · cases h
    | _ => simp [keyEq] at h
  | bool a => cases e with
    | bool b => simp only [keyEq] at h; rw [hk.bool_inv, he.bool_inv]; cases a <;> cases b <;> simp_all [bEq, Instr.sameBits]
    | _ => simp [keyEq] at h
  | str a => cases e with
    | str b =>
      simp only [keyEq] at h
      obtain ⟨x, rfl, hx⟩ := hk.str_inv
      obtain ⟨y, rfl, hy⟩ := he.str_inv
      have : nlEq b a = true := by rw [nlEq_eq] at h ⊢; simp at h ⊢; exact h.symm
      show (y == x) = true
      rw [bytes_beq hy hx]; exact this
    | _ => simp [keyEq] at h
  | agg l => cases e with
    | agg m =>
      simp only [keyEq] at h
      obtain ⟨x, rfl, hx⟩ := hk.agg_inv
      obtain ⟨y, rfl, hy⟩ := he.agg_inv
      obtain ⟨e1, e2⟩ := intsEq_R h hx hy
      have hxy : x = y := Array.ext' e1
      subst hxy
      show (x.size == x.size && (x.toList.zip x.toList).all fun (a, b) => Instr.sameBits 9999 a b) = true
      rw [beq_self_eq_true, Bool.true_and]
      exact e2 9999
    | _ => simp [keyEq] at h
  | _ => simp [keyEq] at h

theorem run_stays {k e : AV} {k' e' : Value} (h : keyEq k e = true) (hk : VR φ k k') (he : VR φ e e') : (Instr.keyThatStays e' k').run P w = .ok k' w := by
  simp [Instr.keyThatStays, keyEq_R h hk he]

end
end Go.Ev

/- One operation that gives a value. Part 11: the map operations' simulation. -/
namespace Go.Ev

section
variable {P : Program} {E : Env} {w0 : Array Obj} {φ : Phi} {h h' : H} {w : World} {tm : T AV} {ρ : Operand → Value} {o : Oper} {v : AV}

/-- A search of the abstract machine, and the model's. -/
theorem findQ_R (hE : EnvOk P E) {t : TypeId} {sh : Sh} {k : AV} {k' : Value} (hs : keySh E t = some sh) (hv : VR φ k k') {es : List AEnt} {es' : Array MapEntry} (hes : ERs φ es es'.toList) {r : Option AEnt} (hq : findQ sh k es = some r) :
    (∀ b, (Instr.checkKey b 10000 t k').run P w = .ok () w) ∧
    (match r with
     | none => (Instr.findKey t k' es'.toList).run P w = .ok none w
     | some e => ∃ j e', es[j]? = some e ∧ es'[j]? = some e' ∧ ER φ e e' ∧ (Instr.findKey t k' es'.toList).run P w = .ok (some (j, e'.val)) w ∧
        ∀ v es2, updK (eqv 20 sh) k v es = some es2 → es2 = es.modify j (fun e => ⟨k, v, e.born⟩) ∧ keyEq k e.key = true) := by
  unfold findQ at hq
  split at hq
  · rename_i hk
    have hc := fun b => (checkKey_R (P := P) (w := w) hE hs hk hv b)
    obtain ⟨d, hd⟩ := (hc true).2
    refine ⟨fun b => (hc b).1, ?_⟩
    have hsh := shape_key hE hs
    subst hsh
    obtain ⟨f1, f2⟩ := findKey_R (w := w) hE hd hv hes
    cases r with
    | none => exact f1 (findK_none hq)
    | some e =>
      obtain ⟨j, g1, g2, g3, g4⟩ := findK_some hq
      obtain ⟨e', q1, q2⟩ := f2 j e g1 g2 g3
      obtain ⟨e2, q3, q4⟩ := hes.get g1
      rw [q1] at q3; cases q3
      exact ⟨j, e', g1, by simpa using q1, q4, q2, g4⟩
  · cases hq

variable (hr : HR E w0 φ h w.heap) (hρ : RhoR φ tm ρ)
include hr hρ

omit hr hρ in
theorem getObj_map {r : Nat} {es : Array MapEntry} {k : Nat} (hb : w.heap[r]? = some (.map es k)) : (getObj r).run P w = .ok (.map es k) w := by simp [getObj, Sem.run, hb]
def setW (w : World) (r : Nat) (ob : Obj) : World := { w with heap := w.heap.setIfInBounds r ob }
omit hr hρ in
theorem setObj_map {r : Nat} {es : Array MapEntry} {k : Nat} (ob : Obj) (hb : w.heap[r]? = some (.map es k)) : (setObj r ob).run P w = .ok () (setW w r ob) := by simp [setObj, Sem.run, hb, setW]

theorem sim_lookup (hE : EnvOk P E) {t kt e : TypeId} {sh : Sh} {z : AV} {m k : Operand} {ok : Bool} (hu : und E t = some (.map kt e)) (hs : keySh E kt = some sh) (hz : zeroV E e = some z) (ho : o.op = .lookup t m k ok)
    (hx : exec (.lookup sh z (opd m) (opd k) ok) h tm = .val v h') : Sim1 E w0 φ w h ((execOp ρ o).run P w) v h' := by
  simp only [exec] at hx
  obtain ⟨zv, z1, z2⟩ := run_zero hE hz w
  split at hx
  · cases hx
  · rename_i es hes
    -- the entries that are looked at
    have key : ∃ es' : Array MapEntry, ERs φ es es'.toList ∧ ((ρ m = .map none ∧ es' = #[]) ∨ ∃ r c, ρ m = .map (some r) ∧ w.heap[r]? = some (.map es' c)) := by
      split at hes
      · rename_i hb
        simp only [Option.some.injEq] at hes; subst hes
        exact ⟨#[], .nil, .inl ⟨VR.nilm_inv (hb ▸ hρ m), rfl⟩⟩
      · rename_i r hb
        obtain ⟨l, hφ, ea⟩ := VR.map_inv (hb ▸ hρ m)
        split at hes
        · rename_i es1 c hg
          simp only [Option.some.injEq] at hes; subst hes
          obtain ⟨es', h1, h2⟩ := HR.map_at hr hφ hg
          exact ⟨es', h2, .inr ⟨_, _, ea, h1⟩⟩
        · cases hes
      · cases hes
    obtain ⟨es', h1, h2⟩ := key
    have run : ∀ q u b, (∀ b, (Instr.checkKey b 10000 kt (ρ k)).run P w = .ok () w) → (Instr.findKey kt (ρ k) es'.toList).run P w = .ok q w →
        ((∃ i, q = some (i, u) ∧ b = true) ∨ (q = none ∧ u = zv ∧ b = false)) →
        (execOp ρ o).run P w = .ok (.value (if ok = true then .tuple #[u, .bool b] else u)) w := by
      intro q u b hc hf hq
      rcases h2 with ⟨em, rfl⟩ | ⟨r, c, em, hb⟩
      · simp only [execOp, ho, Instr.lookup, Sem.run_bind, run_und hE hu, Result.andThen_ok, em, Sem.run_pure, hc, hf]
        rcases hq with ⟨i, rfl, rfl⟩ | ⟨rfl, rfl, rfl⟩
        · cases ok <;> simp
        · cases ok <;> simp [z1]
      · simp only [execOp, ho, Instr.lookup, Sem.run_bind, run_und hE hu, Result.andThen_ok, em, Sem.run_pure, getObj_map hb, hc, hf]
        rcases hq with ⟨i, rfl, rfl⟩ | ⟨rfl, rfl, rfl⟩
        · cases ok <;> simp
        · cases ok <;> simp [z1]
    split at hx
    · rename_i e1 hq
      obtain ⟨hc, j, e', g1, g2, g3, g4, g5⟩ := findQ_R (P := P) (w := w) hE hs (hρ k) h1 hq
      simp only [Ev.R.val.injEq] at hx; obtain ⟨rfl, rfl⟩ := hx
      refine .same hr (run _ e'.val true hc g4 (.inl ⟨j, rfl, rfl⟩)) ?_
      cases ok with
      | true => exact .tup (.cons g3.val (.cons (.bool _) .nil))
      | false => exact g3.val
    · rename_i hq
      obtain ⟨hc, hf⟩ := findQ_R (P := P) (w := w) hE hs (hρ k) h1 hq
      simp only [Ev.R.val.injEq] at hx; obtain ⟨rfl, rfl⟩ := hx
      refine .same hr (run _ zv false hc hf (.inr ⟨rfl, rfl, rfl⟩)) ?_
      cases ok with
      | true => exact .tup (.cons (z2 φ) (.cons (.bool _) .nil))
      | false => exact z2 φ
    · cases hx

/-- A map written over. -/
theorem HR.mapOver {r : Nat} {l : Loc} {es es2 : List AEnt} {es' es2' : Array MapEntry} {c c' : Nat} (hφ : φ r = some l) (hg : H.get h r = some (.map es c)) (h2 : ERs φ es2 es2'.toList) :
    HR E w0 φ (H.set h r (.map es2 c')) (w.heap.setIfInBounds l.cb (.map es2' c')) :=
  hr.over hφ hg rfl (.map h2) rfl

theorem sim_mupd (hE : EnvOk P E) {t kt e : TypeId} {sh : Sh} {m k x : Operand} (hu : und E t = some (.map kt e)) (hs : keySh E kt = some sh) (ho : o.op = .mapUpdate t m k x)
    (hx : exec (.mupd sh (opd m) (opd k) (opd x)) h tm = .val v h') : Sim1 E w0 φ w h ((execOp ρ o).run P w) v h' := by
  simp only [exec] at hx
  split at hx
  · rename_i r hb
    obtain ⟨l, hφ, ea⟩ := VR.map_inv (hb ▸ hρ m)
    split at hx
    · rename_i es c hg
      obtain ⟨es', h1, h2⟩ := HR.map_at hr hφ hg
      split at hx
      · rename_i e1 hq
        obtain ⟨hc, j, e', g1, g2, g3, g4, g5⟩ := findQ_R (P := P) (w := w) hE hs (hρ k) h2 hq
        split at hx
        · rename_i es2 hu2
          simp only [Ev.R.val.injEq] at hx; obtain ⟨rfl, rfl⟩ := hx
          obtain ⟨q1, q2⟩ := g5 _ _ hu2
          have hst := run_stays (P := P) (w := w) q2 (hρ k) g3.key
          have hnew : ERs φ es2 (es'.modify j fun e => { e with key := ρ k, val := ρ x }).toList := by
            rw [q1, Array.toList_modify]
            exact h2.modify fun a a' _ _ h => ⟨hρ k, hρ x, h.born⟩
          refine ⟨φ, undef, setW w l.cb (.map _ _), .refl _ _, .inr ⟨?_, rfl⟩, .unk _, HR.mapOver hr hρ (es' := es') hφ hg hnew, ⟨rfl, rfl, rfl⟩⟩
          · simp only [execOp, ho, Instr.mapUpdate, Sem.run_bind, run_und hE hu, Result.andThen_ok, ea, getObj_map h1, hc, g4, g2, Option.map_some, Option.getD_some, hst, setObj_map _ h1, Sem.run_pure]
        · cases hx
      · rename_i hq
        obtain ⟨hc, hf⟩ := findQ_R (P := P) (w := w) hE hs (hρ k) h2 hq
        simp only [Ev.R.val.injEq] at hx; obtain ⟨rfl, rfl⟩ := hx
        have hnew : ERs φ (List.append es [⟨ev tm (opd k), ev tm (opd x), c⟩]) (es'.push { key := ρ k, val := ρ x, born := c }).toList := by
          rw [Array.toList_push]
          exact h2.append (.cons ⟨hρ k, hρ x, rfl⟩ .nil)
        refine ⟨φ, undef, setW w l.cb (.map _ _), .refl _ _, .inr ⟨?_, rfl⟩, .unk _, HR.mapOver hr hρ (es' := es') hφ hg hnew, ⟨rfl, rfl, rfl⟩⟩
        · simp only [execOp, ho, Instr.mapUpdate, Sem.run_bind, run_und hE hu, Result.andThen_ok, ea, getObj_map h1, hc, hf, setObj_map _ h1, Sem.run_pure]
      · cases hx
    · cases hx
  · cases hx

theorem sim_ment (hE : EnvOk P E) {t kt e : TypeId} {sh : Sh} {z : AV} {m k : Operand} (hu : und E t = some (.map kt e)) (hs : keySh E kt = some sh) (hz : zeroV E e = some z) (ho : o.op = .mapEntry t m k)
    (hx : exec (.ment sh z (opd m) (opd k)) h tm = .val v h') : Sim1 E w0 φ w h ((execOp ρ o).run P w) v h' := by
  simp only [exec] at hx
  obtain ⟨zv, z1, z2⟩ := run_zero hE hz w
  split at hx
  · rename_i r hb
    obtain ⟨l, hφ, ea⟩ := VR.map_inv (hb ▸ hρ m)
    split at hx
    · rename_i es c hg
      obtain ⟨es', h1, h2⟩ := HR.map_at hr hφ hg
      split at hx
      · rename_i e1 hq
        obtain ⟨hc, j, e', g1, g2, g3, g4, g5⟩ := findQ_R (P := P) (w := w) hE hs (hρ k) h2 hq
        split at hx
        · rename_i es2 hu2
          simp only [Ev.R.val.injEq] at hx; obtain ⟨rfl, rfl⟩ := hx
          obtain ⟨q1, q2⟩ := g5 _ _ hu2
          have hst := run_stays (P := P) (w := w) q2 (hρ k) g3.key
          have hnew : ERs φ es2 (es'.modify j fun e => { e with key := ρ k }).toList := by
            rw [q1, Array.toList_modify]
            refine h2.modify fun a a' ha ha' h => ⟨hρ k, ?_, h.born⟩
            rw [g1] at ha; cases ha
            exact h.val
          refine ⟨φ, .tuple #[e'.val, goInt e'.born], setW w l.cb (.map _ _), .refl _ _, .inl ?_, .tup (.cons g3.val (.cons (by rw [g3.born]; exact .int _ _) .nil)), HR.mapOver hr hρ (es' := es') hφ hg hnew, ⟨rfl, rfl, rfl⟩⟩
          · simp only [execOp, ho, Instr.mapEntry, Sem.run_bind, run_und hE hu, Result.andThen_ok, ea, getObj_map h1, hc, g4, g2, Option.map_some, Option.getD_some, hst, setObj_map _ h1, Sem.run_pure]
        · cases hx
      · rename_i hq
        obtain ⟨hc, hf⟩ := findQ_R (P := P) (w := w) hE hs (hρ k) h2 hq
        simp only [Ev.R.val.injEq] at hx; obtain ⟨rfl, rfl⟩ := hx
        have hnew : ERs φ (List.append es [⟨ev tm (opd k), z, c⟩]) (es'.push { key := ρ k, val := zv, born := c }).toList := by
          rw [Array.toList_push]
          exact h2.append (.cons ⟨hρ k, z2 φ, rfl⟩ .nil)
        refine ⟨φ, .tuple #[zv, goInt c], setW w l.cb (.map _ _), .refl _ _, .inl ?_, .tup (.cons (z2 φ) (.cons (.int _ _) .nil)), HR.mapOver hr hρ (es' := es') hφ hg hnew, ⟨rfl, rfl, rfl⟩⟩
        · simp only [execOp, ho, Instr.mapEntry, Sem.run_bind, run_und hE hu, Result.andThen_ok, ea, getObj_map h1, hc, hf, z1, setObj_map _ h1, Sem.run_pure]
      · cases hx
    · cases hx
  · cases hx

omit hr hρ in
theorem setBorn_R {b : Nat} {v : AV} : ∀ {es es2 : List AEnt}, setBorn b v es = some es2 → ∃ j e, es[j]? = some e ∧ e.born = b ∧ (∀ m x, m < j → es[m]? = some x → x.born ≠ b) ∧ es2 = es.modify j (fun e => ⟨e.key, v, e.born⟩)
  | [], _, h => by simp [setBorn] at h
  | a :: es, es2, h => by
    simp only [setBorn] at h
    split at h
    · rename_i h1
      simp only [Option.some.injEq] at h; subst h
      exact ⟨0, a, rfl, beq_true h1, fun m x hm => absurd hm (by omega), by simp⟩
    · rename_i h1
      split at h
      · rename_i r hr
        simp only [Option.some.injEq] at h; subst h
        obtain ⟨j, e, g1, g2, g3, rfl⟩ := setBorn_R hr
        refine ⟨j + 1, e, by simpa using g1, g2, fun m x hm hx => ?_, by simp⟩
        cases m with
        | zero => simp at hx; subst hx; exact beq_false h1
        | succ m => exact g3 m x (by omega) (by simpa using hx)
      · cases h

theorem sim_mstore {t : TypeId} {m s x : Operand} (ho : o.op = .entryStore t m s x) (hx : exec (.mstore (opd m) (opd s) (opd x)) h tm = .val v h') : Sim1 E w0 φ w h ((execOp ρ o).run P w) v h' := by
  simp only [exec] at hx
  split at hx
  · rename_i r hb
    obtain ⟨l, hφ, ea⟩ := VR.map_inv (hb ▸ hρ m)
    split at hx
    · rename_i kk sn hsn
      have es1 := VR.int_inv (hsn ▸ hρ s)
      split at hx
      · rename_i es c hg
        obtain ⟨es', h1, h2⟩ := HR.map_at hr hφ hg
        split at hx
        · rename_i es2 hu2
          simp only [Ev.R.val.injEq] at hx; obtain ⟨rfl, rfl⟩ := hx
          obtain ⟨j, e, g1, g2, g3, g4⟩ := setBorn_R hu2
          have hfind : es'.findIdx? (fun e => (e.born : Int) == (sn : Int)) = some j := by
            rw [Array.findIdx?_eq_some_iff_getElem]
            obtain ⟨e', q1, q2⟩ := h2.get g1
            rw [Array.getElem?_toList] at q1
            obtain ⟨hlt, q1⟩ := Array.getElem?_eq_some_iff.1 q1
            refine ⟨hlt, by rw [q1, ← q2.born, g2]; simp, fun m hm => ?_⟩
            have hml : m < es.length := by have := (List.getElem?_eq_some_iff.1 g1).1; omega
            obtain ⟨x', p1, p2⟩ := h2.get (List.getElem?_eq_getElem hml)
            rw [Array.getElem?_toList] at p1
            obtain ⟨hlt', p1⟩ := Array.getElem?_eq_some_iff.1 p1
            have := g3 m _ hm (List.getElem?_eq_getElem hml)
            rw [p1, ← p2.born]
            simp; omega
          have hnew : ERs φ es2 (es'.modify j fun e => { e with val := ρ x }).toList := by
            rw [g4, Array.toList_modify]
            exact h2.modify fun a a' _ _ h => ⟨h.key, hρ x, h.born⟩
          refine ⟨φ, undef, setW w l.cb (.map _ _), .refl _ _, .inr ⟨?_, rfl⟩, .unk _, HR.mapOver hr hρ (es' := es') hφ hg hnew, ⟨rfl, rfl, rfl⟩⟩
          simp only [execOp, ho, Instr.entryStore, Sem.run_bind, Result.andThen_ok, ea, getObj_map h1, es1, asInt, asIntOf, Sem.run_pure]
          have hfind' : es'.findIdx? (fun e => (e.born : Int) == Int.ofNat sn) = some j := hfind
          simp only [hfind', setObj_map _ h1, Result.andThen_ok]
        · cases hx
      · cases hx
    · cases hx
  · cases hx

theorem sim_delete (hE : EnvOk P E) {c : Call} {m k : Operand} {t kt e : TypeId} {r : List TypeId} {sh : Sh} (ho : o.op = .call c) (hc : c.callee = .builtin .delete) (ha : c.args.toList = [m, k]) (ht : c.argTypes.toList = t :: r)
    (hu : und E t = some (.map kt e)) (hs : keySh E kt = some sh) (hx : exec (.delete sh (opd m) (opd k)) h tm = .val v h') : Sim1 E w0 φ w h ((execOp ρ o).run P w) v h' := by
  simp only [exec] at hx
  split at hx
  · rename_i r hb
    obtain ⟨l, hφ, ea⟩ := VR.map_inv (hb ▸ hρ m)
    split at hx
    · rename_i es cl hg
      obtain ⟨es', h1, h2⟩ := HR.map_at hr hφ hg
      split at hx
      · rename_i es2 hko hd
        simp only [Ev.R.val.injEq] at hx; obtain ⟨rfl, rfl⟩ := hx
        rcases delK_cases hd with ⟨g1, rfl⟩ | ⟨j, e0, g0, g1, g2, g3, rfl⟩
        · have hq : findQ sh (ev tm (opd k)) es2 = some none := by unfold findQ; rw [hko]; exact g1
          obtain ⟨hck, hf⟩ := findQ_R (P := P) (w := w) hE hs (hρ k) h2 hq
          refine ⟨φ, .tuple #[], setW w l.cb (.map _ _), .refl _ _, .inl ?_, .tup .nil, HR.mapOver hr hρ (es' := es') hφ hg h2, ⟨rfl, rfl, rfl⟩⟩
          rw [run_builtin ho hc, args2 ha, ea]
          simp [builtin, Builtin.delete_, ts_get ht, run_und hE hu, getObj_map h1, hck, hf, setObj_map _ h1]
        · have hq : findQ sh (ev tm (opd k)) es = some (some e0) := by unfold findQ; rw [hko]; exact g0
          obtain ⟨hck, j', e', q1, q2, q3, q4, q5⟩ := findQ_R (P := P) (w := w) hE hs (hρ k) h2 hq
          have hsh := shape_key hE hs
          subst hsh
          obtain ⟨d, hdd⟩ := (checkKey_R (P := P) (w := w) hE hs hko (hρ k) true).2
          obtain ⟨e2, p1, p2⟩ := (findKey_R (w := w) hE hdd (hρ k) h2).2 j e0 g1 g2 g3
          have hjj : j' = j := by rw [q4] at p2; simp only [Result.ok.injEq, Option.some.injEq, Prod.mk.injEq] at p2; exact p2.1.1
          subst hjj
          refine ⟨φ, .tuple #[], setW w l.cb (.map _ _), .refl _ _, .inl ?_, .tup .nil, HR.mapOver hr hρ (es' := es') (es2' := es'.eraseIdxIfInBounds j') hφ hg ?_, ⟨rfl, rfl, rfl⟩⟩
          · rw [run_builtin ho hc, args2 ha, ea]
            simp [builtin, Builtin.delete_, ts_get ht, run_und hE hu, getObj_map h1, hck, q4, setObj_map _ h1]
          · rw [Array.toList_eraseIdxIfInBounds]; exact h2.erase j'
      · cases hx
    · cases hx
  · cases hx
end
end Go.Ev

/- One operation that gives a value. Part 12: ranges over maps. -/
namespace Go.Ev

section
variable {P : Program} {E : Env} {w0 : Array Obj} {φ : Phi} {h h' : H} {w : World} {tm : T AV} {ρ : Operand → Value} {o : Oper} {v : AV}

theorem leftE_R {since : Nat} {seen : List Nat} : ∀ {es : List AEnt} {es' : List MapEntry} {l : List AEnt}, leftE since seen es = some l → ERs φ es es' →
    ERs φ l (es'.filter fun e => !seen.contains e.born) ∧ (∀ e ∈ l, e.born < since)
  | [], es', l, h, hes => by cases hes; simp only [leftE, Option.some.injEq] at h; subst h; exact ⟨.nil, by simp⟩
  | a :: es, es', l, h, hes => by
    cases hes with
    | @cons _ a' _ es' ha hes =>
      simp only [leftE] at h
      split at h
      · cases h
      · rename_i l1 h1
        obtain ⟨g1, g2⟩ := leftE_R h1 hes
        split at h
        · rename_i hm
          simp only [Option.some.injEq] at h; subst h
          have hc : (!seen.contains a'.born) = false := by
            rw [← ha.born]; simp; exact (memN_iff _ _).1 hm
          rw [List.filter_cons, hc]
          exact ⟨g1, g2⟩
        · rename_i hm
          split at h
          · rename_i hlt
            simp only [Option.some.injEq] at h; subst h
            have hc : (!seen.contains a'.born) = true := by
              rw [← ha.born]; simp
              intro hin
              rw [(memN_iff _ _).2 hin] at hm; cases hm
            rw [List.filter_cons, hc]
            refine ⟨.cons ha g1, fun e he => ?_⟩
            rcases List.mem_cons.1 he with rfl | he
            · exact ble_true hlt
            · exact g2 e he
          · cases h

theorem ERs.mem {l : List AEnt} {l' : List MapEntry} (h : ERs φ l l') : ∀ e' ∈ l', ∃ e ∈ l, ER φ e e' := by
  induction h with
  | nil => simp
  | cons he _ ih =>
    intro x hx
    rcases List.mem_cons.1 hx with rfl | hx
    · exact ⟨_, List.mem_cons_self .., he⟩
    · obtain ⟨e, h1, h2⟩ := ih x hx; exact ⟨e, List.mem_cons_of_mem _ h1, h2⟩

theorem chkNext_R {stepped : Nat} {seen : List Nat} {es : List AEnt} {es' : Array MapEntry} (h : chkNext stepped seen es = true) (hes : ERs φ es es'.toList) :
    (!seen.toArray.isEmpty && !es'.isEmpty && es'.all (·.born ≥ stepped)) = false := by
  unfold chkNext at h
  cases seen with
  | nil => simp
  | cons s seen =>
    cases es with
    | nil =>
      have := hes.length
      have : es' = #[] := Array.eq_empty_of_size_eq_zero (by simpa using this.symm)
      subst this; simp
    | cons e es =>
      simp only at h
      rw [List.any_eq_true] at h
      obtain ⟨x, h1, h2⟩ := h
      have h2 := ble_true h2
      obtain ⟨i, hi⟩ := List.getElem?_of_mem h1
      obtain ⟨x', q1, q2⟩ := hes.get hi
      have hall : es'.all (·.born ≥ stepped) = false := by
        rw [← Array.all_toList, List.all_eq_false]
        exact ⟨x', List.mem_of_getElem? q1, by rw [← q2.born]; simp; omega⟩
      rw [hall]; simp

variable (hr : HR E w0 φ h w.heap) (hρ : RhoR φ tm ρ)
include hr hρ

theorem sim_rangeM (hE : EnvOk P E) {t a b : TypeId} {x : Operand} (hu : und E t = some (.map a b)) (ho : o.op = .range t x) (hx : exec (.rangeM (opd x)) h tm = .val v h') : Sim1 E w0 φ w h ((execOp ρ o).run P w) v h' := by
  simp only [exec] at hx
  have new : ∀ (m m' : Option Nat) (c : Nat), OptR φ m m' → (execOp ρ o).run P w = .ok (.value (.pointer (some ⟨w.heap.size, 0, none⟩))) (w.alloc (.mapIter m' c #[] c)) →
      Sim1 E w0 φ w h ((execOp ρ o).run P w) (.ptr h.n 0) (H.new h (.miter m c [] c)) := by
    intro m m' c hm e
    have hle : Phi.le φ (φ.upd h.n ⟨w.heap.size, 0, 0⟩) := Phi.le_upd _ hr.fresh
    refine ⟨_, _, _, ⟨hle, fun _ hb => Phi.upd_ne _ _ hb⟩, .inl e, .ptr (Phi.upd_same _ _ _), ?_, ⟨rfl, rfl, rfl⟩⟩
    exact hr.new rfl (.miter rfl (hm.mono hle)) rfl
  split at hx
  · rename_i hb
    have ea := VR.nilm_inv (hb ▸ hρ x)
    simp only [Ev.R.val.injEq] at hx; obtain ⟨rfl, rfl⟩ := hx
    exact new none none 0 .none (by simp [execOp, ho, Instr.range, run_und hE hu, ea])
  · rename_i m hb
    obtain ⟨l, hφ, ea⟩ := VR.map_inv (hb ▸ hρ x)
    split at hx
    · rename_i es c hg
      obtain ⟨es', h1, h2⟩ := HR.map_at hr hφ hg
      simp only [Ev.R.val.injEq] at hx; obtain ⟨rfl, rfl⟩ := hx
      exact new (some m) (some l.cb) c (.some hφ) (by simp [execOp, ho, Instr.range, run_und hE hu, ea, getObj_map h1])
    · cases hx
  · cases hx

omit hρ in
theorem HR.iter_at {r : Nat} {l : Loc} {m : Option Nat} {since st : Nat} {seen : List Nat} (hφ : φ r = some l) (hb : H.get h r = some (.miter m since seen st)) :
    ∃ m' : Option Nat, w.heap[l.cb]? = some (.mapIter m' since seen.toArray st) ∧ OptR φ m m' ∧ l.base = 0 := by
  obtain ⟨o, h1, h2⟩ := hr.blk _ _ _ hφ hb
  cases h2 with
  | miter h0 h => exact ⟨_, h1, h, h0⟩

omit hr hρ in
theorem getObj_iter {r : Nat} {m : Option Nat} {a c : Nat} {b : Array Nat} (hb : w.heap[r]? = some (.mapIter m a b c)) : (getObj r).run P w = .ok (.mapIter m a b c) w := by simp [getObj, Sem.run, hb]
omit hr hρ in
theorem setObj_iter {r : Nat} {m : Option Nat} {a c : Nat} {b : Array Nat} (ob' : Obj) (hb : w.heap[r]? = some (.mapIter m a b c)) : (setObj r ob').run P w = .ok () (setW w r ob') := by simp [setObj, Sem.run, hb, setW]

theorem sim_entry {it : Operand} (ho : o.op = .entry it) (hx : exec (.entry (opd it)) h tm = .val v h') : Sim1 E w0 φ w h ((execOp ρ o).run P w) v h' := by
  simp only [exec] at hx
  split at hx
  · rename_i r hb
    obtain ⟨l, hφ, ea⟩ := VR.ptr_inv (hb ▸ hρ it)
    split at hx
    · rename_i m since seen st hg
      obtain ⟨m', h1, h2, h3⟩ := HR.iter_at hr hφ hg
      cases h2 with
      | @some _ lm hm =>
      rw [h3, Nat.zero_add] at ea
      split at hx
      · rename_i es c s hgm hs
        obtain ⟨es', g1, g2⟩ := HR.map_at hr hm hgm
        split at hx
        · rename_i e hc hf
          simp only [Ev.R.val.injEq] at hx; obtain ⟨rfl, rfl⟩ := hx
          have hc : c = st := beq_true hc
          subst hc
          have hfind : ∃ e', es'.find? (·.born == s) = some e' ∧ ER φ e e' := by
            rw [← Array.find?_toList]
            clear hgm g1
            generalize es'.toList = l' at g2
            induction g2 with
            | nil => simp [findBorn] at hf
            | @cons a a' _ _ ha _ ih =>
              simp only [findBorn] at hf
              split at hf
              · rename_i hh
                simp only [Option.some.injEq] at hf; subst hf
                have := beq_true hh
                exact ⟨a', by rw [List.find?_cons, ← ha.born, this]; simp, ha⟩
              · rename_i hh
                have := beq_false hh
                obtain ⟨e', p1, p2⟩ := ih hf
                exact ⟨e', by rw [List.find?_cons, ← ha.born, beq_false_of_ne this]; exact p1, p2⟩
          obtain ⟨e', p1, p2⟩ := hfind
          have hback : seen.toArray.back? = some s := by rw [List.back?_toArray]; exact hs
          refine .same (v' := .tuple #[e'.key, e'.val]) hr ?_ (.tup (.cons p2.key (.cons p2.val .nil)))
          simp only [execOp, ho, Instr.entry, ea, Sem.run_bind, getObj_iter h1, Result.andThen_ok, hback, getObj_map g1]
          simp [p1]
        · cases hx
      · cases hx
    · cases hx
  · cases hx

/-- A step of a range over a map: the entries that may come. -/
theorem run_next {it : Operand} (ho : o.op = .next it false) {l lm : Loc} {since st : Nat} {seen : List Nat} {es : List AEnt} {es' : Array MapEntry} {c : Nat} {left : List AEnt}
    (ea : ρ it = .pointer (some ⟨l.cb, 0, none⟩)) (h1 : w.heap[l.cb]? = some (.mapIter (some lm.cb) since seen.toArray st)) (g1 : w.heap[lm.cb]? = some (.map es' c)) (hes : ERs φ es es'.toList)
    (hc : chkNext st seen es = true) (hl : leftE since seen es = some left) :
    (left = [] → ∃ w', (execOp ρ o).run P w = .ok (.value (.tuple #[.bool false])) w' ∧ w'.heap = w.heap ∧ Like w w') ∧
    (left ≠ [] → ∃ e e' w', e ∈ left ∧ ER φ e e' ∧ (w'.heap = w.heap ∧ Like w w') ∧ (execOp ρ o).run P w = .ok (.value (.tuple #[.bool true, e'.key, e'.val])) (setW w' l.cb (.mapIter (some lm.cb) since (seen.toArray.push e'.born) c))) := by
  obtain ⟨q1, q2⟩ := leftE_R hl hes
  have hchk := chkNext_R hc hes
  have hnew : ∀ e' ∈ es'.toList.filter (fun e => !seen.contains e.born), e'.born < since := by
    intro e' he'
    obtain ⟨e, p1, p2⟩ := q1.mem e' he'
    rw [← p2.born]; exact q2 e p1
  have hleft : (es'.filter fun e => !seen.toArray.contains e.born) = (es'.toList.filter fun e => !seen.contains e.born).toArray := by
    apply Array.ext'; simp
  generalize hlc : (es'.toList.filter fun e => !seen.contains e.born) = lc at q1 hnew hleft
  have hold : (lc.toArray.filter fun e => decide (e.born < since)) = lc.toArray := by
    apply Array.ext'; simp only [List.filter_toArray]
    exact List.filter_eq_self.2 fun e he => by simpa using hnew e he
  have hnone : (lc.toArray.filter fun e => decide (e.born ≥ since)) = #[] := by
    apply Array.ext'; simp only [List.filter_toArray]
    exact List.filter_eq_nil_iff.2 fun e he => by have := hnew e he; simp; omega
  have hrun : (execOp ρ o).run P w = (((choose (.mapNext ((if lc.toArray.isEmpty then #[none] else #[]) ++ lc.toArray.map some).size)).run P w).andThen fun k w =>
      (match (((if lc.toArray.isEmpty then #[none] else #[]) ++ lc.toArray.map some)[k]? : Option (Option MapEntry)) with
       | some (some e) => (do
          setObj l.cb (.mapIter (some lm.cb) since (seen.toArray.push e.born) c)
          pure (.tuple #[.bool true, e.key, e.val]) : Sem Value)
       | some none => pure (.tuple #[.bool false])
       | none => stuck "Next: no such candidate").run P w).andThen fun a w' => Sem.run P (pure (Next.value a)) w' := by
    simp only [execOp, ho, Instr.next, ea, Sem.run_bind, getObj_iter h1, Result.andThen_ok, getObj_map g1, hchk, Bool.false_eq_true, if_false, hleft, hold, hnone, Array.append_empty]
    rfl
  have hsz : (lc.toArray.map (some : MapEntry → Option MapEntry)).size = lc.length := by simp
  refine ⟨fun hl0 => ?_, fun hl0 => ?_⟩
  · subst hl0
    have hlc0 : lc = [] := by cases q1; rfl
    subst hlc0
    rw [hrun]
    refine ⟨w, ?_, rfl, .refl _⟩
    simp [Question.forced]
  · have hne : lc ≠ [] := by intro e; subst e; cases q1; exact hl0 rfl
    have hemp : lc.toArray.isEmpty = false := by cases lc with | nil => exact absurd rfl hne | cons _ _ => rfl
    have hpos : 0 < lc.length := List.length_pos_iff.2 hne
    have hk : ∃ k w', (choose (.mapNext lc.length)).run P w = .ok k w' ∧ (w'.heap = w.heap ∧ Like w w') ∧ k < lc.length := by
      rw [run_choose]
      split
      · exact ⟨0, w, rfl, ⟨rfl, .refl _⟩, hpos⟩
      · exact ⟨_, _, rfl, ⟨rfl, ⟨rfl, rfl, rfl⟩⟩, Nat.mod_lt _ hpos⟩
    obtain ⟨k, w', k1, k2, k3⟩ := hk
    obtain ⟨e, p1, p2⟩ := q1.mem lc[k] (List.getElem_mem k3)
    refine ⟨e, lc[k], w', p1, p2, k2, ?_⟩
    rw [hrun]
    simp only [hemp, Bool.false_eq_true, if_false, Array.empty_append, hsz, k1, Result.andThen_ok]
    have : (lc.toArray.map (some : MapEntry → Option MapEntry))[k]? = some (some lc[k]) := by simp [k3]
    simp only [this, Sem.run_bind, setObj_iter _ (show w'.heap[l.cb]? = _ by rw [k2.1]; exact h1), Result.andThen_ok, Sem.run_pure]

theorem sim_nextV {it : Operand} (ho : o.op = .next it false) (hx : exec (.nextM (opd it)) h tm = .val v h') : Sim1 E w0 φ w h ((execOp ρ o).run P w) v h' := by
  simp only [exec] at hx
  split at hx
  · rename_i r hb
    obtain ⟨l, hφ, ea⟩ := VR.ptr_inv (hb ▸ hρ it)
    split at hx
    · rename_i since seen st hg
      obtain ⟨m', h1, h2, h3⟩ := HR.iter_at hr hφ hg
      cases h2 with
      | none =>
      rw [h3, Nat.zero_add] at ea
      simp only [Ev.R.val.injEq] at hx; obtain ⟨rfl, rfl⟩ := hx
      exact .same (v' := .tuple #[.bool false]) hr (by simp [execOp, ho, Instr.next, ea, getObj_iter h1]) (.tup (.cons (.bool _) .nil))
    · rename_i m since seen st hg
      obtain ⟨m', h1, h2, h3⟩ := HR.iter_at hr hφ hg
      cases h2 with
      | @some _ lm hm =>
      rw [h3, Nat.zero_add] at ea
      split at hx
      · rename_i es c hgm
        obtain ⟨es', g1, g2⟩ := HR.map_at hr hm hgm
        split at hx
        · rename_i hl hc
          simp only [Ev.R.val.injEq] at hx; obtain ⟨rfl, rfl⟩ := hx
          obtain ⟨w', p1, p2, p3⟩ := (run_next hr hρ ho ea h1 g1 g2 hc hl).1 rfl
          exact ⟨φ, _, w', .refl _ _, .inl p1, .tup (.cons (.bool _) .nil), by rw [p2]; exact hr, p3⟩
        · cases hx
        · cases hx
      · cases hx
    · cases hx
  · cases hx

theorem sim_nextN {it : Operand} {ws : List (AV × H)} (ho : o.op = .next it false) (hx : exec (.nextM (opd it)) h tm = .next ws) : ∃ x ∈ ws, Sim1 E w0 φ w h ((execOp ρ o).run P w) x.1 x.2 := by
  simp only [exec] at hx
  split at hx
  · rename_i r hb
    obtain ⟨l, hφ, ea⟩ := VR.ptr_inv (hb ▸ hρ it)
    split at hx
    · cases hx
    · rename_i m since seen st hg
      obtain ⟨m', h1, h2, h3⟩ := HR.iter_at hr hφ hg
      cases h2 with
      | @some _ lm hm =>
      have ea' := ea
      rw [h3, Nat.zero_add] at ea'
      split at hx
      · rename_i es c hgm
        obtain ⟨es', g1, g2⟩ := HR.map_at hr hm hgm
        split at hx
        · cases hx
        · rename_i e1 l1 hl hc
          simp only [Ev.R.next.injEq] at hx; subst hx
          obtain ⟨e, e', w', p1, p2, p3, p4⟩ := (run_next hr hρ ho ea' h1 g1 g2 hc hl).2 (by simp)
          refine ⟨_, List.mem_map.2 ⟨e, p1, rfl⟩, φ, .tuple #[.bool true, e'.key, e'.val], setW w' l.cb (.mapIter (some lm.cb) since (seen.toArray.push e'.born) c), .refl _ _, .inl p4, .tup (.cons (.bool _) (.cons p2.key (.cons p2.val .nil))), ?_, ⟨p3.2.os, p3.2.tape, p3.2.output⟩⟩
          show HR E w0 φ _ (w'.heap.setIfInBounds l.cb _)
          rw [p3.1]
          refine hr.over hφ hg rfl ?_ rfl
          have : (seen.toArray.push e'.born) = (List.append seen [e.born]).toArray := by rw [← p2.born]; apply Array.ext'; simp
          rw [this]
          exact .miter h3 (.some hm)
        · cases hx
      · cases hx
    · cases hx
  · cases hx
end
end Go.Ev

/- One operation: all those that give a value. -/
namespace Go.Ev

section
variable {P : Program} {E : Env} {w0 : Array Obj} {φ : Phi} {h h' : H} {w : World} {tm : T AV} {ρ : Operand → Value} {o : Oper} {v : AV}
variable (hr : HR E w0 φ h w.heap) (hρ : RhoR φ tm ρ)
include hr hρ

omit hr hρ in
theorem no {p : Prop} (hx : exec .bad h tm = .val v h') : p := by simp [exec] at hx

theorem sim_builtin (hE : EnvOk P E) {c : Call} {b : Builtin} (ho : o.op = .call c) (hc : c.callee = .builtin b) (hx : exec (compB E b c.args.toList c.argTypes.toList) h tm = .val v h') : Sim1 E w0 φ w h ((execOp ρ o).run P w) v h' := by
  unfold compB at hx
  split at hx
  · split at hx
    · rename_i s x st xt ha ht
      split at hx
      · rename_i e hu
        split at hx
        · rename_i n z hs hz
          split at hx
          · rename_i t
            split at hx
            · rename_i k hk; exact sim_appendZ hr hρ hE ho hc ha ht hu hk hs hz hx
            · rename_i e' hk; exact sim_append hr hρ hE ho hc ha ht hu hk (.inr ⟨_, rfl⟩) hs hz hx
            · rename_i hk; exact sim_append hr hρ hE ho hc ha ht hu hk (.inl rfl) hs hz hx
            · exact no hx
          · exact no hx
        · exact no hx
      · exact no hx
    · exact no hx
  · split at hx
    · rename_i d s dt r ha ht
      split at hx
      · rename_i e hu
        split at hx
        · rename_i n hs; exact sim_copy hr hρ hE ho hc ha ht hu hs hx
        · exact no hx
      · exact no hx
    · exact no hx
  · split at hx
    · rename_i x t ha ht
      split at hx
      · rename_i hu; exact sim_lenT hr hρ hE ho hc ha ht hu hx
      · rename_i e hu; exact sim_lenS hr hρ hE ho hc ha ht hu hx
      · rename_i a b hu; exact sim_lenM hr hρ hE ho hc ha ht hu hx
      · rename_i n e hu; exact sim_lenC hr hρ hE ho hc ha ht (.inl hu) hx
      · rename_i a hu
        split at hx
        · rename_i n e hu'; exact sim_lenC hr hρ hE ho hc ha ht (.inr ⟨a, hu, hu'⟩) hx
        · exact no hx
      · exact no hx
    · exact no hx
  · split at hx
    · rename_i x t ha ht
      split at hx
      · rename_i e hu; exact sim_capS hr hρ hE ho hc ha ht hu hx
      · exact no hx
    · exact no hx
  · split at hx
    · rename_i a b ha; exact sim_max hr hρ ho hc ha hx
    · exact no hx
  · split at hx
    · rename_i a b ha; exact sim_min hr hρ ho hc ha hx
    · exact no hx
  · split at hx
    · rename_i m k mt r ha ht
      split at hx
      · rename_i kt e hu
        split at hx
        · rename_i sh hs; exact sim_delete hr hρ hE ho hc ha ht hu hs hx
        · exact no hx
      · exact no hx
    · exact no hx
  · split at hx
    · simp [exec] at hx
    · exact no hx
  · split at hx
    · simp only [exec] at hx; split at hx <;> cases hx
    · exact no hx
  · exact no hx

theorem sim_val (hE : EnvOk P E) (hx : exec (compOp E o.op) h tm = .val v h') : Sim1 E w0 φ w h ((execOp ρ o).run P w) v h' := by
  cases ho : o.op with
  | move x => rw [ho] at hx; exact sim_mv hr hρ (by simp only [execOp, ho]) hx
  | assign x => rw [ho] at hx; exact sim_mv hr hρ (by simp only [execOp, ho]) hx
  | pick c a b => rw [ho] at hx; exact sim_pick hr hρ ho hx
  | alloc e =>
    rw [ho] at hx; simp only [compOp] at hx
    split at hx
    · rename_i z hz; exact sim_alloc hr hρ hE hz ho hx
    · exact no hx
  | box e x => rw [ho] at hx; exact sim_box hr hρ ho hx
  | build t parts =>
    rw [ho] at hx; simp only [compOp] at hx
    split at hx
    · rename_i z ps hz hp ha; exact sim_build hr hρ hE hz hp ho hx
    · exact no hx
  | buildSlice t n parts =>
    rw [ho] at hx; simp only [compOp] at hx
    split at hx
    · rename_i e hu
      split at hx
      · rename_i s z hs hz hb; exact sim_bslice hr hρ hE hu hs hz (ble_true hb) ho hx
      · exact no hx
    · exact no hx
  | load t a =>
    rw [ho] at hx; simp only [compOp] at hx
    split at hx
    · rename_i i hi
      split at hx
      · rename_i ha; exact sim_loadN hr hρ hE hi ha ho hx
      · rename_i ha; exact sim_load1 hr hρ hE ha ho hx
      · exact no hx
    · exact no hx
  | store t a x =>
    rw [ho] at hx; simp only [compOp] at hx
    split at hx
    · rename_i i hi; exact sim_store hr hρ hE hi ho hx
    · exact no hx
  | nilCheck x => rw [ho] at hx; exact sim_nilc hr hρ ho hx
  | binOp op t x y yt => rw [ho] at hx; exact sim_bin hr hρ hE ho hx
  | unOp op t x => rw [ho] at hx; exact sim_un hr hρ ho hx
  | convert s d x =>
    rw [ho] at hx; simp only [compOp] at hx
    split at hx
    · rename_i k hs
      split at hx
      · rename_i j hd; exact sim_conv hr hρ hE hs hd ho hx
      · exact no hx
    · rename_i e hs
      split at hx
      · rename_i hd
        split at hx
        · rename_i he; exact sim_b2s hr hρ hE hs hd he ho hx
        · exact no hx
      · rename_i e' hd
        split at hx
        · rename_i hsd he
          have := beq_true hsd; subst this
          exact sim_cslice hr hρ hE hs hd he ho hx
        · exact no hx
      · exact no hx
    · exact no hx
  | makeInterface t x =>
    rw [ho] at hx; simp only [compOp] at hx
    split at hx
    · exact no hx
    · rename_i d hd hu; exact sim_mkif hr hρ hE hu (fun ms e => hd ms (by rw [← e])) ho hx
    · exact no hx
  | makeFunc fn a c =>
    rw [ho] at hx; simp only [compOp] at hx
    cases fn with
    | func f => exact sim_mkfn hr hρ ho hx
    | _ => exact no hx
  | makeMap t r =>
    rw [ho] at hx; simp only [compOp] at hx
    cases r with
    | none => exact sim_mkmap hr hρ ho hx
    | some _ => exact no hx
  | makeSlice t l c =>
    rw [ho] at hx; simp only [compOp] at hx
    split at hx
    · rename_i e hu
      split at hx
      · rename_i s z hs hz; exact sim_mkslice hr hρ hE hu hs hz ho hx
      · exact no hx
    · exact no hx
  | slice t x lo hi mx =>
    rw [ho] at hx; simp only [compOp] at hx
    split at hx
    · rename_i n e hu
      split at hx
      · rename_i s hs; exact sim_sliceA hr hρ hE (.inl hu) hs ho hx
      · exact no hx
    · rename_i e hu
      split at hx
      · rename_i s hs; exact sim_sliceS hr hρ hE hu hs ho hx
      · exact no hx
    · rename_i a hu
      split at hx
      · rename_i n e hu'
        split at hx
        · rename_i s hs; exact sim_sliceA hr hρ hE (.inr ⟨_, hu, hu'⟩) hs ho hx
        · exact no hx
      · exact no hx
    · exact no hx
  | fieldAddr s x f =>
    rw [ho] at hx; simp only [compOp] at hx
    split at hx
    · rename_i fs hu
      split at hx
      · rename_i fd hf
        split at hx
        · rename_i n hs; exact sim_faddr hr hρ hE hu hf hs ho hx
        · exact no hx
      · exact no hx
    · exact no hx
  | field t x f =>
    rw [ho] at hx; simp only [compOp] at hx
    split at hx
    · rename_i fs hu
      split at hx
      · rename_i fd hf
        split at hx
        · rename_i i hi ha; exact sim_fieldN hr hρ hE hu hf ha hi ho hx
        · rename_i i hi ha; exact sim_field1 hr hρ hE hu hf ha ho hx
        · exact no hx
      · exact no hx
    · exact no hx
  | indexAddr t x ix =>
    rw [ho] at hx; simp only [compOp] at hx
    split at hx
    · rename_i n e hu
      split at hx
      · rename_i s hs; exact sim_iaddrA hr hρ hE hu hs ho hx
      · exact no hx
    · rename_i e hu
      split at hx
      · rename_i s hs; exact sim_iaddrS hr hρ hE hu hs ho hx
      · exact no hx
    · exact no hx
  | index t x ix =>
    rw [ho] at hx; simp only [compOp] at hx
    split at hx
    · rename_i n e hu
      split at hx
      · rename_i i hi ha; exact sim_indexN hr hρ hE hu hi ha ho hx
      · rename_i i hi ha
        split at hx
        · rename_i h1; exact sim_index1 hr hρ hE hu hi (beq_true h1) ha ho hx
        · exact no hx
      · exact no hx
    · rename_i hu; exact sim_indexT hr hρ hE hu ho hx
    · exact no hx
  | lookup t m k ok =>
    rw [ho] at hx; simp only [compOp] at hx
    split at hx
    · rename_i kt e hu
      split at hx
      · rename_i sh z hs hz; exact sim_lookup hr hρ hE hu hs hz ho hx
      · exact no hx
    · exact no hx
  | mapUpdate t m k x =>
    rw [ho] at hx; simp only [compOp] at hx
    split at hx
    · rename_i kt e hu
      split at hx
      · rename_i sh hs; exact sim_mupd hr hρ hE hu hs ho hx
      · exact no hx
    · exact no hx
  | mapEntry t m k =>
    rw [ho] at hx; simp only [compOp] at hx
    split at hx
    · rename_i kt e hu
      split at hx
      · rename_i sh z hs hz; exact sim_ment hr hρ hE hu hs hz ho hx
      · exact no hx
    · exact no hx
  | entryStore t m s x => rw [ho] at hx; exact sim_mstore hr hρ ho hx
  | range t x =>
    rw [ho] at hx; simp only [compOp] at hx
    split at hx
    · rename_i a b hu; exact sim_rangeM hr hρ hE hu ho hx
    · exact no hx
  | next it s =>
    rw [ho] at hx; simp only [compOp] at hx
    cases s with
    | false => exact sim_nextV hr hρ ho hx
    | true => exact no hx
  | entry it => rw [ho] at hx; exact sim_entry hr hρ ho hx
  | typeAssert x xt t ok =>
    rw [ho] at hx; simp only [compOp] at hx
    split at hx
    · exact no hx
    · rename_i d hd hu
      split at hx
      · rename_i z hz; exact sim_tassert hr hρ hE hu (fun ms e => hd ms (by rw [← e])) hz ho hx
      · exact no hx
    · exact no hx
  | extract x i => rw [ho] at hx; exact sim_extract hr hρ ho hx
  | call c =>
    rw [ho] at hx; simp only [compOp] at hx
    split at hx
    · simp only [exec] at hx; split at hx <;> cases hx
    · exact no hx
    · rename_i b hb; exact sim_builtin hr hρ hE ho hb hx
  | defer c =>
    rw [ho] at hx; simp only [compOp] at hx
    split at hx
    · simp only [exec] at hx; split at hx <;> cases hx
    · exact no hx
  | panic x => rw [ho] at hx; simp only [compOp, exec] at hx; split at hx <;> cases hx
  | _ => rw [ho] at hx; exact no hx

omit hr hρ in
def VF (r : R) : Prop := (∃ v h', r = .val v h') ∨ r = .fail
omit hr hρ in
theorem VF.vo (h : H) (o : Option AV) : VF (Ev.vo h o) := by cases o with | none => exact .inr rfl | some v => exact .inl ⟨_, _, rfl⟩
omit hr hρ in
theorem VF.app (size bytes : Nat) (h : H) (s : AV) (new : List AV) (n : Nat) : VF (appendV size bytes h s new n) := by
  unfold appendV
  repeat' split
  all_goals first | exact .inr rfl | exact .inl ⟨_, _, rfl⟩

/-- Does the operation give more than a value? -/
def actsC (c : COp) : Bool :=
  match c with
  | .nextM _ => true
  | .callv _ _ => true
  | .defer _ _ => true
  | .panic _ => true
  | .recover => true
  | _ => false

omit hr hρ in
theorem exec_VF (c : COp) (hc : actsC c = false) : VF (exec c h tm) := by
  cases c <;> simp only [actsC, Bool.true_eq_false] at hc <;> simp only [exec] <;>
    repeat' first | exact .inr rfl | exact .inl ⟨_, _, rfl⟩ | exact VF.vo _ _ | exact VF.app _ _ _ _ _ _ | split

omit hr hρ in
theorem acts_of {c : COp} (hx : ¬ VF (exec c h tm)) : actsC c = true := by
  cases hc : actsC c with
  | true => rfl
  | false => exact absurd (exec_VF c hc) hx
end
end Go.Ev

