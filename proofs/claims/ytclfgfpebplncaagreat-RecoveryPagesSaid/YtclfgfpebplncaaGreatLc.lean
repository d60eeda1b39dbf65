/- build: one plain device, both sides. -/
import Derived.Test.YtclfgfpebplncaaGreatLb
import Derived.Test.YtclfgfpebplncaaGreatWb
set_option linter.unusedVariables false
set_option linter.unusedSectionVars false
set_option linter.unusedSimpArgs false
set_option maxRecDepth 10000
set_option maxHeartbeats 4000000
namespace Go.Ev
section
variable {P0 : Program} {E : Env} {F : T CFn} {K : T (List AV × AV)} (L : Lg P0 E F K) (X : Fx F K)
include L X
section
variable {κ : Nat → Nat} {h0 h : H} {Q : Nat → AV → Prop} {cs : List AFr} {g0 g1 g2 g3 i sb cap a9 d e : Nat} {D D2 : Dv} {rv : List AV} {l : List (St × AV)}
/-- The end of a round. -/
theorem build_z (q : BI κ h h0.n (h0.n + 1) a9 d (geoC g0 g1 g2 g3) D D rv (.slc sb 0 l.length cap) l) (hn : D.n ≤ i + 1) (hsz : D.sz = g2) (hk : K0 h0 h) (z : ∀ b, b < h0.n → κ b = 0) (hi : i < 30) (h9 : h0.n + 1 < a9)
    (ih : ∀ (s' : (Nat → Nat) × Dv × List AV) (h' : H) (l' : List (Nat × Option AV)), BJ h0 s'.1 h' a9 d (geoC g0 g1 g2 g3) g2 (i + 1) s'.2.1 s'.2.2 (.slc sb 0 l.length cap) l → TSub (tms (BT (i + 1) h0.n a9 d (.slc sb 0 l.length cap))) (tms l') → Good P0 E Q ⟨⟨8, cf8.ntmps, tms l', [.inLoop c8_59, .inBlock 0, .code c8_64], [], .run, false, none⟩, cs, h'⟩) :
    Good P0 E Q ⟨⟨8, cf8.ntmps, tms ([(134, some (.int .i64 ((e : Nat) : Int))), (8, some (.int .i64 ((e : Nat) : Int))), (10, some (.int .i64 ((e : Nat) : Int))), (11, some (.int .i64 ((i : Nat) : Int))), (1, some (.slc sb 0 l.length cap)), (2, some (.ptr h0.n 0)), (5, some (.ptr (h0.n + 1) 0)), (7, some (.ptr d 0)), (9, some (.ptr a9 0))]), [.ops (opsAt c8_44 1), .code c8_47, .code c8_51, .inBlock 1, .code c8_57, .inLoop c8_59, .inBlock 0, .code c8_64], [], .run, false, none⟩, cs, hp h.n h.t []⟩ := by
  refine cal (c := num_ct L X) (g := ?_)
  rintro _ rfl
  have qk9 := q.k9
  have qrd := q.rd
  obtain ⟨rok, fb1, pb1, eb1, ecap1, cp1, ce1, rfl, hec, rdc⟩ := qrd
  refine wk ?_
  have qdv := q.dv
  obtain ⟨ok, fm, bb, cb, r⟩ := qdv
  refine cal (c := restart_ct L X r.dk) (g := ?_)
  rintro _ h1 ⟨rfl, w1, w2⟩
  have ch := r.chd w2
  have q1 := q.ch ch ⟨ok.on, fm, bb, cb, r.cnt w1 w2 rfl rfl rfl⟩
  have z1 := ch.z hk z
  have k1 := ch.out hk z
  have qk9 := q1.k9
  refine wk ?_
  refine cal (c := rrestart_ct L X) (g := ?_)
  rintro _ h2 ⟨rfl, w3⟩
  have q2 := q1.k0 w3
  have n2 := w3.n
  have m9 := q1.k9.lt
  have qk9 := q2.k9
  refine wk ?_
  refine ih (_, { D with cut := -1, off := false }, rvC { D with cut := -1, off := false } fb1 pb1 eb1 ecap1) _ _ ⟨q2.w9 (q2.rd.cnt ok.on rfl rfl rfl) (by omega) (by omega), hn, rfl, hsz, ?_, ext_z z1⟩ tsb
  exact kps
/-- A block is erased. -/
theorem build_e {a12 : Nat} {blk : Int} {r12 : List AV} (q : BI κ h h0.n (h0.n + 1) a9 d (geoC g0 g1 g2 g3) D D rv (.slc sb 0 l.length cap) l) (k12 : Bk h a12 (.int .i64 blk :: r12)) (c12 : κ a12 = 100) (hn : D.n ≤ i) (hsz : D.sz = g2) (hk : K0 h0 h) (z : ∀ b, b < h0.n → κ b = 0) (hi : i < 30) (h9 : h0.n + 1 < a9) (h12 : a9 < a12)
    (ih : ∀ (s' : (Nat → Nat) × Dv × List AV) (h' : H) (l' : List (Nat × Option AV)), BJ h0 s'.1 h' a9 d (geoC g0 g1 g2 g3) g2 (i + 1) s'.2.1 s'.2.2 (.slc sb 0 l.length cap) l → TSub (tms (BT (i + 1) h0.n a9 d (.slc sb 0 l.length cap))) (tms l') → Good P0 E Q ⟨⟨8, cf8.ntmps, tms l', [.inLoop c8_59, .inBlock 0, .code c8_64], [], .run, false, none⟩, cs, h'⟩) :
    Good P0 E Q ⟨⟨8, cf8.ntmps, tms ([(79, some (.agg rv)), (81, some (.int .i64 blk)), (12, some (.ptr a12 0)), (11, some (.int .i64 ((i : Nat) : Int))), (1, some (.slc sb 0 l.length cap)), (2, some (.ptr h0.n 0)), (5, some (.ptr (h0.n + 1) 0)), (7, some (.ptr d 0)), (9, some (.ptr a9 0))]), [.ops (opsAt c8_20 3), .code c8_21, .code c8_52, .inBlock 1, .code c8_57, .inLoop c8_59, .inBlock 0, .code c8_64], [], .run, false, none⟩, cs, hp h.n h.t []⟩ := by
  have qk9 := q.k9
  have qrd := q.rd
  obtain ⟨rok, fb1, pb1, eb1, ecap1, cp1, ce1, rfl, hec, rdc⟩ := qrd
  have l9 := qk9.lt
  have l12 := k12.lt
  refine cal (c := rErase_ct L X (κ := κ) (D := D) q.rd (by omega)) (g := ?_)
  rintro _ h1 ⟨rv2, rfl, w1, w2⟩
  have n1 := w2.n
  have q1 := q.k0 w2
  have w3 := w1
  obtain ⟨-, fb2, pb2, eb2, ecap2, cp2, ce2, rfl, -, -⟩ := w3
  have qk9 := q1.k9
  have k13 := bk_k0 w2 k12
  have c13 : ext κ h.n a12 = 100 := (ext_lt l12).trans c12
  refine wk ?_
  have q2 := BI.w9 (n := h1.n) (t := h1.t) (lh := []) q1 w1 (by omega) (by omega)
  refine cal (c := fErase_ct L X q2.dv (by omega)) (g := ?_)
  rintro _ h2 ⟨rfl, κ3, w4, w5⟩
  have q3 := q2.ch w5 w4
  have k14 : Bk h2 a12 (.int .i64 blk :: r12) := bk_k w5.k (by rw [c13]; omega) (by exact lkp)
  have sm := D.erase_same blk
  have kk : K0 h0 (hp h1.n h1.t [(a9, some (cl (rvC (D.erase blk).1 fb2 pb2 eb2 ecap2)))]) := kps
  refine wk ?_
  refine keep L (nm := [134, 8, 10, 11, 1, 2, 5, 7, 9]) rfl ?_
  exact build_z L X q3 (by have := sm.n; omega) (sm.sz.trans hsz) (w5.out kk (ext_z z)) (w5.z kk (ext_z z)) hi h9 ih
omit L X in
theorem rawB_len (s : Sp) (data : List Nat) : (rawB s data).length = 64 := by unfold rawB; rw [List.length_append, head60_len, leb_len]
omit L X in
theorem rawB_all {s : Sp} (h : s.kind < 256) (data : List Nat) : AllB (rawB s data) := (head60_all h).app (leb_all _ _)
def cel (blk : Int) (er cut : Bool) (byt : Int) (sp : Sp) (dat : Nat) (ev : AV) : List AV := [.int .i64 blk, .bool er, .bool cut, .int .i64 byt, .int .u8 ((sp.kind : Nat) : Int), .int .i64 sp.sec, .int .u64 ((sp.seq : Nat) : Int), .int .u64 ((sp.prev : Nat) : Int), .int .i64 sp.idx, .int .i64 sp.len, .int .u8 ((dat : Nat) : Int), ev]
/-- A page is programmed: its data are there. -/
theorem build_q {a12 db dat : Nat} {blk byt : Int} {er cut : Bool} {sp : Sp} {ev : AV} {data : List Nat} (q : BI κ h h0.n (h0.n + 1) a9 d (geoC g0 g1 g2 g3) D D rv (.slc sb 0 l.length cap) l) (k12 : Bk h a12 (cel blk er cut byt sp dat ev)) (c12 : κ a12 = 100) (hn : D.n ≤ i) (hsz : D.sz = g2) (hk : K0 h0 h) (z : ∀ b, b < h0.n → κ b = 0) (hi : i < 30) (h9 : h0.n + 1 < a9) (h12 : a9 < a12)
    (hs : sp.Ok) (kd : BS h db 0 data) (cd : κ db = 0) (hd : data.length = g2)
    (ih : ∀ (s' : (Nat → Nat) × Dv × List AV) (h' : H) (l' : List (Nat × Option AV)), BJ h0 s'.1 h' a9 d (geoC g0 g1 g2 g3) g2 (i + 1) s'.2.1 s'.2.2 (.slc sb 0 l.length cap) l → TSub (tms (BT (i + 1) h0.n a9 d (.slc sb 0 l.length cap))) (tms l') → Good P0 E Q ⟨⟨8, cf8.ntmps, tms l', [.inLoop c8_59, .inBlock 0, .code c8_64], [], .run, false, none⟩, cs, h'⟩) :
    Good P0 E Q ⟨⟨8, cf8.ntmps, tms ([(13, some (.slc db 0 g2 g2)), (12, some (.ptr a12 0)), (11, some (.int .i64 ((i : Nat) : Int))), (1, some (.slc sb 0 l.length cap)), (2, some (.ptr h0.n 0)), (5, some (.ptr (h0.n + 1) 0)), (7, some (.ptr d 0)), (9, some (.ptr a9 0))]), [.ops (opsAt c8_33 0), .code c8_38, .code c8_52, .inBlock 1, .code c8_57, .inLoop c8_59, .inBlock 0, .code c8_64], [], .run, false, none⟩, cs, hp h.n h.t []⟩ := by
  subst hsz
  have qk9 := q.k9
  have qrd := q.rd
  obtain ⟨rok, fb1, pb1, eb1, ecap1, cp1, ce1, rfl, hec, rdc⟩ := qrd
  have l9 := qk9.lt
  have l12 := k12.lt
  have gsz := rok.g.sz
  unfold cel at k12
  refine wk ?_
  refine cal (c := rnext_ct L X (i := blk) rdc rok) (g := ?_)
  rintro _ h1 ⟨rfl, w1⟩
  have n1 := w1.n
  have q1 := q.k0 w1
  have k13 := bk_k0 w1 k12
  have kd1 := kd.k0 w1
  refine wk ?_
  refine cal (c := raw_ct L X (s := sp) (data := data) hs kd1 hd (by omega)) (g := ?_)
  rintro _ h2 ⟨xb, rfl, w2, w3, w4⟩
  have n2 := w4.n
  have q2 := q1.k0 w4
  have qk9 := q2.k9
  have k14 := bk_k0 w4 k13
  have kd2 := kd1.k0 w4
  have kx2 : BS h2 xb 0 (rawB sp data) := bs_of w2 (rawB_all hs.kind data)
  have rl := rawB_len sp data
  refine wk ?_
  refine cal (c := rProgram_ct L X (i := blk) (D := D) (data := data) (extra := rawB sp data) q2.rd (by omega) (fun hh => by rw [if_pos hh]) kd2 kx2 hd rl) (g := ?_)
  rintro _ h3 ⟨rv2, rfl, w5, w6⟩
  have n3 := w6.n
  have q3 := q2.k0 w6
  have w7 := w5
  obtain ⟨-, fb2, pb2, eb2, ecap2, cp2, ce2, rfl, -, -⟩ := w7
  have qk9 := q3.k9
  have k15 := bk_k0 w6 k14
  have kd3 := kd2.k0 w6
  have kx3 := kx2.k0 w6
  have m1 := kd.lt_n
  refine wk ?_
  have q4 := BI.w9 (n := h3.n) (t := h3.t) (lh := []) q3 w5 (by omega) (by omega)
  have l3 := kx2.lt_n
  have ne1 : db ≠ a9 := fun e => by have := q.c9; subst e; omega
  have ne2 : xb ≠ a9 := fun e => by subst e; omega
  refine cal (c := fProgram_ct L X (i := blk) (D := D) (data := data) (extra := rawB sp data) q4.dv (by omega) (fun hh => by rw [if_pos hh]) (bs_n ne1 kd3) (bs_n ne2 kx3) hd rl) (g := ?_)
  rintro _ h4 ⟨rfl, κ5, w8, w9⟩
  have q5 := q4.ch w9 w8
  have sm := D.prog_same blk (data ++ rawB sp data)
  have kk : K0 h0 (hp h3.n h3.t [(a9, some (cl (rvC (D.prog blk (data ++ rawB sp data)).1 fb2 pb2 eb2 ecap2)))]) := kps
  refine wk ?_
  refine keep L (nm := [134, 8, 10, 11, 1, 2, 5, 7, 9]) rfl ?_
  exact build_z L X q5 (by have := sm.n; omega) sm.sz (w9.out kk (ext_z (ext_z (ext_z z)))) (w9.z kk (ext_z (ext_z (ext_z z)))) hi h9 ih
/-- A page is programmed. -/
theorem build_p {a12 dat : Nat} {blk byt : Int} {er cut : Bool} {sp : Sp} {ev : AV} {ents : List Ent} (q : BI κ h h0.n (h0.n + 1) a9 d (geoC g0 g1 g2 g3) D D rv (.slc sb 0 l.length cap) l) (k12 : Bk h a12 (cel blk er cut byt sp dat ev)) (c12 : κ a12 = 100) (hn : D.n ≤ i) (hsz : D.sz = g2) (hk : K0 h0 h) (z : ∀ b, b < h0.n → κ b = 0) (hi : i < 30) (h9 : h0.n + 1 < a9) (h12 : a9 < a12)
    (hs : sp.Ok) (hg : 12 ≤ g2 ∧ g2 ≤ 30) (hd : dat < 256) (hev : EntR κ h ev ents) (hel : ents.length ≤ 4)
    (ih : ∀ (s' : (Nat → Nat) × Dv × List AV) (h' : H) (l' : List (Nat × Option AV)), BJ h0 s'.1 h' a9 d (geoC g0 g1 g2 g3) g2 (i + 1) s'.2.1 s'.2.2 (.slc sb 0 l.length cap) l → TSub (tms (BT (i + 1) h0.n a9 d (.slc sb 0 l.length cap))) (tms l') → Good P0 E Q ⟨⟨8, cf8.ntmps, tms l', [.inLoop c8_59, .inBlock 0, .code c8_64], [], .run, false, none⟩, cs, h'⟩) :
    Good P0 E Q ⟨⟨8, cf8.ntmps, tms ([(90, some (.int .i64 ((g2 : Nat) : Int))), (92, some (.int .u8 ((dat : Nat) : Int))), (12, some (.ptr a12 0)), (11, some (.int .i64 ((i : Nat) : Int))), (1, some (.slc sb 0 l.length cap)), (2, some (.ptr h0.n 0)), (5, some (.ptr (h0.n + 1) 0)), (7, some (.ptr d 0)), (9, some (.ptr a9 0))]), [.ops (opsAt c8_23 4), .code c8_40, .code c8_52, .inBlock 1, .code c8_57, .inLoop c8_59, .inBlock 0, .code c8_64], [], .run, false, none⟩, cs, hp h.n h.t []⟩ := by
  have qk2 := q.k2
  have l2 := qk2.lt
  have l12 := k12.lt
  refine cal (c := filled_ct L X (n := g2) (v := dat) (by omega) hd) (g := ?_)
  rintro _ h1 ⟨db, rfl, w1, w2, w3⟩
  have n1 := w3.n
  have q1 := q.k0 w3
  have k14 := bk_k0 w3 k12
  have k15 := k14
  unfold cel at k15
  have qk2 := q1.k2
  have c1 : ext κ h.n a12 = 100 := (ext_lt l12).trans c12
  have kd : BS h1 db 0 (List.replicate g2 dat) := bs_of w1 (AllB.rep hd)
  have cd : ext κ h.n db = 0 := ext_ge w2
  have kk1 : K0 h0 h1 := Kp.tr0 w3 hk
  by_cases hk1 : sp.kind = 1
  · refine wk ?_
    refine keep L (nm := [13, 12, 11, 1, 2, 5, 7, 9]) rfl ?_
    exact build_q L X q1 k14 c1 hn hsz kk1 (ext_z z) hi h9 h12 hs kd cd List.length_replicate ih
  · refine wk ?_
    refine cal (c := encode8_ct L X (l := ents) (sz := g2) (κ := ext κ h.n) (hev.fw (K0.fwe w3)) (by omega) (by omega)) (g := ?_)
    rintro _ h2 ⟨⟨bv, rfl, w4⟩, w5⟩
    have n2 := w5.n
    have q2 := q1.k0 w5
    have k16 := bk_k0 w5 k14
    have c2 : ext (ext κ h.n) h1.n a12 = 100 := (ext_lt k14.lt).trans c1
    have kk2 : K0 h0 h2 := Kp.tr0 w5 kk1
    by_cases hen : encE g2 ents = 0
    · obtain ⟨b2, rfl, w6, w7⟩ := w4 hen
      have hcap : 4 + 8 * ents.length ≤ g2 := by
        unfold encE at hen
        split at hen
        · split at hen
          · cases hen
          · omega
        · cases hen
      refine wk ?_
      refine keep L (nm := [13, 12, 11, 1, 2, 5, 7, 9]) rfl ?_
      exact build_q L X q2 k16 c2 hn hsz kk2 (ext_z (ext_z z)) hi h9 h12 hs (bs_of w6 (encJ_all _ _)) (ext_ge w7) (encJ_len hcap) ih
    · refine wk ?_
      refine keep L (nm := [13, 12, 11, 1, 2, 5, 7, 9]) rfl ?_
      exact build_q L X q2 k16 c2 hn hsz kk2 (ext_z (ext_z z)) hi h9 h12 hs (kd.k0 w5) ((ext_lt kd.lt_n).trans cd) List.length_replicate ih
end
section
variable {h : H}
/-- The law's device and its reference, built side by side. -/
theorem build_ct {κ : Nat → Nat} {g0 g1 g2 g3 : Nat} {v : AV} {l : List (St × AV)} (k : StR κ h v l) (z : ∀ b, b < h.n → κ b = 0) (h0 : 2 ≤ g0 ∧ g0 ≤ 6) (h1 : 2 ≤ g1 ∧ g1 ≤ 6) (h2 : 12 ≤ g2 ∧ g2 ≤ 30) (h3 : 1 ≤ g3 ∧ g3 ≤ 1000) (hl : l.length ≤ 30) (he : ∀ x ∈ l, x.1.ents.length ≤ 4) :
    Ct P0 E F K 8 [.agg (geoC g0 g1 g2 g3), v] h fun u h' => ∃ d rv D κ', u = .tup [.ptr d 0, .agg rv, .bool true] ∧ DevR κ' h' d D ∧ RDev κ' h' D rv ∧ D.n ≤ 30 ∧ D.off = false ∧ (∀ b, b < h.n → κ' b = 0) ∧ K0 h h' := by
  refine ct_in2 L X.f8 X.k8 rfl rfl fun Q x cs G => ?_
  refine wk ?_
  refine cal (c := new_ct (D := Dv.new g0 g1 g2 g3) (κ := upd (upd κ h.n 100) (h.n + 1) 100) L X h0 h1 h2 h3) (g := ?_)
  rintro _ h4 ⟨d, κ1, rfl, w1, w2, w3⟩
  have n4 := w1.n
  simp only [hp_n] at n4 w3
  refine wk ?_
  refine cal (c := rnew_ct (κ := κ1) L X h0 h1 h2 h3) (g := ?_)
  rintro _ h5 ⟨rv, rfl, w4, w5⟩
  have n5 := w5.n
  simp only [hp_n] at n5 w4
  have w4' := w4
  obtain ⟨-, fb, pb, eb, ecap, cp, ce, rfl, -, -⟩ := w4'
  refine wk ?_
  refine cal (c := num_ct L X) (g := ?_)
  rintro _ rfl
  refine wk ?_
  have y2 : h.n ≠ h5.n := by omega
  have y5 : h.n + 1 ≠ h5.n := by omega
  have e11 : K0 h5 (hp (h5.n + 1) h5.t [(h5.n, some (cl (rvC (Dv.new g0 g1 g2 g3) fb pb eb ecap))), (h5.n, some (cl z11))]) := kps
  have hc : ∀ b, b < h5.n → upd (ext κ1 h4.n) h5.n 100 b = ext κ1 h4.n b := fun b hb => upd_ne _ _ (by omega)
  have i0 : BI (upd (ext κ1 h4.n) h5.n 100) (hp (h5.n + 1) h5.t [(h5.n, some (cl (rvC (Dv.new g0 g1 g2 g3) fb pb eb ecap))), (h5.n, some (cl z11))]) h.n (h.n + 1) h5.n d (geoC g0 g1 g2 g3) (Dv.new g0 g1 g2 g3) (Dv.new g0 g1 g2 g3) (rvC (Dv.new g0 g1 g2 g3) fb pb eb ecap) v l := by
    refine ⟨((w2.ext w5).recol hc).k0 e11, w4.fw ⟨e11.n, fun b hb _ => e11.old b hb fun f => f, hc⟩, lkp, lkp, lkp, ?_, ?_, upd_eq _ _ _, ?_⟩
    · rw [hc _ (by omega), ext_lt (by omega), w3 _ (by omega), upd_ne _ _ (by omega), upd_eq]
    · rw [hc _ (by omega), ext_lt (by omega), w3 _ (by omega), upd_eq]
    · refine k.fw ⟨by show h.n ≤ h5.n + 1; omega, fun b hb _ => ?_, fun b hb => ?_⟩
      · have : K0 h (hp (h5.n + 1) h5.t [(h5.n, some (cl (rvC (Dv.new g0 g1 g2 g3) fb pb eb ecap))), (h5.n, some (cl z11))]) := kps
        exact this.old b hb fun f => f
      · rw [hc _ (by omega), ext_lt (by omega), w3 _ (by omega), upd_ne _ _ (by omega), upd_ne _ _ (by omega)]
  have z1 : ∀ b, b < h.n → upd (ext κ1 h4.n) h5.n 100 b = 0 := fun b hb => by rw [hc _ (by omega), ext_lt (by omega), w3 _ (by omega), upd_ne _ _ (by omega), upd_ne _ _ (by omega)]; exact z b hb
  refine g_up L (α := (Nat → Nat) × Dv × List AV) (T := fun i _ => BT i h.n h5.n d v) (n := l.length)
    (R := fun i s hh => BJ h s.1 hh h5.n d (geoC g0 g1 g2 g3) g2 i s.2.1 s.2.2 v l) (i0 := 0)
    (upd (ext κ1 h4.n) h5.n 100, Dv.new g0 g1 g2 g3, rvC (Dv.new g0 g1 g2 g3) fb pb eb ecap) tsb ⟨i0, Nat.le_refl _, rfl, rfl, kps, z1⟩ (Nat.zero_le _) ?_ ?_
  · rintro i ⟨κ2, D, rv⟩ h6 hi ⟨q, q1, q2, q3, q4, q5⟩ ih
    simp only [] at q q1 q2 q3 q5
    rcases q.st.ex with ⟨rfl, rfl⟩ | ⟨sb, cap, rfl, hk, hcol⟩
    · exact absurd hi (Nat.not_lt_zero i)
    have hx : l[i]? = some l[i] := List.getElem?_eq_getElem hi
    have hm := List.getElem_mem hi
    have hent := he _ hm
    obtain ⟨hel1, hel2, hel3⟩ := q.st.el _ hm
    have hdt := flat_dt l (stC_len l) i _ hx
    generalize l[i] = s at *
    obtain ⟨⟨blk, er, cut, byt, sp, dat, ents⟩, ev⟩ := s
    simp only [] at hent hel1 hel2 hel3
    have hdt' : i * 12 + 12 ≤ (l.flatMap stC).length ∧ ((l.flatMap stC).drop (i * 12)).take 12 = [.int .i64 blk, .bool er, .bool cut, .int .i64 byt, .int .u8 ((sp.kind : Nat) : Int), .int .i64 sp.sec, .int .u64 ((sp.seq : Nat) : Int), .int .u64 ((sp.prev : Nat) : Int), .int .i64 sp.idx, .int .i64 sp.len, .int .u8 ((dat : Nat) : Int), ev] := hdt
    clear hdt
    have hpl : allPlain [.int .i64 blk, .bool er, .bool cut, .int .i64 byt, .int .u8 ((sp.kind : Nat) : Int), .int .i64 sp.sec, .int .u64 ((sp.seq : Nat) : Int), .int .u64 ((sp.prev : Nat) : Int), .int .i64 sp.idx, .int .i64 sp.len, .int .u8 ((dat : Nat) : Int), ev] = true := by
      have := hel1.plain
      show (match plainV ev with | true => true | false => false) = true
      rw [this]
    have qk2 := q.k2
    have qk9 := q.k9
    have qrd := q.rd
    obtain ⟨-, fb1, pb1, eb1, ecap1, cp1, ce1, rfl, -, -⟩ := qrd
    unfold BT
    refine wk ?_
    have l2 := qk2.lt
    have l9 := qk9.lt
    have n6 := q4.n
    (apply st1 L rfl; exact r_loadF lkr hdt' rfl; rfl)
    refine wk ?_
    (apply stS L rfl rfl rfl rfl rfl hpl; exact lkp; rfl; rfl)
    have kx : K0 h6 (hp (h6.n + 1) h6.t [(h6.n, some (cl (cel blk er cut byt sp dat ev))), (h6.n, some (cl [.int .i64 ((0 : Nat) : Int), .bool false, .bool false, .int .i64 ((0 : Nat) : Int), .int .u8 ((0 : Nat) : Int), .int .i64 ((0 : Nat) : Int), .int .u64 ((0 : Nat) : Int), .int .u64 ((0 : Nat) : Int), .int .i64 ((0 : Nat) : Int), .int .i64 ((0 : Nat) : Int), .int .u8 ((0 : Nat) : Int), .nils]))]) := kps
    have hcx : ∀ b, b < h6.n → upd κ2 h6.n 100 b = κ2 b := fun b hb => upd_ne _ _ (by omega)
    have qa := q.col kx hcx
    have ha := hel1.fw (Fw.mk (κ' := upd κ2 h6.n 100) kx.n (fun b hb _ => kx.old b hb fun f => f) hcx)
    have za : ∀ b, b < h.n → upd κ2 h6.n 100 b = 0 := fun b hb => (hcx b (by omega)).trans (q5 b hb)
    cases er with
    | true =>
      cases cut with
      | false =>
        refine wk ?_
        refine keep L (nm := [79, 81, 12, 11, 1, 2, 5, 7, 9]) rfl ?_
        exact build_e L X qa lkp (upd_eq _ _ _) q1 q3 kps za (by omega) (by omega) (by omega) ih
      | true =>
        by_cases hb : 0 ≤ byt ∧ byt ≤ ((g2 : Nat) : Int) + 64
        · obtain ⟨nb, rfl⟩ : ∃ nb : Nat, byt = nb := ⟨byt.toNat, by omega⟩
          refine wk ?_
          obtain ⟨rok, fm, bb, cb, r⟩ := qa.dv
          refine cal (c := operations_ct L X r.dk) (g := ?_)
          rintro _ rfl
          refine wk ?_
          refine cal (c := cut_ct L X r.dk q2 (by have := rok.g.sz; omega) (b := nb) (by omega)) (g := ?_)
          rintro _ h8 ⟨rfl, w1, w2⟩
          have ch := r.chd w2
          have ok1 := rok.cutS (b := nb) (by omega)
          have qb := qa.ch ch ⟨ok1, fm, bb, cb, r.cnt w1 w2 rfl rfl rfl⟩
          have kka : K0 h (hp (h6.n + 1) h6.t [(h6.n, some (cl (cel blk true true nb sp dat ev))), (h6.n, some (cl [.int .i64 ((0 : Nat) : Int), .bool false, .bool false, .int .i64 ((0 : Nat) : Int), .int .u8 ((0 : Nat) : Int), .int .i64 ((0 : Nat) : Int), .int .u64 ((0 : Nat) : Int), .int .u64 ((0 : Nat) : Int), .int .i64 ((0 : Nat) : Int), .int .i64 ((0 : Nat) : Int), .int .u8 ((0 : Nat) : Int), .nils]))]) := kps
          have kkb := ch.out kka za
          have kb : Bk h8 h6.n (cel blk true true nb sp dat ev) := bk_k ch.k (by rw [upd_eq]; omega) (by exact lkp)
          have kb2 := kb
          unfold cel at kb2
          have qk9 := qb.k9
          have lb := kb.lt
          refine wk ?_
          refine cal (c := pend_ct (D := D) L X q2 (by have := rok.g.sz; omega) (b := nb) (by omega)) (g := ?_)
          rintro _ h9 ⟨rfl, w3⟩
          have qc := qb.k0 w3
          have qk9 := qc.k9
          have n9 := w3.n
          have qk2 := qc.k2
          have l2b := qk2.lt
          have kc := bk_k0 w3 kb
          have kc2 := kc
          unfold cel at kc2
          refine wk ?_
          have qd := BI.w9 (n := h9.n) (t := h9.t) (lh := []) qc (qc.rd.cnt ok1 rfl rfl rfl) (by omega) (by omega)
          have hc12 : ext (upd κ2 h6.n 100) h8.n h6.n = 100 := (ext_lt lb).trans (upd_eq _ _ _)
          have hfe : EntR (ext (upd κ2 h6.n 100) h8.n) h9 ev ents := (ha.fw ch.fw).fw (K0.fwe w3)
          have kf : Kp (fun b => b = h5.n) h9 (hp h9.n h9.t [(h5.n, some (cl (rvC { D with cut := (D.n : Nat), byt := nb, off := false } fb1 pb1 eb1 ecap1)))]) := ⟨Nat.le_refl _, fun b _ hb => get_ne _ _ _ _ hb⟩
          have he2 := hfe.fw (kf.fw fun b _ e => by subst e; rw [qc.c9]; omega)
          refine keep L (nm := [79, 81, 12, 11, 1, 2, 5, 7, 9]) rfl ?_
          exact build_e L X qd lkp hc12 q1 q3 kps (ext_z za) (by omega) (by omega) (by omega) ih
        · by_cases hb1 : 0 ≤ byt
          · refine wk ?_
            refine keep L (nm := [79, 81, 12, 11, 1, 2, 5, 7, 9]) rfl ?_
            exact build_e L X qa lkp (upd_eq _ _ _) q1 q3 kps za (by omega) (by omega) (by omega) ih
          · refine wk ?_
            refine keep L (nm := [79, 81, 12, 11, 1, 2, 5, 7, 9]) rfl ?_
            exact build_e L X qa lkp (upd_eq _ _ _) q1 q3 kps za (by omega) (by omega) (by omega) ih
    | false =>
      cases cut with
      | false =>
        refine wk ?_
        refine keep L (nm := [90, 92, 12, 11, 1, 2, 5, 7, 9]) rfl ?_
        exact build_p L X qa lkp (upd_eq _ _ _) q1 q3 kps za (by omega) (by omega) (by omega) hel2 h2 hel3 ha hent ih
      | true =>
        by_cases hb : 0 ≤ byt ∧ byt ≤ ((g2 : Nat) : Int) + 64
        · obtain ⟨nb, rfl⟩ : ∃ nb : Nat, byt = nb := ⟨byt.toNat, by omega⟩
          refine wk ?_
          obtain ⟨rok, fm, bb, cb, r⟩ := qa.dv
          refine cal (c := operations_ct L X r.dk) (g := ?_)
          rintro _ rfl
          refine wk ?_
          refine cal (c := cut_ct L X r.dk q2 (by have := rok.g.sz; omega) (b := nb) (by omega)) (g := ?_)
          rintro _ h8 ⟨rfl, w1, w2⟩
          have ch := r.chd w2
          have ok1 := rok.cutS (b := nb) (by omega)
          have qb := qa.ch ch ⟨ok1, fm, bb, cb, r.cnt w1 w2 rfl rfl rfl⟩
          have kka : K0 h (hp (h6.n + 1) h6.t [(h6.n, some (cl (cel blk false true nb sp dat ev))), (h6.n, some (cl [.int .i64 ((0 : Nat) : Int), .bool false, .bool false, .int .i64 ((0 : Nat) : Int), .int .u8 ((0 : Nat) : Int), .int .i64 ((0 : Nat) : Int), .int .u64 ((0 : Nat) : Int), .int .u64 ((0 : Nat) : Int), .int .i64 ((0 : Nat) : Int), .int .i64 ((0 : Nat) : Int), .int .u8 ((0 : Nat) : Int), .nils]))]) := kps
          have kkb := ch.out kka za
          have kb : Bk h8 h6.n (cel blk false true nb sp dat ev) := bk_k ch.k (by rw [upd_eq]; omega) (by exact lkp)
          have kb2 := kb
          unfold cel at kb2
          have qk9 := qb.k9
          have lb := kb.lt
          refine wk ?_
          refine cal (c := pend_ct (D := D) L X q2 (by have := rok.g.sz; omega) (b := nb) (by omega)) (g := ?_)
          rintro _ h9 ⟨rfl, w3⟩
          have qc := qb.k0 w3
          have qk9 := qc.k9
          have n9 := w3.n
          have qk2 := qc.k2
          have l2b := qk2.lt
          have kc := bk_k0 w3 kb
          have kc2 := kc
          unfold cel at kc2
          refine wk ?_
          have qd := BI.w9 (n := h9.n) (t := h9.t) (lh := []) qc (qc.rd.cnt ok1 rfl rfl rfl) (by omega) (by omega)
          have hc12 : ext (upd κ2 h6.n 100) h8.n h6.n = 100 := (ext_lt lb).trans (upd_eq _ _ _)
          have hfe : EntR (ext (upd κ2 h6.n 100) h8.n) h9 ev ents := (ha.fw ch.fw).fw (K0.fwe w3)
          have kf : Kp (fun b => b = h5.n) h9 (hp h9.n h9.t [(h5.n, some (cl (rvC { D with cut := (D.n : Nat), byt := nb, off := false } fb1 pb1 eb1 ecap1)))]) := ⟨Nat.le_refl _, fun b _ hb => get_ne _ _ _ _ hb⟩
          have he2 := hfe.fw (kf.fw fun b _ e => by subst e; rw [qc.c9]; omega)
          refine keep L (nm := [90, 92, 12, 11, 1, 2, 5, 7, 9]) rfl ?_
          exact build_p L X qd lkp hc12 q1 q3 kps (ext_z za) (by omega) (by omega) (by omega) hel2 h2 hel3 he2 hent ih
        · by_cases hb1 : 0 ≤ byt
          · refine wk ?_
            refine keep L (nm := [90, 92, 12, 11, 1, 2, 5, 7, 9]) rfl ?_
            exact build_p L X qa lkp (upd_eq _ _ _) q1 q3 kps za (by omega) (by omega) (by omega) hel2 h2 hel3 ha hent ih
          · refine wk ?_
            refine keep L (nm := [90, 92, 12, 11, 1, 2, 5, 7, 9]) rfl ?_
            exact build_p L X qa lkp (upd_eq _ _ _) q1 q3 kps za (by omega) (by omega) (by omega) hel2 h2 hel3 ha hent ih
  · rintro ⟨κ2, D, rv⟩ h6 ⟨q, q1, q2, q3, q4, q5⟩
    simp only [] at q q1 q2 q3 q5
    have qk9 := q.k9
    have qrd := q.rd
    obtain ⟨-, fb1, pb1, eb1, ecap1, cp1, ce1, rfl, -, -⟩ := qrd
    have qk5 := q.k5
    have fin : (∃ d1 rv D1 κ', AV.tup [.ptr d 0, .agg (rvC D fb1 pb1 eb1 ecap1), .bool true] = .tup [.ptr d1 0, .agg rv, .bool true] ∧ DevR κ' (hp h6.n h6.t [((h.n + 1), some (cl (rvC D fb1 pb1 eb1 ecap1)))]) d1 D1 ∧ RDev κ' (hp h6.n h6.t [((h.n + 1), some (cl (rvC D fb1 pb1 eb1 ecap1)))]) D1 rv ∧ D1.n ≤ 30 ∧ D1.off = false ∧ (∀ b, b < h.n → κ' b = 0) ∧ K0 h (hp h6.n h6.t [((h.n + 1), some (cl (rvC D fb1 pb1 eb1 ecap1)))])) := by
      have k1 : Kp (fun b => b = h.n + 1) h6 (hp h6.n h6.t [((h.n + 1), some (cl (rvC D fb1 pb1 eb1 ecap1)))]) := ⟨Nat.le_refl _, fun b _ hb => get_ne _ _ _ _ hb⟩
      exact ⟨d, _, D, κ2, rfl, q.dv.kb (k1.mono fun b e => by subst e; rw [q.c5]; exact Nat.le_refl _), q.rd.fw (k1.fw fun b _ e => by subst e; rw [q.c5]; omega), by omega, q2, q5, kps⟩
    unfold z11 at qk5
    rcases q.st.ex with ⟨rfl, rfl⟩ | ⟨sb, cap, rfl, hk, hcol⟩
    all_goals
      unfold BT
      refine wk ?_
      (apply estSG L rfl rfl rfl rfl rfl rfl rfl; exact lkp; rfl; intro h9 hs9; (repeat (first | (apply pst1 rfl rfl; exact opv) | (apply psk1 rfl rfl))); (first | (apply p_0; exact chk) | (refine p_e1 L ?_ rfl ?_; exact chk)); refine g_hp L hs9 ?_)
      refine wk ?_
      refine retc L X.f8 (r_tmp rfl (r_cellN rfl (Bk.e lkp) rfl (resO_ok rfl))) G ?_
      exact fin
end

end
end Go.Ev

