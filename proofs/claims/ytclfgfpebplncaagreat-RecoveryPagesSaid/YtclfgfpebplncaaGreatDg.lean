/- The CRC both ways; the description of a page, its bytes. -/
import Derived.Test.YtclfgfpebplncaaGreatCd
import Derived.Test.YtclfgfpebplncaaGreatLgC
import Derived.Test.YtclfgfpebplncaaGreatLgA
set_option linter.unusedVariables false
set_option linter.unusedSectionVars false
set_option linter.unusedSimpArgs false
set_option maxRecDepth 10000
set_option maxHeartbeats 4000000
namespace Go.Ev
section
variable {P0 : Program} {E : Env} {F : T CFn} {K : T (List AV × AV)} (L : Lg P0 E F K) (X : Fx F K)
include L X
open Crc (f8 bstep)
/-- The table's cells. -/
def tabA : List AV := (List.range 256).map fun i => .int .u32 ((f8 i : Nat) : Int)
/-- The table is known. -/
structure Tb (P : Program) (E : Env) (F : T CFn) (K : T (List AV × AV)) : Prop where
  ct : ∀ h, Ct P E F K 254 [.fn (.func 255) [] []] h fun v h' => v = .agg tabA ∧ h' = h
omit L X in
theorem tabA_get {i : Nat} (h : i < 256) : tabA[i]? = some (.int .u32 ((f8 i : Nat) : Int)) := by
  unfold tabA; rw [List.getElem?_map, List.getElem?_range h]; rfl
section
variable {h : H}
theorem dstep_ct {tb s b : Nat} (k : Bk h tb tabA) (hs : s < 2 ^ 32) (hb : b < 2 ^ 8) : Ct P0 E F K 258 [.int .u32 ((s : Nat) : Int), .int .u8 ((b : Nat) : Int), .ptr tb 0] h fun v h' => v = .int .u32 ((bstep s b : Nat) : Int) ∧ h' = h := by
  have hx : (s % 256) ^^^ b < 256 := Nat.xor_lt_two_pow (n := 8) (Nat.mod_lt _ (by decide)) hb
  have hg := tabA_get hx
  have hf : f8 ((s % 256) ^^^ b) < 2 ^ 32 := Crc.f8_lt (by omega)
  have hs8 : s >>> 8 < 2 ^ 32 := by rw [Nat.shiftRight_eq_div_pow]; omega
  refine ct_in3 L X.f258 X.k258 rfl rfl fun Q x cs G => ?_
  refine wk ?_
  (apply st1 L rfl; exact w_shr rfl rfl (by decide); rfl)
  refine wk ?_
  (apply st1 L rfl; exact w_convM rfl rfl; rfl)
  refine wk ?_
  (apply st1 L rfl; exact w_xor rfl rfl rfl (Nat.mod_lt _ (by decide)) hb hx; rfl)
  refine wk ?_
  (apply st1 L rfl; exact w_iaddrA1 rfl rfl hx; rfl)
  refine wk ?_
  (apply st1 L rfl; exact w_xor rfl rfl rfl hs8 hf (Nat.xor_lt_two_pow hs8 hf); rfl)
  refine wk ?_
  refine ret X.f258 ?_
  refine ⟨?_, rfl⟩
  rw [← Crc.step_eq (tab := (List.range 256).map f8) rfl hb]
  unfold Crc.tstep
  rw [Crc.tab_get rfl hx]
  rfl

theorem updated_ct {pb b o n cap s tb : Nat} {bs : List Nat} (kp : Bk h pb [.slc b o n cap]) (kb : BS h b o bs) (hl : bs.length = n) (hn : n < 100000) (kt : Bk h tb tabA) (hs : s < 2 ^ 32) :
    Ct P0 E F K 257 [.int .u32 ((s : Nat) : Int), .slc pb 0 1 1, .fn (.func 258) [] [.ptr tb 0]] h fun v h' => v = .int .u32 ((Crc.upd s bs : Nat) : Int) ∧ h' = h := by
  have ha := kb.all
  refine ct_in3 L X.f257 X.k257 rfl rfl fun Q x cs G => ?_
  refine wk ?_
  refine g_loop L ?_
  refine wk ?_
  refine g_up L (α := Nat) (T := fun i u => [(19, some (.int .i64 ((i : Nat) : Int))), (18, some (.int .i64 ((n : Nat) : Int))), (17, some (.slc b o n cap)), (2, some (.fn (.func 258) [] [.ptr tb 0])), (0, some (.int .u32 ((u : Nat) : Int))), (13, some (.int .i64 ((0 : Nat) : Int))), (12, some (.int .i64 ((1 : Nat) : Int)))]) (n := n)
    (R := fun i u h1 => h1 = h ∧ u = Crc.upd s (bs.take i) ∧ u < 2 ^ 32) (i0 := 0) s tsb ⟨rfl, by simp [Crc.upd], hs⟩ (Nat.zero_le _) ?_ ?_
  · rintro i u h1 hi ⟨rfl, w1, w2⟩ ih
    have hb := ha i (by omega)
    refine wk ?_
    (apply st1 L rfl; exact bs_load kb rfl (by omega); rfl)
    refine wk ?_
    refine cal (c := dstep_ct L X (h := h1) kt w2 hb) (g := ?_)
    rintro _ rfl
    refine wk ?_
    refine ih (bstep u (bs.getD i 0)) _ _ ⟨rfl, ?_, Crc.bstep_lt w2 hb⟩ tsb
    rw [w1, List.take_add_one]
    have : bs[i]? = some (bs.getD i 0) := by rw [List.getD_eq_getElem?_getD, List.getElem?_eq_getElem (by omega)]; rfl
    rw [this]
    unfold Crc.upd
    rw [List.foldl_append]
    rfl
  · rintro u h1 ⟨rfl, w1, w2⟩
    refine wk ?_
    refine g_inLoop L ?_
    refine wk ?_
    refine ret X.f257 ?_
    rw [w1, ← hl, List.take_length]
    exact ⟨rfl, rfl⟩

theorem update32_ct {pb b o n cap s : Nat} {bs : List Nat} (T : Tb P0 E F K) (kp : Bk h pb [.slc b o n cap]) (kb : BS h b o bs) (hl : bs.length = n) (hn : n < 100000) (hs : s < 2 ^ 32) :
    Ct P0 E F K 243 [.int .u32 ((s : Nat) : Int), .slc pb 0 1 1] h fun v h' => v = .int .u32 ((Crc.upd s bs : Nat) : Int) ∧ K0 h h' := by
  have l1 := kp.lt
  have l2 := kb.lt_n
  refine ct_in2 L X.f243 X.k243 rfl rfl fun Q x cs G => ?_
  refine wk ?_
  refine cal (c := T.ct _) (g := ?_)
  rintro _ rfl
  refine wk ?_
  refine cal (c := updated_ct L X (bs := bs) lkp lkb hl hn (bk_eq (c := tabA) rfl lkp) hs) (g := ?_)
  rintro _ rfl
  refine wk ?_
  refine ret X.f243 ?_
  exact ⟨rfl, kps⟩

/-- The checksum of bytes. -/
def crcB (bs : List Nat) : Nat := pw .u32 - 1 - Crc.upd 4294967295 bs
omit L X in
theorem crcB_lt (bs : List Nat) : crcB bs < 2 ^ 32 := by unfold crcB; simp only [pw]; omega
omit L X in
theorem xor_all {x : Nat} (h : x < 2 ^ 32) : 4294967295 ^^^ x = 4294967296 - 1 - x := by
  have h1 : 4294967295 ^^^ x + x = 4294967295 ^^^ x + x := rfl
  have e : ((BitVec.ofNat 32 4294967295) ^^^ (BitVec.ofNat 32 x)) = ~~~ (BitVec.ofNat 32 x) := by
    have : BitVec.ofNat 32 4294967295 = BitVec.allOnes 32 := by decide
    rw [this, BitVec.allOnes_xor]
  have e2 := congrArg BitVec.toNat e
  rw [BitVec.toNat_xor, BitVec.toNat_not, BitVec.toNat_ofNat, BitVec.toNat_ofNat, Nat.mod_eq_of_lt h] at e2
  simpa using e2
theorem sum32_ct {pb b o n cap : Nat} {bs : List Nat} (T : Tb P0 E F K) (kp : Bk h pb [.slc b o n cap]) (kb : BS h b o bs) (hl : bs.length = n) (hn : n < 100000) :
    Ct P0 E F K 224 [.slc pb 0 1 1] h fun v h' => v = .int .u32 ((crcB bs : Nat) : Int) ∧ K0 h h' := by
  refine ct_in1 L X.f224 X.k224 rfl rfl fun Q x cs G => ?_
  refine wk ?_
  refine cal (c := update32_ct L X T kp kb hl hn (by decide)) (g := ?_)
  rintro _ h1 ⟨rfl, hk⟩
  refine wk ?_
  (apply st1 L rfl; exact w_notU rfl rfl (by simp only [pw]; exact Crc.upd_lt _ _ (by decide) (fun v hv => by obtain ⟨i, hi, e⟩ := List.getElem_of_mem hv; have := kb.all i hi; rw [List.getD_eq_getElem?_getD, List.getElem?_eq_getElem hi] at this; rw [← e]; exact this)); rfl)
  refine wk ?_
  refine ret X.f224 ?_
  exact ⟨rfl, kps⟩
theorem crc_ct {b o n cap : Nat} {bs : List Nat} (T : Tb P0 E F K) (kb : BS h b o bs) (hl : bs.length = n) (hn : n < 100000) :
    Ct P0 E F K 201 [.slc b o n cap] h fun v h' => v = .int .u32 ((crcB bs : Nat) : Int) ∧ K0 h h' := by
  have l1 := kb.lt_n
  refine ct_in1 L X.f201 X.k201 rfl rfl fun Q x cs G => ?_
  refine wk ?_
  refine cal (c := sum32_ct L X T (bs := bs) lkp lkb hl hn) (g := ?_)
  rintro _ h1 ⟨rfl, hk⟩
  refine wk ?_
  refine ret X.f201 ?_
  exact ⟨rfl, kps⟩

/-! the reference -/
def itF : Nat → Nat → Nat
  | 0, x => x
  | m + 1, x => Crc.f1 (itF m x)
omit L X in
theorem itF_lt : ∀ (m : Nat) {x : Nat}, x < 2 ^ 32 → itF m x < 2 ^ 32
  | 0, _, h => h
  | m + 1, _, h => Crc.f1_lt (itF_lt m h)

theorem rupd_ct {b o n cap s : Nat} {bs : List Nat} (kb : BS h b o bs) (hl : bs.length = n) (hn : n < 100000) (hs : s < 2 ^ 32) :
    Ct P0 E F K 177 [.int .u32 ((s : Nat) : Int), .slc b o n cap] h fun v h' => v = .int .u32 ((Crc.upd s bs : Nat) : Int) ∧ h' = h := by
  have ha := kb.all
  refine ct_in2 L X.f177 X.k177 rfl rfl fun Q x cs G => ?_
  refine wk ?_
  refine g_up L (α := Nat) (T := fun i u => [(5, some (.int .i64 ((i : Nat) : Int))), (1, some (.slc b o n cap)), (0, some (.int .u32 ((u : Nat) : Int)))]) (n := n)
    (R := fun i u h1 => h1 = h ∧ u = Crc.upd s (bs.take i) ∧ u < 2 ^ 32) (i0 := 0) s tsb ⟨rfl, by simp [Crc.upd], hs⟩ (Nat.zero_le _) ?_ ?_
  · rintro i u h1 hi ⟨rfl, w1, w2⟩ ih
    have hb := ha i (by omega)
    have hx : u ^^^ bs.getD i 0 < 2 ^ 32 := Nat.xor_lt_two_pow w2 (by omega)
    refine wk ?_
    (apply st1 L rfl; exact bs_load kb rfl (by omega); rfl)
    refine wk ?_
    (apply st1 L rfl; exact w_xor rfl rfl rfl w2 (by simp only [pw]; omega) hx; rfl)
    refine wk ?_
    refine g_up L (α := Unit) (T := fun m _ => [(6, some (.int .i64 ((m : Nat) : Int))), (5, some (.int .i64 ((i : Nat) : Int))), (1, some (.slc b o n cap)), (0, some (.int .u32 ((itF m (u ^^^ bs.getD i 0) : Nat) : Int)))]) (n := 8)
      (R := fun m _ h2 => h2 = h1) (i0 := 0) () tsb rfl (by omega) ?_ ?_
    · rintro m _ _ hm rfl ih2
      have hf := itF_lt m hx
      have e2 : itF (m + 1) (u ^^^ bs.getD i 0) = Crc.f1 (itF m (u ^^^ bs.getD i 0)) := rfl
      by_cases hc : itF m (u ^^^ bs.getD i 0) % 2 = 1
      · refine wk ?_
        (apply st1 L rfl; exact w_xor rfl rfl rfl (by simp only [pw]; omega) (by decide) (Nat.xor_lt_two_pow (n := 32) (by omega) (by decide)); rfl)
        refine wk ?_
        refine ih2 () _ _ rfl ?_
        rw [e2, Crc.f1, if_pos hc]
        exact tsb
      · refine wk ?_
        refine ih2 () _ _ rfl ?_
        rw [e2, Crc.f1, if_neg hc]
        exact tsb
    · rintro _ _ rfl
      refine wk ?_
      refine ih (bstep u (bs.getD i 0)) _ _ ⟨rfl, ?_, Crc.bstep_lt w2 hb⟩ tsb
      rw [w1, List.take_add_one]
      have : bs[i]? = some (bs.getD i 0) := by rw [List.getD_eq_getElem?_getD, List.getElem?_eq_getElem (by omega)]; rfl
      rw [this]
      unfold Crc.upd
      rw [List.foldl_append]
      rfl
  · rintro u h1 ⟨rfl, w1, w2⟩
    refine wk ?_
    refine ret X.f177 ?_
    rw [w1, ← hl, List.take_length]
    exact ⟨rfl, rfl⟩
theorem rcrc_ct {b o n cap : Nat} {bs : List Nat} (kb : BS h b o bs) (hl : bs.length = n) (hn : n < 100000) :
    Ct P0 E F K 123 [.slc b o n cap] h fun v h' => v = .int .u32 ((crcB bs : Nat) : Int) ∧ h' = h := by
  have hlt : Crc.upd 4294967295 bs < 2 ^ 32 := Crc.upd_lt _ _ (by decide) (fun v hv => by obtain ⟨i, hi, e⟩ := List.getElem_of_mem hv; have := kb.all i hi; rw [List.getD_eq_getElem?_getD, List.getElem?_eq_getElem hi] at this; rw [← e]; exact this)
  refine ct_in1 L X.f123 X.k123 rfl rfl fun Q x cs G => ?_
  refine wk ?_
  refine cal (c := rupd_ct L X kb hl hn (by decide)) (g := ?_)
  rintro _ rfl
  refine wk ?_
  (apply st1 L rfl; exact w_xor rfl rfl rfl (by decide) hlt (Nat.xor_lt_two_pow (n := 32) (by decide) hlt); rfl)
  refine wk ?_
  refine ret X.f123 ?_
  refine ⟨?_, rfl⟩
  have : 4294967295 ^^^ Crc.upd 4294967295 bs = crcB bs := xor_all hlt
  rw [← this]; rfl
end

end
end Go.Ev

namespace Go.Ev
section
variable {P0 : Program} {E : Env} {F : T CFn} {K : T (List AV × AV)} (L : Lg P0 E F K) (X : Fx F K)
include L X
section
variable {h : H}
theorem rput_ct {b at_ n v cap len : Nat} {a l0 c : List Nat} (k : Bk h b (byts (a ++ l0 ++ c))) (ha : a.length = at_) (hl : l0.length = n) (hn : n ≤ 8) (hv : v < 18446744073709551616) (hlen : (a ++ l0 ++ c).length = len) (hle : len < 10000) :
    Ct P0 E F K 100 [.slc b 0 len cap, .int .i64 ((at_ : Nat) : Int), .int .i64 ((n : Nat) : Int), .int .u64 ((v : Nat) : Int)] h fun u h' => Bk h' b (byts (a ++ leb n v ++ c)) ∧ Kp (fun j => j = b) h h' := by
  have l1 := k.lt
  rw [List.length_append, List.length_append] at hlen
  refine ct_in4 L X.f100 X.k100 rfl rfl fun Q x cs G => ?_
  refine wk ?_
  refine g_up L (α := Unit) (T := fun i _ => [(8, some (.int .i64 ((i : Nat) : Int))), (0, some (.slc b 0 len cap)), (1, some (.int .i64 ((at_ : Nat) : Int))), (2, some (.int .i64 ((n : Nat) : Int))), (3, some (.int .u64 ((v : Nat) : Int)))]) (n := n)
    (R := fun i _ h1 => Bk h1 b (byts (a ++ leb i v ++ (l0.drop i ++ c))) ∧ Kp (fun j => j = b) h h1) (i0 := 0) () tsb ⟨?_, kps⟩ (Nat.zero_le _) ?_ ?_
  · rw [leb, List.append_nil, List.drop_zero, ← List.append_assoc]; exact lkp
  · rintro i _ h1 hi ⟨w1, w2⟩ ih
    have hd : l0.drop i = l0[i] :: l0.drop (i + 1) := List.drop_eq_getElem_cons (by omega)
    rw [hd, List.cons_append] at w1
    have hlen2 : at_ + i < (byts (a ++ leb i v ++ l0[i] :: (l0.drop (i + 1) ++ c))).length := by
      rw [byts_len, List.length_append, List.length_append, List.length_cons, leb_len]; omega
    refine wk ?_
    (apply st1 L rfl; exact w_shr (s := 8 * i) rfl rfl (by show 8 * i ≤ 64; omega); rfl)
    refine wk ?_
    (apply st1 L rfl; exact w_convM rfl rfl; rfl)
    refine wk ?_
    refine ih () _ _ ⟨?_, kps⟩ tsb
    refine bk_eq ?_ lkp
    rw [byts_set _ _ _ _ _ (by rw [List.length_append, leb_len]; omega), leb_snoc, List.append_assoc a, List.append_assoc a, List.append_assoc (leb i v)]
    rfl
  · rintro _ h1 ⟨w1, w2⟩
    refine wk ?_
    refine ret X.f100 ?_
    refine ⟨?_, kps⟩
    rw [← hl, List.drop_length, List.nil_append] at w1
    rw [← hl]
    exact lkp
def dn (n i : Nat) : Int := ((n : Nat) : Int) - 1 - ((i : Nat) : Int)
theorem rget_ct {b o cap len at_ n : Nat} {bs : List Nat} (k : BS h b o bs) (hl : bs.length = len) (hn : 1 ≤ n ∧ n ≤ 8) (hat : at_ + n ≤ len) (hle : len < 10000) :
    Ct P0 E F K 122 [.slc b o len cap, .int .i64 ((at_ : Nat) : Int), .int .i64 ((n : Nat) : Int)] h fun u h' => u = .int .u64 ((leF bs at_ n : Nat) : Int) ∧ h' = h := by
  have hall := k.all
  refine ct_in3 L X.f122 X.k122 rfl rfl fun Q x cs G => ?_
  refine wk ?_
  rw [show ((n - 1 : Nat) : Int) = dn n 0 by unfold dn; omega]
  refine g_up L (α := Nat) (T := fun i u => [(8, some (.int .i64 (dn n i))), (7, some (.int .u64 ((u : Nat) : Int))), (0, some (.slc b o len cap)), (1, some (.int .i64 ((at_ : Nat) : Int)))]) (n := n)
    (R := fun i u h1 => h1 = h ∧ u = leF bs (at_ + n - i) i) (i0 := 0) 0 tsb ⟨rfl, rfl⟩ (Nat.zero_le _) ?_ ?_
  · rintro i u h1 hi ⟨rfl, w1⟩ ih
    have hlt := leF_lt hall i (at_ + n - i)
    rw [← w1] at hlt
    have hp : 256 ^ i ≤ 256 ^ 7 := Nat.pow_le_pow_right (by omega) (by omega)
    have hu : u < 72057594037927936 := by omega
    have hb := getD_all hall (at_ + (n - 1 - i))
    rw [show dn n i = ((n - 1 - i : Nat) : Int) by unfold dn; omega]
    refine wk ?_
    (apply st1 L rfl; exact w_shl (s := 8) rfl rfl rfl (by decide); rfl)
    rw [show (u * 2 ^ 8) % pw .u64 = u * 256 by simp only [pw]; omega]
    refine wk ?_
    (apply st1 L rfl; exact bs_load k rfl (by omega); rfl)
    refine wk ?_
    have hor : u * 256 ||| bs.getD (at_ + (n - 1 - i)) 0 = u * 256 + bs.getD (at_ + (n - 1 - i)) 0 := by
      have := Nat.shiftLeft_add_eq_or_of_lt (i := 8) (show bs.getD (at_ + (n - 1 - i)) 0 < 2 ^ 8 from hb) u
      rw [Nat.shiftLeft_eq] at this
      exact this.symm
    (apply st1 L rfl; exact w_or rfl rfl rfl (by simp only [pw]; omega) (by simp only [pw]; omega) (by rw [hor]; simp only [pw]; omega); rfl)
    rw [hor]
    refine wk ?_
    rw [show ((n - 1 - i : Nat) : Int) - ((1 : Nat) : Int) = dn n (i + 1) by unfold dn; omega]
    refine ih _ _ _ ⟨rfl, ?_⟩ tsb
    rw [w1, show at_ + n - (i + 1) = at_ + (n - 1 - i) by omega, leF, show at_ + (n - 1 - i) + 1 = at_ + n - i by omega]
    omega
  · rintro u h1 ⟨rfl, w1⟩
    have hm : dn n n < 0 := by unfold dn; omega
    refine wk ?_
    refine ret X.f122 ?_
    rw [w1, Nat.add_sub_cancel]
    exact ⟨rfl, rfl⟩
theorem seal_ct {b db do_ dn dcap : Nat} {hd tl data : List Nat} (k : Bk h b (byts (hd ++ tl))) (h60 : hd.length = 60) (h4 : tl.length = 4) (hall : AllB hd) (kd : BS h db do_ data) (hl : data.length = dn) (hdn : 0 < dn ∧ dn < 10000) :
    Ct P0 E F K 101 [.slc b 0 64 64, .slc db do_ dn dcap] h fun u h' => Bk h' b (byts (hd ++ leb 4 (crcB (data ++ hd)))) ∧ Kp (fun j => j = b) h h' := by
  have l1 := k.lt
  have l2 := kd.lt_n
  have a1 := kd.all
  refine ct_in2 L X.f101 X.k101 rfl rfl fun Q x cs G => ?_
  refine wk ?_
  have f1 : BS (hp (h.n + 1) h.t [(h.n, some (cl []))]) db do_ data := lkb
  (apply est1 L rfl rfl; exact ap_e rfl rfl (f1.slr hl) (by omega) (by omega))
  refine wk ?_
  have f3 : BS (hp (h.n + 1 + 1) h.t [(h.n + 1, some (cl (byts data))), (h.n, some (cl []))]) (h.n + 1) 0 data := bs_new a1
  have hk : Bk (hp (h.n + 1 + 1) h.t [(h.n + 1, some (cl (byts data))), (h.n, some (cl []))]) b (byts (hd ++ tl)) := lkp
  (apply est1 L rfl rfl; exact ap_u rfl rfl (f3.slr hl) (SlR.of hk (by rw [byts_len, List.length_append]; omega) (show _ = byts hd by rw [List.drop_zero, ← byts_app, show 60 * 1 = (byts hd).length by rw [byts_len, h60], List.take_left])) (by omega) (by omega) (byts_plain _))
  refine wk ?_
  have f4 : BS (hp (h.n + 1 + 1 + 1) h.t [(h.n + 1 + 1, some (cl (byts data ++ byts hd))), (h.n + 1, none), (h.n + 1, some (cl (byts data))), (h.n, some (cl []))]) (h.n + 1 + 1) 0 (data ++ hd) := by
    rw [byts_app]; exact bs_new (a1.app hall)
  refine cal (c := rcrc_ct L X f4 (by rw [List.length_append]; omega) (by omega)) (g := ?_)
  rintro _ rfl
  have hcl := crcB_lt (data ++ hd)
  refine wk ?_
  have hk5 : Bk (hp (h.n + 1 + 1 + 1) h.t [(h.n + 1 + 1, some (cl (byts data ++ byts hd))), (h.n + 1, none), (h.n + 1, some (cl (byts data))), (h.n, some (cl []))]) b (byts (hd ++ tl ++ [])) := by rw [List.append_nil]; exact lkp
  refine cal (c := rput_ct L X hk5 h60 h4 (by omega) (by omega) (by rw [List.length_append, List.length_append]; show _ = 64; simp; omega) (by omega)) (g := ?_)
  rintro _ h2 ⟨w1, w2⟩
  refine wk ?_
  refine ret X.f101 ?_
  rw [List.append_nil] at w1
  exact ⟨lkp, kps⟩
end

end
end Go.Ev

namespace Go.Ev
section
variable {P0 : Program} {E : Env} {F : T CFn} {K : T (List AV × AV)} (L : Lg P0 E F K) (X : Fx F K)
include L X
/-- The bytes of any description. -/
def rawB (s : Sp) (data : List Nat) : List Nat := head60 s ++ leb 4 (crcB (data ++ head60 s))
section
variable {h : H}
theorem raw_ct {db do_ m dcap : Nat} {s : Sp} {data : List Nat} (hs : s.Ok) (kd : BS h db do_ data) (hl : data.length = m) (hdn : 0 < m ∧ m < 10000) :
    Ct P0 E F K 39 [.agg (spC s), .slc db do_ m dcap] h fun v h' => ∃ rb, v = .slc rb 0 64 64 ∧ Bk h' rb (byts (rawB s data)) ∧ h.n ≤ rb ∧ K0 h h' := by
  have l2 := kd.lt_n
  obtain ⟨hk, hsq, hpv⟩ := hs
  refine ct_in2 L X.f39 X.k39 rfl rfl fun Q x cs G => ?_
  refine wk ?_
  refine st_copy L (lv := [.int .u8 ((67 : Nat) : Int), .int .u8 ((70 : Nat) : Int), .int .u8 ((84 : Nat) : Int), .int .u8 ((76 : Nat) : Int), .int .u8 ((s.kind : Nat) : Int)]) (cs1 := byts (mag s.kind ++ List.replicate 8 0 ++ List.replicate 48 0)) rfl rfl rfl (SlR.of lkp (Nat.le_refl _) rfl) lkp (by omega) rfl (by show 0 + 5 ≤ 64; omega) (by show 0 < 5; omega) rfl rfl ?_
  refine wk ?_
  refine cal (c := rput_ct L X (len := 64) (at_ := 8) (n := 8) (a := mag s.kind) (l0 := List.replicate 8 0) (c := List.replicate 48 0) lkp rfl rfl (by omega) hsq rfl (by omega)) (g := ?_)
  rintro _ h2 ⟨w1, w2⟩
  have n2 := w2.n
  simp only [hp_n] at n2
  refine wk ?_
  have w3 : Bk h2 (h.n + 1) (byts (mag s.kind ++ leb 8 s.seq ++ List.replicate 8 0 ++ List.replicate 40 0)) := by rw [List.append_assoc]; exact w1
  refine cal (c := rput_ct L X (len := 64) (at_ := 16) (n := 8) (a := mag s.kind ++ leb 8 s.seq) (l0 := List.replicate 8 0) (c := List.replicate 40 0) lkp rfl rfl (by omega) hpv rfl (by omega)) (g := ?_)
  rintro _ h3 ⟨w4, w5⟩
  have n3 := w5.n
  simp only [hp_n] at n3
  refine wk ?_
  (apply st1 L rfl; exact w_conv64 rfl; rfl)
  refine wk ?_
  have w6 : Bk h3 (h.n + 1) (byts (mag s.kind ++ leb 8 s.seq ++ leb 8 s.prev ++ List.replicate 4 0 ++ List.replicate 36 0)) := by rw [List.append_assoc]; exact w4
  refine cal (c := rput_ct L X (len := 64) (at_ := 24) (n := 4) (a := mag s.kind ++ leb 8 s.seq ++ leb 8 s.prev) (l0 := List.replicate 4 0) (c := List.replicate 36 0) lkp rfl rfl (by omega) (u64_lt _) rfl (by omega)) (g := ?_)
  rintro _ h4 ⟨w7, w8⟩
  have n4 := w8.n
  simp only [hp_n] at n4
  refine wk ?_
  (apply st1 L rfl; exact w_conv64 rfl; rfl)
  refine wk ?_
  have w9 : Bk h4 (h.n + 1) (byts (mag s.kind ++ leb 8 s.seq ++ leb 8 s.prev ++ leb 4 (u64 s.sec) ++ List.replicate 4 0 ++ List.replicate 32 0)) := by rw [List.append_assoc]; exact w7
  refine cal (c := rput_ct L X (len := 64) (at_ := 28) (n := 4) (a := mag s.kind ++ leb 8 s.seq ++ leb 8 s.prev ++ leb 4 (u64 s.sec)) (l0 := List.replicate 4 0) (c := List.replicate 32 0) lkp rfl rfl (by omega) (u64_lt _) rfl (by omega)) (g := ?_)
  rintro _ h5 ⟨x1, x2⟩
  have n5 := x2.n
  simp only [hp_n] at n5
  refine wk ?_
  (apply st1 L rfl; exact w_conv64 rfl; rfl)
  refine wk ?_
  have x3 : Bk h5 (h.n + 1) (byts (mag s.kind ++ leb 8 s.seq ++ leb 8 s.prev ++ leb 4 (u64 s.sec) ++ leb 4 (u64 s.idx) ++ List.replicate 4 0 ++ List.replicate 28 0)) := by rw [List.append_assoc]; exact x1
  refine cal (c := rput_ct L X (len := 64) (at_ := 32) (n := 4) (a := mag s.kind ++ leb 8 s.seq ++ leb 8 s.prev ++ leb 4 (u64 s.sec) ++ leb 4 (u64 s.idx)) (l0 := List.replicate 4 0) (c := List.replicate 28 0) lkp rfl rfl (by omega) (u64_lt _) rfl (by omega)) (g := ?_)
  rintro _ h6 ⟨x4, x5⟩
  have n6 := x5.n
  simp only [hp_n] at n6
  refine wk ?_
  have x6 : Bk h6 (h.n + 1) (byts (head60 s ++ List.replicate 4 0)) := by unfold head60; rw [List.append_assoc]; exact x4
  refine cal (c := seal_ct L X (data := data) lkp (head60_len s) rfl (head60_all hk) lkb hl hdn) (g := ?_)
  rintro _ h7 ⟨x7, x8⟩
  refine wk ?_
  refine ret X.f39 ?_
  exact ⟨h.n + 1, rfl, x7, by omega, kps⟩
end

end
end Go.Ev

