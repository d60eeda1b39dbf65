/- Part of the proof. -/
import Derived.KernelRfl
import Derived.Test.YtclfgfpebplncaaGreatT09
import Derived.Test.YtclfgfpebplncaaGreatT10
import Derived.Test.YtclfgfpebplncaaGreatT12
import Derived.Test.YtclfgfpebplncaaGreatT11
set_option linter.unusedVariables false
set_option linter.unusedSectionVars false
set_option linter.unusedSimpArgs false
set_option maxRecDepth 10000
set_option maxHeartbeats 4000000
namespace Go.Ev.Crc
def poly:Nat:=2197175160
def f1 (x:Nat):Nat:=if x % 2=1 then(x / 2) ^^^ poly else x / 2
def f8 (x:Nat):Nat:=f1 (f1 (f1 (f1 (f1 (f1 (f1 (f1 x)))))))
theorem Xl (x i:Nat):(f1 x).testBit i=(x.testBit (i+1) ^^ (x.testBit 0 && poly.testBit i)):=by
 unfold f1
 have h0:x.testBit 0=decide (x % 2=1):=Nat.testBit_zero x
 by_cases h:x % 2=1
 ·rw [if_pos h,Nat.testBit_xor,h0,decide_eq_true h,Nat.testBit_div_two];simp
 ·rw [if_neg h,h0,decide_eq_false h,Nat.testBit_div_two];simp
theorem xl (x y:Nat):f1 (x ^^^ y)=f1 x ^^^ f1 y:=by
 apply Nat.eq_of_testBit_eq
 intro i
 rw [Nat.testBit_xor,Xl,Xl,Xl,Nat.testBit_xor,Nat.testBit_xor]
 cases x.testBit (i+1) <;> cases y.testBit (i+1) <;> cases x.testBit 0 <;> cases y.testBit 0 <;> cases poly.testBit i <;> rfl
theorem xm (x y:Nat):f8 (x ^^^ y)=f8 x ^^^ f8 y:=by simp only [f8,xl]
theorem xn (x:Nat):f1 (2*x)=x:=by
 unfold f1;rw [if_neg (by omega)];omega
theorem xo (x:Nat):f8 (256*x)=x:=by
 unfold f8
 rw [show 256*x=2*(2*(2*(2*(2*(2*(2*(2*x))))))) by omega]
 simp only [xn]
theorem xp (u:Nat):(256*(u / 256)) ^^^ (u % 256)=u:=by
 apply Nat.eq_of_testBit_eq
 intro i
 rw [Nat.testBit_xor,show 256=2 ^ 8 from rfl,Nat.testBit_two_pow_mul,Nat.testBit_mod_two_pow,Nat.testBit_div_two_pow]
 by_cases h:i<8
 ·have: ¬i ≥ 8:=by omega
  simp [h,this]
 ·have h':i ≥ 8:=by omega
  have e:i - 8+8=i:=by omega
  simp [h,h',e]
theorem f1_lt {x:Nat}(h:x<2 ^ 32):f1 x<2 ^ 32:=by
 unfold f1
 split
 ·exact Nat.xor_lt_two_pow (by omega) (by decide)
 ·omega
theorem f8_lt {x:Nat}(h:x<2 ^ 32):f8 x<2 ^ 32:=f1_lt (f1_lt (f1_lt (f1_lt (f1_lt (f1_lt (f1_lt (f1_lt h)))))))
def tstep (tab:List Nat)(s b:Nat):Nat:=(s >>> 8) ^^^ tab.getD ((s % 256) ^^^ b) 0
def bstep (s b:Nat):Nat:=f8 (s ^^^ b)
def ki (tab:List Nat):Prop:=tab=(List.range 256).map f8
theorem tab_get {tab:List Nat}(ht:ki tab){i:Nat}(hi:i<256):tab.getD i 0=f8 i:=by
 rw [ht];simp [hi]
theorem step_eq {tab:List Nat}(ht:ki tab){s b:Nat}(hb:b<2 ^ 8):tstep tab s b=bstep s b:=by
 unfold tstep bstep
 have hx:(s % 256) ^^^ b<256:=Nat.xor_lt_two_pow (n:=8) (Nat.mod_lt _ (by decide)) hb
 rw [tab_get ht hx]
 have h1:(s ^^^ b) / 256=s >>> 8:=by
  apply Nat.eq_of_testBit_eq
  intro i
  rw [show 256=2 ^ 8 from rfl,Nat.testBit_div_two_pow,Nat.testBit_xor,Nat.testBit_shiftRight]
  have:b.testBit (i+8)=false:=Nat.testBit_lt_two_pow (Nat.lt_of_lt_of_le hb (Nat.pow_le_pow_right (by omega) (by omega)))
  rw [this,Nat.add_comm 8 i];simp
 have h2:(s ^^^ b) % 256=(s % 256) ^^^ b:=by
  have hb':b=b % 256:=(Nat.mod_eq_of_lt hb).symm
  apply Nat.eq_of_testBit_eq
  intro i
  rw [show 256=2 ^ 8 from rfl,Nat.testBit_mod_two_pow,Nat.testBit_xor,Nat.testBit_xor,Nat.testBit_mod_two_pow]
  by_cases h:i<8
  ·simp [h]
  ·have:b.testBit i=false:=Nat.testBit_lt_two_pow (Nat.lt_of_lt_of_le hb (Nat.pow_le_pow_right (by omega) (by omega)))
   simp [h,this]
 have h3:f8 (s ^^^ b)=(s ^^^ b) / 256 ^^^ f8 ((s ^^^ b) % 256):=by
  conv=>lhs;rw [←xp (s ^^^ b)]
  rw [xm,xo]
 rw [h3,h1,h2]
theorem bstep_lt {s b:Nat}(hs:s<2 ^ 32)(hb:b<2 ^ 8):bstep s b<2 ^ 32:=
 f8_lt (Nat.xor_lt_two_pow hs (Nat.lt_of_lt_of_le hb (by decide)))
def upd (s:Nat)(bs:List Nat):Nat:=bs.foldl bstep s
theorem upd_eq {tab:List Nat}(ht:ki tab): ∀(bs:List Nat) (s:Nat),(∀b∈bs,b<2 ^ 8)→bs.foldl (tstep tab) s=upd s bs
 | [],s,_=>rfl
 |b::r,s,h=>by
  unfold upd
  rw [List.foldl_cons,List.foldl_cons,step_eq ht (h b (List.mem_cons_self ..))]
  exact upd_eq ht r _ fun x hx=>h x (List.mem_cons_of_mem _ hx)
theorem upd_lt: ∀(bs:List Nat) (s:Nat),s<2 ^ 32→(∀b∈bs,b<2 ^ 8)→upd s bs<2 ^ 32
 | [],s,h,_=>h
 |b::r,s,hs,h=>by
  unfold upd
  rw [List.foldl_cons]
  exact upd_lt r _ (bstep_lt hs (h b (List.mem_cons_self ..))) fun x hx=>h x (List.mem_cons_of_mem _ hx)
end Go.Ev.Crc
namespace Go.Ev
section
variable {P0:Program}{E:Env}{F:T CFn}{K:T (List AV×AV)}(L:Lg P0 E F K)(X:Fx F K)
include L X
open Crc (f8 bstep)
def tabA:List AV:=(List.range 256).map fun i=> .int .u32 ((f8 i:Nat):Int)
structure Tb (P:Program)(E:Env)(F:T CFn)(K:T (List AV×AV)):Prop where
 ct: ∀h,Ct P E F K 254 [.fn (.func 255) [] []] h fun v h'=>v= .agg tabA∧h'=h
omit L X in
theorem kj {i:Nat}(h:i<256):tabA[i]?=some (.int .u32 ((f8 i:Nat):Int)):=by
 unfold tabA;rw [List.getElem?_map,List.getElem?_range h];rfl
section
variable {h:H}
theorem ko {tb s b:Nat}(k:Bk h tb tabA)(hs:s<2 ^ 32)(hb:b<2 ^ 8):Ct P0 E F K 258 [.int .u32 ((s:Nat):Int),.int .u8 ((b:Nat):Int),.ptr tb 0] h fun v h'=>v= .int .u32 ((bstep s b:Nat):Int)∧h'=h:=by
 have hx:(s % 256) ^^^ b<256:=Nat.xor_lt_two_pow (n:=8) (Nat.mod_lt _ (by decide)) hb
 have hg:=kj hx
 have hf:f8 ((s % 256) ^^^ b)<2 ^ 32:=Crc.f8_lt (by omega)
 have hs8:s >>> 8<2 ^ 32:=by rw [Nat.shiftRight_eq_div_pow];omega
 refine A6 L X.f258 X.k258 rfl rfl fun Q x cs G=>?_
 refine wk ?_
 (apply st1 L rfl;exact uk rfl rfl (by decide);rfl)
 refine wk ?_
 (apply st1 L rfl;exact Yt rfl rfl;rfl)
 refine wk ?_
 (apply st1 L rfl;exact Vf rfl rfl rfl (Nat.mod_lt _ (by decide)) hb hx;rfl)
 refine wk ?_
 (apply st1 L rfl;exact Sc rfl rfl hx;rfl)
 refine wk ?_
 (apply st1 L rfl;exact Vf rfl rfl rfl hs8 hf (Nat.xor_lt_two_pow hs8 hf);rfl)
 refine wk ?_
 refine ret X.f258 ?_
 refine⟨?_,rfl⟩
 rw [←Crc.step_eq (tab:=(List.range 256).map f8) rfl hb]
 unfold Crc.tstep
 rw [Crc.tab_get rfl hx]
 rfl
theorem Xm {pb b o n cap s tb:Nat}{bs:List Nat}(kp:Bk h pb [.slc b o n cap])(kb:BS h b o bs)(hl:bs.length=n)(hn:n<100000)(kt:Bk h tb tabA)(hs:s<2 ^ 32):
  Ct P0 E F K 257 [.int .u32 ((s:Nat):Int),.slc pb 0 1 1,.fn (.func 258) [] [.ptr tb 0]] h fun v h'=>v= .int .u32 ((Crc.upd s bs:Nat):Int)∧h'=h:=by
 have ha:=kb.all
 refine A6 L X.f257 X.k257 rfl rfl fun Q x cs G=>?_
 refine wk ?_
 refine A4 L ?_
 refine wk ?_
 refine Bb L (α:= Nat) (T:=fun i u=> [(19,some (.int .i64 ((i:Nat):Int))),(18,some (.int .i64 ((n:Nat):Int))),(17,some (.slc b o n cap)),(2,some (.fn (.func 258) [] [.ptr tb 0])),(0,some (.int .u32 ((u:Nat):Int))),(13,some (.int .i64 ((0:Nat):Int))),(12,some (.int .i64 ((1:Nat):Int)))]) (n:=n)
  (R:=fun i u h1=>h1=h∧u=Crc.upd s (bs.take i)∧u<2 ^ 32) (i0:=0) s tsb ⟨rfl,by simp [Crc.upd],hs⟩ (Nat.zero_le _) ?_ ?_
 ·rintro i u h1 hi ⟨rfl,w1,w2⟩ ih
  have hb:=ha i (by omega)
  refine wk ?_
  (apply st1 L rfl;exact F3 kb rfl (by omega);rfl)
  refine wk ?_
  refine cal (c:=ko L X (h:=h1) kt w2 hb) (g:=?_)
  rintro _ rfl
  refine wk ?_
  refine ih (bstep u (bs.getD i 0)) _ _ ⟨rfl,?_,Crc.bstep_lt w2 hb⟩ tsb
  rw [w1,List.take_add_one]
  have:bs[i]?=some (bs.getD i 0):=by rw [List.getD_eq_getElem?_getD,List.getElem?_eq_getElem (by omega)];rfl
  rw [this]
  unfold Crc.upd
  rw [List.foldl_append]
  rfl
 ·rintro u h1 ⟨rfl,w1,w2⟩
  refine wk ?_
  refine C7 L ?_
  refine wk ?_
  refine ret X.f257 ?_
  rw [w1,←hl,List.take_length]
  exact⟨rfl,rfl⟩
theorem Vo {pb b o n cap s:Nat}{bs:List Nat}(T:Tb P0 E F K)(kp:Bk h pb [.slc b o n cap])(kb:BS h b o bs)(hl:bs.length=n)(hn:n<100000)(hs:s<2 ^ 32):
  Ct P0 E F K 243 [.int .u32 ((s:Nat):Int),.slc pb 0 1 1] h fun v h'=>v= .int .u32 ((Crc.upd s bs:Nat):Int)∧K0 h h':=by
 have l1:=kp.lt
 have l2:=kb.lt_n
 refine Af L X.f243 X.k243 rfl rfl fun Q x cs G=>?_
 refine wk ?_
 refine cal (c:=T.ct _) (g:=?_)
 rintro _ rfl
 refine wk ?_
 refine cal (c:=Xm L X (bs:=bs) lkp lkb hl hn (N4 (c:=tabA) rfl lkp) hs) (g:=?_)
 rintro _ rfl
 refine wk ?_
 refine ret X.f243 ?_
 exact⟨rfl,kps⟩
def crcB (bs:List Nat):Nat:=pw .u32 - 1 - Crc.upd 4294967295 bs
omit L X in
theorem T0 (bs:List Nat):crcB bs<2 ^ 32:=by unfold crcB;simp only [pw];omega
omit L X in
theorem ru {x:Nat}(h:x<2 ^ 32):4294967295 ^^^ x=4294967296 - 1 - x:=by
 have h1:4294967295 ^^^ x+x=4294967295 ^^^ x+x:=rfl
 have e:((BitVec.ofNat 32 4294967295) ^^^ (BitVec.ofNat 32 x))= ~~~ (BitVec.ofNat 32 x):=by
  have:BitVec.ofNat 32 4294967295=BitVec.allOnes 32:=by decide
  rw [this,BitVec.allOnes_xor]
 have e2:=congrArg BitVec.toNat e
 rw [BitVec.toNat_xor,BitVec.toNat_not,BitVec.toNat_ofNat,BitVec.toNat_ofNat,Nat.mod_eq_of_lt h]at e2
 simpa using e2
theorem kw {pb b o n cap:Nat}{bs:List Nat}(T:Tb P0 E F K)(kp:Bk h pb [.slc b o n cap])(kb:BS h b o bs)(hl:bs.length=n)(hn:n<100000):
  Ct P0 E F K 224 [.slc pb 0 1 1] h fun v h'=>v= .int .u32 ((crcB bs:Nat):Int)∧K0 h h':=by
 refine Ao L X.f224 X.k224 rfl rfl fun Q x cs G=>?_
 refine wk ?_
 refine cal (c:=Vo L X T kp kb hl hn (by decide)) (g:=?_)
 rintro _ h1 ⟨rfl,hk⟩
 refine wk ?_
 (apply st1 L rfl;exact wv rfl rfl (by simp only [pw];exact Crc.upd_lt _ _ (by decide) (fun v hv=>by obtain⟨i,hi,e⟩:=List.getElem_of_mem hv;have:=kb.all i hi;rw [List.getD_eq_getElem?_getD,List.getElem?_eq_getElem hi]at this;rw [←e];exact this));rfl)
 refine wk ?_
 refine ret X.f224 ?_
 exact⟨rfl,kps⟩
theorem xq {b o n cap:Nat}{bs:List Nat}(T:Tb P0 E F K)(kb:BS h b o bs)(hl:bs.length=n)(hn:n<100000):
  Ct P0 E F K 201 [.slc b o n cap] h fun v h'=>v= .int .u32 ((crcB bs:Nat):Int)∧K0 h h':=by
 have l1:=kb.lt_n
 refine Ao L X.f201 X.k201 rfl rfl fun Q x cs G=>?_
 refine wk ?_
 refine cal (c:=kw L X T (bs:=bs) lkp lkb hl hn) (g:=?_)
 rintro _ h1 ⟨rfl,hk⟩
 refine wk ?_
 refine ret X.f201 ?_
 exact⟨rfl,kps⟩
def itF:Nat→Nat→Nat
 |0,x=>x
 |m+1,x=>Crc.f1 (itF m x)
omit L X in
theorem kz: ∀(m:Nat) {x:Nat},x<2 ^ 32→itF m x<2 ^ 32
 |0,_,h=>h
 |m+1,_,h=>Crc.f1_lt (kz m h)
theorem rx {b o n cap s:Nat}{bs:List Nat}(kb:BS h b o bs)(hl:bs.length=n)(hn:n<100000)(hs:s<2 ^ 32):
  Ct P0 E F K 177 [.int .u32 ((s:Nat):Int),.slc b o n cap] h fun v h'=>v= .int .u32 ((Crc.upd s bs:Nat):Int)∧h'=h:=by
 have ha:=kb.all
 refine Af L X.f177 X.k177 rfl rfl fun Q x cs G=>?_
 refine wk ?_
 refine Bb L (α:= Nat) (T:=fun i u=> [(5,some (.int .i64 ((i:Nat):Int))),(1,some (.slc b o n cap)),(0,some (.int .u32 ((u:Nat):Int)))]) (n:=n)
  (R:=fun i u h1=>h1=h∧u=Crc.upd s (bs.take i)∧u<2 ^ 32) (i0:=0) s tsb ⟨rfl,by simp [Crc.upd],hs⟩ (Nat.zero_le _) ?_ ?_
 ·rintro i u h1 hi ⟨rfl,w1,w2⟩ ih
  have hb:=ha i (by omega)
  have hx:u ^^^ bs.getD i 0<2 ^ 32:=Nat.xor_lt_two_pow w2 (by omega)
  refine wk ?_
  (apply st1 L rfl;exact F3 kb rfl (by omega);rfl)
  refine wk ?_
  (apply st1 L rfl;exact Vf rfl rfl rfl w2 (by simp only [pw];omega) hx;rfl)
  refine wk ?_
  refine Bb L (α:= Unit) (T:=fun m _=> [(6,some (.int .i64 ((m:Nat):Int))),(5,some (.int .i64 ((i:Nat):Int))),(1,some (.slc b o n cap)),(0,some (.int .u32 ((itF m (u ^^^ bs.getD i 0):Nat):Int)))]) (n:=8)
   (R:=fun m _ h2=>h2=h1) (i0:=0) () tsb rfl (by omega) ?_ ?_
  ·rintro m _ _ hm rfl ih2
   have hf:=kz m hx
   have e2:itF (m+1) (u ^^^ bs.getD i 0)=Crc.f1 (itF m (u ^^^ bs.getD i 0)):=rfl
   by_cases hc:itF m (u ^^^ bs.getD i 0) % 2=1
   ·refine wk ?_
    (apply st1 L rfl;exact Vf rfl rfl rfl (by simp only [pw];omega) (by decide) (Nat.xor_lt_two_pow (n:=32) (by omega) (by decide));rfl)
    refine wk ?_
    refine ih2 () _ _ rfl ?_
    rw [e2,Crc.f1,if_pos hc]
    exact tsb
   ·refine wk ?_
    refine ih2 () _ _ rfl ?_
    rw [e2,Crc.f1,if_neg hc]
    exact tsb
  ·rintro _ _ rfl
   refine wk ?_
   refine ih (bstep u (bs.getD i 0)) _ _ ⟨rfl,?_,Crc.bstep_lt w2 hb⟩ tsb
   rw [w1,List.take_add_one]
   have:bs[i]?=some (bs.getD i 0):=by rw [List.getD_eq_getElem?_getD,List.getElem?_eq_getElem (by omega)];rfl
   rw [this]
   unfold Crc.upd
   rw [List.foldl_append]
   rfl
 ·rintro u h1 ⟨rfl,w1,w2⟩
  refine wk ?_
  refine ret X.f177 ?_
  rw [w1,←hl,List.take_length]
  exact⟨rfl,rfl⟩
theorem Y1 {b o n cap:Nat}{bs:List Nat}(kb:BS h b o bs)(hl:bs.length=n)(hn:n<100000):
  Ct P0 E F K 123 [.slc b o n cap] h fun v h'=>v= .int .u32 ((crcB bs:Nat):Int)∧h'=h:=by
 have hlt:Crc.upd 4294967295 bs<2 ^ 32:=Crc.upd_lt _ _ (by decide) (fun v hv=>by obtain⟨i,hi,e⟩:=List.getElem_of_mem hv;have:=kb.all i hi;rw [List.getD_eq_getElem?_getD,List.getElem?_eq_getElem hi]at this;rw [←e];exact this)
 refine Ao L X.f123 X.k123 rfl rfl fun Q x cs G=>?_
 refine wk ?_
 refine cal (c:=rx L X kb hl hn (by decide)) (g:=?_)
 rintro _ rfl
 refine wk ?_
 (apply st1 L rfl;exact Vf rfl rfl rfl (by decide) hlt (Nat.xor_lt_two_pow (n:=32) (by decide) hlt);rfl)
 refine wk ?_
 refine ret X.f123 ?_
 refine⟨?_,rfl⟩
 have:4294967295 ^^^ Crc.upd 4294967295 bs=crcB bs:=ru hlt
 rw [←this];rfl
end
end
end Go.Ev
namespace Go.Ev
section
variable {P0:Program}{E:Env}{F:T CFn}{K:T (List AV×AV)}(L:Lg P0 E F K)(X:Fx F K)
include L X
section
variable {h:H}
theorem lf {b1 o1 n1 c1 b2 o2:Nat}{data ex:List Nat}(T:Tb P0 E F K)(k1:BS h b1 o1 data)(k2:BS h b2 o2 ex)(e1:data.length=n1)(e2:ex.length=64)(h1:0<n1∧n1<1000):
  Ct P0 E F K 157 [.slc b1 o1 n1 c1,.slc b2 o2 64 (Ac+1)] h fun v h'=>v= .int .u64 ((crcB (data++ex.take 60):Nat):Int)∧K0 h h':=by
 have l1:=k1.lt_n
 have l2:=k2.lt_n
 have hcl:=T0 (data++ex.take 60)
 have e3:(ex.take 60).length=60:=by rw [List.length_take];omega
 refine Af L X.f157 X.k157 rfl rfl fun Q x cs G=>?_
 refine wk ?_
 refine cal (c:=Sf L X (bs1:=data) (bs2:=ex.take 60) lkp lkb (BS.part (a:=0) (k:=by exact lkb) (by omega)) e1 e3 h1 (by omega)) (g:=?_)
 rintro _ h2 ⟨b,rfl,w1,w2,w3⟩
 have n2:=w3.n
 have l3:=w1.lt_n
 simp only [Ah]at n2 w2
 refine wk ?_
 refine cal (c:=xq L X T (bs:=data++ex.take 60) lkb (by rw [List.length_append];omega) (by omega)) (g:=?_)
 rintro _ h3 ⟨rfl,w4⟩
 refine wk ?_
 refine ret X.f157 ?_
 exact⟨rfl,kps⟩
theorem Et {e:Int}:Ct P0 E F K 151 [.bool true,.int .i64 e] h fun v h'=>v= .tup []∧h'=h:=by
 refine Af L X.f151 X.k151 rfl rfl fun Q x cs G=>?_
 refine wk ?_
 refine ret X.f151 ?_
 exact⟨rfl,rfl⟩
theorem Jm {e:Int}:CtP P0 E F K 151 [.bool false,.int .i64 e] h fun v h'=>v= .ifc 34 (.int .i64 e)∧h'=h:=by
 refine Il L X.f151 X.k151 rfl rfl rfl fun Q x cs G=>?_
 refine wk ?_
 refine Ls L rfl rfl ?_
 refine F5 L X.f151 ?_
 exact G _ _ ⟨rfl,rfl⟩
theorem Lx {r cb o n at_ m a rb:Nat}{bs:List Nat}(kr:Bk h rb [.ptr r 0])(k:Bk h r [.slc cb o n (Ac+1),.int .i64 ((at_:Nat):Int)])(kb:BS h cb o ((bs.drop a).take m))(hall:AllB bs)(hl:a+m≤bs.length)(hm:m≤n)(hm1:1≤m∧m≤4)(hn:n<1000)(ha:at_<1000)(hne:cb≠r):
  Ct P0 E F K 153 [.int .i64 ((m:Nat):Int),.ptr rb 0] h fun v h'=>v= .int .i64 ((leF bs a m:Nat):Int)∧Bk h' r [.slc cb (o+m) (n - m) (Ac+1),.int .i64 ((at_+m:Nat):Int)]∧Kp (fun j=>j=r) h h':=by
 have hlt:=Dc hall m a
 have hp:256 ^ m≤256 ^ 4:=Nat.pow_le_pow_right (by omega) (by omega)
 have hlt2:leF bs a m<4294967296:=Nat.lt_of_lt_of_le hlt hp
 clear hp hlt
 refine Af L X.f153 X.k153 rfl rfl fun Q x cs G=>?_
 refine wk ?_
 refine cal (c:=Ky L X (a:=a) (bs:=bs) (at_:=at_) (n:=n) (cb:=cb) (o:=o) lkp lkb hl hm (by omega) hn ha hne) (g:=?_)
 rintro _ h2 ⟨rfl,w1,w2⟩
 refine wk ?_
 refine cal (c:=Et L X) (g:=?_)
 rintro _ ⟨rfl⟩
 refine wk ?_
 refine ret X.f153 ?_
 exact⟨rfl,lkp,kps⟩
theorem Y2 {r cb o n at_ a rb:Nat}{bs:List Nat}(kr:Bk h rb [.ptr r 0])(k:Bk h r [.slc cb o n (Ac+1),.int .i64 ((at_:Nat):Int)])(kb:BS h cb o ((bs.drop a).take 8))(hl:a+8≤bs.length)(hm:8≤n)(hn:n<1000)(ha:at_<1000)(hne:cb≠r):
  Ct P0 E F K 155 [.ptr rb 0] h fun v h'=>v= .int .u64 ((leF bs a 8:Nat):Int)∧Bk h' r [.slc cb (o+8) (n - 8) (Ac+1),.int .i64 ((at_+8:Nat):Int)]∧Kp (fun j=>j=r) h h':=by
 refine Ao L X.f155 X.k155 rfl rfl fun Q x cs G=>?_
 refine wk ?_
 refine cal (c:=Ky L X (a:=a) (m:=8) (bs:=bs) (at_:=at_) (n:=n) (cb:=cb) (o:=o) lkp lkb hl hm (by omega) hn ha hne) (g:=?_)
 rintro _ h2 ⟨rfl,w1,w2⟩
 refine wk ?_
 refine cal (c:=Et L X) (g:=?_)
 rintro _ ⟨rfl⟩
 refine wk ?_
 refine ret X.f155 ?_
 exact⟨rfl,lkp,kps⟩
theorem Gs {Q:Nat→AV→Prop}{nt:Nat}{l:List (Nat×Option AV)}{todo:List AItem}{z:AFr}{cs:List AFr}{b4 b5:Nat}{e:Int}{x0 x1 x2 x3 x4 x5 y0:AV}{post:AV→H→Prop}(t4:look l 4=some (.ptr b4 0))(t5:look l 5=some (.ptr b5 0))
  (k4:Bk h b4 [x0,x1,x2,x3,x4,x5]) (k5:Bk h b5 [y0]) (hne:b4≠b5) (hG: ∀v h',post v h'→GO P0 E Q (finish v cs h' z))
  (hp1: ∀h',Kp (fun j=>j=b4∨j=b5) h h'→post (.tup [.agg (spC sp0),.int .i64 e]) h'):
  Good P0 E Q ⟨⟨109,nt,tms l,todo,[.call 150 [.ptr b4 0,.ptr b5 0]],.panicking [(.ifc 34 (.int .i64 e),false)],false,none⟩,z::cs,h⟩:=by
 have l4:=k4.lt
 have l5:=k5.lt
 refine Db L (by intro q;cases q) X.f150 rfl rfl rfl ?_
 refine Ii L rfl ?_
 refine wk ?_
 (apply Qh L rfl rfl rfl rfl rfl rfl rfl;exact lkp;rfl;intro h9 hs9;(repeat(first|(apply Au rfl rfl;exact opv)|(apply Kv rfl rfl)));(first|(apply p_0;exact chk)|(refine Tr L ?_ rfl ?_;exact chk));refine Od L hs9 ?_)
 refine wk ?_
 refine Ij L X.f150 rfl ?_
 refine Gr L X.f109 (If t4 (Bk.e lkp) rfl (Dn t5 (Bk.e lkp) rfl Ix)) hG (hp1 _ kps)
theorem li {Q:Nat→AV→Prop}{nt:Nat}{l:List (Nat×Option AV)}{todo:List AItem}{z:AFr}{cs:List AFr}{b4 b5:Nat}{x0 x1 x2 x3 x4 x5 y0:AV}{post:AV→H→Prop}(t4:look l 4=some (.ptr b4 0))(t5:look l 5=some (.ptr b5 0))
  (k4:Bk h b4 [x0,x1,x2,x3,x4,x5]) (k5:Bk h b5 [y0]) (hG: ∀v h',post v h'→GO P0 E Q (finish v cs h' z))
  (hp1:post (.tup [.agg [x0,x1,x2,x3,x4,x5],y0]) h):
  Good P0 E Q ⟨⟨109,nt,tms l,todo,[.call 150 [.ptr b4 0,.ptr b5 0]],.returning,false,none⟩,z::cs,h⟩:=by
 refine Db L (by intro q;cases q) X.f150 rfl rfl rfl ?_
 refine Fm L rfl ?_
 refine wk ?_
 (apply st1 L rfl;exact My (k:=true) rfl rfl;rfl)
 refine wk ?_
 refine Ij L X.f150 rfl ?_
 refine Gr L X.f109 (If t4 (Bk.e lkp) rfl (Dn t5 (Bk.e lkp) rfl Ix)) hG hp1
end
end
section
variable {P0:Program}{E:Env}{F:T CFn}{K:T (List AV×AV)}(L:Lg P0 E F K)(X:Fx F K)
include L X
section
variable {h:H}
theorem J6 {b at_ n v cap len:Nat}{a l0 c:List Nat}(k:Bk h b (Ax (a++l0++c)))(ha:a.length=at_)(hl:l0.length=n)(hn:n≤8)(hv:v<18446744073709551616)(hlen:(a++l0++c).length=len)(hle:len<10000):
  Ct P0 E F K 100 [.slc b 0 len cap,.int .i64 ((at_:Nat):Int),.int .i64 ((n:Nat):Int),.int .u64 ((v:Nat):Int)] h fun u h'=>Bk h' b (Ax (a++leb n v++c))∧Kp (fun j=>j=b) h h':=by
 have l1:=k.lt
 rw [List.length_append,List.length_append]at hlen
 refine jn L X.f100 X.k100 rfl rfl fun Q x cs G=>?_
 refine wk ?_
 refine Bb L (α:= Unit) (T:=fun i _=> [(8,some (.int .i64 ((i:Nat):Int))),(0,some (.slc b 0 len cap)),(1,some (.int .i64 ((at_:Nat):Int))),(2,some (.int .i64 ((n:Nat):Int))),(3,some (.int .u64 ((v:Nat):Int)))]) (n:=n)
  (R:=fun i _ h1=>Bk h1 b (Ax (a++leb i v++(l0.drop i++c)))∧Kp (fun j=>j=b) h h1) (i0:=0) () tsb ⟨?_,kps⟩ (Nat.zero_le _) ?_ ?_
 ·rw [leb,List.append_nil,List.drop_zero,←List.append_assoc];exact lkp
 ·rintro i _ h1 hi ⟨w1,w2⟩ ih
  have hd:l0.drop i=l0[i]::l0.drop (i+1):=List.drop_eq_getElem_cons (by omega)
  rw [hd,List.cons_append]at w1
  have hlen2:at_+i<(Ax (a++leb i v++l0[i]::(l0.drop (i+1)++c))).length:=by
   rw [Jl,List.length_append,List.length_append,List.length_cons,Do];omega
  refine wk ?_
  (apply st1 L rfl;exact uk (s:=8*i) rfl rfl (by show 8*i≤64;omega);rfl)
  refine wk ?_
  (apply st1 L rfl;exact Yt rfl rfl;rfl)
  refine wk ?_
  refine ih () _ _ ⟨?_,kps⟩ tsb
  refine N4 ?_ lkp
  rw [Qk _ _ _ _ _ (by rw [List.length_append,Do];omega),Qj,List.append_assoc a,List.append_assoc a,List.append_assoc (leb i v)]
  rfl
 ·rintro _ h1 ⟨w1,w2⟩
  refine wk ?_
  refine ret X.f100 ?_
  refine⟨?_,kps⟩
  rw [←hl,List.drop_length,List.nil_append]at w1
  rw [←hl]
  exact lkp
def dn (n i:Nat):Int:=((n:Nat):Int) - 1 - ((i:Nat):Int)
theorem Io {b o cap len at_ n:Nat}{bs:List Nat}(k:BS h b o bs)(hl:bs.length=len)(hn:1≤n∧n≤8)(hat:at_+n≤len)(hle:len<10000):
  Ct P0 E F K 122 [.slc b o len cap,.int .i64 ((at_:Nat):Int),.int .i64 ((n:Nat):Int)] h fun u h'=>u= .int .u64 ((leF bs at_ n:Nat):Int)∧h'=h:=by
 have hall:=k.all
 refine A6 L X.f122 X.k122 rfl rfl fun Q x cs G=>?_
 refine wk ?_
 rw [show((n - 1:Nat):Int)=dn n 0 by unfold dn;omega]
 refine Bb L (α:= Nat) (T:=fun i u=> [(8,some (.int .i64 (dn n i))),(7,some (.int .u64 ((u:Nat):Int))),(0,some (.slc b o len cap)),(1,some (.int .i64 ((at_:Nat):Int)))]) (n:=n)
  (R:=fun i u h1=>h1=h∧u=leF bs (at_+n - i) i) (i0:=0) 0 tsb ⟨rfl,rfl⟩ (Nat.zero_le _) ?_ ?_
 ·rintro i u h1 hi ⟨rfl,w1⟩ ih
  have hlt:=Dc hall i (at_+n - i)
  rw [←w1]at hlt
  have hp:256 ^ i≤256 ^ 7:=Nat.pow_le_pow_right (by omega) (by omega)
  have hu:u<72057594037927936:=by omega
  have hb:=C0 hall (at_+(n - 1 - i))
  rw [show dn n i=((n - 1 - i:Nat):Int) by unfold dn;omega]
  refine wk ?_
  (apply st1 L rfl;exact up (s:=8) rfl rfl rfl (by decide);rfl)
  rw [show(u*2 ^ 8) % pw .u64=u*256 by simp only [pw];omega]
  refine wk ?_
  (apply st1 L rfl;exact F3 k rfl (by omega);rfl)
  refine wk ?_
  have hor:u*256 ||| bs.getD (at_+(n - 1 - i)) 0=u*256+bs.getD (at_+(n - 1 - i)) 0:=by
   have:=Nat.shiftLeft_add_eq_or_of_lt (i:=8) (show bs.getD (at_+(n - 1 - i)) 0<2 ^ 8 from hb) u
   rw [Nat.shiftLeft_eq]at this
   exact this.symm
  (apply st1 L rfl;exact Aaz rfl rfl rfl (by simp only [pw];omega) (by simp only [pw];omega) (by rw [hor];simp only [pw];omega);rfl)
  rw [hor]
  refine wk ?_
  rw [show((n - 1 - i:Nat):Int) - ((1:Nat):Int)=dn n (i+1) by unfold dn;omega]
  refine ih _ _ _ ⟨rfl,?_⟩ tsb
  rw [w1,show at_+n - (i+1)=at_+(n - 1 - i) by omega,leF,show at_+(n - 1 - i)+1=at_+n - i by omega]
  omega
 ·rintro u h1 ⟨rfl,w1⟩
  have hm:dn n n<0:=by unfold dn;omega
  refine wk ?_
  refine ret X.f122 ?_
  rw [w1,Nat.add_sub_cancel]
  exact⟨rfl,rfl⟩
theorem ry {b db do_ dn dcap:Nat}{hd tl data:List Nat}(k:Bk h b (Ax (hd++tl)))(h60:hd.length=60)(h4:tl.length=4)(hall:AllB hd)(kd:BS h db do_ data)(hl:data.length=dn)(hdn:0<dn∧dn<10000):
  Ct P0 E F K 101 [.slc b 0 64 64,.slc db do_ dn dcap] h fun u h'=>Bk h' b (Ax (hd++leb 4 (crcB (data++hd))))∧Kp (fun j=>j=b) h h':=by
 have l1:=k.lt
 have l2:=kd.lt_n
 have a1:=kd.all
 refine Af L X.f101 X.k101 rfl rfl fun Q x cs G=>?_
 refine wk ?_
 have f1:BS (hp (h.n+1) h.t [(h.n,some (cl []))]) db do_ data:=lkb
 (apply B5 L rfl rfl;exact M0 rfl rfl (f1.slr hl) (by omega) (by omega))
 refine wk ?_
 have f3:BS (hp (h.n+1+1) h.t [(h.n+1,some (cl (Ax data))),(h.n,some (cl []))]) (h.n+1) 0 data:=Fs a1
 have hk:Bk (hp (h.n+1+1) h.t [(h.n+1,some (cl (Ax data))),(h.n,some (cl []))]) b (Ax (hd++tl)):=lkp
 (apply B5 L rfl rfl;exact C2 rfl rfl (f3.slr hl) (SlR.of hk (by rw [Jl,List.length_append];omega) (show _=Ax hd by rw [List.drop_zero,←Fl,show 60*1=(Ax hd).length by rw [Jl,h60],List.take_left])) (by omega) (by omega) (Ec _))
 refine wk ?_
 have f4:BS (hp (h.n+1+1+1) h.t [(h.n+1+1,some (cl (Ax data++Ax hd))),(h.n+1,none),(h.n+1,some (cl (Ax data))),(h.n,some (cl []))]) (h.n+1+1) 0 (data++hd):=by
  rw [Fl];exact Fs (a1.app hall)
 refine cal (c:=Y1 L X f4 (by rw [List.length_append];omega) (by omega)) (g:=?_)
 rintro _ rfl
 have hcl:=T0 (data++hd)
 refine wk ?_
 have hk5:Bk (hp (h.n+1+1+1) h.t [(h.n+1+1,some (cl (Ax data++Ax hd))),(h.n+1,none),(h.n+1,some (cl (Ax data))),(h.n,some (cl []))]) b (Ax (hd++tl++ [])):=by rw [List.append_nil];exact lkp
 refine cal (c:=J6 L X hk5 h60 h4 (by omega) (by omega) (by rw [List.length_append,List.length_append];show _=64;simp;omega) (by omega)) (g:=?_)
 rintro _ h2 ⟨w1,w2⟩
 refine wk ?_
 refine ret X.f101 ?_
 rw [List.append_nil]at w1
 exact⟨lkp,kps⟩
end
end
section
variable {P0:Program}{E:Env}{F:T CFn}{K:T (List AV×AV)}(L:Lg P0 E F K)(X:Fx F K)
include L X
def Iz (s:Sp)(data:List Nat):List Nat:=Ft s++leb 4 (crcB (data++Ft s))
section
variable {h:H}
theorem lj {db do_ m dcap:Nat}{s:Sp}{data:List Nat}(hs:s.Ok)(kd:BS h db do_ data)(hl:data.length=m)(hdn:0<m∧m<10000):
  Ct P0 E F K 39 [.agg (spC s),.slc db do_ m dcap] h fun v h'=> ∃rb,v= .slc rb 0 64 64∧Bk h' rb (Ax (Iz s data))∧h.n≤rb∧K0 h h':=by
 have l2:=kd.lt_n
 obtain⟨hk,hsq,hpv⟩:=hs
 refine Af L X.f39 X.k39 rfl rfl fun Q x cs G=>?_
 refine wk ?_
 refine rp L (lv:= [.int .u8 ((67:Nat):Int),.int .u8 ((70:Nat):Int),.int .u8 ((84:Nat):Int),.int .u8 ((76:Nat):Int),.int .u8 ((s.kind:Nat):Int)]) (cs1:=Ax (mag s.kind++List.replicate 8 0++List.replicate 48 0)) rfl rfl rfl (SlR.of lkp (Nat.le_refl _) rfl) lkp (by omega) rfl (by show 0+5≤64;omega) (by show 0<5;omega) rfl rfl ?_
 refine wk ?_
 refine cal (c:=J6 L X (len:=64) (at_:=8) (n:=8) (a:=mag s.kind) (l0:=List.replicate 8 0) (c:=List.replicate 48 0) lkp rfl rfl (by omega) hsq rfl (by omega)) (g:=?_)
 rintro _ h2 ⟨w1,w2⟩
 have n2:=w2.n
 simp only [Ah]at n2
 refine wk ?_
 have w3:Bk h2 (h.n+1) (Ax (mag s.kind++leb 8 s.seq++List.replicate 8 0++List.replicate 40 0)):=by rw [List.append_assoc];exact w1
 refine cal (c:=J6 L X (len:=64) (at_:=16) (n:=8) (a:=mag s.kind++leb 8 s.seq) (l0:=List.replicate 8 0) (c:=List.replicate 40 0) lkp rfl rfl (by omega) hpv rfl (by omega)) (g:=?_)
 rintro _ h3 ⟨w4,w5⟩
 have n3:=w5.n
 simp only [Ah]at n3
 refine wk ?_
 (apply st1 L rfl;exact Jj rfl;rfl)
 refine wk ?_
 have w6:Bk h3 (h.n+1) (Ax (mag s.kind++leb 8 s.seq++leb 8 s.prev++List.replicate 4 0++List.replicate 36 0)):=by rw [List.append_assoc];exact w4
 refine cal (c:=J6 L X (len:=64) (at_:=24) (n:=4) (a:=mag s.kind++leb 8 s.seq++leb 8 s.prev) (l0:=List.replicate 4 0) (c:=List.replicate 36 0) lkp rfl rfl (by omega) (Xi _) rfl (by omega)) (g:=?_)
 rintro _ h4 ⟨w7,w8⟩
 have n4:=w8.n
 simp only [Ah]at n4
 refine wk ?_
 (apply st1 L rfl;exact Jj rfl;rfl)
 refine wk ?_
 have w9:Bk h4 (h.n+1) (Ax (mag s.kind++leb 8 s.seq++leb 8 s.prev++leb 4 (u64 s.sec)++List.replicate 4 0++List.replicate 32 0)):=by rw [List.append_assoc];exact w7
 refine cal (c:=J6 L X (len:=64) (at_:=28) (n:=4) (a:=mag s.kind++leb 8 s.seq++leb 8 s.prev++leb 4 (u64 s.sec)) (l0:=List.replicate 4 0) (c:=List.replicate 32 0) lkp rfl rfl (by omega) (Xi _) rfl (by omega)) (g:=?_)
 rintro _ h5 ⟨x1,x2⟩
 have n5:=x2.n
 simp only [Ah]at n5
 refine wk ?_
 (apply st1 L rfl;exact Jj rfl;rfl)
 refine wk ?_
 have x3:Bk h5 (h.n+1) (Ax (mag s.kind++leb 8 s.seq++leb 8 s.prev++leb 4 (u64 s.sec)++leb 4 (u64 s.idx)++List.replicate 4 0++List.replicate 28 0)):=by rw [List.append_assoc];exact x1
 refine cal (c:=J6 L X (len:=64) (at_:=32) (n:=4) (a:=mag s.kind++leb 8 s.seq++leb 8 s.prev++leb 4 (u64 s.sec)++leb 4 (u64 s.idx)) (l0:=List.replicate 4 0) (c:=List.replicate 28 0) lkp rfl rfl (by omega) (Xi _) rfl (by omega)) (g:=?_)
 rintro _ h6 ⟨x4,x5⟩
 have n6:=x5.n
 simp only [Ah]at n6
 refine wk ?_
 have x6:Bk h6 (h.n+1) (Ax (Ft s++List.replicate 4 0)):=by unfold Ft;rw [List.append_assoc];exact x4
 refine cal (c:=ry L X (data:=data) lkp (Im s) rfl (Kx hk) lkb hl hdn) (g:=?_)
 rintro _ h7 ⟨x7,x8⟩
 refine wk ?_
 refine ret X.f39 ?_
 exact⟨h.n+1,rfl,x7,by omega,kps⟩
end
end
section
variable {P0:Program}{E:Env}{F:T CFn}{K:T (List AV×AV)}(L:Lg P0 E F K)(X:Fx F K)
include L X
omit L X in
theorem lk (s:Sp):(s.seq<1)∨
  (1≤s.seq∧s.len<1)∨
  (1≤s.seq∧65535<s.len)∨
  (1≤s.seq∧1≤s.len∧s.len≤65535∧s.idx<0)∨
  (1≤s.seq∧1≤s.len∧s.len≤65535∧0≤s.idx∧s.len≤s.idx)∨
  (1≤s.seq∧1≤s.len∧s.len≤65535∧0≤s.idx∧s.idx<s.len∧s.kind=1∧s.sec<0)∨
  (1≤s.seq∧1≤s.len∧s.len≤65535∧0≤s.idx∧s.idx<s.len∧s.kind=1∧4294967294<s.sec)∨
  (1≤s.seq∧1≤s.len∧s.len≤65535∧0≤s.idx∧s.idx<s.len∧s.kind=1∧0≤s.sec∧s.sec≤4294967294∧s.prev≠0)∨
  (1≤s.seq∧1≤s.len∧s.len≤65535∧0≤s.idx∧s.idx<s.len∧s.kind=1∧0≤s.sec∧s.sec≤4294967294∧s.prev=0∧s.len≠1)∨
  (1≤s.seq∧1≤s.len∧s.len≤65535∧0≤s.idx∧s.idx<s.len∧s.kind=1∧0≤s.sec∧s.sec≤4294967294∧s.prev=0∧s.len=1)∨
  (1≤s.seq∧1≤s.len∧s.len≤65535∧0≤s.idx∧s.idx<s.len∧s.kind≠1∧s.kind≠2∧s.kind≠3)∨
  (1≤s.seq∧1≤s.len∧s.len≤65535∧0≤s.idx∧s.idx<s.len∧s.kind=2∧s.sec≠0)∨
  (1≤s.seq∧1≤s.len∧s.len≤65535∧0≤s.idx∧s.idx<s.len∧s.kind=2∧s.sec=0∧s.seq≤s.prev)∨
  (1≤s.seq∧1≤s.len∧s.len≤65535∧0≤s.idx∧s.idx<s.len∧s.kind=2∧s.sec=0∧s.prev<s.seq∧s.seq - s.prev≤s.idx.toNat)∨
  (1≤s.seq∧1≤s.len∧s.len≤65535∧0≤s.idx∧s.idx<s.len∧s.kind=2∧s.sec=0∧s.prev<s.seq∧s.idx.toNat<s.seq - s.prev)∨
  (1≤s.seq∧1≤s.len∧s.len≤65535∧0≤s.idx∧s.idx<s.len∧s.kind=3∧s.sec≠0)∨
  (1≤s.seq∧1≤s.len∧s.len≤65535∧0≤s.idx∧s.idx<s.len∧s.kind=3∧s.sec=0∧s.seq≤s.prev)∨
  (1≤s.seq∧1≤s.len∧s.len≤65535∧0≤s.idx∧s.idx<s.len∧s.kind=3∧s.sec=0∧s.prev<s.seq∧s.seq - s.prev≤s.idx.toNat)∨
  (1≤s.seq∧1≤s.len∧s.len≤65535∧0≤s.idx∧s.idx<s.len∧s.kind=3∧s.sec=0∧s.prev<s.seq∧s.idx.toNat<s.seq - s.prev):=by
 by_cases h0:s.seq<1
 ·exact .inl (by omega)
 by_cases h1:s.len<1
 ·exact .inr (.inl ⟨by omega,by omega⟩)
 by_cases h2:65535<s.len
 ·exact .inr (.inr (.inl ⟨by omega,by omega⟩))
 by_cases h3:s.idx<0
 ·exact .inr (.inr (.inr (.inl ⟨by omega,by omega,by omega,by omega⟩)))
 by_cases h4:s.len≤s.idx
 ·exact .inr (.inr (.inr (.inr (.inl ⟨by omega,by omega,by omega,by omega,by omega⟩))))
 by_cases hk:s.kind=1
 ·by_cases h5:s.sec<0
  ·exact .inr (.inr (.inr (.inr (.inr (.inl ⟨by omega,by omega,by omega,by omega,by omega,by omega,by omega⟩)))))
  by_cases h6:4294967294<s.sec
  ·exact .inr (.inr (.inr (.inr (.inr (.inr (.inl ⟨by omega,by omega,by omega,by omega,by omega,by omega,by omega⟩))))))
  by_cases h7:s.prev≠0
  ·exact .inr (.inr (.inr (.inr (.inr (.inr (.inr (.inl ⟨by omega,by omega,by omega,by omega,by omega,by omega,by omega,by omega,by omega⟩)))))))
  by_cases h8:s.len≠1
  ·exact .inr (.inr (.inr (.inr (.inr (.inr (.inr (.inr (.inl ⟨by omega,by omega,by omega,by omega,by omega,by omega,by omega,by omega,by omega,by omega⟩))))))))
  exact .inr (.inr (.inr (.inr (.inr (.inr (.inr (.inr (.inr (.inl ⟨by omega,by omega,by omega,by omega,by omega,by omega,by omega,by omega,by omega,by omega⟩)))))))))
 by_cases hk2:s.kind=2
 ·by_cases h11:s.sec≠0
  ·exact .inr (.inr (.inr (.inr (.inr (.inr (.inr (.inr (.inr (.inr (.inr (.inl ⟨by omega,by omega,by omega,by omega,by omega,by omega,by omega⟩)))))))))))
  by_cases h12:s.seq≤s.prev
  ·exact .inr (.inr (.inr (.inr (.inr (.inr (.inr (.inr (.inr (.inr (.inr (.inr (.inl ⟨by omega,by omega,by omega,by omega,by omega,by omega,by omega,by omega⟩))))))))))))
  by_cases h13:s.seq - s.prev≤s.idx.toNat
  ·exact .inr (.inr (.inr (.inr (.inr (.inr (.inr (.inr (.inr (.inr (.inr (.inr (.inr (.inl ⟨by omega,by omega,by omega,by omega,by omega,by omega,by omega,by omega,by omega⟩)))))))))))))
  exact .inr (.inr (.inr (.inr (.inr (.inr (.inr (.inr (.inr (.inr (.inr (.inr (.inr (.inr (.inl ⟨by omega,by omega,by omega,by omega,by omega,by omega,by omega,by omega,by omega⟩))))))))))))))
 by_cases hk3:s.kind=3
 ·by_cases h15:s.sec≠0
  ·exact .inr (.inr (.inr (.inr (.inr (.inr (.inr (.inr (.inr (.inr (.inr (.inr (.inr (.inr (.inr (.inl ⟨by omega,by omega,by omega,by omega,by omega,by omega,by omega⟩)))))))))))))))
  by_cases h16:s.seq≤s.prev
  ·exact .inr (.inr (.inr (.inr (.inr (.inr (.inr (.inr (.inr (.inr (.inr (.inr (.inr (.inr (.inr (.inr (.inl ⟨by omega,by omega,by omega,by omega,by omega,by omega,by omega,by omega⟩))))))))))))))))
  by_cases h17:s.seq - s.prev≤s.idx.toNat
  ·exact .inr (.inr (.inr (.inr (.inr (.inr (.inr (.inr (.inr (.inr (.inr (.inr (.inr (.inr (.inr (.inr (.inr (.inl ⟨by omega,by omega,by omega,by omega,by omega,by omega,by omega,by omega,by omega⟩)))))))))))))))))
  exact .inr (.inr (.inr (.inr (.inr (.inr (.inr (.inr (.inr (.inr (.inr (.inr (.inr (.inr (.inr (.inr (.inr (.inr (⟨by omega,by omega,by omega,by omega,by omega,by omega,by omega,by omega,by omega⟩))))))))))))))))))
 exact .inr (.inr (.inr (.inr (.inr (.inr (.inr (.inr (.inr (.inr (.inl ⟨by omega,by omega,by omega,by omega,by omega,by omega,by omega,by omega⟩))))))))))
theorem J7 {h:H}{s:Sp}(ok:s.Ok):Ct P0 E F K 124 [.agg (spC s)] h fun v h'=>v= .bool (decide s.Valid)∧K0 h h':=by
 have hsq:=ok.seq
 have hpv:=ok.prev
 have hu:0≤s.idx→u64 s.idx=s.idx.toNat∨18446744073709551616≤s.idx:=by unfold u64;omega
 rcases lk s with hc|hc|hc|hc|hc|hc|hc|hc|hc|hc|hc|hc|hc|hc|hc|hc|hc|hc|hc
 all_goals
  refine Ao L X.f124 X.k124 rfl rfl fun Q x cs G=>?_
  refine wk ?_
  (try((apply st1 L rfl;exact Jj rfl;rfl);refine wk ?_;(apply st1 L rfl;exact B0 rfl rfl rfl (by omega) (by simp only [pw];omega);rfl);refine wk ?_))
  (first
  |(refine ret X.f124 ?_;exact⟨by rw [show decide s.Valid=false from decide_eq_false (by unfold Sp.Valid;omega)];rfl,kps⟩)
  |(refine ret X.f124 ?_;exact⟨by rw [show decide s.Valid=true from decide_eq_true (by unfold Sp.Valid;omega)];rfl,kps⟩))
theorem cf {h:H}{s:Sp}(ok:s.Ok):Ct P0 E F K 160 [.agg (spC s)] h fun v h'=>v= .bool (decide s.Valid)∧K0 h h':=by
 have hsq:=ok.seq
 have hpv:=ok.prev
 have hu:0≤s.idx→u64 s.idx=s.idx.toNat∨18446744073709551616≤s.idx:=by unfold u64;omega
 rcases lk s with hc|hc|hc|hc|hc|hc|hc|hc|hc|hc|hc|hc|hc|hc|hc|hc|hc|hc|hc
 all_goals
  refine Ao L X.f160 X.k160 rfl rfl fun Q x cs G=>?_
  refine wk ?_
  (try((apply st1 L rfl;exact Jj rfl;rfl);refine wk ?_;(apply st1 L rfl;exact B0 rfl rfl rfl (by omega) (by simp only [pw];omega);rfl);refine wk ?_))
  (first
  |(refine ret X.f160 ?_;exact⟨by rw [show decide s.Valid=false from decide_eq_false (by unfold Sp.Valid;omega)];rfl,kps⟩)
  |(refine ret X.f160 ?_;exact⟨by rw [show decide s.Valid=true from decide_eq_true (by unfold Sp.Valid;omega)];rfl,kps⟩))
end
section
variable {P0:Program}{E:Env}{F:T CFn}{K:T (List AV×AV)}(L:Lg P0 E F K)(X:Fx F K)
include L X
def El (ex:List Nat):Sp:=⟨ex.getD 4 0,((leF ex 24 4:Nat):Int),leF ex 8 8,leF ex 16 8,((leF ex 28 4:Nat):Int),((leF ex 32 4:Nat):Int)⟩
def Jn (ex data:List Nat):Option Sp:=if leF ex 60 4=crcB (data++ex.take 60)∧(El ex).Valid∧ex.take 60=Ft (El ex)then some (El ex)else none
omit L X in
theorem Ov {ex:List Nat}(h:AllB ex):(El ex).Ok:=⟨C0 h 4,Dc h 8 8,Dc h 8 16⟩
omit L X in
theorem Y3 {ex data:List Nat}(ha:AllB ex)(hl:ex.length=64)(hc:leF ex 60 4=crcB (data++ex.take 60)):Iz (El ex) data=ex↔ex.take 60=Ft (El ex):=by
 constructor
 ·intro h
  rw [←h]
  conv=>lhs;unfold Iz
  rw [←Im (El ex),List.take_left]
  rw [h]
 ·intro h
  unfold Iz
  rw [←h,←hc,Fc ha 4 60 (by omega)]
  conv=>rhs;rw [←List.take_append_drop 60 ex]
  rw [List.take_of_length_le (l:=ex.drop 60) (by rw [List.length_drop];omega)]
section
variable {h:H}
theorem Xn {b1 o1 b2 o2 m:Nat}{ex data:List Nat}(k1:BS h b1 o1 ex)(k2:BS h b2 o2 data)(hl1:ex.length=64)(hl2:data.length=m)(hm:0<m∧m<1000):
  Ct P0 E F K 72 [.slc b1 o1 64 (Ac+1),.slc b2 o2 m (Ac+1)] h fun v h'=>(∃e:Nat,v= .tup [.agg (spC ((Jn ex data).getD sp0)),.int .i64 ((e:Nat):Int)]∧(e=0↔(Jn ex data).isSome=true)∧e<1000)∧K0 h h':=by
 have l1:=k1.lt_n
 have l2:=k2.lt_n
 have a1:=k1.all
 have a2:=k2.all
 have g0:leF ex 60 4<4294967296:=Dc a1 4 60
 have g1:leF ex 24 4<4294967296:=Dc a1 4 24
 have g2:leF ex 28 4<4294967296:=Dc a1 4 28
 have g3:leF ex 32 4<4294967296:=Dc a1 4 32
 have hcl:crcB (data++ex.take 60)<4294967296:=T0 _
 have ht60:(ex.take 60).length=60:=by rw [List.length_take];omega
 refine Af L X.f72 X.k72 rfl rfl fun Q x cs G=>?_
 refine wk ?_
 obtain⟨cc,q1,q2,q3⟩:=k1.ex
 have q4:=q3 4 (by omega)
 have f4:BS (hp (h.n+1+1+1+1) h.t [(h.n+1+1+1,some (cl (Ax data++Ax (List.take 60 (List.drop 0 ex))))),(h.n+1+1,none),(h.n+1+1,some (cl (Ax data))),(h.n+1,some (cl [])),(h.n,some (cl [.int .u8 ((0:Nat):Int),.int .i64 ((0:Nat):Int),.int .u64 ((0:Nat):Int),.int .u64 ((0:Nat):Int),.int .i64 ((0:Nat):Int),.int .i64 ((0:Nat):Int)]))]) (h.n+1+1+1) 0 (data++ex.take 60):=by
  rw [Fl];exact Fs (a2.app (BS.all (BS.part (a:=0) (n:=60) k1 (by omega))))
 have main: ∀(h5:H) (lq:List (Nat×Option AV)) (b6:Nat),leF ex 60 4=crcB (data++ex.take 60)→Bk h5 h.n (spC sp0)→Bk h5 b6 (spC (El ex))→K0 h h5→h.n≠b6→TSub (tms [(4,some (.ptr h.n 0)),(0,some (.slc b1 o1 64 (Ac+1))),(1,some (.slc b2 o2 m (Ac+1))),(6,some (.ptr b6 0))]) (tms lq)→
   Good P0 E Q ⟨⟨72,54,tms lq,[.code c72_19],[],.run,false,none⟩,x::cs,h5⟩:=by
  intro h5 lq b6 hc w1 w2 w3 hne ht
  refine Oc L ht ?_
  refine Od L (h':=hp h5.n h5.t []) (.refl _) ?_
  have m1:=w1.lt
  have m2:=w2.lt
  have m3:=w3.n
  refine wk ?_
  refine cal (c:=J7 L X (s:=El ex) (Ov a1)) (g:=?_)
  rintro _ h6 ⟨rfl,w4⟩
  have m4:=w4.n
  simp only [Ah]at m4
  by_cases hv:(El ex).Valid
  ·rw [decide_eq_true hv]
   refine wk ?_
   (apply Au rfl rfl;exact Si rfl (by exact lkb) hl1)
   refine wk ?_
   refine cal (c:=lj L X (s:=El ex) (data:=data) (Ov a1) lkb hl2 (by omega)) (g:=?_)
   rintro _ h7 ⟨rb,rfl,w5,w6,w7⟩
   have m7:=w7.n
   simp only [Ah]at w6 m7
   have hrl:(Iz (El ex) data).length=64:=by unfold Iz;rw [List.length_append,Im,Do]
   have hra:AllB (Iz (El ex) data):=(Kx (Ov a1).kind).app (Fb _ _)
   (apply Au rfl rfl;exact Si rfl (Sd w5 hra) hrl)
   (apply Au rfl rfl;exact uq rfl rfl)
   by_cases hr:Iz (El ex) data=ex
   ·rw [decide_eq_false (show¬Iz (El ex) data≠ex from fun q=>q hr)]
    (apply Au rfl rfl;exact opv)
    refine Tr L ?_ rfl ?_
    ·(apply Ay rfl rfl opv rfl rfl;apply Ay rfl rfl (Si rfl (by exact lkb) hl1) rfl rfl;exact Cr)
    refine wk ?_
    refine ret X.f72 ?_
    have hD:Jn ex data=some (El ex):=if_pos ⟨hc,hv,(Y3 a1 hl1 hc).1 hr⟩
    rw [hD]
    exact⟨⟨0,rfl,by simp,by omega⟩,kps⟩
   ·rw [decide_eq_true (show Iz (El ex) data≠ex from hr)]
    (apply Au rfl rfl;exact opv)
    refine Tr L ?_ rfl ?_
    ·(apply Ay rfl rfl opv rfl rfl;apply Ay rfl rfl (Si rfl (by exact lkb) hl1) rfl rfl;exact Cr)
    refine wk ?_
    refine ret X.f72 ?_
    have hD:Jn ex data=none:=if_neg fun q=>hr ((Y3 a1 hl1 hc).2 q.2.2)
    rw [hD]
    exact⟨⟨6,rfl,by simp,by omega⟩,kps⟩
  ·rw [decide_eq_false hv]
   refine wk ?_
   refine ret X.f72 ?_
   have hD:Jn ex data=none:=if_neg fun q=>hv q.2.1
   rw [hD]
   exact⟨⟨6,rfl,by simp,by omega⟩,kps⟩
 have crcS: ∀(lq:List (Nat×Option AV)),TSub (tms [(12,some (.int .u64 ((leF ex 60 4:Nat):Int))),(18,some (.slc (h.n+1+1+1) 0 (m+60) (Ac+1))),(4,some (.ptr h.n 0)),(0,some (.slc b1 o1 64 (Ac+1))),(1,some (.slc b2 o2 m (Ac+1)))]) (tms lq)→
   Good P0 E Q ⟨⟨72,54,tms lq,[.drawn ⟨⟨⟨some 19,none,.callv (.c (.fn (.func 123) [] [])) [.t 18]⟩,[18]⟩,[⟨⟨some 20,none,.conv .u64 (.t 19)⟩,[19]⟩,⟨⟨some 21,none,.bin .neq (.t 12) (.t 20) false .pint⟩,[12,20]⟩],[]⟩ [],.code c72_9,.code c72_20],[],.run,false,none⟩,x::cs,hp (h.n+1+1+1+1) h.t [(h.n+1+1+1,some (cl (Ax data++Ax (List.take 60 (List.drop 0 ex))))),(h.n+1+1,none),(h.n+1+1,some (cl (Ax data))),(h.n+1,some (cl [])),(h.n,some (cl [.int .u8 ((0:Nat):Int),.int .i64 ((0:Nat):Int),.int .u64 ((0:Nat):Int),.int .u64 ((0:Nat):Int),.int .i64 ((0:Nat):Int),.int .i64 ((0:Nat):Int)]))]⟩:=by
  intro lq ht
  refine Oc L ht ?_
  refine cal (c:=Y1 L X f4 (by rw [List.length_append];omega) (by omega)) (g:=?_)
  rintro _ rfl
  by_cases hc:leF ex 60 4=crcB (data++ex.take 60)
  ·refine wk ?_
   refine W8 L (fun a ha=>?_)
   simp only [List.mem_cons,List.not_mem_nil,or_false]at ha
   rcases ha with rfl|rfl|rfl|rfl|rfl|rfl
   all_goals
    refine wk ?_
    refine cal (c:=Io L X lkb hl1 (by omega) (by omega) (by omega)) (g:=?_)
    rintro _ rfl
    refine wk ?_
    refine cal (c:=Io L X lkb hl1 (by omega) (by omega) (by omega)) (g:=?_)
    rintro _ rfl
    refine wk ?_
    refine cal (c:=Io L X lkb hl1 (by omega) (by omega) (by omega)) (g:=?_)
    rintro _ rfl
    refine wk ?_
    refine cal (c:=Io L X lkb hl1 (by omega) (by omega) (by omega)) (g:=?_)
    rintro _ rfl
    refine wk ?_
    refine cal (c:=Io L X lkb hl1 (by omega) (by omega) (by omega)) (g:=?_)
    rintro _ rfl
    (repeat(first|(apply Au rfl rfl;exact opv)|(apply p_0;exact chk)))
    (apply Aan L rfl rfl rfl rfl rfl rfl rfl;exact lkp;rfl)
    refine main _ _ (h.n+1+1+1+1) hc ?_ ?_ ?_ (by omega) tsb
    ·exact N4 rfl lkp
    ·exact N4 rfl lkp
    ·exact kps
  ·refine wk ?_
   refine ret X.f72 ?_
   have hD:Jn ex data=none:=if_neg fun q=>hc q.1
   rw [hD]
   exact⟨⟨10,rfl,by simp,by omega⟩,kps⟩
 refine Lq L ?_ ?_
 ·refine wk ?_
  refine cal (c:=Io L X lkb hl1 (by omega) (by omega) (by omega)) (g:=?_)
  rintro _ rfl
  refine wk ?_
  (apply B5 L rfl rfl;exact M0 rfl rfl (BS.slr (k:=by exact lkb) hl2) (by omega) (by omega))
  refine wk ?_
  (apply B5 L rfl rfl;exact C2 rfl rfl (BS.slr (k:=Fs a2) hl2) (BS.slr (k:=BS.part (a:=0) (n:=60) (k:=by exact lkb) (by omega)) ht60) (by omega) (by omega) (Ec _))
  refine wk ?_
  exact crcS _ tsb
 ·refine wk ?_
  refine cal (c:=Io L X lkb hl1 (by omega) (by omega) (by omega)) (g:=?_)
  rintro _ rfl
  refine wk ?_
  (apply B5 L rfl rfl;exact M0 rfl rfl (BS.slr (k:=by exact lkb) hl2) (by omega) (by omega))
  refine wk ?_
  (apply B5 L rfl rfl;exact C2 rfl rfl (BS.slr (k:=Fs a2) hl2) (BS.slr (k:=BS.part (a:=0) (n:=60) (k:=by exact lkb) (by omega)) ht60) (by omega) (by omega) (Ec _))
  refine wk ?_
  exact crcS _ tsb
end
end
theorem M3 (l:List Nat)(n:Nat)(h:n≤l.length):l.take n=(List.range n).map fun i=>l.getD i 0:=by
 apply List.ext_getElem?
 intro i
 by_cases hi:i<n
 ·rw [List.getElem?_take_of_lt hi,List.getElem?_map,List.getElem?_range hi,List.getElem?_eq_getElem (by omega)]
  simp [List.getD_eq_getElem?_getD,show i<l.length by omega]
 ·rw [List.getElem?_take_eq_none (by omega),List.getElem?_eq_none (by simp;omega)]
theorem J8 (l:List Nat)(a i:Nat):(l.drop a).getD i 0=l.getD (a+i) 0:=by
 simp only [List.getD_eq_getElem?_getD,List.getElem?_drop]
theorem T1 {bs:List Nat}{a n:Nat}:zer bs a n=true↔ ∀i,i<n→bs.getD (a+i) 0=0:=by
 constructor
 ·intro h i hi
  unfold zer at h
  rw [List.all_eq_true]at h
  exact of_decide_eq_true (h i (List.mem_range.2 hi))
 ·exact ur
theorem Dt (l:List Nat)(a m n:Nat):(l.drop a).take (m+n)=(l.drop a).take m++(l.drop (a+m)).take n:=by
 rw [List.take_add,List.drop_drop]
theorem cg (ex:List Nat):ex.take 60=ex.take 8++(ex.drop 8).take 8++(ex.drop 16).take 8++(ex.drop 24).take 4++(ex.drop 28).take 4++(ex.drop 32).take 4++(ex.drop 36).take 24:=by
 have h0:ex.take 60=(ex.drop 0).take (8+52):=rfl
 rw [h0,Dt,show(52:Nat)=8+44 from rfl,Dt,show(44:Nat)=8+36 from rfl,Dt,show(36:Nat)=4+32 from rfl,Dt,show(32:Nat)=4+28 from rfl,Dt,show(28:Nat)=4+24 from rfl,Dt]
 simp only [List.append_assoc,List.drop_zero,Nat.zero_add]
theorem Qm {ex:List Nat}(ha:AllB ex)(hl:ex.length=64):ex.take 60=Ft (El ex)↔leF ex 0 4=1280591427∧zer ex 5 3=true∧zer ex 36 24=true:=by
 have u1:u64 (El ex).sec=leF ex 24 4:=Tw (Nat.lt_trans (Dc ha 4 24) (by decide))
 have u2:u64 (El ex).idx=leF ex 28 4:=Tw (Nat.lt_trans (Dc ha 4 28) (by decide))
 have u3:u64 (El ex).len=leF ex 32 4:=Tw (Nat.lt_trans (Dc ha 4 32) (by decide))
 have e1:(El ex).seq=leF ex 8 8:=rfl
 have e2:(El ex).prev=leF ex 16 8:=rfl
 have e3:(El ex).kind=ex.getD 4 0:=rfl
 have key:ex.take 60=Ft (El ex)↔ex.take 8=mag (ex.getD 4 0)∧(ex.drop 36).take 24=List.replicate 24 0:=by
  unfold Ft
  rw [cg,u1,u2,u3,e1,e2,e3,Fc ha 8 8 (by omega),Fc ha 8 16 (by omega),Fc ha 4 24 (by omega),Fc ha 4 28 (by omega),Fc ha 4 32 (by omega)]
  constructor
  ·intro h
   obtain⟨q1,q2⟩:=List.append_inj h (by simp [mag];omega)
   obtain⟨q3,-⟩:=List.append_inj q1 (by simp [mag];omega)
   obtain⟨q4,-⟩:=List.append_inj q3 (by simp [mag];omega)
   obtain⟨q5,-⟩:=List.append_inj q4 (by simp [mag];omega)
   obtain⟨q6,-⟩:=List.append_inj q5 (by simp [mag];omega)
   obtain⟨q7,-⟩:=List.append_inj q6 (by simp [mag];omega)
   exact⟨q7,q2⟩
  ·rintro⟨h1,h2⟩
   rw [h1,h2]
 rw [key]
 have b0:=C0 ha 0
 have b1:=C0 ha 1
 have b2:=C0 ha 2
 have b3:=C0 ha 3
 have hm:ex.take 8=mag (ex.getD 4 0)↔leF ex 0 4=1280591427∧zer ex 5 3=true:=by
  rw [M3 ex 8 (by omega),T1]
  show [ex.getD 0 0,ex.getD 1 0,ex.getD 2 0,ex.getD 3 0,ex.getD 4 0,ex.getD 5 0,ex.getD 6 0,ex.getD 7 0]= [67,70,84,76,ex.getD 4 0,0,0,0]↔ex.getD 0 0+256*(ex.getD 1 0+256*(ex.getD 2 0+256*(ex.getD 3 0+256*0)))=1280591427∧_
  generalize ex.getD 0 0=x0 at*
  generalize ex.getD 1 0=x1 at*
  generalize ex.getD 2 0=x2 at*
  generalize ex.getD 3 0=x3 at*
  constructor
  ·intro h
   simp only [List.cons.injEq,and_true,true_and]at h
   obtain⟨h0,h1,h2,h3,h5,h6,h7⟩:=h
   refine⟨by omega,fun i hi=>?_⟩
   rcases i with _|_|_|i
   ·exact h5
   ·exact h6
   ·exact h7
   ·omega
  ·rintro⟨h1,h2⟩
   have:=h2 0 (by omega)
   have:=h2 1 (by omega)
   have:=h2 2 (by omega)
   simp only [List.cons.injEq,and_true,true_and]
   refine⟨by omega,by omega,by omega,by omega,?_,?_,?_⟩ <;> assumption
 have hz:(ex.drop 36).take 24=List.replicate 24 0↔zer ex 36 24=true:=by
  rw [M3 _ 24 (by rw [List.length_drop];omega),T1]
  constructor
  ·intro h i hi
   have:=congrArg (fun l=>l[i]?) h
   simp only [List.getElem?_map,List.getElem?_range hi,List.getElem?_replicate_of_lt hi,Option.map_some,Option.some.injEq,J8]at this
   exact this
  ·intro h
   apply List.ext_getElem?
   intro i
   by_cases hi:i<24
   ·rw [List.getElem?_map,List.getElem?_range hi,List.getElem?_replicate_of_lt hi,Option.map_some,J8,h i hi]
   ·rw [List.getElem?_eq_none (by simp;omega),List.getElem?_eq_none (by simp;omega)]
 rw [hm,hz,and_assoc]
theorem cj {ex data:List Nat}(ha:AllB ex)(hl:ex.length=64)(h1:leF ex 60 4=crcB (data++ex.take 60))(h2:leF ex 0 4=1280591427)(h3:zer ex 5 3=true)(h4:zer ex 36 24=true)(h5:(El ex).Valid):Jn ex data=some (El ex):=
 if_pos ⟨h1,h5,(Qm ha hl).2 ⟨h2,h3,h4⟩⟩
theorem Ho {ex data:List Nat}(ha:AllB ex)(hl:ex.length=64)(h: ¬(leF ex 60 4=crcB (data++ex.take 60)∧leF ex 0 4=1280591427∧zer ex 5 3=true∧zer ex 36 24=true∧(El ex).Valid)):Jn ex data=none:=
 if_neg fun q=>h (let⟨a,b,c⟩:=(Qm ha hl).1 q.2.2;⟨q.1,a,b,c,q.2.1⟩)
theorem Co {α: Type}{f:α→List AV}{k:Nat}: ∀(l:List α),(∀x∈l,(f x).length=k)→(l.flatMap f).length=l.length*k
 | [],_=>by simp
 |x::r,h=>by
  rw [List.flatMap_cons,List.length_append,Co r (fun y hy=>h y (List.mem_cons_of_mem _ hy)),h x (List.mem_cons_self ..),List.length_cons,Nat.add_mul];omega
theorem Dd {α: Type}{f:α→List AV}{k:Nat}: ∀(l:List α),(∀x∈l,(f x).length=k)→ ∀(i j:Nat) (x:α),l[i]?=some x→j<k→(l.flatMap f)[i*k+j]?=(f x)[j]?
 | [],_,i,j,x,h,_=>by simp at h
 |y::r,hl,i,j,x,h,hj=>by
  have hy:=hl y (List.mem_cons_self ..)
  rw [List.flatMap_cons]
  cases i with
  |zero=>
   simp only [List.getElem?_cons_zero,Option.some.injEq]at h
   subst h
   rw [Nat.zero_mul,Nat.zero_add,List.getElem?_append_left (by omega)]
  |succ i=>
   rw [List.getElem?_cons_succ]at h
   rw [List.getElem?_append_right (by rw [hy,Nat.add_mul];omega),hy,show(i+1)*k+j - k=i*k+j by rw [Nat.add_mul];omega]
   exact Dd r (fun z hz=>hl z (List.mem_cons_of_mem _ hz)) i j x h hj
theorem Bj {α: Type}{f:α→List AV}{k:Nat}(l:List α)(h: ∀x∈l,(f x).length=k)(i:Nat)(x:α)(hx:l[i]?=some x):i*k+k≤(l.flatMap f).length∧((l.flatMap f).drop (i*k)).take k=f x:=by
 have hi:=(List.getElem?_eq_some_iff.1 hx).1
 have hm:x∈l:=List.mem_of_getElem? hx
 have h1:i*k+k≤(l.flatMap f).length:=by
  rw [Co l h]
  have:(i+1)*k≤l.length*k:=Nat.mul_le_mul_right k hi
  rw [Nat.add_mul]at this;omega
 refine⟨h1,?_⟩
 apply List.ext_getElem?
 intro j
 by_cases hj:j<k
 ·rw [List.getElem?_take_of_lt hj,List.getElem?_drop,Dd l h i j x hx hj]
 ·rw [List.getElem?_take_eq_none (by omega),List.getElem?_eq_none (by rw [h x hm];omega)]
structure PgE where
 at_:Nat
 s:Sp
 data:List Nat
def Ed (D:Dv)(i j:Nat):Option PgE:=
 if D.off=true then none
 else if((D.bl i).pg j).st=2∨((D.bl i).pg j).st=3 then(Jn (((D.bl i).pg j).b.drop D.sz) (((D.bl i).pg j).b.take D.sz)).map fun s=>⟨i*D.P+j,s,((D.bl i).pg j).b.take D.sz⟩
 else none
def Ej (D:Dv)(i n:Nat):List PgE:=(List.range n).filterMap (Ed D i)
def C3 (D:Dv)(n:Nat):List PgE:=(List.range n).flatMap fun i=>Ej D i D.P
def Ab (D:Dv):List PgE:=C3 D D.nb
theorem Kz (D:Dv)(i n:Nat):Ej D i (n+1)=Ej D i n++(Ed D i n).toList:=by
 unfold Ej
 rw [List.range_succ,List.filterMap_append]
 cases h:Ed D i n <;> simp [h]
theorem Ip (D:Dv)(n:Nat):C3 D (n+1)=C3 D n++Ej D n D.P:=by
 unfold C3
 rw [List.range_succ,List.flatMap_append];simp
theorem Vp {D:Dv}(ok:D.Ok){i:Nat}(hi:i<D.nb): ∀n,n≤D.P→(D.bl i).nx≤n→Ej D i n=Ej D i (D.bl i).nx
 |0,_,h=>by rw [show(D.bl i).nx=0 by omega]
 |n+1,hn,h=>by
  by_cases e:(D.bl i).nx=n+1
  ·rw [e]
  ·rw [Kz,Vp ok hi n (by omega) (by omega)]
   have hst:=(ok.bl i hi).hi n (by omega) (by omega)
   have:Ed D i n=none:=by
    unfold Ed
    rw [hst]
    by_cases ho:D.off=true
    ·rw [if_pos ho]
    ·rw [if_neg ho,if_neg (by omega)]
   rw [this];simp
theorem cm {D:Dv}(h:D.off=true)(i n:Nat):Ej D i n= []:=by
 unfold Ej
 rw [List.filterMap_eq_nil_iff]
 intro j _
 unfold Ed;rw [if_pos h]
theorem Jo {D:Dv}(h:D.off=true):Ab D= []:=by
 unfold Ab C3
 simp only [cm h]
 simp
def peC (sz:Nat)(x:PgE×Nat):List AV:=spC x.1.s++ [.int .i64 ((x.1.at_:Nat):Int),.slc x.2 0 sz (Ac+1)]
def peR (sz:Nat)(x:PgE×Nat):List AV:= .int .i64 ((x.1.at_:Nat):Int)::(spC x.1.s++ [.slc x.2 0 sz (Ac+1)])
structure PL (κ: Nat→Nat)(h:H)(sz:Nat)(f:Nat→PgE×Nat→List AV)(v:AV)(L:List PgE):Prop where
 ex: ∃l:List (PgE×Nat),l.map (·.1)=L∧(∀x∈l,BS h x.2 0 x.1.data∧κ x.2=0∧x.1.data.length=sz)∧((l= []∧v= .nils)∨(l≠[]∧ ∃b,v= .slc b 0 l.length (Ac+8)∧Bk h b (l.flatMap (f sz))∧κ b=0))
theorem PL.fw {κ κ':Nat→Nat}{h h':H}{sz:Nat}{f:Nat→PgE×Nat→List AV}{v:AV}{L:List PgE}(q:PL κ h sz f v L)(w:Fw κ h κ' h'):PL κ' h' sz f v L:=by
 obtain⟨l,h1,h2,h3⟩:=q.ex
 refine⟨l,h1,fun x hx=>?_,?_⟩
 ·obtain⟨a,b,c⟩:=h2 x hx
  exact⟨w.bs a b,(w.col _ a.lt_n).trans b,c⟩
 ·rcases h3 with h3|⟨h4,b,h5,h6,h7⟩
  ·exact .inl h3
  ·exact .inr ⟨h4,b,h5,w.bk h6 h7,(w.col _ h6.lt).trans h7⟩
theorem PL.nil (κ: Nat→Nat)(h:H)(sz:Nat)(f:Nat→PgE×Nat→List AV):PL κ h sz f .nils []:=⟨[],rfl,fun x hx=>(by cases hx),.inl ⟨rfl,rfl⟩⟩
theorem DevR.recol {κ κ':Nat→Nat}{h:H}{d:Nat}{D:Dv}(q:DevR κ h d D)(hc: ∀b,b<h.n→κ' b=κ b):DevR κ' h d D:=by
 obtain⟨ok,fm,bb,cb,r⟩:=q
 have f:Fw κ h κ' h:=⟨Nat.le_refl _,fun _ _ _=>rfl,hc⟩
 refine⟨ok,fm,bb,cb,r.dk,(hc _ r.dk.lt).trans r.dcol,r.fk,(hc _ r.fk.lt).trans r.fcol,r.bk,(hc _ r.bk.lt).trans r.bcol,r.blen,r.nb,fun i hi=>?_⟩
 obtain⟨pn,c,hr⟩:=r.rows i hi
 exact⟨pn,c,hr.fw f rfl⟩
theorem DevR.ext {κ: Nat→Nat}{h h':H}{d:Nat}{D:Dv}(q:DevR κ h d D)(k:K0 h h'):DevR (Go.Ev.ext κ h.n) h' d D:=(q.recol fun b hb=>B1 hb).k0 k
abbrev Ent:=Int×Int
def An (e:Ent):List AV:= [.int .i64 e.1,.int .i64 e.2]
theorem B4 (l:List Ent): ∀x∈l,(An x).length=2:=fun _ _=>rfl
structure EntR (κ: Nat→Nat)(h:H)(v:AV)(l:List Ent):Prop where
 ex:(l= []∧v= .nils)∨(l= []∧ ∃a,v= .opq (.slice (some a) 0 0))∨ ∃b cap,v= .slc b 0 l.length cap∧Rk h b (l.flatMap An)∧κ b=0
def Ent.Ok (e:Ent):Prop:=0≤e.1∧e.1≤4294967294∧ -1≤e.2∧e.2≤4294967294
instance (e:Ent):Decidable e.Ok:=by unfold Ent.Ok;infer_instance
def Ke (e:Ent):List Nat:=leb 4 e.1.toNat++leb 4 (e.2+1).toNat
def K1 (sz:Nat)(l:List Ent):List Nat:=leb 4 l.length++l.flatMap Ke++List.replicate (sz - 4 - 8*l.length) 0
def encE (sz:Nat)(l:List Ent):Nat:=if∀e∈l,e.Ok then(if(sz - 4) / 8<l.length then 5 else 0)else 2
theorem lx (e:Ent):(Ke e).length=8:=by simp [Ke,Do]
theorem M4: ∀(l:List Ent),(l.flatMap Ke).length=8*l.length
 | []=>rfl
 |e::r=>by rw [List.flatMap_cons,List.length_append,lx,M4 r,List.length_cons];omega
theorem Xo (l:List Ent)(i:Nat)(e:Ent)(h:l[i]?=some e):(l.take (i+1)).flatMap Ke=(l.take i).flatMap Ke++(leb 4 e.1.toNat++leb 4 (e.2+1).toNat):=by
 rw [List.take_add_one,h,List.flatMap_append];simp [Ke]
theorem AllB.flat {α: Type}{f:α→List Nat}: ∀(l:List α),(∀x,AllB (f x))→AllB (l.flatMap f)
 | [],_=>by intro i hi;exact absurd hi (Nat.not_lt_zero i)
 |x::r,h=>by rw [List.flatMap_cons];exact(h x).app (AllB.flat r h)
theorem Vq (sz:Nat)(l:List Ent):AllB (K1 sz l):=((Fb _ _).app (AllB.flat l fun e=>(Fb _ _).app (Fb _ _))).app (AllB.rep (by omega))
theorem Vr {sz:Nat}{l:List Ent}(h:4+8*l.length≤sz):(K1 sz l).length=sz:=by
 unfold K1;rw [List.length_append,List.length_append,Do,M4,List.length_replicate];omega
structure St where
 blk:Int
 er:Bool
 cut:Bool
 byt:Int
 sp:Sp
 dat:Nat
 ents:List Ent
def stC (x:St×AV):List AV:= [.int .i64 x.1.blk,.bool x.1.er,.bool x.1.cut,.int .i64 x.1.byt,.int .u8 ((x.1.sp.kind:Nat):Int),.int .i64 x.1.sp.sec,.int .u64 ((x.1.sp.seq:Nat):Int),.int .u64 ((x.1.sp.prev:Nat):Int),.int .i64 x.1.sp.idx,.int .i64 x.1.sp.len,.int .u8 ((x.1.dat:Nat):Int),x.2]
theorem Ow (l:List (St×AV)): ∀x∈l,(stC x).length=12:=fun _ _=>rfl
structure StR (κ: Nat→Nat)(h:H)(v:AV)(l:List (St×AV)):Prop where
 el: ∀x∈l,EntR κ h x.2 x.1.ents∧x.1.sp.Ok∧x.1.dat<256
 ex:(l= []∧v= .nils)∨ ∃b cap,v= .slc b 0 l.length cap∧Rk h b (l.flatMap stC)∧κ b=0
theorem Fw.rk {κ κ':Nat→Nat}{h h':H}{b:Nat}{c:List AV}(f:Fw κ h κ' h')(k:Rk h b c)(hc:κ b=0):Rk h' b c:=k.keep f.n (f.old b k.lt hc)
theorem EntR.fw {κ κ':Nat→Nat}{h h':H}{v:AV}{l:List Ent}(q:EntR κ h v l)(f:Fw κ h κ' h'):EntR κ' h' v l:=by
 refine⟨?_⟩
 rcases q.ex with h1|h1|⟨b,cap,h1,h2,h3⟩
 ·exact .inl h1
 ·exact .inr (.inl h1)
 ·exact .inr (.inr ⟨b,cap,h1,f.rk h2 h3,(f.col b h2.lt).trans h3⟩)
theorem StR.fw {κ κ':Nat→Nat}{h h':H}{v:AV}{l:List (St×AV)}(q:StR κ h v l)(f:Fw κ h κ' h'):StR κ' h' v l:=by
 refine⟨fun x hx=>let⟨a,b⟩:=q.el x hx;⟨a.fw f,b⟩,?_⟩
 rcases q.ex with h1|⟨b,cap,h1,h2,h3⟩
 ·exact .inl h1
 ·exact .inr ⟨b,cap,h1,f.rk h2 h3,(f.col b h2.lt).trans h3⟩
def rz (g0 g1 g2 g3:Int):List AV:= [.int .i64 g0,.int .i64 g1,.int .i64 g2,.int .i64 g3]
theorem B6 {l:List (Nat×Option AV)}{h:H}{x:O}{b o k:Nat}{c lv:List AV}(hb:Rk h b c)(h1:o+k≤c.length∧(c.drop o).take k=lv)(e:evO l x=some (.ptr b o)):XV (.loadN k x) h l (.agg lv) h:=by
 refine⟨?_⟩
 simp only [exec,Ag,Ad e,Xj hb h1.1,h1.2]
structure Dv.Same (D D':Dv):Prop where
 nb:D'.nb=D.nb
 P:D'.P=D.P
 sz:D'.sz=D.sz
 en:D'.en=D.en
 n:D'.n≤D.n+1
theorem Dv.erase_same (D:Dv)(i:Int):D.Same (D.erase i).1:=by
 unfold Dv.erase
 split
 ·split
  ·exact⟨rfl,rfl,rfl,rfl,Nat.le_succ _⟩
  ·split
   ·exact⟨rfl,rfl,rfl,rfl,Nat.le_succ _⟩
   ·split
    ·exact⟨rfl,rfl,rfl,rfl,Nat.le_refl _⟩
    ·exact⟨rfl,rfl,rfl,rfl,Nat.le_refl _⟩
 ·exact⟨rfl,rfl,rfl,rfl,Nat.le_succ _⟩
theorem Dv.prog_same (D:Dv)(i:Int)(all:List Nat):D.Same (D.prog i all).1:=by
 unfold Dv.prog
 split
 ·split
  ·exact⟨rfl,rfl,rfl,rfl,Nat.le_succ _⟩
  ·exact⟨rfl,rfl,rfl,rfl,Nat.le_refl _⟩
 ·exact⟨rfl,rfl,rfl,rfl,Nat.le_succ _⟩
theorem DevC.cnt {κ: Nat→Nat}{h h':H}{d fm bb:Nat}{D D':Dv}{cb:List AV}(q:DevC κ h d D fm bb cb)(hb:Bk h' d (dvC D' fm bb))(k:Kp (fun i=>i=d) h h')(h1:D'.nb=D.nb)(h2:D'.P=D.P)(h3:D'.bl=D.bl):DevC κ h' d D' fm bb cb:=by
 have f:Fw κ h κ h':=k.fw fun b _ e=>by subst e;rw [q.dcol];omega
 refine⟨hb,q.dcol,Lo k (fun e=>?_) q.fk,q.fcol,A5 k (fun e=>?_) q.bk,q.bcol,by rw [h1];exact q.blen,by rw [h1];exact q.nb,fun i hi=>?_⟩
 ·have:=q.fcol;have:=q.dcol;subst e;omega
 ·have:=q.bcol;have:=q.dcol;subst e;omega
 ·rw [h1]at hi
  obtain⟨pn,c,hr⟩:=q.rows i hi
  refine⟨pn,c,?_⟩
  rw [h2,h3]
  exact hr.fw f (k.old pn hr.row.k.lt fun e=>by have:=hr.row.col;have:=q.dcol;subst e;omega)
theorem DevC.chd {κ: Nat→Nat}{h h':H}{d fm bb:Nat}{D:Dv}{cb:List AV}(q:DevC κ h d D fm bb cb)(k:Kp (fun i=>i=d) h h'):Ch κ h κ h':=
 ⟨k.mono fun b e=>by subst e;rw [q.dcol];omega,fun _ _=>rfl⟩
theorem Dv.Ok.cutS {D:Dv}(ok:D.Ok){b:Nat}(hb:b≤D.sz+64):Dv.Ok {D with cut:=(D.n:Nat),byt:=b,off:=false}:=
 ⟨⟨ok.g.nb,ok.g.P,ok.g.sz,ok.g.en⟩,ok.n,hb,by have:=ok.n;show -1≤((D.n:Nat):Int)∧((D.n:Nat):Int)<1000;omega,fun i hi=>let a:=ok.bl i hi;⟨a.nx,a.lo,a.hi,a.pg,a.er⟩⟩
theorem Dv.Ok.on {D:Dv}(ok:D.Ok):Dv.Ok {D with cut:= -1,off:=false}:=
 ⟨⟨ok.g.nb,ok.g.P,ok.g.sz,ok.g.en⟩,ok.n,ok.byt,by show(-1:Int)≤ -1∧(-1:Int)<1000;omega,fun i hi=>let a:=ok.bl i hi;⟨a.nx,a.lo,a.hi,a.pg,a.er⟩⟩
theorem Ch.out {κ κ':Nat→Nat}{h0 h h':H}(q:Ch κ h κ' h')(w:K0 h0 h)(z: ∀b,b<h0.n→κ b=0):K0 h0 h':=
 Kp.trS q.k (fun i hi hs=>by have:=z i hi;omega) w
theorem Ch.z {κ κ':Nat→Nat}{h0 h h':H}(q:Ch κ h κ' h')(w:K0 h0 h)(z: ∀b,b<h0.n→κ b=0): ∀b,b<h0.n→κ' b=0:=fun b hb=>(q.col b (Nat.lt_of_lt_of_le hb w.n)).trans (z b hb)
theorem Fz {κ: Nat→Nat}{n m:Nat}(z: ∀b,b<m→κ b=0): ∀b,b<m→ext κ n b=0:=fun b hb=>uo fun _=>z b hb
theorem RDev.cnt {κ: Nat→Nat}{h:H}{D D':Dv}{fb pb eb ecap:Nat}(q:RDev κ h D (rvC D fb pb eb ecap))(ok:D'.Ok)(h1:D'.nb=D.nb)(h2:D'.P=D.P)(h3:D'.bl=D.bl):RDev κ h D' (rvC D' fb pb eb ecap):=by
 obtain⟨_,fb1,pb1,eb1,ecap1,cp,ce,e,hec,r⟩:=q
 simp only [rvC,rvL,List.cons.injEq,AV.slc.injEq,true_and,and_true]at e
 obtain⟨rfl,rfl,rfl,rfl⟩:=e
 exact⟨ok,fb,pb,eb,ecap,cp,ce,rfl,by rw [h1];exact hec,r.same h1 h2 h3⟩
def z11:List AV:= [.int .i64 ((0:Nat):Int),.int .i64 ((0:Nat):Int),.int .i64 ((0:Nat):Int),.int .i64 ((0:Nat):Int),.nils,.nils,.nils,.int .i64 ((0:Nat):Int),.int .i64 ((0:Nat):Int),.int .i64 ((0:Nat):Int),.bool false]
structure BI (κ: Nat→Nat)(h:H)(a2 a5 a9 d:Nat)(gl:List AV)(D D2:Dv)(rv:List AV)(v:AV)(l:List (St×AV)):Prop where
 dv:DevR κ h d D
 rd:RDev κ h D2 rv
 k2:Bk h a2 gl
 k5:Bk h a5 z11
 k9:Bk h a9 rv
 c2:κ a2=100
 c5:κ a5=100
 c9:κ a9=100
 st:StR κ h v l
section
variable {κ κ':Nat→Nat}{h h':H}{a2 a5 a9 d:Nat}{gl:List AV}{D D' D2 D2':Dv}{rv rv':List AV}{v:AV}{l:List (St×AV)}
theorem BI.k0 (q:BI κ h a2 a5 a9 d gl D D2 rv v l)(k:K0 h h'):BI (ext κ h.n) h' a2 a5 a9 d gl D D2 rv v l:=
 ⟨q.dv.ext k,q.rd.fw (K0.fwe k),Aj k q.k2,Aj k q.k5,Aj k q.k9,(B1 q.k2.lt).trans q.c2,(B1 q.k5.lt).trans q.c5,(B1 q.k9.lt).trans q.c9,q.st.fw (K0.fwe k)⟩
theorem BI.col (q:BI κ h a2 a5 a9 d gl D D2 rv v l)(k:K0 h h')(hc: ∀b,b<h.n→κ' b=κ b):BI κ' h' a2 a5 a9 d gl D D2 rv v l:=
 have f:Fw κ h κ' h':=⟨k.n,fun b hb _=>k.old b hb fun f=>f,hc⟩
 ⟨(q.dv.recol hc).k0 k,q.rd.fw f,Aj k q.k2,Aj k q.k5,Aj k q.k9,(hc _ q.k2.lt).trans q.c2,(hc _ q.k5.lt).trans q.c5,(hc _ q.k9.lt).trans q.c9,q.st.fw f⟩
theorem BI.ch (q:BI κ h a2 a5 a9 d gl D D2 rv v l)(c:Ch κ h κ' h')(r:DevR κ' h' d D'):BI κ' h' a2 a5 a9 d gl D' D2 rv v l:=
 ⟨r,q.rd.fw c.fw,A5 c.k (by rw [q.c2];omega) q.k2,A5 c.k (by rw [q.c5];omega) q.k5,A5 c.k (by rw [q.c9];omega) q.k9,
   (c.col _ q.k2.lt).trans q.c2,(c.col _ q.k5.lt).trans q.c5,(c.col _ q.k9.lt).trans q.c9,q.st.fw c.fw⟩
theorem BI.w9 {n:Nat}{t:T Blk}{lh:List (Nat×Option Blk)}(q:BI κ (hp n t lh) a2 a5 a9 d gl D D2 rv v l)(r:RDev κ (hp n t lh) D2' rv')(h1:a2≠a9)(h2:a5≠a9):
  BI κ (hp n t ((a9,some (cl rv'))::lh)) a2 a5 a9 d gl D D2' rv' v l:=by
 have k:Kp (fun b=>b=a9) (hp n t lh) (hp n t ((a9,some (cl rv'))::lh)):=⟨Nat.le_refl _,fun b _ hb=>D6 _ _ _ _ hb⟩
 have k1:Kp (fun b=>100≤κ b) (hp n t lh) (hp n t ((a9,some (cl rv'))::lh)):=k.mono fun b e=>by subst e;rw [q.c9];exact Nat.le_refl _
 have f:Fw κ (hp n t lh) κ (hp n t ((a9,some (cl rv'))::lh)):=k.fw fun b _ e=>by subst e;rw [q.c9];omega
 exact⟨q.dv.kb k1,r.fw f,qs h1 q.k2,qs h2 q.k5,uj q.k9,q.c2,q.c5,q.c9,q.st.fw f⟩
end
structure BJ (h0:H)(κ: Nat→Nat)(h:H)(a9 d:Nat)(gl:List AV)(g2 i:Nat)(D:Dv)(rv:List AV)(v:AV)(l:List (St×AV)):Prop where
 q:BI κ h h0.n (h0.n+1) a9 d gl D D rv v l
 n:D.n≤i
 off:D.off=false
 sz:D.sz=g2
 k:K0 h0 h
 z: ∀b,b<h0.n→κ b=0
def BT (i a2 a9 d:Nat)(v:AV):List (Nat×Option AV):= [(11,some (.int .i64 ((i:Nat):Int))),(1,some v),(2,some (.ptr a2 0)),(5,some (.ptr (a2+1) 0)),(7,some (.ptr d 0)),(9,some (.ptr a9 0))]
theorem EntR.plain {κ: Nat→Nat}{h:H}{v:AV}{l:List Ent}(k:EntR κ h v l):Az v=true:=by
 rcases k.ex with⟨_,rfl⟩|⟨_,_,rfl⟩|⟨b,cap,rfl,_⟩ <;> rfl
structure PLo (C:Nat→Prop)(lo:Nat)(h:H)(sz:Nat)(f:Nat→PgE×Nat→List AV)(v:AV)(L:List PgE):Prop where
 ex: ∃l:List (PgE×Nat),l.map (·.1)=L∧(∀x∈l,BS h x.2 0 x.1.data∧C x.2∧x.1.data.length=sz)∧((l= []∧v= .nils)∨(l≠[]∧ ∃b,v= .slc b 0 l.length (Ac+8)∧Bk h b (l.flatMap (f sz))∧lo≤b∧ ∀x∈l,x.2≠b))
section
variable {C:Nat→Prop}{lo:Nat}{h h':H}{sz:Nat}{f:Nat→PgE×Nat→List AV}{v:AV}{L:List PgE}
theorem PLo.nil:PLo C lo h sz f .nils []:=⟨[],rfl,fun x hx=>(by cases hx),.inl ⟨rfl,rfl⟩⟩
theorem PLo.k0 (q:PLo C lo h sz f v L)(k:K0 h h'):PLo C lo h' sz f v L:=by
 obtain⟨l,h1,h2,h3⟩:=q.ex
 refine⟨l,h1,fun x hx=>?_,?_⟩
 ·obtain⟨a,b,c⟩:=h2 x hx
  exact⟨a.k0 k,b,c⟩
 ·rcases h3 with h3|⟨h4,b,h5,h6,h7,h8⟩
  ·exact .inl h3
  ·exact .inr ⟨h4,b,h5,Aj k h6,h7,h8⟩
theorem PLo.pl {κ: Nat→Nat}(q:PLo C lo h sz f v L)(hC: ∀b,C b→κ b=0)(hlo: ∀b,lo≤b→κ b=0):PL κ h sz f v L:=by
 obtain⟨l,h1,h2,h3⟩:=q.ex
 refine⟨l,h1,fun x hx=>?_,?_⟩
 ·obtain⟨a,b,c⟩:=h2 x hx
  exact⟨a,hC _ b,c⟩
 ·rcases h3 with h3|⟨h4,b,h5,h6,h7,h8⟩
  ·exact .inl h3
  ·exact .inr ⟨h4,b,h5,h6,hlo _ h7⟩
theorem PLo.app {l:List (PgE×Nat)}{x:PgE}{db N:Nat}(hm:l.map (·.1)=L)(hl: ∀y∈l,BS h' y.2 0 y.1.data∧C y.2∧y.1.data.length=sz)(hx:BS h' db 0 x.data∧C db∧x.data.length=sz)
  (hb:Bk h' N (l.flatMap (f sz)++f sz (x,db))) (hlo:lo≤N) (hne: ∀y∈l,y.2≠N) (hne2:db≠N):PLo C lo h' sz f (.slc N 0 (l.length+1) (Ac+8)) (L++ [x]):=by
 refine⟨l++ [(x,db)],by rw [List.map_append,hm];rfl,fun y hy=>?_,.inr ⟨by simp,N,by simp,?_,hlo,fun y hy=>?_⟩⟩
 ·rcases List.mem_append.1 hy with hy|hy
  ·exact hl y hy
  ·rw [List.mem_singleton]at hy;subst hy;exact hx
 ·rw [List.flatMap_append];simpa using hb
 ·rcases List.mem_append.1 hy with hy|hy
  ·exact hne y hy
  ·rw [List.mem_singleton]at hy;subst hy;exact hne2
end
def xr (κ: Nat→Nat)(n:Nat):Nat→Nat:=fun b=>if b<n then κ b else 1
theorem xu {κ: Nat→Nat}{n b:Nat}(h:xr κ n b=0):b<n∧κ b=0:=by
 unfold xr at h
 split at h
 ·exact⟨by assumption,h⟩
 ·cases h
theorem K0.fw1 {κ: Nat→Nat}{h h':H}(k:K0 h h'):Fw κ h (xr κ h.n) h':=⟨k.n,fun b hb _=>k.old b hb fun f=>f,fun b hb=>if_pos hb⟩
theorem PL.plain {κ: Nat→Nat}{h:H}{sz:Nat}{f:Nat→PgE×Nat→List AV}{v:AV}{L:List PgE}(q:PL κ h sz f v L):Bi v=some [v]∧Az v=true:=by
 obtain⟨l,h1,h2,⟨rfl,rfl⟩|⟨h4,b,rfl,h6⟩⟩:=q.ex <;> exact⟨rfl,rfl⟩
theorem M5 (D:Dv)(i n:Nat):(Ej D i n).length≤n:=by
 unfold Ej
 exact Nat.le_trans (List.length_filterMap_le _ _) (by rw [List.length_range];exact Nat.le_refl _)
theorem G5 (D:Dv): ∀n,(C3 D n).length≤n*D.P
 |0=>by simp [C3]
 |n+1=>by
  rw [Ip,List.length_append,Nat.add_mul]
  have:=G5 D n
  have:=M5 D n D.P
  omega
structure Gk (h:H)(b:Nat)(x:Blk):Prop where
 e:H.get h b=some x
 lt:b<h.n
section
variable {n:Nat}{t:T Blk}{lh:List (Nat×Option Blk)}{b i:Nat}{c:Blk}{x:Option Blk}{h h':H}{S:Nat→Prop}
theorem Abq (k:Gk h b c):Gk (hp h.n h.t []) b c:=k
theorem xw:Gk (hp (n+1) t ((n,some c)::lh)) n c:=⟨Ha _ _ _ _ _,Nat.lt_succ_self n⟩
theorem Abr (k:Gk (hp n t lh) i c):Gk (hp (n+1) t ((n,x)::lh)) i c:=⟨(D6 _ _ _ _ (Nat.ne_of_lt k.lt)).trans k.e,Nat.lt_succ_of_lt k.lt⟩
theorem Vs (h:b<n):Gk (hp n t ((b,some c)::lh)) b c:=⟨Ha _ _ _ _ _,h⟩
theorem Abs (hne:i≠b)(k:Gk (hp n t lh) i c):Gk (hp n t ((b,x)::lh)) i c:=⟨(D6 _ _ _ _ hne).trans k.e,k.lt⟩
theorem xy (q:Kp S h h')(hs: ¬S i)(k:Gk h i c):Gk h' i c:=⟨q.get k.e k.lt hs,Nat.lt_of_lt_of_le k.lt q.n⟩
theorem ly (q:K0 h h')(k:Gk h i c):Gk h' i c:=xy q (fun f=>f) k
end
theorem lkg {p:Prop}(h:p:=by
 (repeat(first|assumption|exact xw|(apply Abq;first|assumption|(apply ly;assumption))|apply Abr|(refine Vs ?_;omega)|(apply Abs;first|omega|assumption)))):p:=h
section
variable {l:List (Nat×Option AV)}{h:H}{x y:O}{q:Bool}
theorem Qn (a:Int):iEq a a=true:=by rw [E2];exact decide_eq_true rfl
end
section
variable {P:Program}{E:Env}{F:T CFn}{K:T (List AV×AV)}{Q:Nat→AV→Prop}
theorem Y4 {f:Nat}{g:CFn}{args:List AV}{v:AV}(hf:T.get F f=some g)(hm:memo K f args=some v)(h:H):Ct P E F K f args h fun u h'=>u=v∧h'=h:=by
 intro Q x cs hG
 have h1:=hG v h ⟨rfl,rfl⟩
 simp only [C1,hf,Um,hm]
 exact h1
variable {fn nt:Nat}{l:List (Nat×Option AV)}{k:List AItem}{ds:List ADef}{dfd:Bool}{h:H}
variable (L:Lg P E F K)
include L
end
def XCt (P:Program)(E:Env)(f:Nat)(args:List AV)(h:H)(post:AV→H→Prop):Prop:=
 ∀(φ: Phi) (w0 w:World) (args':Array Value),VRs φ args args'.toList→HW E w0 φ h w→
  Calls P f args' w fun e w'=> ∃v v' φ' h',e= .returned v'∧post v h'∧Phi.le φ φ'∧VR φ' v v'∧HW E w0 φ' h' w'
section
variable {P:Program}{E:Env}{F:T CFn}{K:T (List AV×AV)}{Q:Nat→AV→Prop}
theorem sd {w0:World}{cs0:List Frame}{o:Out}{m:Machine}(h:Goes P E w0 cs0 o m)(g:GO P E Q o):
  ∃fn v h fr w φ v',Q fn v∧Steps P m (lone fr cs0 w)∧fr.fn=fn∧fr.leaving P w (.returned v')∧VR φ v v'∧HW E w0 φ h w:=by
 cases o with
 |one c=>
  obtain⟨m',s1,s2⟩:=h
  obtain⟨fn,v,hh,fr,w,φ,v',q,s,r⟩:=g w0 cs0 m' s2
  exact⟨fn,v,hh,fr,w,φ,v',q,s1.trans s,r⟩
 |many l=>
  obtain⟨c,hc,m',s1,s2⟩:=h
  obtain⟨fn,v,hh,fr,w,φ,v',q,s,r⟩:=g c hc w0 cs0 m' s2
  exact⟨fn,v,hh,fr,w,φ,v',q,s1.trans s,r⟩
 |done fn v hh=>
  obtain⟨fr,w,φ,v',s1,s2,s3,s4,s5⟩:=h
  exact⟨fn,v,hh,fr,w,φ,v',g,s1,s2,s3,s4,s5⟩
 |fail=>exact g.elim
variable (L:Lg P E F K)
variable {fn nt:Nat}{tm:T AV}{k:List AItem}{ds:List ADef}{dfd:Bool}{ro:Option Nat}{cs:List AFr}{h:H}
include L
theorem Aa2 {dst:Option Nat}{gd:Option (Nat×Bool)}{op:COp}{r:List CI}{f:Nat}{g0:CFn}{args:List AV}{post:AV→H→Prop}(hw:wanted tm gd=some true)(hx:exec op h tm= .call (.func f) args)(hf:T.get F f=some g0)(c:XCt P E f args h post)
  (g: ∀v h',post v h'→GO P E Q (finish v cs h' ⟨fn,nt,tm,.ops (⟨dst,gd,op⟩::r)::k,ds,.run,dfd,ro⟩)):Good P E Q ⟨⟨fn,nt,tm,.ops (⟨dst,gd,op⟩::r)::k,ds,.run,dfd,ro⟩,cs,h⟩:=by
 intro w0 cs0 m hA
 obtain⟨φ,fr,cs1,w,rfl,hfr,hfs,hr⟩:=hA.ex
 have hfr0:=hfr
 obtain⟨f1,tmps,todo',defers,mode,kind,ro'⟩:=fr
 obtain⟨h1,h2,h3,h4,h5,h6,h7⟩:=hfr
 simp only at h1 h2 h3 h4 h5 h6 h7 hfs hr
 cases h5
 cases h6 with
 |plain ht hi=>
  cases hi with
  | @cons _ i' _ k' hi hk=>
   obtain⟨ops,td,e1,rfl⟩:=hi.ops_inv
   cases td with
   |nil=>cases e1
   |cons j rest=>
    rw [List.map_cons,List.cons.injEq]at e1
    obtain⟨e1,rfl⟩:=e1
    rcases Jf E nt ops j with hbad|⟨o,ho,q1,q2,q3,q4⟩
    ·rw [hbad]at e1;cases e1;cases hx
    ·rw [←e1]at q1 q3 q4
     simp only at q1 q3 q4
     subst q1
     have hwc:=Es (a:=⟨tmps,defers⟩) ht q3 hw
     rw [q4]at hx
     have hnd: ∀c,o.op≠ .defer c:=Fi hx (by intro _ _ e;cases e) (by intro e;cases e)
     have hc:=Pu (P:=P) (w:=w) hr.hr (TR.rho (a:=⟨tmps,defers⟩) ht) hx
     have hm:=Mn (P:=P) (b:=⟨f1,tmps,.inRegion ops (j::rest)::k',defers,.run,kind,ro'⟩) (a:=⟨tmps,defers⟩) (w:=w) (cs:=cs1++cs0) (k:=k') (rest:=rest) ho hwc hnd
     obtain⟨args',a1,a2⟩:=hc
     obtain⟨fn2,cc,p1,p2,p3,p4⟩:=L.hT.fn f g0 hf
     have hen:=hm.1 _ _ _ (a2 fn2 p1 p2 (by rw [p3];rfl))
     obtain⟨e,w',fr',⟨v,v',φ',h',rfl,k1,k2,k3,k4⟩,k5,k6,k7⟩:=c φ w0 w args' a1 hr (⟨f1,tmps,.inRegion ops (j::rest)::k',defers,.run,kind,ro'⟩::(cs1++cs0))
     have hfin:=Kr (P:=P) (m:=lone ⟨f1,tmps,.inRegion ops (j::rest)::k',defers,.run,kind,ro'⟩ (cs1++cs0) w) k4 (hfr0.mono k2) (hfs.mono k2) k3 L.hE (.head hen (Steps.trans k5 (.one (step_leave_returned k7))))
     exact sd hfin (g v h' k1)
end
section
variable {P:Program}{E:Env}{F:T CFn}{K:T (List AV×AV)}{Q:Nat→AV→Prop}
variable {fn nt:Nat}{l:List (Nat×Option AV)}{k:List AItem}{ds:List ADef}{dfd:Bool}{ro:Option Nat}{cs:List AFr}{h:H}{gd:Option (Nat×Bool)}{r:List CI}{x:O}{post:AV→H→Prop}
variable (L:Lg P E F K)
include L
theorem Qo {d:Nat}{f:Nat}{g0:CFn}{a:List O}{va cp args:List AV}(hg:gdO gd l=some true)(e:evO l x=some (.fn (.func f) [] cp))(ha:Fj l a=some va)(hr:Fq va cp=some args)(hf:T.get F f=some g0)(hc:XCt P E f args h post)
  (g: ∀v h',post v h'→Good P E Q ⟨⟨fn,nt,tms ((d,some v)::l),.ops r::k,ds,.run,dfd,ro⟩,cs,hp h'.n h'.t []⟩):
  Good P E Q ⟨⟨fn,nt,tms l,.ops (⟨some d,gd,.callv x a⟩::r)::k,ds,.run,dfd,ro⟩,cs,h⟩:=
 Aa2 L (A1 hg) (E7 e ha hr) hf hc fun v h' p=>Ku L cvb (g v h' p)
end
end Go.Ev
