/- Part of the proof. -/
import Derived.KernelRfl
import Derived.Test.YtgkianlpkdfhkaaGreatQ09
import Derived.Test.YtgkianlpkdfhkaaGreatQ10
import Derived.Test.YtgkianlpkdfhkaaGreatQ11
import Derived.Test.YtgkianlpkdfhkaaGreatQ12
set_option linter.unusedVariables false
set_option linter.unusedSectionVars false
set_option linter.unusedSimpArgs false
set_option maxRecDepth 10000
set_option maxHeartbeats 4000000
namespace Go.Ev.Crc
def poly:Nat:=2197175160
def f1 (x:Nat):Nat:=if x % 2=1 then(x / 2) ^^^ poly else x / 2
def f8 (x:Nat):Nat:=f1 (f1 (f1 (f1 (f1 (f1 (f1 (f1 x)))))))
theorem V2 (x i:Nat):(f1 x).testBit i=(x.testBit (i+1) ^^ (x.testBit 0 && poly.testBit i)):=by
 unfold f1
 have h0:x.testBit 0=decide (x % 2=1):=Nat.testBit_zero x
 by_cases h:x % 2=1
 ·rw [if_pos h,Nat.testBit_xor,h0,decide_eq_true h,Nat.testBit_div_two];simp
 ·rw [if_neg h,h0,decide_eq_false h,Nat.testBit_div_two];simp
theorem xr (x y:Nat):f1 (x ^^^ y)=f1 x ^^^ f1 y:=by
 apply Nat.eq_of_testBit_eq
 intro i
 rw [Nat.testBit_xor,V2,V2,V2,Nat.testBit_xor,Nat.testBit_xor]
 cases x.testBit (i+1) <;> cases y.testBit (i+1) <;> cases x.testBit 0 <;> cases y.testBit 0 <;> cases poly.testBit i <;> rfl
theorem xu (x y:Nat):f8 (x ^^^ y)=f8 x ^^^ f8 y:=by simp only [f8,xr]
theorem xw (x:Nat):f1 (2*x)=x:=by
 unfold f1;rw [if_neg (by omega)];omega
theorem xy (x:Nat):f8 (256*x)=x:=by
 unfold f8
 rw [show 256*x=2*(2*(2*(2*(2*(2*(2*(2*x))))))) by omega]
 simp only [xw]
theorem xz (u:Nat):(256*(u / 256)) ^^^ (u % 256)=u:=by
 apply Nat.eq_of_testBit_eq
 intro i
 rw [Nat.testBit_xor,show 256=2 ^ 8 from rfl,Nat.testBit_two_pow_mul,Nat.testBit_mod_two_pow,Nat.testBit_div_two_pow]
 by_cases h:i<8
 ·have: ¬i ≥ 8:=by omega
  simp [h,this]
 ·have h':i ≥ 8:=by omega
  have e:i - 8+8=i:=by omega
  simp [h,h',e]
theorem M3 {x:Nat}(h:x<2 ^ 32):f1 x<2 ^ 32:=by
 unfold f1
 split
 ·exact Nat.xor_lt_two_pow (by omega) (by decide)
 ·omega
theorem f8_lt {x:Nat}(h:x<2 ^ 32):f8 x<2 ^ 32:=M3 (M3 (M3 (M3 (M3 (M3 (M3 (M3 h)))))))
def tstep (tab:List Nat)(s b:Nat):Nat:=(s >>> 8) ^^^ tab.getD ((s % 256) ^^^ b) 0
def bstep (s b:Nat):Nat:=f8 (s ^^^ b)
def jy (tab:List Nat):Prop:=tab=(List.range 256).map f8
theorem tab_get {tab:List Nat}(ht:jy tab){i:Nat}(hi:i<256):tab.getD i 0=f8 i:=by
 rw [ht];simp [hi]
theorem step_eq {tab:List Nat}(ht:jy tab){s b:Nat}(hb:b<2 ^ 8):tstep tab s b=bstep s b:=by
 unfold tstep bstep
 have hx:(s % 256) ^^^ b<256:=Nat.xor_lt_two_pow (n:=8) (Nat.mod_lt _ (by decide)) hb
 rw [tab_get ht hx]
 have h1:(s ^^^ b) / 256=s >>> 8:=by
  apply Nat.eq_of_testBit_eq
  intro i
  rw [show 256=2 ^ 8 from rfl,Nat.testBit_div_two_pow,Nat.testBit_xor,Nat.testBit_shiftRight]
  have:b.testBit (i+8)=false:=Nat.testBit_lt_two_pow (Nat.lt_of_lt_of_le hb (Nat.pow_le_pow_right (by omega) (by omega)))
  rw [this,Nat.add_comm 8 i];simp
 have h2:(s ^^^ b) % 256=(s % 256) ^^^ b:=by
  have hb':b=b % 256:=(Nat.mod_eq_of_lt hb).symm
  apply Nat.eq_of_testBit_eq
  intro i
  rw [show 256=2 ^ 8 from rfl,Nat.testBit_mod_two_pow,Nat.testBit_xor,Nat.testBit_xor,Nat.testBit_mod_two_pow]
  by_cases h:i<8
  ·simp [h]
  ·have:b.testBit i=false:=Nat.testBit_lt_two_pow (Nat.lt_of_lt_of_le hb (Nat.pow_le_pow_right (by omega) (by omega)))
   simp [h,this]
 have h3:f8 (s ^^^ b)=(s ^^^ b) / 256 ^^^ f8 ((s ^^^ b) % 256):=by
  conv=>lhs;rw [←xz (s ^^^ b)]
  rw [xu,xy]
 rw [h3,h1,h2]
theorem bstep_lt {s b:Nat}(hs:s<2 ^ 32)(hb:b<2 ^ 8):bstep s b<2 ^ 32:=
 f8_lt (Nat.xor_lt_two_pow hs (Nat.lt_of_lt_of_le hb (by decide)))
def upd (s:Nat)(bs:List Nat):Nat:=bs.foldl bstep s
theorem upd_eq {tab:List Nat}(ht:jy tab): ∀(bs:List Nat) (s:Nat),(∀b∈bs,b<2 ^ 8)→bs.foldl (tstep tab) s=upd s bs
 | [],s,_=>rfl
 |b::r,s,h=>by
  unfold upd
  rw [List.foldl_cons,List.foldl_cons,step_eq ht (h b (List.mem_cons_self ..))]
  exact upd_eq ht r _ fun x hx=>h x (List.mem_cons_of_mem _ hx)
theorem upd_lt: ∀(bs:List Nat) (s:Nat),s<2 ^ 32→(∀b∈bs,b<2 ^ 8)→upd s bs<2 ^ 32
 | [],s,h,_=>h
 |b::r,s,hs,h=>by
  unfold upd
  rw [List.foldl_cons]
  exact upd_lt r _ (bstep_lt hs (h b (List.mem_cons_self ..))) fun x hx=>h x (List.mem_cons_of_mem _ hx)
end Go.Ev.Crc
namespace Go.Ev
section
variable {P0:Program}{E:Env}{F:T CFn}{K:T (List AV×AV)}(L:Lg P0 E F K)(X:Fx F K)
include L X
open Crc (f8 bstep)
def tabA:List AV:=(List.range 256).map fun i=> .int .u32 ((f8 i:Nat):Int)
structure Tb (P:Program)(E:Env)(F:T CFn)(K:T (List AV×AV)):Prop where
 ct: ∀h,Ct P E F K 200 [.fn (.func 201) [] []] h fun v h'=>v= .agg tabA∧h'=h
omit L X in
theorem jz {i:Nat}(h:i<256):tabA[i]?=some (.int .u32 ((f8 i:Nat):Int)):=by
 unfold tabA;rw [List.getElem?_map,List.getElem?_range h];rfl
section
variable {h:H}
theorem j7 {tb s b:Nat}(k:Bk h tb tabA)(hs:s<2 ^ 32)(hb:b<2 ^ 8):Ct P0 E F K 204 [.int .u32 ((s:Nat):Int),.int .u8 ((b:Nat):Int),.ptr tb 0] h fun v h'=>v= .int .u32 ((bstep s b:Nat):Int)∧h'=h:=by
 have hx:(s % 256) ^^^ b<256:=Nat.xor_lt_two_pow (n:=8) (Nat.mod_lt _ (by decide)) hb
 have hg:=jz hx
 have hf:f8 ((s % 256) ^^^ b)<2 ^ 32:=Crc.f8_lt (by omega)
 have hs8:s >>> 8<2 ^ 32:=by rw [Nat.shiftRight_eq_div_pow];omega
 refine Bz L X.f204 X.k204 rfl rfl fun Q x cs G=>?_
 refine wk ?_
 (apply st1 L rfl;exact jd rfl rfl (by decide);rfl)
 refine wk ?_
 (apply st1 L rfl;exact Sd rfl rfl;rfl)
 refine wk ?_
 (apply st1 L rfl;exact ug rfl rfl rfl (Nat.mod_lt _ (by decide)) hb hx;rfl)
 refine wk ?_
 (apply st1 L rfl;exact Q2 rfl rfl hx;rfl)
 refine wk ?_
 (apply st1 L rfl;exact ug rfl rfl rfl hs8 hf (Nat.xor_lt_two_pow hs8 hf);rfl)
 refine wk ?_
 refine ret X.f204 ?_
 refine⟨?_,rfl⟩
 rw [←Crc.step_eq (tab:=(List.range 256).map f8) rfl hb]
 unfold Crc.tstep
 rw [Crc.tab_get rfl hx]
 rfl
theorem V3 {pb b o n cap s tb:Nat}{bs:List Nat}(kp:Bk h pb [.slc b o n cap])(kb:BS h b o bs)(hl:bs.length=n)(hn:n<100000)(kt:Bk h tb tabA)(hs:s<2 ^ 32):
  Ct P0 E F K 203 [.int .u32 ((s:Nat):Int),.slc pb 0 1 1,.fn (.func 204) [] [.ptr tb 0]] h fun v h'=>v= .int .u32 ((Crc.upd s bs:Nat):Int)∧h'=h:=by
 have ha:=kb.all
 refine Bz L X.f203 X.k203 rfl rfl fun Q x cs G=>?_
 refine wk ?_
 refine A2 L ?_
 refine wk ?_
 refine Co L (α:= Nat) (T:=fun i u=> [(19,some (.int .i64 ((i:Nat):Int))),(18,some (.int .i64 ((n:Nat):Int))),(17,some (.slc b o n cap)),(2,some (.fn (.func 204) [] [.ptr tb 0])),(0,some (.int .u32 ((u:Nat):Int))),(13,some (.int .i64 ((0:Nat):Int))),(12,some (.int .i64 ((1:Nat):Int)))]) (n:=n)
  (R:=fun i u h1=>h1=h∧u=Crc.upd s (bs.take i)∧u<2 ^ 32) (i0:=0) s tsb ⟨rfl,by simp [Crc.upd],hs⟩ (Nat.zero_le _) ?_ ?_
 ·rintro i u h1 hi ⟨rfl,w1,w2⟩ ih
  have hb:=ha i (by omega)
  refine wk ?_
  (apply st1 L rfl;exact Sf kb rfl (by omega);rfl)
  refine wk ?_
  refine cal (c:=j7 L X (h:=h1) kt w2 hb) (g:=?_)
  rintro _ rfl
  refine wk ?_
  refine ih (bstep u (bs.getD i 0)) _ _ ⟨rfl,?_,Crc.bstep_lt w2 hb⟩ tsb
  rw [w1,List.take_add_one]
  have:bs[i]?=some (bs.getD i 0):=by rw [List.getD_eq_getElem?_getD,List.getElem?_eq_getElem (by omega)];rfl
  rw [this]
  unfold Crc.upd
  rw [List.foldl_append]
  rfl
 ·rintro u h1 ⟨rfl,w1,w2⟩
  refine wk ?_
  refine Bh L ?_
  refine wk ?_
  refine ret X.f203 ?_
  rw [w1,←hl,List.take_length]
  exact⟨rfl,rfl⟩
theorem Uc {pb b o n cap s:Nat}{bs:List Nat}(T:Tb P0 E F K)(kp:Bk h pb [.slc b o n cap])(kb:BS h b o bs)(hl:bs.length=n)(hn:n<100000)(hs:s<2 ^ 32):
  Ct P0 E F K 179 [.int .u32 ((s:Nat):Int),.slc pb 0 1 1] h fun v h'=>v= .int .u32 ((Crc.upd s bs:Nat):Int)∧K0 h h':=by
 have l1:=kp.lt
 have l2:=kb.lt_n
 refine Ad L X.f179 X.k179 rfl rfl fun Q x cs G=>?_
 refine wk ?_
 refine cal (c:=T.ct _) (g:=?_)
 rintro _ rfl
 refine wk ?_
 refine cal (c:=V3 L X (bs:=bs) lkp lkb hl hn (O6 (c:=tabA) rfl lkp) hs) (g:=?_)
 rintro _ rfl
 refine wk ?_
 refine ret X.f179 ?_
 exact⟨rfl,kps⟩
def crcB (bs:List Nat):Nat:=pw .u32 - 1 - Crc.upd 4294967295 bs
omit L X in
theorem Nn (bs:List Nat):crcB bs<2 ^ 32:=by unfold crcB;simp only [pw];omega
theorem j8 {pb b o n cap:Nat}{bs:List Nat}(T:Tb P0 E F K)(kp:Bk h pb [.slc b o n cap])(kb:BS h b o bs)(hl:bs.length=n)(hn:n<100000):
  Ct P0 E F K 155 [.slc pb 0 1 1] h fun v h'=>v= .int .u32 ((crcB bs:Nat):Int)∧K0 h h':=by
 refine Al L X.f155 X.k155 rfl rfl fun Q x cs G=>?_
 refine wk ?_
 refine cal (c:=Uc L X T kp kb hl hn (by decide)) (g:=?_)
 rintro _ h1 ⟨rfl,hk⟩
 refine wk ?_
 (apply st1 L rfl;exact wx rfl rfl (by simp only [pw];exact Crc.upd_lt _ _ (by decide) (fun v hv=>by obtain⟨i,hi,e⟩:=List.getElem_of_mem hv;have:=kb.all i hi;rw [List.getD_eq_getElem?_getD,List.getElem?_eq_getElem hi]at this;rw [←e];exact this));rfl)
 refine wk ?_
 refine ret X.f155 ?_
 exact⟨rfl,kps⟩
theorem j9 {b o n cap:Nat}{bs:List Nat}(T:Tb P0 E F K)(kb:BS h b o bs)(hl:bs.length=n)(hn:n<100000):
  Ct P0 E F K 113 [.slc b o n cap] h fun v h'=>v= .int .u32 ((crcB bs:Nat):Int)∧K0 h h':=by
 have l1:=kb.lt_n
 refine Al L X.f113 X.k113 rfl rfl fun Q x cs G=>?_
 refine wk ?_
 refine cal (c:=j8 L X T (bs:=bs) lkp lkb hl hn) (g:=?_)
 rintro _ h1 ⟨rfl,hk⟩
 refine wk ?_
 refine ret X.f113 ?_
 exact⟨rfl,kps⟩
end
end
end Go.Ev
namespace Go.Ev
section
variable {P0:Program}{E:Env}{F:T CFn}{K:T (List AV×AV)}(L:Lg P0 E F K)(X:Fx F K)
include L X
def An (s:Sp)(data:List Nat):List Nat:=A4 s++leb 4 (crcB (data++A4 s))
omit L X in
theorem x6 (s:Sp):(s.seq<1)∨
  (1≤s.seq∧s.len<1)∨
  (1≤s.seq∧65535<s.len)∨
  (1≤s.seq∧1≤s.len∧s.len≤65535∧s.idx<0)∨
  (1≤s.seq∧1≤s.len∧s.len≤65535∧0≤s.idx∧s.len≤s.idx)∨
  (1≤s.seq∧1≤s.len∧s.len≤65535∧0≤s.idx∧s.idx<s.len∧s.kind=1∧s.sec<0)∨
  (1≤s.seq∧1≤s.len∧s.len≤65535∧0≤s.idx∧s.idx<s.len∧s.kind=1∧4294967294<s.sec)∨
  (1≤s.seq∧1≤s.len∧s.len≤65535∧0≤s.idx∧s.idx<s.len∧s.kind=1∧0≤s.sec∧s.sec≤4294967294∧s.prev≠0)∨
  (1≤s.seq∧1≤s.len∧s.len≤65535∧0≤s.idx∧s.idx<s.len∧s.kind=1∧0≤s.sec∧s.sec≤4294967294∧s.prev=0∧s.len≠1)∨
  (1≤s.seq∧1≤s.len∧s.len≤65535∧0≤s.idx∧s.idx<s.len∧s.kind=1∧0≤s.sec∧s.sec≤4294967294∧s.prev=0∧s.len=1)∨
  (1≤s.seq∧1≤s.len∧s.len≤65535∧0≤s.idx∧s.idx<s.len∧s.kind≠1∧s.kind≠2∧s.kind≠3)∨
  (1≤s.seq∧1≤s.len∧s.len≤65535∧0≤s.idx∧s.idx<s.len∧s.kind=2∧s.sec≠0)∨
  (1≤s.seq∧1≤s.len∧s.len≤65535∧0≤s.idx∧s.idx<s.len∧s.kind=2∧s.sec=0∧s.seq≤s.prev)∨
  (1≤s.seq∧1≤s.len∧s.len≤65535∧0≤s.idx∧s.idx<s.len∧s.kind=2∧s.sec=0∧s.prev<s.seq∧s.seq - s.prev≤s.idx.toNat)∨
  (1≤s.seq∧1≤s.len∧s.len≤65535∧0≤s.idx∧s.idx<s.len∧s.kind=2∧s.sec=0∧s.prev<s.seq∧s.idx.toNat<s.seq - s.prev)∨
  (1≤s.seq∧1≤s.len∧s.len≤65535∧0≤s.idx∧s.idx<s.len∧s.kind=3∧s.sec≠0)∨
  (1≤s.seq∧1≤s.len∧s.len≤65535∧0≤s.idx∧s.idx<s.len∧s.kind=3∧s.sec=0∧s.seq≤s.prev)∨
  (1≤s.seq∧1≤s.len∧s.len≤65535∧0≤s.idx∧s.idx<s.len∧s.kind=3∧s.sec=0∧s.prev<s.seq∧s.seq - s.prev≤s.idx.toNat)∨
  (1≤s.seq∧1≤s.len∧s.len≤65535∧0≤s.idx∧s.idx<s.len∧s.kind=3∧s.sec=0∧s.prev<s.seq∧s.idx.toNat<s.seq - s.prev):=by
 by_cases h0:s.seq<1
 ·exact .inl (by omega)
 by_cases h1:s.len<1
 ·exact .inr (.inl ⟨by omega,by omega⟩)
 by_cases h2:65535<s.len
 ·exact .inr (.inr (.inl ⟨by omega,by omega⟩))
 by_cases h3:s.idx<0
 ·exact .inr (.inr (.inr (.inl ⟨by omega,by omega,by omega,by omega⟩)))
 by_cases h4:s.len≤s.idx
 ·exact .inr (.inr (.inr (.inr (.inl ⟨by omega,by omega,by omega,by omega,by omega⟩))))
 by_cases hk:s.kind=1
 ·by_cases h5:s.sec<0
  ·exact .inr (.inr (.inr (.inr (.inr (.inl ⟨by omega,by omega,by omega,by omega,by omega,by omega,by omega⟩)))))
  by_cases h6:4294967294<s.sec
  ·exact .inr (.inr (.inr (.inr (.inr (.inr (.inl ⟨by omega,by omega,by omega,by omega,by omega,by omega,by omega⟩))))))
  by_cases h7:s.prev≠0
  ·exact .inr (.inr (.inr (.inr (.inr (.inr (.inr (.inl ⟨by omega,by omega,by omega,by omega,by omega,by omega,by omega,by omega,by omega⟩)))))))
  by_cases h8:s.len≠1
  ·exact .inr (.inr (.inr (.inr (.inr (.inr (.inr (.inr (.inl ⟨by omega,by omega,by omega,by omega,by omega,by omega,by omega,by omega,by omega,by omega⟩))))))))
  exact .inr (.inr (.inr (.inr (.inr (.inr (.inr (.inr (.inr (.inl ⟨by omega,by omega,by omega,by omega,by omega,by omega,by omega,by omega,by omega,by omega⟩)))))))))
 by_cases hk2:s.kind=2
 ·by_cases h11:s.sec≠0
  ·exact .inr (.inr (.inr (.inr (.inr (.inr (.inr (.inr (.inr (.inr (.inr (.inl ⟨by omega,by omega,by omega,by omega,by omega,by omega,by omega⟩)))))))))))
  by_cases h12:s.seq≤s.prev
  ·exact .inr (.inr (.inr (.inr (.inr (.inr (.inr (.inr (.inr (.inr (.inr (.inr (.inl ⟨by omega,by omega,by omega,by omega,by omega,by omega,by omega,by omega⟩))))))))))))
  by_cases h13:s.seq - s.prev≤s.idx.toNat
  ·exact .inr (.inr (.inr (.inr (.inr (.inr (.inr (.inr (.inr (.inr (.inr (.inr (.inr (.inl ⟨by omega,by omega,by omega,by omega,by omega,by omega,by omega,by omega,by omega⟩)))))))))))))
  exact .inr (.inr (.inr (.inr (.inr (.inr (.inr (.inr (.inr (.inr (.inr (.inr (.inr (.inr (.inl ⟨by omega,by omega,by omega,by omega,by omega,by omega,by omega,by omega,by omega⟩))))))))))))))
 by_cases hk3:s.kind=3
 ·by_cases h15:s.sec≠0
  ·exact .inr (.inr (.inr (.inr (.inr (.inr (.inr (.inr (.inr (.inr (.inr (.inr (.inr (.inr (.inr (.inl ⟨by omega,by omega,by omega,by omega,by omega,by omega,by omega⟩)))))))))))))))
  by_cases h16:s.seq≤s.prev
  ·exact .inr (.inr (.inr (.inr (.inr (.inr (.inr (.inr (.inr (.inr (.inr (.inr (.inr (.inr (.inr (.inr (.inl ⟨by omega,by omega,by omega,by omega,by omega,by omega,by omega,by omega⟩))))))))))))))))
  by_cases h17:s.seq - s.prev≤s.idx.toNat
  ·exact .inr (.inr (.inr (.inr (.inr (.inr (.inr (.inr (.inr (.inr (.inr (.inr (.inr (.inr (.inr (.inr (.inr (.inl ⟨by omega,by omega,by omega,by omega,by omega,by omega,by omega,by omega,by omega⟩)))))))))))))))))
  exact .inr (.inr (.inr (.inr (.inr (.inr (.inr (.inr (.inr (.inr (.inr (.inr (.inr (.inr (.inr (.inr (.inr (.inr (⟨by omega,by omega,by omega,by omega,by omega,by omega,by omega,by omega,by omega⟩))))))))))))))))))
 exact .inr (.inr (.inr (.inr (.inr (.inr (.inr (.inr (.inr (.inr (.inl ⟨by omega,by omega,by omega,by omega,by omega,by omega,by omega,by omega⟩))))))))))
theorem Q6 {h:H}{s:Sp}(ok:s.Ok):Ct P0 E F K 74 [.agg (spC s)] h fun v h'=>v= .bool (decide s.Valid)∧K0 h h':=by
 have hsq:=ok.seq
 have hpv:=ok.prev
 have hu:0≤s.idx→u64 s.idx=s.idx.toNat∨18446744073709551616≤s.idx:=by unfold u64;omega
 rcases x6 s with hc|hc|hc|hc|hc|hc|hc|hc|hc|hc|hc|hc|hc|hc|hc|hc|hc|hc|hc
 all_goals
  refine Al L X.f74 X.k74 rfl rfl fun Q x cs G=>?_
  refine wk ?_
  (try((apply st1 L rfl;exact Io rfl;rfl);refine wk ?_;(apply st1 L rfl;exact Pa rfl rfl rfl (by omega) (by simp only [pw];omega);rfl);refine wk ?_))
  (first
  |(refine ret X.f74 ?_;exact⟨by rw [show decide s.Valid=false from decide_eq_false (by unfold Sp.Valid;omega)];rfl,kps⟩)
  |(refine ret X.f74 ?_;exact⟨by rw [show decide s.Valid=true from decide_eq_true (by unfold Sp.Valid;omega)];rfl,kps⟩))
end
section
variable {P0:Program}{E:Env}{F:T CFn}{K:T (List AV×AV)}(L:Lg P0 E F K)(X:Fx F K)
include L X
section
variable {h:H}
theorem Sk {b o n c:Nat}{bs:List Nat}(k:BS h b o bs)(e:bs.length=n)(h1:0<n∧n<1000):
  Ct P0 E F K 66 [.slc b o n c] h fun v h'=> ∃r cb,v= .ptr r 0∧Bk h' r [.slc cb 0 n (Aa+1),.int .i64 ((0:Nat):Int)]∧BS h' cb 0 bs∧h.n≤cb∧h.n≤r∧cb≠r∧K0 h h':=by
 refine Al L X.f66 X.k66 rfl rfl fun Q x cs G=>?_
 refine wk ?_
 refine cal (c:=Kv L X lkb e h1) (g:=?_)
 rintro _ h2 ⟨cb,rfl,w1,w2,w3⟩
 have n2:=w3.n
 have l2:=w1.lt_n
 simp only [Am]at w2 n2
 refine wk ?_
 refine ret X.f66 ?_
 exact⟨h2.n,cb,rfl,lkp,lkb,by omega,by omega,by omega,kps⟩
theorem Pp {r:Nat}:Ct P0 E F K 115 [.ptr r 0] h fun v h'=>v= .ptr r 0∧h'=h:=by
 refine Al L X.f115 X.k115 rfl rfl fun Q x cs G=>?_
 refine wk ?_
 refine ret X.f115 ?_
 exact⟨rfl,rfl⟩
theorem Ud {r cb o n at_ m:Nat}(k:Bk h r [.slc cb o n (Aa+1),.int .i64 ((at_:Nat):Int)])(hm:m≤n)(hn:n<1000)(ha:at_<1000):
  Ct P0 E F K 116 [.ptr r 0,.int .i64 ((m:Nat):Int)] h fun v h'=>v= .tup [.slc cb o m m,.int .i64 ((0:Nat):Int)]∧Bk h' r [.slc cb (o+m) (n - m) (Aa+1),.int .i64 ((at_+m:Nat):Int)]∧Kp (fun j=>j=r) h h':=by
 refine Ad L X.f116 X.k116 rfl rfl fun Q x cs G=>?_
 refine wk ?_
 (apply Mw L rfl rfl rfl rfl rfl rfl rfl;exact lkp;rfl;intro h9 hs9;(repeat(first|(apply Cp rfl rfl;exact opv)|(apply Se rfl rfl)));(first|(apply p_0;exact chk)|(refine Pc L ?_ rfl ?_;exact chk));refine M8 L hs9 ?_)
 refine wk ?_
 refine ret X.f116 ?_
 exact⟨rfl,lkp,kps⟩
theorem Xx {b o n c:Nat}{bs:List Nat}{a:Nat}(k:BS h b o ((bs.drop a).take n))(hl:a+n≤bs.length)(hn:1≤n∧n≤8):
  Ct P0 E F K 70 [.slc b o n c] h fun v h'=>v= .tup [.int .u64 ((leF bs a n:Nat):Int),.int .i64 ((0:Nat):Int)]∧h'=h:=by
 have hall:=k.all
 have hkl:((bs.drop a).take n).length=n:=by rw [List.length_take,List.length_drop];omega
 have hgd: ∀i,i<n→((bs.drop a).take n).getD i 0=bs.getD (a+i) 0:=fun i hi=>by
  simp only [List.getD_eq_getElem?_getD]
  rw [List.getElem?_take_of_lt hi,List.getElem?_drop]
 have hlt: ∀i,i≤n→leF bs a i<256 ^ i:=by
  intro i
  induction i with
  |zero=>intro _;simp [leF]
  |succ i ih=>
   intro hi
   have h1:=ih (by omega)
   have h2:=D1 hall i
   rw [hgd i (by omega)]at h2
   rw [Kr,Nat.pow_succ]
   have:bs.getD (a+i) 0*256 ^ i≤255*256 ^ i:=Nat.mul_le_mul_right _ (by omega)
   omega
 refine Al L X.f70 X.k70 rfl rfl fun Q x cs G=>?_
 refine wk ?_
 refine Co L (α:= Nat) (T:=fun i u=> [(16,some (.int .i64 ((i:Nat):Int))),(15,some (.int .i64 ((n:Nat):Int))),(14,some (.slc b o n c)),(2,some (.int .u64 ((u:Nat):Int)))]) (n:=n)
  (R:=fun i u h1=>h1=h∧u=leF bs a i) (i0:=0) 0 tsb ⟨rfl,rfl⟩ (Nat.zero_le _) ?_ ?_
 ·rintro i u h1 hi ⟨rfl,w1⟩ ih
  have h1':=hlt i (by omega)
  rw [←w1]at h1'
  have hb:=D1 hall i
  rw [hgd i hi]at hb
  have hlt2:=hlt (i+1) (by omega)
  rw [Kr,←w1]at hlt2
  have hp:256 ^ (i+1)≤256 ^ 8:=Nat.pow_le_pow_right (by omega) (by omega)
  have hp2:(256:Nat) ^ 8=18446744073709551616:=by decide
  have hpe:2 ^ (8*i)=256 ^ i:=(Sj i).symm
  refine wk ?_
  (apply st1 L rfl;exact Sf k rfl (by omega);rfl)
  rw [hgd i hi]
  refine wk ?_
  (apply st1 L rfl;exact Aao (s:=8*i) rfl rfl rfl (by show 8*i≤64;omega);rfl)
  rw [hpe,show(bs.getD (a+i) 0*256 ^ i) % pw .u64=bs.getD (a+i) 0*256 ^ i from Nat.mod_eq_of_lt (by simp only [pw];omega)]
  have hor:u ||| bs.getD (a+i) 0*256 ^ i=u+bs.getD (a+i) 0*256 ^ i:=by
   have:=Nat.shiftLeft_add_eq_or_of_lt (i:=8*i) (show u<2 ^ (8*i) by rw [hpe];exact h1') (bs.getD (a+i) 0)
   rw [Nat.shiftLeft_eq,hpe]at this
   rw [Nat.or_comm,←this,Nat.add_comm]
  refine wk ?_
  (apply st1 L rfl;exact Abc rfl rfl rfl (by simp only [pw];omega) (by simp only [pw];omega) (by rw [hor];simp only [pw];omega);rfl)
  rw [hor]
  refine wk ?_
  refine ih _ _ _ ⟨rfl,?_⟩ tsb
  rw [Kr,←w1]
 ·rintro u h1 ⟨rfl,w1⟩
  refine wk ?_
  refine ret X.f70 ?_
  rw [w1]
  exact⟨rfl,rfl⟩
theorem kf {r cb o n at_ m a:Nat}{bs:List Nat}(k:Bk h r [.slc cb o n (Aa+1),.int .i64 ((at_:Nat):Int)])(kb:BS h cb o ((bs.drop a).take m))(hl:a+m≤bs.length)(hm:m≤n)(hm1:1≤m∧m≤8)(hn:n<1000)(ha:at_<1000)(hne:cb≠r):
  Ct P0 E F K 154 [.ptr r 0,.int .i64 ((m:Nat):Int)] h fun v h'=> ∃b,v= .tup [.slc b 0 1 1,.int .i64 ((0:Nat):Int)]∧Bk h' b [.int .u64 ((leF bs a m:Nat):Int)]∧h.n≤b∧Bk h' r [.slc cb (o+m) (n - m) (Aa+1),.int .i64 ((at_+m:Nat):Int)]∧Kp (fun j=>j=r) h h':=by
 have l1:=k.lt
 refine Ad L X.f154 X.k154 rfl rfl fun Q x cs G=>?_
 refine wk ?_
 refine cal (c:=Ud L X lkp hm hn ha) (g:=?_)
 rintro _ h2 ⟨rfl,w1,w2⟩
 have n2:=w2.n
 simp only [Am]at n2
 refine wk ?_
 refine cal (c:=Xx L X lkb hl hm1) (g:=?_)
 rintro _ rfl
 refine wk ?_
 refine ret X.f154 ?_
 exact⟨h2.n,rfl,lkp,by omega,lkp,kps⟩
theorem ki {r cb o n at_ m a sb:Nat}{bs:List Nat}(ks:Bk h sb [.int .i64 ((m:Nat):Int)])(k:Bk h r [.slc cb o n (Aa+1),.int .i64 ((at_:Nat):Int)])(kb:BS h cb o ((bs.drop a).take m))(hl:a+m≤bs.length)(hm:m≤n)(hm1:1≤m∧m≤8)(hn:n<1000)(ha:at_<1000)(hne:cb≠r):
  Ct P0 E F K 153 [.slc sb 0 1 1,.fn (.func 154) [.ptr r 0] []] h fun v h'=> ∃b,v= .tup [.slc b 0 1 (Aa+1),.int .i64 ((0:Nat):Int)]∧Bk h' b [.int .u64 ((leF bs a m:Nat):Int)]∧h.n≤b∧Bk h' r [.slc cb (o+m) (n - m) (Aa+1),.int .i64 ((at_+m:Nat):Int)]∧Kp (fun j=>j=r) h h':=by
 have l1:=k.lt
 refine Ad L X.f153 X.k153 rfl rfl fun Q x cs G=>?_
 refine wk ?_
 refine A2 L ?_
 refine wk ?_
 refine Pj L rfl rfl rfl rfl rfl (Ct.A (kf L X (bs:=bs) (a:=a) k (by exact kb) hl hm hm1 hn ha hne)) ?_
 rintro _ h2 ⟨b,rfl,w1,w2,w3,w4⟩
 have n2:=w4.n
 have l3:=w3.lt
 have l4:=w1.lt
 refine wk ?_
 (apply st1 L rfl;exact F0 (n2:=1) (new:= [.int .u64 ((leF bs a m:Nat):Int)]) rfl rfl (SlR.of (c:= [.int .u64 ((leF bs a m:Nat):Int)]) lkp (Nat.le_refl _) rfl) (by omega) (by omega);rfl)
 refine wk ?_
 refine Bh L ?_
 refine wk ?_
 refine ret X.f153 ?_
 exact⟨h2.n,rfl,lkp,by omega,lkp,kps⟩
end
end
section
variable {P0:Program}{E:Env}{F:T CFn}{K:T (List AV×AV)}(L:Lg P0 E F K)(X:Fx F K)
include L X
section
variable {h:H}
theorem Zx {r cb o n at_ m a sb:Nat}{bs:List Nat}(ks:Bk h sb [.int .i64 ((m:Nat):Int)])(k:Bk h r [.slc cb o n (Aa+1),.int .i64 ((at_:Nat):Int)])(kb:BS h cb o ((bs.drop a).take m))(hl:a+m≤bs.length)(hm:m≤n)(hm1:1≤m∧m≤8)(hn:n<1000)(ha:at_<1000)(hne:cb≠r):
  Ct P0 E F K 112 [.ptr r 0,.slc sb 0 1 1] h fun v h'=> ∃b,v= .tup [.slc b 0 1 (Aa+1),.int .i64 ((0:Nat):Int)]∧Bk h' b [.int .u64 ((leF bs a m:Nat):Int)]∧h.n≤b∧Bk h' r [.slc cb (o+m) (n - m) (Aa+1),.int .i64 ((at_+m:Nat):Int)]∧Kp (fun j=>j=r) h h':=by
 have l1:=k.lt
 have l2:=ks.lt
 have l3:=kb.lt_n
 refine Ad L X.f112 X.k112 rfl rfl fun Q x cs G=>?_
 refine wk ?_
 refine cal (c:=Pp L X) (g:=?_)
 rintro _ rfl
 refine wk ?_
 refine cal (c:=ki L X (a:=a) (bs:=bs) (at_:=at_) (n:=n) lkp lkp lkb hl hm hm1 hn ha (by omega)) (g:=?_)
 rintro _ h2 ⟨b,rfl,w1,w2,w3,w4⟩
 have n2:=w4.n
 have l4:=w1.lt
 have l5:=w3.lt
 simp only [Am]at n2 w2
 refine wk ?_
 refine ret X.f112 ?_
 exact⟨b,rfl,lkp,by omega,lkp,kps⟩
theorem Pq {r cb o n at_ m a:Nat}{bs:List Nat}(k:Bk h r [.slc cb o n (Aa+1),.int .i64 ((at_:Nat):Int)])(kb:BS h cb o ((bs.drop a).take m))(hl:a+m≤bs.length)(hm:m≤n)(hm1:1≤m∧m≤8)(hn:n<1000)(ha:at_<1000)(hne:cb≠r):
  Ct P0 E F K 68 [.ptr r 0,.int .i64 ((m:Nat):Int)] h fun v h'=>v= .tup [.int .u64 ((leF bs a m:Nat):Int),.int .i64 ((0:Nat):Int)]∧Bk h' r [.slc cb (o+m) (n - m) (Aa+1),.int .i64 ((at_+m:Nat):Int)]∧Kp (fun j=>j=r) h h':=by
 have l1:=k.lt
 have l3:=kb.lt_n
 refine Ad L X.f68 X.k68 rfl rfl fun Q x cs G=>?_
 refine wk ?_
 refine cal (c:=Zx L X (a:=a) (bs:=bs) (at_:=at_) (n:=n) (cb:=cb) (o:=o) lkp lkp lkb hl hm hm1 hn ha hne) (g:=?_)
 rintro _ h2 ⟨b,rfl,w1,w2,w3,w4⟩
 have n2:=w4.n
 have l4:=w1.lt
 have l5:=w3.lt
 simp only [Am]at n2 w2
 refine wk ?_
 refine ret X.f68 ?_
 exact⟨rfl,lkp,kps⟩
theorem ko {r at_:Nat}{v0:AV}(k:Bk h r [v0,.int .i64 ((at_:Nat):Int)]):Ct P0 E F K 73 [.ptr r 0] h fun v h'=>v= .int .i64 ((at_:Nat):Int)∧h'=h:=by
 refine Al L X.f73 X.k73 rfl rfl fun Q x cs G=>?_
 refine wk ?_
 refine cal (c:=Pp L X) (g:=?_)
 rintro _ rfl
 refine wk ?_
 refine ret X.f73 ?_
 exact⟨rfl,rfl⟩
theorem Zz {v:Nat}:Ct P0 E F K 118 [.int .u8 ((v:Nat):Int)] h fun u h'=>u= .bool (decide (v≠0))∧h'=h:=by
 refine Al L X.f118 X.k118 rfl rfl fun Q x cs G=>?_
 refine wk ?_
 by_cases hv:v=0
 ·refine wk ?_
  refine ret X.f118 ?_
  exact⟨by rw [decide_eq_false (by omega)];rfl,rfl⟩
 ·refine wk ?_
  refine ret X.f118 ?_
  exact⟨by rw [decide_eq_true (by omega)];rfl,rfl⟩
def zer (bs:List Nat)(a n:Nat):Bool:=(List.range n).all fun i=>decide (bs.getD (a+i) 0=0)
omit L X in
theorem uj {bs:List Nat}{a n:Nat}(h: ∀i,i<n→bs.getD (a+i) 0=0):zer bs a n=true:=by
 unfold zer;rw [List.all_eq_true];intro i hi;exact decide_eq_true (h i (List.mem_range.1 hi))
omit L X in
theorem Aar {bs:List Nat}{a n i:Nat}(hi:i<n)(h:bs.getD (a+i) 0≠0):zer bs a n=false:=by
 cases hz:zer bs a n with
 |false=>rfl
 |true=>
  unfold zer at hz
  rw [List.all_eq_true]at hz
  exact absurd (of_decide_eq_true (hz i (List.mem_range.2 hi))) h
theorem Z1 {b o n c a:Nat}{bs:List Nat}(k:BS h b o ((bs.drop a).take n))(hl:a+n≤bs.length)(hn:n<1000):
  Ct P0 E F K 157 [.slc b o n c,.fn (.func 118) [] []] h fun v h'=>(∃i:Int,v= .int .i64 i∧(0≤i↔zer bs a n=false)∧ -1≤i∧i<1000)∧h'=h:=by
 have hkl:((bs.drop a).take n).length=n:=by rw [List.length_take,List.length_drop];omega
 have hgd: ∀i,i<n→((bs.drop a).take n).getD i 0=bs.getD (a+i) 0:=fun i hi=>by
  simp only [List.getD_eq_getElem?_getD]
  rw [List.getElem?_take_of_lt hi,List.getElem?_drop]
 refine Ad L X.f157 X.k157 rfl rfl fun Q x cs G=>?_
 refine wk ?_
 refine Co L (α:= Unit) (T:=fun i _=> [(8,some (.int .i64 ((i:Nat):Int))),(7,some (.int .i64 ((n:Nat):Int))),(0,some (.slc b o n c)),(1,some (.fn (.func 118) [] []))]) (n:=n)
  (R:=fun i _ h1=>h1=h∧ ∀j,j<i→bs.getD (a+j) 0=0) (i0:=0) () tsb ⟨rfl,fun j hj=>absurd hj (Nat.not_lt_zero j)⟩ (Nat.zero_le _) ?_ ?_
 ·rintro i _ h1 hi ⟨rfl,w1⟩ ih
  refine wk ?_
  (apply st1 L rfl;exact Sf k rfl (by omega);rfl)
  rw [hgd i hi]
  refine wk ?_
  refine cal (c:=Zz L X) (g:=?_)
  rintro _ rfl
  by_cases hz:bs.getD (a+i) 0=0
  ·rw [decide_eq_false (show¬bs.getD (a+i) 0≠0 from fun q=>q hz)]
   refine wk ?_
   refine ih () _ _ ⟨rfl,fun j hj=>?_⟩ tsb
   by_cases e:j=i
   ·rw [e];exact hz
   ·exact w1 j (by omega)
  ·rw [decide_eq_true (show bs.getD (a+i) 0≠0 from hz)]
   refine wk ?_
   refine ret X.f157 ?_
   exact⟨⟨i,rfl,by rw [Aar hi hz];simp,by omega,by omega⟩,rfl⟩
 ·rintro _ h1 ⟨rfl,w1⟩
  refine wk ?_
  refine ret X.f157 ?_
  exact⟨⟨-1,rfl,by rw [uj w1];simp,by omega,by omega⟩,rfl⟩
theorem Sl {b o n c a:Nat}{bs:List Nat}(k:BS h b o ((bs.drop a).take n))(hl:a+n≤bs.length)(hn:n<1000):
  Ct P0 E F K 117 [.slc b o n c,.fn (.func 118) [] []] h fun v h'=>v= .bool (!zer bs a n)∧h'=h:=by
 refine Ad L X.f117 X.k117 rfl rfl fun Q x cs G=>?_
 refine wk ?_
 refine cal (c:=Z1 L X (bs:=bs) (a:=a) lkb hl hn) (g:=?_)
 rintro _ ⟨i,rfl,w1,w2,w3⟩
 cases hz:zer bs a n with
 |false=>
  have h0:=w1.2 hz
  refine wk ?_
  refine ret X.f117 ?_
  exact⟨by rw [hz];rfl,rfl⟩
 |true=>
  have h0: ¬0≤i:=fun q=>by rw [w1.1 q]at hz;cases hz
  refine wk ?_
  refine ret X.f117 ?_
  exact⟨by rw [hz];rfl,rfl⟩
theorem Ue {r cb o n at_ m a:Nat}{bs:List Nat}(k:Bk h r [.slc cb o n (Aa+1),.int .i64 ((at_:Nat):Int)])(kb:BS h cb o ((bs.drop a).take m))(hl:a+m≤bs.length)(hm:m≤n)(hn:n<1000)(ha:at_<1000)(hne:cb≠r):
  Ct P0 E F K 72 [.ptr r 0,.int .i64 ((m:Nat):Int)] h fun v h'=>v= .int .i64 ((if zer bs a m=true then 0 else 6:Nat):Int)∧(zer bs a m=true→Bk h' r [.slc cb (o+m) (n - m) (Aa+1),.int .i64 ((at_+m:Nat):Int)])∧Kp (fun j=>j=r) h h':=by
 have l1:=k.lt
 have l3:=kb.lt_n
 refine Ad L X.f72 X.k72 rfl rfl fun Q x cs G=>?_
 refine wk ?_
 refine cal (c:=Pp L X) (g:=?_)
 rintro _ rfl
 refine wk ?_
 refine cal (c:=Ud L X (at_:=at_) (n:=n) (cb:=cb) (o:=o) lkp hm hn ha) (g:=?_)
 rintro _ h2 ⟨rfl,w1,w2⟩
 have n2:=w2.n
 simp only [Am]at n2
 refine wk ?_
 refine cal (c:=Sl L X (bs:=bs) (a:=a) lkb hl (by omega)) (g:=?_)
 rintro _ rfl
 cases hz:zer bs a m with
 |true=>
  refine wk ?_
  refine ret X.f72 ?_
  rw [if_pos hz]
  exact⟨rfl,fun _=>lkp,kps⟩
 |false=>
  refine wk ?_
  refine ret X.f72 ?_
  rw [if_neg (by rw [hz];simp)]
  refine⟨rfl,?_,kps⟩
  intro q
  first|(cases q;done)|(rw [hz]at q;cases q)
end
end
section
variable {P0:Program}{E:Env}{F:T CFn}{K:T (List AV×AV)}(L:Lg P0 E F K)(X:Fx F K)
include L X
section
variable {h:H}
theorem Z2 {b1 o1 n1 c1 b2 o2:Nat}{data ex:List Nat}(T:Tb P0 E F K)(k1:BS h b1 o1 data)(k2:BS h b2 o2 ex)(e1:data.length=n1)(e2:ex.length=64)(h1:0<n1∧n1<1000):
  Ct P0 E F K 71 [.slc b1 o1 n1 c1,.slc b2 o2 64 (Aa+1)] h fun v h'=>v= .int .u64 ((crcB (data++ex.take 60):Nat):Int)∧K0 h h':=by
 have l1:=k1.lt_n
 have l2:=k2.lt_n
 have hcl:=Nn (data++ex.take 60)
 have e3:(ex.take 60).length=60:=by rw [List.length_take];omega
 refine Ad L X.f71 X.k71 rfl rfl fun Q x cs G=>?_
 refine wk ?_
 refine cal (c:=Ja L X (bs1:=data) (bs2:=ex.take 60) lkp lkb (BS.part (a:=0) (k:=by exact lkb) (by omega)) e1 e3 h1 (by omega)) (g:=?_)
 rintro _ h2 ⟨b,rfl,w1,w2,w3⟩
 have n2:=w3.n
 have l3:=w1.lt_n
 simp only [Am]at n2 w2
 refine wk ?_
 refine cal (c:=j9 L X T (bs:=data++ex.take 60) lkb (by rw [List.length_append];omega) (by omega)) (g:=?_)
 rintro _ h3 ⟨rfl,w4⟩
 refine wk ?_
 refine ret X.f71 ?_
 exact⟨rfl,kps⟩
theorem D2 {e:Int}:Ct P0 E F K 65 [.bool true,.int .i64 e] h fun v h'=>v= .tup []∧h'=h:=by
 refine Ad L X.f65 X.k65 rfl rfl fun Q x cs G=>?_
 refine wk ?_
 refine ret X.f65 ?_
 exact⟨rfl,rfl⟩
theorem G3 {e:Int}:CtP P0 E F K 65 [.bool false,.int .i64 e] h fun v h'=>v= .ifc 44 (.int .i64 e)∧h'=h:=by
 refine Fe L X.f65 X.k65 rfl rfl rfl fun Q x cs G=>?_
 refine wk ?_
 refine Pk L rfl rfl ?_
 refine Ao L X.f65 ?_
 exact G _ _ ⟨rfl,rfl⟩
theorem Kw {r cb o n at_ m a rb:Nat}{bs:List Nat}(kr:Bk h rb [.ptr r 0])(k:Bk h r [.slc cb o n (Aa+1),.int .i64 ((at_:Nat):Int)])(kb:BS h cb o ((bs.drop a).take m))(hall:AllB bs)(hl:a+m≤bs.length)(hm:m≤n)(hm1:1≤m∧m≤4)(hn:n<1000)(ha:at_<1000)(hne:cb≠r):
  Ct P0 E F K 67 [.int .i64 ((m:Nat):Int),.ptr rb 0] h fun v h'=>v= .int .i64 ((leF bs a m:Nat):Int)∧Bk h' r [.slc cb (o+m) (n - m) (Aa+1),.int .i64 ((at_+m:Nat):Int)]∧Kp (fun j=>j=r) h h':=by
 have hlt:=Iq hall m a
 have hp:256 ^ m≤256 ^ 4:=Nat.pow_le_pow_right (by omega) (by omega)
 have hlt2:leF bs a m<4294967296:=Nat.lt_of_lt_of_le hlt hp
 clear hp hlt
 refine Ad L X.f67 X.k67 rfl rfl fun Q x cs G=>?_
 refine wk ?_
 refine cal (c:=Pq L X (a:=a) (bs:=bs) (at_:=at_) (n:=n) (cb:=cb) (o:=o) lkp lkb hl hm (by omega) hn ha hne) (g:=?_)
 rintro _ h2 ⟨rfl,w1,w2⟩
 refine wk ?_
 refine cal (c:=D2 L X) (g:=?_)
 rintro _ ⟨rfl⟩
 refine wk ?_
 refine ret X.f67 ?_
 exact⟨rfl,lkp,kps⟩
theorem Xy {r cb o n at_ a rb:Nat}{bs:List Nat}(kr:Bk h rb [.ptr r 0])(k:Bk h r [.slc cb o n (Aa+1),.int .i64 ((at_:Nat):Int)])(kb:BS h cb o ((bs.drop a).take 8))(hl:a+8≤bs.length)(hm:8≤n)(hn:n<1000)(ha:at_<1000)(hne:cb≠r):
  Ct P0 E F K 69 [.ptr rb 0] h fun v h'=>v= .int .u64 ((leF bs a 8:Nat):Int)∧Bk h' r [.slc cb (o+8) (n - 8) (Aa+1),.int .i64 ((at_+8:Nat):Int)]∧Kp (fun j=>j=r) h h':=by
 refine Al L X.f69 X.k69 rfl rfl fun Q x cs G=>?_
 refine wk ?_
 refine cal (c:=Pq L X (a:=a) (m:=8) (bs:=bs) (at_:=at_) (n:=n) (cb:=cb) (o:=o) lkp lkb hl hm (by omega) hn ha hne) (g:=?_)
 rintro _ h2 ⟨rfl,w1,w2⟩
 refine wk ?_
 refine cal (c:=D2 L X) (g:=?_)
 rintro _ ⟨rfl⟩
 refine wk ?_
 refine ret X.f69 ?_
 exact⟨rfl,lkp,kps⟩
theorem Ed {Q:Nat→AV→Prop}{nt:Nat}{l:List (Nat×Option AV)}{todo:List AItem}{z:AFr}{cs:List AFr}{b4 b5:Nat}{e:Int}{x0 x1 x2 x3 x4 x5 y0:AV}{post:AV→H→Prop}(t4:look l 4=some (.ptr b4 0))(t5:look l 5=some (.ptr b5 0))
  (k4:Bk h b4 [x0,x1,x2,x3,x4,x5]) (k5:Bk h b5 [y0]) (hne:b4≠b5) (hG: ∀v h',post v h'→GO P0 E Q (finish v cs h' z))
  (hp1: ∀h',Kp (fun j=>j=b4∨j=b5) h h'→post (.tup [.agg (spC sp0),.int .i64 e]) h'):
  Good P0 E Q ⟨⟨24,nt,tms l,todo,[.call 64 [.ptr b4 0,.ptr b5 0]],.panicking [(.ifc 44 (.int .i64 e),false)],false,none⟩,z::cs,h⟩:=by
 have l4:=k4.lt
 have l5:=k5.lt
 refine Ea L (by intro q;cases q) X.f64 rfl rfl rfl ?_
 refine Pm L rfl ?_
 refine wk ?_
 (apply Mw L rfl rfl rfl rfl rfl rfl rfl;exact lkp;rfl;intro h9 hs9;(repeat(first|(apply Cp rfl rfl;exact opv)|(apply Se rfl rfl)));(first|(apply p_0;exact chk)|(refine Pc L ?_ rfl ?_;exact chk));refine M8 L hs9 ?_)
 refine wk ?_
 refine Lx L X.f64 rfl ?_
 refine Eb L X.f24 (Km t4 (Bk.e lkp) rfl (Eh t5 (Bk.e lkp) rfl Jn)) hG (hp1 _ kps)
theorem ku {Q:Nat→AV→Prop}{nt:Nat}{l:List (Nat×Option AV)}{todo:List AItem}{z:AFr}{cs:List AFr}{b4 b5:Nat}{x0 x1 x2 x3 x4 x5 y0:AV}{post:AV→H→Prop}(t4:look l 4=some (.ptr b4 0))(t5:look l 5=some (.ptr b5 0))
  (k4:Bk h b4 [x0,x1,x2,x3,x4,x5]) (k5:Bk h b5 [y0]) (hG: ∀v h',post v h'→GO P0 E Q (finish v cs h' z))
  (hp1:post (.tup [.agg [x0,x1,x2,x3,x4,x5],y0]) h):
  Good P0 E Q ⟨⟨24,nt,tms l,todo,[.call 64 [.ptr b4 0,.ptr b5 0]],.returning,false,none⟩,z::cs,h⟩:=by
 refine Ea L (by intro q;cases q) X.f64 rfl rfl rfl ?_
 refine Gc L rfl ?_
 refine wk ?_
 (apply st1 L rfl;exact O8 (k:=true) rfl rfl;rfl)
 refine wk ?_
 refine Lx L X.f64 rfl ?_
 refine Eb L X.f24 (Km t4 (Bk.e lkp) rfl (Eh t5 (Bk.e lkp) rfl Jn)) hG hp1
end
end
section
variable {P0:Program}{E:Env}{F:T CFn}{K:T (List AV×AV)}(L:Lg P0 E F K)(X:Fx F K)
include L X
def Ht (ex:List Nat):Sp:=⟨ex.getD 4 0,((leF ex 24 4:Nat):Int),leF ex 8 8,leF ex 16 8,((leF ex 28 4:Nat):Int),((leF ex 32 4:Nat):Int)⟩
def V4 (ex data:List Nat):Option Sp:=if leF ex 60 4=crcB (data++ex.take 60)∧(Ht ex).Valid∧ex.take 60=A4 (Ht ex)then some (Ht ex)else none
omit L X in
theorem rf {ex:List Nat}(h:AllB ex):(Ht ex).Ok:=⟨D1 h 4,Iq h 8 8,Iq h 8 16⟩
end
theorem Q7 (l:List Nat)(n:Nat)(h:n≤l.length):l.take n=(List.range n).map fun i=>l.getD i 0:=by
 apply List.ext_getElem?
 intro i
 by_cases hi:i<n
 ·rw [List.getElem?_take_of_lt hi,List.getElem?_map,List.getElem?_range hi,List.getElem?_eq_getElem (by omega)]
  simp [List.getD_eq_getElem?_getD,show i<l.length by omega]
 ·rw [List.getElem?_take_eq_none (by omega),List.getElem?_eq_none (by simp;omega)]
theorem Q8 (l:List Nat)(a i:Nat):(l.drop a).getD i 0=l.getD (a+i) 0:=by
 simp only [List.getD_eq_getElem?_getD,List.getElem?_drop]
theorem Xz {bs:List Nat}{a n:Nat}:zer bs a n=true↔ ∀i,i<n→bs.getD (a+i) 0=0:=by
 constructor
 ·intro h i hi
  unfold zer at h
  rw [List.all_eq_true]at h
  exact of_decide_eq_true (h i (List.mem_range.2 hi))
 ·exact uj
theorem Ee (l:List Nat)(a m n:Nat):(l.drop a).take (m+n)=(l.drop a).take m++(l.drop (a+m)).take n:=by
 rw [List.take_add,List.drop_drop]
theorem Z3 (ex:List Nat):ex.take 60=ex.take 8++(ex.drop 8).take 8++(ex.drop 16).take 8++(ex.drop 24).take 4++(ex.drop 28).take 4++(ex.drop 32).take 4++(ex.drop 36).take 24:=by
 have h0:ex.take 60=(ex.drop 0).take (8+52):=rfl
 rw [h0,Ee,show(52:Nat)=8+44 from rfl,Ee,show(44:Nat)=8+36 from rfl,Ee,show(36:Nat)=4+32 from rfl,Ee,show(32:Nat)=4+28 from rfl,Ee,show(28:Nat)=4+24 from rfl,Ee]
 simp only [List.append_assoc,List.drop_zero,Nat.zero_add]
theorem Pr {ex:List Nat}(ha:AllB ex)(hl:ex.length=64):ex.take 60=A4 (Ht ex)↔leF ex 0 4=1280591427∧zer ex 5 3=true∧zer ex 36 24=true:=by
 have u1:u64 (Ht ex).sec=leF ex 24 4:=Sg (Nat.lt_trans (Iq ha 4 24) (by decide))
 have u2:u64 (Ht ex).idx=leF ex 28 4:=Sg (Nat.lt_trans (Iq ha 4 28) (by decide))
 have u3:u64 (Ht ex).len=leF ex 32 4:=Sg (Nat.lt_trans (Iq ha 4 32) (by decide))
 have e1:(Ht ex).seq=leF ex 8 8:=rfl
 have e2:(Ht ex).prev=leF ex 16 8:=rfl
 have e3:(Ht ex).kind=ex.getD 4 0:=rfl
 have key:ex.take 60=A4 (Ht ex)↔ex.take 8=mag (ex.getD 4 0)∧(ex.drop 36).take 24=List.replicate 24 0:=by
  unfold A4
  rw [Z3,u1,u2,u3,e1,e2,e3,I8 ha 8 8 (by omega),I8 ha 8 16 (by omega),I8 ha 4 24 (by omega),I8 ha 4 28 (by omega),I8 ha 4 32 (by omega)]
  constructor
  ·intro h
   obtain⟨q1,q2⟩:=List.append_inj h (by simp [mag];omega)
   obtain⟨q3,-⟩:=List.append_inj q1 (by simp [mag];omega)
   obtain⟨q4,-⟩:=List.append_inj q3 (by simp [mag];omega)
   obtain⟨q5,-⟩:=List.append_inj q4 (by simp [mag];omega)
   obtain⟨q6,-⟩:=List.append_inj q5 (by simp [mag];omega)
   obtain⟨q7,-⟩:=List.append_inj q6 (by simp [mag];omega)
   exact⟨q7,q2⟩
  ·rintro⟨h1,h2⟩
   rw [h1,h2]
 rw [key]
 have b0:=D1 ha 0
 have b1:=D1 ha 1
 have b2:=D1 ha 2
 have b3:=D1 ha 3
 have hm:ex.take 8=mag (ex.getD 4 0)↔leF ex 0 4=1280591427∧zer ex 5 3=true:=by
  rw [Q7 ex 8 (by omega),Xz]
  show [ex.getD 0 0,ex.getD 1 0,ex.getD 2 0,ex.getD 3 0,ex.getD 4 0,ex.getD 5 0,ex.getD 6 0,ex.getD 7 0]= [67,70,84,76,ex.getD 4 0,0,0,0]↔ex.getD 0 0+256*(ex.getD 1 0+256*(ex.getD 2 0+256*(ex.getD 3 0+256*0)))=1280591427∧_
  generalize ex.getD 0 0=x0 at*
  generalize ex.getD 1 0=x1 at*
  generalize ex.getD 2 0=x2 at*
  generalize ex.getD 3 0=x3 at*
  constructor
  ·intro h
   simp only [List.cons.injEq,and_true,true_and]at h
   obtain⟨h0,h1,h2,h3,h5,h6,h7⟩:=h
   refine⟨by omega,fun i hi=>?_⟩
   rcases i with _|_|_|i
   ·exact h5
   ·exact h6
   ·exact h7
   ·omega
  ·rintro⟨h1,h2⟩
   have:=h2 0 (by omega)
   have:=h2 1 (by omega)
   have:=h2 2 (by omega)
   simp only [List.cons.injEq,and_true,true_and]
   refine⟨by omega,by omega,by omega,by omega,?_,?_,?_⟩ <;> assumption
 have hz:(ex.drop 36).take 24=List.replicate 24 0↔zer ex 36 24=true:=by
  rw [Q7 _ 24 (by rw [List.length_drop];omega),Xz]
  constructor
  ·intro h i hi
   have:=congrArg (fun l=>l[i]?) h
   simp only [List.getElem?_map,List.getElem?_range hi,List.getElem?_replicate_of_lt hi,Option.map_some,Option.some.injEq,Q8]at this
   exact this
  ·intro h
   apply List.ext_getElem?
   intro i
   by_cases hi:i<24
   ·rw [List.getElem?_map,List.getElem?_range hi,List.getElem?_replicate_of_lt hi,Option.map_some,Q8,h i hi]
   ·rw [List.getElem?_eq_none (by simp;omega),List.getElem?_eq_none (by simp;omega)]
 rw [hm,hz,and_assoc]
theorem Z4 {ex data:List Nat}(ha:AllB ex)(hl:ex.length=64)(h1:leF ex 60 4=crcB (data++ex.take 60))(h2:leF ex 0 4=1280591427)(h3:zer ex 5 3=true)(h4:zer ex 36 24=true)(h5:(Ht ex).Valid):V4 ex data=some (Ht ex):=
 if_pos ⟨h1,h5,(Pr ha hl).2 ⟨h2,h3,h4⟩⟩
theorem G4 {ex data:List Nat}(ha:AllB ex)(hl:ex.length=64)(h: ¬(leF ex 60 4=crcB (data++ex.take 60)∧leF ex 0 4=1280591427∧zer ex 5 3=true∧zer ex 36 24=true∧(Ht ex).Valid)):V4 ex data=none:=
 if_neg fun q=>h (let⟨a,b,c⟩:=(Pr ha hl).1 q.2.2;⟨q.1,a,b,c,q.2.1⟩)
section
variable {P0:Program}{E:Env}{F:T CFn}{K:T (List AV×AV)}(L:Lg P0 E F K)(X:Fx F K)
include L X
section
variable {h:H}
theorem Z5 {b1 o1 b2 o2 m c2:Nat}{ex data:List Nat}(T:Tb P0 E F K)(k1:BS h b1 o1 ex)(k2:BS h b2 o2 data)(hl1:ex.length=64)(hl2:data.length=m)(hm:0<m∧m<1000):
  Ct P0 E F K 24 [.slc b1 o1 64 (Aa+1),.slc b2 o2 m c2] h fun v h'=>(∃e:Nat,v= .tup [.agg (spC ((V4 ex data).getD sp0)),.int .i64 ((e:Nat):Int)]∧(e=0↔(V4 ex data).isSome=true)∧e<1000)∧K0 h h':=by
 have l1:=k1.lt_n
 have l2:=k2.lt_n
 have a1:=k1.all
 have a2:=k2.all
 have g4:leF ex 4 1<256:=Iq a1 1 4
 refine Ad L X.f24 X.k24 rfl rfl fun Q x cs G=>?_
 refine wk ?_
 refine Ip L rfl rfl rfl rfl ?_
 refine wk ?_
 refine cal (c:=D2 L X) (g:=?_)
 rintro _ rfl
 refine wk ?_
 refine cal (c:=Sk L X (bs:=ex) lkb hl1 (by omega)) (g:=?_)
 rintro _ h2 ⟨r,cb,rfl,w1,w2,w3,w4,w5,w6⟩
 have n2:=w6.n
 have m1:=w1.lt
 have m2:=w2.lt_n
 simp only [Am]at n2 w3 w4
 refine wk ?_
 refine cal (c:=Xx L X (n:=4) (a:=60) (bs:=ex) (BS.part (k:=by exact lkb) (by omega)) (by omega) (by omega)) (g:=?_)
 rintro _ rfl
 refine wk ?_
 refine cal (c:=Z2 L X T (data:=data) (ex:=ex) lkb lkb hl2 hl1 hm) (g:=?_)
 rintro _ h3 ⟨rfl,w7⟩
 have n3:=w7.n
 simp only [Am]at n3
 by_cases hc:leF ex 60 4=crcB (data++ex.take 60)
 rotate_left
 ·refine wk ?_
  refine Et L rfl rfl rfl rfl rfl (G3 L X) ?_
  rintro _ _ ⟨rfl,rfl⟩
  rw [G4 a1 hl1 (by intro q;exact hc q.1)]at G
  exact Ed L X rfl rfl lkp lkp (by omega) G fun h9 k9=>⟨⟨10,rfl,by simp,by omega⟩,Kp.trS k9 (fun i hi e=>by omega) kps⟩
 refine wk ?_
 refine cal (c:=D2 L X) (g:=?_)
 rintro _ rfl
 refine wk ?_
 refine cal (c:=Kw L X (a:=0) (m:=4) (bs:=ex) (cb:=cb) (o:=0) (at_:=0) (n:=64) lkp lkp (BS.part (o:=0) (a:=0) (n:=4) (bs:=ex) (k:=by exact lkb) (by omega)) a1 (by omega) (by omega) (by omega) (by omega) (by omega) w5) (g:=?_)
 rintro _ h4 ⟨rfl,w8,w9⟩
 have n4:=w9.n
 simp only [Am]at n4
 by_cases hg:leF ex 0 4=1280591427
 rotate_left
 ·refine wk ?_
  refine Et L rfl rfl rfl rfl rfl (G3 L X) ?_
  rintro _ _ ⟨rfl,rfl⟩
  rw [G4 a1 hl1 (by intro q;exact hg q.2.1)]at G
  exact Ed L X rfl rfl lkp lkp (by omega) G fun h9 k9=>⟨⟨6,rfl,by simp,by omega⟩,Kp.trS k9 (fun i hi e=>by omega) kps⟩
 refine wk ?_
 refine cal (c:=D2 L X) (g:=?_)
 rintro _ rfl
 refine wk ?_
 refine cal (c:=Kw L X (a:=4) (m:=1) (bs:=ex) (cb:=cb) (o:=0+4) (at_:=0+4) (n:=64 - 4) lkp lkp (BS.part (o:=0) (a:=4) (n:=1) (bs:=ex) (k:=by exact lkb) (by omega)) a1 (by omega) (by omega) (by omega) (by omega) (by omega) w5) (g:=?_)
 rintro _ h5 ⟨rfl,x1,x2⟩
 have n5:=x2.n
 simp only [Am]at n5
 refine wk ?_
 refine cal (c:=Ue L X (a:=5) (m:=3) (bs:=ex) (cb:=cb) (o:=0+4+1) (at_:=0+4+1) (n:=64 - 4 - 1) lkp (BS.part (o:=0) (a:=5) (n:=3) (bs:=ex) (k:=by exact lkb) (by omega)) (by omega) (by omega) (by omega) (by omega) w5) (g:=?_)
 rintro _ h6 ⟨rfl,x3,zh6⟩
 have nh6:=zh6.n
 simp only [Am]at nh6
 by_cases hz:zer ex 5 3=true
 rotate_left
 ·rw [if_neg hz]
  refine wk ?_
  refine Et L rfl rfl rfl rfl rfl (G3 L X) ?_
  rintro _ _ ⟨rfl,rfl⟩
  rw [G4 a1 hl1 (by intro q;exact hz q.2.2.1)]at G
  exact Ed L X rfl rfl lkp lkp (by omega) G fun h9 k9=>⟨⟨6,rfl,by simp,by omega⟩,Kp.trS k9 (fun i hi e=>by omega) kps⟩
 rw [if_pos hz]
 have x5:=x3 hz
 refine wk ?_
 refine cal (c:=D2 L X) (g:=?_)
 rintro _ rfl
 refine wk ?_
 refine A2 L ?_
 refine wk ?_
 refine cal (c:=ko L X (at_:=0+4+1+3) lkp) (g:=?_)
 rintro _ rfl
 refine wk ?_
 refine cal (c:=D2 L X) (g:=?_)
 rintro _ rfl
 refine wk ?_
 refine cal (c:=Xy L X (a:=8) (bs:=ex) (cb:=cb) (o:=0+4+1+3) (at_:=0+4+1+3) (n:=64 - 4 - 1 - 3) lkp lkp (BS.part (o:=0) (a:=8) (n:=8) (bs:=ex) (k:=by exact lkb) (by omega)) (by omega) (by omega) (by omega) (by omega) w5) (g:=?_)
 rintro _ h7 ⟨rfl,xh7,zh7⟩
 have nh7:=zh7.n
 simp only [Am]at nh7
 refine wk ?_
 refine Bh L ?_
 refine wk ?_
 refine cal (c:=ko L X (at_:=0+4+1+3+8) lkp) (g:=?_)
 rintro _ rfl
 refine wk ?_
 refine cal (c:=D2 L X) (g:=?_)
 rintro _ rfl
 refine wk ?_
 refine cal (c:=Xy L X (a:=16) (bs:=ex) (cb:=cb) (o:=0+4+1+3+8) (at_:=0+4+1+3+8) (n:=64 - 4 - 1 - 3 - 8) lkp lkp (BS.part (o:=0) (a:=16) (n:=8) (bs:=ex) (k:=by exact lkb) (by omega)) (by omega) (by omega) (by omega) (by omega) w5) (g:=?_)
 rintro _ h8 ⟨rfl,xh8,zh8⟩
 have nh8:=zh8.n
 simp only [Am]at nh8
 refine wk ?_
 refine Bh L ?_
 refine wk ?_
 refine A2 L ?_
 refine wk ?_
 refine cal (c:=Kw L X (a:=24) (m:=4) (bs:=ex) (cb:=cb) (o:=0+4+1+3+8+8) (at_:=0+4+1+3+8+8) (n:=64 - 4 - 1 - 3 - 8 - 8) lkp lkp (BS.part (o:=0) (a:=24) (n:=4) (bs:=ex) (k:=by exact lkb) (by omega)) a1 (by omega) (by omega) (by omega) (by omega) (by omega) w5) (g:=?_)
 rintro _ h9 ⟨rfl,xh9,zh9⟩
 have nh9:=zh9.n
 simp only [Am]at nh9
 refine wk ?_
 refine Bh L ?_
 refine wk ?_
 refine cal (c:=Kw L X (a:=28) (m:=4) (bs:=ex) (cb:=cb) (o:=0+4+1+3+8+8+4) (at_:=0+4+1+3+8+8+4) (n:=64 - 4 - 1 - 3 - 8 - 8 - 4) lkp lkp (BS.part (o:=0) (a:=28) (n:=4) (bs:=ex) (k:=by exact lkb) (by omega)) a1 (by omega) (by omega) (by omega) (by omega) (by omega) w5) (g:=?_)
 rintro _ h10 ⟨rfl,xh10,zh10⟩
 have nh10:=zh10.n
 simp only [Am]at nh10
 refine wk ?_
 refine Bh L ?_
 refine wk ?_
 refine cal (c:=Kw L X (a:=32) (m:=4) (bs:=ex) (cb:=cb) (o:=0+4+1+3+8+8+4+4) (at_:=0+4+1+3+8+8+4+4) (n:=64 - 4 - 1 - 3 - 8 - 8 - 4 - 4) lkp lkp (BS.part (o:=0) (a:=32) (n:=4) (bs:=ex) (k:=by exact lkb) (by omega)) a1 (by omega) (by omega) (by omega) (by omega) (by omega) w5) (g:=?_)
 rintro _ h11 ⟨rfl,xh11,zh11⟩
 have nh11:=zh11.n
 simp only [Am]at nh11
 refine wk ?_
 refine Bh L ?_
 refine wk ?_
 refine cal (c:=ko L X (at_:=0+4+1+3+8+8+4+4+4) lkp) (g:=?_)
 rintro _ rfl
 refine wk ?_
 refine Pj L rfl rfl rfl rfl rfl (Ct.A (Ue L X (a:=36) (m:=24) (bs:=ex) (r:=r) (cb:=cb) (o:=0+4+1+3+8+8+4+4+4) (at_:=0+4+1+3+8+8+4+4+4) (n:=64 - 4 - 1 - 3 - 8 - 8 - 4 - 4 - 4) lkp (BS.part (o:=0) (a:=36) (n:=24) (bs:=ex) (k:=by exact lkb) (by omega)) (by omega) (by omega) (by omega) (by omega) w5)) ?_
 rintro _ h12 ⟨rfl,xh12,zh12⟩
 have nh12:=zh12.n
 simp only [Am]at nh12
 by_cases hy:zer ex 36 24=true
 rotate_left
 ·rw [if_neg hy]
  refine wk ?_
  refine Et L rfl rfl rfl rfl rfl (G3 L X) ?_
  rintro _ _ ⟨rfl,rfl⟩
  rw [G4 a1 hl1 (by intro q;exact hy q.2.2.2.1)]at G
  exact Ed L X rfl rfl lkp lkp (by omega) G fun h9 k9=>⟨⟨6,rfl,by simp,by omega⟩,Kp.trS k9 (fun i hi e=>by omega) kps⟩
 rw [if_pos hy]
 refine wk ?_
 refine cal (c:=Q6 L X (s:=Ht ex) (rf a1)) (g:=?_)
 rintro _ hl ⟨rfl,zhl⟩
 have nhl:=zhl.n
 simp only [Am]at nhl
 by_cases hv:(Ht ex).Valid
 rotate_left
 ·rw [decide_eq_false hv]
  refine wk ?_
  refine Et L rfl rfl rfl rfl rfl (G3 L X) ?_
  rintro _ _ ⟨rfl,rfl⟩
  rw [G4 a1 hl1 (by intro q;exact hv q.2.2.2.2)]at G
  exact Ed L X rfl rfl lkp lkp (by omega) G fun h9 k9=>⟨⟨6,rfl,by simp,by omega⟩,Kp.trS k9 (fun i hi e=>by omega) kps⟩
 rw [decide_eq_true hv]
 refine wk ?_
 refine cal (c:=D2 L X) (g:=?_)
 rintro _ rfl
 refine wk ?_
 rw [Z4 a1 hl1 hc hg hz hy hv]at G
 refine D0 L (todo:= []) ?_
 exact ku L X rfl rfl lkp lkp G ⟨⟨0,rfl,by simp,by omega⟩,kps⟩
end
end
structure MQ (M1 M2:List (Int×AV×Nat))(A:Int→Option Int):Prop where
 a1: ∀s,Bp M1 s=(A s).map AI
 a2: ∀s p,A s=some p→Bp M2 p=some (AI s)
 a3: ∀p u,Bp M2 p=some u→ ∃s,u=AI s∧A s=some p
theorem MQ.inj {M1 M2:List (Int×AV×Nat)}{A:Int→Option Int}(q:MQ M1 M2 A){s s' p:Int}(h:A s=some p)(h':A s'=some p):s=s':=by
 have h1:=q.a2 s p h
 rw [q.a2 s' p h']at h1
 simp only [AI,Option.some.injEq,AV.int.injEq,true_and]at h1
 exact h1.symm
def Ef (A:Int→Option Int)(s0:Int):Int→Option Int:=fun s=>if s=s0 then none else A s
def C1 (A:Int→Option Int)(x:Ent):Int→Option Int:=fun s=>if s=x.1 then(if 0≤x.2 then some x.2 else none)else A s
theorem Z6 {A:Int→Option Int}{s0:Int}(h:A s0=none):Ef A s0=A:=by
 funext s;unfold Ef;by_cases e:s=s0
 ·rw [if_pos e,e,h]
 ·rw [if_neg e]
theorem Uf {A:Int→Option Int}{x:Ent}(h: ¬0≤x.2):C1 A x=Ef A x.1:=by
 funext s;unfold C1 Ef;rw [if_neg h]
theorem Ug (A:Int→Option Int)(x:Ent):C1 (Ef A x.1) x=C1 A x:=by
 funext s;unfold C1 Ef;by_cases e:s=x.1
 ·rw [if_pos e,if_pos e]
 ·rw [if_neg e,if_neg e,if_neg e]
theorem MQ.rem {M1 M2:List (Int×AV×Nat)}{A:Int→Option Int}(q:MQ M1 M2 A){s0 p:Int}(h:A s0=some p):MQ (Ho M1 s0) (Ho M2 p) (Ef A s0):=by
 refine⟨fun s=>?_,fun s p' hs=>?_,fun p' u hu=>?_⟩
 ·rw [Im,q.a1];unfold Ef
  by_cases e:s=s0
  ·rw [if_pos e,if_pos e];rfl
  ·rw [if_neg e,if_neg e]
 ·unfold Ef at hs
  by_cases e:s=s0
  ·rw [if_pos e]at hs;cases hs
  ·rw [if_neg e]at hs
   have hp:p'≠p:=fun f=>e (q.inj (by rw [hs,f]) h)
   rw [Im,if_neg hp];exact q.a2 s p' hs
 ·rw [Im]at hu
  by_cases e:p'=p
  ·rw [if_pos e]at hu;cases hu
  ·rw [if_neg e]at hu
   obtain⟨s,h1,h2⟩:=q.a3 p' u hu
   refine⟨s,h1,?_⟩
   unfold Ef
   rw [if_neg];exact h2
   rintro rfl;rw [h]at h2;cases h2;exact e rfl
theorem MQ.ins {M1 M2:List (Int×AV×Nat)}{A:Int→Option Int}(q:MQ M1 M2 A){x:Ent}{c1 c2:Nat}(hx:0≤x.2)(h:A x.1=none)(hp: ∀s,A s≠some x.2):MQ (Dp M1 c1 x.1 (AI x.2)) (Dp M2 c2 x.2 (AI x.1)) (C1 A x):=by
 refine⟨fun s=>?_,fun s p' hs=>?_,fun p' u hu=>?_⟩
 ·rw [C2,q.a1];unfold C1
  by_cases e:s=x.1
  ·rw [if_pos e,if_pos e,if_pos hx];rfl
  ·rw [if_neg e,if_neg e]
 ·unfold C1 at hs
  rw [C2]
  by_cases e:s=x.1
  ·rw [if_pos e,if_pos hx]at hs;cases hs;rw [if_pos rfl,e]
  ·rw [if_neg e]at hs
   rw [if_neg fun f=>hp s (by rw [←f];exact hs)];exact q.a2 s p' hs
 ·rw [C2]at hu
  by_cases e:p'=x.2
  ·rw [if_pos e]at hu;cases hu
   exact⟨x.1,rfl,by unfold C1;rw [if_pos rfl,if_pos hx,e]⟩
  ·rw [if_neg e]at hu
   obtain⟨s,h1,h2⟩:=q.a3 p' u hu
   refine⟨s,h1,?_⟩
   unfold C1
   rw [if_neg];exact h2
   rintro rfl;rw [h]at h2;cases h2
def Ps (S T:Nat)(x:Ent):Prop:=0≤x.1∧x.1<S∧ -1≤x.2∧x.2<T
instance (S T:Nat)(x:Ent):Decidable (Ps S T x):=by unfold Ps;infer_instance
def uk (A:Int→Option Int)(x:Ent):Prop:= ∃s,A s=some x.2∧s≠x.1
noncomputable def H0 (A:Int→Option Int)(p:Int):Bool:= @decide (∃s,A s=some p) (Classical.propDecidable _)
theorem hasP_t {A:Int→Option Int}{p:Int}:H0 A p=true↔ ∃s,A s=some p:=by unfold H0;exact @decide_eq_true_iff _ (Classical.propDecidable _)
theorem hasP_f {A:Int→Option Int}{p:Int}:H0 A p=false↔ ¬ ∃s,A s=some p:=by
 rw [←hasP_t];cases H0 A p <;> simp
def Kx (f:Nat→Bool):Nat→Nat
 |0=>0
 |n+1=>Kx f n+if f n=true then 1 else 0
theorem No (f:Nat→Bool): ∀n,Kx f n≤n
 |0=>Nat.le_refl _
 |n+1=>by have:=No f n;simp only [Kx];split <;> omega
theorem Sn {f g:Nat→Bool}: ∀{n},(∀j,j<n→f j=g j)→Kx f n=Kx g n
 |0,_=>rfl
 |n+1,h=>by simp only [Kx,h n (Nat.lt_succ_self n),Sn (n:=n) fun j hj=>h j (by omega)]
theorem Uh {f g:Nat→Bool}{k:Nat}(hf:f k=false)(hg:g k=true): ∀{n},k<n→(∀j,j<n→j≠k→f j=g j)→Kx g n=Kx f n+1
 |n+1,hk,h=>by
  simp only [Kx]
  by_cases e:k=n
  ·subst e
   rw [hf,hg,Sn fun j hj=>h j (by omega) (by omega)];simp
  ·rw [h n (Nat.lt_succ_self n) (fun q=>e q.symm),Uh hf hg (n:=n) (by omega) fun j hj=>h j (by omega)];omega
noncomputable def valA (A:Int→Option Int)(P i:Nat):Nat:=Kx (fun j=>H0 A ((i*P+j:Nat):Int)) P
theorem X0 (A:Int→Option Int)(P i:Nat):valA A P i≤P:=No _ _
theorem Abi {P i j:Nat}(hj:j<P):(i*P+j) / P=i:=by
 rw [Nat.mul_comm,Nat.mul_add_div (by omega),Nat.div_eq_of_lt hj,Nat.add_zero]
theorem Pu {A:Int→Option Int}{P i p:Nat}{s0:Int}(hP:0<P)(h:A s0=some ((p:Nat):Int))(inj: ∀s,A s=some ((p:Nat):Int)→s=s0):valA A P i=valA (Ef A s0) P i+if p / P=i then 1 else 0:=by
 have key: ∀q:Nat,q≠p→H0 (Ef A s0) ((q:Nat):Int)=H0 A ((q:Nat):Int):=by
  intro q hq
  cases hc:H0 A ((q:Nat):Int)with
  |true=>
   obtain⟨s,hs⟩:=hasP_t.1 hc
   refine hasP_t.2 ⟨s,?_⟩
   unfold Ef
   rw [if_neg];exact hs
   rintro rfl
   rw [h]at hs;cases hs;exact hq rfl
  |false=>
   refine hasP_f.2 fun⟨s,hs⟩=>hasP_f.1 hc ⟨s,?_⟩
   unfold Ef at hs
   by_cases e:s=s0
   ·rw [if_pos e]at hs;cases hs
   ·rw [if_neg e]at hs;exact hs
 by_cases e:p / P=i
 ·rw [if_pos e]
  have hp:i*P+p % P=p:=by rw [←e,Nat.mul_comm];exact Nat.div_add_mod p P
  refine Uh (k:=p % P) ?_ ?_ (Nat.mod_lt _ hP) fun j hj hne=>key _ (by omega)
  ·rw [hp]
   refine hasP_f.2 fun⟨s,hs⟩=>?_
   unfold Ef at hs
   by_cases e2:s=s0
   ·rw [if_pos e2]at hs;cases hs
   ·rw [if_neg e2]at hs;exact e2 (inj s hs)
  ·rw [hp];exact hasP_t.2 ⟨s0,h⟩
 ·rw [if_neg e,Nat.add_zero]
  exact Sn fun j hj=>(key _ fun q=>e (by rw [←q];exact Abi hj)).symm
theorem ky {A:Int→Option Int}{P i p:Nat}{s0:Int}(hP:0<P)(h:A s0=none)(hn: ∀s,A s≠some ((p:Nat):Int)):valA (C1 A (s0,((p:Nat):Int))) P i=valA A P i+if p / P=i then 1 else 0:=by
 have h1:C1 A (s0,((p:Nat):Int)) s0=some ((p:Nat):Int):=by unfold C1;rw [if_pos rfl,if_pos (by simp only;omega)]
 have h2:Ef (C1 A (s0,((p:Nat):Int))) s0=A:=by
  funext s;unfold Ef C1
  by_cases e:s=s0
  ·rw [if_pos e,e,h]
  ·rw [if_neg e,if_neg e]
 rw [Pu (A:=C1 A (s0,((p:Nat):Int))) hP h1 ?_,h2]
 intro s hs
 unfold C1 at hs
 by_cases e:s=s0
 ·exact e
 ·rw [if_neg e]at hs;exact absurd hs (hn s)
structure MpC (S nb P:Nat)(h:H)(m r1 r2 vb:Nat)(A:Int→Option Int)(M1 M2:List (Int×AV×Nat))(c1 c2:Nat)(cv:List AV):Prop where
 k1:Mk h r1 (M1.map (mE AI)) c1
 o1:MOk M1 c1
 k2:Mk h r2 (M2.map (mE AI)) c2
 o2:MOk M2 c2
 kv:Bk h vb cv
 vl:cv.length=nb
 vv: ∀i,i<nb→cv[i]?=some (AI ((valA A P i:Nat):Int))
 mr:MQ M1 M2 A
structure MpR (S nb P:Nat)(h:H)(m r1 r2 vb:Nat)(A:Int→Option Int):Prop where
 km:Bk h m [AI ((S:Nat):Int),AI ((nb:Nat):Int),AI ((P:Nat):Int),.map r1,.map r2,.slc vb 0 nb nb]
 ne:r1≠r2∧r1≠m∧r1≠vb∧r2≠m∧r2≠vb∧m≠vb
 rg: ∀s p,A s=some p→0≤s∧s<S∧0≤p∧p<((nb*P:Nat):Int)
 nz:0<nb∧nb≤12∧2≤P∧P≤6∧S≤1000
 ex: ∃M1 M2 c1 c2 cv,MpC S nb P h m r1 r2 vb A M1 M2 c1 c2 cv
theorem MpR.kp {S nb P:Nat}{h h':H}{m r1 r2 vb:Nat}{A:Int→Option Int}{B:Nat→Prop}(q:MpR S nb P h m r1 r2 vb A)(k:Kp B h h')(hm: ¬B m)(h1: ¬B r1)(h2: ¬B r2)(hv: ¬B vb):MpR S nb P h' m r1 r2 vb A:=by
 obtain⟨M1,M2,c1,c2,cv,q5⟩:=q.ex
 exact⟨As k hm q.km,q.ne,q.rg,q.nz,M1,M2,c1,c2,cv,⟨Sc k h1 q5.k1,q5.o1,Sc k h2 q5.k2,q5.o2,As k hv q5.kv,q5.vl,q5.vv,q5.mr⟩⟩
theorem MpR.k0 {S nb P:Nat}{h h':H}{m r1 r2 vb:Nat}{A:Int→Option Int}(q:MpR S nb P h m r1 r2 vb A)(k:K0 h h'):MpR S nb P h' m r1 r2 vb A:=q.kp k id id id id
theorem MpR.lt {S nb P:Nat}{h:H}{m r1 r2 vb:Nat}{A:Int→Option Int}(q:MpR S nb P h m r1 r2 vb A):m<h.n∧r1<h.n∧r2<h.n∧vb<h.n:=by
 obtain⟨M1,M2,c1,c2,cv,q5⟩:=q.ex
 exact⟨q.km.lt,q5.k1.lt,q5.k2.lt,q5.kv.lt⟩
theorem MpR.inj {S nb P:Nat}{h:H}{m r1 r2 vb:Nat}{A:Int→Option Int}(q:MpR S nb P h m r1 r2 vb A){s s' p:Int}(e:A s=some p)(e':A s'=some p):s=s':=by
 obtain⟨M1,M2,c1,c2,cv,q5⟩:=q.ex
 exact q5.mr.inj e e'
section
variable {P0:Program}{E:Env}{F:T CFn}{K:T (List AV×AV)}(L:Lg P0 E F K)(X:Fx F K)
include L X
section
variable {h:H}
theorem kz {v n:Nat}(hn:1≤n∧n≤8)(hv:v<256 ^ n)(hv2:v<18446744073709551616):
  Ct P0 E F K 212 [.int .u64 ((v:Nat):Int),eI ((n:Nat):Int)] h fun u h'=> ∃b,u= .tup [.slc b 0 n n,eI ((0:Nat):Int)]∧Bk h' b (B5 (leb n v))∧h.n≤b∧K0 h h':=by
 have hz:=Abh hv
 have loop: ∀(Q:Nat→AV→Prop) (x:AFr) (cs:List AFr) (l:List (Nat×Option AV)),(∀u h',(∃b,u= .tup [.slc b 0 n n,eI ((0:Nat):Int)]∧Bk h' b (B5 (leb n v))∧h.n≤b∧K0 h h')→GO P0 E Q (finish u cs h' x))→
   TSub (tms [(29,some (eI ((0:Nat):Int))),(28,some (eI ((n:Nat):Int))),(6,some (.slc h.n 0 n n)),(0,some (.int .u64 ((v:Nat):Int)))]) (tms l)→
   Good P0 E Q ⟨⟨212,cf212.ntmps,tms l,[.code (.loop c212_23),.inBlock 1,.code c212_28],[],.run,false,none⟩,x::cs,hp (h.n+1) h.t [(h.n,some (cl (rl [.int .u8 ((0:Nat):Int)] n)))]⟩:=by
  intro Q x cs l G ht
  refine E0 L ht ?_
  rw [Fc]
  refine Co L (α:= Unit) (T:=fun i _=> [(29,some (eI ((i:Nat):Int))),(28,some (eI ((n:Nat):Int))),(6,some (.slc h.n 0 n n)),(0,some (.int .u64 ((v:Nat):Int)))]) (n:=n)
   (R:=fun i _ h1=>Bk h1 h.n (B5 (leb i v++List.replicate (n - i) 0))∧K0 h h1) (i0:=0) () tsb ⟨by rw [leb,List.nil_append,Nat.sub_zero];exact lkp,kps⟩ (Nat.zero_le _) ?_ ?_
  ·rintro i _ h1 hi ⟨w1,w2⟩ ih
   have hd:List.replicate (n - i) 0=0::List.replicate (n - (i+1)) 0:=by rw [show n - i=(n - (i+1))+1 by omega];rfl
   rw [hd]at w1
   have hlen2:i<(B5 (leb i v++0::List.replicate (n - (i+1)) 0)).length:=by
    rw [F3,List.length_append,List.length_cons,A5];omega
   have l1:=w1.lt
   refine wk ?_
   (apply st1 L rfl;exact jd (s:=8*i) rfl rfl (by show 8*i≤64;omega);rfl)
   refine wk ?_
   (apply st1 L rfl;exact Sd rfl rfl;rfl)
   refine wk ?_
   refine ih () _ _ ⟨?_,kps⟩ tsb
   refine O6 ?_ lkp
   rw [jn _ _ _ _ _ (by rw [A5]),T6,List.append_assoc]
   rfl
  ·rintro _ h1 ⟨w1,w2⟩
   refine wk ?_
   refine ret X.f212 ?_
   rw [Nat.sub_self,List.replicate_zero,List.append_nil]at w1
   exact⟨h.n,rfl,lkp,Nat.le_refl _,kps⟩
 by_cases h8:n<8
 ·refine Ad L X.f212 X.k212 rfl rfl fun Q x cs G=>?_
  refine wk ?_
  (apply st1 L rfl;exact jd (s:=8*n) rfl rfl (by show 8*n≤64;omega);rfl)
  rw [hz]
  refine wk ?_
  exact loop Q x cs _ G tsb
 ·refine Ad L X.f212 X.k212 rfl rfl fun Q x cs G=>?_
  refine wk ?_
  exact loop Q x cs _ G tsb
structure WrR (h:H)(lo w:Nat)(bs:List Nat):Prop where
 ex:(bs= []∧Bk h w [.nils])∨(0<bs.length∧ ∃b,Bk h w [.slc b 0 bs.length (Aa+1)]∧BS h b 0 bs∧lo≤b∧b≠w)
 lo:lo≤w
omit L X in
theorem WrR.k0 {h h':H}{lo w:Nat}{bs:List Nat}(k:K0 h h')(q:WrR h lo w bs):WrR h' lo w bs:=by
 refine⟨?_,q.lo⟩
 rcases q.ex with⟨e,k1⟩|⟨e,b,k1,k2,k3⟩
 ·exact .inl ⟨e,Ag k k1⟩
 ·exact .inr ⟨e,b,Ag k k1,k2.k0 k,k3⟩
theorem X1 {lo w b2 n cap:Nat}{bs new:List Nat}(q:WrR h lo w bs)(k2:BS h b2 0 new)(hn:new.length=n)(h1:0<n)(h2:bs.length+n<100000):
  Ct P0 E F K 211 [.ptr w 0,.slc b2 0 n cap,eI ((0:Nat):Int)] h fun v h'=>v=eI ((0:Nat):Int)∧WrR h' lo w (bs++new)∧Kp (fun j=>lo≤j) h h':=by
 have l2:=k2.lt_n
 have a2:=k2.all
 have hlo:=q.lo
 rcases q.ex with⟨rfl,kw⟩|⟨hp0,b,kw,kb,hb,hbw⟩
 ·have lw:=kw.lt
  have f2:BS (hp h.n h.t []) b2 0 new:=k2
  refine Bz L X.f211 X.k211 rfl rfl fun Q x cs G=>?_
  refine wk ?_
  (apply st1 L rfl;exact F0 (new:=B5 new) rfl rfl (f2.slr hn) h1 (by omega);rfl)
  refine wk ?_
  refine ret X.f211 ?_
  refine⟨rfl,⟨.inr ⟨by rw [List.nil_append];omega,h.n,?_,by rw [List.nil_append];exact qw (by omega) (Gm a2),by omega,by omega⟩,hlo⟩,kps⟩
  rw [List.nil_append,hn];exact lkp
 ·have lw:=kw.lt
  have lb:=kb.lt_n
  have a1:=kb.all
  have f2:BS (hp h.n h.t []) b2 0 new:=k2
  have f1:BS (hp h.n h.t []) b 0 bs:=kb
  refine Bz L X.f211 X.k211 rfl rfl fun Q x cs G=>?_
  refine wk ?_
  (apply st1 L rfl;exact Fz (old:=B5 bs) (new:=B5 new) rfl rfl (f1.slr rfl) (f2.slr hn) h1 (by omega) (D9 _);rfl)
  refine wk ?_
  refine ret X.f211 ?_
  refine⟨rfl,⟨.inr ⟨by rw [List.length_append];omega,h.n,?_,?_,by omega,by omega⟩,hlo⟩,kps⟩
  ·rw [List.length_append,hn];exact lkp
  ·rw [In];exact qw (by omega) (Gm (a1.app a2))
theorem rh {lo w v n:Nat}{bs:List Nat}(q:WrR h lo w bs)(hn:1≤n∧n≤8)(hv:v<256 ^ n)(hv2:v<18446744073709551616)(h2:bs.length+n<100000):
  Ct P0 E F K 193 [.ptr w 0,.int .u64 ((v:Nat):Int),eI ((n:Nat):Int)] h fun u h'=>u=eI ((0:Nat):Int)∧WrR h' lo w (bs++leb n v)∧Kp (fun j=>lo≤j) h h':=by
 refine Bz L X.f193 X.k193 rfl rfl fun Q x cs G=>?_
 refine wk ?_
 refine cal (c:=kz L X hn hv hv2) (g:=?_)
 rintro _ h1 ⟨b,rfl,w1,w2,w3⟩
 refine wk ?_
 refine cal (c:=X1 L X (q.k0 (by exact w3)) (Mv w1 (Hr _ _)) (A5 _ _) hn.1 h2) (g:=?_)
 rintro _ h3 ⟨rfl,w4,w5⟩
 refine wk ?_
 refine ret X.f193 ?_
 exact⟨rfl,w4,Kp.trS w5 (fun _ _ e=>e) (w3.mono fun _ e=>e.elim)⟩
theorem Q9 {lo w n:Nat}{bs:List Nat}(q:WrR h lo w bs)(hn:bs.length=n)(h1:0<n∧n<1000):Ct P0 E F K 194 [.ptr w 0] h fun v h'=> ∃b,v= .slc b 0 n (Aa+1)∧BS h' b 0 bs∧h.n≤b∧K0 h h':=by
 rcases q.ex with⟨rfl,kw⟩|⟨hp0,b,kw,kb,hb,hbw⟩
 ·exact absurd hn (by simp;omega)
 ·rw [hn]at kw
  refine Al L X.f194 X.k194 rfl rfl fun Q x cs G=>?_
  refine wk ?_
  refine cal (c:=Kv L X (Aam kb) hn h1) (g:=?_)
  rintro _ h1 ⟨b',rfl,w1,w2,w3⟩
  simp only [Am]at w2
  refine wk ?_
  refine ret X.f194 ?_
  exact⟨b',rfl,w1,w2,kps⟩
end
end
section
variable {P0:Program}{E:Env}{F:T CFn}{K:T (List AV×AV)}(L:Lg P0 E F K)(X:Fx F K)
include L X
def fC (x:Nat×Nat):List AV:= [.int .u64 ((x.1:Nat):Int),eI ((x.2:Nat):Int)]
def fB (l:List (Nat×Nat)):List Nat:=l.flatMap fun x=>leb x.2 x.1
structure FOk (x:Nat×Nat):Prop where
 n:1≤x.2∧x.2≤8
 v:x.1<256 ^ x.2
 v2:x.1<18446744073709551616
omit L X in
theorem li (l:List (Nat×Nat)): ∀x∈l,(fC x).length=2:=fun _ _=>rfl
omit L X in
theorem rm {l:List (Nat×Nat)}{i:Nat}{x:Nat×Nat}(h:l[i]?=some x):fB (l.take (i+1))=fB (l.take i)++leb x.2 x.1:=by
 unfold fB;rw [List.take_add_one,h,List.flatMap_append];simp
omit L X in
theorem ul {l:List (Nat×Nat)}(hl: ∀x∈l,FOk x):(fB l).length≤8*l.length:=by
 induction l with
 |nil=>exact Nat.le_refl _
 |cons a r ih=>
  have h1:=(hl a (List.mem_cons_self ..)).n
  have h2:=ih fun x hx=>hl x (List.mem_cons_of_mem _ hx)
  unfold fB at*
  rw [List.flatMap_cons,List.length_append,A5,List.length_cons];omega
section
variable {h:H}
theorem V5 {x:Nat×Nat}(ok:FOk x):Ct P0 E F K 214 [.agg (fC x)] h fun u h'=> ∃b,u= .tup [.slc b 0 x.2 x.2,eI ((0:Nat):Int)]∧Bk h' b (B5 (leb x.2 x.1))∧h.n≤b∧K0 h h':=by
 obtain⟨v,n⟩:=x
 unfold fC
 refine Al L X.f214 X.k214 rfl rfl fun Q x cs G=>?_
 refine wk ?_
 refine cal (c:=kz L X ok.n ok.v ok.v2) (g:=?_)
 rintro _ h1 ⟨b,rfl,w1,w2,w3⟩
 simp only [Am]at w2
 refine wk ?_
 refine ret X.f214 ?_
 exact⟨b,rfl,lkp,by omega,kps⟩
theorem rn {lb k:Nat}{l:List (Nat×Nat)}(hb:Bk h lb (l.flatMap fC))(hk:l.length=k)(hk1:0<k∧k<1000)(hl: ∀x∈l,FOk x):
  Ct P0 E F K 213 [.slc lb 0 k k,.fn (.func 214) [] []] h fun u h'=> ∃b,u= .tup [.slc b 0 (fB l).length (Aa+1),eI ((0:Nat):Int)]∧BS h' b 0 (fB l)∧h.n≤b∧K0 h h':=by
 have l1:=hb.lt
 have hlen:=Db l (li l)
 refine Ad L X.f213 X.k213 rfl rfl fun Q x cs G=>?_
 refine wk ?_
 refine Co L (α:= AV) (T:=fun i v=> [(12,some (eI ((i:Nat):Int))),(11,some (eI ((k:Nat):Int))),(10,some (.slc lb 0 k k)),(4,some v),(1,some (.fn (.func 214) [] []))]) (n:=k)
  (R:=fun i v h2=>((i=0∧v= .nils)∨ ∃b,v= .slc b 0 (fB (l.take i)).length (Aa+1)∧BS h2 b 0 (fB (l.take i))∧h.n≤b)∧Kp (fun j=>h.n≤j) h h2) (i0:=0) .nils tsb ⟨.inl ⟨rfl,rfl⟩,kps⟩ (Nat.zero_le _) ?_ ?_
 ·rintro i v h2 hi ⟨q1,q2⟩ ih
  have hx:l[i]?=some l[i]:=List.getElem?_eq_getElem (by omega)
  have hok:=hl _ (List.getElem_mem (show i<l.length by omega))
  have hdt:=Ff l (li l) i _ hx
  rw [rm hx]at ih
  have hble:=ul (l:=l.take i) fun x hx=>hl x (List.mem_of_mem_take hx)
  rw [List.length_take]at hble
  generalize l[i]=x at*
  obtain⟨xv,xn⟩:=x
  have hdt':i*2+2≤(l.flatMap fC).length∧((l.flatMap fC).drop (i*2)).take 2= [.int .u64 ((xv:Nat):Int),eI ((xn:Nat):Int)]:=hdt
  have hb2:Bk h2 lb (l.flatMap fC):=As q2 (by omega) hb
  have n2:=q2.n
  have hkn:=hok.n
  simp only at hkn
  refine wk ?_
  (apply st1 L rfl;exact Bs hb2.rk hdt' rfl;rfl)
  refine wk ?_
  refine cal (c:=V5 L X (x:=(xv,xn)) hok) (g:=?_)
  rintro _ h3 ⟨b3,rfl,w1,w2,w3⟩
  simp only [Am]at w2
  have n3:=w3.n
  simp only [Am]at n3
  have f3:BS (hp h3.n h3.t []) b3 0 (leb xn xv):=Mv w1 (Hr _ _)
  have a3:=f3.all
  rcases q1 with⟨rfl,rfl⟩|⟨b,rfl,kb,hlo⟩
  ·refine wk ?_
   (apply st1 L rfl;exact F0 (new:=B5 (leb xn xv)) rfl rfl (f3.slr (A5 _ _)) (by omega) (by omega);rfl)
   refine wk ?_
   refine ih (.slc h3.n 0 xn (Aa+1)) _ _ ⟨.inr ⟨h3.n,?_,?_,by omega⟩,kps⟩ ?_
   rotate_left
   ·rw [List.take_zero];exact Gm a3
   ·exact tsb
   ·rw [List.take_zero];show AV.slc h3.n 0 xn _=_;rw [show(fB []++leb xn xv).length=xn from A5 _ _]
  ·have lbb:=kb.lt_n
   have f1:BS (hp h3.n h3.t []) b 0 (fB (l.take i)):=lkb
   have a1:=f1.all
   refine wk ?_
   (apply st1 L rfl;exact Fz (old:=B5 (fB (l.take i))) (new:=B5 (leb xn xv)) rfl rfl (f1.slr rfl) (f3.slr (A5 _ _)) (by omega) (by omega) (D9 _);rfl)
   refine wk ?_
   refine ih (.slc h3.n 0 ((fB (l.take i)).length+xn) (Aa+1)) _ _ ⟨.inr ⟨h3.n,?_,?_,by omega⟩,kps⟩ ?_
   rotate_left
   ·rw [In];exact Gm (a1.app a3)
   ·exact tsb
   ·rw [List.length_append,A5]
 ·rintro v h2 ⟨q1,q2⟩
  rcases q1 with⟨e,_⟩|⟨b,rfl,kb,hlo⟩
  ·omega
  ·rw [←hk,List.take_length]at*
   refine wk ?_
   refine ret X.f213 ?_
   exact⟨b,rfl,kb,hlo,q2.cut (Nat.le_refl _)⟩
theorem Ra {lb k:Nat}{l:List (Nat×Nat)}(hb:Bk h lb (l.flatMap fC))(hk:l.length=k)(hk1:0<k∧k<100)(hl: ∀x∈l,FOk x):
  Ct P0 E F K 172 [.slc lb 0 k k] h fun u h'=> ∃b,u= .slc b 0 (fB l).length (Aa+1)∧BS h' b 0 (fB l)∧h.n≤b∧K0 h h':=by
 have l1:=hb.lt
 have hble:=ul hl
 have hpos:0<(fB l).length:=by
  cases l with
  |nil=>simp at hk;omega
  |cons a r=>
   have:=(hl a (List.mem_cons_self ..)).n
   unfold fB;rw [List.flatMap_cons,List.length_append,A5];omega
 refine Al L X.f172 X.k172 rfl rfl fun Q x cs G=>?_
 refine wk ?_
 have q:WrR (hp (h.n+1) h.t [(h.n,some (cl [.nils]))]) h.n h.n []:=⟨.inl ⟨rfl,lkp⟩,Nat.le_refl _⟩
 have aa:Ct P0 E F K 195 [.ptr h.n 0,.slc lb 0 k k] (hp (h.n+1) h.t [(h.n,some (cl [.nils]))]) fun v h'=>v=eI ((0:Nat):Int)∧WrR h' h.n h.n (fB l)∧Kp (fun j=>h.n≤j) (hp (h.n+1) h.t [(h.n,some (cl [.nils]))]) h':=by
  clear G
  refine Ad L X.f195 X.k195 rfl rfl fun Q x cs G=>?_
  refine wk ?_
  refine cal (c:=rn L X (lb:=lb) (l:=l) lkp hk (by omega) hl) (g:=?_)
  rintro _ h2 ⟨b,rfl,w1,w2,w3⟩
  refine wk ?_
  refine cal (c:=X1 L X (q.k0 (by exact w3)) w1 rfl hpos (by rw [List.length_nil];omega)) (g:=?_)
  rintro _ h3 ⟨rfl,w4,w5⟩
  refine wk ?_
  refine ret X.f195 ?_
  exact⟨rfl,w4,Kp.trS w5 (fun _ _ e=>e) (w3.mono fun _ e=>e.elim)⟩
 refine cal (c:=aa) (g:=?_)
 rintro _ h2 ⟨rfl,w1,w2⟩
 have n2:=w2.n
 simp only [Am]at n2
 refine wk ?_
 refine cal (c:=Q9 L X w1 rfl (by omega)) (g:=?_)
 rintro _ h3 ⟨b,rfl,w3,w4,w5⟩
 refine wk ?_
 refine ret X.f172 ?_
 refine⟨b,rfl,w3,by omega,?_⟩
 have k2:Kp (fun j=>h.n≤j) h h2:=Kp.trS w2 (fun _ _ e=>e) kps
 exact Kp.cut (Kp.tr0 w5 k2) (Nat.le_refl _)
end
end
end Go.Ev
