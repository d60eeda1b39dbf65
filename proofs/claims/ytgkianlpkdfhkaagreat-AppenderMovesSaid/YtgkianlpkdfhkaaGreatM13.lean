/- Part of the proof. -/
import Derived.KernelRfl
import Derived.Test.YtgkianlpkdfhkaaGreatM09
import Derived.Test.YtgkianlpkdfhkaaGreatM10
import Derived.Test.YtgkianlpkdfhkaaGreatM11
import Derived.Test.YtgkianlpkdfhkaaGreatM12
import Derived.Shelf.Sort.Plain
import Derived.Shelf.Slices.In.SortNone
set_option linter.unusedVariables false
set_option linter.unusedSectionVars false
set_option linter.unusedSimpArgs false
set_option maxRecDepth 10000
set_option maxHeartbeats 4000000
namespace Go.Ev.Crc
def poly:Nat:=2197175160
def f1 (x:Nat):Nat:=if x % 2=1 then(x / 2) ^^^ poly else x / 2
def f8 (x:Nat):Nat:=f1 (f1 (f1 (f1 (f1 (f1 (f1 (f1 x)))))))
theorem U5 (x i:Nat):(f1 x).testBit i=(x.testBit (i+1) ^^ (x.testBit 0 && poly.testBit i)):=by
 unfold f1
 have h0:x.testBit 0=decide (x % 2=1):=Nat.testBit_zero x
 by_cases h:x % 2=1
 ·rw [if_pos h,Nat.testBit_xor,h0,decide_eq_true h,Nat.testBit_div_two];simp
 ·rw [if_neg h,h0,decide_eq_false h,Nat.testBit_div_two];simp
theorem vf (x y:Nat):f1 (x ^^^ y)=f1 x ^^^ f1 y:=by
 apply Nat.eq_of_testBit_eq
 intro i
 rw [Nat.testBit_xor,U5,U5,U5,Nat.testBit_xor,Nat.testBit_xor]
 cases x.testBit (i+1) <;> cases y.testBit (i+1) <;> cases x.testBit 0 <;> cases y.testBit 0 <;> cases poly.testBit i <;> rfl
theorem vg (x y:Nat):f8 (x ^^^ y)=f8 x ^^^ f8 y:=by simp only [f8,vf]
theorem vh (x:Nat):f1 (2*x)=x:=by
 unfold f1;rw [if_neg (by omega)];omega
theorem vi (x:Nat):f8 (256*x)=x:=by
 unfold f8
 rw [show 256*x=2*(2*(2*(2*(2*(2*(2*(2*x))))))) by omega]
 simp only [vh]
theorem vj (u:Nat):(256*(u / 256)) ^^^ (u % 256)=u:=by
 apply Nat.eq_of_testBit_eq
 intro i
 rw [Nat.testBit_xor,show 256=2 ^ 8 from rfl,Nat.testBit_two_pow_mul,Nat.testBit_mod_two_pow,Nat.testBit_div_two_pow]
 by_cases h:i<8
 ·have: ¬i ≥ 8:=by omega
  simp [h,this]
 ·have h':i ≥ 8:=by omega
  have e:i - 8+8=i:=by omega
  simp [h,h',e]
theorem Mr {x:Nat}(h:x<2 ^ 32):f1 x<2 ^ 32:=by
 unfold f1
 split
 ·exact Nat.xor_lt_two_pow (by omega) (by decide)
 ·omega
theorem f8_lt {x:Nat}(h:x<2 ^ 32):f8 x<2 ^ 32:=Mr (Mr (Mr (Mr (Mr (Mr (Mr (Mr h)))))))
def tstep (tab:List Nat)(s b:Nat):Nat:=(s >>> 8) ^^^ tab.getD ((s % 256) ^^^ b) 0
def bstep (s b:Nat):Nat:=f8 (s ^^^ b)
def gq (tab:List Nat):Prop:=tab=(List.range 256).map f8
theorem tab_get {tab:List Nat}(ht:gq tab){i:Nat}(hi:i<256):tab.getD i 0=f8 i:=by
 rw [ht];simp [hi]
theorem step_eq {tab:List Nat}(ht:gq tab){s b:Nat}(hb:b<2 ^ 8):tstep tab s b=bstep s b:=by
 unfold tstep bstep
 have hx:(s % 256) ^^^ b<256:=Nat.xor_lt_two_pow (n:=8) (Nat.mod_lt _ (by decide)) hb
 rw [tab_get ht hx]
 have h1:(s ^^^ b) / 256=s >>> 8:=by
  apply Nat.eq_of_testBit_eq
  intro i
  rw [show 256=2 ^ 8 from rfl,Nat.testBit_div_two_pow,Nat.testBit_xor,Nat.testBit_shiftRight]
  have:b.testBit (i+8)=false:=Nat.testBit_lt_two_pow (Nat.lt_of_lt_of_le hb (Nat.pow_le_pow_right (by omega) (by omega)))
  rw [this,Nat.add_comm 8 i];simp
 have h2:(s ^^^ b) % 256=(s % 256) ^^^ b:=by
  have hb':b=b % 256:=(Nat.mod_eq_of_lt hb).symm
  apply Nat.eq_of_testBit_eq
  intro i
  rw [show 256=2 ^ 8 from rfl,Nat.testBit_mod_two_pow,Nat.testBit_xor,Nat.testBit_xor,Nat.testBit_mod_two_pow]
  by_cases h:i<8
  ·simp [h]
  ·have:b.testBit i=false:=Nat.testBit_lt_two_pow (Nat.lt_of_lt_of_le hb (Nat.pow_le_pow_right (by omega) (by omega)))
   simp [h,this]
 have h3:f8 (s ^^^ b)=(s ^^^ b) / 256 ^^^ f8 ((s ^^^ b) % 256):=by
  conv=>lhs;rw [←vj (s ^^^ b)]
  rw [vg,vi]
 rw [h3,h1,h2]
theorem bstep_lt {s b:Nat}(hs:s<2 ^ 32)(hb:b<2 ^ 8):bstep s b<2 ^ 32:=
 f8_lt (Nat.xor_lt_two_pow hs (Nat.lt_of_lt_of_le hb (by decide)))
def upd (s:Nat)(bs:List Nat):Nat:=bs.foldl bstep s
theorem upd_eq {tab:List Nat}(ht:gq tab): ∀(bs:List Nat) (s:Nat),(∀b∈bs,b<2 ^ 8)→bs.foldl (tstep tab) s=upd s bs
 | [],s,_=>rfl
 |b::r,s,h=>by
  unfold upd
  rw [List.foldl_cons,List.foldl_cons,step_eq ht (h b (List.mem_cons_self ..))]
  exact upd_eq ht r _ fun x hx=>h x (List.mem_cons_of_mem _ hx)
theorem upd_lt: ∀(bs:List Nat) (s:Nat),s<2 ^ 32→(∀b∈bs,b<2 ^ 8)→upd s bs<2 ^ 32
 | [],s,h,_=>h
 |b::r,s,hs,h=>by
  unfold upd
  rw [List.foldl_cons]
  exact upd_lt r _ (bstep_lt hs (h b (List.mem_cons_self ..))) fun x hx=>h x (List.mem_cons_of_mem _ hx)
end Go.Ev.Crc
namespace Go.Ev
section
variable {P0:Program}{E:Env}{F:T CFn}{K:T (List AV×AV)}(L:Lg P0 E F K)(X:Fx F K)
include L X
open Crc (f8 bstep)
def tabA:List AV:=(List.range 256).map fun i=> .int .u32 ((f8 i:Nat):Int)
structure Tb (P:Program)(E:Env)(F:T CFn)(K:T (List AV×AV)):Prop where
 ct: ∀h,Ct P E F K 200 [.fn (.func 201) [] []] h fun v h'=>v= .agg tabA∧h'=h
omit L X in
theorem gt {i:Nat}(h:i<256):tabA[i]?=some (.int .u32 ((f8 i:Nat):Int)):=by
 unfold tabA;rw [List.getElem?_map,List.getElem?_range h];rfl
section
variable {h:H}
theorem gu {tb s b:Nat}(k:Bk h tb tabA)(hs:s<2 ^ 32)(hb:b<2 ^ 8):Ct P0 E F K 204 [.int .u32 ((s:Nat):Int),.int .u8 ((b:Nat):Int),.ptr tb 0] h fun v h'=>v= .int .u32 ((bstep s b:Nat):Int)∧h'=h:=by
 have hx:(s % 256) ^^^ b<256:=Nat.xor_lt_two_pow (n:=8) (Nat.mod_lt _ (by decide)) hb
 have hg:=gt hx
 have hf:f8 ((s % 256) ^^^ b)<2 ^ 32:=Crc.f8_lt (by omega)
 have hs8:s >>> 8<2 ^ 32:=by rw [Nat.shiftRight_eq_div_pow];omega
 refine B3 L X.f204 X.k204 rfl rfl fun Q x cs G=>?_
 refine wk ?_
 (apply st1 L rfl;exact fc rfl rfl (by decide);rfl)
 refine wk ?_
 (apply st1 L rfl;exact Rh rfl rfl;rfl)
 refine wk ?_
 (apply st1 L rfl;exact rm rfl rfl rfl (Nat.mod_lt _ (by decide)) hb hx;rfl)
 refine wk ?_
 (apply st1 L rfl;exact Qa rfl rfl hx;rfl)
 refine wk ?_
 (apply st1 L rfl;exact rm rfl rfl rfl hs8 hf (Nat.xor_lt_two_pow hs8 hf);rfl)
 refine wk ?_
 refine ret X.f204 ?_
 refine⟨?_,rfl⟩
 rw [←Crc.step_eq (tab:=(List.range 256).map f8) rfl hb]
 unfold Crc.tstep
 rw [Crc.tab_get rfl hx]
 rfl
theorem U6 {pb b o n cap s tb:Nat}{bs:List Nat}(kp:Bk h pb [.slc b o n cap])(kb:BS h b o bs)(hl:bs.length=n)(hn:n<100000)(kt:Bk h tb tabA)(hs:s<2 ^ 32):
  Ct P0 E F K 203 [.int .u32 ((s:Nat):Int),.slc pb 0 1 1,.fn (.func 204) [] [.ptr tb 0]] h fun v h'=>v= .int .u32 ((Crc.upd s bs:Nat):Int)∧h'=h:=by
 have ha:=kb.all
 refine B3 L X.f203 X.k203 rfl rfl fun Q x cs G=>?_
 refine wk ?_
 refine A9 L ?_
 refine wk ?_
 refine Co L (α:= Nat) (T:=fun i u=> [(19,some (.int .i64 ((i:Nat):Int))),(18,some (.int .i64 ((n:Nat):Int))),(17,some (.slc b o n cap)),(2,some (.fn (.func 204) [] [.ptr tb 0])),(0,some (.int .u32 ((u:Nat):Int))),(13,some (.int .i64 ((0:Nat):Int))),(12,some (.int .i64 ((1:Nat):Int)))]) (n:=n)
  (R:=fun i u h1=>h1=h∧u=Crc.upd s (bs.take i)∧u<2 ^ 32) (i0:=0) s tsb ⟨rfl,by simp [Crc.upd],hs⟩ (Nat.zero_le _) ?_ ?_
 ·rintro i u h1 hi ⟨rfl,w1,w2⟩ ih
  have hb:=ha i (by omega)
  refine wk ?_
  (apply st1 L rfl;exact oh kb rfl (by omega);rfl)
  refine wk ?_
  refine cal (c:=gu L X (h:=h1) kt w2 hb) (g:=?_)
  rintro _ rfl
  refine wk ?_
  refine ih (bstep u (bs.getD i 0)) _ _ ⟨rfl,?_,Crc.bstep_lt w2 hb⟩ tsb
  rw [w1,List.take_add_one]
  have:bs[i]?=some (bs.getD i 0):=by rw [List.getD_eq_getElem?_getD,List.getElem?_eq_getElem (by omega)];rfl
  rw [this]
  unfold Crc.upd
  rw [List.foldl_append]
  rfl
 ·rintro u h1 ⟨rfl,w1,w2⟩
  refine wk ?_
  refine C6 L ?_
  refine wk ?_
  refine ret X.f203 ?_
  rw [w1,←hl,List.take_length]
  exact⟨rfl,rfl⟩
theorem Td {pb b o n cap s:Nat}{bs:List Nat}(T:Tb P0 E F K)(kp:Bk h pb [.slc b o n cap])(kb:BS h b o bs)(hl:bs.length=n)(hn:n<100000)(hs:s<2 ^ 32):
  Ct P0 E F K 179 [.int .u32 ((s:Nat):Int),.slc pb 0 1 1] h fun v h'=>v= .int .u32 ((Crc.upd s bs:Nat):Int)∧K0 h h':=by
 have l1:=kp.lt
 have l2:=kb.lt_n
 refine Ae L X.f179 X.k179 rfl rfl fun Q x cs G=>?_
 refine wk ?_
 refine cal (c:=T.ct _) (g:=?_)
 rintro _ rfl
 refine wk ?_
 refine cal (c:=U6 L X (bs:=bs) lkp lkb hl hn (Oi (c:=tabA) rfl lkp) hs) (g:=?_)
 rintro _ rfl
 refine wk ?_
 refine ret X.f179 ?_
 exact⟨rfl,kps⟩
def crcB (bs:List Nat):Nat:=pw .u32 - 1 - Crc.upd 4294967295 bs
omit L X in
theorem Wx (bs:List Nat):crcB bs<2 ^ 32:=by unfold crcB;simp only [pw];omega
theorem gw {pb b o n cap:Nat}{bs:List Nat}(T:Tb P0 E F K)(kp:Bk h pb [.slc b o n cap])(kb:BS h b o bs)(hl:bs.length=n)(hn:n<100000):
  Ct P0 E F K 155 [.slc pb 0 1 1] h fun v h'=>v= .int .u32 ((crcB bs:Nat):Int)∧K0 h h':=by
 refine Am L X.f155 X.k155 rfl rfl fun Q x cs G=>?_
 refine wk ?_
 refine cal (c:=Td L X T kp kb hl hn (by decide)) (g:=?_)
 rintro _ h1 ⟨rfl,hk⟩
 refine wk ?_
 (apply st1 L rfl;exact uj rfl rfl (by simp only [pw];exact Crc.upd_lt _ _ (by decide) (fun v hv=>by obtain⟨i,hi,e⟩:=List.getElem_of_mem hv;have:=kb.all i hi;rw [List.getD_eq_getElem?_getD,List.getElem?_eq_getElem hi]at this;rw [←e];exact this));rfl)
 refine wk ?_
 refine ret X.f155 ?_
 exact⟨rfl,kps⟩
theorem vk {b o n cap:Nat}{bs:List Nat}(T:Tb P0 E F K)(kb:BS h b o bs)(hl:bs.length=n)(hn:n<100000):
  Ct P0 E F K 113 [.slc b o n cap] h fun v h'=>v= .int .u32 ((crcB bs:Nat):Int)∧K0 h h':=by
 have l1:=kb.lt_n
 refine Am L X.f113 X.k113 rfl rfl fun Q x cs G=>?_
 refine wk ?_
 refine cal (c:=gw L X T (bs:=bs) lkp lkb hl hn) (g:=?_)
 rintro _ h1 ⟨rfl,hk⟩
 refine wk ?_
 refine ret X.f113 ?_
 exact⟨rfl,kps⟩
end
end
end Go.Ev
namespace Go.Ev
section
variable {P0:Program}{E:Env}{F:T CFn}{K:T (List AV×AV)}(L:Lg P0 E F K)(X:Fx F K)
include L X
def Ax (s:Sp)(data:List Nat):List Nat:=C1 s++leb 4 (crcB (data++C1 s))
omit L X in
theorem vm (s:Sp):(s.seq<1)∨
  (1≤s.seq∧s.len<1)∨
  (1≤s.seq∧65535<s.len)∨
  (1≤s.seq∧1≤s.len∧s.len≤65535∧s.idx<0)∨
  (1≤s.seq∧1≤s.len∧s.len≤65535∧0≤s.idx∧s.len≤s.idx)∨
  (1≤s.seq∧1≤s.len∧s.len≤65535∧0≤s.idx∧s.idx<s.len∧s.kind=1∧s.sec<0)∨
  (1≤s.seq∧1≤s.len∧s.len≤65535∧0≤s.idx∧s.idx<s.len∧s.kind=1∧4294967294<s.sec)∨
  (1≤s.seq∧1≤s.len∧s.len≤65535∧0≤s.idx∧s.idx<s.len∧s.kind=1∧0≤s.sec∧s.sec≤4294967294∧s.prev≠0)∨
  (1≤s.seq∧1≤s.len∧s.len≤65535∧0≤s.idx∧s.idx<s.len∧s.kind=1∧0≤s.sec∧s.sec≤4294967294∧s.prev=0∧s.len≠1)∨
  (1≤s.seq∧1≤s.len∧s.len≤65535∧0≤s.idx∧s.idx<s.len∧s.kind=1∧0≤s.sec∧s.sec≤4294967294∧s.prev=0∧s.len=1)∨
  (1≤s.seq∧1≤s.len∧s.len≤65535∧0≤s.idx∧s.idx<s.len∧s.kind≠1∧s.kind≠2∧s.kind≠3)∨
  (1≤s.seq∧1≤s.len∧s.len≤65535∧0≤s.idx∧s.idx<s.len∧s.kind=2∧s.sec≠0)∨
  (1≤s.seq∧1≤s.len∧s.len≤65535∧0≤s.idx∧s.idx<s.len∧s.kind=2∧s.sec=0∧s.seq≤s.prev)∨
  (1≤s.seq∧1≤s.len∧s.len≤65535∧0≤s.idx∧s.idx<s.len∧s.kind=2∧s.sec=0∧s.prev<s.seq∧s.seq - s.prev≤s.idx.toNat)∨
  (1≤s.seq∧1≤s.len∧s.len≤65535∧0≤s.idx∧s.idx<s.len∧s.kind=2∧s.sec=0∧s.prev<s.seq∧s.idx.toNat<s.seq - s.prev)∨
  (1≤s.seq∧1≤s.len∧s.len≤65535∧0≤s.idx∧s.idx<s.len∧s.kind=3∧s.sec≠0)∨
  (1≤s.seq∧1≤s.len∧s.len≤65535∧0≤s.idx∧s.idx<s.len∧s.kind=3∧s.sec=0∧s.seq≤s.prev)∨
  (1≤s.seq∧1≤s.len∧s.len≤65535∧0≤s.idx∧s.idx<s.len∧s.kind=3∧s.sec=0∧s.prev<s.seq∧s.seq - s.prev≤s.idx.toNat)∨
  (1≤s.seq∧1≤s.len∧s.len≤65535∧0≤s.idx∧s.idx<s.len∧s.kind=3∧s.sec=0∧s.prev<s.seq∧s.idx.toNat<s.seq - s.prev):=by
 by_cases h0:s.seq<1
 ·exact .inl (by omega)
 by_cases h1:s.len<1
 ·exact .inr (.inl ⟨by omega,by omega⟩)
 by_cases h2:65535<s.len
 ·exact .inr (.inr (.inl ⟨by omega,by omega⟩))
 by_cases h3:s.idx<0
 ·exact .inr (.inr (.inr (.inl ⟨by omega,by omega,by omega,by omega⟩)))
 by_cases h4:s.len≤s.idx
 ·exact .inr (.inr (.inr (.inr (.inl ⟨by omega,by omega,by omega,by omega,by omega⟩))))
 by_cases hk:s.kind=1
 ·by_cases h5:s.sec<0
  ·exact .inr (.inr (.inr (.inr (.inr (.inl ⟨by omega,by omega,by omega,by omega,by omega,by omega,by omega⟩)))))
  by_cases h6:4294967294<s.sec
  ·exact .inr (.inr (.inr (.inr (.inr (.inr (.inl ⟨by omega,by omega,by omega,by omega,by omega,by omega,by omega⟩))))))
  by_cases h7:s.prev≠0
  ·exact .inr (.inr (.inr (.inr (.inr (.inr (.inr (.inl ⟨by omega,by omega,by omega,by omega,by omega,by omega,by omega,by omega,by omega⟩)))))))
  by_cases h8:s.len≠1
  ·exact .inr (.inr (.inr (.inr (.inr (.inr (.inr (.inr (.inl ⟨by omega,by omega,by omega,by omega,by omega,by omega,by omega,by omega,by omega,by omega⟩))))))))
  exact .inr (.inr (.inr (.inr (.inr (.inr (.inr (.inr (.inr (.inl ⟨by omega,by omega,by omega,by omega,by omega,by omega,by omega,by omega,by omega,by omega⟩)))))))))
 by_cases hk2:s.kind=2
 ·by_cases h11:s.sec≠0
  ·exact .inr (.inr (.inr (.inr (.inr (.inr (.inr (.inr (.inr (.inr (.inr (.inl ⟨by omega,by omega,by omega,by omega,by omega,by omega,by omega⟩)))))))))))
  by_cases h12:s.seq≤s.prev
  ·exact .inr (.inr (.inr (.inr (.inr (.inr (.inr (.inr (.inr (.inr (.inr (.inr (.inl ⟨by omega,by omega,by omega,by omega,by omega,by omega,by omega,by omega⟩))))))))))))
  by_cases h13:s.seq - s.prev≤s.idx.toNat
  ·exact .inr (.inr (.inr (.inr (.inr (.inr (.inr (.inr (.inr (.inr (.inr (.inr (.inr (.inl ⟨by omega,by omega,by omega,by omega,by omega,by omega,by omega,by omega,by omega⟩)))))))))))))
  exact .inr (.inr (.inr (.inr (.inr (.inr (.inr (.inr (.inr (.inr (.inr (.inr (.inr (.inr (.inl ⟨by omega,by omega,by omega,by omega,by omega,by omega,by omega,by omega,by omega⟩))))))))))))))
 by_cases hk3:s.kind=3
 ·by_cases h15:s.sec≠0
  ·exact .inr (.inr (.inr (.inr (.inr (.inr (.inr (.inr (.inr (.inr (.inr (.inr (.inr (.inr (.inr (.inl ⟨by omega,by omega,by omega,by omega,by omega,by omega,by omega⟩)))))))))))))))
  by_cases h16:s.seq≤s.prev
  ·exact .inr (.inr (.inr (.inr (.inr (.inr (.inr (.inr (.inr (.inr (.inr (.inr (.inr (.inr (.inr (.inr (.inl ⟨by omega,by omega,by omega,by omega,by omega,by omega,by omega,by omega⟩))))))))))))))))
  by_cases h17:s.seq - s.prev≤s.idx.toNat
  ·exact .inr (.inr (.inr (.inr (.inr (.inr (.inr (.inr (.inr (.inr (.inr (.inr (.inr (.inr (.inr (.inr (.inr (.inl ⟨by omega,by omega,by omega,by omega,by omega,by omega,by omega,by omega,by omega⟩)))))))))))))))))
  exact .inr (.inr (.inr (.inr (.inr (.inr (.inr (.inr (.inr (.inr (.inr (.inr (.inr (.inr (.inr (.inr (.inr (.inr (⟨by omega,by omega,by omega,by omega,by omega,by omega,by omega,by omega,by omega⟩))))))))))))))))))
 exact .inr (.inr (.inr (.inr (.inr (.inr (.inr (.inr (.inr (.inr (.inl ⟨by omega,by omega,by omega,by omega,by omega,by omega,by omega,by omega⟩))))))))))
theorem Yo {h:H}{s:Sp}(ok:s.Ok):Ct P0 E F K 74 [.agg (spC s)] h fun v h'=>v= .bool (decide s.Valid)∧K0 h h':=by
 have hsq:=ok.seq
 have hpv:=ok.prev
 have hu:0≤s.idx→u64 s.idx=s.idx.toNat∨18446744073709551616≤s.idx:=by unfold u64;omega
 rcases vm s with hc|hc|hc|hc|hc|hc|hc|hc|hc|hc|hc|hc|hc|hc|hc|hc|hc|hc|hc
 all_goals
  refine Am L X.f74 X.k74 rfl rfl fun Q x cs G=>?_
  refine wk ?_
  (try((apply st1 L rfl;exact Ia rfl;rfl);refine wk ?_;(apply st1 L rfl;exact Ut rfl rfl rfl (by omega) (by simp only [pw];omega);rfl);refine wk ?_))
  (first
  |(refine ret X.f74 ?_;exact⟨by rw [show decide s.Valid=false from decide_eq_false (by unfold Sp.Valid;omega)];rfl,kps⟩)
  |(refine ret X.f74 ?_;exact⟨by rw [show decide s.Valid=true from decide_eq_true (by unfold Sp.Valid;omega)];rfl,kps⟩))
end
section
variable {P0:Program}{E:Env}{F:T CFn}{K:T (List AV×AV)}(L:Lg P0 E F K)(X:Fx F K)
include L X
section
variable {h:H}
theorem gx {v n:Nat}(hn:1≤n∧n≤8)(hv:v<256 ^ n)(hv2:v<18446744073709551616):
  Ct P0 E F K 212 [.int .u64 ((v:Nat):Int),eI ((n:Nat):Int)] h fun u h'=> ∃b,u= .tup [.slc b 0 n n,eI ((0:Nat):Int)]∧Bk h' b (Bm (leb n v))∧h.n≤b∧K0 h h':=by
 have hz:=Aai hv
 have loop: ∀(Q:Nat→AV→Prop) (x:AFr) (cs:List AFr) (l:List (Nat×Option AV)),(∀u h',(∃b,u= .tup [.slc b 0 n n,eI ((0:Nat):Int)]∧Bk h' b (Bm (leb n v))∧h.n≤b∧K0 h h')→GO P0 E Q (finish u cs h' x))→
   TSub (tms [(29,some (eI ((0:Nat):Int))),(28,some (eI ((n:Nat):Int))),(6,some (.slc h.n 0 n n)),(0,some (.int .u64 ((v:Nat):Int)))]) (tms l)→
   Good P0 E Q ⟨⟨212,cf212.ntmps,tms l,[.code (.loop c212_23),.inBlock 1,.code c212_28],[],.run,false,none⟩,x::cs,hp (h.n+1) h.t [(h.n,some (cl (rl [.int .u8 ((0:Nat):Int)] n)))]⟩:=by
  intro Q x cs l G ht
  refine En L ht ?_
  rw [D9]
  refine Co L (α:= Unit) (T:=fun i _=> [(29,some (eI ((i:Nat):Int))),(28,some (eI ((n:Nat):Int))),(6,some (.slc h.n 0 n n)),(0,some (.int .u64 ((v:Nat):Int)))]) (n:=n)
   (R:=fun i _ h1=>Bk h1 h.n (Bm (leb i v++List.replicate (n - i) 0))∧K0 h h1) (i0:=0) () tsb ⟨by rw [leb,List.nil_append,Nat.sub_zero];exact lkp,kps⟩ (Nat.zero_le _) ?_ ?_
  ·rintro i _ h1 hi ⟨w1,w2⟩ ih
   have hd:List.replicate (n - i) 0=0::List.replicate (n - (i+1)) 0:=by rw [show n - i=(n - (i+1))+1 by omega];rfl
   rw [hd]at w1
   have hlen2:i<(Bm (leb i v++0::List.replicate (n - (i+1)) 0)).length:=by
    rw [Fo,List.length_append,List.length_cons,Bj];omega
   have l1:=w1.lt
   refine wk ?_
   (apply st1 L rfl;exact fc (s:=8*i) rfl rfl (by show 8*i≤64;omega);rfl)
   refine wk ?_
   (apply st1 L rfl;exact Rh rfl rfl;rfl)
   refine wk ?_
   refine ih () _ _ ⟨?_,kps⟩ tsb
   refine Oi ?_ lkp
   rw [fv _ _ _ _ _ (by rw [Bj]),Sz,List.append_assoc]
   rfl
  ·rintro _ h1 ⟨w1,w2⟩
   refine wk ?_
   refine ret X.f212 ?_
   rw [Nat.sub_self,List.replicate_zero,List.append_nil]at w1
   exact⟨h.n,rfl,lkp,Nat.le_refl _,kps⟩
 by_cases h8:n<8
 ·refine Ae L X.f212 X.k212 rfl rfl fun Q x cs G=>?_
  refine wk ?_
  (apply st1 L rfl;exact fc (s:=8*n) rfl rfl (by show 8*n≤64;omega);rfl)
  rw [hz]
  refine wk ?_
  exact loop Q x cs _ G tsb
 ·refine Ae L X.f212 X.k212 rfl rfl fun Q x cs G=>?_
  refine wk ?_
  exact loop Q x cs _ G tsb
structure WrR (h:H)(lo w:Nat)(bs:List Nat):Prop where
 ex:(bs= []∧Bk h w [.nils])∨(0<bs.length∧ ∃b,Bk h w [.slc b 0 bs.length (Aa+1)]∧BS h b 0 bs∧lo≤b∧b≠w)
 lo:lo≤w
omit L X in
theorem WrR.k0 {h h':H}{lo w:Nat}{bs:List Nat}(k:K0 h h')(q:WrR h lo w bs):WrR h' lo w bs:=by
 refine⟨?_,q.lo⟩
 rcases q.ex with⟨e,k1⟩|⟨e,b,k1,k2,k3⟩
 ·exact .inl ⟨e,Ah k k1⟩
 ·exact .inr ⟨e,b,Ah k k1,k2.k0 k,k3⟩
theorem Wy {lo w b2 n cap:Nat}{bs new:List Nat}(q:WrR h lo w bs)(k2:BS h b2 0 new)(hn:new.length=n)(h1:0<n)(h2:bs.length+n<100000):
  Ct P0 E F K 211 [.ptr w 0,.slc b2 0 n cap,eI ((0:Nat):Int)] h fun v h'=>v=eI ((0:Nat):Int)∧WrR h' lo w (bs++new)∧Kp (fun j=>lo≤j) h h':=by
 have l2:=k2.lt_n
 have a2:=k2.all
 have hlo:=q.lo
 rcases q.ex with⟨rfl,kw⟩|⟨hp0,b,kw,kb,hb,hbw⟩
 ·have lw:=kw.lt
  have f2:BS (hp h.n h.t []) b2 0 new:=k2
  refine B3 L X.f211 X.k211 rfl rfl fun Q x cs G=>?_
  refine wk ?_
  (apply st1 L rfl;exact Ft (new:=Bm new) rfl rfl (f2.slr hn) h1 (by omega);rfl)
  refine wk ?_
  refine ret X.f211 ?_
  refine⟨rfl,⟨.inr ⟨by rw [List.nil_append];omega,h.n,?_,by rw [List.nil_append];exact oj (by omega) (Ga a2),by omega,by omega⟩,hlo⟩,kps⟩
  rw [List.nil_append,hn];exact lkp
 ·have lw:=kw.lt
  have lb:=kb.lt_n
  have a1:=kb.all
  have f2:BS (hp h.n h.t []) b2 0 new:=k2
  have f1:BS (hp h.n h.t []) b 0 bs:=kb
  refine B3 L X.f211 X.k211 rfl rfl fun Q x cs G=>?_
  refine wk ?_
  (apply st1 L rfl;exact Fi (old:=Bm bs) (new:=Bm new) rfl rfl (f1.slr rfl) (f2.slr hn) h1 (by omega) (D7 _);rfl)
  refine wk ?_
  refine ret X.f211 ?_
  refine⟨rfl,⟨.inr ⟨by rw [List.length_append];omega,h.n,?_,?_,by omega,by omega⟩,hlo⟩,kps⟩
  ·rw [List.length_append,hn];exact lkp
  ·rw [H9];exact oj (by omega) (Ga (a1.app a2))
theorem ow {lo w v n:Nat}{bs:List Nat}(q:WrR h lo w bs)(hn:1≤n∧n≤8)(hv:v<256 ^ n)(hv2:v<18446744073709551616)(h2:bs.length+n<100000):
  Ct P0 E F K 193 [.ptr w 0,.int .u64 ((v:Nat):Int),eI ((n:Nat):Int)] h fun u h'=>u=eI ((0:Nat):Int)∧WrR h' lo w (bs++leb n v)∧Kp (fun j=>lo≤j) h h':=by
 refine B3 L X.f193 X.k193 rfl rfl fun Q x cs G=>?_
 refine wk ?_
 refine cal (c:=gx L X hn hv hv2) (g:=?_)
 rintro _ h1 ⟨b,rfl,w1,w2,w3⟩
 refine wk ?_
 refine cal (c:=Wy L X (q.k0 (by exact w3)) (Ke w1 (He _ _)) (Bj _ _) hn.1 h2) (g:=?_)
 rintro _ h3 ⟨rfl,w4,w5⟩
 refine wk ?_
 refine ret X.f193 ?_
 exact⟨rfl,w4,Kp.trS w5 (fun _ _ e=>e) (w3.mono fun _ e=>e.elim)⟩
theorem Qf {lo w n:Nat}{bs:List Nat}(q:WrR h lo w bs)(hn:bs.length=n)(h1:0<n∧n<1000):Ct P0 E F K 194 [.ptr w 0] h fun v h'=> ∃b,v= .slc b 0 n (Aa+1)∧BS h' b 0 bs∧h.n≤b∧K0 h h':=by
 rcases q.ex with⟨rfl,kw⟩|⟨hp0,b,kw,kb,hb,hbw⟩
 ·exact absurd hn (by simp;omega)
 ·rw [hn]at kw
  refine Am L X.f194 X.k194 rfl rfl fun Q x cs G=>?_
  refine wk ?_
  refine cal (c:=Ov L X (ze kb) hn h1) (g:=?_)
  rintro _ h1 ⟨b',rfl,w1,w2,w3⟩
  simp only [Al]at w2
  refine wk ?_
  refine ret X.f194 ?_
  exact⟨b',rfl,w1,w2,kps⟩
end
end
section
variable {P0:Program}{E:Env}{F:T CFn}{K:T (List AV×AV)}(L:Lg P0 E F K)(X:Fx F K)
include L X
def fC (x:Nat×Nat):List AV:= [.int .u64 ((x.1:Nat):Int),eI ((x.2:Nat):Int)]
def fB (l:List (Nat×Nat)):List Nat:=l.flatMap fun x=>leb x.2 x.1
structure FOk (x:Nat×Nat):Prop where
 n:1≤x.2∧x.2≤8
 v:x.1<256 ^ x.2
 v2:x.1<18446744073709551616
omit L X in
theorem gy (l:List (Nat×Nat)): ∀x∈l,(fC x).length=2:=fun _ _=>rfl
omit L X in
theorem ox {l:List (Nat×Nat)}{i:Nat}{x:Nat×Nat}(h:l[i]?=some x):fB (l.take (i+1))=fB (l.take i)++leb x.2 x.1:=by
 unfold fB;rw [List.take_add_one,h,List.flatMap_append];simp
omit L X in
theorem ru {l:List (Nat×Nat)}(hl: ∀x∈l,FOk x):(fB l).length≤8*l.length:=by
 induction l with
 |nil=>exact Nat.le_refl _
 |cons a r ih=>
  have h1:=(hl a (List.mem_cons_self ..)).n
  have h2:=ih fun x hx=>hl x (List.mem_cons_of_mem _ hx)
  unfold fB at*
  rw [List.flatMap_cons,List.length_append,Bj,List.length_cons];omega
section
variable {h:H}
theorem U7 {x:Nat×Nat}(ok:FOk x):Ct P0 E F K 214 [.agg (fC x)] h fun u h'=> ∃b,u= .tup [.slc b 0 x.2 x.2,eI ((0:Nat):Int)]∧Bk h' b (Bm (leb x.2 x.1))∧h.n≤b∧K0 h h':=by
 obtain⟨v,n⟩:=x
 unfold fC
 refine Am L X.f214 X.k214 rfl rfl fun Q x cs G=>?_
 refine wk ?_
 refine cal (c:=gx L X ok.n ok.v ok.v2) (g:=?_)
 rintro _ h1 ⟨b,rfl,w1,w2,w3⟩
 simp only [Al]at w2
 refine wk ?_
 refine ret X.f214 ?_
 exact⟨b,rfl,lkp,by omega,kps⟩
theorem oy {lb k:Nat}{l:List (Nat×Nat)}(hb:Bk h lb (l.flatMap fC))(hk:l.length=k)(hk1:0<k∧k<1000)(hl: ∀x∈l,FOk x):
  Ct P0 E F K 213 [.slc lb 0 k k,.fn (.func 214) [] []] h fun u h'=> ∃b,u= .tup [.slc b 0 (fB l).length (Aa+1),eI ((0:Nat):Int)]∧BS h' b 0 (fB l)∧h.n≤b∧K0 h h':=by
 have l1:=hb.lt
 have hlen:=Dh l (gy l)
 refine Ae L X.f213 X.k213 rfl rfl fun Q x cs G=>?_
 refine wk ?_
 refine Co L (α:= AV) (T:=fun i v=> [(12,some (eI ((i:Nat):Int))),(11,some (eI ((k:Nat):Int))),(10,some (.slc lb 0 k k)),(4,some v),(1,some (.fn (.func 214) [] []))]) (n:=k)
  (R:=fun i v h2=>((i=0∧v= .nils)∨ ∃b,v= .slc b 0 (fB (l.take i)).length (Aa+1)∧BS h2 b 0 (fB (l.take i))∧h.n≤b)∧Kp (fun j=>h.n≤j) h h2) (i0:=0) .nils tsb ⟨.inl ⟨rfl,rfl⟩,kps⟩ (Nat.zero_le _) ?_ ?_
 ·rintro i v h2 hi ⟨q1,q2⟩ ih
  have hx:l[i]?=some l[i]:=List.getElem?_eq_getElem (by omega)
  have hok:=hl _ (List.getElem_mem (show i<l.length by omega))
  have hdt:=E0 l (gy l) i _ hx
  rw [ox hx]at ih
  have hble:=ru (l:=l.take i) fun x hx=>hl x (List.mem_of_mem_take hx)
  rw [List.length_take]at hble
  generalize l[i]=x at*
  obtain⟨xv,xn⟩:=x
  have hdt':i*2+2≤(l.flatMap fC).length∧((l.flatMap fC).drop (i*2)).take 2= [.int .u64 ((xv:Nat):Int),eI ((xn:Nat):Int)]:=hdt
  have hb2:Bk h2 lb (l.flatMap fC):=As q2 (by omega) hb
  have n2:=q2.n
  have hkn:=hok.n
  simp only at hkn
  refine wk ?_
  (apply st1 L rfl;exact Br hb2.rk hdt' rfl;rfl)
  refine wk ?_
  refine cal (c:=U7 L X (x:=(xv,xn)) hok) (g:=?_)
  rintro _ h3 ⟨b3,rfl,w1,w2,w3⟩
  simp only [Al]at w2
  have n3:=w3.n
  simp only [Al]at n3
  have f3:BS (hp h3.n h3.t []) b3 0 (leb xn xv):=Ke w1 (He _ _)
  have a3:=f3.all
  rcases q1 with⟨rfl,rfl⟩|⟨b,rfl,kb,hlo⟩
  ·refine wk ?_
   (apply st1 L rfl;exact Ft (new:=Bm (leb xn xv)) rfl rfl (f3.slr (Bj _ _)) (by omega) (by omega);rfl)
   refine wk ?_
   refine ih (.slc h3.n 0 xn (Aa+1)) _ _ ⟨.inr ⟨h3.n,?_,?_,by omega⟩,kps⟩ ?_
   rotate_left
   ·rw [List.take_zero];exact Ga a3
   ·exact tsb
   ·rw [List.take_zero];show AV.slc h3.n 0 xn _=_;rw [show(fB []++leb xn xv).length=xn from Bj _ _]
  ·have lbb:=kb.lt_n
   have f1:BS (hp h3.n h3.t []) b 0 (fB (l.take i)):=lkb
   have a1:=f1.all
   refine wk ?_
   (apply st1 L rfl;exact Fi (old:=Bm (fB (l.take i))) (new:=Bm (leb xn xv)) rfl rfl (f1.slr rfl) (f3.slr (Bj _ _)) (by omega) (by omega) (D7 _);rfl)
   refine wk ?_
   refine ih (.slc h3.n 0 ((fB (l.take i)).length+xn) (Aa+1)) _ _ ⟨.inr ⟨h3.n,?_,?_,by omega⟩,kps⟩ ?_
   rotate_left
   ·rw [H9];exact Ga (a1.app a3)
   ·exact tsb
   ·rw [List.length_append,Bj]
 ·rintro v h2 ⟨q1,q2⟩
  rcases q1 with⟨e,_⟩|⟨b,rfl,kb,hlo⟩
  ·omega
  ·rw [←hk,List.take_length]at*
   refine wk ?_
   refine ret X.f213 ?_
   exact⟨b,rfl,kb,hlo,q2.cut (Nat.le_refl _)⟩
theorem Qg {lb k:Nat}{l:List (Nat×Nat)}(hb:Bk h lb (l.flatMap fC))(hk:l.length=k)(hk1:0<k∧k<100)(hl: ∀x∈l,FOk x):
  Ct P0 E F K 172 [.slc lb 0 k k] h fun u h'=> ∃b,u= .slc b 0 (fB l).length (Aa+1)∧BS h' b 0 (fB l)∧h.n≤b∧K0 h h':=by
 have l1:=hb.lt
 have hble:=ru hl
 have hpos:0<(fB l).length:=by
  cases l with
  |nil=>simp at hk;omega
  |cons a r=>
   have:=(hl a (List.mem_cons_self ..)).n
   unfold fB;rw [List.flatMap_cons,List.length_append,Bj];omega
 refine Am L X.f172 X.k172 rfl rfl fun Q x cs G=>?_
 refine wk ?_
 have q:WrR (hp (h.n+1) h.t [(h.n,some (cl [.nils]))]) h.n h.n []:=⟨.inl ⟨rfl,lkp⟩,Nat.le_refl _⟩
 have aa:Ct P0 E F K 195 [.ptr h.n 0,.slc lb 0 k k] (hp (h.n+1) h.t [(h.n,some (cl [.nils]))]) fun v h'=>v=eI ((0:Nat):Int)∧WrR h' h.n h.n (fB l)∧Kp (fun j=>h.n≤j) (hp (h.n+1) h.t [(h.n,some (cl [.nils]))]) h':=by
  clear G
  refine Ae L X.f195 X.k195 rfl rfl fun Q x cs G=>?_
  refine wk ?_
  refine cal (c:=oy L X (lb:=lb) (l:=l) lkp hk (by omega) hl) (g:=?_)
  rintro _ h2 ⟨b,rfl,w1,w2,w3⟩
  refine wk ?_
  refine cal (c:=Wy L X (q.k0 (by exact w3)) w1 rfl hpos (by rw [List.length_nil];omega)) (g:=?_)
  rintro _ h3 ⟨rfl,w4,w5⟩
  refine wk ?_
  refine ret X.f195 ?_
  exact⟨rfl,w4,Kp.trS w5 (fun _ _ e=>e) (w3.mono fun _ e=>e.elim)⟩
 refine cal (c:=aa) (g:=?_)
 rintro _ h2 ⟨rfl,w1,w2⟩
 have n2:=w2.n
 simp only [Al]at n2
 refine wk ?_
 refine cal (c:=Qf L X w1 rfl (by omega)) (g:=?_)
 rintro _ h3 ⟨b,rfl,w3,w4,w5⟩
 refine wk ?_
 refine ret X.f172 ?_
 refine⟨b,rfl,w3,by omega,?_⟩
 have k2:Kp (fun j=>h.n≤j) h h2:=Kp.trS w2 (fun _ _ e=>e) kps
 exact Kp.cut (Kp.tr0 w5 k2) (Nat.le_refl _)
end
end
section
variable {P0:Program}{E:Env}{F:T CFn}{K:T (List AV×AV)}(L:Lg P0 E F K)(X:Fx F K)
include L X
omit L X in
theorem oz:leb 4 1280591427= [67,70,84,76]:=by decide
def spF (s:Sp):List (Nat×Nat):= [(1280591427,4),(s.kind,1),(0,3),(s.seq,8),(s.prev,8),(s.sec.toNat,4),(s.idx.toNat,4),(s.len.toNat,4)]
structure Sp.Fit (s:Sp):Prop where
 v:s.Valid
 ok:s.Ok
omit L X in
theorem vn {s:Sp}(q:s.Fit): ∀x∈spF s,FOk x:=by
 obtain⟨⟨h1,h2,h3,h4,h5,h6⟩,⟨k1,k2,k3⟩⟩:=q
 intro x hx
 have h8:(256:Nat) ^ 8=18446744073709551616:=by decide
 have h44:(256:Nat) ^ 4=4294967296:=by decide
 unfold spF at hx
 simp only [List.mem_cons,List.not_mem_nil,or_false]at hx
 rcases hx with rfl|rfl|rfl|rfl|rfl|rfl|rfl|rfl
 ·exact⟨by simp,by simp [h44],by simp⟩
 ·exact⟨by simp,by simpa using k1,by simp only;omega⟩
 ·exact⟨by simp,by simp,by simp⟩
 ·exact⟨by simp,by simp only [h8];exact k2,k2⟩
 ·exact⟨by simp,by simp only [h8];exact k3,k3⟩
 ·exact⟨by simp,by simp only [h44];omega,by simp only;omega⟩
 ·exact⟨by simp,by simp only [h44];omega,by simp only;omega⟩
 ·exact⟨by simp,by simp only [h44];omega,by simp only;omega⟩
omit L X in
theorem zi {s:Sp}(q:s.Fit):fB (spF s)++List.replicate 24 0=C1 s:=by
 obtain⟨⟨h1,h2,h3,h4,h5,h6⟩,⟨k1,k2,k3⟩⟩:=q
 have e1:u64 s.sec=s.sec.toNat:=by unfold u64;omega
 have e2:u64 s.idx=s.idx.toNat:=by unfold u64;omega
 have e3:u64 s.len=s.len.toNat:=by unfold u64;omega
 unfold C1 fB spF mag
 rw [e1,e2,e3]
 simp only [List.flatMap_cons,List.flatMap_nil,oz]
 simp [leb,Nat.mod_eq_of_lt k1]
omit L X in
theorem o0 (s:Sp):(fB (spF s)).length=36:=by
 unfold fB spF
 simp only [List.flatMap_cons,List.flatMap_nil,List.length_append,Bj,List.length_nil]
section
variable {h:H}
theorem gz {db do_ dn dcap eb en ecap:Nat}{data ex:List Nat}(T:Tb P0 E F K)(kd:BS h db do_ data)(hd:data.length=dn)(hd1:0<dn∧dn<900)(ke:BS h eb 0 ex)(he:ex.length=en)(he1:en=60)(hc:ecap=Aa+1):
  Ct P0 E F K 71 [.slc db do_ dn dcap,.slc eb 0 en ecap] h fun v h'=>v= .int .u64 ((crcB (data++ex):Nat):Int)∧K0 h h':=by
 subst he1 hc
 have l1:=kd.lt_n
 have l2:=ke.lt_n
 have a1:=Wx (data++ex)
 refine Ae L X.f71 X.k71 rfl rfl fun Q x cs G=>?_
 refine wk ?_
 refine cal (c:=Lm L X (b1:=db) (o1:=do_) (n1:=dn) (c1:=dcap) (b2:=eb) (o2:=0) (n2:=60) (c2:=Aa+1) (bs1:=data) (bs2:=ex) lkp lkb lkb hd he (by omega) (by omega)) (g:=?_)
 rintro _ h2 ⟨b,rfl,w1,w2,w3⟩
 refine wk ?_
 refine cal (c:=vk L X T w1 (by rw [List.length_append];omega) (by omega)) (g:=?_)
 rintro _ h3 ⟨rfl,w4⟩
 refine wk ?_
 refine ret X.f71 ?_
 exact⟨rfl,kps⟩
theorem Qh {db do_ dn dcap:Nat}{s:Sp}{data:List Nat}(T:Tb P0 E F K)(q:s.Fit)(kd:BS h db do_ data)(hd:data.length=dn)(hd1:0<dn∧dn<900):
  Ct P0 E F K 145 [.agg (spC s),.slc db do_ dn dcap] h fun v h'=> ∃b,v= .tup [.slc b 0 64 (Aa+1),eI ((0:Nat):Int)]∧BS h' b 0 (Ax s data)∧h.n≤b∧K0 h h':=by
 have l1:=kd.lt_n
 have hf:=vn q
 have hB:=zi q
 have hL:=o0 s
 have hv:=q.v
 have hk:=q.ok
 obtain⟨v1,v2,v3,v4,v5,v6⟩:=hv
 obtain⟨k1,k2,k3⟩:=hk
 have hc:=Wx (data++C1 s)
 have e1:u64 s.sec=s.sec.toNat:=by unfold u64;omega
 have e2:u64 s.idx=s.idx.toNat:=by unfold u64;omega
 have e3:u64 s.len=s.len.toNat:=by unfold u64;omega
 refine Ae L X.f145 X.k145 rfl rfl fun Q x cs G=>?_
 refine wk ?_
 refine cal (c:=Yo L X q.ok) (g:=?_)
 rintro _ h2 ⟨rfl,w1⟩
 rw [decide_eq_true q.v]
 have n2:=w1.n
 simp only [Al]at n2
 refine wk ?_
 (apply st1 L rfl;exact Ia rfl;rfl)
 rw [e1]
 refine wk ?_
 (apply st1 L rfl;exact Ia rfl;rfl)
 rw [e2]
 refine wk ?_
 (apply st1 L rfl;exact Ia rfl;rfl)
 rw [e3]
 refine wk ?_
 refine cal (c:=Qg L X (k:=8) (l:=spF s) lkp rfl (by omega) hf) (g:=?_)
 rintro _ h3 ⟨b3,rfl,w2,w3,w4⟩
 have n3:=w4.n
 simp only [Al]at n3 w3
 rw [hL]
 refine wk ?_
 have f3:BS (hp h3.n h3.t []) b3 0 (fB (spF s)):=w2
 have a3:=f3.all
 (apply st1 L rfl;exact rq (zero:= [.int .u8 ((0:Nat):Int)]) (old:=Bm (fB (spF s))) rfl rfl (by omega) (f3.slr hL) rfl (by omega) (by omega) (by omega);rfl)
 have hB2:Bm (fB (spF s))++rl [.int .u8 ((0:Nat):Int)] 24=Bm (C1 s):=by rw [D9,H9,hB]
 rw [show 60 - 36=24 from rfl,hB2]
 have ah:=U0 k1
 have hl60:=Jl s
 have n4:h.n+1≤h2.n:=n2
 refine wk ?_
 have f4:BS (hp (h3.n+1) h3.t [(h3.n,some (cl (Bm (C1 s)))),(b3,none)]) h3.n 0 (C1 s):=Ga ah
 have k4:BS (hp (h3.n+1) h3.t [(h3.n,some (cl (Bm (C1 s)))),(b3,none)]) db do_ data:=uz (oj (by omega) (by exact lkb))
 refine cal (c:=gz L X T k4 hd hd1 f4 hl60 rfl rfl) (g:=?_)
 rintro _ h5 ⟨rfl,w5⟩
 have n5:=w5.n
 simp only [Al]at n5
 refine wk ?_
 refine cal (c:=Qg L X (k:=1) (l:= [(crcB (data++C1 s),4)]) lkp rfl (by omega) (fun x hx=>by cases hx with|head=>exact⟨by simp,by simpa using hc,by simp only;omega⟩|tail _ h=>cases h)) (g:=?_)
 rintro _ h6 ⟨b6,rfl,w6,w7,w8⟩
 have n6:=w8.n
 simp only [Al]at n6 w7
 have e6:fB [(crcB (data++C1 s),4)]=leb 4 (crcB (data++C1 s)):=by unfold fB;simp
 rw [e6]at*
 rw [Bj]
 refine wk ?_
 have f6:BS (hp h6.n h6.t []) b6 0 (leb 4 (crcB (data++C1 s))):=w6
 refine cal (c:=Lm L X (b1:=h3.n) (o1:=0) (n1:=60) (c1:=Aa+1) (b2:=b6) (o2:=0) (n2:=4) (c2:=Aa+1) (bs1:=C1 s) (bs2:=leb 4 (crcB (data++C1 s))) lkp lkb lkb hl60 (Bj _ _) (by omega) (by omega)) (g:=?_)
 rintro _ h7 ⟨b7,rfl,x1,x2,x3⟩
 simp only [Al]at x2
 refine wk ?_
 refine ret X.f145 ?_
 refine⟨b7,rfl,x1,by omega,?_⟩
 have k3':Kp (fun j=>h.n≤j) h h3:=kps
 have k5':Kp (fun j=>h.n≤j) h h5:=kps
 have k6':Kp (fun j=>h.n≤j) h h6:=kps
 have k7':Kp (fun j=>h.n≤j) h h7:=kps
 exact k7'.cut (Nat.le_refl _)
end
end
section
variable {P0:Program}{E:Env}{F:T CFn}{K:T (List AV×AV)}(L:Lg P0 E F K)(X:Fx F K)
include L X
section
variable {h:H}
theorem Qi {e:Int}:Ct P0 E F K 110 [.bool true,.int .i64 e] h fun v h'=>v= .tup []∧h'=h:=by
 refine Ae L X.f110 X.k110 rfl rfl fun Q x cs G=>?_
 refine wk ?_
 refine ret X.f110 ?_
 exact⟨rfl,rfl⟩
theorem U8 {d fm bb:Nat}{D:Dv}(hd:Bk h d (dvC D fm bb)):Ct P0 E F K 88 [.ptr d 0] h fun v h'=>v= .bool (!D.off)∧h'=h:=by
 refine Am L X.f88 X.k88 rfl rfl fun Q x cs G=>?_
 refine wk ?_
 refine cal (c:=F4 L X hd) (g:=?_)
 rintro _ rfl
 have hd':=hd
 unfold dvC dvL at hd'
 refine wk ?_
 refine ret X.f88 ?_
 exact⟨rfl,rfl⟩
theorem F5 {sz:Nat}(hz:12≤sz∧sz≤8192):Ct P0 E F K 86 [.int .i64 ((sz:Nat):Int)] h fun v h'=>v= .int .i64 (((sz - 4) / 8:Nat):Int)∧h'=h:=by
 refine Am L X.f86 X.k86 rfl rfl fun Q x cs G=>?_
 refine wk ?_
 refine ret X.f86 ?_
 exact⟨rfl,rfl⟩
theorem U9 {e:Ent}:Ct P0 E F K 122 [.agg (Ay e)] h fun v h'=>v= .bool (decide (¬e.Ok))∧K0 h h':=by
 obtain⟨a,b⟩:=e
 have hT: ¬(0≤a∧a≤4294967294∧ -1≤b∧b≤4294967294)→decide (¬Ent.Ok (a,b))=true:=fun q=>decide_eq_true (by unfold Ent.Ok;exact q)
 have hF:(0≤a∧a≤4294967294∧ -1≤b∧b≤4294967294)→decide (¬Ent.Ok (a,b))=false:=fun q=>decide_eq_false (by unfold Ent.Ok;exact fun r=>r q)
 by_cases q0:a<0
 ·rw [hT (by omega)]
  refine Am L X.f122 X.k122 rfl rfl fun Q x cs G=>?_
  refine wk ?_
  refine ret X.f122 ?_
  exact⟨rfl,kps⟩
 by_cases q1:4294967294<a
 ·rw [hT (by omega)]
  refine Am L X.f122 X.k122 rfl rfl fun Q x cs G=>?_
  refine wk ?_
  refine ret X.f122 ?_
  exact⟨rfl,kps⟩
 by_cases q2:b< -1
 ·rw [hT (by omega)]
  refine Am L X.f122 X.k122 rfl rfl fun Q x cs G=>?_
  refine wk ?_
  refine ret X.f122 ?_
  exact⟨rfl,kps⟩
 by_cases q3:4294967294<b
 ·rw [hT (by omega)]
  refine Am L X.f122 X.k122 rfl rfl fun Q x cs G=>?_
  refine wk ?_
  refine ret X.f122 ?_
  exact⟨rfl,kps⟩
 ·rw [hF (by omega)]
  refine Am L X.f122 X.k122 rfl rfl fun Q x cs G=>?_
  refine wk ?_
  refine ret X.f122 ?_
  exact⟨rfl,kps⟩
theorem Ao {e:Int}:Ct P0 E F K 48 [.bool true,.int .i64 e] h fun v h'=>v= .tup []∧h'=h:=by
 refine Ae L X.f48 X.k48 rfl rfl fun Q x cs G=>?_
 refine wk ?_
 refine ret X.f48 ?_
 exact⟨rfl,rfl⟩
theorem Bc {e:Int}:CtP P0 E F K 48 [.bool false,.int .i64 e] h fun v h'=>v= .ifc 44 (.int .i64 e)∧h'=h:=by
 refine Ea L X.f48 X.k48 rfl rfl rfl fun Q x cs G=>?_
 refine wk ?_
 refine Sy L rfl rfl ?_
 refine An L X.f48 ?_
 exact G _ _ ⟨rfl,rfl⟩
theorem Yp {lo:Nat}{v:AV}{l:List Ent}(q:EL h lo v l)(hlen:l.length<1000)(hok: ∀e∈l,e.Ok):Ct P0 E F K 192 [v,.fn (.func 122) [] []] h fun u h'=>u= .int .i64 (-1)∧K0 h h':=by
 rcases q.len with⟨rfl,rfl⟩|⟨hpos,b,rfl,hb,-⟩
 ·refine Ae L X.f192 X.k192 rfl rfl fun Q x cs G=>?_
  refine wk ?_
  refine A9 L ?_
  refine wk ?_
  refine ret X.f192 ?_
  exact⟨rfl,kps⟩
 ·have hl2:=A4 l
  refine Ae L X.f192 X.k192 rfl rfl fun Q x cs G=>?_
  refine wk ?_
  refine Co L (α:= Unit) (T:=fun i _=> [(8,some (.int .i64 ((i:Nat):Int))),(7,some (.int .i64 ((l.length:Nat):Int))),(0,some (.slc b 0 l.length (Aa+2))),(1,some (.fn (.func 122) [] []))]) (n:=l.length)
   (R:=fun i _ h2=>True∧K0 h h2) (i0:=0) () tsb ⟨trivial,kps⟩ (Nat.zero_le _) ?_ ?_
  ·rintro i _ h2 hi ⟨-,k2⟩ ih
   have hx:l[i]?=some l[i]:=List.getElem?_eq_getElem hi
   have hdt:=E0 l (Id l) i _ hx
   have ho:=hok _ (List.getElem_mem hi)
   have hb2:=Ah k2 hb
   refine wk ?_
   (apply st1 L rfl;exact Br hb2.rk hdt rfl;rfl)
   refine wk ?_
   refine cal (c:=U9 L X) (g:=?_)
   rintro _ h3 ⟨rfl,k3⟩
   rw [decide_eq_false (by simpa using ho)]
   refine wk ?_
   exact ih () _ _ ⟨trivial,kps⟩ tsb
  ·rintro _ h2 ⟨-,k2⟩
   refine wk ?_
   refine ret X.f192 ?_
   exact⟨rfl,k2⟩
theorem E1 {lo:Nat}{v:AV}{l:List Ent}(q:EL h lo v l)(hlen:l.length<1000)(hok: ∀e∈l,e.Ok):Ct P0 E F K 169 [v,.fn (.func 122) [] []] h fun u h'=>u= .bool false∧K0 h h':=by
 refine Ae L X.f169 X.k169 rfl rfl fun Q x cs G=>?_
 refine wk ?_
 refine cal (c:=Yp L X q hlen hok) (g:=?_)
 rintro _ h2 ⟨rfl,k2⟩
 refine wk ?_
 refine ret X.f169 ?_
 exact⟨rfl,k2⟩
theorem Yq {lb k cap sz:Nat}{ls:List Nat}(hb:Bk h lb (ls.map fun n=>eI ((n:Nat):Int)))(hk:ls.length=k)(hk1:0<k∧k<1000)(hl: ∀x∈ls,x<4294967296)(hsz:4*k≤sz∧sz<900):
  Ct P0 E F K 171 [eI ((sz:Nat):Int),.slc lb 0 k cap] h fun u h'=> ∃b,u= .slc b 0 sz (Aa+1)∧BS h' b 0 (ls.flatMap (leb 4)++List.replicate (sz - 4*k) 0)∧h.n≤b∧K0 h h':=by
 have l1:=hb.lt
 have hfl: ∀r:List Nat,(r.flatMap (leb 4)).length=4*r.length:=by
  intro r
  induction r with
  |nil=>rfl
  |cons a r ih=>rw [List.flatMap_cons,List.length_append,Bj,ih,List.length_cons];omega
 refine Ae L X.f171 X.k171 rfl rfl fun Q x cs G=>?_
 refine wk ?_
 refine Co L (α:= Unit) (T:=fun i _=> [(10,some (eI ((i:Nat):Int))),(9,some (eI ((k:Nat):Int))),(8,some (.slc lb 0 k cap)),(5,some (.ptr h.n 0)),(0,some (eI ((sz:Nat):Int))),(1,some (.slc lb 0 k cap))]) (n:=k)
  (R:=fun i _ h2=>WrR h2 h.n h.n ((ls.take i).flatMap (leb 4))∧Kp (fun j=>h.n≤j) h h2) (i0:=0) () tsb ⟨⟨.inl ⟨by simp,lkp⟩,Nat.le_refl _⟩,kps⟩ (Nat.zero_le _) ?_ ?_
 ·rintro i _ h2 hi ⟨q1,q2⟩ ih
  have hx:ls[i]?=some ls[i]:=List.getElem?_eq_getElem (by omega)
  have hlt:=hl _ (List.getElem_mem (show i<ls.length by omega))
  have hb2:Bk h2 lb (ls.map fun n=>eI ((n:Nat):Int)):=As q2 (by omega) hb
  have hx2:(ls.map fun n=>eI ((n:Nat):Int))[i]?=some (eI ((ls[i]:Nat):Int)):=by rw [List.getElem?_map,hx];rfl
  have e1:(ls.take (i+1)).flatMap (leb 4)=(ls.take i).flatMap (leb 4)++leb 4 ls[i]:=by rw [List.take_add_one,hx,List.flatMap_append];simp
  have hle:=hfl (ls.take i)
  rw [List.length_take]at hle
  rw [e1]at ih
  generalize ls[i]=v at*
  refine wk ?_
  refine cal (c:=ow L X (v:=v) (n:=4) q1 (by omega) (by omega) (by omega) (by omega)) (g:=?_)
  rintro _ h3 ⟨rfl,w1,w2⟩
  refine wk ?_
  refine ih () _ _ ⟨w1,Kp.trS w2 (fun _ _ e=>e) q2⟩ tsb
 ·rintro _ h2 ⟨q1,q2⟩
  rw [←hk,List.take_length]at q1
  have hle:=hfl ls
  have n2:=q2.n
  refine wk ?_
  refine cal (c:=Qf L X (n:=4*k) q1 (by omega) (by omega)) (g:=?_)
  rintro _ h3 ⟨b3,rfl,w1,w2,w3⟩
  have a3:=w1.all
  have n3:=w3.n
  refine wk ?_
  by_cases hz:sz=4*k
  ·subst hz
   rw [Nat.sub_self]
   (apply st1 L rfl;exact zh rfl rfl;rfl)
   refine wk ?_
   refine ret X.f171 ?_
   rw [Nat.sub_self,List.replicate_zero,List.append_nil]
   exact⟨b3,rfl,lkb,by omega,Kp.cut (Kp.tr0 w3 q2) (Nat.le_refl _)⟩
  ·have f3:BS (hp h3.n h3.t []) b3 0 (ls.flatMap (leb 4)):=w1
   (apply st1 L rfl;exact rq (zero:= [.int .u8 ((0:Nat):Int)]) (old:=Bm (ls.flatMap (leb 4))) rfl rfl (by omega) (f3.slr (by omega)) rfl (by omega) (by omega) (by omega);rfl)
   rw [D9,H9]
   refine wk ?_
   refine ret X.f171 ?_
   refine⟨h3.n,by rw [show 4*k+(sz - 4*k)=sz by omega];rfl,Ga (a3.app (AllB.rep (by omega))),by omega,?_⟩
   have k3:Kp (fun j=>h.n≤j) h (hp (h3.n+1) h3.t [(h3.n,some (cl (Bm (ls.flatMap (leb 4)++List.replicate (sz - 4*k) 0)))),(b3,none)]):=kps
   exact k3.cut (Nat.le_refl _)
end
end
section
variable {P0:Program}{E:Env}{F:T CFn}{K:T (List AV×AV)}(L:Lg P0 E F K)(X:Fx F K)
include L X
section
variable {h:H}
theorem Ow {m:Nat}{c0 c1 c2:AV}{r1:Nat}{rest:List AV}(k:Bk h m (c0::c1::c2:: .map r1::rest)):Ct P0 E F K 59 [.ptr m 0] h fun v h'=>v= .bool false∧h'=h:=by
 refine Am L X.f59 X.k59 rfl rfl fun Q x cs G=>?_
 refine wk ?_
 (apply st1 L rfl;exact zg rfl rfl;rfl)
 refine wk ?_
 refine ret X.f59 ?_
 exact⟨rfl,rfl⟩
theorem Qj {S nb P:Nat}(hn:nb≤12∧P≤6):Ct P0 E F K 152 [.agg [AI ((S:Nat):Int),AI ((nb:Nat):Int),AI ((P:Nat):Int)]] h fun v h'=>v=AI ((nb*P:Nat):Int)∧K0 h h':=by
 have hm:nb*P≤12*6:=Nat.mul_le_mul hn.1 hn.2
 refine Am L X.f152 X.k152 rfl rfl fun Q x cs G=>?_
 refine wk ?_
 refine ret X.f152 ?_
 exact⟨rfl,kps⟩
theorem ia {S nb P:Nat}{x:Ent}(hn:nb≤12∧P≤6∧S≤1000):Ct P0 E F K 111 [.agg [AI ((S:Nat):Int),AI ((nb:Nat):Int),AI ((P:Nat):Int)],.agg (Ay x)] h fun v h'=>v= .bool (decide (Oq S (nb*P) x))∧K0 h h':=by
 obtain⟨a,b⟩:=x
 have hT:(0≤a∧a<S∧ -1≤b∧b<((nb*P:Nat):Int))→decide (Oq S (nb*P) (a,b))=true:=fun q=>decide_eq_true q
 have hF: ¬(0≤a∧a<S∧ -1≤b∧b<((nb*P:Nat):Int))→decide (Oq S (nb*P) (a,b))=false:=fun q=>decide_eq_false q
 obtain⟨T,hT'⟩: ∃T,nb*P=T:=⟨_,rfl⟩
 rw [hT']at hT hF ⊢
 by_cases q0:a<0
 ·rw [hF (by omega)]
  refine Ae L X.f111 X.k111 rfl rfl fun Q x cs G=>?_
  refine wk ?_
  refine ret X.f111 ?_
  exact⟨rfl,kps⟩
 by_cases q1:(S:Int)≤a
 ·rw [hF (by omega)]
  refine Ae L X.f111 X.k111 rfl rfl fun Q x cs G=>?_
  refine wk ?_
  refine ret X.f111 ?_
  exact⟨rfl,kps⟩
 by_cases q2:b< -1
 ·rw [hF (by omega)]
  refine Ae L X.f111 X.k111 rfl rfl fun Q x cs G=>?_
  refine wk ?_
  refine ret X.f111 ?_
  exact⟨rfl,kps⟩
 by_cases q3:(T:Int)≤b
 ·rw [hF (by omega)]
  refine Ae L X.f111 X.k111 rfl rfl fun Q x cs G=>?_
  refine wk ?_
  refine cal (c:=Qj L X (S:=S) (nb:=nb) (P:=P) ⟨hn.1,hn.2.1⟩) (g:=?_)
  rintro _ h2 ⟨rfl,w1⟩
  rw [hT']
  refine wk ?_
  refine ret X.f111 ?_
  exact⟨rfl,kps⟩
 ·rw [hT (by omega)]
  refine Ae L X.f111 X.k111 rfl rfl fun Q x cs G=>?_
  refine wk ?_
  refine cal (c:=Qj L X (S:=S) (nb:=nb) (P:=P) ⟨hn.1,hn.2.1⟩) (g:=?_)
  rintro _ h2 ⟨rfl,w1⟩
  rw [hT']
  refine wk ?_
  refine ret X.f111 ?_
  exact⟨rfl,kps⟩
end
end
def okE (S T:Nat)(A:Int→Option Int)(x:Ent):Prop:=Oq S T x∧ ¬rt A x
structure InvA (S T:Nat)(A:Int→Option Int):Prop where
 rg: ∀s p,A s=some p→0≤s∧s<S∧0≤p∧p<(T:Int)
 inj: ∀s s' p,A s=some p→A s'=some p→s=s'
theorem InvA.set {S T:Nat}{A:Int→Option Int}{x:Ent}(q:InvA S T A)(k:okE S T A x):InvA S T (Cr A x):=by
 obtain⟨⟨f1,f2,f3,f4⟩,hb⟩:=k
 have key: ∀s p,Cr A x s=some p→(s=x.1∧p=x.2∧0≤x.2)∨(s≠x.1∧A s=some p):=by
  intro s p e
  unfold Cr at e
  by_cases e1:s=x.1
  ·rw [if_pos e1]at e
   by_cases e2:0≤x.2
   ·rw [if_pos e2]at e;cases e;exact .inl ⟨e1,rfl,e2⟩
   ·rw [if_neg e2]at e;cases e
  ·rw [if_neg e1]at e;exact .inr ⟨e1,e⟩
 refine⟨fun s p e=>?_,fun s s' p e e'=>?_⟩
 ·rcases key s p e with⟨rfl,rfl,h3⟩|⟨h1,h2⟩
  ·exact⟨f1,f2,h3,f4⟩
  ·exact q.rg s p h2
 ·rcases key s p e with⟨h1,h2,h3⟩|⟨h1,h2⟩ <;> rcases key s' p e' with⟨g1,g2,g3⟩|⟨g1,g2⟩
  ·rw [h1,g1]
  ·exact absurd ⟨s',by rw [←h2];exact g2,g1⟩ hb
  ·exact absurd ⟨s,by rw [←g2];exact h2,h1⟩ hb
  ·exact q.inj s s' p h2 g2
def stA (A:Int→Option Int)(l:List Ent)(i:Nat):Int→Option Int:=(l.take i).foldl Cr A
theorem Ox {A:Int→Option Int}{l:List Ent}{i:Nat}{x:Ent}(h:l[i]?=some x):stA A l (i+1)=Cr (stA A l i) x:=by
 unfold stA;rw [List.take_add_one,h,List.foldl_append];rfl
theorem InvA.st {S T:Nat}{A:Int→Option Int}{l:List Ent}(q:InvA S T A): ∀i,i≤l.length→(∀j x,j<i→l[j]?=some x→okE S T (stA A l j) x)→InvA S T (stA A l i)
 |0,_,_=>q
 |i+1,h,k=>by
  have hx:l[i]?=some l[i]:=List.getElem?_eq_getElem (by omega)
  rw [Ox hx]
  exact(q.st i (by omega) fun j x hj=>k j x (by omega)).set (k i _ (by omega) hx)
def Yr (A:Int→Option Int)(x:Ent):Ent:=(x.1,(A x.1).getD (-1))
def Mu (A:Int→Option Int)(l:List Ent)(i:Nat):List Ent:=(List.range i).map fun j=>Yr (stA A l j) (l.getD j (0,0))
theorem Di (A:Int→Option Int)(l:List Ent)(i:Nat):(Mu A l i).length=i:=by simp [Mu]
theorem Ys {A:Int→Option Int}{l:List Ent}{i:Nat}{x:Ent}(h:l[i]?=some x):Mu A l (i+1)=Mu A l i++ [Yr (stA A l i) x]:=by
 simp [Mu,List.range_succ,List.getD_eq_getElem?_getD,h]
theorem MpR.inv {S nb P:Nat}{h:H}{m r1 r2 vb:Nat}{A:Int→Option Int}(q:MpR S nb P h m r1 r2 vb A):InvA S (nb*P) A:=⟨q.rg,fun s s' p e e'=>q.inj e e'⟩
section
variable {l:List (Nat×Option AV)}{h:H}{x z w:O}{size:Nat}
theorem ib {j k:IntKind}(e:evO l x=some .nils)(e1:evO l z=some (.int j ((0:Nat):Int)))(e2:evO l w=some (.int k ((0:Nat):Int))):XV (.sliceS size x none (some z) (some w)) h l .nils h:=by
 refine⟨?_⟩
 have g1:Cq (tms l) none=some none:=rfl
 simp only [exec,Ad,g1,(BndR.at e1).opt,(BndR.at e2).opt,Ab e]
 rfl
end
section
variable {P0:Program}{E:Env}{F:T CFn}{K:T (List AV×AV)}(L:Lg P0 E F K)(X:Fx F K)
include L X
section
variable {h:H}
theorem Wz {S nb P m r1 r2 vb:Nat}{A:Int→Option Int}{x:Ent}(q:MpR S nb P h m r1 r2 vb A)(hf:Oq S (nb*P) x)(hb: ¬rt A x):
  Ct P0 E F K 61 [.ptr m 0,.agg (Ay x)] h fun v h'=>v= .tup []∧MpR S nb P h' m r1 r2 vb (Cr A x)∧Kp (fun j=>j=r1∨j=r2∨j=vb) h h':=by
 obtain⟨km,⟨n1,n2,n3,n4,n5,n6⟩,rg,nz,M1,M2,c1,c2,cv,k1,o1,k2,o2,kv,vl,vv,mr⟩:=q
 obtain⟨a,b⟩:=x
 have l1:=km.lt
 have l2:=k1.lt
 have l3:=k2.lt
 have l4:=kv.lt
 have hfits:=hf
 obtain⟨f1,f2,f3,f4⟩:=hf
 simp only at f1 f2 f3 f4
 have hm:nb*P≤12*6:=Nat.mul_le_mul nz.2.1 nz.2.2.2.1
 show Ct P0 E F K 61 [.ptr m 0,.agg [AI a,AI b]] h _
 refine Ae L X.f61 X.k61 rfl rfl fun Q x cs G=>?_
 refine wk ?_
 refine cal (c:=ia L X (S:=S) (nb:=nb) (P:=P) (x:=(a,b)) ⟨nz.2.1,nz.2.2.2.1,nz.2.2.2.2⟩) (g:=?_)
 rintro _ h2 ⟨rfl,w1⟩
 have m1:=w1.n
 simp only [Al]at m1
 rw [decide_eq_true hfits]
 refine wk ?_
 refine cal (c:=Qi L X) (g:=?_)
 rintro _ rfl
 have hs:(Bo M2 b=none∧ ∀s,A s≠some b)∨(Bo M2 b=some (AI a)∧A a=some b):=by
  cases hg:Bo M2 b with
  |none=>exact .inl ⟨rfl,fun s e=>by rw [mr.a2 s b e]at hg;cases hg⟩
  |some u=>
   obtain⟨s,rfl,e2⟩:=mr.a3 b u hg
   have:s=a:=Classical.byContradiction fun e=>hb ⟨s,e2,e⟩
   subst this
   exact .inr ⟨rfl,e2⟩
 have ha:(Bo M1 a=none∧A a=none)∨ ∃p:Nat,Bo M1 a=some (AI ((p:Nat):Int))∧A a=some ((p:Nat):Int)∧p<nb*P:=by
  have h1:=mr.a1 a
  cases hA:A a with
  |none=>rw [hA]at h1;exact .inl ⟨h1,rfl⟩
  |some p=>
   rw [hA]at h1
   obtain⟨-,-,g3,g4⟩:=rg a p hA
   have g5:((p.toNat:Nat):Int)=p:=Int.toNat_of_nonneg g3
   exact .inr ⟨p.toNat,by rw [g5];exact h1,by rw [g5],by omega⟩
 have rgA: ∀s p,Cr A (a,b) s=some p→0≤s∧s<S∧0≤p∧p<((nb*P:Nat):Int):=by
  intro s p e
  unfold Cr at e
  by_cases e1:s=a
  ·rw [if_pos e1]at e
   by_cases e2:0≤b
   ·rw [if_pos e2]at e;cases e;exact⟨by omega,by omega,e2,f4⟩
   ·rw [if_neg e2]at e;cases e
  ·rw [if_neg e1]at e;exact rg s p e
 have hP:0<P:=by omega
 have hvl:=Ww A P
 have hrem: ∀p:Nat,A a=some ((p:Nat):Int)→p<nb*P→0<valA A P (p / P)∧ ∀i,i<nb→(cv.set (p / P) (AI ((valA A P (p / P) - 1:Nat):Int)))[i]?=some (AI ((valA (D8 A a) P i:Nat):Int)):=by
  intro p hp hlt
  have hq:p / P<nb:=Oo hlt
  have inj: ∀s,A s=some ((p:Nat):Int)→s=a:=fun s hs=>mr.inj hs hp
  have e0:=Ot (i:=p / P) hP hp inj
  rw [if_pos rfl]at e0
  refine⟨by omega,fun i hi=>?_⟩
  have e1:=Ot (i:=i) hP hp inj
  by_cases e:p / P=i
  ·rw [if_pos e]at e1
   subst e
   rw [List.getElem?_set_self (by omega),e1];rfl
  ·rw [if_neg e]at e1
   rw [List.getElem?_set_ne e,vv i hi,e1];rfl
 have hins: ∀(B:Int→Option Int) (cw:List AV) (b:Nat),B a=none→(∀s,B s≠some ((b:Nat):Int))→b<nb*P→cw.length=nb→(∀i,i<nb→cw[i]?=some (AI ((valA B P i:Nat):Int)))→ ∀i,i<nb→(cw.set (b / P) (AI ((valA B P (b / P)+1:Nat):Int)))[i]?=some (AI ((valA (Cr B (a,((b:Nat):Int))) P i:Nat):Int)):=by
  intro B cw b h1 h2 h3 h4 h5 i hi
  have hq:b / P<nb:=Oo h3
  have e1:=ge (i:=i) hP h1 h2
  by_cases e:b / P=i
  ·rw [if_pos e]at e1
   subst e
   rw [List.getElem?_set_self (by omega),e1]
  ·rw [if_neg e]at e1
   rw [List.getElem?_set_ne e,h5 i hi,e1];rfl
 by_cases hb0:0≤b
 ·obtain⟨b,rfl⟩: ∃b':Nat,b=((b':Nat):Int):=⟨b.toNat,by omega⟩
  have hqb:b / P<nb:=Oo (by omega)
  rcases ha with⟨g1,ha⟩|⟨p,g1,ha,hp⟩
  ·rcases hs with⟨g2,hs⟩|⟨g2,hs⟩
   rotate_left
   ·rw [ha]at hs;cases hs
   have hz:=vv _ hqb
   have vz:=hvl (b / P)
   have vfin:=hins A cv b ha hs (by omega) vl vv
   have mr2:=mr.ins (x:=(a,((b:Nat):Int))) (c1:=c1) (c2:=c2) hb0 ha hs
   refine wk ?_
   (apply C0 rfl rfl;exact Dx (KE.int .i64) rfl rfl lkq)
   rw [g2]
   refine wk ?_
   (apply C0 rfl rfl;exact Dx (KE.int .i64) rfl rfl lkq)
   rw [g1]
   refine wk ?_
   (apply H6 L rfl rfl;exact Lk (KE.int .i64) o1 rfl rfl lkq)
   refine wk ?_
   (apply I8 L rfl rfl;exact Gq (k:=a) o1 rfl rfl rfl lkq)
   refine wk ?_
   (apply H6 L rfl rfl;exact Lk (KE.int .i64) o2 rfl rfl lkq)
   refine wk ?_
   (apply I8 L rfl rfl;exact Gq (k:=((b:Nat):Int)) o2 rfl rfl rfl lkq)
   refine wk ?_
   refine ret X.f61 ?_
   exact⟨rfl,⟨lkp,⟨n1,n2,n3,n4,n5,n6⟩,rgA,nz,_,_,_,_,_,lkq,o1.set _ _,lkq,o2.set _ _,lkp,(by simp [vl]),vfin,mr2⟩,kps⟩
  ·have hqp:p / P<nb:=Oo hp
   have hz:=vv _ hqp
   obtain⟨hpos,vv2⟩:=hrem p ha hp
   have vz:=hvl (p / P)
   have hy:=vv2 _ hqb
   have vy:=Ww (D8 A a) P (b / P)
   have hl2:b / P<(cv.set (p / P) (AI ((valA A P (p / P) - 1:Nat):Int))).length:=by rw [List.length_set,vl];exact hqb
   have hm0: ∀s,D8 A a s≠some ((b:Nat):Int):=by
    intro s e
    unfold D8 at e
    by_cases e1:s=a
    ·rw [if_pos e1]at e;cases e
    ·rw [if_neg e1]at e;exact hb ⟨s,e,e1⟩
   have vfin:=hins (D8 A a) (cv.set (p / P) (AI ((valA A P (p / P) - 1:Nat):Int))) b (by unfold D8;rw [if_pos rfl]) hm0 (by omega) (by simp [vl]) vv2
   rw [show Cr (D8 A a) (a,((b:Nat):Int))=Cr A (a,((b:Nat):Int)) from S7 A (a,((b:Nat):Int))]at vfin
   have mr2:=(mr.rem ha).ins (x:=(a,((b:Nat):Int))) (c1:=c1) (c2:=c2) hb0 (by unfold D8;rw [if_pos rfl]) hm0
   rw [show Cr (D8 A a) (a,((b:Nat):Int))=Cr A (a,((b:Nat):Int)) from S7 A (a,((b:Nat):Int))]at mr2
   rcases hs with⟨g2,hs⟩|⟨g2,hs⟩
   ·refine wk ?_
    (apply C0 rfl rfl;exact Dx (KE.int .i64) rfl rfl lkq)
    rw [g2]
    refine wk ?_
    (apply C0 rfl rfl;exact Dx (KE.int .i64) rfl rfl lkq)
    rw [g1]
    refine wk ?_
    (apply I8 L rfl rfl;exact F9 (KE.int .i64) o1 rfl rfl lkq)
    refine wk ?_
    (apply Jj L rfl;exact F9 (KE.int .i64) o2 rfl rfl lkq;rfl)
    refine wk ?_
    (apply H6 L rfl rfl;exact Lk (KE.int .i64) (o1.del _) rfl rfl lkq)
    refine wk ?_
    (apply I8 L rfl rfl;exact Gq (k:=a) (o1.del _) rfl rfl rfl lkq)
    refine wk ?_
    (apply H6 L rfl rfl;exact Lk (KE.int .i64) (o2.del _) rfl rfl lkq)
    refine wk ?_
    (apply I8 L rfl rfl;exact Gq (k:=((b:Nat):Int)) (o2.del _) rfl rfl rfl lkq)
    refine wk ?_
    refine ret X.f61 ?_
    exact⟨rfl,⟨lkp,⟨n1,n2,n3,n4,n5,n6⟩,rgA,nz,_,_,_,_,_,lkq,(o1.del _).set _ _,lkq,(o2.del _).set _ _,lkp,(by simp [vl]),vfin,mr2⟩,kps⟩
   ·refine wk ?_
    (apply C0 rfl rfl;exact Dx (KE.int .i64) rfl rfl lkq)
    rw [g2]
    refine wk ?_
    refine cal (c:=Qi L X) (g:=?_)
    rintro _ rfl
    refine wk ?_
    (apply C0 rfl rfl;exact Dx (KE.int .i64) rfl rfl lkq)
    rw [g1]
    refine wk ?_
    (apply I8 L rfl rfl;exact F9 (KE.int .i64) o1 rfl rfl lkq)
    refine wk ?_
    (apply Jj L rfl;exact F9 (KE.int .i64) o2 rfl rfl lkq;rfl)
    refine wk ?_
    (apply H6 L rfl rfl;exact Lk (KE.int .i64) (o1.del _) rfl rfl lkq)
    refine wk ?_
    (apply I8 L rfl rfl;exact Gq (k:=a) (o1.del _) rfl rfl rfl lkq)
    refine wk ?_
    (apply H6 L rfl rfl;exact Lk (KE.int .i64) (o2.del _) rfl rfl lkq)
    refine wk ?_
    (apply I8 L rfl rfl;exact Gq (k:=((b:Nat):Int)) (o2.del _) rfl rfl rfl lkq)
    refine wk ?_
    refine ret X.f61 ?_
    exact⟨rfl,⟨lkp,⟨n1,n2,n3,n4,n5,n6⟩,rgA,nz,_,_,_,_,_,lkq,(o1.del _).set _ _,lkq,(o2.del _).set _ _,lkp,(by simp [vl]),vfin,mr2⟩,kps⟩
 ·rcases hs with⟨g2,hs⟩|⟨g2,hs⟩
  rotate_left
  ·exact absurd (rg _ _ hs).2.2.1 hb0
  rcases ha with⟨g1,ha⟩|⟨p,g1,ha,hp⟩
  ·rw [show Cr A (a,b)=A by rw [S6 hb0];exact Yj ha]at*
   refine wk ?_
   (apply C0 rfl rfl;exact Dx (KE.int .i64) rfl rfl lkq)
   rw [g2]
   refine wk ?_
   (apply C0 rfl rfl;exact Dx (KE.int .i64) rfl rfl lkq)
   rw [g1]
   refine wk ?_
   refine ret X.f61 ?_
   exact⟨rfl,⟨lkp,⟨n1,n2,n3,n4,n5,n6⟩,rgA,nz,_,_,_,_,_,lkq,o1,lkq,o2,lkp,vl,vv,mr⟩,kps⟩
  ·have hqp:p / P<nb:=Oo hp
   have hz:=vv _ hqp
   obtain⟨hpos,vv2⟩:=hrem p ha hp
   have vz:=hvl (p / P)
   rw [show Cr A (a,b)=D8 A a from S6 hb0]at*
   refine wk ?_
   (apply C0 rfl rfl;exact Dx (KE.int .i64) rfl rfl lkq)
   rw [g2]
   refine wk ?_
   (apply C0 rfl rfl;exact Dx (KE.int .i64) rfl rfl lkq)
   rw [g1]
   refine wk ?_
   (apply I8 L rfl rfl;exact F9 (KE.int .i64) o1 rfl rfl lkq)
   refine wk ?_
   (apply Jj L rfl;exact F9 (KE.int .i64) o2 rfl rfl lkq;rfl)
   refine wk ?_
   refine ret X.f61 ?_
   exact⟨rfl,⟨lkp,⟨n1,n2,n3,n4,n5,n6⟩,rgA,nz,_,_,_,_,_,lkq,o1.del _,lkq,o2.del _,lkp,(by simp [vl]),vv2,mr.rem ha⟩,kps⟩
end
end
section
variable {P0:Program}{E:Env}{F:T CFn}{K:T (List AV×AV)}(L:Lg P0 E F K)(X:Fx F K)
include L X
section
variable {h:H}
theorem Qk {S nb P m r1 r2 vb lo:Nat}{A:Int→Option Int}{es:List Ent}{lv:AV}(q:MpR S nb P h m r1 r2 vb A)(hl:EL h lo lv es)(hlen:es.length≤150)(hlo:r1<lo∧r2<lo∧vb<lo∧m<lo)(hok: ∀j x,es[j]?=some x→okE S (nb*P) (stA A es j) x):
  Ct P0 E F K 22 [.ptr m 0,lv] h fun v h'=>v=AI ((0:Nat):Int)∧Kp (fun j=>j=r1∨j=r2∨j=vb) h h'∧MpR S nb P h' m r1 r2 vb (stA A es es.length):=by
 have lq:=q.lt
 have hl1:=hl.len
 rcases hl1 with⟨rfl,rfl⟩|⟨hpos,lb,rfl,g5,g6⟩
 ·have km:=q.km
  refine Ae L X.f22 X.k22 rfl rfl fun Q x cs G=>?_
  refine wk ?_
  refine cal (c:=Ow L X (c0:=AI ((S:Nat):Int)) (c1:=AI ((nb:Nat):Int)) (c2:=AI ((P:Nat):Int)) (r1:=r1) (rest:= [.map r2,.slc vb 0 nb nb]) lkp) (g:=?_)
  rintro _ rfl
  refine wk ?_
  refine On L rfl rfl rfl rfl ?_
  refine wk ?_
  refine A9 L ?_
  refine wk ?_
  refine Fj L (todo:= []) ?_
  refine Hc L (by intro q;cases q) X.f60 rfl rfl rfl ?_
  refine Ic L rfl ?_
  refine wk ?_
  (apply st1 L rfl;exact Re (k:=true) rfl rfl;rfl)
  refine wk ?_
  refine Rl L X.f60 rfl ?_
  refine Fk L X.f22 (F1 (b:=h.n+2) rfl (Bk.e lkp) rfl Ml) G ⟨rfl,kps,q.k0 kps⟩
 have l5:=g5.lt
 have km:=q.km
 refine Ae L X.f22 X.k22 rfl rfl fun Q x cs G=>?_
 refine wk ?_
 refine cal (c:=Ow L X (c0:=AI ((S:Nat):Int)) (c1:=AI ((nb:Nat):Int)) (c2:=AI ((P:Nat):Int)) (r1:=r1) (rest:= [.map r2,.slc vb 0 nb nb]) lkp) (g:=?_)
 rintro _ rfl
 refine wk ?_
 refine On L rfl rfl rfl rfl ?_
 refine wk ?_
 refine Co L (α:= AV) (T:=fun i v=> [(17,some (AI ((i:Nat):Int))),(16,some (AI ((es.length:Nat):Int))),(15,some (.slc lb 0 es.length (Aa+2))),(2,some (.ptr h.n 0)),(4,some (.ptr (h.n+2) 0)),(5,some (.ptr (h.n+3) 0)),(6,some (.ptr (h.n+4) 0))]) (n:=es.length)
  (R:=fun i v h2=>MpR S nb P h2 m r1 r2 vb (stA A es i)∧Bk h2 h.n [.ptr m 0]∧Bk h2 (h.n+1) [.slc lb 0 es.length (Aa+2)]∧Bk h2 (h.n+2) [AI ((0:Nat):Int)]∧Bk h2 (h.n+3) [AI ((i:Nat):Int)]∧Bk h2 (h.n+4) [v]∧EL h2 (h.n+5) v (Mu A es i)∧h.n+5≤h2.n∧Kp (fun j=>j=r1∨j=r2∨j=vb) h h2) (i0:=0) .nils tsb
  ⟨q.k0 kps,lkp,lkp,lkp,lkp,lkp,EL.nil _ _,Nat.le_refl _,kps⟩ (Nat.zero_le _) ?_ ?_
 ·rintro i v h2 hi ⟨u1,u3,u4,u5,u6,u7,u8,u9,u10⟩ ih
  have hx:es[i]?=some es[i]:=List.getElem?_eq_getElem hi
  have hdt:=E0 es (Id es) i _ hx
  have g5':Bk h2 lb (es.flatMap Ay):=As u10 (by omega) g5
  have lu:=u1.lt
  have hokx:=hok i _ hx
  have u1':=u1
  obtain⟨km2,⟨n1,n2,n3,n4,n5,n6⟩,rg,nz,M1,M2,c1,c2,cv,⟨k1,o1,k2,o2,kv,vl,vv,mr⟩⟩:=u1'
  have ha1:=mr.a1 es[i].1
  rw [Ox hx,Ys hx]at ih
  generalize hxe:es[i]=x at*
  obtain⟨xa,xb⟩:=x
  have hdt':i*2+2≤(es.flatMap Ay).length∧((es.flatMap Ay).drop (i*2)).take 2= [AI xa,AI xb]:=hdt
  have hw2: ∀b n c,v= .slc b 0 n c→b≠h.n+1+1:=by
   intro b n c e
   rcases u8.ex with⟨_,rfl⟩|⟨_,b',rfl,_,h5⟩
   ·cases e
   ·cases e;omega
  simp only at ha1
  rcases hB:stA A es i xa with _|p
  ·rw [hB]at ha1
   have hwas:Yr (stA A es i) (xa,xb)=(xa,-1):=by unfold Yr;rw [hB];rfl
   refine wk ?_
   (apply st1 L rfl;exact Br g5'.rk hdt' rfl;rfl)
   refine wk ?_
   (apply C0 rfl rfl;exact Dx (KE.int .i64) rfl rfl lkq)
   rw [ha1]
   refine wk ?_
   refine cal (c:=Wz L X (x:=(xa,xb)) (u1.k0 kps) hokx.1 hokx.2) (g:=?_)
   rintro _ h3 ⟨rfl,w1,w2⟩
   have n3:=w2.n
   simp only [Al]at n3
   rcases u8.len with⟨e0,rfl⟩|⟨gn,wb,rfl,g7,g8⟩
   ·obtain rfl:i=0:=by have:=Di A es i;rw [e0]at this;simpa using this.symm
    refine wk ?_
    (apply C0 rfl rfl;exact ib rfl rfl rfl)
    refine wk ?_
    (apply H6 L rfl rfl;exact Ft (new:=Ay (xa,-1)) rfl rfl (SlR.of (c:=Ay (xa,-1)) lkp (Nat.le_refl _) rfl) (by omega) (by omega))
    refine wk ?_
    refine ih _ _ _ ⟨w1.kp (B:=fun j=>j=h.n+3∨j=h.n+4) kps (by omega) (by omega) (by omega) (by omega),lkp,lkp,lkp,lkp,lkp,?_,by simp only [Al];omega,kps⟩ tsb
    rw [hwas,e0,List.nil_append]
    exact EL.app (l:= []) (by exact lkp) (by omega) rfl
   ·have g9:=g7.lt
    rw [Di]at*
    refine wk ?_
    (apply H6 L rfl rfl;exact oi (old:=(Mu A es i).flatMap Ay) (new:=Ay (xa,-1)) rfl rfl (SlR.of (c:=(Mu A es i).flatMap Ay) lkp (by rw [A4,Di];omega) (by rw [List.drop_zero,List.take_of_length_le (by rw [A4,Di];exact Nat.le_refl _)])) (SlR.of (c:=Ay (xa,-1)) lkp (Nat.le_refl _) rfl) (by omega) (by simp only [Aa];omega) (by omega))
    refine wk ?_
    refine ih _ _ _ ⟨w1.kp (B:=fun j=>j=h.n+3∨j=h.n+4) kps (by omega) (by omega) (by omega) (by omega),lkp,lkp,lkp,lkp,lkp,?_,by simp only [Al];omega,kps⟩ tsb
    rw [hwas]
    exact EL.app (l:=Mu A es i) (by exact lkp) (by omega) (Di _ _ _)
  ·rw [hB]at ha1
   have hwas:Yr (stA A es i) (xa,xb)=(xa,p):=by unfold Yr;rw [hB];rfl
   refine wk ?_
   (apply st1 L rfl;exact Br g5'.rk hdt' rfl;rfl)
   refine wk ?_
   (apply C0 rfl rfl;exact Dx (KE.int .i64) rfl rfl lkq)
   rw [ha1]
   refine wk ?_
   refine cal (c:=Wz L X (x:=(xa,xb)) (u1.k0 kps) hokx.1 hokx.2) (g:=?_)
   rintro _ h3 ⟨rfl,w1,w2⟩
   have n3:=w2.n
   simp only [Al]at n3
   rcases u8.len with⟨e0,rfl⟩|⟨gn,wb,rfl,g7,g8⟩
   ·obtain rfl:i=0:=by have:=Di A es i;rw [e0]at this;simpa using this.symm
    refine wk ?_
    (apply C0 rfl rfl;exact ib rfl rfl rfl)
    refine wk ?_
    (apply H6 L rfl rfl;exact Ft (new:=Ay (xa,p)) rfl rfl (SlR.of (c:=Ay (xa,p)) lkp (Nat.le_refl _) rfl) (by omega) (by omega))
    refine wk ?_
    refine ih _ _ _ ⟨w1.kp (B:=fun j=>j=h.n+3∨j=h.n+4) kps (by omega) (by omega) (by omega) (by omega),lkp,lkp,lkp,lkp,lkp,?_,by simp only [Al];omega,kps⟩ tsb
    rw [hwas,e0,List.nil_append]
    exact EL.app (l:= []) (by exact lkp) (by omega) rfl
   ·have g9:=g7.lt
    rw [Di]at*
    refine wk ?_
    (apply H6 L rfl rfl;exact oi (old:=(Mu A es i).flatMap Ay) (new:=Ay (xa,p)) rfl rfl (SlR.of (c:=(Mu A es i).flatMap Ay) lkp (by rw [A4,Di];omega) (by rw [List.drop_zero,List.take_of_length_le (by rw [A4,Di];exact Nat.le_refl _)])) (SlR.of (c:=Ay (xa,p)) lkp (Nat.le_refl _) rfl) (by omega) (by simp only [Aa];omega) (by omega))
    refine wk ?_
    refine ih _ _ _ ⟨w1.kp (B:=fun j=>j=h.n+3∨j=h.n+4) kps (by omega) (by omega) (by omega) (by omega),lkp,lkp,lkp,lkp,lkp,?_,by simp only [Al];omega,kps⟩ tsb
    rw [hwas]
    exact EL.app (l:=Mu A es i) (by exact lkp) (by omega) (Di _ _ _)
 ·rintro v h2 ⟨u1,u3,u4,u5,u6,u7,u8,u9,u10⟩
  refine wk ?_
  refine Fj L (todo:= []) ?_
  refine Hc L (by intro q;cases q) X.f60 rfl rfl rfl ?_
  refine Ic L rfl ?_
  refine wk ?_
  (apply st1 L rfl;exact Re (k:=true) rfl rfl;rfl)
  refine wk ?_
  refine Rl L X.f60 rfl ?_
  refine Fk L X.f22 (F1 (b:=h.n+2) rfl (Bk.e lkp) rfl Ml) G ⟨rfl,kps,u1.kp (B:=fun j=>j=h.n+2) kps (by omega) (by omega) (by omega) (by omega)⟩
end
end
open Go.Sort
theorem HR.growC {E:Env}{w0:Array Obj}{φ: Phi}{h:H}{m:Array Obj}(hr:HR E w0 φ h m)(os:Array Obj):HR E w0 φ h (m++os):=by
 have hg: ∀k,k<m.size→(m++os)[k]?=m[k]?:=fun k hk=>by simp [Array.getElem?_append,hk]
 refine⟨hr.bound,fun b l hb=>?_,fun b l x hb hx=>?_,hr.inj,hr.own,fun cb hc=>?_,?_⟩
 ·have:=hr.cbound b l hb;simp;omega
 ·obtain⟨o,h1,h2⟩:=hr.blk b l x hb hx
  exact⟨o,by rw [hg _ (hr.cbound b l hb)];exact h1,h2⟩
 ·rw [hg _ (Nat.lt_of_lt_of_le hc hr.size)];exact hr.old cb hc
 ·have:=hr.size;simp;omega
abbrev zI (z:Int):AV:= .int .i64 z
def E2 (zs:List Int):List Int:=zs.mergeSort fun x y=>decide (x≤y)
theorem Ek (zs:List Int):(E2 zs).length=zs.length:=List.length_mergeSort _
theorem vp {P:Program}{E:Env}{f:Nat}(hs: ∀(blk off cap:Nat) (zs:List Int) (w:World),Holds (Value.int .i64) w blk off zs.toArray→blk<w.heap.size→zs.length<4611686018427387904→Calls P f #[.slice (some ⟨blk,off,none⟩) zs.length cap] w fun e w'=>
   e= .returned (.tuple #[])∧ ∃n os,w'=grow (putRow (Value.int .i64) (Sort.ahead w n) blk off (E2 zs).toArray) os)
  {h:H} {b:Nat} {zs:List Int} (k:Bk h b (zs.map zI)) (hpos:0<zs.length) (hlen:zs.length<100000):
  XCt P E f [.slc b 0 zs.length (Aa+1)] h fun v h'=>v= .tup []∧Bk h' b ((E2 zs).map zI)∧Kp (fun j=>j=b) h h':=by
 intro φ w0 w args' hargs hW
 obtain⟨hr,like⟩:=hW
 obtain⟨arr⟩:=args'
 have h1: ∃l c off,φ b=some l∧off=l.base∧arr= [.slice (some ⟨l.cb,off,none⟩) zs.length c]:=by
  cases hargs with
  |cons hv ht=>
   cases ht
   generalize hcp:Aa+1=cp at hv
   cases hv with
   |slcX h1 h2 h3 h4=>exact absurd h2 (by omega)
   |slcU h1 h2 h3 h4=>exact⟨_,_,_,h1,h4 hpos,rfl⟩
 obtain⟨l,c,off,hφ,rfl,rfl⟩:=h1
 obtain⟨cs,e,g1,g2,g3,g4⟩:=hr.cellsOf_blkW hφ k.e
 have hcb:=hr.cbound _ _ hφ
 rw [List.length_map]at g3
 have hval: ∀j z,zs[j]?=some z→cs[l.base+j]?=some (Value.int .i64 z):=by
  intro j z hz
  obtain⟨v',h5,h6⟩:=g4 j (zI z) (by rw [List.length_map];exact(List.getElem?_eq_some_iff.1 hz).1) (by rw [G7];simp [hz])
  cases h6
  exact h5
 have hH:Holds (Value.int .i64) w l.cb l.base zs.toArray:=by
  intro j hj
  have hj':j<zs.length:=by simpa using hj
  refine⟨?_,by simp [World.frozen?,g1]⟩
  simp only [World.cell?,g1]
  simp only [Option.isSome_none,Bool.false_eq_true,if_false]
  rw [hval j zs[j] (List.getElem?_eq_getElem hj')]
  simp [hj']
 refine(hs l.cb l.base c zs w hH hcb (by omega)).mono ?_
 rintro e9 w' ⟨rfl,n,os,rfl⟩
 refine⟨.tup [],.tuple #[],φ,H.set h b (cl ((E2 zs).map zI)),rfl,⟨rfl,⟨?_,k.lt⟩,?_⟩,fun _ _ h=>h,.tup .nil,?_⟩
 ·rw [H.get_set,if_pos rfl]
 ·exact⟨Nat.le_refl _,fun j hj hne=>by rw [H.get_set,if_neg hne]⟩
 ·have hro:(Blk.cells false ((zs.map zI).length) (ofL 0 .leaf (zs.map zI)))=cl (zs.map zI):=rfl
  have hov:=hr.over (x':=cl ((E2 zs).map zI)) (o':= .cells (putCells (Value.int .i64) l.base (E2 zs).toArray cs) e (0,0)) hφ k.e rfl (.cells (fun _=>rfl) (by simp [putCells,g2]) (by simp [putCells,Ek];exact g3) ?_) rfl
  ·have hh:(putRow (Value.int .i64) (Sort.ahead w n) l.cb l.base (E2 zs).toArray).heap=w.heap.setIfInBounds l.cb (.cells (putCells (Value.int .i64) l.base (E2 zs).toArray cs) e (0,0)):=by
    apply Array.ext_getElem?
    intro i
    simp only [putRow,mapBlock,Sort.ahead,Array.getElem?_modify,Array.getElem?_setIfInBounds]
    by_cases hi:l.cb=i
    ·subst hi
     have g0:w.heap[l.cb]=Obj.cells cs e (0,0):=(Array.getElem?_eq_some_iff.1 g1).2
     simp [g0,onCells,hcb]
    ·simp [hi]
   refine⟨?_,like.trans ⟨rfl,rfl,rfl⟩⟩
   show HR E w0.heap φ _ ((putRow (Value.int .i64) (Sort.ahead w n) l.cb l.base (E2 zs).toArray).heap++os)
   rw [hh]
   exact hov.growC os
  ·intro i v hi hv
   rw [G7]at hv
   rw [List.length_map,Ek]at hi
   rw [List.getElem?_map,Option.map_eq_some_iff]at hv
   obtain⟨z,hz,rfl⟩:=hv
   refine⟨Value.int .i64 z,?_,.int _ _⟩
   obtain⟨hz1,hz2⟩:=List.getElem?_eq_some_iff.1 hz
   have hin:l.base+i<cs.size:=by omega
   simp only [putCells,Array.getElem?_mapIdx,Array.getElem?_eq_getElem hin,Option.map_some]
   rw [if_pos (by simp [Ek];omega)]
   have:l.base+i - l.base=i:=by omega
   rw [this]
   simp [hz1,hz2]
theorem o4 {P:Program}{E:Env}{f:Nat}(hs: ∀(p:Option Addr) (cap:Nat) (w:World),Calls P f #[.slice p 0 cap] w fun e w'=>e= .returned (.tuple #[])∧w'=w){h:H}:
  XCt P E f [.nils] h fun v h'=>v= .tup []∧h'=h:=by
 intro φ w0 w args' hargs hW
 obtain⟨arr⟩:=args'
 have h1: ∃p c,arr= [.slice p 0 c]:=by
  cases hargs with
  |cons hv ht=>cases ht;cases hv;exact⟨_,_,rfl⟩
 obtain⟨p,c,rfl⟩:=h1
 refine(hs p c w).mono ?_
 rintro e9 w' ⟨rfl,rfl⟩
 exact⟨.tup [],.tuple #[],φ,h,rfl,⟨rfl,rfl⟩,fun _ _ h=>h,.tup .nil,hW⟩
structure SortOk (P:Program)(E:Env)(F:T CFn)(f:Nat):Prop where
 g: ∃g0,T.get F f=some g0
 x: ∀(h:H) (b:Nat) (zs:List Int),Bk h b (zs.map zI)→0<zs.length→zs.length<100000→XCt P E f [.slc b 0 zs.length (Aa+1)] h fun v h'=>v= .tup []∧Bk h' b ((E2 zs).map zI)∧Kp (fun j=>j=b) h h'
 x0: ∀h:H,XCt P E f [.nils] h fun v h'=>v= .tup []∧h'=h
end Go.Ev
