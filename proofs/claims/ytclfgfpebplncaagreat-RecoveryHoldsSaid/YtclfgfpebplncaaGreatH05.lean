/- Part of the proof. -/
import Derived.KernelRfl
import Derived.Test.YtclfgfpebplncaaGreatH03
import Derived.Test.YtclfgfpebplncaaGreatH04
set_option linter.unusedVariables false
set_option linter.unusedSectionVars false
set_option linter.unusedSimpArgs false
set_option maxRecDepth 10000
set_option maxHeartbeats 4000000
namespace Go.Ev.Crc
variable {b s:Nat}{tab:List Nat}
def poly:Nat:=2197175160
def f1 (x:Nat):Nat:=if x % 2=1 then(x / 2) ^^^ poly else x / 2
def f8 (x:Nat):Nat:=f1 (f1 (f1 (f1 (f1 (f1 (f1 (f1 x)))))))
theorem Y6 (x i:Nat):(f1 x).testBit i=(x.testBit (i+1) ^^ (x.testBit 0 && poly.testBit i)):=by
 unfold f1;have h0:x.testBit 0=decide (x % 2=1):=Nat.testBit_zero x;by_cases h:x % 2=1;·rw [if_pos h,Nat.testBit_xor,h0,decide_eq_true h,Nat.testBit_div_two];simp
 ·rw [if_neg h,h0,decide_eq_false h,Nat.testBit_div_two];simp
theorem Age (x y:Nat):f1 (x ^^^ y)=f1 x ^^^ f1 y:=by
 apply Nat.eq_of_testBit_eq;intro i;rw [Nat.testBit_xor,Y6,Y6,Y6,Nat.testBit_xor,Nat.testBit_xor]
 cases x.testBit (i+1) <;> cases y.testBit (i+1) <;> cases x.testBit 0 <;> cases y.testBit 0 <;> cases poly.testBit i <;> rfl
theorem Agf (x y:Nat):f8 (x ^^^ y)=f8 x ^^^ f8 y:=by simp only [f8,Age]
theorem Agg (x:Nat):f1 (2*x)=x:=by unfold f1;rw [if_neg (by omega)];omega
theorem Agh (x:Nat):f8 (256*x)=x:=by unfold f8;rw [show 256*x=2*(2*(2*(2*(2*(2*(2*(2*x))))))) by omega];simp only [Agg]
theorem Agi (u:Nat):(256*(u / 256)) ^^^ (u % 256)=u:=by
 apply Nat.eq_of_testBit_eq;intro i;rw [Nat.testBit_xor,show 256=2 ^ 8 from rfl,Nat.testBit_two_pow_mul,Nat.testBit_mod_two_pow,Nat.testBit_div_two_pow];by_cases h:i<8
 ·have: ¬i ≥ 8:=by omega
  simp [h,this]
 ·have h':i ≥ 8:=by omega
  have e:i - 8+8=i:=by omega
  simp [h,h',e]
theorem Pe {x:Nat}(h:x<2 ^ 32):f1 x<2 ^ 32:=by
 unfold f1;split;·exact Nat.xor_lt_two_pow (by omega) (by decide)
 ·omega
theorem f8_lt {x:Nat}(h:x<2 ^ 32):f8 x<2 ^ 32:=Pe (Pe (Pe (Pe (Pe (Pe (Pe (Pe h)))))))
def tstep (tab:List Nat)(s b:Nat):Nat:=(s >>> 8) ^^^ tab.getD ((s % 256) ^^^ b) 0
def bstep (s b:Nat):Nat:=f8 (s ^^^ b)
def ug (tab:List Nat):Prop:=tab=(List.range 256).map f8
theorem tab_get (ht:ug tab){i:Nat}(hi:i<256):tab.getD i 0=f8 i:=by rw [ht];simp [hi]
theorem step_eq (ht:ug tab)(hb:b<2 ^ 8):tstep tab s b=bstep s b:=by
 unfold tstep bstep;have hx:(s % 256) ^^^ b<256:=Nat.xor_lt_two_pow (n:=8) (Nat.mod_lt _ (by decide)) hb;rw [tab_get ht hx];have h1:(s ^^^ b) / 256=s >>> 8:=by apply Nat.eq_of_testBit_eq;intro i;rw [show 256=2 ^ 8 from rfl,Nat.testBit_div_two_pow,Nat.testBit_xor,Nat.testBit_shiftRight];have:b.testBit (i+8)=false:=Nat.testBit_lt_two_pow (Nat.lt_of_lt_of_le hb (Nat.pow_le_pow_right (by omega) (by omega)));rw [this,Nat.add_comm 8 i];simp
 have h2:(s ^^^ b) % 256=(s % 256) ^^^ b:=by
  have hb':b=b % 256:=(Nat.mod_eq_of_lt hb).symm;apply Nat.eq_of_testBit_eq;intro i;rw [show 256=2 ^ 8 from rfl,Nat.testBit_mod_two_pow,Nat.testBit_xor,Nat.testBit_xor,Nat.testBit_mod_two_pow];by_cases h:i<8;·simp [h]
  ·have:b.testBit i=false:=Nat.testBit_lt_two_pow (Nat.lt_of_lt_of_le hb (Nat.pow_le_pow_right (by omega) (by omega)));simp [h,this]
 have h3:f8 (s ^^^ b)=(s ^^^ b) / 256 ^^^ f8 ((s ^^^ b) % 256):=by
  conv=>lhs;rw [←Agi (s ^^^ b)]
  rw [Agf,Agh]
 rw [h3,h1,h2]
theorem bstep_lt (hs:s<2 ^ 32)(hb:b<2 ^ 8):bstep s b<2 ^ 32:= f8_lt (Nat.xor_lt_two_pow hs (Nat.lt_of_lt_of_le hb (by decide)))
def upd (s:Nat)(bs:List Nat):Nat:=bs.foldl bstep s
theorem upd_eq {tab:List Nat}(ht:ug tab): ∀(bs:List Nat) (s:Nat),(∀b∈bs,b<2 ^ 8)→bs.foldl (tstep tab) s=upd s bs
 | [],s,_=>rfl
 |b::r,s,h=>by unfold upd;rw [List.foldl_cons,List.foldl_cons,step_eq ht (h b (List.mem_cons_self ..))];exact upd_eq ht r _ fun x hx=>h x (List.mem_cons_of_mem _ hx)
theorem upd_lt: ∀(bs:List Nat) (s:Nat),s<2 ^ 32→(∀b∈bs,b<2 ^ 8)→upd s bs<2 ^ 32
 | [],s,h,_=>h
 |b::r,s,hs,h=>by unfold upd;rw [List.foldl_cons];exact upd_lt r _ (bstep_lt hs (h b (List.mem_cons_self ..))) fun x hx=>h x (List.mem_cons_of_mem _ hx)
end Go.Ev.Crc
namespace Go.Ev
variable {b cap o pb s:Nat}
section
variable {P0:Program}{E:Env}{F:T CFn}{K:T (List AV×AV)}(L:Lg P0 E F K)(X:Fx F K)
include L X
open Crc (f8 bstep)
def tabA:List AV:=(List.range 256).map fun i=> .int .u32 ((f8 i:Nat):Int)
structure Tb (P:Program)(E:Env)(F:T CFn)(K:T (List AV×AV)):Prop where
 ct: ∀h,Ct P E F K 254 [.fn (.func 255) [] []] h fun v h'=>v= .agg tabA∧h'=h
omit L X in
theorem uh {i:Nat}(h:i<256):tabA[i]?=some (.int .u32 ((f8 i:Nat):Int)):=by unfold tabA;rw [List.getElem?_map,List.getElem?_range h];rfl
section
variable {h:H}
theorem ui {tb:Nat}(k:Bk h tb tabA)(hs:s<2 ^ 32)(hb:b<2 ^ 8):Ct P0 E F K 258 [.int .u32 (s:Int),.int .u8 (b:Int),.ptr tb 0] h fun v h'=>v= .int .u32 ((bstep s b:Nat):Int)∧h'=h:=by
 have hx:(s % 256) ^^^ b<256:=Nat.xor_lt_two_pow (n:=8) (Nat.mod_lt _ (by decide)) hb;have hg:=uh hx;have hf:f8 ((s % 256) ^^^ b)<2 ^ 32:=Crc.f8_lt (by omega);have hs8:s >>> 8<2 ^ 32:=by rw [Nat.shiftRight_eq_div_pow];omega
 refine Bf L X.f258 fun Q x cs G=>?_;refine wk ?_;(apply st1 L rfl;exact sx rfl rfl (by decide);rfl);refine wk ?_;(apply st1 L rfl;exact U2 rfl rfl;rfl);refine wk ?_;(apply st1 L rfl;exact Acv rfl rfl rfl (Nat.mod_lt _ (by decide)) hb hx;rfl);refine wk ?_;(apply st1 L rfl;exact Tn rfl rfl hx;rfl);refine wk ?_;(apply st1 L rfl;exact Acv rfl rfl rfl hs8 hf (Nat.xor_lt_two_pow hs8 hf);rfl);refine ret X.f258.1 ?_;refine⟨?_,rfl⟩;rw [←Crc.step_eq (tab:=(List.range 256).map f8) rfl hb];unfold Crc.tstep;rw [Crc.tab_get rfl hx];rfl
theorem Y7 {n tb:Nat}{bs:List Nat}(kp:Bk h pb [.slc b o n cap])(kb:BS h b o bs)(hl:bs.length=n)(hn:n<100000)(kt:Bk h tb tabA)(hs:s<2 ^ 32): Ct P0 E F K 257 [.int .u32 (s:Int),.slc pb 0 1 1,.fn (.func 258) [] [.ptr tb 0]] h fun v h'=>v= .int .u32 ((Crc.upd s bs:Nat):Int)∧h'=h:=by
 have ha:=kb.all;refine Bf L X.f257 fun Q x cs G=>?_;refine wk ?_;refine Bt L ?_;refine wk ?_;refine Bs L (α:= Nat) (T:=fun i u=> [(19,some (AN i)),(18,some (AN n)),(17,some (.slc b o n cap)),(2,some (.fn (.func 258) [] [.ptr tb 0])),(0,some (.int .u32 ((u:Nat):Int))),(13,some Zi),(12,some (AN 1))]) (n:=n) (R:=fun i u h1=>h1=h∧u=Crc.upd s (bs.take i)∧u<2 ^ 32) (i0:=0) s tsb ⟨rfl,by simp [Crc.upd],hs⟩ (Nat.zero_le _) ?_ ?_
 ·rintro i u h1 hi ⟨rfl,w1,w2⟩ ih;have hb:=ha i (by omega);refine wk ?_;(apply st1 L rfl;exact U6 kb rfl (by omega);rfl);refine cal ?_ (c:=ui L X (h:=h1) kt w2 hb);rintro _ rfl;refine wk ?_;refine ih (bstep u (bs.getD i 0)) _ _ ⟨rfl,?_,Crc.bstep_lt w2 hb⟩ tsb;rw [w1,List.take_add_one];have:bs[i]?=some (bs.getD i 0):=by rw [List.getD_eq_getElem?_getD,List.getElem?_eq_getElem (by omega)];rfl
  rw [this];unfold Crc.upd;rw [List.foldl_append];rfl
 ·rintro u h1 ⟨rfl,w1,w2⟩;refine wk ?_;refine Bw L ?_;refine ret X.f257.1 ?_;rw [w1,←hl,List.take_length];exact⟨rfl,rfl⟩
theorem W3 {n:Nat}{bs:List Nat}(T:Tb P0 E F K)(kp:Bk h pb [.slc b o n cap])(kb:BS h b o bs)(hl:bs.length=n)(hn:n<100000)(hs:s<2 ^ 32): Ct P0 E F K 243 [.int .u32 (s:Int),.slc pb 0 1 1] h fun v h'=>v= .int .u32 ((Crc.upd s bs:Nat):Int)∧K0 h h':=by have l1:=kp.lt;have l2:=kb.lt_n;refine Af L X.f243 fun Q x cs G=>?_;refine cal ?_ (c:=T.ct _);rintro _ rfl;refine cal ?_ (c:=Y7 L X (bs:=bs) lkp lkb hl hn (Ra (c:=tabA) rfl lkp) hs);rintro _ rfl;refine ret X.f243.1 ?_;exact⟨rfl,kps⟩
def crcB (bs:List Nat):Nat:=pw .u32 - 1 - Crc.upd 4294967295 bs
omit L X in
theorem Mq (bs:List Nat):crcB bs<2 ^ 32:=by unfold crcB;simp only [pw];omega
theorem uj {n:Nat}{bs:List Nat}(T:Tb P0 E F K)(kp:Bk h pb [.slc b o n cap])(kb:BS h b o bs)(hl:bs.length=n)(hn:n<100000): Ct P0 E F K 224 [.slc pb 0 1 1] h fun v h'=>v= .int .u32 ((crcB bs:Nat):Int)∧K0 h h':=by refine Ao L X.f224 fun Q x cs G=>?_;refine cal ?_ (c:=W3 L X T kp kb hl hn (by decide));rintro _ h1 ⟨rfl,hk⟩;refine wk ?_;(apply st1 L rfl;exact Ae2 rfl rfl (by simp only [pw];exact Crc.upd_lt _ _ (by decide) (fun v hv=>by obtain⟨i,hi,e⟩:=List.getElem_of_mem hv;have:=kb.all i hi;rw [List.getD_eq_getElem?_getD,List.getElem?_eq_getElem hi]at this;rw [←e];exact this));rfl);refine ret X.f224.1 ?_;exact⟨rfl,kps⟩
theorem uk {n:Nat}{bs:List Nat}(T:Tb P0 E F K)(kb:BS h b o bs)(hl:bs.length=n)(hn:n<100000): Ct P0 E F K 201 [.slc b o n cap] h fun v h'=>v= .int .u32 ((crcB bs:Nat):Int)∧K0 h h':=by have l1:=kb.lt_n;refine Ao L X.f201 fun Q x cs G=>?_;refine cal ?_ (c:=uj L X T (bs:=bs) lkp lkb hl hn);rintro _ h1 ⟨rfl,hk⟩;refine ret X.f201.1 ?_;exact⟨rfl,kps⟩
end
end
end Go.Ev
namespace Go.Ev
variable {E:Env}{cap db dcap do_ i k lb lo w:Nat}{data:List Nat}{e:Int}{h:H}{s:Sp}{v:AV}
section
variable {P0:Program}{F:T CFn}{K:T (List AV×AV)}(L:Lg P0 E F K)(X:Fx F K)
include L X
omit L X in
theorem r5 {a b c d e f:Prop}(h:f):a∨b∨c∨d∨e∨f:= .inr (.inr (.inr (.inr (.inr h))))
def Au (s:Sp)(data:List Nat):List Nat:=A6 s++leb 4 (crcB (data++A6 s))
omit L X in
theorem Agj (s:Sp):(s.seq<1)∨ (1≤s.seq∧s.len<1)∨ (1≤s.seq∧65535<s.len)∨ (1≤s.seq∧1≤s.len∧s.len≤65535∧s.idx<0)∨ (1≤s.seq∧1≤s.len∧s.len≤65535∧0≤s.idx∧s.len≤s.idx)∨ (1≤s.seq∧1≤s.len∧s.len≤65535∧0≤s.idx∧s.idx<s.len∧s.kind=1∧s.sec<0)∨ (1≤s.seq∧1≤s.len∧s.len≤65535∧0≤s.idx∧s.idx<s.len∧s.kind=1∧4294967294<s.sec)∨ (1≤s.seq∧1≤s.len∧s.len≤65535∧0≤s.idx∧s.idx<s.len∧s.kind=1∧0≤s.sec∧s.sec≤4294967294∧s.prev≠0)∨ (1≤s.seq∧1≤s.len∧s.len≤65535∧0≤s.idx∧s.idx<s.len∧s.kind=1∧0≤s.sec∧s.sec≤4294967294∧s.prev=0∧s.len≠1)∨ (1≤s.seq∧1≤s.len∧s.len≤65535∧0≤s.idx∧s.idx<s.len∧s.kind=1∧0≤s.sec∧s.sec≤4294967294∧s.prev=0∧s.len=1)∨ (1≤s.seq∧1≤s.len∧s.len≤65535∧0≤s.idx∧s.idx<s.len∧s.kind≠1∧s.kind≠2∧s.kind≠3)∨ (1≤s.seq∧1≤s.len∧s.len≤65535∧0≤s.idx∧s.idx<s.len∧s.kind=2∧s.sec≠0)∨ (1≤s.seq∧1≤s.len∧s.len≤65535∧0≤s.idx∧s.idx<s.len∧s.kind=2∧s.sec=0∧s.seq≤s.prev)∨ (1≤s.seq∧1≤s.len∧s.len≤65535∧0≤s.idx∧s.idx<s.len∧s.kind=2∧s.sec=0∧s.prev<s.seq∧s.seq - s.prev≤s.idx.toNat)∨ (1≤s.seq∧1≤s.len∧s.len≤65535∧0≤s.idx∧s.idx<s.len∧s.kind=2∧s.sec=0∧s.prev<s.seq∧s.idx.toNat<s.seq - s.prev)∨ (1≤s.seq∧1≤s.len∧s.len≤65535∧0≤s.idx∧s.idx<s.len∧s.kind=3∧s.sec≠0)∨ (1≤s.seq∧1≤s.len∧s.len≤65535∧0≤s.idx∧s.idx<s.len∧s.kind=3∧s.sec=0∧s.seq≤s.prev)∨ (1≤s.seq∧1≤s.len∧s.len≤65535∧0≤s.idx∧s.idx<s.len∧s.kind=3∧s.sec=0∧s.prev<s.seq∧s.seq - s.prev≤s.idx.toNat)∨ (1≤s.seq∧1≤s.len∧s.len≤65535∧0≤s.idx∧s.idx<s.len∧s.kind=3∧s.sec=0∧s.prev<s.seq∧s.idx.toNat<s.seq - s.prev):=by
 by_cases h0:s.seq<1;·exact .inl (by omega)
 by_cases h1:s.len<1;·exact .inr (.inl ⟨by omega,by omega⟩)
 by_cases h2:65535<s.len;·exact .inr (.inr (.inl ⟨by omega,by omega⟩))
 by_cases h3:s.idx<0;·exact .inr (.inr (.inr (.inl (by omega))))
 by_cases h4:s.len≤s.idx;·exact .inr (.inr (.inr (.inr (.inl (by omega)))))
 by_cases hk:s.kind=1
 ·by_cases h5:s.sec<0;·exact r5 (.inl (by omega))
  by_cases h6:4294967294<s.sec;·exact r5 (.inr (.inl (by omega)))
  by_cases h7:s.prev≠0;·exact r5 (.inr (.inr (.inl (by omega))))
  by_cases h8:s.len≠1;·exact r5 (.inr (.inr (.inr (.inl (by omega)))))
  exact r5 (.inr (.inr (.inr (.inr (.inl (by omega))))))
 by_cases hk2:s.kind=2
 ·by_cases h11:s.sec≠0;·exact r5 (r5 (.inr (.inl (by omega))))
  by_cases h12:s.seq≤s.prev;·exact r5 (r5 (.inr (.inr (.inl (by omega)))))
  by_cases h13:s.seq - s.prev≤s.idx.toNat;·exact r5 (r5 (.inr (.inr (.inr (.inl (by omega))))))
  exact r5 (r5 (.inr (.inr (.inr (.inr (.inl (by omega)))))))
 by_cases hk3:s.kind=3
 ·by_cases h15:s.sec≠0;·exact r5 (r5 (r5 (.inl (by omega))))
  by_cases h16:s.seq≤s.prev;·exact r5 (r5 (r5 (.inr (.inl (by omega)))))
  by_cases h17:s.seq - s.prev≤s.idx.toNat;·exact r5 (r5 (r5 (.inr (.inr (.inl (by omega))))))
  exact r5 (r5 (r5 (.inr (.inr (.inr (by omega))))))
 exact r5 (r5 (.inl (by omega)))
theorem Tt (ok:s.Ok):Ct P0 E F K 160 [.agg (spC s)] h fun v h'=>v= .bool (decide s.Valid)∧K0 h h':=by
 have hsq:=ok.seq;have hpv:=ok.prev;have hu:0≤s.idx→u64 s.idx=s.idx.toNat∨18446744073709551616≤s.idx:=by unfold u64;omega
 rcases Agj s with hc|hc|hc|hc|hc|hc|hc|hc|hc|hc|hc|hc|hc|hc|hc|hc|hc|hc|hc
 all_goals
  refine Ao L X.f160 fun Q x cs G=>?_;refine wk ?_;(try((apply st1 L rfl;exact Jq rfl;rfl);refine wk ?_;(apply st1 L rfl;exact N4 rfl rfl rfl (by omega) (by simp only [pw];omega);rfl);refine wk ?_));(first
  |(refine ret X.f160.1 ?_;exact⟨by rw [show decide s.Valid=false from decide_eq_false (by unfold Sp.Valid;omega)];rfl,kps⟩)
  |(refine ret X.f160.1 ?_;exact⟨by rw [show decide s.Valid=true from decide_eq_true (by unfold Sp.Valid;omega)];rfl,kps⟩))
theorem uu {v n:Nat}(hn:1≤n∧n≤8)(hv:v<256 ^ n)(hv2:v<18446744073709551616): Ct P0 E F K 251 [UN v,AN n] h fun u h'=> ∃b,u= .tup [.slc b 0 n n,Zi]∧Bk h' b (B7 (leb n v))∧h.n≤b∧K0 h h':=by
 have hz:=Ape hv
 have loop: ∀(Q:Nat→AV→Prop) (x:AFr) (cs:List AFr) (l:List (Nat×Option AV)),(∀u h',(∃b,u= .tup [.slc b 0 n n,Zi]∧Bk h' b (B7 (leb n v))∧h.n≤b∧K0 h h')→GO P0 E Q (finish u cs h' x))→
   TSub (tms [(29,some Zi),(28,some (AN n)),(6,some (.slc h.n 0 n n)),(0,some (UN v))]) (tms l)→
   Good P0 E Q ⟨⟨251,cf251.ntmps,tms l,[.code (.loop Aaw),.inBlock 1,.code Aax],[],.run,false,none⟩,x::cs,hp (h.n+1) h.t [(h.n,some (cl (rl [Zy] n)))]⟩:=by
  intro Q x cs l G ht
  refine Eh L ht ?_
  rw [E6]
  refine Bs L (α:= Unit) (T:=fun i _=> [(29,some (AN i)),(28,some (AN n)),(6,some (.slc h.n 0 n n)),(0,some (UN v))]) (n:=n)
   (R:=fun i _ h1=>Bk h1 h.n (B7 (leb i v++List.replicate (n - i) 0))∧K0 h h1) (i0:=0) () tsb ⟨by rw [leb,List.nil_append,Nat.sub_zero];exact lkp,kps⟩ (Nat.zero_le _) ?_ ?_
  ·rintro i _ h1 hi ⟨w1,w2⟩ ih
   have hd:List.replicate (n - i) 0=0::List.replicate (n - (i+1)) 0:=by rw [show n - i=(n - (i+1))+1 by omega];rfl
   rw [hd]at w1
   have hlen2:i<(B7 (leb i v++0::List.replicate (n - (i+1)) 0)).length:=by
    rw [Gw,List.length_append,List.length_cons,A3];omega
   have l1:=w1.lt
   refine wk ?_
   (apply st1 L rfl;exact sx (s:=8*i) rfl rfl (by show 8*i≤64;omega);rfl)
   refine wk ?_
   (apply st1 L rfl;exact U2 rfl rfl;rfl)
   refine wk ?_
   refine ih () _ _ ⟨?_,kps⟩ tsb
   refine Ra ?_ lkp
   rw [tn _ _ _ _ _ (by rw [A3]),Wv,List.append_assoc]
   rfl
  ·rintro _ h1 ⟨w1,w2⟩
   refine ret X.f251.1 ?_
   rw [Nat.sub_self,List.replicate_zero,List.append_nil]at w1
   exact⟨h.n,rfl,lkp,Nat.le_refl _,kps⟩
 by_cases h8:n<8;·refine Af L X.f251 fun Q x cs G=>?_;refine wk ?_;(apply st1 L rfl;exact sx (s:=8*n) rfl rfl (by show 8*n≤64;omega);rfl);rw [hz];refine wk ?_;exact loop Q x cs _ G tsb
 ·refine Af L X.f251 fun Q x cs G=>?_;refine wk ?_;exact loop Q x cs _ G tsb
structure WrR (h:H)(lo w:Nat)(bs:List Nat):Prop where
 ex:(bs= []∧Bk h w [.nils])∨(0<bs.length∧ ∃b,Bk h w [.slc b 0 bs.length (Aa+1)]∧BS h b 0 bs∧lo≤b∧b≠w)
 lo:lo≤w
omit L X in
theorem WrR.k0 {h':H}{bs:List Nat}(k:K0 h h')(q:WrR h lo w bs):WrR h' lo w bs:=by
 refine⟨?_,q.lo⟩;rcases q.ex with⟨e,k1⟩|⟨e,b,k1,k2,k3⟩;·exact .inl ⟨e,Ag k k1⟩
 ·exact .inr ⟨e,b,Ag k k1,k2.k0 k,k3⟩
theorem ce {b2 n:Nat}{bs new:List Nat}(q:WrR h lo w bs)(k2:BS h b2 0 new)(hn:new.length=n)(h1:0<n)(h2:bs.length+n<100000): Ct P0 E F K 250 [.ptr w 0,.slc b2 0 n cap,Zi] h fun v h'=>v=Zi∧WrR h' lo w (bs++new)∧Kp (fun j=>lo≤j) h h':=by
 have l2:=k2.lt_n;have a2:=k2.all;have hlo:=q.lo;rcases q.ex with⟨rfl,kw⟩|⟨hp0,b,kw,kb,hb,hbw⟩;·have lw:=kw.lt;have f2:BS (hp h.n h.t []) b2 0 new:=k2;refine Bf L X.f250 fun Q x cs G=>?_;refine wk ?_;(apply st1 L rfl;exact Dr (new:=B7 new) rfl rfl (f2.slr hn) h1 (by omega);rfl);refine ret X.f250.1 ?_;refine⟨rfl,⟨.inr ⟨by rw [List.nil_append];omega,h.n,?_,by rw [List.nil_append];exact Aaj (by omega) (Hi a2),by omega,by omega⟩,hlo⟩,kps⟩;rw [List.nil_append,hn];exact lkp
 ·have lw:=kw.lt;have lb:=kb.lt_n;have a1:=kb.all;have f2:BS (hp h.n h.t []) b2 0 new:=k2;have f1:BS (hp h.n h.t []) b 0 bs:=kb;refine Bf L X.f250 fun Q x cs G=>?_;refine wk ?_;(apply st1 L rfl;exact Dq (old:=B7 bs) (new:=B7 new) rfl rfl (f1.slr rfl) (f2.slr hn) h1 (by omega) (E1 _);rfl);refine ret X.f250.1 ?_;refine⟨rfl,⟨.inr ⟨by rw [List.length_append];omega,h.n,?_,?_,by omega,by omega⟩,hlo⟩,kps⟩;·rw [List.length_append,hn];exact lkp
  ·rw [Jp];exact Aaj (by omega) (Hi (a1.app a2))
theorem Aa2 {v n:Nat}{bs:List Nat}(q:WrR h lo w bs)(hn:1≤n∧n≤8)(hv:v<256 ^ n)(hv2:v<18446744073709551616)(h2:bs.length+n<100000): Ct P0 E F K 240 [.ptr w 0,UN v,AN n] h fun u h'=>u=Zi∧WrR h' lo w (bs++leb n v)∧Kp (fun j=>lo≤j) h h':=by refine Bf L X.f240 fun Q x cs G=>?_;refine cal ?_ (c:=uu L X hn hv hv2);rintro _ h1 ⟨b,rfl,w1,w2,w3⟩;refine cal ?_ (c:=ce L X (q.k0 (by exact w3)) (Mj w1 (E7 _ _)) (A3 _ _) hn.1 h2);rintro _ h3 ⟨rfl,w4,w5⟩;refine ret X.f240.1 ?_;exact⟨rfl,w4,Kp.trS w5 (fun _ _ e=>e) (w3.mono fun _ e=>e.elim)⟩
theorem Tu {n:Nat}{bs:List Nat}(q:WrR h lo w bs)(hn:bs.length=n)(h1:0<n∧n<1000):Ct P0 E F K 241 [.ptr w 0] h fun v h'=> ∃b,v= .slc b 0 n (Aa+1)∧BS h' b 0 bs∧h.n≤b∧K0 h h':=by
 rcases q.ex with⟨rfl,kw⟩|⟨hp0,b,kw,kb,hb,hbw⟩;·exact absurd hn (by simp;omega)
 ·rw [hn]at kw;refine Ao L X.f241 fun Q x cs G=>?_;refine cal ?_ (c:=Mp L X (Ajj kb) hn h1);rintro _ h1 ⟨b',rfl,w1,w2,w3⟩;simp only [Al]at w2;refine ret X.f241.1 ?_;exact⟨b',rfl,w1,w2,kps⟩
def fC (x:Nat×Nat):List AV:= [UN x.1,AN x.2]
def fB (l:List (Nat×Nat)):List Nat:=l.flatMap fun x=>leb x.2 x.1
structure FOk (x:Nat×Nat):Prop where
 n:1≤x.2∧x.2≤8
 v:x.1<256 ^ x.2
 v2:x.1<18446744073709551616
omit L X
theorem uv (l:List (Nat×Nat)): ∀x∈l,(fC x).length=2:=fun _ _=>rfl
theorem Aa3 {l:List (Nat×Nat)}{x:Nat×Nat}(h:l[i]?=some x):fB (l.take (i+1))=fB (l.take i)++leb x.2 x.1:=by unfold fB;rw [List.take_add_one,h,List.flatMap_append];simp
theorem Ac8 {l:List (Nat×Nat)}(hl: ∀x∈l,FOk x):(fB l).length≤8*l.length:=by
 induction l with
 |nil=>exact Nat.le_refl _
 |cons a r ih=>have h1:=(hl a (List.mem_cons_self ..)).n;have h2:=ih fun x hx=>hl x (List.mem_cons_of_mem _ hx);unfold fB at*;rw [List.flatMap_cons,List.length_append,A3,List.length_cons];omega
include L X
theorem Y9 {x:Nat×Nat}(ok:FOk x):Ct P0 E F K 253 [.agg (fC x)] h fun u h'=> ∃b,u= .tup [.slc b 0 x.2 x.2,Zi]∧Bk h' b (B7 (leb x.2 x.1))∧h.n≤b∧K0 h h':=by obtain⟨v,n⟩:=x;unfold fC;refine Ao L X.f253 fun Q x cs G=>?_;refine cal ?_ (c:=uu L X ok.n ok.v ok.v2);rintro _ h1 ⟨b,rfl,w1,w2,w3⟩;simp only [Al]at w2;refine ret X.f253.1 ?_;exact⟨b,rfl,lkp,by omega,kps⟩
theorem Aa4 {l:List (Nat×Nat)}(hb:Bk h lb (l.flatMap fC))(hk:l.length=k)(hk1:0<k∧k<1000)(hl: ∀x∈l,FOk x): Ct P0 E F K 252 [.slc lb 0 k k,.fn (.func 253) [] []] h fun u h'=> ∃b,u= .tup [.slc b 0 (fB l).length (Aa+1),Zi]∧BS h' b 0 (fB l)∧h.n≤b∧K0 h h':=by
 have l1:=hb.lt;have hlen:=C8 l (uv l);refine Af L X.f252 fun Q x cs G=>?_;refine wk ?_;refine Bs L (α:= AV) (T:=fun i v=> [(12,some (AN i)),(11,some (AN k)),(10,some (.slc lb 0 k k)),(4,some v),(1,some (.fn (.func 253) [] []))]) (n:=k) (R:=fun i v h2=>((i=0∧v= .nils)∨ ∃b,v= .slc b 0 (fB (l.take i)).length (Aa+1)∧BS h2 b 0 (fB (l.take i))∧h.n≤b)∧Kp (fun j=>h.n≤j) h h2) (i0:=0) .nils tsb ⟨.inl ⟨rfl,rfl⟩,kps⟩ (Nat.zero_le _) ?_ ?_
 ·rintro i v h2 hi ⟨q1,q2⟩ ih;have hx:l[i]?=some l[i]:=List.getElem?_eq_getElem (by omega);have hok:=hl _ (List.getElem_mem (show i<l.length by omega));have hdt:=B4 l (uv l) i _ hx;rw [Aa3 hx]at ih;have hble:=Ac8 (l:=l.take i) fun x hx=>hl x (List.mem_of_mem_take hx);rw [List.length_take]at hble;generalize l[i]=x at*;obtain⟨xv,xn⟩:=x;have hdt':i*2+2≤(l.flatMap fC).length∧((l.flatMap fC).drop (i*2)).take 2= [UN xv,AN xn]:=hdt;have hb2:Bk h2 lb (l.flatMap fC):=Aq q2 (by omega) hb;have n2:=q2.n;have hkn:=hok.n;simp only at hkn;refine wk ?_;(apply st1 L rfl;exact Bg hb2.rk hdt' rfl;rfl);refine cal ?_ (c:=Y9 L X (x:=(xv,xn)) hok);rintro _ h3 ⟨b3,rfl,w1,w2,w3⟩;simp only [Al]at w2;have n3:=w3.n;simp only [Al]at n3;have f3:BS (hp h3.n h3.t []) b3 0 (leb xn xv):=Mj w1 (E7 _ _);have a3:=f3.all;rcases q1 with⟨rfl,rfl⟩|⟨b,rfl,kb,hlo⟩
  ·refine wk ?_;(apply st1 L rfl;exact Dr (new:=B7 (leb xn xv)) rfl rfl (f3.slr (A3 _ _)) (by omega) (by omega);rfl);refine wk ?_;refine ih (.slc h3.n 0 xn (Aa+1)) _ _ ⟨.inr ⟨h3.n,?_,?_,by omega⟩,kps⟩ ?_;rotate_left;·rw [List.take_zero];exact Hi a3
   ·exact tsb
   ·rw [List.take_zero];show AV.slc h3.n 0 xn _=_;rw [show(fB []++leb xn xv).length=xn from A3 _ _]
  ·have lbb:=kb.lt_n;have f1:BS (hp h3.n h3.t []) b 0 (fB (l.take i)):=lkb;have a1:=f1.all;refine wk ?_;(apply st1 L rfl;exact Dq (old:=B7 (fB (l.take i))) (new:=B7 (leb xn xv)) rfl rfl (f1.slr rfl) (f3.slr (A3 _ _)) (by omega) (by omega) (E1 _);rfl);refine wk ?_;refine ih (.slc h3.n 0 ((fB (l.take i)).length+xn) (Aa+1)) _ _ ⟨.inr ⟨h3.n,?_,?_,by omega⟩,kps⟩ ?_;rotate_left;·rw [Jp];exact Hi (a1.app a3)
   ·exact tsb
   ·rw [List.length_append,A3]
 ·rintro v h2 ⟨q1,q2⟩;rcases q1 with⟨e,_⟩|⟨b,rfl,kb,hlo⟩;·omega
  ·rw [←hk,List.take_length]at*;refine ret X.f252.1 ?_;exact⟨b,rfl,kb,hlo,q2.cut (Nat.le_refl _)⟩
theorem Tv {l:List (Nat×Nat)}(hb:Bk h lb (l.flatMap fC))(hk:l.length=k)(hk1:0<k∧k<100)(hl: ∀x∈l,FOk x): Ct P0 E F K 220 [.slc lb 0 k k] h fun u h'=> ∃b,u= .slc b 0 (fB l).length (Aa+1)∧BS h' b 0 (fB l)∧h.n≤b∧K0 h h':=by
 have l1:=hb.lt;have hble:=Ac8 hl;have hpos:0<(fB l).length:=by
  cases l with
  |nil=>simp at hk;omega
  |cons a r=>have:=(hl a (List.mem_cons_self ..)).n;unfold fB;rw [List.flatMap_cons,List.length_append,A3];omega
 refine Ao L X.f220 fun Q x cs G=>?_;refine wk ?_;have q:WrR (hp (h.n+1) h.t [(h.n,some (cl [.nils]))]) h.n h.n []:=⟨.inl ⟨rfl,lkp⟩,Nat.le_refl _⟩;have aa:Ct P0 E F K 242 [.ptr h.n 0,.slc lb 0 k k] (hp (h.n+1) h.t [(h.n,some (cl [.nils]))]) fun v h'=>v=Zi∧WrR h' h.n h.n (fB l)∧Kp (fun j=>h.n≤j) (hp (h.n+1) h.t [(h.n,some (cl [.nils]))]) h':=by clear G;refine Af L X.f242 fun Q x cs G=>?_;refine cal ?_ (c:=Aa4 L X (lb:=lb) (l:=l) lkp hk (by omega) hl);rintro _ h2 ⟨b,rfl,w1,w2,w3⟩;refine cal ?_ (c:=ce L X (q.k0 (by exact w3)) w1 rfl hpos (by rw [List.length_nil];omega));rintro _ h3 ⟨rfl,w4,w5⟩;refine ret X.f242.1 ?_;exact⟨rfl,w4,Kp.trS w5 (fun _ _ e=>e) (w3.mono fun _ e=>e.elim)⟩
 refine cal ?_ (c:=aa);rintro _ h2 ⟨rfl,w1,w2⟩;have n2:=w2.n;simp only [Al]at n2;refine cal ?_ (c:=Tu L X w1 rfl (by omega));rintro _ h3 ⟨b,rfl,w3,w4,w5⟩;refine ret X.f220.1 ?_;refine⟨b,rfl,w3,by omega,?_⟩;have k2:Kp (fun j=>h.n≤j) h h2:=Kp.trS w2 (fun _ _ e=>e) kps;exact Kp.cut (Kp.tr0 w5 k2) (Nat.le_refl _)
omit L X in
theorem Aa5:leb 4 1280591427= [67,70,84,76]:=by decide
def spF (s:Sp):List (Nat×Nat):= [(1280591427,4),(s.kind,1),(0,3),(s.seq,8),(s.prev,8),(s.sec.toNat,4),(s.idx.toNat,4),(s.len.toNat,4)]
structure Sp.Fit (s:Sp):Prop where
 v:s.Valid
 ok:s.Ok
omit L X
theorem Agk (q:s.Fit): ∀x∈spF s,FOk x:=by
 obtain⟨⟨h1,h2,h3,h4,h5,h6⟩,⟨k1,k2,k3⟩⟩:=q;intro x hx;have h8:(256:Nat) ^ 8=18446744073709551616:=by decide
 have h44:(256:Nat) ^ 4=4294967296:=by decide
 unfold spF at hx;simp only [List.mem_cons,List.not_mem_nil,or_false]at hx;rcases hx with rfl|rfl|rfl|rfl|rfl|rfl|rfl|rfl;·exact⟨by simp,by simp [h44],by simp⟩
 ·exact⟨by simp,by simpa using k1,by simp only;omega⟩
 ·exact⟨by simp,by simp,by simp⟩
 ·exact⟨by simp,by simp only [h8];exact k2,k2⟩
 ·exact⟨by simp,by simp only [h8];exact k3,k3⟩
 ·exact⟨by simp,by simp only [h44];omega,by simp only;omega⟩
 ·exact⟨by simp,by simp only [h44];omega,by simp only;omega⟩
 ·exact⟨by simp,by simp only [h44];omega,by simp only;omega⟩
theorem Anc (q:s.Fit):fB (spF s)++List.replicate 24 0=A6 s:=by
 obtain⟨⟨h1,h2,h3,h4,h5,h6⟩,⟨k1,k2,k3⟩⟩:=q;have e1:u64 s.sec=s.sec.toNat:=by unfold u64;omega
 have e2:u64 s.idx=s.idx.toNat:=by unfold u64;omega
 have e3:u64 s.len=s.len.toNat:=by unfold u64;omega
 unfold A6 fB spF mag;rw [e1,e2,e3];simp only [List.flatMap_cons,List.flatMap_nil,Aa5];simp [leb,Nat.mod_eq_of_lt k1]
theorem Aa6 (s:Sp):(fB (spF s)).length=36:=by unfold fB spF;simp only [List.flatMap_cons,List.flatMap_nil,List.length_append,A3,List.length_nil]
include L X
theorem uw {dn eb en ecap:Nat}{ex:List Nat}(T:Tb P0 E F K)(kd:BS h db do_ data)(hd:data.length=dn)(hd1:0<dn∧dn<900)(ke:BS h eb 0 ex)(he:ex.length=en)(he1:en=60)(hc:ecap=Aa+1): Ct P0 E F K 157 [.slc db do_ dn dcap,.slc eb 0 en ecap] h fun v h'=>v= UN (crcB (data++ex))∧K0 h h':=by subst he1 hc;have l1:=kd.lt_n;have l2:=ke.lt_n;have a1:=Mq (data++ex);refine Af L X.f157 fun Q x cs G=>?_;refine cal ?_ (c:=Kj L X (b1:=db) (o1:=do_) (n1:=dn) (c1:=dcap) (b2:=eb) (o2:=0) (n2:=60) (c2:=Aa+1) (bs1:=data) (bs2:=ex) lkp lkb lkb hd he (by omega) (by omega));rintro _ h2 ⟨b,rfl,w1,w2,w3⟩;refine cal ?_ (c:=uk L X T w1 (by rw [List.length_append];omega) (by omega));rintro _ h3 ⟨rfl,w4⟩;refine ret X.f157.1 ?_;exact⟨rfl,kps⟩
theorem Tw {dn:Nat}(T:Tb P0 E F K)(q:s.Fit)(kd:BS h db do_ data)(hd:data.length=dn)(hd1:0<dn∧dn<900): Ct P0 E F K 198 [.agg (spC s),.slc db do_ dn dcap] h fun v h'=> ∃b,v= .tup [.slc b 0 64 (Aa+1),Zi]∧BS h' b 0 (Au s data)∧h.n≤b∧K0 h h':=by
 have l1:=kd.lt_n;have hf:=Agk q;have hB:=Anc q;have hL:=Aa6 s;have hv:=q.v;have hk:=q.ok;obtain⟨v1,v2,v3,v4,v5,v6⟩:=hv;obtain⟨k1,k2,k3⟩:=hk;have hc:=Mq (data++A6 s);have e1:u64 s.sec=s.sec.toNat:=by unfold u64;omega
 have e2:u64 s.idx=s.idx.toNat:=by unfold u64;omega
 have e3:u64 s.len=s.len.toNat:=by unfold u64;omega
 refine Af L X.f198 fun Q x cs G=>?_;refine cal ?_ (c:=Tt L X q.ok);rintro _ h2 ⟨rfl,w1⟩;rw [decide_eq_true q.v];have n2:=w1.n;simp only [Al]at n2;refine wk ?_;(apply st1 L rfl;exact Jq rfl;rfl);rw [e1];refine wk ?_;(apply st1 L rfl;exact Jq rfl;rfl);rw [e2];refine wk ?_;(apply st1 L rfl;exact Jq rfl;rfl);rw [e3];refine cal ?_ (c:=Tv L X (k:=8) (l:=spF s) lkp rfl (by omega) hf);rintro _ h3 ⟨b3,rfl,w2,w3,w4⟩;have n3:=w4.n;simp only [Al]at n3 w3;rw [hL];refine wk ?_;have f3:BS (hp h3.n h3.t []) b3 0 (fB (spF s)):=w2;have a3:=f3.all;(apply st1 L rfl;exact Ac1 (zero:= [Zy]) (old:=B7 (fB (spF s))) rfl rfl (by omega) (f3.slr hL) rfl (by omega) (by omega) (by omega);rfl);have hB2:B7 (fB (spF s))++rl [Zy] 24=B7 (A6 s):=by rw [E6,Jp,hB]
 rw [show 60 - 36=24 from rfl,hB2];have ah:=Y0 k1;have hl60:=B6 s;have n4:h.n+1≤h2.n:=n2;refine wk ?_;have f4:BS (hp (h3.n+1) h3.t [(h3.n,some (cl (B7 (A6 s)))),(b3,none)]) h3.n 0 (A6 s):=Hi ah;have k4:BS (hp (h3.n+1) h3.t [(h3.n,some (cl (B7 (A6 s)))),(b3,none)]) db do_ data:=Afb (Aaj (by omega) (by exact lkb));refine cal ?_ (c:=uw L X T k4 hd hd1 f4 hl60 rfl rfl);rintro _ h5 ⟨rfl,w5⟩;have n5:=w5.n;simp only [Al]at n5;refine cal ?_ (c:=Tv L X (k:=1) (l:= [(crcB (data++A6 s),4)]) lkp rfl (by omega) (fun x hx=>by cases hx with|head=>exact⟨by simp,by simpa using hc,by simp only;omega⟩|tail _ h=>cases h));rintro _ h6 ⟨b6,rfl,w6,w7,w8⟩;have n6:=w8.n;simp only [Al]at n6 w7;have e6:fB [(crcB (data++A6 s),4)]=leb 4 (crcB (data++A6 s)):=by unfold fB;simp
 rw [e6]at*;rw [A3];refine wk ?_;have f6:BS (hp h6.n h6.t []) b6 0 (leb 4 (crcB (data++A6 s))):=w6;refine cal ?_ (c:=Kj L X (b1:=h3.n) (o1:=0) (n1:=60) (c1:=Aa+1) (b2:=b6) (o2:=0) (n2:=4) (c2:=Aa+1) (bs1:=A6 s) (bs2:=leb 4 (crcB (data++A6 s))) lkp lkb lkb hl60 (A3 _ _) (by omega) (by omega));rintro _ h7 ⟨b7,rfl,x1,x2,x3⟩;simp only [Al]at x2;refine ret X.f198.1 ?_;refine⟨b7,rfl,x1,by omega,?_⟩;have k3':Kp (fun j=>h.n≤j) h h3:=kps;have k5':Kp (fun j=>h.n≤j) h h5:=kps;have k6':Kp (fun j=>h.n≤j) h h6:=kps;have k7':Kp (fun j=>h.n≤j) h h7:=kps;exact k7'.cut (Nat.le_refl _)
end
theorem ux {p:Prop}(h:p:=by
 refine Ao L X.f164 fun Q x cs G=>?_
 refine ret X.f164.1 ?_
 exact⟨rfl,kps⟩):p:=h
section
variable {P0:Program}{F:T CFn}{K:T (List AV×AV)}(L:Lg P0 E F K)(X:Fx F K)
include L X
theorem Tx:Ct P0 E F K 172 [.bool true,.int .i64 e] h fun v h'=>v= .tup []∧h'=h:=by refine Af L X.f172 fun Q x cs G=>?_;refine ret X.f172.1 ?_;exact⟨rfl,rfl⟩
theorem Lr {d fm bb:Nat}{D:Dv}(hd:Bk h d (dvC D fm bb)):Ct P0 E F K 28 [.ptr d 0] h fun v h'=>v= .bool (!D.off)∧h'=h:=by refine Ao L X.f28 fun Q x cs G=>?_;refine cal ?_ (c:=D4 L X hd);rintro _ rfl;have hd':=hd;unfold dvC dvL at hd';refine ret X.f28.1 ?_;exact⟨rfl,rfl⟩
theorem Ha {sz:Nat}(hz:12≤sz∧sz≤8192):Ct P0 E F K 77 [AN sz] h fun v h'=>v= AN ((sz - 4) / 8)∧h'=h:=by refine Ao L X.f77 fun Q x cs G=>?_;refine ret X.f77.1 ?_;exact⟨rfl,rfl⟩
theorem Rs {e:Ent}:Ct P0 E F K 164 [.agg (Az e)] h fun v h'=>v= .bool (decide (¬e.Ok))∧K0 h h':=by
 obtain⟨a,b⟩:=e;have hT: ¬(0≤a∧a≤4294967294∧ -1≤b∧b≤4294967294)→decide (¬Ent.Ok (a,b))=true:=fun q=>decide_eq_true (by unfold Ent.Ok;exact q);have hF:(0≤a∧a≤4294967294∧ -1≤b∧b≤4294967294)→decide (¬Ent.Ok (a,b))=false:=fun q=>decide_eq_false (by unfold Ent.Ok;exact fun r=>r q);by_cases q0:a<0;·rw [hT (by omega)];exact ux
 by_cases q1:4294967294<a;·rw [hT (by omega)];exact ux
 by_cases q2:b< -1;·rw [hT (by omega)];exact ux
 by_cases q3:4294967294<b;·rw [hT (by omega)];exact ux
 ·rw [hF (by omega)];exact ux
theorem Ay:Ct P0 E F K 87 [.bool true,.int .i64 e] h fun v h'=>v= .tup []∧h'=h:=by refine Af L X.f87 fun Q x cs G=>?_;refine ret X.f87.1 ?_;exact⟨rfl,rfl⟩
theorem Ds:CtP P0 E F K 87 [.bool false,.int .i64 e] h fun v h'=>v= .ifc 34 (.int .i64 e)∧h'=h:=by refine Ek L X.f87 fun Q x cs G=>?_;refine wk ?_;refine Mm L rfl rfl ?_;refine A2 L X.f87.1 ?_;exact G _ _ ⟨rfl,rfl⟩
theorem jf {l:List Ent}(q:EL h lo v l)(hlen:l.length<1000)(hok: ∀e∈l,e.Ok):Ct P0 E F K 239 [v,.fn (.func 164) [] []] h fun u h'=>u= .int .i64 (-1)∧K0 h h':=by
 rcases q.len with⟨rfl,rfl⟩|⟨hpos,b,rfl,hb,-⟩;·refine Af L X.f239 fun Q x cs G=>?_;refine wk ?_;refine Bt L ?_;refine ret X.f239.1 ?_;exact⟨rfl,kps⟩
 ·have hl2:=Ba l;refine Af L X.f239 fun Q x cs G=>?_;refine wk ?_;refine Bs L (α:= Unit) (T:=fun i _=> [(8,some (AN i)),(7,some (AN l.length)),(0,some (.slc b 0 l.length (Aa+2))),(1,some (.fn (.func 164) [] []))]) (n:=l.length) (R:=fun i _ h2=>True∧K0 h h2) (i0:=0) () tsb ⟨trivial,kps⟩ (Nat.zero_le _) ?_ ?_;·rintro i _ h2 hi ⟨-,k2⟩ ih;have hx:l[i]?=some l[i]:=List.getElem?_eq_getElem hi;have hdt:=B4 l (Fi l) i _ hx;have ho:=hok _ (List.getElem_mem hi);have hb2:=Ag k2 hb;refine wk ?_;(apply st1 L rfl;exact Bg hb2.rk hdt rfl;rfl);refine cal ?_ (c:=Rs L X);rintro _ h3 ⟨rfl,k3⟩;rw [decide_eq_false (by simpa using ho)];refine wk ?_;exact ih () _ _ ⟨trivial,kps⟩ tsb
  ·rintro _ h2 ⟨-,k2⟩;refine ret X.f239.1 ?_;exact⟨rfl,k2⟩
theorem It {l:List Ent}(q:EL h lo v l)(hlen:l.length<1000)(hok: ∀e∈l,e.Ok):Ct P0 E F K 217 [v,.fn (.func 164) [] []] h fun u h'=>u= .bool false∧K0 h h':=by refine Af L X.f217 fun Q x cs G=>?_;refine cal ?_ (c:=jf L X q hlen hok);rintro _ h2 ⟨rfl,k2⟩;refine ret X.f217.1 ?_;exact⟨rfl,k2⟩
theorem jg {sz:Nat}{ls:List Nat}(hb:Bk h lb (ls.map fun n=>AN n))(hk:ls.length=k)(hk1:0<k∧k<1000)(hl: ∀x∈ls,x<4294967296)(hsz:4*k≤sz∧sz<900): Ct P0 E F K 219 [AN sz,.slc lb 0 k cap] h fun u h'=> ∃b,u= .slc b 0 sz (Aa+1)∧BS h' b 0 (ls.flatMap (leb 4)++List.replicate (sz - 4*k) 0)∧h.n≤b∧K0 h h':=by
 have l1:=hb.lt;have hfl: ∀r:List Nat,(r.flatMap (leb 4)).length=4*r.length:=by
  intro r;induction r with
  |nil=>rfl
  |cons a r ih=>rw [List.flatMap_cons,List.length_append,A3,ih,List.length_cons];omega
 refine Af L X.f219 fun Q x cs G=>?_;refine wk ?_;refine Bs L (α:= Unit) (T:=fun i _=> [(10,some (AN i)),(9,some (AN k)),(8,some (.slc lb 0 k cap)),(5,some (.ptr h.n 0)),(0,some (AN sz)),(1,some (.slc lb 0 k cap))]) (n:=k) (R:=fun i _ h2=>WrR h2 h.n h.n ((ls.take i).flatMap (leb 4))∧Kp (fun j=>h.n≤j) h h2) (i0:=0) () tsb ⟨⟨.inl ⟨by simp,lkp⟩,Nat.le_refl _⟩,kps⟩ (Nat.zero_le _) ?_ ?_
 ·rintro i _ h2 hi ⟨q1,q2⟩ ih;have hx:ls[i]?=some ls[i]:=List.getElem?_eq_getElem (by omega);have hlt:=hl _ (List.getElem_mem (show i<ls.length by omega));have hb2:Bk h2 lb (ls.map fun n=>AN n):=Aq q2 (by omega) hb;have hx2:(ls.map fun n=>AN n)[i]?=some (AN (ls[i])):=by rw [List.getElem?_map,hx];rfl
  have e1:(ls.take (i+1)).flatMap (leb 4)=(ls.take i).flatMap (leb 4)++leb 4 ls[i]:=by rw [List.take_add_one,hx,List.flatMap_append];simp
  have hle:=hfl (ls.take i);rw [List.length_take]at hle;rw [e1]at ih;generalize ls[i]=v at*;refine cal ?_ (c:=Aa2 L X (v:=v) (n:=4) q1 (by omega) (by omega) (by omega) (by omega));rintro _ h3 ⟨rfl,w1,w2⟩;refine wk ?_;refine ih () _ _ ⟨w1,Kp.trS w2 (fun _ _ e=>e) q2⟩ tsb
 ·rintro _ h2 ⟨q1,q2⟩;rw [←hk,List.take_length]at q1;have hle:=hfl ls;have n2:=q2.n;refine cal ?_ (c:=Tu L X (n:=4*k) q1 (by omega) (by omega));rintro _ h3 ⟨b3,rfl,w1,w2,w3⟩;have a3:=w1.all;have n3:=w3.n;refine wk ?_;by_cases hz:sz=4*k;·subst hz;rw [Nat.sub_self];(apply st1 L rfl;exact Ajs rfl rfl;rfl);refine ret X.f219.1 ?_;rw [Nat.sub_self,List.replicate_zero,List.append_nil];exact⟨b3,rfl,lkb,by omega,Kp.cut (Kp.tr0 w3 q2) (Nat.le_refl _)⟩
  ·have f3:BS (hp h3.n h3.t []) b3 0 (ls.flatMap (leb 4)):=w1;(apply st1 L rfl;exact Ac1 (zero:= [Zy]) (old:=B7 (ls.flatMap (leb 4))) rfl rfl (by omega) (f3.slr (by omega)) rfl (by omega) (by omega) (by omega);rfl);rw [E6,Jp];refine ret X.f219.1 ?_;refine⟨h3.n,by rw [show 4*k+(sz - 4*k)=sz by omega];rfl,Hi (a3.app (AllB.rep (by omega))),by omega,?_⟩;have k3:Kp (fun j=>h.n≤j) h (hp (h3.n+1) h3.t [(h3.n,some (cl (B7 (ls.flatMap (leb 4)++List.replicate (sz - 4*k) 0)))),(b3,none)]):=kps;exact k3.cut (Nat.le_refl _)
omit L X in
theorem Za (l:List Ent)(a n:Nat):((l.flatMap Az).drop (a*2)).take (n*2)=((l.drop a).take n).flatMap Az:=by
 induction l generalizing a with
 |nil=>simp
 |cons e r ih=>
  cases a with
  |succ a=>rw [List.flatMap_cons,show(a+1)*2=a*2+1+1 by omega];show((_::_::r.flatMap Az).drop (a*2+1+1)).take _=_;rw [List.drop_succ_cons,List.drop_succ_cons,ih a,List.drop_succ_cons]
  |zero=>
   have h0:=ih 0;rw [Nat.zero_mul,List.drop_zero,List.drop_zero]at h0 ⊢;clear ih;induction n generalizing e r with
   |zero=>simp
   |succ n ih2=>
    rw [List.take_succ_cons,List.flatMap_cons,List.flatMap_cons,show(n+1)*2=n*2+1+1 by omega];show(_::_::r.flatMap Az).take (n*2+1+1)=_::_::(r.take n).flatMap Az;rw [List.take_succ_cons,List.take_succ_cons];congr 2
    cases r with
    |nil=>simp
    |cons e2 r2=>
     have:=ih2 e2 r2 (by
      have key: ∀(q:List Ent) (m:Nat),(q.flatMap Az).take (m*2)=(q.take m).flatMap Az:=by
       intro q;induction q with
       |nil=>intro m;simp
       |cons a b ihq=>
        intro m
        cases m with
        |zero=>simp
        |succ m=>rw [List.take_succ_cons,List.flatMap_cons,List.flatMap_cons,show(m+1)*2=m*2+1+1 by omega];show(_::_::b.flatMap Az).take (m*2+1+1)=_::_::(b.take m).flatMap Az;rw [List.take_succ_cons,List.take_succ_cons,ihq m]
      exact key r2 n)
     exact this
def Jw (l:List Ent)(n:Nat):List Nat:=n::l.flatMap fun e=> [e.1.toNat,(e.2+1).toNat]
omit L X
theorem W5 (l:List Ent)(n:Nat):(Jw l n).length=1+2*l.length:=by
 unfold Jw;rw [List.length_cons];have: ∀r:List Ent,(r.flatMap fun e=> [e.1.toNat,(e.2+1).toNat]).length=2*r.length:=by
  intro r;induction r with
  |nil=>rfl
  |cons a r ih=>rw [List.flatMap_cons,List.length_append,ih];simp only [List.length_cons,List.length_nil];omega
 rw [this];omega
theorem jh {l:List Ent}{n:Nat}{e:Ent}(h:l[i]?=some e):Jw (l.take (i+1)) n=Jw (l.take i) n++ [e.1.toNat,(e.2+1).toNat]:=by unfold Jw;rw [List.take_add_one,h,List.flatMap_append];simp
theorem uy (sz:Nat)(l:List Ent):(Jw l l.length).flatMap (leb 4)++List.replicate (sz - 4*(1+2*l.length)) 0=Cd sz l:=by
 unfold Jw Cd;rw [List.flatMap_cons,show sz - 4*(1+2*l.length)=sz - 4 - 8*l.length by omega];congr 2;induction l with
 |nil=>rfl
 |cons e r ih=>rw [List.flatMap_cons,List.flatMap_cons,List.flatMap_append,ih];simp [Ip]
include L X
theorem Zb {sz:Nat}{l:List Ent}(q:EL h lo v l)(hok: ∀e∈l,e.Ok)(hsz:12≤sz∧sz<900)(hfit:4+8*l.length≤sz): Ct P0 E F K 197 [AN sz,v] h fun u h'=> ∃b,u= .tup [.slc b 0 sz (Aa+1),Zi]∧BS h' b 0 (Cd sz l)∧h.n≤b∧K0 h h':=by
 have hlen:l.length<1000:=by omega
 have cell: ∀(e:Ent),e.Ok→ ∃a b:Nat,e=((a:Int),(b:Int) - 1)∧a<4294967296∧b<4294967296:=by rintro⟨a,b⟩ ⟨h1,h2,h3,h4⟩;simp only at h1 h2 h3 h4;refine⟨a.toNat,(b+1).toNat,?_,by omega,by omega⟩;rw [Prod.mk.injEq];omega
 have hall: ∀x∈Jw l l.length,x<4294967296:=by
  intro x hx;unfold Jw at hx;rcases List.mem_cons.1 hx with rfl|hx;·omega
  ·obtain⟨e,he,hx⟩:=List.mem_flatMap.1 hx;obtain⟨a,b,rfl,ha,hb⟩:=cell e (hok e he);simp only [List.mem_cons,List.not_mem_nil,or_false]at hx;omega
 have hfl:=W5 l l.length
 have fin: ∀(Q:Nat→AV→Prop) (x:AFr) (cs:List AFr) (h2:H) (lq:List (Nat×Option AV)) (fb cap:Nat),(∀u h',(∃b,u= .tup [.slc b 0 sz (Aa+1),Zi]∧BS h' b 0 (Cd sz l)∧h.n≤b∧K0 h h')→GO P0 E Q (finish u cs h' x))→
   Bk h2 fb ((Jw l l.length).map fun n=>AN n)→Kp (fun j=>h.n≤j) h h2→TSub (tms [(42,some (.slc fb 0 (1+2*l.length) cap)),(41,some (AN sz))]) (tms lq)→
   Good P0 E Q ⟨⟨197,cf197.ntmps,tms lq,[.ops [Cc 43 219 [(.t 41),(.t 42)],Cv 4 43,Cm 5 0],.code .ret],[],.run,false,none⟩,x::cs,hp h2.n h2.t []⟩:=by
  intro Q x cs h2 lq fb cap G kb k2 ht
  have n2:=k2.n
  refine Eh L ht ?_
  refine cal ?_ (c:=jg L X (sz:=sz) (k:=1+2*l.length) kb hfl (by omega) hall (by omega))
  rintro _ h3 ⟨b3,rfl,w1,w2,w3⟩
  refine ret X.f197.1 ?_
  rw [uy]at w1
  exact⟨b3,rfl,w1,by omega,Kp.cut (Kp.tr0 w3 k2) (Nat.le_refl _)⟩
 rcases q.len with⟨rfl,rfl⟩|⟨hpos,b,rfl,hb,-⟩;·refine Af L X.f197 fun Q x cs G=>?_;refine cal ?_ (c:=Ha L X (sz:=sz) (by omega));rintro _ rfl;refine cal ?_ (c:=It L X q hlen hok);rintro _ h2 ⟨rfl,k2⟩;refine cal ?_ (c:=Ha L X (sz:=sz) (by omega));rintro _ rfl;refine wk ?_;refine Bt L ?_;refine wk ?_;have n2:=k2.n;exact fin Q x cs (hp (h2.n+1) h2.t [(h2.n,some (cl [Zi]))]) _ h2.n 1 G lkp kps tsb
 ·have hl2:=Ba l;have lb:=hb.lt;refine Af L X.f197 fun Q x cs G=>?_;refine cal ?_ (c:=Ha L X (sz:=sz) (by omega));rintro _ rfl;refine cal ?_ (c:=It L X q hlen hok);rintro _ h2 ⟨rfl,k2⟩;refine cal ?_ (c:=Ha L X (sz:=sz) (by omega));rintro _ rfl;have n2:=k2.n;refine wk ?_
  refine Bs L (α:= Nat×Nat) (T:=fun i s=> [(28,some (AN i)),(27,some (AN l.length)),(26,some (.slc b 0 l.length (Aa+2))),(6,some (.slc s.1 0 (1+2*i) s.2)),(0,some (AN sz))]) (n:=l.length)
   (R:=fun i s h3=>Bk h3 s.1 ((Jw (l.take i) l.length).map fun n=>AN n)∧h.n≤s.1∧s.2=(if i=0 then 1 else Aa+1)∧Kp (fun j=>h.n≤j) h h3) (i0:=0) (h2.n,1) tsb ⟨by simp only [Jw,List.take_zero,List.flatMap_nil,List.map_cons,List.map_nil];exact lkp,by simp only;omega,rfl,kps⟩ (Nat.zero_le _) ?_ ?_
  ·rintro i ⟨fb,cap⟩ h3 hi ⟨q1,q2,q3,q4⟩ ih;simp only at q1 q2 q3;have hx:l[i]?=some l[i]:=List.getElem?_eq_getElem hi;have hdt:=B4 l (Fi l) i _ hx;obtain⟨ea,eb,he,ha1,hb1⟩:=cell _ (hok _ (List.getElem_mem hi));have hb2:Bk h3 b (l.flatMap Az):=Aq q4 (by omega) hb;have n3:=q4.n;have lf:=q1.lt;have hfi:=W5 (l.take i) l.length;rw [List.length_take]at hfi;rw [jh hx,he]at ih;rw [he]at hdt;have hdt':i*2+2≤(l.flatMap Az).length∧((l.flatMap Az).drop (i*2)).take 2= [AN ea,eI ((eb:Int) - 1)]:=hdt;have e5:((eb:Int) - 1)+((1:Nat):Int)=(eb:Int):=(by omega);simp only at ih;rw [show((ea:Int)).toNat=ea from Int.toNat_natCast ea,show((eb:Int) - 1+1).toNat=eb by omega]at ih;refine wk ?_;(apply st1 L rfl;exact Bg hb2.rk hdt' rfl;rfl);refine wk ?_;rw [e5];have hlf:((Jw (l.take i) l.length).map fun n=>AN n).length=1+2*i:=(by rw [List.length_map,hfi];omega);have hin: ∀hh:H,Bk hh fb ((Jw (l.take i) l.length).map fun n=>AN n)→SlR 1 hh (.slc fb 0 (1+2*i) cap) (1+2*i) ((Jw (l.take i) l.length).map fun n=>AN n):=fun hh k=>SlR.of k (by omega) (by rw [List.drop_zero,List.take_of_length_le (by omega)]);by_cases hi0:i=0;·rw [if_pos hi0]at q3;subst q3;subst hi0;(apply st1 L rfl;exact Aai (old:=(Jw (l.take 0) l.length).map fun n=>AN n) (new:= [AN ea,AN eb]) rfl rfl (hin _ (by exact lkp)) (SlR.of (c:= [AN ea,AN eb]) lkp (Nat.le_refl _) rfl) (by omega) (by decide) (by omega);rfl);refine wk ?_;refine ih (h3.n+1+1,Aa+1) _ _ ⟨?_,by simp only;omega,rfl,kps⟩ tsb;rw [List.map_append];exact lkp
   ·rw [if_neg hi0]at q3;subst q3;(apply st1 L rfl;exact Dq (old:=(Jw (l.take i) l.length).map fun n=>AN n) (new:= [AN ea,AN eb]) rfl rfl (hin _ (by exact lkp)) (SlR.of (c:= [AN ea,AN eb]) lkp (Nat.le_refl _) rfl) (by omega) (by omega) rfl;rfl);refine wk ?_;refine ih (h3.n+1+1,Aa+1) _ _ ⟨?_,by simp only;omega,(by rw [if_neg (by omega)]),kps⟩ ?_;·rw [List.map_append];exact lkp
    ·rw [show 1+2*(i+1)=1+2*i+2 by omega];exact tsb
  ·rintro⟨fb,cap⟩ h3 ⟨q1,q2,q3,q4⟩;simp only at q1 q2 q3;rw [List.take_length]at q1;have n3:=q4.n;have lf:=q1.lt;refine wk ?_;exact fin Q x cs _ _ fb cap G (by exact lkp) kps tsb
end
variable {b c m o prev size:Nat}{p:Prop}{w y z:O}
theorem zq8 (h:p:=by
 refine wk ?_
 have kk: ∀u w,Kp (fun j=>j=ob) h4 (hp (h4.n+1+1) h4.t [(h4.n+1,some u),(ob,none),(h4.n,some w)]):=fun u w=>kps
 refine hfin _ _ (h4.n+1) ?_ (by omega) kps (fun y hy=>?_) ?_ (fun y hy c n b' e=>?_) tsb
 ·rw [List.flatMap_append,List.flatMap_cons,List.flatMap_nil,List.append_nil];exact lkp
 ·have h6:=(pr.el y hy).k0 k4
  rcases h6.ex with h7|⟨h7,b',h8,h9,h10⟩
  ·exact⟨.inl h7⟩
  ·exact⟨.inr ⟨h7,b',h8,Aq (kk _ _) (by have:=hbo y hy _ _ _ h8;omega) h9,h10⟩⟩
 ·rcases hev.ex with h7|⟨h7,b',h8,h9,h10⟩
  ·exact⟨.inl h7⟩
  ·exact⟨.inr ⟨h7,b',h8,Aq (kk _ _) (by omega) h9,by omega⟩⟩
 ·have:=hbo y hy _ _ _ e;omega):p:=h
theorem Ane (h:p:=by
 refine wk ?_
 refine hfin _ _ (h4.n+1) ?_ (by omega) kps (fun y hy=>by cases hy) (hev.mono (by omega) |>.k0 kps) (fun y hy=>by cases hy) tsb
 rw [List.nil_append,List.flatMap_cons,List.flatMap_nil,List.append_nil];exact lkp):p:=h
theorem Agl (h:p:=by
 rw [List.length_map,My,List.length_map,List.length_range]at this;exact this):p:=h
theorem Ac9 (h:p:=by
 unfold cntJ
 have:(es.length+mostJ sz - 1) / mostJ sz≤es.length+mostJ sz - 1:=Nat.div_le_self _ _
 omega):p:=h
section
variable {P0:Program}{F:T CFn}{K:T (List AV×AV)}(L:Lg P0 E F K)(X:Fx F K)
include L X
omit L X
theorem Mx {l:List (Nat×Option AV)}{x:O}{q:Bool}{sh:Sh}{a d:Nat}(e:evO l x=some (UN a))(e1:evO l y=some (UN d))(hr:a+d<18446744073709551616):XV (.bin .add x y q sh) h l (UN (a+d)) h:=by have:=sw (q:=q) (sh:=sh) (h:=h) rfl e e1;rwa [show(a+d) % pw .u64=a+d by simp only [pw];omega]at this
theorem Anf {l:List (Nat×Option AV)}{x:O}{len a:Nat}{i j k:IntKind}(e:evO l x=some (.slc b o len (Aa+size)))(e1:evO l y=some (.int i (a:Int)))(e2:evO l z=some (.int j (c:Int)))(e3:evO l w=some (.int k (m:Int)))(hac:a≤c)(hc:c≤m)(hm:m≤len)(hl:len<Aa)(hne:a<m): XV (.sliceS size x (some y) (some z) (some w)) h l (.slc b (o+a*size) (c - a) (m - a)) h:=by refine⟨?_⟩;simp only [exec,Ah,(BndR.att e1).opt,(BndR.att e2).opt,(BndR.att e3).opt,Ab e,Fl,Nh,A0 (show Aa≤Aa+size by omega),Oi,A0 hc,A0 hm,Option.getD_some,A0 hac,A0 (show Nat.succ m≤Aa by omega),vo,Gr (show m≠a by omega)];rfl
theorem Ang {l:List (Nat×Option AV)}{x:O}{a:Nat}{i j k:IntKind}(e:evO l x=some .nils)(e1:evO l y=some (.int i (a:Int)))(e2:evO l z=some (.int j (c:Int)))(e3:evO l w=some (.int k (m:Int)))(ha:a=0)(hc:c=0)(hm:m=0):XV (.sliceS size x (some y) (some z) (some w)) h l .nils h:=by subst ha hc hm;refine⟨?_⟩;simp only [exec,Ah,(BndR.att e1).opt,(BndR.att e2).opt,(BndR.att e3).opt,Ab e];rfl
include L X
abbrev JPg:=Sp×List Ent
def jpC (x:JPg×AV):List AV:=spC x.1.1++ [x.2]
omit L X in
theorem Kk (l:List (JPg×AV)): ∀x∈l,(jpC x).length=7:=fun _ _=>rfl
structure PgsR (h:H)(lo b:Nat)(l:List (JPg×AV)):Prop where
 k:Bk h b (l.flatMap jpC)
 el: ∀x∈l,EL h lo x.2 x.1.2
 lo:lo≤b
 bd: ∀x∈l,∀c n b',x.2= .slc b' 0 n c→b'<b
def mostJ (sz:Nat):Nat:=(sz - 4) / 8
def cntJ (sz n:Nat):Nat:=max 1 ((n+mostJ sz - 1) / mostJ sz)
def D1 (sz:Nat)(es:List Ent)(i:Nat):List Ent:=(es.drop (mostJ sz*i)).take (mostJ sz)
def Cy (k sz first prev:Nat)(es:List Ent)(i:Nat):JPg:=(⟨k,0,first+i,prev,(i:Int),((cntJ sz es.length:Nat):Int)⟩,D1 sz es i)
def My (k sz first prev:Nat)(es:List Ent)(n:Nat):List JPg:=(List.range n).map (Cy k sz first prev es)
theorem Tz {sz n:Nat}(hsz:12≤sz∧sz<900)(hn:n<100000):Ct P0 E F K 216 [AN sz,AN n] h fun v h'=>v=AN (cntJ sz n)∧h'=h:=by
 have hm:0<(sz - 4) / 8:=by omega
 refine Af L X.f216 fun Q x cs G=>?_;refine cal ?_ (c:=Ha L X (sz:=sz) (by omega));rintro _ rfl;refine ret X.f216.1 ?_;exact⟨rfl,rfl⟩
theorem ji {n:Nat}{xs:List Ent}(k:SlR 2 h (.slc b o n cap) n (xs.flatMap Az))(hn:xs.length=n)(h1:0<n∧n<100000):Ct P0 E F K 218 [.slc b o n cap] h fun v h'=>EL h' h.n v xs∧K0 h h':=by
 cases k with
 | @slc _ _ _ _ c _ hbk hk hx hlt=>have kb:Bk h b c:=⟨hbk,hlt⟩;refine Ao L X.f218 fun Q x cs G=>?_;refine wk ?_;(apply st1 L rfl;exact Afa (new:=xs.flatMap Az) rfl rfl (SlR.of (c:=c) lkp hk hx) (by omega) (by omega);rfl);refine ret X.f218.1 ?_;exact⟨⟨.inr ⟨List.length_pos_iff.1 (by omega),h.n+1,by rw [hn];rfl,lkp,by omega⟩⟩,kps⟩
theorem Zc:Ct P0 E F K 218 [.nils] h fun v h'=>v= .nils∧h'=h:=by refine Ao L X.f218 fun Q x cs G=>?_;refine ret X.f218.1 ?_;exact⟨rfl,rfl⟩
theorem uz {sz first:Nat}{es:List Ent}{x:AFr}{cs:List AFr}{Q:Nat→AV→Prop}{h0:H}(q:EL h0 0 v es)(hsz:12≤sz∧sz<900)(hlen:es.length<1000)(hf:prev<first∧first<1000000000) (G: ∀u h',(∃b l,u= .tup [.slc b 0 l.length (Aa+7),Zi]∧l.map (·.1)=My k sz first prev es (cntJ sz es.length)∧PgsR h' h0.n b l∧K0 h0 h')→GO P0 E Q (finish u cs h' x)) {h1:H} (k1:K0 h0 h1) {lq:List (Nat×Option AV)} (ht:TSub (tms [(54,some Zi),(53,some (AN (cntJ sz es.length))),(14,some (AN (mostJ sz))),(13,some .nils),(12,some (AN (cntJ sz es.length))),(4,some v),(3,some (UN prev)),(2,some (UN first)),(0,some (.int .u8 (k:Int)))]) (tms lq)): Good P0 E Q ⟨⟨195,cf195.ntmps,tms lq,[.code (.loop Vb),.inBlock 1,.code Vc],[],.run,false,none⟩,x::cs,h1⟩:=by
 have hm:0<mostJ sz:=by unfold mostJ;omega
 have hm2:mostJ sz<200:=by unfold mostJ;omega
 have hcn:cntJ sz es.length<2000:=by exact Ac9
 have hcn1:0<cntJ sz es.length:=by unfold cntJ;omega
 have hpart: ∀i,i<cntJ sz es.length→(es= []∧i=0)∨mostJ sz*i<es.length:=by
  intro i hi;by_cases h0:es.length=0;·left;have:es= []:=List.length_eq_zero_iff.1 h0;refine⟨this,?_⟩;unfold cntJ at hi;rw [h0]at hi;have h2:(0+mostJ sz - 1) / mostJ sz=0:=Nat.div_eq_of_lt (by omega);rw [h2]at hi;omega
  ·right;have h2:i<(es.length+mostJ sz - 1) / mostJ sz:=(by unfold cntJ at hi;have h3:1≤(es.length+mostJ sz - 1) / mostJ sz:=(Nat.le_div_iff_mul_le hm).2 (by omega);omega);have h4:=(Nat.le_div_iff_mul_le hm).1 (show i+1≤(es.length+mostJ sz - 1) / mostJ sz from h2);rw [Nat.add_mul,Nat.one_mul,Nat.mul_comm]at h4;omega
 have n1:=k1.n;refine Eh L ht ?_;generalize hN:cntJ sz es.length=N at*
 refine Bs L (α:= AV×List (JPg×AV)) (T:=fun i s=> [(54,some (AN i)),(53,some (AN N)),(14,some (AN (mostJ sz))),(13,some s.1),(12,some (AN N)),(4,some v),(3,some (UN prev)),(2,some (UN first)),(0,some (.int .u8 (k:Int)))]) (n:=N)
  (R:=fun i s h3=>s.2.map (·.1)=My k sz first prev es i∧((i=0∧s.1= .nils)∨(0<i∧ ∃b,s.1= .slc b 0 i (Aa+7)∧PgsR h3 h0.n b s.2))∧Kp (fun j=>h0.n≤j) h0 h3) (i0:=0) (.nils,[]) tsb ⟨rfl,.inl ⟨rfl,rfl⟩,k1.mono fun _ e=>e.elim⟩ (Nat.zero_le _) ?_ ?_
 ·rintro i ⟨sv,sl⟩ h3 hi ⟨q1,q2,q3⟩ ih;simp only at q1 q2;have n3:=q3.n;have hlen7:sl.length=i:=by have:=congrArg List.length q1;exact Agl
  have hrs:My k sz first prev es (i+1)=My k sz first prev es i++ [Cy k sz first prev es i]:=by unfold My;rw [List.range_succ,List.map_append];rfl
  have hfl:=C8 sl (Kk sl)
  have rest: ∀(ev:AV) (h4:H),EL h4 h3.n ev (D1 sz es i)→K0 h3 h4→ ∀lq2,TSub (tms [(83,some ev),(81,some (.agg (spC (Cy k sz first prev es i).1))),(72,some sv),(54,some (AN i)),(53,some (AN N)),(14,some (AN (mostJ sz))),(12,some (AN N)),(4,some v),(3,some (UN prev)),(2,some (UN first)),(0,some (.int .u8 (k:Int)))]) (tms lq2)→
    Good P0 E Q ⟨⟨195,cf195.ntmps,tms lq2,[.ops [Cj 84 (.build [Zy,Zi,Zu,Zu,Zi,Zi,.nils] [(0,6,(.t 81)),(6,1,(.t 83))]),Cj 85 (.bslice 1 [Zy,Zi,Zu,Zu,Zi,Zi,.nils] [(0,7,(.t 84))]),Cj 86 (.append 7 72 (.t 72) (.t 85)),Cv 13 86],.inBlock 2,.code Aau,.inLoop Vb,.inBlock 1,.code Vc],[],.run,false,none⟩,x::cs,hp h4.n h4.t []⟩:=by
   intro ev h4 hev k4 lq2 ht2
   have n4:=k4.n
   have hpl:=hev.plain.2
   have hcv:=hev.plain.1
   have hbd: ∀c n b',ev= .slc b' 0 n c→b'<h4.n:=by
    intro c n b' e
    rcases hev.len with⟨_,e2⟩|⟨_,b2,e2,k2,_⟩
    ·rw [e2]at e;cases e
    ·rw [e2]at e;cases e;exact k2.lt
   have hcell:jpC (Cy k sz first prev es i,ev)= [.int .u8 (k:Int),Zi,UN (first+i),UN prev,AN i,AN N,ev]:=by
    unfold jpC Cy spC;rw [hN];rfl
   refine Eh L ht2 ?_
   rw [show spC (Cy k sz first prev es i).1= [.int .u8 (k:Int),Zi,UN (first+i),UN prev,AN i,AN N] by unfold Cy spC;rw [hN];rfl]
   have hpl7:Ar [.int .u8 (k:Int),Zi,UN (first+i),UN prev,AN i,AN N,ev]=true:=by
    simp only [Ar,hpl];rfl
   have hfin: ∀(h5:H) (lq3:List (Nat×Option AV)) (nb:Nat),Bk h5 nb ((sl++ [(Cy k sz first prev es i,ev)]).flatMap jpC)→h4.n≤nb→Kp (fun j=>h0.n≤j) h0 h5→(∀y∈sl,EL h5 h0.n y.2 y.1.2)→EL h5 h0.n ev (D1 sz es i)→(∀y∈sl,∀c n b',y.2= .slc b' 0 n c→b'<nb)→
     TSub (tms [(13,some (.slc nb 0 (i+1) (Aa+7))),(54,some (AN (i+1))),(53,some (AN N)),(14,some (AN (mostJ sz))),(12,some (AN N)),(4,some v),(3,some (UN prev)),(2,some (UN first)),(0,some (.int .u8 (k:Int)))]) (tms lq3)→
     Good P0 E Q ⟨⟨195,cf195.ntmps,tms lq3,[.inLoop Vb,.inBlock 1,.code Vc],[],.run,false,none⟩,x::cs,h5⟩:=by
    intro h5 lq3 nb a1 a2 a3 a4 a5 a6 a7
    refine Eh L a7 ?_
    refine ih (.slc nb 0 (i+1) (Aa+7),sl++ [(Cy k sz first prev es i,ev)]) _ _ ⟨?_,.inr ⟨Nat.succ_pos i,nb,rfl,⟨a1,?_,by omega,?_⟩⟩,a3⟩ tsb
    ·rw [hrs,List.map_append,q1];rfl
    ·intro y hy
     rcases List.mem_append.1 hy with hy|hy
     ·exact a4 y hy
     ·rw [List.mem_singleton.1 hy];exact a5
    ·intro y hy
     rcases List.mem_append.1 hy with hy|hy
     ·exact a6 y hy
     ·rw [List.mem_singleton.1 hy];intro c n b' e;have:=hbd c n b' e;omega
   clear ih
   rcases q2 with⟨rfl,rfl⟩|⟨hi0,ob,rfl,pr⟩
   ·have hsl:sl= []:=List.length_eq_zero_iff.1 hlen7
    subst hsl
    have hev2:=hev
    rcases hev2.ex with⟨_,rfl⟩|⟨_,eb',rfl,_,_⟩
    ·refine wk ?_
     (apply st1 L rfl;exact Dr (new:=jpC (Cy k sz first prev es 0,.nils)) rfl rfl (SlR.of (c:=jpC (Cy k sz first prev es 0,.nils)) (by rw [hcell];exact lkp) (by rw [hcell];exact Nat.le_refl _) (by rw [hcell];rfl)) (by omega) (by omega);rfl)
     exact Ane
    ·refine wk ?_
     (apply st1 L rfl;exact Dr (new:=jpC (Cy k sz first prev es 0,(.slc eb' 0 (D1 sz es 0).length (Aa+2)))) rfl rfl (SlR.of (c:=jpC (Cy k sz first prev es 0,(.slc eb' 0 (D1 sz es 0).length (Aa+2)))) (by rw [hcell];exact lkp) (by rw [hcell];exact Nat.le_refl _) (by rw [hcell];rfl)) (by omega) (by omega);rfl)
     exact Ane
   ·have l5:=pr.k.lt
    have k5:Bk h4 ob (sl.flatMap jpC):=Ag k4 pr.k
    have hlo:=pr.lo
    have hbo:=pr.bd
    have hev2:=hev
    rcases hev2.ex with⟨_,rfl⟩|⟨_,eb',rfl,_,_⟩
    ·refine wk ?_
     (apply st1 L rfl;exact Dq (old:=sl.flatMap jpC) (new:=jpC (Cy k sz first prev es i,.nils)) rfl rfl (SlR.of (c:=sl.flatMap jpC) lkp (by rw [hfl,hlen7];omega) (by rw [List.drop_zero,List.take_of_length_le (by rw [hfl,hlen7];exact Nat.le_refl _)])) (SlR.of (c:=jpC (Cy k sz first prev es i,.nils)) (by rw [hcell];exact lkp) (by rw [hcell];exact Nat.le_refl _) (by rw [hcell];rfl)) (by omega) (by omega) (by rw [hcell];exact hpl7);rfl)
     exact zq8
    ·refine wk ?_
     (apply st1 L rfl;exact Dq (old:=sl.flatMap jpC) (new:=jpC (Cy k sz first prev es i,(.slc eb' 0 (D1 sz es i).length (Aa+2)))) rfl rfl (SlR.of (c:=sl.flatMap jpC) lkp (by rw [hfl,hlen7];omega) (by rw [List.drop_zero,List.take_of_length_le (by rw [hfl,hlen7];exact Nat.le_refl _)])) (SlR.of (c:=jpC (Cy k sz first prev es i,(.slc eb' 0 (D1 sz es i).length (Aa+2)))) (by rw [hcell];exact lkp) (by rw [hcell];exact Nat.le_refl _) (by rw [hcell];rfl)) (by omega) (by omega) (by rw [hcell];exact hpl7);rfl)
     exact zq8
  have hmi:mostJ sz*i≤200*2000:=Nat.mul_le_mul (by omega) (by omega);rcases q.len with⟨e0,rfl⟩|⟨hpos,eb,rfl,heb,-⟩
  ·have hi0:i=0:=by
    rcases hpart i hi with⟨_,e⟩|e;·exact e
    ·rw [e0]at e;simp at e
   subst hi0;refine wk ?_;(apply st1 L rfl;exact Ang rfl rfl rfl rfl (by omega) (by omega) rfl;rfl);refine wk ?_;(apply st1 L rfl;exact Mx rfl rfl (by omega);rfl);refine cal ?_ (c:=Zc L X);rintro _ rfl;rw [←hN]at*;exact rest .nils h3 (by rw [show D1 sz es 0= [] by unfold D1;rw [e0];simp];exact EL.nil _ _) (Kp.refl _) _ (by unfold Cy spC;exact tsb)
  ·have hlt:mostJ sz*i<es.length:=by
    rcases hpart i hi with⟨e,_⟩|e;·rw [e]at hpos;exact absurd hpos (Nat.lt_irrefl 0)
    ·exact e
   have heb3:Bk h3 eb (es.flatMap Az):=Aq q3 (by have:=heb.lt;omega) heb;have hel:=Ba es;have lb3:=heb3.lt;refine wk ?_;(apply st1 L rfl;exact Anf rfl rfl rfl rfl (by omega) (by omega) (by omega) (by simp only [Aa];omega) hlt;rfl);refine wk ?_;(apply st1 L rfl;exact Mx rfl rfl (by omega);rfl);refine cal ?_ (c:=ji L X (n:=min (mostJ sz*i+mostJ sz) es.length - mostJ sz*i) (xs:=D1 sz es i) (SlR.of (c:=es.flatMap Az) lkp (by omega) (by rw [Nat.zero_add,Za];unfold D1;congr 1;rw [List.take_eq_take_iff,List.length_drop];omega)) (by unfold D1;rw [List.length_take,List.length_drop];omega) (by omega));rintro ev h4 ⟨w1,w2⟩;rw [←hN]at*;exact rest ev h4 w1 (by exact w2) _ (by unfold Cy spC;exact tsb)
 ·rintro⟨sv,sl⟩ h3 ⟨q1,q2,q3⟩;simp only at q1 q2;rcases q2 with⟨e,_⟩|⟨_,b,rfl,pr⟩;·omega
  have hlen7:sl.length=N:=by have:=congrArg List.length q1;exact Agl
  refine ret X.f195.1 ?_;exact⟨b,sl,by rw [hlen7];rfl,q1,⟨pr.k,pr.el,pr.lo,pr.bd⟩,q3.cut (Nat.le_refl _)⟩
end
theorem Ans (h:p:=by
 refine cal ?_ (c:=It L X q hlen hok)
 rintro _ h2 ⟨rfl,k2⟩
 refine cal ?_ (c:=Ha L X (sz:=sz) (by omega))
 rintro _ rfl
 refine wk ?_
 refine uz L X q hsz hlen hf G (by exact k2) ?_
 exact tsb):p:=h
section
variable {P0:Program}{F:T CFn}{K:T (List AV×AV)}(L:Lg P0 E F K)(X:Fx F K)
include L X
section
theorem mg {sz first:Nat}{es:List Ent}(q:EL h 0 v es)(hok: ∀e∈es,e.Ok)(hk:k=2∨k=3)(hsz:12≤sz∧sz<900)(hlen:es.length<1000)(hf:prev<first∧first<1000000000): Ct P0 E F K 195 [.int .u8 (k:Int),AN sz,UN first,UN prev,v] h fun u h'=> ∃b l,u= .tup [.slc b 0 l.length (Aa+7),Zi]∧l.map (·.1)=My k sz first prev es (cntJ sz es.length)∧PgsR h' h.n b l∧K0 h h':=by
 have hcn:cntJ sz es.length<2000:=by
  have hm:0<mostJ sz:=by unfold mostJ;omega
  have hm2:mostJ sz<200:=by unfold mostJ;omega
  exact Ac9
 have hcn1:0<cntJ sz es.length:=by unfold cntJ;omega
 rcases q.len with⟨e0,rfl⟩|⟨hpos,eb,rfl,heb,-⟩
 ·have e00:cntJ sz 0=cntJ sz es.length:=by rw [e0];rfl
  rcases hk with rfl|rfl
  all_goals
   refine Rf L X.f195 fun Q x cs G=>?_;refine cal ?_ (c:=Tz L X (n:=0) hsz (by omega));rintro _ rfl;rw [e00];exact Ans
 ·rcases hk with rfl|rfl
  all_goals
   refine Rf L X.f195 fun Q x cs G=>?_;refine cal ?_ (c:=Tz L X (n:=es.length) hsz (by omega));rintro _ rfl;exact Ans
