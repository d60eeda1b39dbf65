/- Part of the proof. -/
import Derived.Test.YtclfgfpebplncaaGreatH03
import Derived.Test.YtclfgfpebplncaaGreatH04
set_option linter.unusedVariables false
set_option linter.unusedSectionVars false
set_option linter.unusedSimpArgs false
set_option maxRecDepth 10000
set_option maxHeartbeats 4000000
namespace Go.Ev
variable {E:Env}{F:T CFn}{K:T (List AV×AV)}{P0:Program}{b i nb p pb s t:Nat}{cb:List AV}{h h':H}{pe ps:Nat→Nat}
section
variable (L:Lg P0 E F K)(X:Fx F K)
include L X
def cntS (ps:Nat→Nat)(s:Nat):Nat→Nat
 |0=>0
 |n+1=>cntS ps s n+if ps n=s then 1 else 0
omit L X
theorem Ko (ps:Nat→Nat)(s:Nat): ∀n,cntS ps s n≤n
 |0=>Nat.le_refl _
 |n+1=>by have:=Ko ps s n;simp only [cntS];split <;> omega
theorem Xg {ps:Nat→Nat}{s i:Nat}: ∀{n},i<n→ps i=s→0<cntS ps s n
 |n+1,hi,e=>by
  simp only [cntS];by_cases h:i=n;·subst h;rw [if_pos e];omega
  ·have:=Xg (ps:=ps) (s:=s) (n:=n) (by omega) e;omega
theorem Xh (ps:Nat→Nat)(i t s:Nat): ∀n,n≤i→cntS (upd ps i t) s n=cntS ps s n
 |0,_=>rfl
 |n+1,h=>by simp only [cntS,Xh ps i t s n (by omega),upd_ne ps t (show n≠i by omega)]
theorem C9 (ps:Nat→Nat)(i t s:Nat): ∀n,i<n→cntS (upd ps i t) s n+(if ps i=s then 1 else 0)=cntS ps s n+(if t=s then 1 else 0)
 |n+1,h=>by
  simp only [cntS];by_cases e:i=n;·subst e;rw [Xh ps i t s i (Nat.le_refl _),upd_eq];omega
  ·have:=C9 ps i t s n (by omega);rw [upd_ne ps t (show n≠i by omega)];omega
include L X
def pcC (ps:Nat→Nat)(pb nb:Nat):List AV:= [.slc pb 0 nb (Aa+2),AN (cntS ps 0 nb),AN (cntS ps 1 nb),AN (cntS ps 2 nb),AN (cntS ps 3 nb),AN (cntS ps 4 nb)]
structure PoC (h:H)(p pb nb:Nat)(ps pe:Nat→Nat)(cb:List AV):Prop where
 pk:Bk h p (pcC ps pb nb)
 bk:Bk h pb cb
 ne:p≠pb
 len:cb.length=nb*2
 nbd:0<nb∧nb≤12
 c0: ∀i,i<nb→cb[i*2]?=some (AN (pe i))
 c1: ∀i,i<nb→cb[i*2+1]?=some (AN (ps i))
 st: ∀i,i<nb→1≤ps i∧ps i≤4
 er: ∀i,i<nb→pe i≤100000
omit L X
theorem PoC.kp {S:Nat→Prop}(k:Kp S h h')(h1: ¬S p)(h2: ¬S pb)(q:PoC h p pb nb ps pe cb):PoC h' p pb nb ps pe cb:= ⟨Aq k h1 q.pk,Aq k h2 q.bk,q.ne,q.len,q.nbd,q.c0,q.c1,q.st,q.er⟩
theorem PoC.k0 (k:K0 h h')(q:PoC h p pb nb ps pe cb):PoC h' p pb nb ps pe cb:=q.kp k id id
theorem PoC.c0s (q:PoC h p pb nb ps pe cb)(hi:i<nb)(j:Nat)(hj:j<nb):(cb.set (i*2+1) (AN t))[j*2]?=some (AN (pe j)):=by rw [List.getElem?_set_ne (by omega)];exact q.c0 j hj
theorem PoC.c1s (q:PoC h p pb nb ps pe cb)(hi:i<nb)(j:Nat)(hj:j<nb):(cb.set (i*2+1) (AN t))[j*2+1]?=some (AN (upd ps i t j)):=by
 have:=q.len;by_cases e:j=i;·subst e;rw [List.getElem?_set_self (by omega),upd_eq]
 ·rw [List.getElem?_set_ne (by omega),upd_ne _ _ e];exact q.c1 j hj
include L X
theorem M9 (q:PoC h p pb nb ps pe cb):Ct P0 E F K 185 [.ptr p 0] h fun v h'=>v= .bool false∧h'=h:=by have hd:=q.pk;have hn:=q.nbd;unfold pcC at hd;refine Ao L X.f185 fun Q x cs G=>?_;refine ret X.f185.1 ?_;exact⟨rfl,rfl⟩
theorem Vl (q:PoC h p pb nb ps pe cb){i:Int}:Ct P0 E F K 184 [.ptr p 0,.int .i64 i] h fun v h'=>v= .bool (decide (0≤i∧i<nb))∧h'=h:=by
 have hd:=q.pk;unfold pcC at hd;refine Af L X.f184 fun Q x cs G=>?_;refine wk ?_;by_cases hi:0≤i
 ·refine wk ?_;by_cases hj:i<nb;·refine ret X.f184.1 ?_;exact⟨by simp [single,hi,hj],rfl⟩
  ·refine ret X.f184.1 ?_;exact⟨by simp [single,hi,hj],rfl⟩
 ·refine ret X.f184.1 ?_;exact⟨by simp [single,hi],rfl⟩
theorem Pi {n:Nat}(hn:n≤1099511627776):Ct P0 E F K 182 [AN n] h fun v h'=>v= .bool true∧h'=h:=by refine Ao L X.f182 fun Q x cs G=>?_;refine ret X.f182.1 ?_;exact⟨rfl,rfl⟩
theorem H4 (q:PoC h p pb nb ps pe cb)(hi:i<nb):Ct P0 E F K 130 [.ptr p 0,AN i] h fun v h'=>v=AN (ps i)∧h'=h:=by have hd:=q.pk;have hb:=q.bk;have hc:=q.c1 i hi;unfold pcC at hd;refine Af L X.f130 fun Q x cs G=>?_;refine cal ?_ (c:=Vl L X q);rintro _ rfl;rw [decide_eq_true (show 0≤(i:Int)∧(i:Int)<nb by omega)];refine ret X.f130.1 ?_;exact⟨rfl,rfl⟩
omit L X in
theorem Jz {l:List (Nat×Option AV)}{x y:O}{o len size:Nat}{k:IntKind}(e:evO l x=some (.ptr b o))(e1:evO l y=some (.int k (i:Int)))(hi:i<len):XV (.iaddrA len size x y) h l (.ptr b (o+i*size)) h:=⟨Wo (Ab e) (Ab e1) hi rfl⟩
theorem Na (q:PoC h p pb nb ps pe cb)(hi:i<nb)(ht:1≤t∧t≤4):Ct P0 E F K 186 [.ptr p 0,AN i,AN t] h fun v h'=>v= .tup []∧PoC h' p pb nb (upd ps i t) pe (cb.set (i*2+1) (AN t))∧Kp (fun j=>j=p∨j=pb) h h':=by
 have hd:=q.pk;have hb:=q.bk;have hc:=q.c1 i hi;have hl:=q.len;have hne:=q.ne;have hst:=q.st i hi;have l1:=hd.lt;have l2:=hb.lt;have c0s:=q.c0s (t:=t) hi;have c1s:=q.c1s (t:=t) hi;have hnb:=q.nbd;have hpos:=Xg (ps:=ps) (s:=ps i) hi rfl;have e0:=C9 ps i t 0 nb hi;have e1:=C9 ps i t 1 nb hi;have e2:=C9 ps i t 2 nb hi;have e3:=C9 ps i t 3 nb hi;have e4:=C9 ps i t 4 nb hi;have b1:=Ko ps 1 nb;have b2:=Ko ps 2 nb;have b3:=Ko ps 3 nb;have b4:=Ko ps 4 nb;have hlt:i*2+1<cb.length:=by omega
 have st2: ∀j,j<nb→1≤upd ps i t j∧upd ps i t j≤4:=fun j hj=>by
  by_cases e:j=i;·subst e;rw [upd_eq];exact ht
  ·rw [upd_ne _ _ e];exact q.st j hj
 have her:=q.er;unfold pcC at hd;have hs:ps i=1∨ps i=2∨ps i=3∨ps i=4:=by omega
 have htt:t=1∨t=2∨t=3∨t=4:=by omega
 rcases hs with hs|hs|hs|hs <;> rw [hs]at hc hpos e0 e1 e2 e3 e4 <;> rcases htt with rfl|rfl|rfl|rfl <;> simp at e0 e1 e2 e3 e4
 all_goals
  refine Bf L X.f186 fun Q x cs G=>?_;refine wk ?_;(apply Ax rfl rfl;exact Jz rfl rfl (by omega));refine wk ?_;(apply Ax rfl rfl;exact Jz rfl rfl (by omega));refine wk ?_;(apply Ax rfl rfl;exact Jz rfl rfl (by omega));refine wk ?_;(apply Ax rfl rfl;exact Jz rfl rfl (by omega));refine ret X.f186.1 ?_;refine⟨rfl,⟨Ra ?_ lkp,lkp,hne,(by rw [List.length_set];exact hl),hnb,c0s,c1s,st2,her⟩,kps⟩;unfold pcC;simp only [List.cons.injEq,and_true,true_and,eI,AV.int.injEq];omega
end
theorem Anr {p:Prop}(h:p:=by
 by_cases e:j=i
 ·subst e;rw [List.getElem?_set_self (by omega),upd_eq]
 ·rw [List.getElem?_set_ne (by omega),upd_ne _ _ e];exact c0 j hj):p:=h
section
variable (L:Lg P0 E F K)(X:Fx F K)
include L X
theorem T4 {a:Nat}:Ct P0 E F K 194 [.agg [AN a,AN b]] h fun v h'=>v= .bool (decide (b=2))∧K0 h h':=by
 refine Ao L X.f194 fun Q x cs G=>?_;by_cases e:b=2;·refine ret X.f194.1 ?_;exact⟨by rw [decide_eq_true e];rfl,kps⟩
 ·refine ret X.f194.1 ?_;exact⟨by rw [decide_eq_false e];rfl,kps⟩
theorem mc {a:Nat}:Ct P0 E F K 212 [.agg [AN a,AN b]] h fun v h'=>v= .bool (decide (b≠4))∧K0 h h':=by
 refine Ao L X.f212 fun Q x cs G=>?_;by_cases e:b=4;·refine ret X.f212.1 ?_;exact⟨by rw [decide_eq_false (by simpa using e)];rfl,kps⟩
 ·refine ret X.f212.1 ?_;exact⟨by rw [decide_eq_true (by simpa using e)];rfl,kps⟩
theorem So {a:Nat}(ha:a<1099511627776):Ct P0 E F K 213 [.agg [AN a,AN b]] h fun v h'=>v= .bool (decide (b=2∨b=3))∧K0 h h':=by
 refine Ao L X.f213 fun Q x cs G=>?_;refine cal ?_ (c:=T4 L X);rintro _ h2 ⟨rfl,k2⟩;by_cases e:b=2;·rw [decide_eq_true e];refine ret X.f213.1 ?_;exact⟨by rw [decide_eq_true (.inl e)];rfl,kps⟩
 ·rw [decide_eq_false e];by_cases e2:b=3;·refine ret X.f213.1 ?_;exact⟨by rw [decide_eq_true (.inr e2)];rfl,kps⟩
  ·refine ret X.f213.1 ?_;exact⟨by rw [decide_eq_false (by omega)];rfl,kps⟩
theorem Od {f:Nat}{W:Bool}(q:PoC h p pb nb ps pe cb)(hi:i<nb)(hw: ∀h2,Ct P0 E F K f [.agg [AN (pe i),AN (ps i)]] h2 fun v h'=>v= .bool W∧K0 h2 h'): Ct P0 E F K 193 [.ptr p 0,AN i,.fn (.func f) [] []] h fun v h'=>v=AN (if W=true then 0 else 8)∧K0 h h':=by
 have hd:=q.pk;have hb:=q.bk;have hc0:=q.c0 i hi;have hc1:=q.c1 i hi;unfold pcC at hd;refine Bf L X.f193 fun Q x cs G=>?_;refine cal ?_ (c:=M9 L X q);rintro _ rfl;refine cal ?_ (c:=Vl L X q);rintro _ rfl;rw [decide_eq_true (show 0≤(i:Int)∧(i:Int)<nb by omega)];refine cal ?_ (c:=hw _);rintro _ h2 ⟨rfl,k2⟩
 cases W with
 |true=>refine ret X.f193.1 ?_;exact⟨rfl,kps⟩
 |false=>refine ret X.f193.1 ?_;exact⟨rfl,kps⟩
theorem H5 (q:PoC h p pb nb ps pe cb)(hi:i<nb)(hs:ps i=2): Ct P0 E F K 140 [.ptr p 0,AN i] h fun v h'=>v=Zi∧PoC h' p pb nb (upd ps i 3) pe (cb.set (i*2+1) (AN 3))∧Kp (fun j=>j=p∨j=pb) h h':=by refine Af L X.f140 fun Q x cs G=>?_;refine cal ?_ (c:=Od L X (W:=true) q hi (fun h2=>(T4 L X).mono fun v h' e=>by rw [decide_eq_true hs]at e;exact e));rintro _ h2 ⟨rfl,k2⟩;rw [if_pos rfl];refine cal ?_ (c:=Na L X (t:=3) (q.k0 (by exact kps)) hi (by omega));rintro _ h3 ⟨rfl,w1,w2⟩;refine ret X.f140.1 ?_;exact⟨rfl,w1,Kp.trS w2 (fun _ _ e=>e) kps⟩
theorem R3 (q:PoC h p pb nb ps pe cb)(hi:i<nb)(hs:ps i≠4): Ct P0 E F K 189 [.ptr p 0,AN i] h fun v h'=>v=Zi∧PoC h' p pb nb (upd ps i 4) pe (cb.set (i*2+1) (AN 4))∧Kp (fun j=>j=p∨j=pb) h h':=by refine Af L X.f189 fun Q x cs G=>?_;refine cal ?_ (c:=Od L X (W:=true) q hi (fun h2=>(mc L X).mono fun v h' e=>by rw [decide_eq_true hs]at e;exact e));rintro _ h2 ⟨rfl,k2⟩;rw [if_pos rfl];refine cal ?_ (c:=Na L X (t:=4) (q.k0 (by exact kps)) hi (by omega));rintro _ h3 ⟨rfl,w1,w2⟩;refine ret X.f189.1 ?_;exact⟨rfl,w1,Kp.trS w2 (fun _ _ e=>e) kps⟩
theorem Xi (q:PoC h p pb nb ps pe cb)(hi:i<nb)(hs:ps i=2∨ps i=3)(he:pe i<100000): Ct P0 E F K 190 [.ptr p 0,AN i] h fun v h'=>v=Zi∧(∃cb',PoC h' p pb nb (upd ps i 1) (upd pe i (pe i+1)) cb')∧Kp (fun j=>j=p∨j=pb) h h':=by
 refine Af L X.f190 fun Q x cs G=>?_;refine cal ?_ (c:=Od L X (W:=true) q hi (fun h2=>(So L X (by omega)).mono fun v h' e=>by rw [decide_eq_true hs]at e;exact e));rintro _ h2 ⟨rfl,k2⟩;rw [if_pos rfl];refine cal ?_ (c:=Na L X (t:=1) (q.k0 (by exact kps)) hi (by omega));rintro _ h3 ⟨rfl,w1,w2⟩;have hd:=w1.pk;have hb:=w1.bk;have hc0:=w1.c0 i hi;have hl:=w1.len;have hne:=w1.ne;have l1:=hd.lt;have l2:=hb.lt;have c0:=w1.c0;have c1:=w1.c1;have hlt:i*2<(cb.set (i*2+1) (AN 1)).length:=by omega
 unfold pcC at hd;refine ret X.f190.1 ?_;refine⟨rfl,⟨(cb.set (i*2+1) (AN 1)).set (i*2) (AN (pe i+1)),⟨lkp,by exact lkp,hne,(by rw [List.length_set];exact hl),q.nbd,fun j hj=>?_,fun j hj=>?_,w1.st,fun j hj=>?_⟩⟩,Kp.st (.inr (.inr rfl)) (Kp.trS w2 (fun _ _ e=>e) kps)⟩;·exact Anr
 ·rw [List.getElem?_set_ne (by omega)];exact c1 j hj
 ·by_cases e:j=i;·subst e;rw [upd_eq];omega
  ·rw [upd_ne _ _ e];exact w1.er j hj
theorem Abg {e:Nat}(q:PoC h p pb nb ps pe cb)(hi:i<nb)(ht:1≤t∧t≤4)(he:e≤100000): Ct P0 E F K 131 [.ptr p 0,AN i,AN t,AN e] h fun v h'=>v=Zi∧(∃cb',PoC h' p pb nb (upd ps i t) (upd pe i e) cb')∧Kp (fun j=>j=p∨j=pb) h h':=by
 refine Yw L X.f131 fun Q x cs G=>?_;refine cal ?_ (c:=M9 L X q);rintro _ rfl;refine cal ?_ (c:=Pi L X (by omega));rintro _ rfl;refine cal ?_ (c:=Vl L X q);rintro _ rfl;rw [decide_eq_true (show 0≤(i:Int)∧(i:Int)<nb by omega)];refine cal ?_ (c:=Na L X (t:=t) q hi ht);rintro _ h3 ⟨rfl,w1,w2⟩;have hd:=w1.pk;have hb:=w1.bk;have hl:=w1.len;have hne:=w1.ne;have l1:=hd.lt;have l2:=hb.lt;have c0:=w1.c0;have c1:=w1.c1;have hlt:i*2<(cb.set (i*2+1) (AN t)).length:=by omega
 unfold pcC at hd;refine ret X.f131.1 ?_;refine⟨rfl,⟨(cb.set (i*2+1) (AN t)).set (i*2) (AN e),⟨lkp,by exact lkp,hne,(by rw [List.length_set];exact hl),q.nbd,fun j hj=>?_,fun j hj=>?_,w1.st,fun j hj=>?_⟩⟩,Kp.st (.inr (.inr rfl)) (Kp.trS w2 (fun _ _ e=>e) kps)⟩;·exact Anr
 ·rw [List.getElem?_set_ne (by omega)];exact c1 j hj
 ·by_cases e:j=i;·subst e;rw [upd_eq];omega
  ·rw [upd_ne _ _ e];exact w1.er j hj
theorem me (q:PoC h p pb nb ps pe cb):Ct P0 E F K 187 [.slc pb 0 nb (Aa+2)] h fun v h'=> ∃b,v= .slc b 0 nb (Aa+2)∧Bk h' b cb∧h.n≤b∧K0 h h':=by have hb:=q.bk;have hl:=q.len;have hn:=q.nbd;refine Ao L X.f187 fun Q x cs G=>?_;refine wk ?_;(apply st1 L rfl;exact Afa (new:=cb) rfl rfl (SlR.of (c:=cb) lkp (by omega) (by rw [List.drop_zero,List.take_of_length_le (by omega)])) (by omega) (by omega);rfl);refine ret X.f187.1 ?_;exact⟨_,rfl,lkp,by omega,kps⟩
theorem Lw (q:PoC h p pb nb ps pe cb):Ct P0 E F K 132 [.ptr p 0,AN s] h fun v h'=> ∃a b lb,v= .fn (.func 188) [] [.ptr a 0,.ptr b 0]∧Bk h' a [.slc lb 0 nb (Aa+2)]∧Bk h' b [AN s]∧Bk h' lb cb∧h.n≤a∧h.n≤b∧h.n≤lb∧K0 h h':=by have hd:=q.pk;unfold pcC at hd;refine Af L X.f132 fun Q x cs G=>?_;refine cal ?_ (c:=M9 L X (q.k0 (by exact kps)));rintro _ rfl;refine cal ?_ (c:=me L X (q.k0 (by exact kps)));rintro _ h2 ⟨lb,rfl,w1,w2,w3⟩;have n3:=w3.n;simp only [Al]at w2 n3;refine ret X.f132.1 ?_;exact⟨_,_,lb,rfl,lkp,lkp,lkp,by omega,by omega,by omega,kps⟩
theorem J1 {lp a lb cap:Nat}(hl:cb.length=nb*2)(hnb:nb≤12)(hc0: ∀i,i<nb→cb[i*2]?=some (AN (pe i)))(hc1: ∀i,i<nb→cb[i*2+1]?=some (AN (ps i)))(I:Nat→H→Prop) (hI: ∀i hh,I i hh→Bk hh a [.slc lb 0 nb cap]∧Bk hh b [AN s]∧Bk hh lb cb) (hK: ∀i hh h',I i hh→K0 hh h'→I i h') (hY: ∀i hh,i<nb→ps i=s→I i hh→CtA P0 E F K (.yield lp) [AN i,AN (pe i)] hh fun u h'=>u= .bool true∧I (i+1) h') (hN: ∀i hh,i<nb→ps i≠s→I i hh→I (i+1) hh) (h0:I 0 h): Ct P0 E F K 188 [.fn (.yield lp) [] [],.ptr a 0,.ptr b 0] h fun v h'=>I nb h':=by
 obtain⟨k1,k2,k3⟩:=hI _ _ h0;refine Bf L X.f188 fun Q x cs G=>?_;refine wk ?_;refine Bs L (α:= Unit) (T:=fun i _=> [(8,some (AN i)),(7,some (AN nb)),(6,some (.slc lb 0 nb cap)),(2,some (.ptr b 0)),(0,some (.fn (.yield lp) [] []))]) (n:=nb) (R:=fun i _ hh=>I i hh) (i0:=0) () tsb (hK _ _ _ h0 kps) (Nat.zero_le _) ?_ ?_
 ·rintro i _ h2 hi w ih;obtain⟨j1,j2,j3⟩:=hI _ _ w;have t1:=j1.lt;have t2:=j2.lt;have t3:=j3.lt;have c0:=hc0 i hi;have c1:=hc1 i hi;by_cases e:ps i=s;·refine wk ?_;refine Ml L rfl rfl rfl rfl rfl (hY i _ hi e (hK i _ _ w (by exact kps))) ?_;rintro _ h3 ⟨rfl,w3⟩;refine wk ?_;refine ih () _ _ w3 ?_;exact tsb
  ·refine wk ?_;refine ih () _ _ (hN i _ hi e (hK i _ _ w (by exact kps))) ?_;exact tsb
 ·rintro _ h2 w;refine ret X.f188.1 ?_;exact w
end
theorem Ag1 {p:Prop}(h:p:=by
 refine wk ?_
 refine Ej L (Gk.e lkg) G ⟨rfl,?_⟩
 refine⟨kps,lkg,(by unfold Vm;exact Fy (by omega)),lkp,lkp,lkp,?_,?_⟩
 ·rw [e1];exact lkp
 ·rw [e1];exact lkp):p:=h
section
variable (L:Lg P0 E F K)(X:Fx F K)
include L X
def C1 (ps pe:Nat→Nat)(s:Nat):Nat→Int×Nat
 |0=>(-1,0)
 |i+1=>if ps i=s∧((C1 ps pe s i).1<0∨pe i<(C1 ps pe s i).2)then((i:Int),pe i)else C1 ps pe s i
omit L X in
theorem H6 (ps pe:Nat→Nat)(s:Nat): ∀n,((C1 ps pe s n).1= -1∧ ∀i,i<n→ps i≠s)∨ ∃i,i<n∧(C1 ps pe s n).1=((i:Nat):Int)∧ps i=s
 |0=> .inl ⟨rfl,fun i hi=>absurd hi (Nat.not_lt_zero i)⟩
 |n+1=>by
  simp only [C1];by_cases h:ps n=s∧((C1 ps pe s n).1<0∨pe n<(C1 ps pe s n).2);·rw [if_pos h];exact .inr ⟨n,Nat.lt_succ_self n,rfl,h.1⟩
  ·rw [if_neg h];rcases H6 ps pe s n with⟨h1,h2⟩|⟨i,h1,h2,h3⟩
   ·refine .inl ⟨h1,fun i hi e=>?_⟩;by_cases e2:i=n;·subst e2;exact h ⟨e,.inl (by omega)⟩
    ·exact h2 i (by omega) e
   ·exact .inr ⟨i,by omega,h2,h3⟩
omit L X in
theorem Xj (ps pe:Nat→Nat)(s:Nat)(B:Nat): ∀n,(∀i,i<n→pe i≤B)→(C1 ps pe s n).2≤B
 |0,_=>Nat.zero_le _
 |n+1,h=>by
  simp only [C1];split;·exact h n (Nat.lt_succ_self n)
  ·exact Xj ps pe s B n fun i hi=>h i (by omega)
section
noncomputable def Vm (p s hn a b mk:Nat)(st:LS):Blk:= .loop ⟨st,none,221,cf221.ntmps,tms [(11,some (.fn (.func 188) [] [.ptr a 0,.ptr b 0])),(10,some (AN s)),(9,some (.ptr p 0)),(6,some (.ptr (hn+1) 0)),(5,some (.ptr hn 0)),(4,some Zi),(1,some (AN s)),(0,some (.ptr p 0))],[12,13],Agb,Aav,mk⟩
omit L X in
structure RCold (h hh:H)(p s a b lb mk nb:Nat)(ps pe:Nat→Nat)(cb:List AV)(i:Nat):Prop where
 k:K0 h hh
 dk:Gk hh mk (.dfr (some []))
 lp:Gk hh (mk+1) (Vm p s h.n a b mk .ready)
 ka:Bk hh a [.slc lb 0 nb (Aa+2)]
 kb:Bk hh b [AN s]
 kl:Bk hh lb cb
 k5:Bk hh h.n [eI (C1 ps pe s i).1]
 k6:Bk hh (h.n+1) [AN ((C1 ps pe s i).2)]
theorem Zj (q:PoC h p pb nb ps pe cb)(hs:s≤4):Ct P0 E F K 221 [.ptr p 0,AN s] h fun v h'=>v=eI (C1 ps pe s nb).1∧K0 h h':=by
 have hq:=q.nbd;refine Af L X.f221 fun Q x cs G=>?_;refine cal ?_ (c:=Lw L X (s:=s) (q.k0 (by exact kps)));rintro _ h2 ⟨a,b,lb,rfl,w1,w2,w3,w4,w5,w6,w7⟩;have n5:=w7.n;simp only [Al]at n5 w4 w5 w6;have la:=w1.lt;have lb':=w2.lt;have lc:=w3.lt;refine wk ?_;refine In L (post:=fun _ h'=>RCold h h' p s a b lb h2.n nb ps pe cb nb) rfl rfl rfl ?_ ?_
 ·refine Ct.A ((J1 L X (ps:=ps) (pe:=pe) (cb:=cb) q.len hq.2 q.c0 q.c1 (fun i hh=>RCold h hh p s a b lb h2.n nb ps pe cb i) (fun i hh r=>⟨r.ka,r.kb,r.kl⟩) (fun i hh h' r k=>?_) (fun i hh hi e r=>?_) (fun i hh hi e r=>?_) ⟨kps,lkg,lkg,lkp,lkp,lkp,lkp,lkp⟩).mono fun v h' p=>p);·exact⟨Kp.tr0 k r.k,Fg k r.dk,Fg k r.lp,Ag k r.ka,Ag k r.kb,Ag k r.kl,Ag k r.k5,Ag k r.k6⟩
  ·obtain⟨r1,r2,r3,r4,r5,r6,r7,r8⟩:=r;have hle:=r3.e;unfold Vm at hle;have g1:=r2.lt;have g2:=r3.lt;have g3:=r4.lt;have g4:=r5.lt;have g5:=r6.lt;have g7:=r7.lt;have g8:=r8.lt;have her:=Xj ps pe s 100000 i fun j hj=>q.er j (by omega);have hei:=q.er i hi;refine Gu L (l1:= [(13,some (AN (pe i))),(12,some (AN i)),(11,some (.fn (.func 188) [] [.ptr a 0,.ptr b 0])),(10,some (AN s)),(9,some (.ptr p 0)),(6,some (.ptr (h.n+1) 0)),(5,some (.ptr h.n 0)),(4,some Zi),(1,some (AN s)),(0,some (.ptr p 0))]) hle rfl ?_;intro Q z2 cs G;refine wk ?_;refine Fh L (Gk.e lkg) ?_;have hat:=H6 ps pe s i;have e1:C1 ps pe s (i+1)=if ps i=s∧((C1 ps pe s i).1<0∨pe i<(C1 ps pe s i).2)then((i:Int),pe i)else C1 ps pe s i:=rfl;generalize hc:C1 ps pe s i=ck at*;obtain⟨ck,cl'⟩:=ck;simp only at hat r7 r8 her e1;by_cases hneg:ck<0;·rw [if_pos ⟨e,.inl hneg⟩]at e1;exact Ag1
   ·obtain⟨c,rfl⟩: ∃c:Nat,ck=(c:Int):=⟨ck.toNat,by omega⟩;by_cases hlt:pe i<cl';·rw [if_pos ⟨e,.inr hlt⟩]at e1;exact Ag1
    ·rw [if_neg (by omega)]at e1;exact Ag1
  ·obtain⟨r1,r2,r3,r4,r5,r6,r7,r8⟩:=r;have e1:C1 ps pe s (i+1)=C1 ps pe s i:=(by simp only [C1];rw [if_neg (by omega)]);exact⟨r1,r2,r3,r4,r5,r6,by rw [e1];exact r7,by rw [e1];exact r8⟩
 ·rintro v h3 ⟨r1,r2,r3,r4,r5,r6,r7,r8⟩;have hle:=r3.e;unfold Vm at hle;have l5:=r2.lt;have l7:=r7.lt;refine Io L (n:=h3.n) (t:=h3.t) (lh:= []) hle (by intro q;cases q) ?_;refine wk ?_;refine Gt L (todo:= []) ?_;refine Hj L (by intro q;cases q) (Gk.e lkg) ?_;refine D7 L X.f221.1 (F6 rfl) G ⟨rfl,kps⟩
theorem de (q:PoC h p pb nb ps pe cb):Ct P0 E F K 199 [.ptr p 0] h fun v h'=> ((C1 ps pe 1 nb).1= -1∧(∀i,i<nb→ps i≠1)∧v= .tup [Zi,AN 9]∧K0 h h')∨ ∃i,(C1 ps pe 1 nb).1=((i:Nat):Int)∧i<nb∧ps i=1∧v= .tup [AN i,Zi]∧PoC h' p pb nb (upd ps i 2) pe (cb.set (i*2+1) (AN 2))∧Kp (fun j=>j=p∨j=pb) h h':=by
 refine Ao L X.f199 fun Q x cs G=>?_;refine cal ?_ (c:=M9 L X q);rintro _ rfl;refine cal ?_ (c:=Zj L X q (s:=1) (by omega));rintro _ h2 ⟨rfl,k2⟩;rcases H6 ps pe 1 nb with⟨h1,h2'⟩|⟨i,hi,h1,h3⟩
 ·rw [h1];refine ret X.f199.1 ?_;exact .inl ⟨h1,h2',rfl,kps⟩
 ·rw [h1];refine cal ?_ (c:=Na L X (t:=2) (q.k0 (by exact kps)) hi (by omega));rintro _ h4 ⟨rfl,w1,w2⟩;refine ret X.f199.1 ?_;exact .inr ⟨i,h1,hi,h3,rfl,w1,Kp.trS w2 (fun _ _ e=>e) kps⟩
