/- Part of the proof. -/
import Derived.Test.YtclfgfpebplncaaGreatH04
import Derived.Test.YtclfgfpebplncaaGreatH05
import Derived.Shelf.Sort.Plain
import Derived.Shelf.Slices.In.SortNone
set_option linter.unusedVariables false
set_option linter.unusedSectionVars false
set_option linter.unusedSimpArgs false
set_option maxRecDepth 10000
set_option maxHeartbeats 4000000
namespace Go.Ev
variable {E:Env}{F:T CFn}{K:T (List AV×AV)}{P S f i m nb r1 r2 vb:Nat}{P0:Program}{h:H}{p:Prop}
theorem Ank (h:p:=by
 refine Af L X.f173 fun Q x cs G=>?_
 refine cal ?_ (c:=jz L X (S:=S) (nb:=nb) (P:=P) ⟨hn.1,hn.2.1⟩)
 rintro _ h2 ⟨rfl,w1⟩
 rw [hT']
 refine ret X.f173.1 ?_
 exact⟨rfl,kps⟩):p:=h
theorem Agy (h:p:=by
 rw [hF (by omega)]
 refine Af L X.f173 fun Q x cs G=>?_
 refine ret X.f173.1 ?_
 exact⟨rfl,kps⟩):p:=h
section
variable (L:Lg P0 E F K)(X:Fx F K)
include L X
theorem Rz {c0 c1 c2:AV}{rest:List AV}(k:Bk h m (c0::c1::c2:: .map r1::rest)):Ct P0 E F K 112 [.ptr m 0] h fun v h'=>v= .bool false∧h'=h:=by refine Ao L X.f112 fun Q x cs G=>?_;refine wk ?_;(apply st1 L rfl;exact Ajr rfl rfl;rfl);refine ret X.f112.1 ?_;exact⟨rfl,rfl⟩
theorem jz (hn:nb≤12∧P≤6):Ct P0 E F K 208 [.agg [AN S,AN nb,AN P]] h fun v h'=>v=AN (nb*P)∧K0 h h':=by have hm:nb*P≤12*6:=Nat.mul_le_mul hn.1 hn.2;refine Ao L X.f208 fun Q x cs G=>?_;refine ret X.f208.1 ?_;exact⟨rfl,kps⟩
theorem vp {x:Ent}(hn:nb≤12∧P≤6∧S≤1000):Ct P0 E F K 173 [.agg [AN S,AN nb,AN P],.agg (Az x)] h fun v h'=>v= .bool (decide (Ru S (nb*P) x))∧K0 h h':=by
 obtain⟨a,b⟩:=x;have hT:(0≤a∧a<S∧ -1≤b∧b<((nb*P:Nat):Int))→decide (Ru S (nb*P) (a,b))=true:=fun q=>decide_eq_true q;have hF: ¬(0≤a∧a<S∧ -1≤b∧b<((nb*P:Nat):Int))→decide (Ru S (nb*P) (a,b))=false:=fun q=>decide_eq_false q;obtain⟨T,hT'⟩: ∃T,nb*P=T:=⟨_,rfl⟩;rw [hT']at hT hF ⊢;by_cases q0:a<0;·exact Agy
 by_cases q1:(S:Int)≤a;·exact Agy
 by_cases q2:b< -1;·exact Agy
 by_cases q3:(T:Int)≤b;·rw [hF (by omega)];exact Ank
 ·rw [hT (by omega)];exact Ank
end
def okE (S T:Nat)(A:Int→Option Int)(x:Ent):Prop:=Ru S T x∧ ¬Ada A x
structure InvA (S T:Nat)(A:Int→Option Int):Prop where
 rg: ∀s p,A s=some p→0≤s∧s<S∧0≤p∧p<(T:Int)
 inj: ∀s s' p,A s=some p→A s'=some p→s=s'
theorem InvA.set {T:Nat}{A:Int→Option Int}{x:Ent}(q:InvA S T A)(k:okE S T A x):InvA S T (C0 A x):=by
 obtain⟨⟨f1,f2,f3,f4⟩,hb⟩:=k;have key: ∀s p,C0 A x s=some p→(s=x.1∧p=x.2∧0≤x.2)∨(s≠x.1∧A s=some p):=by
  intro s p e;unfold C0 at e;by_cases e1:s=x.1
  ·rw [if_pos e1]at e;by_cases e2:0≤x.2;·rw [if_pos e2]at e;cases e;exact .inl ⟨e1,rfl,e2⟩
   ·rw [if_neg e2]at e;cases e
  ·rw [if_neg e1]at e;exact .inr ⟨e1,e⟩
 refine⟨fun s p e=>?_,fun s s' p e e'=>?_⟩
 ·rcases key s p e with⟨rfl,rfl,h3⟩|⟨h1,h2⟩;·exact⟨f1,f2,h3,f4⟩
  ·exact q.rg s p h2
 ·rcases key s p e with⟨h1,h2,h3⟩|⟨h1,h2⟩ <;> rcases key s' p e' with⟨g1,g2,g3⟩|⟨g1,g2⟩;·rw [h1,g1]
  ·exact absurd ⟨s',by rw [←h2];exact g2,g1⟩ hb
  ·exact absurd ⟨s,by rw [←g2];exact h2,h1⟩ hb
  ·exact q.inj s s' p h2 g2
def stA (A:Int→Option Int)(l:List Ent)(i:Nat):Int→Option Int:=(l.take i).foldl C0 A
theorem Rw {A:Int→Option Int}{l:List Ent}{x:Ent}(h:l[i]?=some x):stA A l (i+1)=C0 (stA A l i) x:=by unfold stA;rw [List.take_add_one,h,List.foldl_append];rfl
theorem InvA.st {T:Nat}{A:Int→Option Int}{l:List Ent}(q:InvA S T A): ∀i,i≤l.length→(∀j x,j<i→l[j]?=some x→okE S T (stA A l j) x)→InvA S T (stA A l i)
 |0,_,_=>q
 |i+1,h,k=>by have hx:l[i]?=some l[i]:=List.getElem?_eq_getElem (by omega);rw [Rw hx];exact(q.st i (by omega) fun j x hj=>k j x (by omega)).set (k i _ (by omega) hx)
def jm (A:Int→Option Int)(x:Ent):Ent:=(x.1,(A x.1).getD (-1))
def Rx (A:Int→Option Int)(l:List Ent)(i:Nat):List Ent:=(List.range i).map fun j=>jm (stA A l j) (l.getD j (0,0))
theorem En (A:Int→Option Int)(l:List Ent)(i:Nat):(Rx A l i).length=i:=by simp [Rx]
theorem jo {A:Int→Option Int}{l:List Ent}{x:Ent}(h:l[i]?=some x):Rx A l (i+1)=Rx A l i++ [jm (stA A l i) x]:=by simp [Rx,List.range_succ,List.getD_eq_getElem?_getD,h]
theorem MpR.inv {A:Int→Option Int}(q:MpR S nb P h m r1 r2 vb A):InvA S (nb*P) A:=⟨q.rg,fun s s' p e e'=>q.inj e e'⟩
section
variable {l:List (Nat×Option AV)}{x z w:O}{size:Nat}
theorem vg {j k:IntKind}(e:evO l x=some .nils)(e1:evO l z=some (.int j ((0:Nat):Int)))(e2:evO l w=some (.int k ((0:Nat):Int))):XV (.sliceS size x none (some z) (some w)) h l .nils h:=by refine⟨?_⟩;have g1:C3 (tms l) none=some none:=rfl;simp only [exec,Ah,g1,(BndR.att e1).opt,(BndR.att e2).opt,Ab e];rfl
end
theorem zq6 (h:p:=by
 refine wk ?_
 (apply Ax rfl rfl;exact D6 (KE.int .i64) rfl rfl lkq)
 rw [g1]
 refine wk ?_
 (apply Mh L rfl rfl;exact Ll (KE.int .i64) o1 rfl rfl lkq)
 refine wk ?_
 (apply Lm L rfl;exact Ll (KE.int .i64) o2 rfl rfl lkq;rfl)
 refine wk ?_
 (apply Hh L rfl rfl;exact U3 (KE.int .i64) (o1.del _) rfl rfl lkq)
 refine wk ?_
 (apply Mh L rfl rfl;exact Mg (k:=a) (o1.del _) rfl rfl rfl lkq)
 refine wk ?_
 (apply Hh L rfl rfl;exact U3 (KE.int .i64) (o2.del _) rfl rfl lkq)
 refine wk ?_
 (apply Mh L rfl rfl;exact Mg (k:=(b:Int)) (o2.del _) rfl rfl rfl lkq)
 refine ret X.f114.1 ?_
 exact⟨rfl,⟨lkp,⟨n1,n2,n3,n4,n5,n6⟩,rgA,nz,_,_,_,_,_,lkq,(o1.del _).set _ _,lkq,(o2.del _).set _ _,lkp,(by simp [vl]),vfin,mr2⟩,kps⟩):p:=h
section
variable (L:Lg P0 E F K)(X:Fx F K)
include L X
theorem cy {A:Int→Option Int}{x:Ent}(q:MpR S nb P h m r1 r2 vb A)(hf:Ru S (nb*P) x)(hb: ¬Ada A x): Ct P0 E F K 114 [.ptr m 0,.agg (Az x)] h fun v h'=>v= .tup []∧MpR S nb P h' m r1 r2 vb (C0 A x)∧Kp (fun j=>j=r1∨j=r2∨j=vb) h h':=by
 obtain⟨km,⟨n1,n2,n3,n4,n5,n6⟩,rg,nz,M1,M2,c1,c2,cv,k1,o1,k2,o2,kv,vl,vv,mr⟩:=q;obtain⟨a,b⟩:=x;have l1:=km.lt;have l2:=k1.lt;have l3:=k2.lt;have l4:=kv.lt;have hfits:=hf;obtain⟨f1,f2,f3,f4⟩:=hf;simp only at f1 f2 f3 f4;have hm:nb*P≤12*6:=Nat.mul_le_mul nz.2.1 nz.2.2.2.1;show Ct P0 E F K 114 [.ptr m 0,.agg [AI a,AI b]] h _;refine Af L X.f114 fun Q x cs G=>?_;refine cal ?_ (c:=vp L X (S:=S) (nb:=nb) (P:=P) (x:=(a,b)) ⟨nz.2.1,nz.2.2.2.1,nz.2.2.2.2⟩);rintro _ h2 ⟨rfl,w1⟩;have m1:=w1.n;simp only [Al]at m1;rw [decide_eq_true hfits];refine cal ?_ (c:=Tx L X);rintro _ rfl;have hs:(A5 M2 b=none∧ ∀s,A s≠some b)∨(A5 M2 b=some (AI a)∧A a=some b):=by
  cases hg:A5 M2 b with
  |none=>exact .inl ⟨rfl,fun s e=>by rw [mr.a2 s b e]at hg;cases hg⟩
  |some u=>obtain⟨s,rfl,e2⟩:=mr.a3 b u hg;have:s=a:=Classical.byContradiction fun e=>hb ⟨s,e2,e⟩;subst this;exact .inr ⟨rfl,e2⟩
 have ha:(A5 M1 a=none∧A a=none)∨ ∃p:Nat,A5 M1 a=some (AN p)∧A a=some (p:Int)∧p<nb*P:=by
  have h1:=mr.a1 a
  cases hA:A a with
  |none=>rw [hA]at h1;exact .inl ⟨h1,rfl⟩
  |some p=>rw [hA]at h1;obtain⟨-,-,g3,g4⟩:=rg a p hA;have g5:(p.toNat:Int)=p:=Int.toNat_of_nonneg g3;exact .inr ⟨p.toNat,h1.trans (congrArg (fun z:Int=>some (AI z)) g5.symm),by rw [g5],by omega⟩
 have rgA: ∀s p,C0 A (a,b) s=some p→0≤s∧s<S∧0≤p∧p<((nb*P:Nat):Int):=by
  intro s p e;unfold C0 at e;by_cases e1:s=a
  ·rw [if_pos e1]at e;by_cases e2:0≤b;·rw [if_pos e2]at e;cases e;exact⟨by omega,by omega,e2,f4⟩
   ·rw [if_neg e2]at e;cases e
  ·rw [if_neg e1]at e;exact rg s p e
 have hP:0<P:=by omega
 have hvl:=cg A P;have hrem: ∀p:Nat,A a=some (p:Int)→p<nb*P→0<valA A P (p / P)∧ ∀i,i<nb→(cv.set (p / P) (AN (valA A P (p / P) - 1)))[i]?=some (AN (valA (E3 A a) P i)):=by
  intro p hp hlt;have hq:p / P<nb:=Rm hlt;have inj: ∀s,A s=some (p:Int)→s=a:=fun s hs=>mr.inj hs hp;have e0:=Rv (i:=p / P) hP hp inj;rw [if_pos rfl]at e0;refine⟨by omega,fun i hi=>?_⟩;have e1:=Rv (i:=i) hP hp inj;by_cases e:p / P=i;·rw [if_pos e]at e1;subst e;rw [List.getElem?_set_self (by omega),e1];rfl
  ·rw [if_neg e]at e1;rw [List.getElem?_set_ne e,vv i hi,e1];rfl
 have hins: ∀(B:Int→Option Int) (cw:List AV) (b:Nat),B a=none→(∀s,B s≠some (b:Int))→b<nb*P→cw.length=nb→(∀i,i<nb→cw[i]?=some (AN (valA B P i)))→ ∀i,i<nb→(cw.set (b / P) (AN (valA B P (b / P)+1)))[i]?=some (AI ((valA (C0 B (a,(b:Int))) P i:Nat):Int)):=by
  intro B cw b h1 h2 h3 h4 h5 i hi;have hq:b / P<nb:=Rm h3;have e1:=vf (i:=i) hP h1 h2;by_cases e:b / P=i;·rw [if_pos e]at e1;subst e;rw [List.getElem?_set_self (by omega),e1]
  ·rw [if_neg e]at e1;rw [List.getElem?_set_ne e,h5 i hi,e1];rfl
 by_cases hb0:0≤b
 ·obtain⟨b,rfl⟩: ∃b':Nat,b=(b':Int):=⟨b.toNat,by omega⟩;have hqb:b / P<nb:=Rm (by omega);rcases ha with⟨g1,ha⟩|⟨p,g1,ha,hp⟩
  ·rcases hs with⟨g2,hs⟩|⟨g2,hs⟩;rotate_left;·rw [ha]at hs;cases hs
   have hz:=vv _ hqb;have vz:=hvl (b / P);have vfin:=hins A cv b ha hs (by omega) vl vv;have mr2:=mr.ins (x:=(a,(b:Int))) (c1:=c1) (c2:=c2) hb0 ha hs;refine wk ?_;(apply Ax rfl rfl;exact D6 (KE.int .i64) rfl rfl lkq);rw [g2];refine wk ?_;(apply Ax rfl rfl;exact D6 (KE.int .i64) rfl rfl lkq);rw [g1];refine wk ?_;(apply Hh L rfl rfl;exact U3 (KE.int .i64) o1 rfl rfl lkq);refine wk ?_;(apply Mh L rfl rfl;exact Mg (k:=a) o1 rfl rfl rfl lkq);refine wk ?_;(apply Hh L rfl rfl;exact U3 (KE.int .i64) o2 rfl rfl lkq);refine wk ?_;(apply Mh L rfl rfl;exact Mg (k:=(b:Int)) o2 rfl rfl rfl lkq);refine ret X.f114.1 ?_;exact⟨rfl,⟨lkp,⟨n1,n2,n3,n4,n5,n6⟩,rgA,nz,_,_,_,_,_,lkq,o1.set _ _,lkq,o2.set _ _,lkp,(by simp [vl]),vfin,mr2⟩,kps⟩
  ·have hqp:p / P<nb:=Rm hp;have hz:=vv _ hqp;obtain⟨hpos,vv2⟩:=hrem p ha hp;have vz:=hvl (p / P);have hy:=vv2 _ hqb;have vy:=cg (E3 A a) P (b / P);have hl2:b / P<(cv.set (p / P) (AN (valA A P (p / P) - 1))).length:=(by rw [List.length_set,vl];exact hqb);have hm0: ∀s,E3 A a s≠some (b:Int):=by
    intro s e;unfold E3 at e;by_cases e1:s=a;·rw [if_pos e1]at e;cases e
    ·rw [if_neg e1]at e;exact hb ⟨s,e,e1⟩
   have vfin:=hins (E3 A a) (cv.set (p / P) (AN (valA A P (p / P) - 1))) b (by unfold E3;rw [if_pos rfl]) hm0 (by omega) (by simp [vl]) vv2;rw [show C0 (E3 A a) (a,(b:Int))=C0 A (a,(b:Int)) from W7 A (a,(b:Int))]at vfin;have mr2:=(mr.rem ha).ins (x:=(a,(b:Int))) (c1:=c1) (c2:=c2) hb0 (by unfold E3;rw [if_pos rfl]) hm0;rw [show C0 (E3 A a) (a,(b:Int))=C0 A (a,(b:Int)) from W7 A (a,(b:Int))]at mr2;rcases hs with⟨g2,hs⟩|⟨g2,hs⟩;·refine wk ?_;(apply Ax rfl rfl;exact D6 (KE.int .i64) rfl rfl lkq);rw [g2];exact zq6
   ·refine wk ?_;(apply Ax rfl rfl;exact D6 (KE.int .i64) rfl rfl lkq);rw [g2];refine cal ?_ (c:=Tx L X);rintro _ rfl;exact zq6
 ·rcases hs with⟨g2,hs⟩|⟨g2,hs⟩;rotate_left;·exact absurd (rg _ _ hs).2.2.1 hb0
  rcases ha with⟨g1,ha⟩|⟨p,g1,ha,hp⟩;·rw [show C0 A (a,b)=A by rw [W6 hb0];exact jl ha]at*;refine wk ?_;(apply Ax rfl rfl;exact D6 (KE.int .i64) rfl rfl lkq);rw [g2];refine wk ?_;(apply Ax rfl rfl;exact D6 (KE.int .i64) rfl rfl lkq);rw [g1];refine ret X.f114.1 ?_;exact⟨rfl,⟨lkp,⟨n1,n2,n3,n4,n5,n6⟩,rgA,nz,_,_,_,_,_,lkq,o1,lkq,o2,lkp,vl,vv,mr⟩,kps⟩
  ·have hqp:p / P<nb:=Rm hp;have hz:=vv _ hqp;obtain⟨hpos,vv2⟩:=hrem p ha hp;have vz:=hvl (p / P);rw [show C0 A (a,b)=E3 A a from W6 hb0]at*;refine wk ?_;(apply Ax rfl rfl;exact D6 (KE.int .i64) rfl rfl lkq);rw [g2];refine wk ?_;(apply Ax rfl rfl;exact D6 (KE.int .i64) rfl rfl lkq);rw [g1];refine wk ?_;(apply Mh L rfl rfl;exact Ll (KE.int .i64) o1 rfl rfl lkq);refine wk ?_;(apply Lm L rfl;exact Ll (KE.int .i64) o2 rfl rfl lkq;rfl);refine ret X.f114.1 ?_;exact⟨rfl,⟨lkp,⟨n1,n2,n3,n4,n5,n6⟩,rgA,nz,_,_,_,_,_,lkq,o1.del _,lkq,o2.del _,lkp,(by simp [vl]),vv2,mr.rem ha⟩,kps⟩
end
theorem Anl (h:p:=by
 refine wk ?_
 refine ih _ _ _ ⟨w1.kp (B:=fun j=>j=h.n+3∨j=h.n+4) kps (by omega) (by omega) (by omega) (by omega),lkp,lkp,lkp,lkp,lkp,?_,by simp only [Al];omega,kps⟩ tsb
 rw [hwas]
 exact EL.app (l:=Rx A es i) (by exact lkp) (by omega) (En _ _ _)):p:=h
theorem Anm (h:p:=by
 refine wk ?_
 refine ih _ _ _ ⟨w1.kp (B:=fun j=>j=h.n+3∨j=h.n+4) kps (by omega) (by omega) (by omega) (by omega),lkp,lkp,lkp,lkp,lkp,?_,by simp only [Al];omega,kps⟩ tsb
 rw [hwas,e0,List.nil_append]
 exact EL.app (l:= []) (by exact lkp) (by omega) rfl):p:=h
section
variable (L:Lg P0 E F K)(X:Fx F K)
include L X
theorem Ob {lo:Nat}{A:Int→Option Int}{es:List Ent}{lv:AV}(q:MpR S nb P h m r1 r2 vb A)(hl:EL h lo lv es)(hlen:es.length≤1000000)(hlo: ∀b n c,lv= .slc b 0 n c→b≠r1∧b≠r2∧b≠vb∧b≠m)(hok: ∀j x,es[j]?=some x→okE S (nb*P) (stA A es j) x): Ct P0 E F K 58 [.ptr m 0,lv] h fun v h'=>v=Zi∧Kp (fun j=>j=r1∨j=r2∨j=vb) h h'∧MpR S nb P h' m r1 r2 vb (stA A es es.length):=by
 have lq:=q.lt;have hl1:=hl.len;rcases hl1 with⟨rfl,rfl⟩|⟨hpos,lb,rfl,g5,g6⟩;·have km:=q.km;refine Af L X.f58 fun Q x cs G=>?_;refine cal ?_ (c:=Rz L X (c0:=AN S) (c1:=AN nb) (c2:=AN P) (r1:=r1) (rest:= [.map r2,.slc vb 0 nb nb]) lkp);rintro _ rfl;refine wk ?_;refine Hx L rfl rfl rfl rfl ?_;refine wk ?_;refine Bt L ?_;refine wk ?_;refine Gt L (todo:= []) ?_;refine C6 L (by intro q;cases q) X.f113.1 rfl rfl rfl ?_;refine Ea L rfl ?_;refine wk ?_;(apply st1 L rfl;exact Li (k:=true) rfl rfl;rfl);refine wk ?_;refine Im L X.f113.1 rfl ?_;refine D7 L X.f58.1 (C4 (b:=h.n+2) rfl (Bk.e lkp) rfl Er) G ⟨rfl,kps,q.k0 kps⟩
 have l5:=g5.lt;have hlb:=hlo lb _ _ rfl;have km:=q.km;refine Af L X.f58 fun Q x cs G=>?_;refine cal ?_ (c:=Rz L X (c0:=AN S) (c1:=AN nb) (c2:=AN P) (r1:=r1) (rest:= [.map r2,.slc vb 0 nb nb]) lkp);rintro _ rfl;refine wk ?_;refine Hx L rfl rfl rfl rfl ?_;refine wk ?_;refine Bs L (α:= AV) (T:=fun i v=> [(17,some (AN i)),(16,some (AN es.length)),(15,some (.slc lb 0 es.length (Aa+2))),(2,some (.ptr h.n 0)),(4,some (.ptr (h.n+2) 0)),(5,some (.ptr (h.n+3) 0)),(6,some (.ptr (h.n+4) 0))]) (n:=es.length) (R:=fun i v h2=>MpR S nb P h2 m r1 r2 vb (stA A es i)∧Bk h2 h.n [.ptr m 0]∧Bk h2 (h.n+1) [.slc lb 0 es.length (Aa+2)]∧Bk h2 (h.n+2) [Zi]∧Bk h2 (h.n+3) [AN i]∧Bk h2 (h.n+4) [v]∧EL h2 (h.n+5) v (Rx A es i)∧h.n+5≤h2.n∧Kp (fun j=>j=r1∨j=r2∨j=vb) h h2) (i0:=0) .nils tsb ⟨q.k0 kps,lkp,lkp,lkp,lkp,lkp,EL.nil _ _,Nat.le_refl _,kps⟩ (Nat.zero_le _) ?_ ?_
 ·rintro i v h2 hi ⟨u1,u3,u4,u5,u6,u7,u8,u9,u10⟩ ih;have hx:es[i]?=some es[i]:=List.getElem?_eq_getElem hi;have hdt:=B4 es (Fi es) i _ hx;have g5':Bk h2 lb (es.flatMap Az):=Aq u10 (by omega) g5;have lu:=u1.lt;have hokx:=hok i _ hx;have u1':=u1;obtain⟨km2,⟨n1,n2,n3,n4,n5,n6⟩,rg,nz,M1,M2,c1,c2,cv,⟨k1,o1,k2,o2,kv,vl,vv,mr⟩⟩:=u1';have ha1:=mr.a1 es[i].1;rw [Rw hx,jo hx]at ih;generalize hxe:es[i]=x at*;obtain⟨xa,xb⟩:=x;have hdt':i*2+2≤(es.flatMap Az).length∧((es.flatMap Az).drop (i*2)).take 2= [AI xa,AI xb]:=hdt;have hw2: ∀b n c,v= .slc b 0 n c→b≠h.n+1+1:=by
   intro b n c e;rcases u8.ex with⟨_,rfl⟩|⟨_,b',rfl,_,h5⟩;·cases e
   ·cases e;omega
  simp only at ha1;rcases hB:stA A es i xa with _|p
  ·rw [hB]at ha1;have hwas:jm (stA A es i) (xa,xb)=(xa,-1):=(by unfold jm;rw [hB];rfl);refine wk ?_;(apply st1 L rfl;exact Bg g5'.rk hdt' rfl;rfl);refine wk ?_;(apply Ax rfl rfl;exact D6 (KE.int .i64) rfl rfl lkq);rw [ha1];refine cal ?_ (c:=cy L X (x:=(xa,xb)) (u1.k0 kps) hokx.1 hokx.2);rintro _ h3 ⟨rfl,w1,w2⟩;have n3:=w2.n;simp only [Al]at n3;rcases u8.len with⟨e0,rfl⟩|⟨gn,wb,rfl,g7,g8⟩
   ·obtain rfl:i=0:=by have:=En A es i;rw [e0]at this;simpa using this.symm
    refine wk ?_;(apply Ax rfl rfl;exact vg rfl rfl rfl);refine wk ?_;(apply Hh L rfl rfl;exact Dr (new:=Az (xa,-1)) rfl rfl (SlR.of (c:=Az (xa,-1)) lkp (Nat.le_refl _) rfl) (by omega) (by omega));exact Anm
   ·have g9:=g7.lt;rw [En]at*;refine wk ?_;(apply Hh L rfl rfl;exact Aai (old:=(Rx A es i).flatMap Az) (new:=Az (xa,-1)) rfl rfl (SlR.of (c:=(Rx A es i).flatMap Az) lkp (by rw [Ba,En];omega) (by rw [List.drop_zero,List.take_of_length_le (by rw [Ba,En];exact Nat.le_refl _)])) (SlR.of (c:=Az (xa,-1)) lkp (Nat.le_refl _) rfl) (by omega) (by simp only [Aa];omega) (by omega));exact Anl
  ·rw [hB]at ha1;have hwas:jm (stA A es i) (xa,xb)=(xa,p):=(by unfold jm;rw [hB];rfl);refine wk ?_;(apply st1 L rfl;exact Bg g5'.rk hdt' rfl;rfl);refine wk ?_;(apply Ax rfl rfl;exact D6 (KE.int .i64) rfl rfl lkq);rw [ha1];refine cal ?_ (c:=cy L X (x:=(xa,xb)) (u1.k0 kps) hokx.1 hokx.2);rintro _ h3 ⟨rfl,w1,w2⟩;have n3:=w2.n;simp only [Al]at n3;rcases u8.len with⟨e0,rfl⟩|⟨gn,wb,rfl,g7,g8⟩
   ·obtain rfl:i=0:=by have:=En A es i;rw [e0]at this;simpa using this.symm
    refine wk ?_;(apply Ax rfl rfl;exact vg rfl rfl rfl);refine wk ?_;(apply Hh L rfl rfl;exact Dr (new:=Az (xa,p)) rfl rfl (SlR.of (c:=Az (xa,p)) lkp (Nat.le_refl _) rfl) (by omega) (by omega));exact Anm
   ·have g9:=g7.lt;rw [En]at*;refine wk ?_;(apply Hh L rfl rfl;exact Aai (old:=(Rx A es i).flatMap Az) (new:=Az (xa,p)) rfl rfl (SlR.of (c:=(Rx A es i).flatMap Az) lkp (by rw [Ba,En];omega) (by rw [List.drop_zero,List.take_of_length_le (by rw [Ba,En];exact Nat.le_refl _)])) (SlR.of (c:=Az (xa,p)) lkp (Nat.le_refl _) rfl) (by omega) (by simp only [Aa];omega) (by omega));exact Anl
 ·rintro v h2 ⟨u1,u3,u4,u5,u6,u7,u8,u9,u10⟩;refine wk ?_;refine Gt L (todo:= []) ?_;refine C6 L (by intro q;cases q) X.f113.1 rfl rfl rfl ?_;refine Ea L rfl ?_;refine wk ?_;(apply st1 L rfl;exact Li (k:=true) rfl rfl;rfl);refine wk ?_;refine Im L X.f113.1 rfl ?_;refine D7 L X.f58.1 (C4 (b:=h.n+2) rfl (Bk.e lkp) rfl Er) G ⟨rfl,kps,u1.kp (B:=fun j=>j=h.n+2) kps (by omega) (by omega) (by omega) (by omega)⟩
end
open Go.Sort
theorem HR.growC {w0:Array Obj}{φ: Phi}{m:Array Obj}(hr:HR E w0 φ h m)(os:Array Obj):HR E w0 φ h (m++os):=by
 have hg: ∀k,k<m.size→(m++os)[k]?=m[k]?:=fun k hk=>by simp [Array.getElem?_append,hk]
 refine⟨hr.bound,fun b l hb=>?_,fun b l x hb hx=>?_,hr.inj,hr.own,fun cb hc=>?_,?_⟩;·have:=hr.cbound b l hb;simp;omega
 ·obtain⟨o,h1,h2⟩:=hr.blk b l x hb hx;exact⟨o,by rw [hg _ (hr.cbound b l hb)];exact h1,h2⟩
 ·rw [hg _ (Nat.lt_of_lt_of_le hc hr.size)];exact hr.old cb hc
 ·have:=hr.size;simp;omega
abbrev zI (z:Int):AV:= .int .i64 z
def Dc (zs:List Int):List Int:=zs.mergeSort fun x y=>decide (x≤y)
theorem Dk (zs:List Int):(Dc zs).length=zs.length:=List.length_mergeSort _
theorem Agm {P:Program}(hs: ∀(blk off cap:Nat) (zs:List Int) (w:World),Holds (Value.int .i64) w blk off zs.toArray→blk<w.heap.size→zs.length<4611686018427387904→Calls P f #[.slice (some ⟨blk,off,none⟩) zs.length cap] w fun e w'=> e= .returned (.tuple #[])∧ ∃n os,w'=grow (putRow (Value.int .i64) (Sort.ahead w n) blk off (Dc zs).toArray) os)  {b:Nat} {zs:List Int} (k:Bk h b (zs.map zI)) (hpos:0<zs.length) (hlen:zs.length<100000): XCt P E f [.slc b 0 zs.length (Aa+1)] h fun v h'=>v= .tup []∧Bk h' b ((Dc zs).map zI)∧Kp (fun j=>j=b) h h':=by
 intro φ w0 w args' hargs hW;obtain⟨hr,like⟩:=hW;obtain⟨arr⟩:=args';have h1: ∃l c off,φ b=some l∧off=l.base∧arr= [.slice (some ⟨l.cb,off,none⟩) zs.length c]:=by
  cases hargs with
  |cons hv ht=>
   cases ht;generalize hcp:Aa+1=cp at hv
   cases hv with
   |slcX h1 h2 h3 h4=>exact absurd h2 (by omega)
   |slcU h1 h2 h3 h4=>exact⟨_,_,_,h1,h4 hpos,rfl⟩
 obtain⟨l,c,off,hφ,rfl,rfl⟩:=h1;obtain⟨cs,e,g1,g2,g3,g4⟩:=hr.cellsOf_blkW hφ k.e;have hcb:=hr.cbound _ _ hφ;rw [List.length_map]at g3;have hval: ∀j z,zs[j]?=some z→cs[l.base+j]?=some (Value.int .i64 z):=by
  intro j z hz;obtain⟨v',h5,h6⟩:=g4 j (zI z) (by rw [List.length_map];exact(List.getElem?_eq_some_iff.1 hz).1) (by rw [Ii];simp [hz])
  cases h6;exact h5
 have hH:Holds (Value.int .i64) w l.cb l.base zs.toArray:=by
  intro j hj;have hj':j<zs.length:=by simpa using hj
  refine⟨?_,by simp [World.frozen?,g1]⟩;simp only [World.cell?,g1];simp only [Option.isSome_none,Bool.false_eq_true,if_false];rw [hval j zs[j] (List.getElem?_eq_getElem hj')];simp [hj']
 refine(hs l.cb l.base c zs w hH hcb (by omega)).mono ?_;rintro e9 w' ⟨rfl,n,os,rfl⟩;refine⟨.tup [],.tuple #[],φ,H.set h b (cl ((Dc zs).map zI)),rfl,⟨rfl,⟨?_,k.lt⟩,?_⟩,fun _ _ h=>h,.tup .nil,?_⟩;·rw [H.get_set,if_pos rfl]
 ·exact⟨Nat.le_refl _,fun j hj hne=>by rw [H.get_set,if_neg hne]⟩
 ·have hro:(Blk.cells false ((zs.map zI).length) (ofL 0 .leaf (zs.map zI)))=cl (zs.map zI):=rfl;have hov:=hr.over (x':=cl ((Dc zs).map zI)) (o':= .cells (putCells (Value.int .i64) l.base (Dc zs).toArray cs) e (0,0)) hφ k.e rfl (.cells (fun _=>rfl) (by simp [putCells,g2]) (by simp [putCells,Dk];exact g3) ?_) rfl
  ·have hh:(putRow (Value.int .i64) (Sort.ahead w n) l.cb l.base (Dc zs).toArray).heap=w.heap.setIfInBounds l.cb (.cells (putCells (Value.int .i64) l.base (Dc zs).toArray cs) e (0,0)):=by
    apply Array.ext_getElem?;intro i;simp only [putRow,mapBlock,Sort.ahead,Array.getElem?_modify,Array.getElem?_setIfInBounds];by_cases hi:l.cb=i;·subst hi;have g0:w.heap[l.cb]=Obj.cells cs e (0,0):=(Array.getElem?_eq_some_iff.1 g1).2;simp [g0,onCells,hcb]
    ·simp [hi]
   refine⟨?_,like.trans ⟨rfl,rfl,rfl⟩⟩;show HR E w0.heap φ _ ((putRow (Value.int .i64) (Sort.ahead w n) l.cb l.base (Dc zs).toArray).heap++os);rw [hh];exact hov.growC os
  ·intro i v hi hv;rw [Ii]at hv;rw [List.length_map,Dk]at hi;rw [List.getElem?_map,Option.map_eq_some_iff]at hv;obtain⟨z,hz,rfl⟩:=hv;refine⟨Value.int .i64 z,?_,.int _ _⟩;obtain⟨hz1,hz2⟩:=List.getElem?_eq_some_iff.1 hz;have hin:l.base+i<cs.size:=(by omega);simp only [putCells,Array.getElem?_mapIdx,Array.getElem?_eq_getElem hin,Option.map_some];rw [if_pos (by simp [Dk];omega)];have:l.base+i - l.base=i:=(by omega);rw [this];simp [hz1,hz2]
theorem Aa7 {P:Program}(hs: ∀(p:Option Addr) (cap:Nat) (w:World),Calls P f #[.slice p 0 cap] w fun e w'=>e= .returned (.tuple #[])∧w'=w): XCt P E f [.nils] h fun v h'=>v= .tup []∧h'=h:=by
 intro φ w0 w args' hargs hW;obtain⟨arr⟩:=args';have h1: ∃p c,arr= [.slice p 0 c]:=by
  cases hargs with
  |cons hv ht=>cases ht;cases hv;exact⟨_,_,rfl⟩
 obtain⟨p,c,rfl⟩:=h1;refine(hs p c w).mono ?_;rintro e9 w' ⟨rfl,rfl⟩;exact⟨.tup [],.tuple #[],φ,h,rfl,⟨rfl,rfl⟩,fun _ _ h=>h,.tup .nil,hW⟩
structure SortOk (P:Program)(E:Env)(F:T CFn)(f:Nat):Prop where
 g: ∃g0,T.get F f=some g0
 x: ∀(h:H) (b:Nat) (zs:List Int),Bk h b (zs.map zI)→0<zs.length→zs.length<100000→XCt P E f [.slc b 0 zs.length (Aa+1)] h fun v h'=>v= .tup []∧Bk h' b ((Dc zs).map zI)∧Kp (fun j=>j=b) h h'
 x0: ∀h:H,XCt P E f [.nils] h fun v h'=>v= .tup []∧h'=h
end Go.Ev
namespace Go.Ev
variable {D:List Int}{E:Env}{F:T CFn}{K:T (List AV×AV)}{M M1 M2:List (Int×AV×Nat)}{P S lo lp m mb nb r1 r2 vb:Nat}{P0:Program}{h h':H}{p:Prop}{v:AV}
section
variable {P:Program}{Q:Nat→AV→Prop}
variable {fn nt:Nat}{l:List (Nat×Option AV)}{k:List AItem}{ds:List ADef}{dfd:Bool}{ro:Option Nat}{cs:List AFr}
variable (L:Lg P E F K)
include L
theorem je {α: Type}{bd:CC}(T:α→List (Nat×Option AV))(mu:α→Nat)(R:α→H→Prop)(s0:α){h0:H}(hT:TSub (tms (T s0)) (tms l))(hR:R s0 h0) (body: ∀s h,R s h→(∀s' h' l',mu s'<mu s→R s' h'→TSub (tms (T s')) (tms l')→Good P E Q ⟨⟨fn,nt,tms l',.inLoop bd::k,ds,.run,dfd,ro⟩,cs,h'⟩)→Good P E Q ⟨⟨fn,nt,tms (T s),.code bd:: .inLoop bd::k,ds,.run,dfd,ro⟩,cs,hp h.n h.t []⟩): Good P E Q ⟨⟨fn,nt,tms l,.code (.loop bd)::k,ds,.run,dfd,ro⟩,cs,h0⟩:=by
 have main: ∀m s h,mu s≤m→R s h→Good P E Q ⟨⟨fn,nt,tms (T s),.code bd:: .inLoop bd::k,ds,.run,dfd,ro⟩,cs,hp h.n h.t []⟩:=by
  intro m;induction m with
  |zero=>intro s h e hR;exact body s h hR fun s' h' l' hlt hR' hT'=>absurd hlt (by omega)
  |succ m ih=>intro s h e hR;exact body s h hR fun s' h' l' hlt hR' hT'=>Bw L (Eh L hT' (ih s' h' (by omega) hR'))
 exact Bt L (Eh L hT (main (mu s0) s0 h0 (Nat.le_refl _) hR))
end
theorem Vf {α: Type}{p q:α→Bool}(h: ∀x,q x=true→p x=true): ∀(M:List α) (y:α),y∈M→p y=true→q y=false→(M.filter q).length<(M.filter p).length
 | [],y,hy,_,_=>by cases hy
 |x::r,y,hy,hp,hq=>by
  have le:(r.filter q).length≤(r.filter p).length:=by
   clear hy;induction r with
   |nil=>exact Nat.le_refl _
   |cons z r ih=>
    rw [List.filter_cons,List.filter_cons];by_cases e:q z=true;·rw [if_pos e,if_pos (h z e),List.length_cons,List.length_cons];omega
    ·rw [if_neg e];split;·rw [List.length_cons];omega
     ·exact ih
  rw [List.filter_cons,List.filter_cons];rcases List.mem_cons.1 hy with rfl|hy;·rw [if_pos hp,if_neg (by rw [hq];simp),List.length_cons];omega
  ·have:=Vf h r y hy hp hq;by_cases e:q x=true;·rw [if_pos e,if_pos (h x e),List.length_cons,List.length_cons];omega
   ·rw [if_neg e];split;·rw [List.length_cons];omega
    ·exact this
section
variable {α:Type}{M Y:List (α×AV×Nat)}{ck:Nat}
def muM (M Y:List (α×AV×Nat)):Nat:=(M.filter fun x=>decide (x.2.2∉Y.map (·.2.2))).length
theorem Y8 {y:α×AV×Nat}(hy:y∈M)(hn:y.2.2∉Y.map (·.2.2)):muM M (Y++ [y])<muM M Y:=by refine Vf (fun x hx=>?_) M y hy (decide_eq_true hn) (by simp);simp only [List.map_append,List.mem_append,not_or,decide_eq_true_eq]at hx ⊢;exact hx.1
theorem N7 (q:MOk M ck)(hY: ∀y∈Y,y∈M)(nd:(Y.map (·.2.2)).Nodup)(all: ∀y∈M,y.2.2∈Y.map (·.2.2)):Y.Perm M:=by
 have inj: ∀(L:List (α×AV×Nat)),(L.map (·.2.2)).Nodup→ ∀a∈L,∀b∈L,a.2.2=b.2.2→a=b:=by
  intro L;induction L with
  |nil=>intro _ a ha;cases ha
  |cons c L ih=>exact Aji
 have ndl: ∀(L:List (α×AV×Nat)),(L.map (·.2.2)).Nodup→L.Nodup:=by
  intro L;induction L with
  |nil=>intro _;exact List.nodup_nil
  |cons c L ih=>intro hn;rw [List.map_cons,List.nodup_cons]at hn;exact List.nodup_cons.2 ⟨fun h=>hn.1 (List.mem_map_of_mem h),ih hn.2⟩
 refine(List.perm_ext_iff_of_nodup (ndl Y nd) (ndl M q.borns)).2 fun a=>⟨hY a,fun ha=>?_⟩;obtain⟨b,hb,e⟩:=List.mem_map.1 (all a ha);rw [←inj M q.borns b (hY b hb) a ha e];exact hb
theorem ut {y:α×AV×Nat}(nd:(Y.map (·.2.2)).Nodup)(hn:y.2.2∉Y.map (·.2.2)):((Y++ [y]).map (·.2.2)).Nodup:=by rw [List.map_append,List.nodup_append];refine⟨nd,by simp,fun a ha b hb e=>hn ?_⟩;exact Acy
end
theorem zq9 (h:p:=by
 intro y hy hn
 have hmu:=Y8 hy hn
 refine wk ?_
 (apply st1 L rfl;exact bj q rfl lkg lkq hy;rfl)
 refine wk ?_
 refine Ml L rfl rfl rfl rfl rfl (hY _ y.1 _ (hK _ _ _ i1 (by exact kps)) (by rw [List.length_map];omega) (by simp only [Al];omega)) ?_
 rintro _ h3 ⟨rfl,w1,w2,w3⟩
 simp only [Al]at w2
 refine wk ?_
 refine ih (Y++ [y]) _ _ (Y8 hy hn) ⟨?_,?_,?_,ut i4 hn,by simp only [Al];omega,by rw [List.length_append,List.length_singleton];omega⟩ tsb
 ·rw [List.map_append];exact hK _ _ _ w1 kps
 ·rw [List.map_append];exact w3 _ (by exact lkg)
 ·intro z hz
  rcases List.mem_append.1 hz with hz|hz
  ·exact i3 z hz
  ·rw [List.mem_singleton.1 hz];exact hy):p:=h
section
variable (L:Lg P0 E F K)(X:Fx F K)
include L X
theorem vq {ck:Nat}(q:MOk M ck)(I:List Int→H→Prop) (hI: ∀S hh,I S hh→Bk hh mb [.map r1]∧Mk hh r1 (M.map (mE AI)) ck) (hK: ∀S hh h',I S hh→Kp (fun j=>j=h.n) hh h'→I S h') (hY: ∀S k hh,I S hh→S.length<M.length→h.n<hh.n→CtA P0 E F K (.yield lp) [AI k] hh fun u h'=>u= .bool true∧I (S++ [k]) h'∧hh.n≤h'.n∧(∀x,Gk hh h.n x→Gk h' h.n x)) (h0:I [] h): Ct P0 E F K 237 [.fn (.yield lp) [] [],.ptr mb 0] h fun v h'=> ∃S,List.Perm S (M.map (·.1))∧I S h':=by
 obtain⟨k1,k2⟩:=hI _ _ h0;have l1:=k1.lt;have l2:=k2.lt;refine Af L X.f237 fun Q x cs G=>?_;refine wk ?_;(apply st1 L rfl;exact U4 rfl lkq;rfl);refine wk ?_;refine je L (α:= List (Int×AV×Nat)) (T:=fun Y=> [(5,some (.ptr h.n 0)),(0,some (.fn (.yield lp) [] []))]) (mu:=muM M) (R:=fun Y hh=>I (Y.map (·.1)) hh∧Gk hh h.n (.miter (some r1) ck (Y.map (·.2.2)) ck)∧(∀y∈Y,y∈M)∧(Y.map (·.2.2)).Nodup∧h.n<hh.n∧Y.length+muM M Y≤M.length) [] tsb ⟨hK _ _ _ h0 kps,lkg,(fun y hy=>by cases hy),List.nodup_nil,Nat.lt_succ_self _,by rw [List.length_nil,Nat.zero_add];exact List.length_filter_le _ _⟩ ?_;rintro Y hh ⟨i1,i2,i3,i4,i5,i6⟩ ih;obtain⟨k3,k4⟩:=hI _ _ i1;refine wk ?_;refine U5 L rfl rfl (M:=M) (enc:=AI) (ck:=ck) (it:=h.n) (m:=r1) (seen:=Y.map (·.2.2)) lkg lkq q.lt ?_ ?_;·intro hall;refine ret X.f237.1 ?_;exact⟨_,(N7 q i3 i4 hall).map _,hK _ _ _ i1 kps⟩
 ·exact zq9
end
theorem Ann (h:p:=by
 have l4:=r4.lt
 have l5:=r2.lt
 refine Io L (n:=h3.n) (t:=h3.t) (lh:= []) hle (by intro q;cases q) ?_
 refine wk ?_
 refine Gt L (todo:= []) ?_
 refine Hj L (by intro q;cases q) (Gk.e lkg) ?_
 refine D7 L X.f238.1 (F6 rfl) G ⟨S,p,kps,?_⟩
 rcases r5 with r5|⟨r5,b,r6,r7,r8⟩
 ·exact .inl r5
 ·exact .inr ⟨r5,b,r6,by exact lkp,by omega⟩):p:=h
theorem Ano (h:p:=by
 obtain⟨r1,r2,r3,v,r4,r5⟩:=r
 simp only [Al]at k
 have l3:=r4.lt
 refine⟨Kp.trS k (fun i hi e=>by omega) r1,Lk k (by omega) r2,Lk k (by omega) r3,v,Aq k (by omega) r4,?_⟩
 rcases r5 with r5|⟨r5,b,r6,r7,r8⟩
 ·exact .inl r5
 ·exact .inr ⟨r5,b,r6,Aq k (by omega) r7,r8⟩):p:=h
section
variable (L:Lg P0 E F K)(X:Fx F K)
include L X
noncomputable def lpA (hn mb:Nat)(st:LS):Blk:= .loop ⟨st,none,238,cf238.ntmps,tms [(6,some (.fn (.func 237) [] [.ptr mb 0])),(4,some .nils),(2,some (.ptr hn 0)),(1,some (.fn (.func 237) [] [.ptr mb 0])),(0,some .nils)],[7],tx,tz,hn+1⟩
omit L X in
structure RA (h hh:H)(mb:Nat)(S:List Int):Prop where
 k:K0 h hh
 dk:Gk hh (h.n+1) (.dfr (some []))
 lp:Gk hh (h.n+2) (lpA h.n mb .ready)
 ex: ∃v,Bk hh h.n [v]∧((S= []∧v= .nils)∨(0<S.length∧ ∃b,v= .slc b 0 S.length (Aa+1)∧Bk hh b (S.map AI)∧h.n+4≤b))
theorem j9 {ck:Nat}(q:MOk M ck)(k1:Bk h mb [.map r1])(k2:Mk h r1 (M.map (mE AI)) ck)(hlen:M.length<2000): Ct P0 E F K 238 [.nils,.fn (.func 237) [] [.ptr mb 0]] h fun v h'=> ∃S,List.Perm S (M.map (·.1))∧K0 h h'∧((S= []∧v= .nils)∨(0<S.length∧ ∃b,v= .slc b 0 S.length (Aa+1)∧Bk h' b (S.map AI)∧h.n≤b)):=by
 have l1:=k1.lt;have l2:=k2.lt;refine Af L X.f238 fun Q x cs G=>?_;refine wk ?_;refine In L (post:=fun _ h'=> ∃S,List.Perm S (M.map (·.1))∧RA h h' mb S) rfl rfl rfl ?_ ?_
 ·refine Ct.A ((vq L X q (fun S hh=>RA h hh mb S) (fun S hh r=>⟨Ag r.k k1,Rb r.k k2⟩) (fun S hh h' r k=>?_) (fun S z hh r hSl hlt=>?_) ⟨kps,lkg,lkg,.nils,lkp,.inl ⟨rfl,rfl⟩⟩).mono fun v h' p=>p);·exact Ano
  ·obtain⟨r1,r2,r3,v,r4,r5⟩:=r;simp only [Al]at hlt;have l3:=r4.lt;have l4:=r3.lt;have hle:=r3.e;unfold lpA at hle;refine Gu L (l1:= [(7,some (AI z)),(6,some (.fn (.func 237) [] [.ptr mb 0])),(4,some .nils),(2,some (.ptr h.n 0)),(1,some (.fn (.func 237) [] [.ptr mb 0])),(0,some .nils)]) hle rfl ?_;intro Q z2 cs G;refine wk ?_;refine Fh L (Gk.e lkg) ?_;rcases r5 with⟨rfl,rfl⟩|⟨r5,b,rfl,r7,r8⟩;·refine wk ?_;(apply st1 L rfl;exact Dr (new:= [AI z]) rfl rfl (SlR.of (c:= [AI z]) lkp (Nat.le_refl _) rfl) (by omega) (by omega);rfl);refine wk ?_;refine Ej L (Gk.e lkg) G ⟨rfl,?_,by simp only [Al];omega,fun x hx=>(fun hx2:Gk hh (h.n+3) x=>(show Gk _ (h.n+3) x from by exact lkg)) hx⟩;exact⟨kps,lkg,(by unfold lpA;exact Fy (by omega)),_,lkp,.inr ⟨by simp,hh.n+1,rfl,by exact lkp,by omega⟩⟩
   ·have l6:=r7.lt;refine wk ?_;(apply st1 L rfl;exact Dq (old:=S.map AI) (new:= [AI z]) rfl rfl (SlR.of (c:=S.map AI) lkp (by simp) (by rw [List.drop_zero,List.take_of_length_le (by simp)])) (SlR.of (c:= [AI z]) lkp (Nat.le_refl _) rfl) (by omega) (by omega) rfl;rfl);refine wk ?_;refine Ej L (Gk.e lkg) G ⟨rfl,?_,by simp only [Al];omega,fun x hx=>(fun hx2:Gk hh (h.n+3) x=>(show Gk _ (h.n+3) x from by exact lkg)) hx⟩;exact⟨kps,lkg,(by unfold lpA;exact Fy (by omega)),_,lkp,.inr ⟨by simp,hh.n+1,by simp,(by rw [List.map_append];exact lkp),by omega⟩⟩
 ·rintro v h3 ⟨S,p,r1,r2,r3,v2,r4,r5⟩;have hle:=r3.e;unfold lpA at hle;exact Ann
end
theorem Anp (h:p:=by
 rintro _ h2 ⟨S,p,w1,w2⟩
 have pl:=p.length_eq
 rw [List.length_map]at pl
 rcases w2.ex with⟨rfl,rfl⟩|⟨w3,b,rfl,w4,w5⟩
 ·refine wk ?_
  refine To L rfl rfl rfl rfl hg0 (U.x0 _) ?_
  rintro _ _ ⟨rfl,rfl⟩
  refine ret X.f191.1 ?_
  exact⟨_,p,kps,⟨.inl ⟨by first|rfl|exact List.mergeSort_nil,rfl⟩⟩⟩
 ·refine wk ?_
  refine To L rfl rfl rfl rfl hg0 (U.x _ _ S (by exact lkp) w3 (by omega)) ?_
  rintro _ h3 ⟨rfl,w6,w7⟩
  refine ret X.f191.1 ?_
  exact⟨_,p,kps,⟨.inr ⟨by rw [Dk];exact w3,b,by rw [Dk];rfl,by exact lkp,w5⟩⟩⟩):p:=h
theorem Anq (h:p:=by
 rintro _ h2 ⟨S,p,w1,w2⟩
 rcases w2 with⟨rfl,rfl⟩|⟨w2,b,rfl,w3,w4⟩
 ·refine ret X.f214.1 ?_
  exact⟨_,p,kps,⟨.inl ⟨by first|rfl|exact List.mergeSort_nil,rfl⟩⟩⟩
 ·refine ret X.f214.1 ?_
  exact⟨_,p,kps,⟨.inr ⟨w2,b,rfl,by exact lkp,w4⟩⟩⟩):p:=h
section
variable (L:Lg P0 E F K)(X:Fx F K)
include L X
omit L X in
structure RowN (h:H)(lo:Nat)(v:AV)(S:List Int):Prop where
 ex:(S= []∧v= .nils)∨(0<S.length∧ ∃b,v= .slc b 0 S.length (Aa+1)∧Bk h b (S.map AI)∧lo≤b)
omit L X in
theorem RowN.k0 {S:List Int}(q:RowN h lo v S)(k:K0 h h'):RowN h' lo v S:=by exact Afd
theorem Zg {ck:Nat}(q:MOk M ck)(k1:Bk h mb [.map r1])(k2:Mk h r1 (M.map (mE AI)) ck)(hlen:M.length<2000): Ct P0 E F K 214 [.fn (.func 237) [] [.ptr mb 0]] h fun v h'=> ∃S,List.Perm S (M.map (·.1))∧K0 h h'∧RowN h' h.n v S:=by refine Ao L X.f214 fun Q x cs G=>?_;refine cal ?_ (c:=j9 L X q k1 k2 hlen);exact Anq
theorem ki {ck:Nat}(U:SortOk P0 E F 171)(q:MOk M ck)(k1:Bk h mb [.map r1])(k2:Mk h r1 (M.map (mE AI)) ck)(hlen:M.length<2000): Ct P0 E F K 191 [.fn (.func 237) [] [.ptr mb 0]] h fun v h'=> ∃S,List.Perm S (M.map (·.1))∧K0 h h'∧RowN h' h.n v (Dc S):=by obtain⟨g0,hg0⟩:=U.g;refine Ao L X.f191 fun Q x cs G=>?_;refine cal ?_ (c:=Zg L X q k1 k2 hlen);exact Anp
theorem Zh {ck:Nat}(U:SortOk P0 E F 171)(q:MOk M ck)(k2:Mk h r1 (M.map (mE AI)) ck)(hlen:M.length<2000): Ct P0 E F K 175 [.map r1] h fun v h'=> ∃S,List.Perm S (M.map (·.1))∧K0 h h'∧RowN h' h.n v (Dc S):=by
 have l2:=k2.lt;have hkeys:Ct P0 E F K 210 [.map r1] h fun v h'=>v= .fn (.func 237) [] [.ptr h.n 0]∧Bk h' h.n [.map r1]∧K0 h h'∧h'.n=h.n+1:=by refine Ao L X.f210 fun Q x cs G=>?_;refine ret X.f210.1 ?_;exact⟨rfl,lkp,kps,rfl⟩
 refine Ao L X.f175 fun Q x cs G=>?_;refine cal ?_ (c:=hkeys);rintro _ h2 ⟨rfl,w1,w2,w3⟩;refine cal ?_ (c:=ki L X U q w1 (Rb w2 k2) hlen);rintro _ h3 ⟨S,p,w4,w5⟩;have w6:=w5;rcases w5.ex with⟨e0,rfl⟩|⟨w7,b,rfl,w8,w9⟩
 ·refine ret X.f175.1 ?_;exact⟨_,p,kps,⟨.inl ⟨e0,rfl⟩⟩⟩
 ·refine ret X.f175.1 ?_;exact⟨_,p,kps,⟨.inr ⟨w7,b,rfl,by exact lkp,by omega⟩⟩⟩
end
theorem D2: ∀(n:Nat) (l:List Int),l.Nodup→(∀x∈l,0≤x∧x<(n:Int))→l.length≤n
 |0,l,_,h=>by
  cases l with
  |nil=>exact Nat.le_refl _
  |cons x r=>have:=h x (List.mem_cons_self ..);omega
 |n+1,l,hn,h=>by
  have h1:=D2 n (l.erase (n:Int)) (hn.erase _) fun x hx=>by have h2:=hn.mem_erase_iff.1 hx;have h3:=h x h2.2;have:x≠(n:Int):=h2.1;omega
  have h4:=List.length_erase (a:=(n:Int)) (l:=l);split at h4 <;> omega
theorem Gb (S:List Int):(Dc S).Perm S:=List.mergeSort_perm S _
theorem Aa8 (S:List Int):(Dc S).Pairwise (· ≤ ·):=by have:=List.pairwise_mergeSort (le:=fun x y:Int=>decide (x≤y)) (by intro a b c;simp only [decide_eq_true_eq];omega) (by intro a b;simp only [Bool.or_eq_true,decide_eq_true_eq];omega) S;exact this.imp fun h=>by simpa using h
theorem co {S:List Int}(h:S.Nodup):(Dc S).Pairwise (· < ·):=by have h1:(Dc S).Nodup:=(Gb S).nodup_iff.2 h;refine((Aa8 S).and h1).imp fun {a b} q=>?_;have:=q.1;have:a≠b:=q.2;omega
structure DomA (A:Int→Option Int)(S:List Int):Prop where
 lt:S.Pairwise (· < ·)
 mem: ∀s,s∈S↔(A s).isSome=true
theorem MQ.dom {A:Int→Option Int}{ck:Nat}(q:MQ M1 M2 A)(o:MOk M1 ck){S:List Int}(p:S.Perm (M1.map (·.1))):DomA A (Dc S):=by
 refine⟨co (p.nodup_iff.2 o.keys),fun s=>?_⟩;rw [(Gb S).mem_iff,p.mem_iff,←mHas_mem,Cx];have h1:=q.a1 s;unfold A5 at h1
 cases hA:A s with
 |none=>rw [hA]at h1;simp only [Option.map_none,Option.map_eq_none_iff]at h1;rw [h1];simp
 |some v=>
  rw [hA]at h1
  cases hf:M1.find? fun x=>decide (s=x.1)with
  |none=>rw [hf]at h1;cases h1
  |some x=>simp
theorem MpR.keys {A:Int→Option Int}{c1 c2:Nat}{cv:List AV}(q:MpR S nb P h m r1 r2 vb A)(o:MpC S nb P h m r1 r2 vb A M1 M2 c1 c2 cv):M1.length≤1000:=by
 have h1:=D2 S (M1.map (·.1)) o.o1.keys fun x hx=>by
  have h2:=mHas_mem.2 hx;have h3:=o.mr.a1 x
  cases hA:A x with
  |none=>rw [hA]at h3;have:=mGet_none.1 h3;rw [this]at h2;cases h2
  |some p=>have:=q.rg x p hA;omega
 rw [List.length_map]at h1;have:=q.nz;omega
theorem Abc (h:p:=by
 refine Af L X.f174 fun Q x cs G=>?_
 refine ret X.f174.1 ?_
 exact⟨rfl,lkp,lkp,kps⟩):p:=h
section
variable (L:Lg P0 E F K)(X:Fx F K)
include L X
section
omit L X in
def atA (A:Int→Option Int)(s:Int):Int:=(A s).getD 0
omit L X in
theorem Abd {A:Int→Option Int}(q:MQ M1 M2 A)(s:Int):(A5 M1 s).getD Zi=AI (atA A s):=by rw [q.a1];unfold atA;cases A s <;> rfl
theorem Abe {A:Int→Option Int}(U:SortOk P0 E F 171)(q:MpR S nb P h m r1 r2 vb A): Ct P0 E F K 115 [.ptr m 0] h fun v h'=> ∃D a b va vb',DomA A D∧D.length≤1000∧v= .fn (.func 209) [] [.ptr a 0,.ptr b 0]∧Bk h' a [va]∧Bk h' b [vb']∧RowN h' h.n va D∧RowN h' h.n vb' (D.map (atA A))∧K0 h h'∧h.n≤a∧h.n≤b:=by
 have q0:=q;obtain⟨km,⟨n1,n2,n3,n4,n5,n6⟩,rg,nz,M1,M2,c1,c2,cv,oo⟩:=q;have hk:=MpR.keys q0 oo;obtain⟨k1,o1,k2,o2,kv,vl,vv,mr⟩:=oo;have l1:=km.lt;have l2:=k1.lt;have hpairs0: ∀(h2:H),Ct P0 E F K 174 [.nils,.nils] h2 fun v h'=>v= .fn (.func 209) [] [.ptr h2.n 0,.ptr (h2.n+1) 0]∧Bk h' h2.n [.nils]∧Bk h' (h2.n+1) [.nils]∧K0 h2 h':=by intro h2;exact Abc
 have hpairs1: ∀(h2:H) (a0 b0 k0 l0:Nat),Ct P0 E F K 174 [.slc a0 0 k0 (Aa+1),.slc b0 0 l0 (Aa+1)] h2 fun v h'=>v= .fn (.func 209) [] [.ptr h2.n 0,.ptr (h2.n+1) 0]∧Bk h' h2.n [.slc a0 0 k0 (Aa+1)]∧Bk h' (h2.n+1) [.slc b0 0 l0 (Aa+1)]∧K0 h2 h':=by intro h2 a0 b0 k0 l0;exact Abc
 refine Ao L X.f115 fun Q x cs G=>?_;refine cal ?_ (c:=Rz L X (c0:=AN S) (c1:=AN nb) (c2:=AN P) (r1:=r1) (rest:= [.map r2,.slc vb 0 nb nb]) lkp);rintro _ rfl;refine cal ?_ (c:=Zh L X U o1 k1 (by omega));rintro _ h2 ⟨S0,p,w1,w2⟩;have hD:=mr.dom o1 p;have hDl:(Dc S0).length≤1000:=by rw [Dk,p.length_eq,List.length_map];exact hk
 generalize Dc S0=D at*;have n2:=w1.n;rcases w2.ex with⟨rfl,rfl⟩|⟨w3,db,rfl,w4,w5⟩;·refine wk ?_;refine Bt L ?_;refine cal ?_ (c:=hpairs0 _);rintro _ h3 ⟨rfl,u1,u2,u3⟩;refine ret X.f115.1 ?_;exact⟨[],_,_,.nils,.nils,hD,hDl,rfl,by exact lkp,by exact lkp,⟨.inl ⟨rfl,rfl⟩⟩,⟨.inl ⟨rfl,rfl⟩⟩,kps,by first|omega|(simp only [Al]at *;omega),by first|omega|(simp only [Al]at *;omega)⟩
 have ld:=w4.lt;refine wk ?_;refine Bs L (α:= AV) (T:=fun i v=> [(17,some (AN i)),(16,some (AN D.length)),(15,some (.slc db 0 D.length (Aa+1))),(4,some v),(3,some (.slc db 0 D.length (Aa+1))),(0,some (.ptr m 0))]) (n:=D.length) (R:=fun i v h3=>RowN h3 h2.n v ((D.take i).map (atA A))∧K0 h h3∧K0 h2 h3) (i0:=0) .nils tsb ⟨⟨.inl ⟨rfl,rfl⟩⟩,kps,kps⟩ (Nat.zero_le _) ?_ ?_
 ·rintro i v h3 hi ⟨u1,u2,u3⟩ ih;have hx:D[i]?=some D[i]:=List.getElem?_eq_getElem hi;have hxm:(D.map AI)[i]?=some (AI D[i]):=by rw [List.getElem?_map,hx];rfl
  have e1:((D.take (i+1)).map (atA A))=(D.take i).map (atA A)++ [atA A D[i]]:=by rw [List.take_add_one,hx,List.map_append];rfl
  have e2:((D.take i).map (atA A)).length=i:=by rw [List.length_map,List.length_take];omega
  rw [e1]at ih;generalize D[i]=s at*;have hg:=Abd mr s;have n3:=u3.n;refine wk ?_;(apply st1 L rfl;exact Db (KE.int .i64) rfl rfl lkq;rfl);rw [hg];rcases u1.ex with⟨e0,rfl⟩|⟨gn,lb,rfl,g5,g6⟩;·refine wk ?_;(apply st1 L rfl;exact Dr (new:= [AI (atA A s)]) rfl rfl (SlR.of (c:= [AI (atA A s)]) lkp (Nat.le_refl _) rfl) (by omega) (by omega);rfl);refine wk ?_;refine ih _ _ _ ⟨?_,kps,kps⟩ tsb;rw [e0,List.nil_append];exact⟨.inr ⟨by simp,_,rfl,by exact lkp,by omega⟩⟩
  ·have g8:=g5.lt;rw [e2];refine wk ?_;(apply st1 L rfl;exact Dq (old:=((D.take i).map (atA A)).map AI) (new:= [AI (atA A s)]) rfl rfl (SlR.of (c:=((D.take i).map (atA A)).map AI) lkp (by rw [List.length_map,e2];omega) (by rw [List.drop_zero,List.take_of_length_le (by rw [List.length_map,e2];omega)])) (SlR.of (c:= [AI (atA A s)]) lkp (Nat.le_refl _) rfl) (by omega) (by omega) rfl;rfl);refine wk ?_;refine ih _ _ _ ⟨?_,kps,kps⟩ tsb;refine⟨.inr ⟨by simp,h3.n+1,(by rw [List.length_append,e2];rfl),(by rw [List.map_append];exact lkp),by omega⟩⟩
 ·rintro v h3 ⟨u1,u2,u3⟩;rw [List.take_length]at u1;rcases u1.ex with⟨e0,rfl⟩|⟨gn,lb,rfl,g5,g6⟩;·rw [List.map_eq_nil_iff]at e0;rw [e0]at w3;exact absurd w3 (Nat.lt_irrefl 0)
  have g8:=g5.lt;have hn:=u3.n;refine cal ?_ (c:=hpairs1 _ db lb _ _);rintro _ h4 ⟨rfl,x1,x2,x3⟩;refine ret X.f115.1 ?_;exact⟨D,_,_,_,_,hD,hDl,rfl,by exact lkp,by exact lkp,⟨.inr ⟨w3,db,rfl,by exact lkp,by omega⟩⟩,⟨.inr ⟨gn,lb,rfl,by exact lkp,by omega⟩⟩,kps,by first|omega|(simp only [Al]at *;omega),by first|omega|(simp only [Al]at *;omega)⟩
theorem ky {a b:Nat}{va vb':AV}{g:Int→Int}(hlen:D.length≤1000)(I:Nat→H→Prop) (hI: ∀i hh,I i hh→Bk hh a [va]∧Bk hh b [vb']∧RowN hh lo va D∧RowN hh lo vb' (D.map g)) (hK: ∀i hh h',I i hh→K0 hh h'→I i h') (hY: ∀i s hh,D[i]?=some s→I i hh→CtA P0 E F K (.yield lp) [AI s,AI (g s)] hh fun u h'=>u= .bool true∧I (i+1) h') (h0:I 0 h): Ct P0 E F K 209 [.fn (.yield lp) [] [],.ptr a 0,.ptr b 0] h fun v h'=>I D.length h':=by
 obtain⟨k1,k2,k3,k4⟩:=hI _ _ h0;rcases k3.ex with⟨rfl,rfl⟩|⟨hp1,da,rfl,k5,k6⟩;·refine Bf L X.f209 fun Q x cs G=>?_;refine wk ?_;refine Bt L ?_;refine ret X.f209.1 ?_;exact hK _ _ _ h0 kps
 rcases k4.ex with⟨e0,rfl⟩|⟨hp2,db,rfl,k7,k8⟩;·rw [List.map_eq_nil_iff]at e0;rw [e0]at hp1;exact absurd hp1 (Nat.lt_irrefl 0)
 refine Bf L X.f209 fun Q x cs G=>?_;refine wk ?_;refine Bs L (α:= Unit) (T:=fun i _=> [(8,some (AN i)),(7,some (AN D.length)),(6,some (.slc da 0 D.length (Aa+1))),(2,some (.ptr b 0)),(0,some (.fn (.yield lp) [] []))]) (n:=D.length) (R:=fun i _ hh=>I i hh) (i0:=0) () tsb (hK _ _ _ h0 kps) (Nat.zero_le _) ?_ ?_
 ·rintro i _ h2 hi w ih;have hx:D[i]?=some D[i]:=List.getElem?_eq_getElem hi;have hxa:(D.map AI)[i]?=some (AI D[i]):=by rw [List.getElem?_map,hx];rfl
  have hxb:((D.map g).map AI)[i]?=some (AI (g D[i])):=by rw [List.getElem?_map,List.getElem?_map,hx];rfl
  have hl2:i<(D.map g).length:=by rw [List.length_map];exact hi
  obtain⟨j1,j2,j3,j4⟩:=hI _ _ w;have j5:Bk h2 da (D.map AI):=by
   rcases j3.ex with⟨_,e⟩|⟨_,b',e,e2,_⟩;·cases e
   ·cases e;exact e2
  have j6:Bk h2 db ((D.map g).map AI):=by
   rcases j4.ex with⟨_,e⟩|⟨_,b',e,e2,_⟩;·cases e
   ·cases e;exact e2
  generalize D[i]=s at*;refine wk ?_;refine Ml L rfl rfl rfl rfl rfl (hY i _ _ hx (hK i _ _ w (by exact kps))) ?_;rintro _ h3 ⟨rfl,w3⟩;refine wk ?_;refine ih () _ _ w3 ?_;exact tsb
 ·rintro _ h2 w;refine ret X.f209.1 ?_;exact w
noncomputable def lpM (m hn a b mk:Nat)(st:LS):Blk:= .loop ⟨st,none,59,cf59.ntmps,tms [(6,some (.fn (.func 209) [] [.ptr a 0,.ptr b 0])),(5,some (.ptr m 0)),(2,some (.ptr hn 0)),(0,some (.ptr m 0))],[7,8],Ajx,Ajy,mk⟩
omit L X
def A8 (A:Int→Option Int)(D:List Int):List Ent:=D.map fun s=>(s,atA A s)
theorem RowN.kS {S:Nat→Prop}{hi:Nat}(q:RowN h lo v D)(hb: ∀b n c,v= .slc b 0 n c→b<hi)(k:Kp S h h')(hs: ∀j,lo≤j→j<hi→ ¬S j):RowN h' lo v D:=by
 rcases q.ex with h1|⟨h2,b,h3,h4,h5⟩;·exact⟨.inl h1⟩
 ·exact⟨.inr ⟨h2,b,h3,Aq k (hs b h5 (hb _ _ _ h3)) h4,h5⟩⟩
theorem RowN.bd (q:RowN h lo v D): ∀b n c,v= .slc b 0 n c→b<h.n:=by
 intro b n c e;rcases q.ex with⟨_,h1⟩|⟨_,b',h3,h4,_⟩;·rw [h1]at e;cases e
 ·rw [h3]at e;cases e;exact h4.lt
include L X
omit L X in
structure RE (h hh:H)(m a b mk:Nat)(va vb':AV)(A:Int→Option Int)(D:List Int)(i:Nat):Prop where
 k:K0 h hh
 dk:Gk hh mk (.dfr (some []))
 lp:Gk hh (mk+1) (lpM m h.n a b mk .ready)
 ka:Bk hh a [va]
 kb:Bk hh b [vb']
 ra:RowN hh (h.n+1) va D
 rb:RowN hh (h.n+1) vb' (D.map (atA A))
 ex: ∃v,Bk hh h.n [v]∧EL hh (mk+2) v (A8 A (D.take i))
theorem Hc {A:Int→Option Int}(U:SortOk P0 E F 171)(q:MpR S nb P h m r1 r2 vb A): Ct P0 E F K 59 [.ptr m 0] h fun v h'=> ∃D,DomA A D∧D.length≤1000∧EL h' h.n v (A8 A D)∧K0 h h':=by
 refine Ao L X.f59 fun Q x cs G=>?_;refine cal ?_ (c:=Abe L X U (q.k0 kps));rintro _ h2 ⟨D,a,b,va,vb',hD,hDl,rfl,w1,w2,w3,w4,w5,w6,w7⟩;have n5:=w5.n;simp only [Al]at n5 w6 w7;have la:=w1.lt;have lb:=w2.lt;refine wk ?_;refine In L (post:=fun _ h'=>RE h h' m a b h2.n va vb' A D D.length) rfl rfl rfl ?_ ?_
 ·refine Ct.A ((ky L X (g:=atA A) (lo:=h.n+1) hDl (fun i hh=>RE h hh m a b h2.n va vb' A D i) (fun i hh r=>⟨r.ka,r.kb,r.ra,r.rb⟩) (fun i hh h' r k=>?_) (fun i s hh hx r=>?_) ⟨kps,lkg,lkg,by exact lkp,by exact lkp,?_,?_,.nils,by exact lkp,EL.nil _ _⟩).mono fun v h' p=>p);·exact⟨Kp.tr0 k r.k,Fg k r.dk,Fg k r.lp,Ag k r.ka,Ag k r.kb,r.ra.k0 k,r.rb.k0 k,let⟨v,e1,e2⟩:=r.ex;⟨v,Ag k e1,e2.k0 k⟩⟩
  ·obtain⟨r1,r2,r3,r4,r5,r6,r7,v,r8,r9⟩:=r;have hle:=r3.e;unfold lpM at hle;have g1:=r2.lt;have g2:=r3.lt;have g3:=r4.lt;have g4:=r5.lt;have g5:=r8.lt;have hi:=(List.getElem?_eq_some_iff.1 hx).1;have e1:A8 A (D.take (i+1))=A8 A (D.take i)++ [(s,atA A s)]:=(by unfold A8;rw [List.take_add_one,hx,List.map_append];rfl);have e2:(A8 A (D.take i)).length=i:=(by unfold A8;rw [List.length_map,List.length_take];omega);refine Gu L (l1:= [(8,some (AI (atA A s))),(7,some (AI s)),(6,some (.fn (.func 209) [] [.ptr a 0,.ptr b 0])),(5,some (.ptr m 0)),(2,some (.ptr h.n 0)),(0,some (.ptr m 0))]) hle rfl ?_;intro Q z2 cs G;refine wk ?_;refine Fh L (Gk.e lkg) ?_;rcases r9.len with⟨e0,rfl⟩|⟨gn,lb2,rfl,g6,g7⟩;·refine wk ?_;(apply st1 L rfl;exact Dr (new:=Az (s,atA A s)) rfl rfl (SlR.of (c:=Az (s,atA A s)) lkp (Nat.le_refl _) rfl) (by omega) (by omega);rfl);refine wk ?_;refine Ej L (Gk.e lkg) G ⟨rfl,?_⟩;refine⟨kps,lkg,(by unfold lpM;exact Fy (by omega)),by exact lkp,by exact lkp,r6.kS (S:=fun j=>j=h.n∨j=h2.n+1) w3.bd kps (by intro j q1 q2;omega),r7.kS (S:=fun j=>j=h.n∨j=h2.n+1) w4.bd kps (by intro j q1 q2;omega),_,by exact lkp,?_⟩;rw [e1,e0,List.nil_append];exact EL.app (l:= []) (by exact lkp) (by omega) rfl
   ·have g8:=g6.lt;rw [e2]at r8;refine wk ?_;(apply st1 L rfl;exact Dq (old:=(A8 A (D.take i)).flatMap Az) (new:=Az (s,atA A s)) rfl rfl (SlR.of (c:=(A8 A (D.take i)).flatMap Az) lkp (by rw [Ba,e2];omega) (by rw [List.drop_zero,List.take_of_length_le (by rw [Ba,e2];exact Nat.le_refl _)])) (SlR.of (c:=Az (s,atA A s)) lkp (Nat.le_refl _) rfl) (by omega) (by omega) rfl;rfl);refine wk ?_;refine Ej L (Gk.e lkg) G ⟨rfl,?_⟩;refine⟨kps,lkg,(by unfold lpM;exact Fy (by omega)),by exact lkp,by exact lkp,r6.kS (S:=fun j=>j=h.n∨j=h2.n+1∨j=lb2) w3.bd kps (by intro j q1 q2;omega),r7.kS (S:=fun j=>j=h.n∨j=h2.n+1∨j=lb2) w4.bd kps (by intro j q1 q2;omega),_,by exact lkp,?_⟩;rw [e1];exact EL.app (l:=A8 A (D.take i)) (by exact lkp) (by omega) e2
  ·exact w3.k0 kps
  ·exact w4.k0 kps
 ·rintro v h3 ⟨r1,r2,r3,r4,r5,r6,r7,v2,r8,r9⟩;have hle:=r3.e;unfold lpM at hle;have l4:=r8.lt;have l5:=r2.lt;refine Io L (n:=h3.n) (t:=h3.t) (lh:= []) hle (by intro q;cases q) ?_;rw [List.take_length]at r9;rcases r9.ex with⟨e0,rfl⟩|⟨e0,b',rfl,r10,r11⟩
  all_goals
   refine wk ?_;refine Gt L (todo:= []) ?_;refine Hj L (by intro q;cases q) (Gk.e lkg) ?_;refine D7 L X.f59.1 (C4 (b:=h.n) rfl (Bk.e lkp) rfl Er) G ⟨D,hD,hDl,?_,kps⟩
  ·exact⟨.inl ⟨e0,rfl⟩⟩
  ·exact⟨.inr ⟨e0,b',rfl,by exact lkp,by omega⟩⟩
theorem cz (hS:1≤S∧S≤1000)(hn:2≤nb∧nb≤12)(hP:2≤P∧P≤6):Ct P0 E F K 53 [AN S,AN nb,AN P] h fun v h'=> ∃m r1 r2 vb,v= .tup [.ptr m 0,Zi]∧MpR S nb P h' m r1 r2 vb (fun _=>none)∧K0 h h'∧h.n≤m∧h.n≤r1∧h.n≤r2∧h.n≤vb:=by
 refine Bf L X.f53 fun Q x cs G=>?_;refine ret X.f53.1 ?_;refine⟨h.n+1+1+1,h.n,h.n+1,h.n+1+1,rfl,⟨lkp,by omega,fun s p e=>(by cases e),by omega,[],[],0,0,List.replicate nb (AI 0),lkq,MOk.nil,lkq,MOk.nil,?_,by simp,?_,⟨fun _=>rfl,fun s p e=>(by cases e),fun p u e=>(by cases e)⟩⟩,kps,by omega,by omega,by omega,by omega⟩
 ·have e: ∀n,rl [Zi] n=List.replicate n (AI 0):=by
   intro n;induction n with
   |zero=>rfl
   |succ k ih=>show AI 0::rl [AI 0] k=_;rw [List.replicate_succ];exact congrArg _ ih
  rw [←e];exact lkp
 ·intro i hi;have e0:valA (fun _=>none) P i=0:=by
   have: ∀n,M0 (fun j=>I6 (fun _=>none) ((i*P+j:Nat):Int)) n=0:=by
    intro n;induction n with
    |zero=>rfl
    |succ n ih=>simp only [M0,ih];rw [if_neg];intro hq;obtain⟨s,hs⟩:=hasP_t.1 hq;cases hs
   exact this P
  rw [e0];simp [hi]
