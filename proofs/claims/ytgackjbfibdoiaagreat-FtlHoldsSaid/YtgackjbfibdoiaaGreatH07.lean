import Derived.Test.YtgackjbfibdoiaaGreatH05
import Derived.Shelf.Sort.Plain
import Derived.Shelf.Slices.In.SortNone
set_option linter.all false
set_option maxRecDepth 100000
set_option maxHeartbeats 4000000
namespace Go.Ev
variable {P0:Program}{E:Env}{F:T DY}{K:HK}(L:Lg P0 E F K)[X:Fx F K][aq4:Tb P0 E F K]
section
variable {P S f i m nb r1 r2 vb:Nat}{h:H}{p:Prop}
theorem yc(h:p:=by
 refine Ad L X.f210 λQ x cs G=>?_
 refine AK ?_ (c:=al4 L (S:=S) (nb:=nb) (P:=P) ⟨hn.1,hn.2.1⟩)
 rintro _ h2 ⟨rfl,w1⟩
 rw[X5]
 refine ret X.f210.1 ?_
 exact⟨rfl,AH⟩):p:=h
theorem Sl{c0 c1 c2:AV}{rest:List AV}(k:Bk h m (c0::c1::c2:: .map r1::rest)):CL L 142 [.ptr m 0] h λv AA=>v= .bool false/\AA=h:=by refine Aj L X.f142 λQ x cs G=>?_;refine wk ?_;refine BO L (Aon rfl rfl) ?_;refine ret X.f142.1 ?_;exact⟨rfl,rfl⟩
theorem al4(hn:nb<=44/\P<=6):CL L 248 [.agg [AN S,AN nb,AN P]] h λv AA=>v=AN (nb*P)/\K0 h AA:=by have hm:nb*P<=44*6:=NB hn.1 hn.2;refine Aj L X.f248 λQ x cs G=>?_;refine ret X.f248.1 ?_;exact⟨rfl,AH⟩
theorem Aax{x:BI}(hn:nb<=44/\P<=6/\S<=1000):CL L 210 [.agg [AN S,AN nb,AN P],.agg (A2 x)] h λv AA=>v= .bool (decide (Sf S (nb*P) x))/\K0 h AA:=by
 obtain⟨a,b⟩:=x;have hT:(0<=a/\a<S/\ -1<=b/\b<((nb*P:Nat):Int))->decide (Sf S (nb*P) (a,b))=true:=λq=>CM q;have hF:¬(0<=a/\a<S/\ -1<=b/\b<((nb*P:Nat):Int))->decide (Sf S (nb*P) (a,b))=false:=λq=>CW q;obtain⟨T,X5⟩:∃T,nb*P=T:=⟨_,rfl⟩;rw[X5]at hT hF ⊢;by_cases q0:a<0;.rw[hF om];refine Ad L X.f210 λQ x cs G=>?_;refine ret X.f210.1 ?_;exact⟨rfl,AH⟩
 by_cases q1:(S:Int)<=a;.rw[hF om];refine Ad L X.f210 λQ x cs G=>?_;refine ret X.f210.1 ?_;exact⟨rfl,AH⟩
 by_cases q2:b< -1;.rw[hF om];refine Ad L X.f210 λQ x cs G=>?_;refine ret X.f210.1 ?_;exact⟨rfl,AH⟩
 by_cases q3:(T:Int)<=b;.rw[hF om];exact yc
 .rw[hT om];exact yc
def QO(S T:Nat)(A:DM)(x:BI):Prop:=Sf S T x/\¬wU A x
structure Yy (S T:Nat)(A:DM):Prop where
 rg:∀s p,A s=some p->0<=s/\s<S/\0<=p/\p<(T:Int)
 inj:∀s EU p,A s=some p->A EU=some p->s=EU
theorem Yy.set{T:Nat}{A:DM}{x:BI}(q:Yy S T A)(k:QO S T A x):Yy S T (C9 A x):=by
 obtain⟨⟨f1,f2,f3,f4⟩,hb⟩:=k;have key:∀s p,C9 A x s=some p->(s=x.1/\p=x.2/\0<=x.2)\/(s≠x.1/\A s=some p):=by
  intro s p e;unfold C9 at e;by_cases e1:s=x.1
  .rw[AP e1]at e;by_cases e2:0<=x.2;.rw[AP e2]at e;cases e;exact .inl ⟨e1,rfl,e2⟩
   .rw[AM e2]at e;cases e
  .rw[AM e1]at e;exact .inr ⟨e1,e⟩
 refine⟨λs p e=>?_,λs EU p e BG=>?_⟩
 .rcases key s p e with⟨rfl,rfl,h3⟩|⟨h1,h2⟩;.exact⟨f1,f2,h3,f4⟩
  .exact q.rg s p h2
 .rcases key s p e with⟨h1,h2,h3⟩|⟨h1,h2⟩<;>rcases key EU p BG with⟨g1,g2,g3⟩|⟨g1,g2⟩;.rw[h1,g1]
  .exact absurd ⟨EU,by rw[<-h2];exact g2,g1⟩ hb
  .exact absurd ⟨s,by rw[<-g2];exact h2,h1⟩ hb
  .exact q.inj s EU p h2 g2
def GB(A:DM)(l:List BI)(i:Nat):DM:=(l.take i).foldl C9 A
theorem Sn{A:DM}{l:List BI}{x:BI}(h:l[i]?=some x):GB A l (i+1)=C9 (GB A l i) x:=by unfold GB;rw[LO,h,jP];rfl
theorem Yy.st{S T:Nat}{A:DM}{l:List BI}(q:Yy S T A):∀i,i<=l.length->(∀j x,j<i->l[j]?=some x->QO S T (GB A l j) x)->Yy S T (GB A l i)
 |0,_,_=>q
 |i+1,h,k=>by have hx:l[i]?=some l[i]:=DA om;rw[Sn hx];exact(q.st i om λj x hj=>k j x om).set (k i _ om hx)
def rm(A:DM)(x:BI):BI:=(x.1,(A x.1).getD (-1))
def So(A:DM)(l:List BI)(i:Nat):List BI:=(List.range i).map λj=>rm (GB A l j) (l.getD j (0,0))
theorem E2(A:DM)(l:List BI)(i:Nat):(So A l i).length=i:=by simp[So]
theorem al5{A:DM}{l:List BI}{x:BI}(h:l[i]?=some x):So A l (i+1)=So A l i++[rm (GB A l i) x]:=by simp[So,WQ,MZ,h]
theorem II.inv{A:DM}(q:II S nb P h m r1 r2 vb A):Yy S (nb*P) A:=⟨q.rg,λs EU p e BG=>q.inj e BG⟩
section
variable {l:CJ}{x z w:O}{size:Nat}
theorem rC{j k:IntKind}(e:AU l x=some .AS)(e1:AU l z=some (.int j ((0:Nat):Int)))(e2:AU l w=some (.int k ((0:Nat):Int))):XV (.XS size x none (some z) (some w)) h l .AS h:=by refine⟨?_⟩;have g1:Ei (AJ l) none=some none:=rfl;simp only[exec,Ak,g1,(QV.gE e1).opt,(QV.gE e2).opt,Ac e];rfl
end
theorem zq5(h:p:=by
 refine wk ?_
 (apply B4 rfl rfl;exact Ek (KE.int .i64) rfl rfl CH)
 rw[g1]
 refine wk ?_
 (apply Nf L rfl rfl;exact Md (KE.int .i64) o1 rfl rfl CH)
 refine wk ?_
 (apply Kk L rfl;exact Md (KE.int .i64) o2 rfl rfl CH;rfl)
 refine wk ?_
 (apply H8 L rfl rfl;exact Wd (KE.int .i64) (o1.del _) rfl rfl CH)
 refine wk ?_
 (apply Nf L rfl rfl;exact Nd (k:=a) (o1.del _) rfl rfl rfl CH)
 refine wk ?_
 (apply H8 L rfl rfl;exact Wd (KE.int .i64) (o2.del _) rfl rfl CH)
 refine wk ?_
 (apply Nf L rfl rfl;exact Nd (k:=(b:Int)) (o2.del _) rfl rfl rfl CH)
 refine ret X.f163.1 ?_
 exact⟨rfl,⟨AG,⟨n1,n2,n3,n4,n5,n6⟩,qi,nz,_,_,_,_,_,CH,(o1.del _).set _ _,CH,(o2.del _).set _ _,AG,(by simp[vl]),qn,qS⟩,AH⟩):p:=h
theorem ac3{A:DM}{x:BI}(q:II S nb P h m r1 r2 vb A)(hf:Sf S (nb*P) x)(hb:¬wU A x):CL L 163 [.ptr m 0,.agg (A2 x)] h λv AA=>v= .BM []/\II S nb P AA m r1 r2 vb (C9 A x)/\Kp (λj=>j=r1\/j=r2\/j=vb) h AA:=by
 obtain⟨km,⟨n1,n2,n3,n4,n5,n6⟩,rg,nz,M1,M2,c1,c2,cv,k1,o1,k2,o2,kv,vl,vv,mr⟩:=q;obtain⟨a,b⟩:=x;have ai6:=hf;obtain⟨f1,f2,f3,f4⟩:=hf;simp only at f1 f2 f3 f4;have hm:nb*P<=44*6:=NB nz.2.1 nz.2.2.2.1;show CL L 163 [.ptr m 0,.agg [AI a,AI b]] h _;refine Ad L X.f163 λQ x cs G=>?_;refine AK ?_ (c:=Aax L (S:=S) (nb:=nb) (P:=P) (x:=(a,b)) ⟨nz.2.1,nz.2.2.2.1,nz.2.2.2.2⟩);rintro _ h2 ⟨rfl,w1⟩;have m1:=w1.n;simp only[Ag]at m1;rw[CM ai6];refine AK ?_ (c:=Uz L);rintro _ rfl;have hs:(A9 M2 b=none/\∀s,A s≠some b)\/(A9 M2 b=some (AI a)/\A a=some b):=by
  cases hg:A9 M2 b with
  |none=>exact .inl ⟨rfl,λs e=>by rw[mr.a2 s b e]at hg;cases hg⟩
  |some u=>obtain⟨s,rfl,e2⟩:=mr.a3 b u hg;have:s=a:=Classical.byContradiction λe=>hb ⟨s,e2,e⟩;subst this;exact .inr ⟨rfl,e2⟩
 have ha:(A9 M1 a=none/\A a=none)\/∃p:Nat,A9 M1 a=some (AN p)/\A a=some (p:Int)/\p<nb*P:=by
  have h1:=mr.a1 a
  cases hA:A a with
  |none=>rw[hA]at h1;exact .inl ⟨h1,rfl⟩
  |some p=>rw[hA]at h1;obtain⟨-,-,g3,g4⟩:=rg a p hA;have g5:(p.toNat:Int)=p:=nH g3;exact .inr ⟨p.toNat,h1.trans (HT (λz:Int=>some (AI z)) g5.symm),by rw[g5],om⟩
 have qi:∀s p,C9 A (a,b) s=some p->0<=s/\s<S/\0<=p/\p<((nb*P:Nat):Int):=by
  intro s p e;unfold C9 at e;by_cases e1:s=a
  .rw[AP e1]at e;by_cases e2:0<=b;.rw[AP e2]at e;cases e;exact⟨om,om,e2,f4⟩
   .rw[AM e2]at e;cases e
  .rw[AM e1]at e;exact rg s p e
 have hP:0<P:=om
 have uL:=Wm A P;have aca:∀p:Nat,A a=some (p:Int)->p<nb*P->0<GT A P (p/P)/\∀i,i<nb->(cv.set (p/P) (AN (GT A P (p/P)- 1)))[i]?=some (AN (GT (Fe A a) P i)):=by
  intro p hp BX;have hq:p/P<nb:=Se BX;have inj:∀s,A s=some (p:Int)->s=a:=λs hs=>mr.inj hs hp;have e0:=Sg (i:=p/P) hP hp inj;rw[AP rfl]at e0;refine⟨om,λi hi=>?_⟩;have e1:=Sg (i:=i) hP hp inj;by_cases e:p/P=i;.rw[AP e]at e1;subst e;rw[QS om,e1];rfl
  .rw[AM e]at e1;rw[GH e,vv i hi,e1];rfl
 have abz:∀(B:DM) (cw:List AV) (b:Nat),B a=none->(∀s,B s≠some (b:Int))->b<nb*P->cw.length=nb->(∀i,i<nb->cw[i]?=some (AN (GT B P i)))->∀i,i<nb->(cw.set (b/P) (AN (GT B P (b/P)+1)))[i]?=some (AI ((GT (C9 B (a,(b:Int))) P i:Nat):Int)):=by
  intro B cw b h1 h2 h3 h4 h5 i hi;have hq:b/P<nb:=Se h3;have e1:=Aad (i:=i) hP h1 h2;by_cases e:b/P=i;.rw[AP e]at e1;subst e;rw[QS om,e1]
  .rw[AM e]at e1;rw[GH e,h5 i hi,e1];rfl
 by_cases YJ:0<=b
 .obtain⟨b,rfl⟩:∃AR:Nat,b=(AR:Int):=⟨b.toNat,om⟩;have tz:b/P<nb:=Se om;rcases ha with⟨g1,ha⟩|⟨p,g1,ha,hp⟩
  .rcases hs with⟨g2,hs⟩|⟨g2,hs⟩;rotate_left;.rw[ha]at hs;cases hs
   have hz:=vv _ tz;have aex:=uL (b/P);have qn:=abz A cv b ha hs om vl vv;have qS:=mr.ins (x:=(a,(b:Int))) (c1:=c1) (c2:=c2) YJ ha hs;refine wk ?_;(apply B4 rfl rfl;exact Ek (KE.int .i64) rfl rfl CH);rw[g2];refine wk ?_;(apply B4 rfl rfl;exact Ek (KE.int .i64) rfl rfl CH);rw[g1];refine wk ?_;(apply H8 L rfl rfl;exact Wd (KE.int .i64) o1 rfl rfl CH);refine wk ?_;(apply Nf L rfl rfl;exact Nd (k:=a) o1 rfl rfl rfl CH);refine wk ?_;(apply H8 L rfl rfl;exact Wd (KE.int .i64) o2 rfl rfl CH);refine wk ?_;(apply Nf L rfl rfl;exact Nd (k:=(b:Int)) o2 rfl rfl rfl CH);refine ret X.f163.1 ?_;exact⟨rfl,⟨AG,⟨n1,n2,n3,n4,n5,n6⟩,qi,nz,_,_,_,_,_,CH,o1.set _ _,CH,o2.set _ _,AG,(by simp[vl]),qn,qS⟩,AH⟩
  .have uA:p/P<nb:=Se hp;have hz:=vv _ uA;obtain⟨HM,qp⟩:=aca p ha hp;have aex:=uL (p/P);have hy:=qp _ tz;have aqv:=Wm (Fe A a) P (b/P);have UK:b/P<(cv.set (p/P) (AN (GT A P (p/P)- 1))).length:=(by rw[LQ,vl];exact tz);have hm0:∀s,Fe A a s≠some (b:Int):=by
    intro s e;unfold Fe at e;by_cases e1:s=a;.rw[AP e1]at e;cases e
    .rw[AM e1]at e;exact hb ⟨s,e,e1⟩
   have qn:=abz (Fe A a) (cv.set (p/P) (AN (GT A P (p/P)- 1))) b (by unfold Fe;rw[AP rfl]) hm0 om (by simp[vl]) qp;rw[show C9 (Fe A a) (a,(b:Int))=C9 A (a,(b:Int))from aah A (a,(b:Int))]at qn;have qS:=(mr.rem ha).ins (x:=(a,(b:Int))) (c1:=c1) (c2:=c2) YJ (by unfold Fe;rw[AP rfl]) hm0;rw[show C9 (Fe A a) (a,(b:Int))=C9 A (a,(b:Int))from aah A (a,(b:Int))]at qS;rcases hs with⟨g2,hs⟩|⟨g2,hs⟩;.refine wk ?_;(apply B4 rfl rfl;exact Ek (KE.int .i64) rfl rfl CH);rw[g2];exact zq5
   .refine wk ?_;(apply B4 rfl rfl;exact Ek (KE.int .i64) rfl rfl CH);rw[g2];refine AK ?_ (c:=Uz L);rintro _ rfl;exact zq5
 .rcases hs with⟨g2,hs⟩|⟨g2,hs⟩;rotate_left;.exact absurd (rg _ _ hs).2.2.1 YJ
  rcases ha with⟨g1,ha⟩|⟨p,g1,ha,hp⟩;.rw[show C9 A (a,b)=A by rw[aag YJ];exact alq ha]at*;refine wk ?_;(apply B4 rfl rfl;exact Ek (KE.int .i64) rfl rfl CH);rw[g2];refine wk ?_;(apply B4 rfl rfl;exact Ek (KE.int .i64) rfl rfl CH);rw[g1];refine ret X.f163.1 ?_;exact⟨rfl,⟨AG,⟨n1,n2,n3,n4,n5,n6⟩,qi,nz,_,_,_,_,_,CH,o1,CH,o2,AG,vl,vv,mr⟩,AH⟩
  .have uA:p/P<nb:=Se hp;have hz:=vv _ uA;obtain⟨HM,qp⟩:=aca p ha hp;have aex:=uL (p/P);rw[show C9 A (a,b)=Fe A a from aag YJ]at*;refine wk ?_;(apply B4 rfl rfl;exact Ek (KE.int .i64) rfl rfl CH);rw[g2];refine wk ?_;(apply B4 rfl rfl;exact Ek (KE.int .i64) rfl rfl CH);rw[g1];refine wk ?_;(apply Nf L rfl rfl;exact Md (KE.int .i64) o1 rfl rfl CH);refine wk ?_;(apply Kk L rfl;exact Md (KE.int .i64) o2 rfl rfl CH;rfl);refine ret X.f163.1 ?_;exact⟨rfl,⟨AG,⟨n1,n2,n3,n4,n5,n6⟩,qi,nz,_,_,_,_,_,CH,o1.del _,CH,o2.del _,AG,(by simp[vl]),qp,mr.rem ha⟩,AH⟩
theorem yd(h:p:=by
 refine wk ?_
 refine ih _ _ _ ⟨w1.kp (B:=λj=>j=h.n+3\/j=h.n+4) AH om om om om,AG,AG,AG,AG,AG,?_,by simp only[Ag];omega,AH⟩ BA
 rw[uN]
 exact EL.app (l:=So A es i) uc om (E2 _ _ _)):p:=h
theorem yg(h:p:=by
 refine wk ?_
 refine ih _ _ _ ⟨w1.kp (B:=λj=>j=h.n+3\/j=h.n+4) AH om om om om,AG,AG,AG,AG,AG,?_,by simp only[Ag];omega,AH⟩ BA
 rw[uN,e0,RV]
 exact EL.app (l:=[]) uc om rfl):p:=h
theorem O3{lo:Nat}{A:DM}{es:List BI}{lv:AV}(q:II S nb P h m r1 r2 vb A)(hl:EL h lo lv es)(hlen:es.length<=950000000)(HX:∀b n c,lv= .AE b 0 n c->b≠r1/\b≠r2/\b≠vb/\b≠m)(ES:∀j x,es[j]?=some x->QO S (nb*P) (GB A es j) x):CL L 135 [.ptr m 0,lv] h λv AA=>v=Zi/\Kp (λj=>j=r1\/j=r2\/j=vb) h AA/\II S nb P AA m r1 r2 vb (GB A es es.length):=by
 have lq:=q.lt;have RJ:=hl.len;rcases RJ with⟨rfl,rfl⟩|⟨HM,lb,rfl,g5,g6⟩;.have km:=q.km;refine Ad L X.f135 λQ x cs G=>?_;refine AK ?_ (c:=Sl L (c0:=AN S) (c1:=AN nb) (c2:=AN P) (r1:=r1) (rest:=[.map r2,.AE vb 0 nb nb]) AG);rintro _ rfl;refine wk ?_;refine Ha L rfl rfl rfl rfl ?_;refine wk ?_;refine Bi L ?_;refine wk ?_;refine Fd L (todo:=[]) ?_;refine Co L W1 X.f162.1 rfl rfl rfl ?_;refine Dt L rfl ?_;refine wk ?_;refine BO L (Ki (k:=true) rfl rfl) ?_;refine wk ?_;refine Hc L X.f162.1 rfl ?_;refine C1 L X.f135.1 (Bw (b:=h.n+2) rfl (Bk.e AG) rfl E7) G ⟨rfl,AH,q.k0 AH⟩
 have l5:=g5.lt;have oz:=HX lb _ _ rfl;have km:=q.km;refine Ad L X.f135 λQ x cs G=>?_;refine AK ?_ (c:=Sl L (c0:=AN S) (c1:=AN nb) (c2:=AN P) (r1:=r1) (rest:=[.map r2,.AE vb 0 nb nb]) AG);rintro _ rfl;refine wk ?_;refine Ha L rfl rfl rfl rfl ?_;refine wk ?_;refine Bt L (α:=AV) (T:=λi v=>[(17,some (AN i)),(16,some (AN es.length)),(15,some (.AE lb 0 es.length (Aa+2))),(2,some (.ptr h.n 0)),(4,some (.ptr (h.n+2) 0)),(5,some (.ptr (h.n+3) 0)),(6,some (.ptr (h.n+4) 0))]) (n:=es.length) (R:=λi v h2=>II S nb P h2 m r1 r2 vb (GB A es i)/\Bk h2 h.n [.ptr m 0]/\Bk h2 (h.n+1) [.AE lb 0 es.length (Aa+2)]/\Bk h2 (h.n+2) [Zi]/\Bk h2 (h.n+3) [AN i]/\Bk h2 (h.n+4) [v]/\EL h2 (h.n+5) v (So A es i)/\h.n+5<=h2.n/\Kp (λj=>j=r1\/j=r2\/j=vb) h h2) (i0:=0) .AS BA ⟨q.k0 AH,AG,AG,AG,AG,AG,EL.nil _ _,BD _,AH⟩ (CN _) ?_ ?_
 .rintro i v h2 hi ⟨u1,u3,u4,u5,u6,u7,u8,u9,u10⟩ ih;have hx:es[i]?=some es[i]:=DA hi;have DF:=A7 es (Io es) i _ hx;have g5':Bk h2 lb (es.flatMap A2):=Ao u10 om g5;have lu:=u1.lt;have pD:=ES i _ hx;have u1':=u1;obtain⟨km2,⟨n1,n2,n3,n4,n5,n6⟩,rg,nz,M1,M2,c1,c2,cv,⟨k1,o1,k2,o2,kv,vl,vv,mr⟩⟩:=u1';have gR:=mr.a1 es[i].1;rw[Sn hx,al5 hx]at ih;generalize dz:es[i]=x at*;obtain⟨xa,xb⟩:=x;have HV:i*2+2<=(es.flatMap A2).length/\((es.flatMap A2).drop (i*2)).take 2=[AI xa,AI xb]:=DF;have hw2:∀b n c,v= .AE b 0 n c->b≠h.n+1+1:=by
   intro b n c e;rcases u8.ex with⟨_,rfl⟩|⟨_,AR,rfl,_,h5⟩;.cases e
   .cases e;omega
  simp only at gR;rcases hB:GB A es i xa with _|p
  .rw[hB]at gR;have uN:rm (GB A es i) (xa,xb)=(xa,-1):=(by unfold rm;rw[hB];rfl);refine wk ?_;refine BO L (A0 g5'.rk HV rfl) ?_;refine wk ?_;(apply B4 rfl rfl;exact Ek (KE.int .i64) rfl rfl CH);rw[gR];refine AK ?_ (c:=ac3 L (x:=(xa,xb)) (u1.k0 AH) pD.1 pD.2);rintro _ h3 ⟨rfl,w1,w2⟩;have n3:=w2.n;simp only[Ag]at n3;rcases u8.len with⟨e0,rfl⟩|⟨gn,wb,rfl,g7,g8⟩
   .obtain rfl:i=0:=by have:=E2 A es i;rw[e0]at this;simpa using this.symm
    refine wk ?_;(apply B4 rfl rfl;exact rC rfl rfl rfl);refine wk ?_;(apply H8 L rfl rfl;exact D1 (new:=A2 (xa,-1)) rfl rfl (CG.of (c:=A2 (xa,-1)) AG (BD _) rfl) om om);exact yg
   .have g9:=g7.lt;rw[E2]at*;refine wk ?_;(apply H8 L rfl rfl;exact z9 (old:=(So A es i).flatMap A2) (new:=A2 (xa,-1)) rfl rfl (CG.of (c:=(So A es i).flatMap A2) AG (by rw[Bm,E2];omega) k1f) (CG.of (c:=A2 (xa,-1)) AG (BD _) rfl) om mD om);exact yd
  .rw[hB]at gR;have uN:rm (GB A es i) (xa,xb)=(xa,p):=(by unfold rm;rw[hB];rfl);refine wk ?_;refine BO L (A0 g5'.rk HV rfl) ?_;refine wk ?_;(apply B4 rfl rfl;exact Ek (KE.int .i64) rfl rfl CH);rw[gR];refine AK ?_ (c:=ac3 L (x:=(xa,xb)) (u1.k0 AH) pD.1 pD.2);rintro _ h3 ⟨rfl,w1,w2⟩;have n3:=w2.n;simp only[Ag]at n3;rcases u8.len with⟨e0,rfl⟩|⟨gn,wb,rfl,g7,g8⟩
   .obtain rfl:i=0:=by have:=E2 A es i;rw[e0]at this;simpa using this.symm
    refine wk ?_;(apply B4 rfl rfl;exact rC rfl rfl rfl);refine wk ?_;(apply H8 L rfl rfl;exact D1 (new:=A2 (xa,p)) rfl rfl (CG.of (c:=A2 (xa,p)) AG (BD _) rfl) om om);exact yg
   .have g9:=g7.lt;rw[E2]at*;refine wk ?_;(apply H8 L rfl rfl;exact z9 (old:=(So A es i).flatMap A2) (new:=A2 (xa,p)) rfl rfl (CG.of (c:=(So A es i).flatMap A2) AG (by rw[Bm,E2];omega) k1f) (CG.of (c:=A2 (xa,p)) AG (BD _) rfl) om mD om);exact yd
 .rintro v h2 ⟨u1,u3,u4,u5,u6,u7,u8,u9,u10⟩;refine wk ?_;refine Fd L (todo:=[]) ?_;refine Co L W1 X.f162.1 rfl rfl rfl ?_;refine Dt L rfl ?_;refine wk ?_;refine BO L (Ki (k:=true) rfl rfl) ?_;refine wk ?_;refine Hc L X.f162.1 rfl ?_;refine C1 L X.f135.1 (Bw (b:=h.n+2) rfl (Bk.e AG) rfl E7) G ⟨rfl,AH,u1.kp (B:=λj=>j=h.n+2) AH om om om om⟩
open Go.Sort
theorem HR.aij{w0:Array Obj}{AC:BF}{m:Array Obj}(hr:HR E w0 AC h m)(os:Array Obj):HR E w0 AC h (m++os):=by
 have hg:∀k,k<m.size->(m++os)[k]?=m[k]?:=λk hk=>by simp[Array.getElem?_append,hk]
 refine⟨hr.bound,λb l hb=>?_,λb l x hb hx=>?_,hr.inj,hr.own,λcb hc=>?_,?_⟩;.have:=hr.SG b l hb;simp;omega
 .obtain⟨o,h1,h2⟩:=hr.FH b l x hb hx;exact⟨o,by rw[hg _ (hr.SG b l hb)];exact h1,h2⟩
 .rw[hg _ (IF hc hr.size)];exact hr.old cb hc
 .have:=hr.size;simp;omega
abbrev zI(z:Int):AV:= .int .i64 z
def Dn(zs:List Int):List Int:=zs.mergeSort λx y=>decide (x<=y)
theorem E3(zs:List Int):(Dn zs).length=zs.length:=List.length_mergeSort _
theorem Ak3{P:Program}(hs:∀(FH off cap:Nat) (zs:List Int) (w:World),Holds (Value.int .i64) w FH off zs.toArray->FH<w.heap.size->zs.length<4611686018427387904->Calls P f #[.slice (some ⟨FH,off,none⟩) zs.length cap] w λe AY=>e= .returned (.tuple #[])/\∃n os,AY=grow (putRow (Value.int .i64) (Sort.ahead w n) FH off (Dn zs).toArray) os)  {b:Nat}{zs:List Int}(k:Bk h b (zs.map zI))(HM:0<zs.length)(hlen:zs.length<100000):gB P E f [.AE b 0 zs.length (Aa+1)] h λv AA=>v= .BM []/\Bk AA b ((Dn zs).map zI)/\Kp (λj=>j=b) h AA:=by
 intro AC w0 w GP oX hW;obtain⟨hr,YZ⟩:=hW;obtain⟨arr⟩:=GP;have h1:∃l c off,AC b=some l/\off=l.base/\arr=[.slice (some ⟨l.cb,off,none⟩) zs.length c]:=by
  cases oX with
  |cons hv ht=>
   cases ht;generalize hcp:Aa+1=cp at hv
   cases hv with
   |WE h1 h2 h3 h4=>exact absurd h2 om
   |XQ h1 h2 h3 h4=>exact⟨_,_,_,h1,h4 HM,rfl⟩
 obtain⟨l,c,off,BY,rfl,rfl⟩:=h1;obtain⟨cs,e,g1,g2,g3,g4⟩:=hr.sE BY k.e;have YM:=hr.SG _ _ BY;rw[DC]at g3;have aK:∀j z,zs[j]?=some z->cs[l.base+j]?=some (Value.int .i64 z):=by
  intro j z hz;obtain⟨AQ,h5,h6⟩:=g4 j (zI z) (by rw[DC];exact(FE.1 hz).1) (by rw[G8];simp[hz])
  cases h6;exact h5
 have aio:Holds (Value.int .i64) w l.cb l.base zs.toArray:=by
  intro j hj;have NI:j<zs.length:=by simpa using hj
  refine⟨?_,by simp[World.frozen?,g1]⟩;simp only[World.cell?,g1];simp only[Option.isSome_none,RR,KS];rw[aK j zs[j] (DA NI)];simp[NI]
 refine(hs l.cb l.base c zs w aio YM om).mono ?_;rintro e9 AY ⟨rfl,n,os,rfl⟩;refine⟨.BM [],.tuple #[],AC,H.set h b (cl ((Dn zs).map zI)),rfl,⟨rfl,⟨?_,k.lt⟩,?_⟩,λ_ _ h=>h,.BM .nil,?_⟩;.rw[H.MH,AP rfl]
 .exact⟨BD _,λj hj BZ=>by rw[H.MH,AM BZ]⟩
 .have KO:(DV.cells false ((zs.map zI).length) (JI 0 .leaf (zs.map zI)))=cl (zs.map zI):=rfl;have hov:=hr.cJ (Cb:=cl ((Dn zs).map zI)) (EG:= .cells (putCells (Value.int .i64) l.base (Dn zs).toArray cs) e (0,0)) BY k.e rfl (.cells (λ_=>rfl) (by simp[putCells,g2]) (by simp[putCells,E3];exact g3) ?_) rfl
  .have hh:(putRow (Value.int .i64) (Sort.ahead w n) l.cb l.base (Dn zs).toArray).heap=w.heap.setIfInBounds l.cb (.cells (putCells (Value.int .i64) l.base (Dn zs).toArray cs) e (0,0)):=by
    apply Array.ext_getElem?;intro i;simp only[putRow,mapBlock,Sort.ahead,Array.getElem?_modify,SR];by_cases hi:l.cb=i;.subst hi;have g0:w.heap[l.cb]=Obj.cells cs e (0,0):=(fY.1 g1).2;simp[g0,onCells,YM]
    .simp[hi]
   refine⟨?_,YZ.trans ⟨rfl,rfl,rfl⟩⟩;show HR E w0.heap AC _ ((putRow (Value.int .i64) (Sort.ahead w n) l.cb l.base (Dn zs).toArray).heap++os);rw[hh];exact hov.aij os
  .intro i v hi hv;rw[G8]at hv;rw[DC,E3]at hi;rw[GD,Xs]at hv;obtain⟨z,hz,rfl⟩:=hv;refine⟨Value.int .i64 z,?_,.int _ _⟩;obtain⟨ZK,aM⟩:=FE.1 hz;have FO:l.base+i<cs.size:=om;simp only[putCells,Array.getElem?_mapIdx,SU FO,KR];rw[AP (by simp[E3];omega)];have:l.base+i- l.base=i:=om;rw[this];simp[ZK,aM]
theorem Aft{P:Program}(hs:∀(p:Option Addr) (cap:Nat) (w:World),Calls P f #[.slice p 0 cap] w λe AY=>e= .returned (.tuple #[])/\AY=w):gB P E f [.AS] h λv AA=>v= .BM []/\AA=h:=by
 intro AC w0 w GP oX hW;obtain⟨arr⟩:=GP;have h1:∃p c,arr=[.slice p 0 c]:=by
  cases oX with
  |cons hv ht=>cases ht;cases hv;exact⟨_,_,rfl⟩
 obtain⟨p,c,rfl⟩:=h1;refine(hs p c w).mono ?_;rintro e9 AY ⟨rfl,rfl⟩;exact⟨.BM [],.tuple #[],AC,h,rfl,⟨rfl,rfl⟩,λ_ _ h=>h,.BM .nil,hW⟩
class Yz (P:Program)(E:Env)(F:T DY)(f:Nat):Prop where
 g:∃g0,T.get F f=some g0
 x:∀(h:H) (b:Nat) (zs:List Int),Bk h b (zs.map zI)->0<zs.length->zs.length<100000->gB P E f [.AE b 0 zs.length (Aa+1)] h λv AA=>v= .BM []/\Bk AA b ((Dn zs).map zI)/\Kp (λj=>j=b) h AA
 x0:∀h:H,gB P E f [.AS] h λv AA=>v= .BM []/\AA=h
end
section
variable [U:Yz P0 E F 208]
variable {D:List Int}{M M1 M2:OJ}{P S ck lo lp m mb nb r1 r2 vb:Nat}{h AA:H}{p:Prop}{v:AV}
section
variable {P:Program}{Q:Nat->AV->Prop}
variable {fn nt:Nat}{l:CJ}{k:DO}{ds:List HN}{AL:Bool}{ro:Option Nat}{cs:FM}
include L in
theorem Wr{α:Type}{bd:CC}(T:α->CJ)(mu:α->Nat)(R:α->H->Prop)(s0:α){h0:H}(hT:FY (AJ (T s0)) (AJ l))(hR:R s0 h0)(body:∀s h,R s h->(∀EU AA AT,mu EU<mu s->R EU AA->FY (AJ (T EU)) (AJ AT)->Good P0 E Q ⟨⟨fn,nt,AJ AT,.inLoop bd::k,ds,.run,AL,ro⟩,cs,AA⟩)->Good P0 E Q ⟨⟨fn,nt,AJ (T s),.code bd:: .inLoop bd::k,ds,.run,AL,ro⟩,cs,hp h.n h.t []⟩):Good P0 E Q ⟨⟨fn,nt,AJ l,.code (.loop bd)::k,ds,.run,AL,ro⟩,cs,h0⟩:=by
 have main:∀m s h,mu s<=m->R s h->Good P0 E Q ⟨⟨fn,nt,AJ (T s),.code bd:: .inLoop bd::k,ds,.run,AL,ro⟩,cs,hp h.n h.t []⟩:=by
  intro m;induction m with
  |zero=>intro s h e hR;exact body s h hR λEU AA AT BX oT X5=>absurd BX om
  |succ m ih=>intro s h e hR;exact body s h hR λEU AA AT BX oT X5=>Bs L (D0 L X5 (ih EU AA om oT))
 exact Bi L (D0 L hT (main (mu s0) s0 h0 (BD _) hR))
end
theorem Ws{α:Type}{p q:α->Bool}(h:∀x,q x=true->p x=true):∀(M:List α) (y:α),y∈M->p y=true->q y=false->(M.filter q).length<(M.filter p).length
 | [],y,hy,_,_=>by cases hy
 |x::r,y,hy,hp,hq=>by
  have le:(r.filter q).length<=(r.filter p).length:=by
   clear hy;induction r with
   |nil=>exact BD _
   |cons z r ih=>
    rw[RT,RT];by_cases e:q z=true;.rw[AP e,AP (h z e),FX,FX];omega
    .rw[AM e];split;.rw[FX];omega
     .exact ih
  rw[RT,RT];rcases DD.1 hy with rfl|hy;.rw[AP hp,AM (by rw[hq];simp),FX];omega
  .have:=Ws h r y hy hp hq;by_cases e:q x=true;.rw[AP e,AP (h x e),FX,FX];omega
   .rw[AM e];split;.rw[FX];omega
    .exact this
section
variable {α:Type}{M Y:List (α×AV×Nat)}
def eR(M Y:List (α×AV×Nat)):Nat:=(M.filter λx=>decide (x.2.2∉Y.map (·.2.2))).length
theorem dp{y:α×AV×Nat}(hy:y∈M)(hn:y.2.2∉Y.map (·.2.2)):eR M (Y++[y])<eR M Y:=by refine Ws (λx hx=>?_) M y hy (CM hn) W0;simp only[IG,GU,not_or,LP]at hx ⊢;exact hx.1
theorem O4(q:EP M ck)(hY:∀y∈Y,y∈M)(nd:(Y.map (·.2.2)).Nodup)(all:∀y∈M,y.2.2∈Y.map (·.2.2)):Y.Perm M:=by
 have inj:∀(L:List (α×AV×Nat)),(L.map (·.2.2)).Nodup->∀a∈L,∀b∈L,a.2.2=b.2.2->a=b:=by
  intro L;induction L with
  |nil=>intro _ a ha;cases ha
  |cons c L ih=>exact yI
 have ndl:∀(L:List (α×AV×Nat)),(L.map (·.2.2)).Nodup->L.Nodup:=by
  intro L;induction L with
  |nil=>intro _;exact fT
  |cons c L ih=>intro hn;rw[FU,RU]at hn;exact RU.2 ⟨λh=>hn.1 (RQ h),ih hn.2⟩
 refine(List.perm_ext_iff_of_nodup (ndl Y nd) (ndl M q.bH)).2 λa=>⟨hY a,λha=>?_⟩;obtain⟨b,hb,e⟩:=DK.1 (all a ha);rw[<-inj M q.bH b (hY b hb) a ha e];exact hb
theorem vz{y:α×AV×Nat}(nd:(Y.map (·.2.2)).Nodup)(hn:y.2.2∉Y.map (·.2.2)):((Y++[y]).map (·.2.2)).Nodup:=by rw[IG,fM];refine⟨nd,by simp,λa ha b hb e=>hn ?_⟩;simp only[FU,Zb,EV]at hb;rw[<-hb,<-e];exact ha
end
theorem zq8(h:p:=by
 intro y hy hn
 have XE:=dp hy hn
 refine wk ?_
 refine BO L (acv q rfl CS CH hy) ?_
 refine wk ?_
 refine Jv L rfl rfl rfl rfl rfl (hY _ y.1 _ (hK _ _ _ i1 za) (by rw[DC];omega) Ze) ?_
 rintro _ h3 ⟨rfl,w1,w2,w3⟩
 simp only[Ag]at w2
 refine wk ?_
 refine ih (Y++[y]) _ _ (dp hy hn) ⟨?_,?_,?_,vz i4 hn,by simp only[Ag];omega,by rw[DX,nG];omega⟩ BA
 .rw[IG];exact hK _ _ _ w1 AH
 .rw[IG];exact w3 _ XJ
 .intro z hz
  rcases GU.1 hz with hz|hz
  .exact i3 z hz
  .rw[EV.1 hz];exact hy):p:=h
theorem Aa0(q:EP M ck)(I:List Int->H->Prop)(hI:∀S hh,I S hh->Bk hh mb [.map r1]/\Mk hh r1 (M.map (mE AI)) ck)(hK:∀S hh AA,I S hh->Kp (λj=>j=h.n) hh AA->I S AA)(hY:∀S k hh,I S hh->S.length<M.length->h.n<hh.n->SX P0 E F K (.yield lp) [AI k] hh λu AA=>u= .bool true/\I (S++[k]) AA/\hh.n<=AA.n/\(∀x,Gk hh h.n x->Gk AA h.n x))(h0:I [] h):CL L 282 [.fn (.yield lp) [] [],.ptr mb 0] h λv AA=>∃S,List.Perm S (M.map (·.1))/\I S AA:=by
 obtain⟨k1,k2⟩:=hI _ _ h0;refine Ad L X.f282 λQ x cs G=>?_;refine wk ?_;refine BO L (We rfl CH) ?_;refine wk ?_;refine Wr L (α:=OJ) (T:=λY=>[(5,some (.ptr h.n 0)),(0,some (.fn (.yield lp) [] []))]) (mu:=eR M) (R:=λY hh=>I (Y.map (·.1)) hh/\Gk hh h.n (.MX (some r1) ck (Y.map (·.2.2)) ck)/\(∀y∈Y,y∈M)/\(Y.map (·.2.2)).Nodup/\h.n<hh.n/\Y.length+eR M Y<=M.length) [] BA ⟨hK _ _ _ h0 AH,CS,(λy hy=>by cases hy),fT,NQ _,by rw[VB,MD];exact V0 _ _⟩ ?_;rintro Y hh ⟨i1,i2,i3,i4,i5,i6⟩ ih;obtain⟨k3,k4⟩:=hI _ _ i1;refine wk ?_;refine Wf L rfl rfl (M:=M) (enc:=AI) (ck:=ck) (it:=h.n) (m:=r1) (seen:=Y.map (·.2.2)) CS CH q.lt ?_ ?_;.intro JF;refine ret X.f282.1 ?_;exact⟨_,(O4 q i3 i4 JF).map _,hK _ _ _ i1 AH⟩
 .exact zq8
theorem yi(h:p:=by
 have l4:=r4.lt
 refine Hv L (n:=h3.n) (t:=h3.t) (lh:=[]) hle W1 ?_
 refine wk ?_
 refine Fd L (todo:=[]) ?_
 refine Ex L W1 (Gk.e CS) ?_
 refine C1 L X.f286.1 (Fl rfl) G ⟨S,p,AH,?_⟩
 rcases r5 with r5|⟨r5,b,r6,r7,r8⟩
 .exact .inl r5
 .exact .inr ⟨r5,b,r6,by exact AG,om⟩):p:=h
theorem yj(h:p:=by
 obtain⟨r1,r2,r3,v,r4,r5⟩:=r
 simp only[Ag]at k
 have l3:=r4.lt
 refine⟨Kp.DZ k (λi hi e=>om) r1,Jw k om r2,Jw k om r3,v,Ao k om r4,?_⟩
 rcases r5 with r5|⟨r5,b,r6,r7,r8⟩
 .exact .inl r5
 .exact .inr ⟨r5,b,r6,Ao k om r7,r8⟩):p:=h
noncomputable def mU(hn mb:Nat)(st:LS):DV:= .loop ⟨st,none,286,kI.ntmps,AJ [(6,some (.fn (.func 282) [] [.ptr mb 0])),(4,some .AS),(2,some (.ptr hn 0)),(1,some (.fn (.func 282) [] [.ptr mb 0])),(0,some .AS)],[7],vj,vk,hn+1⟩
structure RA (h hh:H)(mb:Nat)(S:List Int):Prop where
 k:K0 h hh
 dk:Gk hh (h.n+1) (.EQ (some []))
 lp:Gk hh (h.n+2) (mU h.n mb .ready)
 ex:∃v,Bk hh h.n [v]/\((S=[]/\v= .AS)\/(0<S.length/\∃b,v= .AE b 0 S.length (Aa+1)/\Bk hh b (S.map AI)/\h.n+4<=b))
theorem al6(q:EP M ck)(k1:Bk h mb [.map r1])(k2:Mk h r1 (M.map (mE AI)) ck)(hlen:M.length<2000):CL L 286 [.AS,.fn (.func 282) [] [.ptr mb 0]] h λv AA=>∃S,List.Perm S (M.map (·.1))/\K0 h AA/\((S=[]/\v= .AS)\/(0<S.length/\∃b,v= .AE b 0 S.length (Aa+1)/\Bk AA b (S.map AI)/\h.n<=b)):=by
 have l1:=k1.lt;refine Ad L X.f286 λQ x cs G=>?_;refine wk ?_;refine Ew L (post:=λ_ AA=>∃S,List.Perm S (M.map (·.1))/\RA h AA mb S) rfl rfl rfl ?_ ?_
 .refine Ct.A ((Aa0 L q (λS hh=>RA h hh mb S) (λS hh r=>⟨Ab r.k k1,Sa r.k k2⟩) (λS hh AA r k=>?_) (λS z hh r hSl BX=>?_) ⟨AH,CS,CS,.AS,AG,.inl ⟨rfl,rfl⟩⟩).mono λv AA p=>p);.exact yj
  .obtain⟨r1,r2,r3,v,r4,r5⟩:=r;simp only[Ag]at BX;have l3:=r4.lt;have l4:=r3.lt;have hle:=r3.e;unfold mU at hle;refine Du L (l1:=[(7,some (AI z)),(6,some (.fn (.func 282) [] [.ptr mb 0])),(4,some .AS),(2,some (.ptr h.n 0)),(1,some (.fn (.func 282) [] [.ptr mb 0])),(0,some .AS)]) hle rfl ?_;intro Q z2 cs G;refine wk ?_;refine Dh L (Gk.e CS) ?_;rcases r5 with⟨rfl,rfl⟩|⟨r5,b,rfl,r7,r8⟩;.refine wk ?_;refine BO L (D1 (new:=[AI z]) rfl rfl (CG.of (c:=[AI z]) AG (BD _) rfl) om om) ?_;refine wk ?_;refine D8 L (Gk.e CS) G ⟨rfl,?_,by simp only[Ag];omega,λx hx=>(λbg:Gk hh (h.n+3) x=>(show Gk _ (h.n+3) x from by exact CS)) hx⟩;exact⟨AH,CS,(by unfold mU;exact D5 om),_,AG,.inr ⟨by simp,hh.n+1,rfl,by exact AG,om⟩⟩
   .have l6:=r7.lt;refine wk ?_;refine BO L (D7 (old:=S.map AI) (new:=[AI z]) rfl rfl (CG.of (c:=S.map AI) AG W0 iQ) (CG.of (c:=[AI z]) AG (BD _) rfl) om om rfl) ?_;refine wk ?_;refine D8 L (Gk.e CS) G ⟨rfl,?_,by simp only[Ag];omega,λx hx=>(λbg:Gk hh (h.n+3) x=>(show Gk _ (h.n+3) x from by exact CS)) hx⟩;exact⟨AH,CS,(by unfold mU;exact D5 om),_,AG,.inr ⟨by simp,hh.n+1,by simp,mB,om⟩⟩
 .rintro v h3 ⟨S,p,r1,r2,r3,v2,r4,r5⟩;have hle:=r3.e;unfold mU at hle;exact yi
theorem yk(h:p:=by
 rintro _ h2 ⟨S,p,w1,w2⟩
 have pl:=p.length_eq
 rw[DC]at pl
 rcases w2.ex with⟨rfl,rfl⟩|⟨w3,b,rfl,w4,w5⟩
 .refine wk ?_
  refine jf L rfl rfl rfl rfl bS (U.x0 _) ?_
  rintro _ _ ⟨rfl,rfl⟩
  refine ret X.f222.1 ?_
  exact⟨_,p,AH,⟨.inl ⟨by first|rfl|exact List.mergeSort_nil,rfl⟩⟩⟩
 .refine wk ?_
  refine jf L rfl rfl rfl rfl bS (U.x _ _ S uc w3 om) ?_
  rintro _ h3 ⟨rfl,w6,w7⟩
  refine ret X.f222.1 ?_
  exact⟨_,p,AH,⟨.inr ⟨by rw[E3];exact w3,b,by rw[E3];rfl,by exact AG,w5⟩⟩⟩):p:=h
theorem yl(h:p:=by
 rintro _ h2 ⟨S,p,w1,w2⟩
 rcases w2 with⟨rfl,rfl⟩|⟨w2,b,rfl,w3,w4⟩
 .refine ret X.f254.1 ?_
  exact⟨_,p,AH,⟨.inl ⟨by first|rfl|exact List.mergeSort_nil,rfl⟩⟩⟩
 .refine ret X.f254.1 ?_
  exact⟨_,p,AH,⟨.inr ⟨w2,b,rfl,by exact AG,w4⟩⟩⟩):p:=h
structure DN (h:H)(lo:Nat)(v:AV)(S:List Int):Prop where
 ex:(S=[]/\v= .AS)\/(0<S.length/\∃b,v= .AE b 0 S.length (Aa+1)/\Bk h b (S.map AI)/\lo<=b)
theorem DN.k0{S:List Int}(q:DN h lo v S)(k:K0 h AA):DN AA lo v S:=by exact nU
theorem aq5(q:EP M ck)(k1:Bk h mb [.map r1])(k2:Mk h r1 (M.map (mE AI)) ck)(hlen:M.length<2000):CL L 254 [.fn (.func 282) [] [.ptr mb 0]] h λv AA=>∃S,List.Perm S (M.map (·.1))/\K0 h AA/\DN AA h.n v S:=by refine Aj L X.f254 λQ x cs G=>?_;refine AK ?_ (c:=al6 L q k1 k2 hlen);exact yl
theorem al7(q:EP M ck)(k1:Bk h mb [.map r1])(k2:Mk h r1 (M.map (mE AI)) ck)(hlen:M.length<2000):CL L 222 [.fn (.func 282) [] [.ptr mb 0]] h λv AA=>∃S,List.Perm S (M.map (·.1))/\K0 h AA/\DN AA h.n v (Dn S):=by obtain⟨g0,bS⟩:=U.g;refine Aj L X.f222 λQ x cs G=>?_;refine AK ?_ (c:=aq5 L q k1 k2 hlen);exact yk
theorem ahy(q:EP M ck)(k2:Mk h r1 (M.map (mE AI)) ck)(hlen:M.length<2000):CL L 212 [.map r1] h λv AA=>∃S,List.Perm S (M.map (·.1))/\K0 h AA/\DN AA h.n v (Dn S):=by
 have tS:CL L 250 [.map r1] h λv AA=>v= .fn (.func 282) [] [.ptr h.n 0]/\Bk AA h.n [.map r1]/\K0 h AA/\AA.n=h.n+1:=by refine Aj L X.f250 λQ x cs G=>?_;refine ret X.f250.1 ?_;exact⟨rfl,AG,AH,rfl⟩
 refine Aj L X.f212 λQ x cs G=>?_;refine AK ?_ (c:=tS);rintro _ h2 ⟨rfl,w1,w2,w3⟩;refine AK ?_ (c:=al7 L q w1 (Sa w2 k2) hlen);rintro _ h3 ⟨S,p,w4,w5⟩;have w6:=w5;rcases w5.ex with⟨e0,rfl⟩|⟨w7,b,rfl,w8,w9⟩
 .refine ret X.f212.1 ?_;exact⟨_,p,AH,⟨.inl ⟨e0,rfl⟩⟩⟩
 .refine ret X.f212.1 ?_;exact⟨_,p,AH,⟨.inr ⟨w7,b,rfl,by exact AG,om⟩⟩⟩
theorem Da:∀(n:Nat) (l:List Int),l.Nodup->(∀x∈l,0<=x/\x<(n:Int))->l.length<=n
 |0,l,_,h=>by
  cases l with
  |nil=>exact BD _
  |cons x r=>have:=h x (DW ..);omega
 |n+1,l,hn,h=>by
  have h1:=Da n (l.erase (n:Int)) (hn.erase _) λx hx=>by have h2:=hn.mem_erase_iff.1 hx;have h3:=h x h2.2;have:x≠(n:Int):=h2.1;omega
  have h4:=List.length_erase (a:=(n:Int)) (l:=l);split at h4<;>omega
theorem Gw(S:List Int):(Dn S).Perm S:=List.mergeSort_perm S _
theorem Afu(S:List Int):(Dn S).Pairwise (·<= ·):=by have:=List.pairwise_mergeSort (le:=λx y:Int=>decide (x<=y)) (by intro a b c;simp only[LP];omega) (by intro a b;simp only[cT,LP];omega) S;exact this.imp λh=>by simpa using h
theorem ac4{S:List Int}(h:S.Nodup):(Dn S).Pairwise (·< ·):=by have h1:(Dn S).Nodup:=(Gw S).nodup_iff.2 h;refine((Afu S).and h1).imp λ{a b} q=>?_;have:=q.1;have:a≠b:=q.2;omega
structure OH (A:DM)(S:List Int):Prop where
 lt:S.Pairwise (·< ·)
 mem:∀s,s∈S↔(A s).isSome=true
theorem MQ.kK{A:DM}(q:MQ M1 M2 A)(o:EP M1 ck){S:List Int}(p:S.Perm (M1.map (·.1))):OH A (Dn S):=by
 refine⟨ac4 (p.nodup_iff.2 o.keys),λs=>?_⟩;rw[(Gw S).mem_iff,p.mem_iff,<-eM,C7];have h1:=q.a1 s;unfold A9 at h1
 cases hA:A s with
 |none=>rw[hA]at h1;simp only[aj,Option.map_eq_none_iff]at h1;rw[h1];simp
 |some v=>
  rw[hA]at h1
  cases hf:M1.find? λx=>decide (s=x.1)with
  |none=>rw[hf]at h1;cases h1
  |some x=>simp
theorem II.keys{A:DM}{c1 c2:Nat}{cv:List AV}(q:II S nb P h m r1 r2 vb A)(o:zm S nb P h m r1 r2 vb A M1 M2 c1 c2 cv):M1.length<=1000:=by
 have h1:=Da S (M1.map (·.1)) o.o1.keys λx hx=>by
  have h2:=eM.2 hx;have h3:=o.mr.a1 x
  cases hA:A x with
  |none=>rw[hA]at h3;have:=qO.1 h3;rw[this]at h2;cases h2
  |some p=>have:=q.rg x p hA;omega
 rw[DC]at h1;have:=q.nz;omega
section
section
def HF(A:DM)(s:Int):Int:=(A s).getD 0
theorem Afv{A:DM}(q:MQ M1 M2 A)(s:Int):(A9 M1 s).getD Zi=AI (HF A s):=by rw[q.a1];unfold HF;cases A s<;>rfl
theorem Afw{A:DM}(q:II S nb P h m r1 r2 vb A):CL L 164 [.ptr m 0] h λv AA=>∃D a b va MA,OH A D/\D.length<=1000/\v= .fn (.func 249) [] [.ptr a 0,.ptr b 0]/\Bk AA a [va]/\Bk AA b [MA]/\DN AA h.n va D/\DN AA h.n MA (D.map (HF A))/\K0 h AA/\h.n<=a/\h.n<=b:=by
 have q0:=q;obtain⟨km,⟨n1,n2,n3,n4,n5,n6⟩,rg,nz,M1,M2,c1,c2,cv,oo⟩:=q;have hk:=II.keys q0 oo;obtain⟨k1,o1,k2,o2,kv,vl,vv,mr⟩:=oo;have ajj:∀(h2:H),CL L 211 [.AS,.AS] h2 λv AA=>v= .fn (.func 249) [] [.ptr h2.n 0,.ptr (h2.n+1) 0]/\Bk AA h2.n [.AS]/\Bk AA (h2.n+1) [.AS]/\K0 h2 AA:=by intro h2;refine Ad L X.f211 λQ x cs G=>?_;refine ret X.f211.1 ?_;exact⟨rfl,AG,AG,AH⟩
 have ajk:∀(h2:H) (a0 b0 k0 l0:Nat),CL L 211 [.AE a0 0 k0 (Aa+1),.AE b0 0 l0 (Aa+1)] h2 λv AA=>v= .fn (.func 249) [] [.ptr h2.n 0,.ptr (h2.n+1) 0]/\Bk AA h2.n [.AE a0 0 k0 (Aa+1)]/\Bk AA (h2.n+1) [.AE b0 0 l0 (Aa+1)]/\K0 h2 AA:=by intro h2 a0 b0 k0 l0;refine Ad L X.f211 λQ x cs G=>?_;refine ret X.f211.1 ?_;exact⟨rfl,AG,AG,AH⟩
 refine Aj L X.f164 λQ x cs G=>?_;refine AK ?_ (c:=Sl L (c0:=AN S) (c1:=AN nb) (c2:=AN P) (r1:=r1) (rest:=[.map r2,.AE vb 0 nb nb]) AG);rintro _ rfl;refine AK ?_ (c:=ahy L o1 k1 om);rintro _ h2 ⟨S0,p,w1,w2⟩;have hD:=mr.kK o1 p;have Z4:(Dn S0).length<=1000:=by rw[E3,p.length_eq,DC];exact hk
 generalize Dn S0=D at*;have n2:=w1.n;rcases w2.ex with⟨rfl,rfl⟩|⟨w3,db,rfl,w4,w5⟩;.refine wk ?_;refine Bi L ?_;refine AK ?_ (c:=ajj _);rintro _ h3 ⟨rfl,u1,u2,u3⟩;refine ret X.f164.1 ?_;exact⟨[],_,_,.AS,.AS,hD,Z4,rfl,by exact AG,by exact AG,⟨.inl ⟨rfl,rfl⟩⟩,⟨.inl ⟨rfl,rfl⟩⟩,AH,by first|omega|(simp only[Ag]at *;omega),by first|omega|(simp only[Ag]at *;omega)⟩
 refine wk ?_;refine Bt L (α:=AV) (T:=λi v=>[(17,some (AN i)),(16,some (AN D.length)),(15,some (.AE db 0 D.length (Aa+1))),(4,some v),(3,some (.AE db 0 D.length (Aa+1))),(0,some (.ptr m 0))]) (n:=D.length) (R:=λi v h3=>DN h3 h2.n v ((D.take i).map (HF A))/\K0 h h3/\K0 h2 h3) (i0:=0) .AS BA ⟨⟨.inl ⟨rfl,rfl⟩⟩,AH,AH⟩ (CN _) ?_ ?_
 .rintro i v h3 hi ⟨u1,u2,u3⟩ ih;have hx:D[i]?=some D[i]:=DA hi;have hxm:(D.map AI)[i]?=some (AI D[i]):=by rw[GD,hx];rfl
  have e1:((D.take (i+1)).map (HF A))=(D.take i).map (HF A)++[HF A D[i]]:=by rw[LO,hx,IG];rfl
  have e2:((D.take i).map (HF A)).length=i:=by rw[DC,IS];omega
  rw[e1]at ih;generalize D[i]=s at*;have hg:=Afv mr s;have n3:=u3.n;refine wk ?_;refine BO L (C0 (KE.int .i64) rfl rfl CH) ?_;rw[hg];rcases u1.ex with⟨e0,rfl⟩|⟨gn,lb,rfl,g5,g6⟩;.refine wk ?_;refine BO L (D1 (new:=[AI (HF A s)]) rfl rfl (CG.of (c:=[AI (HF A s)]) AG (BD _) rfl) om om) ?_;refine wk ?_;refine ih _ _ _ ⟨?_,AH,AH⟩ BA;rw[e0,RV];exact⟨.inr ⟨by simp,_,rfl,by exact AG,om⟩⟩
  .have g8:=g5.lt;rw[e2];refine wk ?_;(apply IQ L rfl;exact D7 (old:=((D.take i).map (HF A)).map AI) (new:=[AI (HF A s)]) rfl rfl (CG.of (c:=((D.take i).map (HF A)).map AI) AG (by rw[DC,e2];omega) (by rw[LT,LN (by rw[DC,e2];omega)])) (CG.of (c:=[AI (HF A s)]) AG (BD _) rfl) om om rfl;rfl);refine wk ?_;refine ih _ _ _ ⟨?_,AH,AH⟩ BA;refine⟨.inr ⟨by simp,h3.n+1,(by rw[DX,e2];rfl),mB,om⟩⟩
 .rintro v h3 ⟨u1,u2,u3⟩;rw[NA]at u1;rcases u1.ex with⟨e0,rfl⟩|⟨gn,lb,rfl,g5,g6⟩;.rw[cQ]at e0;rw[e0]at w3;exact absurd w3 (jW 0)
  have g8:=g5.lt;refine AK ?_ (c:=ajk _ db lb _ _);rintro _ h4 ⟨rfl,x1,x2,x3⟩;refine ret X.f164.1 ?_;exact⟨D,_,_,_,_,hD,Z4,rfl,by exact AG,by exact AG,⟨.inr ⟨w3,db,rfl,by exact AG,om⟩⟩,⟨.inr ⟨gn,lb,rfl,by exact AG,om⟩⟩,AH,by first|omega|(simp only[Ag]at *;omega),by first|omega|(simp only[Ag]at *;omega)⟩
theorem rt{a b:Nat}{va MA:AV}{g:Int->Int}(hlen:D.length<=1000)(I:Nat->H->Prop)(hI:∀i hh,I i hh->Bk hh a [va]/\Bk hh b [MA]/\DN hh lo va D/\DN hh lo MA (D.map g))(hK:∀i hh AA,I i hh->K0 hh AA->I i AA)(hY:∀i s hh,D[i]?=some s->I i hh->SX P0 E F K (.yield lp) [AI s,AI (g s)] hh λu AA=>u= .bool true/\I (i+1) AA)(h0:I 0 h):CL L 249 [.fn (.yield lp) [] [],.ptr a 0,.ptr b 0] h λv AA=>I D.length AA:=by
 obtain⟨k1,k2,k3,k4⟩:=hI _ _ h0;rcases k3.ex with⟨rfl,rfl⟩|⟨DL,da,rfl,k5,k6⟩;.refine Bj L X.f249 λQ x cs G=>?_;refine wk ?_;refine Bi L ?_;refine ret X.f249.1 ?_;exact hK _ _ _ h0 AH
 rcases k4.ex with⟨e0,rfl⟩|⟨NJ,db,rfl,k7,k8⟩;.rw[cQ]at e0;rw[e0]at DL;exact absurd DL (jW 0)
 refine Bj L X.f249 λQ x cs G=>?_;refine wk ?_;refine Bt L (α:=Unit) (T:=λi _=>[(8,some (AN i)),(7,some (AN D.length)),(6,some (.AE da 0 D.length (Aa+1))),(2,some (.ptr b 0)),(0,some (.fn (.yield lp) [] []))]) (n:=D.length) (R:=λi _ hh=>I i hh) (i0:=0) () BA (hK _ _ _ h0 AH) (CN _) ?_ ?_
 .rintro i _ h2 hi w ih;have hx:D[i]?=some D[i]:=DA hi;have hxa:(D.map AI)[i]?=some (AI D[i]):=by rw[GD,hx];rfl
  have hxb:((D.map g).map AI)[i]?=some (AI (g D[i])):=by rw[GD,GD,hx];rfl
  have UK:i<(D.map g).length:=by rw[DC];exact hi
  obtain⟨j1,j2,j3,j4⟩:=hI _ _ w;have j5:Bk h2 da (D.map AI):=by
   rcases j3.ex with⟨_,e⟩|⟨_,AR,e,e2,_⟩;.cases e
   .cases e;exact e2
  have j6:Bk h2 db ((D.map g).map AI):=by
   rcases j4.ex with⟨_,e⟩|⟨_,AR,e,e2,_⟩;.cases e
   .cases e;exact e2
  generalize D[i]=s at*;refine wk ?_;refine Jv L rfl rfl rfl rfl rfl (hY i _ _ hx (hK i _ _ w za)) ?_;rintro _ h3 ⟨rfl,w3⟩;refine wk ?_;refine ih () _ _ w3 ?_;exact BA
 .rintro _ h2 w;refine ret X.f249.1 ?_;exact w
noncomputable def mV(m hn a b mk:Nat)(st:LS):DV:= .loop ⟨st,none,136,o0.ntmps,AJ [(6,some (.fn (.func 249) [] [.ptr a 0,.ptr b 0])),(5,some (.ptr m 0)),(2,some (.ptr hn 0)),(0,some (.ptr m 0))],[7,8],Aks,Akt,mk⟩
def Bf(A:DM)(D:List Int):List BI:=D.map λs=>(s,HF A s)
theorem DN.kS{S:Nat->Prop}{hi:Nat}(q:DN h lo v D)(hb:∀b n c,v= .AE b 0 n c->b<hi)(k:Kp S h AA)(hs:∀j,lo<=j->j<hi->¬S j):DN AA lo v D:=by
 rcases q.ex with h1|⟨h2,b,h3,h4,h5⟩;.exact⟨.inl h1⟩
 .exact⟨.inr ⟨h2,b,h3,Ao k (hs b h5 (hb _ _ _ h3)) h4,h5⟩⟩
theorem DN.bd(q:DN h lo v D):∀b n c,v= .AE b 0 n c->b<h.n:=by
 intro b n c e;rcases q.ex with⟨_,h1⟩|⟨_,AR,h3,h4,_⟩;.rw[h1]at e;cases e
 .rw[h3]at e;cases e;exact h4.lt
structure RE (h hh:H)(m a b mk:Nat)(va MA:AV)(A:DM)(D:List Int)(i:Nat):Prop where
 k:K0 h hh
 dk:Gk hh mk (.EQ (some []))
 lp:Gk hh (mk+1) (mV m h.n a b mk .ready)
 ka:Bk hh a [va]
 kb:Bk hh b [MA]
 ra:DN hh (h.n+1) va D
 rb:DN hh (h.n+1) MA (D.map (HF A))
 ex:∃v,Bk hh h.n [v]/\EL hh (mk+2) v (Bf A (D.take i))
theorem Ko{A:DM}(q:II S nb P h m r1 r2 vb A):CL L 136 [.ptr m 0] h λv AA=>∃D,OH A D/\D.length<=1000/\EL AA h.n v (Bf A D)/\K0 h AA:=by
 refine Aj L X.f136 λQ x cs G=>?_;refine AK ?_ (c:=Afw L (q.k0 AH));rintro _ h2 ⟨D,a,b,va,MA,hD,Z4,rfl,w1,w2,w3,w4,w5,w6,w7⟩;have n5:=w5.n;simp only[Ag]at n5 w6 w7;have la:=w1.lt;have lb:=w2.lt;refine wk ?_;refine Ew L (post:=λ_ AA=>RE h AA m a b h2.n va MA A D D.length) rfl rfl rfl ?_ ?_
 .refine Ct.A ((rt L (g:=HF A) (lo:=h.n+1) Z4 (λi hh=>RE h hh m a b h2.n va MA A D i) (λi hh r=>⟨r.ka,r.kb,r.ra,r.rb⟩) (λi hh AA r k=>?_) (λi s hh hx r=>?_) ⟨AH,CS,CS,by exact AG,by exact AG,?_,?_,.AS,by exact AG,EL.nil _ _⟩).mono λv AA p=>p);.exact⟨Kp.EA k r.k,C4 k r.dk,C4 k r.lp,Ab k r.ka,Ab k r.kb,r.ra.k0 k,r.rb.k0 k,let⟨v,e1,e2⟩:=r.ex;⟨v,Ab k e1,e2.k0 k⟩⟩
  .obtain⟨r1,r2,r3,r4,r5,r6,r7,v,r8,r9⟩:=r;have hle:=r3.e;unfold mV at hle;have g1:=r2.lt;have g2:=r3.lt;have g3:=r4.lt;have g4:=r5.lt;have g5:=r8.lt;have hi:=(FE.1 hx).1;have e1:Bf A (D.take (i+1))=Bf A (D.take i)++[(s,HF A s)]:=(by unfold Bf;rw[LO,hx,IG];rfl);have e2:(Bf A (D.take i)).length=i:=(by unfold Bf;rw[DC,IS];omega);refine Du L (l1:=[(8,some (AI (HF A s))),(7,some (AI s)),(6,some (.fn (.func 249) [] [.ptr a 0,.ptr b 0])),(5,some (.ptr m 0)),(2,some (.ptr h.n 0)),(0,some (.ptr m 0))]) hle rfl ?_;intro Q z2 cs G;refine wk ?_;refine Dh L (Gk.e CS) ?_;rcases r9.len with⟨e0,rfl⟩|⟨gn,iV,rfl,g6,g7⟩;.refine wk ?_;refine BO L (D1 (new:=A2 (s,HF A s)) rfl rfl (CG.of (c:=A2 (s,HF A s)) AG (BD _) rfl) om om) ?_;refine wk ?_;refine D8 L (Gk.e CS) G ⟨rfl,?_⟩;refine⟨AH,CS,(by unfold mV;exact D5 om),by exact AG,by exact AG,r6.kS (S:=λj=>j=h.n\/j=h2.n+1) w3.bd AH mF,r7.kS (S:=λj=>j=h.n\/j=h2.n+1) w4.bd AH mF,_,by exact AG,?_⟩;rw[e1,e0,RV];exact EL.app (l:=[]) uc om rfl
   .have g8:=g6.lt;rw[e2]at r8;refine wk ?_;(apply IQ L rfl;exact D7 (old:=(Bf A (D.take i)).flatMap A2) (new:=A2 (s,HF A s)) rfl rfl (CG.of (c:=(Bf A (D.take i)).flatMap A2) AG (by rw[Bm,e2];omega) (by rw[LT,LN (by rw[Bm,e2];exact BD _)])) (CG.of (c:=A2 (s,HF A s)) AG (BD _) rfl) om om rfl;rfl);refine wk ?_;refine D8 L (Gk.e CS) G ⟨rfl,?_⟩;refine⟨AH,CS,(by unfold mV;exact D5 om),by exact AG,by exact AG,r6.kS (S:=λj=>j=h.n\/j=h2.n+1\/j=iV) w3.bd AH mF,r7.kS (S:=λj=>j=h.n\/j=h2.n+1\/j=iV) w4.bd AH mF,_,by exact AG,?_⟩;rw[e1];exact EL.app (l:=Bf A (D.take i)) uc om e2
  .exact w3.k0 AH
  .exact w4.k0 AH
 .rintro v h3 ⟨r1,r2,r3,r4,r5,r6,r7,v2,r8,r9⟩;have hle:=r3.e;unfold mV at hle;have l4:=r8.lt;have l5:=r2.lt;refine Hv L (n:=h3.n) (t:=h3.t) (lh:=[]) hle W1 ?_;rw[NA]at r9;rcases r9.ex with⟨e0,rfl⟩|⟨e0,AR,rfl,RN,WD⟩
  all_goals
   refine wk ?_;refine Fd L (todo:=[]) ?_;refine Ex L W1 (Gk.e CS) ?_;refine C1 L X.f136.1 (Bw (b:=h.n) rfl (Bk.e AG) rfl E7) G ⟨D,hD,Z4,?_,AH⟩
  .exact⟨.inl ⟨e0,rfl⟩⟩
  .exact⟨.inr ⟨e0,AR,rfl,by exact AG,om⟩⟩
theorem adj(hS:1<=S/\S<=1000)(hn:2<=nb/\nb<=44)(hP:2<=P/\P<=6):CL L 130 [AN S,AN nb,AN P] h λv AA=>∃m r1 r2 vb,v= .BM [.ptr m 0,Zi]/\II S nb P AA m r1 r2 vb (λ_=>none)/\K0 h AA/\h.n<=m/\h.n<=r1/\h.n<=r2/\h.n<=vb:=by
 refine Bj L X.f130 λQ x cs G=>?_;refine ret X.f130.1 ?_;refine⟨h.n+1+1+1,h.n,h.n+1,h.n+1+1,rfl,⟨AG,om,λs p e=>YV,om,[],[],0,0,List.replicate nb (AI 0),CH,EP.nil,CH,EP.nil,?_,by simp,?_,⟨λ_=>rfl,λs p e=>YV,λp u e=>YV⟩⟩,AH,om,om,om,om⟩
 .have e:∀n,rl [Zi] n=List.replicate n (AI 0):=by
   intro n;induction n with
   |zero=>rfl
   |succ k ih=>show AI 0::rl [AI 0] k=_;rw[List.replicate_succ];exact HT _ ih
  rw[<-e];exact AG
 .intro i hi;have e0:GT (λ_=>none) P i=0:=by
   have:∀n,E1 (λj=>Jh (λ_=>none) ((i*P+j:Nat):Int)) n=0:=by
    intro n;induction n with
    |zero=>rfl
    |succ n ih=>simp only[E1,ih];rw[AM];intro hq;obtain⟨s,hs⟩:=aC.1 hq;cases hs
   exact this P
  rw[e0];simp[hi]
