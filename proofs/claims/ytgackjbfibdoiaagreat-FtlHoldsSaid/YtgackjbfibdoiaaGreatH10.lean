import Derived.Test.YtgackjbfibdoiaaGreatH09
set_option linter.all false
set_option maxRecDepth 100000
set_option maxHeartbeats 4000000
namespace Go.Ev
variable {P0:Program}{E:Env}{F:T DY}{K:HK}(L:Lg P0 E F K)[X:Fx F K][aq4:Tb P0 E F K][U:Yz P0 E F 208]
variable {P b j k:Nat}{S AB S1 S2:Ap}{data:List Nat}{o r:WO}{s sec:Int}
theorem xJ{p:Prop}(h:p:=by
 obtain⟨h1,h2,i,j,h3,h4,h5,h6,h7⟩:=q.map s p h
 exact⟨h1,h2,i,j,h3,h4,h5,pm i h6,h7⟩):p:=h
structure BE (S:Ap):Prop where
 CT:S.D.zk
 pw:S.D.off=S.down
 n0:1<=S.next
 iw:IW S
 LB:∀b,b<S.D.nb->(S.D.bl b).nx<=S.D.P
 RM:∀b:Nat,b<S.D.nb->S.ps b=2->(b:Int)=S.HG\/(b:Int)=S.log
 free:∀b,b<S.D.nb->S.ps b=1->(S.D.bl b).nx=0
 jr:∀k,S.jr k=true->∃b:Nat,k=(b:Int)/\b<S.D.nb/\(S.ps b=3\/S.ps b=2/\S.log=(b:Int))
 SM:0<=S.log->S.jr S.log=true
 TP:0<=S.HG->S.jr S.HG=false
 map:∀s p,S.A s=some p->0<=s/\s<S.S/\∃b j:Nat,p=((b*S.D.P+j:Nat):Int)/\b<S.D.nb/\j<S.D.P/\(S.ps b=2\/S.ps b=3)/\S.jr (b:Int)=false/\j<(S.D.bl b).nx/\((S.D.bl b).pg j).st=2
 inj:∀s EU p,S.A s=some p->S.A EU=some p->s=EU
structure IB (S AB:Ap):Prop where
 nx:∀b,b<S.D.nb->(S.D.bl b).nx<=(AB.D.bl b).nx
 pg:∀b j,b<S.D.nb->j<(S.D.bl b).nx->(AB.D.bl b).pg j=(S.D.bl b).pg j
 OA:∀b,b<S.D.nb->S.ps b=3->AB.ps b=3
 UR:∀b,b<S.D.nb->S.ps b=2\/S.ps b=3->AB.ps b=2\/AB.ps b=3
 PH:∀b:Nat,b<S.D.nb->S.ps b≠1->AB.jr (b:Int)=S.jr (b:Int)
 n1:∀b:Nat,b<S.D.nb->S.ps b≠1->AB.ps b≠1
 nt:S.next<=AB.next
theorem IB.refl(S:Ap):IB S S:=⟨λ_ _=>BD _,λ_ _ _ _=>rfl,λ_ _ h=>h,λ_ _ h=>h,λ_ _ _=>rfl,λ_ _ h=>h,BD _⟩
theorem IB.trans(a:IB S S1)(b:IB S1 S2)(hn:S1.D.nb=S.D.nb):IB S S2:=⟨λi hi=>EM (a.nx i hi) (b.nx i om),λi j hi hj=>(b.pg i j om (IF hj (a.nx i hi))).trans (a.pg i j hi hj),λi hi h=>b.OA i om (a.OA i hi h),λi hi h=>b.UR i om (a.UR i hi h),λi hi h=>(b.PH i om (a.n1 i hi h)).trans (a.PH i hi h),λi hi h=>b.n1 i om (a.n1 i hi h),EM a.nt b.nt⟩
theorem BE.close{k:Bool}(q:BE S)(hs:0<=S.BT k)(VV:IW (({S with ps:=AX S.ps (S.BT k).toNat 3}).put k (-1))):BE (({S with ps:=AX S.ps (S.BT k).toNat 3}).put k (-1))/\IB S (({S with ps:=AX S.ps (S.BT k).toNat 3}).put k (-1)):=by
 obtain⟨w1,w2⟩:=(q.iw.wi k).BT hs;obtain⟨b,hb⟩:=Yt hs;rw[hb,FL]at VV ⊢;rw[hb,FL]at w2;rw[hb]at w1;have p2:∀i,AX S.ps b 3 i=2->i≠b/\S.ps i=2:=λi h=>by
  by_cases ei:i=b;.subst ei;rw[Am]at h;cases h
  .rw[CB _ _ ei]at h;exact⟨ei,h⟩
 have p1:∀i,AX S.ps b 3 i=1->S.ps i=1:=λi h=>by
  by_cases ei:i=b;.subst ei;rw[Am]at h;cases h
  .rw[CB _ _ ei]at h;exact h
 have p3:∀i,S.ps i=3->AX S.ps b 3 i=3:=λi h=>by
  by_cases ei:i=b;.subst ei;exact Am _ _ _
  .rw[CB _ _ ei];exact h
 have pm:∀i,S.ps i=2\/S.ps i=3->AX S.ps b 3 i=2\/AX S.ps b 3 i=3:=λi h=>by
  by_cases ei:i=b;.subst ei;exact .inr (Am _ _ _)
  .rw[CB _ _ ei];exact h
 cases k with
 |true=>
  have hl:S.log=(b:Int):=hb;refine⟨⟨q.CT,q.pw,q.n0,VV,q.LB,λi hi h=>?_,λi hi h=>q.free i hi (p1 i h),λy hy=>?_,λh=>absurd h bo,q.TP,λs p h=>?_,q.inj⟩,⟨λ_ _=>BD _,λ_ _ _ _=>rfl,λi _ h=>p3 i h,λi _ h=>pm i h,λ_ _ _=>rfl,λi _ h e=>h (p1 i e),BD _⟩⟩
  .obtain⟨h1,h2⟩:=p2 i h;rcases q.RM i hi h2 with h3|h3;.exact .inl h3
   .rw[hl]at h3;exact absurd om h1
  .obtain⟨i,h1,h2,h3⟩:=q.jr y hy;refine⟨i,h1,h2,.inl ?_⟩;rcases h3 with h3|⟨h3,h4⟩;.exact p3 i h3
   .rw[hl]at h4;have:i=b:=om;subst this;exact Am _ _ _
  .exact xJ
 |false=>
  have hl:S.HG=(b:Int):=hb;refine⟨⟨q.CT,q.pw,q.n0,VV,q.LB,λi hi h=>?_,λi hi h=>q.free i hi (p1 i h),λy hy=>?_,q.SM,λh=>absurd h bo,λs p h=>?_,q.inj⟩,⟨λ_ _=>BD _,λ_ _ _ _=>rfl,λi _ h=>p3 i h,λi _ h=>pm i h,λ_ _ _=>rfl,λi _ h e=>h (p1 i e),BD _⟩⟩
  .obtain⟨h1,h2⟩:=p2 i h;rcases q.RM i hi h2 with h3|h3;.rw[hl]at h3;exact absurd om h1
   .exact .inr h3
  .obtain⟨i,h1,h2,h3⟩:=q.jr y hy;refine⟨i,h1,h2,?_⟩;by_cases ei:i=b;.subst ei;exact .inl (Am _ _ _)
   .show AX S.ps b 3 i=3\/AX S.ps b 3 i=2/\_;rw[CB _ _ ei];exact h3
  .exact xJ
theorem BE.cls(q:BE S)(k:Bool):BE (S.cls k)/\IB S (S.cls k):=by
 have VV:=(q.iw.cls k).1;by_cases hc:0<=S.BT k/\(S.D.bl (S.BT k).toNat).nx=S.D.P
 .have e:S.cls k=({S with ps:=AX S.ps (S.BT k).toNat 3}).put k (-1):=by unfold Ap.cls;rw[AP hc]
  rw[e]at VV ⊢;exact q.close hc.1 VV
 .have e:S.cls k=S:=by unfold Ap.cls;rw[AM hc]
  rw[e];exact⟨q,.refl _⟩
theorem BE.HQ{k:Bool}(q:BE S)(h:S.HQ k=some S2):BE S2/\IB S S2/\S2.jr (S2.BT k)=k:=by
 obtain⟨VV,hD,SK,-⟩:=q.iw.HQ h;unfold Ap.HQ at h;split at h
 .rename_i hs;split at h;.cases h
  .rename_i lD;rcases F1 S.ps S.pe 1 S.D.nb with⟨h1,-⟩|⟨c,hc,h1,h2⟩;.rw[h1]at lD;omega
   .rw[h1,FL]at h;have hjc:S.jr (c:Int)=false:=by
     cases hj:S.jr (c:Int)with
     |false=>rfl
     |true=>obtain⟨i,e1,e2,e3⟩:=q.jr _ hj;have:i=c:=om;subst this;rcases e3 with e3|⟨e3,-⟩<;>omega
    have p2:∀i,AX S.ps c 2 i=2->i=c\/S.ps i=2:=λi h=>by
     by_cases ei:i=c;.exact .inl ei
     .rw[CB _ _ ei]at h;exact .inr h
    have p1:∀i,AX S.ps c 2 i=1->S.ps i=1:=λi h=>by
     by_cases ei:i=c;.subst ei;exact h2
     .rw[CB _ _ ei]at h;exact h
    have p3:∀i,S.ps i=3->AX S.ps c 2 i=3:=λi h=>by rw[CB _ _ (λe=>by subst e;omega)];exact h
    have pm:∀i,S.ps i=2\/S.ps i=3->AX S.ps c 2 i=2\/AX S.ps c 2 i=3:=λi h=>by rw[CB _ _ (λe=>by subst e;omega)];exact h
    have nc:∀i,S.ps i=2\/S.ps i=3->i≠c:=λi h e=>by subst e;omega
    cases k with
    |true=>
     cases h;have p9:S.log<0:=hs;refine⟨⟨q.CT,q.pw,q.n0,VV,q.LB,λi hi h=>?_,λi hi h=>q.free i hi (p1 i h),λy hy=>?_,λ_=>?_,λhd=>?_,λs p h=>?_,q.inj⟩,⟨λ_ _=>BD _,λ_ _ _ _=>rfl,λi _ h=>p3 i h,λi _ h=>pm i h,λi hi BZ=>?_,λi _ h e=>h (p1 i e),BD _⟩,?_⟩
     .rcases p2 i h with h3|h3;.exact .inr (by rw[h3];rfl)
      .rcases q.RM i hi h3 with h4|h4;.exact .inl h4
       .omega
     .have NK:Be S.jr (c:Int) true y=true:=hy;unfold Be at NK;by_cases abm:y=(c:Int);.exact⟨c,abm,hc,.inr ⟨Am _ _ _,rfl⟩⟩
      .rw[AM abm]at NK;obtain⟨i,e1,e2,e3⟩:=q.jr y NK;refine⟨i,e1,e2,?_⟩;rcases e3 with e3|⟨e3,e4⟩;.exact .inl (p3 i e3)
       .omega
     .show Be S.jr (c:Int) true (c:Int)=true;unfold Be;rw[AP rfl]
     .show Be S.jr (c:Int) true S.HG=false;have MT:0<=S.HG:=hd;obtain⟨g1,g2⟩:=(q.iw.wi false).BT MT;have bN:S.ps S.HG.toNat=2:=g2;unfold Be;rw[AM (λe=>nc _ (.inl bN) om)];exact q.TP MT
     .obtain⟨e1,e2,i,j,h3,h4,h5,h6,h7,h8⟩:=q.map s p h;refine⟨e1,e2,i,j,h3,h4,h5,pm i h6,?_,h8⟩;show Be S.jr (c:Int) true (i:Int)=false;unfold Be;rw[AM (λe=>nc i h6 om)];exact h7
     .show Be S.jr (c:Int) true (i:Int)=S.jr (i:Int);unfold Be;rw[AM (λe=>BZ (by have:i=c:=om;subst this;exact h2))]
     .show Be S.jr (c:Int) true (c:Int)=true;unfold Be;rw[AP rfl]
    |false=>
     cases h;have DF:S.HG<0:=hs;refine⟨⟨q.CT,q.pw,q.n0,VV,q.LB,λi hi h=>?_,λi hi h=>q.free i hi (p1 i h),λy hy=>?_,q.SM,λhd=>hjc,λs p h=>?_,q.inj⟩,⟨λ_ _=>BD _,λ_ _ _ _=>rfl,λi _ h=>p3 i h,λi _ h=>pm i h,λi hi BZ=>rfl,λi _ h e=>h (p1 i e),BD _⟩,hjc⟩
     .rcases p2 i h with h3|h3;.exact .inl (by rw[h3];rfl)
      .rcases q.RM i hi h3 with h4|h4;.omega
       .exact .inr h4
     .obtain⟨i,e1,e2,e3⟩:=q.jr y hy;refine⟨i,e1,e2,?_⟩;rcases e3 with e3|⟨e3,e4⟩;.exact .inl (p3 i e3)
      .refine .inr ⟨?_,e4⟩;show AX S.ps c 2 i=2;rw[CB _ _ (nc i (.inl e3))];exact e3
     .obtain⟨e1,e2,i,j,h3,h4,h5,h6,h7⟩:=q.map s p h;exact⟨e1,e2,i,j,h3,h4,h5,pm i h6,h7⟩
 .rename_i hs
  cases h;refine⟨q,.refl _,?_⟩
  cases k with
  |true=>exact q.SM (Int.not_lt.1 hs)
  |false=>exact q.TP (Int.not_lt.1 hs)
theorem Dv.aei{D:Dv}{all:List Nat}(hb:b<D.nb)(hx:(D.bl b).nx<D.P):D.prog (b:Int) all=if D.off=true then(D,50)else(D.wr b all,if(D.n:Int)=D.cut then 50 else if D.CD D.n=true then 54 else 0):=by unfold Dv.prog;rw[AP ⟨om,om,by rw[FL];exact hx⟩,FL]
theorem BE.wr{all:List Nat}(q:BE S)(hb:b<S.D.nb)(hp:S.ps b=2)(hx:(S.D.bl b).nx<S.D.P)(su:Int->Bool)(dn:Bool)(ho:(S.D.wr b all).off=dn):BE {S with D:=S.D.wr b all,su:=su,down:=dn}/\IB S {S with D:=S.D.wr b all,su:=su,down:=dn}:=by
 have KY:∀i,i≠b->(S.D.wr b all).bl i=S.D.bl i:=λi h=>CB _ _ h;have gT:(S.D.wr b all).bl b=⟨AX (S.D.bl b).pg (S.D.bl b).nx (S.D.IE all),(S.D.bl b).nx+1,(S.D.bl b).er⟩:=Am _ _ _;have TM:∀i j,j<(S.D.bl i).nx->((S.D.wr b all).bl i).pg j=(S.D.bl i).pg j:=by
  intro i j hj;by_cases e:i=b;.subst e;rw[gT];exact CB _ _ om
  .rw[KY i e]
 have HB:∀i,(S.D.bl i).nx<=((S.D.wr b all).bl i).nx:=by
  intro i;by_cases e:i=b;.subst e;rw[gT];exact QD _
  .rw[KY i e];exact BD _
 refine⟨⟨⟨q.CT.nb,q.CT.P,q.CT.sz,q.CT.en⟩,ho,q.n0,⟨λk=>⟨(q.iw.wi k).BT,(q.iw.wi k).lo⟩,q.iw.ne⟩,λi hi=>?_,q.RM,λi hi h=>?_,q.jr,q.SM,q.TP,λs p h=>?_,q.inj⟩,⟨λi _=>HB i,λi j _ hj=>TM i j hj,λ_ _ h=>h,λ_ _ h=>h,λ_ _ _=>rfl,λ_ _ h=>h,BD _⟩⟩
 .show((S.D.wr b all).bl i).nx<=S.D.P;by_cases e:i=b;.subst e;rw[gT];exact hx
  .rw[KY i e];exact q.LB i hi
 .show((S.D.wr b all).bl i).nx=0;have AA:S.ps i=1:=h;rw[KY i (λe=>by subst e;omega)];exact q.free i hi AA
 .obtain⟨e1,e2,i,j,h3,h4,h5,h6,h7,h8,h9⟩:=q.map s p h;exact⟨e1,e2,i,j,h3,h4,h5,h6,h7,IF h8 (HB i),by show(((S.D.wr b all).bl i).pg j).st=2;rw[TM i j h8];exact h9⟩
theorem BE.aef{k:Bool}(q:BE S)(h:(S.cls k).HQ k=some S2):(S2.D.bl (S2.BT k).toNat).nx<S2.D.P:=by
 have q1:=(q.cls k).1;have hP:=q1.CT.P;obtain⟨VV,hD,SK,-⟩:=q1.iw.HQ h;by_cases hs:(S.cls k).BT k<0
 .unfold Ap.HQ at h;rw[AP hs]at h;split at h;.cases h
  .rename_i lD;rcases F1 (S.cls k).ps (S.cls k).pe 1 (S.cls k).D.nb with⟨h1,-⟩|⟨c,hc,h1,h2⟩;.rw[h1]at lD;omega
   .rw[hD];have e:S2.BT k=(c:Int):=by
     rw[h1]at h
     cases h;exact Dp _ _ _
    rw[e,FL,q1.free c hc h2];omega
 .have e2:S2=S.cls k:=by
   unfold Ap.HQ at h;rw[AM hs]at h
   cases h;rfl
  subst e2;by_cases hc:0<=S.BT k/\(S.D.bl (S.BT k).toNat).nx=S.D.P;.have e:S.cls k=({S with ps:=AX S.ps (S.BT k).toNat 3}).put k (-1):=(by unfold Ap.cls;rw[AP hc]);rw[e,Dp]at hs;omega
  .have e:S.cls k=S:=(by unfold Ap.cls;rw[AM hc]);rw[e]at hs ⊢;obtain⟨g1,g2⟩:=(q.iw.wi k).BT om;have:=q.LB (S.BT k).toNat om;have BZ:(S.D.bl (S.BT k).toNat).nx≠S.D.P:=λe=>hc ⟨om,e⟩;omega
theorem gJ(S:Ap)(k:Bool):(S.cls k).D=S.D:=by unfold Ap.cls;split<;>cases k<;>rfl
def KJ(S AB:Ap)(r:WO):Prop:=AB.down=true↔S.down=true\/r= .pow
theorem KJ.rf(h:AB.down=S.down)(hr:r≠ .pow):KJ S AB r:=by unfold KJ;rw[h];exact(or_iff_left hr).symm
theorem KJ.tr{CO:WO}(a:KJ S S1 r)(hr:r≠ .pow)(b:KJ S1 AB CO):KJ S AB CO:=b.trans (or_congr (a.trans (or_iff_left hr)) .rfl)
theorem KJ.dn(a:KJ S AB r)(hr:r≠ .pow):AB.down=S.down:=Bool.eq_iff_iff.2 (a.trans (or_iff_left hr))
def bC(all:List Nat)(p:Pg):Prop:=(p.st=2\/p.st=3)/\p.b=all
def cZ(all:List Nat)(p:Pg):Prop:=(p.st=2\/p.st=3)/\∃n,p.b=Qi n all
def NS(S AB:Ap)(X:Nat->Nat->Pg->Prop):Prop:=∀b j,b<S.D.nb->(S.D.bl b).nx<=j->j<(AB.D.bl b).nx->((AB.D.bl b).pg j).st=4\/X b j ((AB.D.bl b).pg j)
theorem NS.refl{X:Nat->Nat->Pg->Prop}(h:AB.D=S.D):NS S AB X:=λb j _ h1 h2=>by rw[h]at h2;omega
theorem NS.wr{all:List Nat}{X:Nat->Nat->Pg->Prop}(h:AB.D=S.D.wr b all)(hx:(S.D.IE all).st=4\/X b (S.D.bl b).nx (S.D.IE all)):NS S AB X:=λi j _ h1 h2=>by
 rw[h]at h2 ⊢
 by_cases e:i=b
 .subst e
  have e2:(S.D.wr i all).bl i=⟨AX (S.D.bl i).pg (S.D.bl i).nx (S.D.IE all),(S.D.bl i).nx+1,(S.D.bl i).er⟩:=Am _ _ _
  rw[e2]at h2 ⊢
  have h3:j<(S.D.bl i).nx+1:=h2
  have:j=(S.D.bl i).nx:=om
  subst this
  have e3:AX (S.D.bl i).pg (S.D.bl i).nx (S.D.IE all) (S.D.bl i).nx=S.D.IE all:=Am _ _ _
  show(AX (S.D.bl i).pg (S.D.bl i).nx (S.D.IE all) (S.D.bl i).nx).st=4\/X i _ (AX (S.D.bl i).pg (S.D.bl i).nx (S.D.IE all) (S.D.bl i).nx)
  rw[e3];exact hx
 .have e2:(S.D.wr b all).bl i=S.D.bl i:=CB _ _ e
  rw[e2]at h2;omega
theorem BE.w1(q:BE S)(k:Bool)(all:List Nat):BE (S.w1 k all).1/\IB S (S.w1 k all).1/\KJ S (S.w1 k all).1 (S.w1 k all).2/\(∀p,(S.w1 k all).2= .done p->∃b j:Nat,p=b*S.D.P+j/\b<S.D.nb/\j<S.D.P/\(S.w1 k all).1.ps b=2/\(S.w1 k all).1.jr (b:Int)=k/\j<((S.w1 k all).1.D.bl b).nx/\((S.w1 k all).1.D.bl b).pg j=⟨2,all⟩/\(S.D.bl b).nx=j)/\∃n,NS S (S.w1 k all).1 λb j p=>n=b*S.D.P+j/\((S.w1 k all).2= .done n/\p=⟨2,all⟩\/(S.w1 k all).2= .pow/\cZ all p/\(S.w1 k all).1.jr ((b:Nat):Int)=k):=by
 obtain⟨q1,k1⟩:=q.cls k;have VV:=(q.iw.w1 k all).1;have JE:(S.cls k).D=S.D:=gJ S k
 cases ho:(S.cls k).HQ k with
 |none=>
  have e:S.w1 k all=(S.cls k,.full):=by unfold Ap.w1;rw[ho]
  rw[e];exact⟨q1,k1,.rf (q1.pw.symm.trans ((HT Dv.off JE).trans q.pw)) W0,(λp h=>by cases h),0,.refl JE⟩
 |some S2=>
  obtain⟨q2,k2,MU⟩:=q1.HQ ho;have hx:=q.aef ho;obtain⟨-,aA,SK,-⟩:=q1.iw.HQ ho;obtain⟨g1,g2⟩:=(q2.iw.wi k).BT SK;obtain⟨b,hb⟩:=Yt SK;have MJ:S2.D=S.D:=aA.trans JE;rw[hb,FL]at hx g2;rw[hb]at MU;have Le:b<S2.D.nb:=om
  have f1:=Dv.aei (all:=all) Le hx;have kk:IB S S2:=k1.trans k2 (by rw[JE]);have KZ:S2.down=S.down:=q2.pw.symm.trans ((HT Dv.off MJ).trans q.pw);by_cases gy:S2.D.off=true;.rw[AP gy]at f1;have e:S.w1 k all=({S2 with down:=true},.pow):=pZ;rw[e];exact⟨⟨q2.CT,gy,q2.n0,⟨λk=>⟨(q2.iw.wi k).BT,(q2.iw.wi k).lo⟩,q2.iw.ne⟩,q2.LB,q2.RM,q2.free,q2.jr,q2.SM,q2.TP,q2.map,q2.inj⟩,⟨kk.nx,kk.pg,kk.OA,kk.UR,kk.PH,kk.n1,kk.nt⟩,⟨λ_=> .inr rfl,λ_=>rfl⟩,(λp h=>by cases h),0,.refl MJ⟩
  rw[AM gy]at f1;by_cases hc:(S2.D.n:Int)=S2.D.cut
  .rw[AP hc]at f1;have e:S.w1 k all=({S2 with D:=S2.D.wr b all,down:=true},.pow):=pZ;obtain⟨q3,k3⟩:=q2.wr (all:=all) Le g2 hx S2.su true (by show(S2.D.off ||decide _)=true;rw[CM hc,Bool.or_true]);rw[e];refine⟨q3,kk.trans k3 (by rw[MJ]),⟨λ_=> .inr rfl,λ_=>rfl⟩,(λp h=>by cases h),_,.wr (b:=b) (all:=all) (by rw[<-MJ]) (.inr ⟨rfl,.inr ⟨rfl,?_,MU⟩⟩)⟩;rw[<-MJ];unfold Dv.IE cZ;rw[AP hc];refine⟨?_,_,rfl⟩;show(if _ then 2 else 3)=2\/(if _ then 2 else 3)=3;split;.exact .inl rfl
   .exact .inr rfl
  rw[AM hc]at f1;have hwo:(S2.D.wr b all).off=S2.down:=by show(S2.D.off ||decide _)=_;rw[CW hc,jX];exact q2.pw
  have hZ:S.D.IE all=if S2.D.CD S2.D.n=true then⟨4,[]⟩else⟨2,all⟩:=by rw[<-MJ];unfold Dv.IE;rw[AM hc]
  by_cases GR:S2.D.CD S2.D.n=true;.rw[AP GR]at f1 hZ;have e:S.w1 k all=(({S2 with D:=S2.D.wr b all,su:=Be S2.su (b:Int) true,ps:=AX S2.ps b 3}:Ap).put k (-1),.again):=pY;obtain⟨q3,k3⟩:=q2.wr (all:=all) Le g2 hx (Be S2.su (b:Int) true) S2.down hwo;have UO:({S2 with D:=S2.D.wr b all,su:=Be S2.su (b:Int) true,down:=S2.down}:Ap).BT k=(b:Int):=(by cases k<;>exact hb);rw[e]at VV ⊢;have NV:=q3.close (k:=k) (by rw[UO];omega);rw[UO,FL]at NV;obtain⟨q4,k4⟩:=NV VV;exact⟨q4,(kk.trans k3 (by rw[MJ])).trans k4 (by show S2.D.nb=S.D.nb;rw[MJ]),.rf (by cases k<;>exact KZ) W0,(λp h=>by cases h),0,.wr (b:=b) (all:=all) (by rw[<-MJ];cases k<;>rfl) (.inl (by rw[hZ]))⟩
  .rw[AM GR]at f1 hZ;have e:S.w1 k all=({S2 with D:=S2.D.wr b all},.done (b*S2.D.P+(S2.D.bl b).nx)):=pY;obtain⟨q3,k3⟩:=q2.wr (all:=all) Le g2 hx S2.su S2.down hwo;rw[e];refine⟨q3,kk.trans k3 (by rw[MJ]),.rf KZ W0,λp h=>?_,_,.wr (b:=b) (all:=all) (by rw[<-MJ]) (.inr ⟨rfl,.inl ⟨by rw[<-MJ],hZ⟩⟩)⟩
   cases h;refine⟨b,(S2.D.bl b).nx,by rw[<-MJ],by rw[<-MJ];exact Le,by rw[<-MJ];exact hx,g2,MU,?_,?_,by rw[MJ]⟩;.show(S2.D.bl b).nx<((AX S2.D.bl b ⟨AX (S2.D.bl b).pg (S2.D.bl b).nx (S2.D.IE all),(S2.D.bl b).nx+1,(S2.D.bl b).er⟩) b).nx;rw[Am];exact NQ _
   .show((AX S2.D.bl b ⟨AX (S2.D.bl b).pg (S2.D.bl b).nx (S2.D.IE all),(S2.D.bl b).nx+1,(S2.D.bl b).er⟩) b).pg (S2.D.bl b).nx=_;rw[Am];show AX (S2.D.bl b).pg (S2.D.bl b).nx (S2.D.IE all) (S2.D.bl b).nx=_;rw[Am,MJ];exact hZ
theorem GX.inv{k:Bool}{all:List Nat}(h:GX k all S AB r)(q:BE S):BE AB/\IB S AB/\KJ S AB r/\(∀p,r= .done p->∃b j:Nat,p=b*S.D.P+j/\b<S.D.nb/\j<S.D.P/\AB.ps b=2/\AB.jr (b:Int)=k/\j<(AB.D.bl b).nx/\(AB.D.bl b).pg j=⟨2,all⟩/\(S.D.bl b).nx<=j):=by
 induction h with
 |stop h=>obtain⟨a,b,c,e,-⟩:=q.w1 k all;exact⟨a,b,c,λp hp=>let⟨b,j,e1,e2,e3,e4,e5,e6,e7,e8⟩:=e p hp;⟨b,j,e1,e2,e3,e4,e5,e6,e7,om⟩⟩
 | @more S AB r h _ ih=>obtain⟨a,b,c,e,-⟩:=q.w1 k all;obtain⟨BC,AR,BP,BG⟩:=ih a;have f:=St S k all;refine⟨BC,b.trans AR f.nb,c.tr (by rw[h];simp) BP,λp hp=>?_⟩;obtain⟨i,j,e1,e2,e3,e4,e5,e6,e7,e8⟩:=BG p hp;rw[f.nb]at e2;rw[f.P]at e1 e3;exact⟨i,j,e1,e2,e3,e4,e5,e6,e7,EM (b.nx i e2) e8⟩
theorem BE.nw(q:BE S)(n l:Nat)(w:Int->Option Nat)(h0:1<=n):BE {S with next:=n,last:=l,wr:=w}:=⟨q.CT,q.pw,h0,⟨λk=>⟨(q.iw.wi k).BT,(q.iw.wi k).lo⟩,q.iw.ne⟩,q.LB,q.RM,q.free,q.jr,q.SM,q.TP,q.map,q.inj⟩
theorem IM.inv(h:IM sec data S AB o)(q:BE S):BE AB/\IB S AB/\KJ S AB o/\(∀p,o= .done p->∃b j:Nat,p=b*S.D.P+j/\b<S.D.nb/\j<S.D.P/\AB.ps b=2/\AB.jr (b:Int)=false/\j<(AB.D.bl b).nx/\(AB.D.bl b).pg j=⟨2,data++A3 (PO sec S.next) data⟩/\(S.D.bl b).nx<=j):=by
 have q1:BE {S with next:=S.next+1}:=q.nw (S.next+1) S.last S.wr (cU _)
 cases h with
 |ok h=>obtain⟨a,b,c,e⟩:=h.inv q1;refine⟨a.nw _ _ _ a.n0,⟨b.nx,b.pg,b.OA,b.UR,b.PH,b.n1,Nat.le_of_succ_le b.nt⟩,c,e⟩
 |bad h hr=>obtain⟨a,b,c,e⟩:=h.inv q1;exact⟨a,⟨b.nx,b.pg,b.OA,b.UR,b.PH,b.n1,Nat.le_of_succ_le b.nt⟩,c,e⟩
structure PU (S:Ap)(sec:Int)(data:List Nat)(p:Int):Prop where
 ex:∃b j n:Nat,p=((b*S.D.P+j:Nat):Int)/\b<S.D.nb/\j<S.D.P/\(S.ps b=2\/S.ps b=3)/\S.jr (b:Int)=false/\j<(S.D.bl b).nx/\(S.D.bl b).pg j=⟨2,data++A3 (PO sec n) data⟩/\1<=n/\n<S.next
theorem PU.JH{p:Int}(q:PU S sec data p)(k:IB S AB)(hP:AB.D.P=S.D.P)(FT:AB.D.nb=S.D.nb):PU AB sec data p:=by obtain⟨b,j,n,h1,h2,h3,h4,h5,h6,h7,h8,h9⟩:=q.ex;exact⟨b,j,n,by rw[hP];exact h1,by rw[FT];exact h2,by rw[hP];exact h3,k.UR b h2 h4,by rw[k.PH b h2 om];exact h5,IF h6 (k.nx b h2),by rw[k.pg b j h2 h6];exact h7,h8,IF h9 k.nt⟩
theorem IM.pg{p:Nat}(h:IM sec data S AB (.done p))(q:BE S):PU AB sec data (p:Int)/\(∃b j:Nat,p=b*S.D.P+j/\b<S.D.nb/\j<S.D.P/\(S.D.bl b).nx<=j):=by obtain⟨f,-,-,fn⟩:=h.fr q.iw;obtain⟨a,b,c,e⟩:=h.inv q;obtain⟨i,j,e1,e2,e3,e4,e5,e6,e7,e8⟩:=e p rfl;exact⟨⟨i,j,S.next,by rw[f.P,e1],by rw[f.nb];exact e2,by rw[f.P];exact e3,.inl e4,e5,e6,e7,q.n0,om⟩,i,j,e1,e2,e3,e8⟩
theorem EY.inv{l:GV}{es:List BI}(h:EY l S es AB o)(q:BE S):BE AB/\IB S AB/\PT S AB/\KJ S AB o:=by
 induction h with
 |nil=>exact⟨q,.refl _,.refl _,.rf rfl W0⟩
 |put h _ ih=>obtain⟨a,b,c,-⟩:=h.inv q;have f:=(h.fr q.iw).1;obtain⟨BC,AR,BP,MG⟩:=ih a;exact⟨BC,b.trans AR f.nb,f.trans BP,c.tr W0 MG⟩
 |bad h ho=>obtain⟨a,b,c,-⟩:=h.inv q;exact⟨a,b,(h.fr q.iw).1,c⟩
 |trim _ _ ih=>exact ih q
 |skip _ _ ih=>exact ih q
theorem EY.es{l:GV}{S AB:Ap}{es:List BI}{o:WO}(h:EY l S es AB o)(q:BE S):∀e∈es,(∃x∈l,x.1=e.1)/\(e.2= -1\/∃b j:Nat,e.2=((b*S.D.P+j:Nat):Int)/\b<S.D.nb/\j<S.D.P/\(S.D.bl b).nx<=j):=by
 induction h with
 |nil=>intro e he;cases he
 |put h _ ih=>
  intro e he;obtain⟨a,b,-⟩:=h.inv q;have f:=(h.fr q.iw).1;rcases DD.1 he with rfl|he;.obtain⟨-,i,j,e1,e2,e3,e4⟩:=h.pg q;exact⟨⟨_,DW ..,rfl⟩,.inr ⟨i,j,by rw[e1],e2,e3,e4⟩⟩
  .obtain⟨⟨x,hx,e1⟩,e2⟩:=ih a e he;refine⟨⟨x,Ck _ hx,e1⟩,?_⟩;rcases e2 with e2|⟨i,j,g1,g2,g3,g4⟩;.exact .inl e2
   .rw[f.nb]at g2;rw[f.P]at g1 g3;exact .inr ⟨i,j,g1,g2,g3,EM (b.nx i g2) g4⟩
 |bad h ho=>intro e he;cases he
 |trim _ _ ih=>
  intro e he;rcases DD.1 he with rfl|he;.exact⟨⟨_,DW ..,rfl⟩,.inl rfl⟩
  .obtain⟨⟨x,hx,e1⟩,e2⟩:=ih q e he;exact⟨⟨x,Ck _ hx,e1⟩,e2⟩
 |skip _ _ ih=>intro e he;obtain⟨⟨x,hx,e1⟩,e2⟩:=ih q e he;exact⟨⟨x,Ck _ hx,e1⟩,e2⟩
theorem Id{AR JU:Nat}(hj:j<P)(NI:JU<P)(h:b*P+j=AR*P+JU):b=AR/\j=JU:=by
 rcases Nat.lt_trichotomy b AR with q|q|q;.have:=Xt P (show b+1<=AR from q);rw[Ys]at this;omega
 .subst q;exact⟨rfl,om⟩
 .have:=Xt P (show AR+1<=b from q);rw[Ys]at this;omega
theorem EY.nd{l:GV}{es:List BI}(h:EY l S es AB o)(q:BE S):es.Pairwise λx y=>0<=x.2->x.2≠y.2:=by
 induction h with
 |nil=>exact .nil
 | @put sec data l S S1 AB p es o h r ih=>
  obtain⟨a,b,c,e⟩:=h.inv q;have f:=(h.fr q.iw).1;obtain⟨i,j,e1,e2,e3,-,-,e6,-,-⟩:=e p rfl;refine .cons (λy hy _ e=>?_) (ih a);have e:(p:Int)=y.2:=e;rcases(r.es a y hy).2 with g|⟨FB,JU,g1,g2,g3,g4⟩;.omega
  .rw[f.P]at g1 g3;obtain⟨rfl,rfl⟩:=Id e3 g3 (show i*S.D.P+j=FB*S.D.P+JU from om);omega
 |bad h ho=>exact .nil
 |trim _ _ ih=>exact .cons (λy hy h _=>by simp only at h;omega) (ih q)
 |skip _ _ ih=>exact ih q
theorem F2{A:DM}{l:List BI}:∀i s p,GB A l i s=some p->A s=some p\/∃j e,j<i/\l[j]?=some e/\e.1=s/\e.2=p/\0<=p
 |0,s,p,h=> .inl h
 |i+1,s,p,h=>by
  cases hx:l[i]? with
  |none=>
   have:GB A l (i+1)=GB A l i:=(by unfold GB;rw[LO,hx];simp);rw[this]at h;rcases F2 i s p h with h|⟨j,e,h1,h2⟩;.exact .inl h
   .exact .inr ⟨j,e,om,h2⟩
  |some x=>
   rw[Sn hx]at h;unfold C9 at h;by_cases e1:s=x.1
   .rw[AP e1]at h;by_cases e2:0<=x.2;.rw[AP e2]at h;cases h;exact .inr ⟨i,x,om,hx,e1.symm,rfl,e2⟩
    .rw[AM e2]at h;cases h
   .rw[AM e1]at h;rcases F2 i s p h with h|⟨j,e,h1,h2⟩;.exact .inl h
    .exact .inr ⟨j,e,om,h2⟩
theorem EY.ok{l:GV}{S AB:Ap}{es:List BI}{o:WO}(h:EY l S es AB o)(q:BE S)(hr:∀y∈l,0<=y.1/\y.1<(S.S:Int)):∀j x,es[j]?=some x->QO S.S (S.D.nb*S.D.P) (GB S.A es j) x:=by
 intro j x hx;have hm:=I4 hx;obtain⟨⟨y,hy,ld⟩,hp⟩:=h.es q x hm;have YS:=hr y hy;rw[ld]at YS;have HA:=h.nd q;refine⟨⟨YS.1,YS.2,?_,?_⟩,?_⟩;.rcases hp with e|⟨b,k,e,-⟩<;>omega
 .rcases hp with e|⟨b,k,e,hb,hk,-⟩;.rw[e];omega
  .rw[e];have:=Xt S.D.P (show b+1<=S.D.nb from hb);rw[Ys]at this;omega
 .rintro⟨s,hs,BZ⟩;rcases F2 j s x.2 hs with h1|⟨JU,e,h1,h2,h3,h4,h5⟩
  .obtain⟨-,-,i,m,g1,g2,g3,g4,g5,g6,-⟩:=q.map s x.2 h1;rcases hp with e|⟨b,k,e,hb,hk,TJ⟩;.omega
   .obtain⟨rfl,rfl⟩:=Id g3 hk (show i*S.D.P+m=b*S.D.P+k from om);omega
  .obtain⟨l1,l2⟩:=FE.1 h2;obtain⟨l3,l4⟩:=FE.1 hx;have:=fe.1 HA JU j l1 l3 h1;rw[l2,l4]at this;exact this om h4
theorem LW.inv{sz:Nat}{l:List LE}(h:LW sz l S AB o)(q:BE S):BE AB/\IB S AB/\KJ S AB o:=by
 induction h with
 |nil=>exact⟨q,.refl _,.rf rfl W0⟩
 |cons h _ ih=>obtain⟨a,b,c,-⟩:=h.inv q;have f:=h.fr;obtain⟨BC,AR,BP⟩:=ih a;exact⟨BC,b.trans AR f.nb,c.tr W0 BP⟩
 |bad h ho=>obtain⟨a,b,c,-⟩:=h.inv q;exact⟨a,b,c⟩
theorem HO.inv{es:List BI}(h:HO k es S AB o)(q:BE S):BE AB/\IB S AB/\KJ S AB o:=by
 have q1:BE {S with next:=S.next+CF S es}:=q.nw (S.next+CF S es) S.last S.wr (EM q.n0 (OC _ _))
 cases h with
 |ok h=>obtain⟨a,b,c⟩:=h.inv q1;exact⟨a.nw _ _ _ a.n0,⟨b.nx,b.pg,b.OA,b.UR,b.PH,b.n1,EM (OC _ _) b.nt⟩,c⟩
 |bad h _=>obtain⟨a,b,c⟩:=h.inv q1;exact⟨a,⟨b.nx,b.pg,b.OA,b.UR,b.PH,b.n1,EM (OC _ _) b.nt⟩,c⟩
theorem yU{p:Prop}(h:p:=by
 refine⟨λs p h=>?_,q.inj⟩
 obtain⟨h1,h2,b,j,h3,h4,h5,-⟩:=q.map s p h
 refine⟨h1,h2,om,?_⟩
 have:=Xt S.D.P (show b+1<=S.D.nb from h4)
 rw[Ys]at this
 omega):p:=h
theorem BE.app{es:List BI}(q:BE S)(ok:∀j x,es[j]?=some x->QO S.S (S.D.nb*S.D.P) (GB S.A es j) x)(hp:∀e∈es,0<=e.2->∃data,PU S e.1 data e.2):BE {S with A:=GB S.A es es.length}:=by
 have hinv:Yy S.S (S.D.nb*S.D.P) S.A:=by exact yU
 have ab0:=hinv.st es.length (BD _) λj x _ hx=>ok j x hx;refine⟨q.CT,q.pw,q.n0,⟨λk=>⟨(q.iw.wi k).BT,(q.iw.wi k).lo⟩,q.iw.ne⟩,q.LB,q.RM,q.free,q.jr,q.SM,q.TP,λs p h=>?_,ab0.inj⟩;obtain⟨h1,h2,-,-⟩:=ab0.rg s p h;refine⟨h1,h2,?_⟩;rcases F2 es.length s p h with g|⟨j,e,g1,g2,g3,g4,g5⟩
 .exact(q.map s p g).2.2
 .obtain⟨data,hd⟩:=hp e (I4 g2) om;obtain⟨b,i,n,f1,f2,f3,f4,f5,f6,f7,-⟩:=hd.ex;exact⟨b,i,by rw[<-g4];exact f1,f2,f3,f4,f5,f6,by rw[f7]⟩
theorem EY.pg{l:GV}{es:List BI}(h:EY l S es AB o)(q:BE S):∀e∈es,0<=e.2->∃data,(e.1,some data)∈l/\PU AB e.1 data e.2:=by
 induction h with
 |nil=>intro e he;cases he
 | @put sec data l S S1 AB p es o h r ih=>
  obtain⟨a,b,-⟩:=h.inv q;obtain⟨-,AZ,oO,-⟩:=r.inv a;intro e he h0;rcases DD.1 he with rfl|he;.obtain⟨g,-⟩:=h.pg q;exact⟨data,DW ..,g.JH AZ oO.P oO.nb⟩
  .obtain⟨d,h1,h2⟩:=ih a e he h0;exact⟨d,Ck _ h1,h2⟩
 |bad h ho=>intro e he;cases he
 |trim _ _ ih=>
  intro e he h0;rcases DD.1 he with rfl|he;.simp only at h0;omega
  .obtain⟨d,h1,h2⟩:=ih q e he h0;exact⟨d,Ck _ h1,h2⟩
 |skip _ _ ih=>intro e he h0;obtain⟨d,h1,h2⟩:=ih q e he h0;exact⟨d,Ck _ h1,h2⟩
theorem HU.inv{es:List BI}(h:HU es S AB o)(q:BE S)(ok:∀j x,es[j]?=some x->QO S.S (S.D.nb*S.D.P) (GB S.A es j) x)(hp:∀e∈es,0<=e.2->∃data,PU S e.1 data e.2):BE AB/\IB S AB/\KJ S AB o/\(o≠ .done 0->AB.A=S.A)/\(o= .done 0->AB.A=GB S.A es es.length):=by
 cases h with
 |nil h=>subst h;exact⟨q,.refl _,.rf rfl W0,(λ_=>rfl),λ_=>rfl⟩
 |ok h hn=>
  obtain⟨a,b,c⟩:=h.inv q;obtain⟨f,-⟩:=h.fr q.iw;have e:=f.A;refine⟨a.app (es:=es) ?_ λx hx h0=>?_,⟨b.nx,b.pg,b.OA,b.UR,b.PH,b.n1,b.nt⟩,c,(λh=>absurd rfl h),λ_=>by show GB _ _ _=_;rw[e]⟩;.rw[f.CZ,f.nb,f.P,e];exact ok
  .obtain⟨data,hd⟩:=hp x hx h0;exact⟨data,hd.JH b f.P f.nb⟩
 |bad h ho=>obtain⟨a,b,c⟩:=h.inv q;obtain⟨f,-⟩:=h.fr q.iw;exact⟨a,b,c,λ_=>f.A,λhr=>by rcases ho with e|e<;>rw[e]at hr<;>cases hr⟩
theorem LU.inv{l:GV}(h:LU l S AB o)(q:BE S)(hr:∀y∈l,0<=y.1/\y.1<(S.S:Int)):BE AB/\IB S AB/\KJ S AB o/\(o≠ .done 0->AB.A=S.A)/\(o= .done 0->∃es S1,EY l S es S1 (.done 0)/\AB.A=GB S.A es es.length/\∀e∈es,0<=e.2->∃data,(e.1,some data)∈l/\PU AB e.1 data e.2):=by
 have key:∀{es:List BI} {S1 S2:Ap} {o:WO},EY l S es S1 (.done 0)->HU es S1 S2 o->BE S2/\IB S S2/\KJ S S2 o/\(o≠ .done 0->S2.A=S.A)/\
   (o= .done 0->S2.A=GB S.A es es.length/\∀e∈es,0<=e.2->∃data,(e.1,some data)∈l/\PU S2 e.1 data e.2):=by
  intro es S1 S2 o a c
  obtain⟨q1,k1,f1,d1⟩:=a.inv q
  have hp:=a.pg q
  obtain⟨q2,k2,h2,h3,h4⟩:=c.inv q1 (by rw[f1.CZ,f1.nb,f1.P,f1.A];exact a.ok q hr) λe he h0=>let⟨d,_,h⟩:=hp e he h0;⟨d,h⟩
  obtain⟨⟨g1,g2,-⟩,-⟩:=c.fr q1.iw
  refine⟨q2,k1.trans k2 f1.nb,d1.tr W0 h2,λho=>(h3 ho).trans f1.A,λho=>⟨by rw[h4 ho,f1.A],λe he h0=>?_⟩⟩
  obtain⟨d,e1,e2⟩:=hp e he h0
  exact⟨d,e1,e2.JH k2 g2 g1⟩
 cases h with
 |ok a c=>obtain⟨h1,h2,h3,h4,h5⟩:=key a c;exact⟨h1,h2,h3,h4,λho=>⟨_,_,a,(h5 ho).1,(h5 ho).2⟩⟩
 |bad a ho=>obtain⟨q1,k1,f1,h4⟩:=a.inv q;exact⟨q1,k1,h4,λ_=>f1.A,λhr=>by rcases ho with e|e<;>rw[e]at hr<;>cases hr⟩
 |WX a c ho=>obtain⟨h1,h2,h3,h4,h5⟩:=key a c;exact⟨h1,h2,h3,h4,λhr=>by rcases ho with e|e<;>rw[e]at hr<;>cases hr⟩
theorem Qg(hj:j<P):(b*P+j)/P=b/\(b*P+j)%P=j:=by rw[Nat.add_comm];exact⟨by rw[Nat.add_mul_div_right _ _ om,fN hj,MD],by rw[Nat.add_mul_mod_self_right,cR hj]⟩
theorem PU.rd{p:Int}(q:PU S s data p)(h:S.A s=some p)(hd:data.length=S.D.sz):S.rd s=data:=by obtain⟨b,j,n,h1,h2,h3,h4,h5,h6,h7,-⟩:=q.ex;obtain⟨g1,g2⟩:=Qg (b:=b) h3;unfold Ap.rd;rw[h];simp only[h1,FL,g1,g2,h7];rw[<-hd,List.take_left'];rfl
theorem Gq(q:BE S)(k:IB S AB)(g:AB.D.P=S.D.P/\AB.D.sz=S.D.sz)(h:AB.A s=S.A s):AB.rd s=S.rd s:=by
 unfold Ap.rd;rw[h,g.1,g.2]
 cases hs:S.A s with
 |none=>rfl
 |some p=>obtain⟨-,-,b,j,h1,h2,h3,h4,h5,h6,h7⟩:=q.map s p hs;obtain⟨g1,g2⟩:=Qg (b:=b) h3;simp only[h1,FL,g1,g2];rw[k.pg b j h2 h6]
theorem BE.al1(q:BE S):∀p:Int,S.A s=some p->p.toNat/S.D.P<S.D.nb/\p.toNat%S.D.P<(S.D.bl (p.toNat/S.D.P)).nx/\(((S.D.bl (p.toNat/S.D.P)).pg (p.toNat%S.D.P)).st=2\/((S.D.bl (p.toNat/S.D.P)).pg (p.toNat%S.D.P)).st=3):=by intro p hp;obtain⟨-,-,b,j,h1,h2,h3,h4,h5,h6,h7⟩:=q.map s p hp;obtain⟨g1,g2⟩:=Qg (b:=b) h3;rw[h1,FL,g1,g2];exact⟨h2,h6,.inl h7⟩
theorem BE.BV(q:BE S)(hb:b<S.D.nb)(h3:S.ps b=3)(hm:∀s p,S.A s=some p->∀j:Nat,j<S.D.P->p≠((b*S.D.P+j:Nat):Int))(hj:S.jr (b:Int)=false\/(S.BV b).2= .pow):BE (S.BV b).1/\((S.BV b).2= .done 0\/(S.BV b).2= .pow)/\KJ S (S.BV b).1 (S.BV b).2:=by
 have nb2:(b:Int)≠S.HG\/S.HG<0:=by
  by_cases h:0<=S.HG;.obtain⟨g1,g2⟩:=(q.iw.wi false).BT h;have bN:S.ps S.HG.toNat=2:=g2;exact .inl λe=>by rw[<-e,FL]at bN;omega
  .exact .inr om
 have nb3:(b:Int)≠S.log\/S.log<0:=by
  by_cases h:0<=S.log;.obtain⟨g1,g2⟩:=(q.iw.wi true).BT h;have bN:S.ps S.log.toNat=2:=g2;exact .inl λe=>by rw[<-e,FL]at bN;omega
  .exact .inr om
 have key:∀(CV:Dv) (su:Int->Bool) (wr:Int->Option Nat) (v:Nat) (pe:Nat->Nat) (dn:Bool),CV.nb=S.D.nb->CV.P=S.D.P->CV.sz=S.D.sz->CV.en=S.D.en->CV.off=dn->(v=3\/S.jr (b:Int)=false)->(∀i,i≠b->CV.bl i=S.D.bl i)->(CV.bl b).nx<=S.D.P->v≠2->(v=1->(CV.bl b).nx=0)->
   BE {S with D:=CV,su:=su,wr:=wr,ps:=AX S.ps b v,pe:=pe,down:=dn}:=by
  intro CV su wr v pe dn h1 h2 ki h4 h5 h6 h7 h8 h9 UE
  have ps:∀i,S.ps i=2->AX S.ps b v i=2:=λi h=>by rw[CB _ _ (λe=>by subst e;omega)];exact h
  refine⟨⟨by show 2<=CV.nb/\CV.nb<=44;rw[h1];exact q.CT.nb,by show 2<=CV.P/\CV.P<=6;rw[h2];exact q.CT.P,by show 12<=CV.sz/\CV.sz<=50;rw[ki];exact q.CT.sz,by show 1<=CV.en/\CV.en<=1048576;rw[h4];exact q.CT.en⟩,h5,q.n0,⟨λk=>⟨λh=>?_,(q.iw.wi k).lo⟩,q.iw.ne⟩,λi hi=>?_,λi hi h=>?_,λi hi h=>?_,λy hy=>?_,q.SM,q.TP,λs p h=>?_,q.inj⟩
  .obtain⟨g1,g2⟩:=(q.iw.wi k).BT h
   exact⟨by show S.BT k<(CV.nb:Int);rw[h1];exact g1,ps _ g2⟩
  .show(CV.bl i).nx<=CV.P
   have PX:i<CV.nb:=hi
   rw[h2]
   by_cases e:i=b
   .subst e;exact h8
   .rw[h7 i e];exact q.LB i om
  .have PX:i<CV.nb:=hi
   have AA:AX S.ps b v i=2:=h
   by_cases e:i=b
   .subst e;rw[Am]at AA;exact absurd AA h9
   .rw[CB _ _ e]at AA;exact q.RM i om AA
  .have PX:i<CV.nb:=hi
   have AA:AX S.ps b v i=1:=h
   show(CV.bl i).nx=0
   by_cases e:i=b
   .subst e;rw[Am]at AA;exact UE AA
   .rw[CB _ _ e]at AA;rw[h7 i e];exact q.free i om AA
  .obtain⟨i,e1,e2,e3⟩:=q.jr y hy
   refine⟨i,e1,by show i<CV.nb;rw[h1];exact e2,?_⟩
   show AX S.ps b v i=3\/AX S.ps b v i=2/\_
   by_cases gY:i=b
   .subst gY
    rcases h6 with h6|h6
    .exact .inl (by rw[Am];exact h6)
    .have NK:S.jr y=true:=hy;rw[e1,h6]at NK;cases NK
   .rw[CB _ _ gY];exact e3
  .obtain⟨e1,e2,i,j,g1,g2,g3,g4,g5,g6,g7⟩:=q.map s p h
   have gY:i≠b:=λe=>by subst e;exact hm s p h j g3 g1
   refine⟨e1,e2,i,j,by show p=((i*CV.P+j:Nat):Int);rw[h2];exact g1,by show i<CV.nb;rw[h1];exact g2,by show j<CV.P;rw[h2];exact g3,?_,g5,by show j<(CV.bl i).nx;rw[h7 i gY];exact g6,by show((CV.bl i).pg j).st=2;rw[h7 i gY];exact g7⟩
   show AX S.ps b v i=2\/AX S.ps b v i=3
   rw[CB _ _ gY];exact g4
 have hu:AX S.ps b 3=S.ps:=funext λi=>by
  by_cases e:i=b;.subst e;rw[Am,h3]
  .exact CB _ _ e
 have NI:(S.BV b).2≠ .pow->S.jr (b:Int)=false:=λh=>hj.resolve_right h;unfold Ap.BV at NI ⊢;by_cases hs:S.su (b:Int)=true;.rw[AP hs]at NI ⊢;exact⟨key S.D _ S.wr 4 S.pe S.down rfl rfl rfl rfl q.pw (.inr (NI W0)) (λ_ _=>rfl) (q.LB b hb) om (λh=>by cases h),.inl rfl,.rf rfl W0⟩
 .rw[AM hs]at NI ⊢;have he:S.D.erase (b:Int)=if S.D.off=true then(S.D,50)else if S.D.en<=(S.D.bl b).er then(S.D,56)else if(S.D.n:Int)=S.D.cut then({S.D with bl:=AX S.D.bl b ⟨C8 5,S.D.P,(S.D.bl b).er+1⟩,n:=S.D.n+1,off:=true},50)else if S.D.CD S.D.n=true then({S.D with bl:=AX S.D.bl b ⟨C8 5,S.D.P,(S.D.bl b).er+1⟩,n:=S.D.n+1},55)else({S.D with bl:=AX S.D.bl b ⟨C8 1,0,(S.D.bl b).er+1⟩,n:=S.D.n+1},0):=by unfold Dv.erase;rw[AP ⟨om,om⟩];simp only[FL]
  rw[he]at NI ⊢;have p5:(AX S.D.bl b ⟨C8 5,S.D.P,(S.D.bl b).er+1⟩ b).nx<=S.D.P:=by rw[Am];exact BD _
  by_cases c0:S.D.off=true;.simp only[AP c0];have:=key S.D S.su S.wr 3 S.pe true rfl rfl rfl rfl c0 (.inl rfl) (λ_ _=>rfl) (q.LB b hb) om (λh=>by cases h);rw[hu]at this;exact⟨this,.inr rfl,λ_=> .inr rfl,λ_=>rfl⟩
  have hZ:S.down=false:=by rw[<-q.pw];exact Yw.2 c0
  by_cases c1:S.D.en<=(S.D.bl b).er;.simp only[AM c0,AP c1]at NI ⊢;exact⟨key S.D S.su _ 4 S.pe S.down rfl rfl rfl rfl q.pw (.inr (NI W0)) (λ_ _=>rfl) (q.LB b hb) om (λh=>by cases h),.inl rfl,.rf rfl W0⟩
  by_cases c3:(S.D.n:Int)=S.D.cut;.simp only[AM c0,AM c1,AP c3];have:=key {S.D with bl:=AX S.D.bl b ⟨C8 5,S.D.P,(S.D.bl b).er+1⟩,n:=S.D.n+1,off:=true} S.su S.wr 3 S.pe true rfl rfl rfl rfl rfl (.inl rfl) (λi h=>CB _ _ h) p5 om (λh=>by cases h);rw[hu]at this;exact⟨this,.inr rfl,λ_=> .inr rfl,λ_=>rfl⟩
  .by_cases c2:S.D.CD S.D.n=true;.simp only[AM c0,AM c1,AM c3,AP c2]at NI ⊢;exact⟨key {S.D with bl:=AX S.D.bl b ⟨C8 5,S.D.P,(S.D.bl b).er+1⟩,n:=S.D.n+1} S.su _ 4 S.pe S.down rfl rfl rfl rfl q.pw (.inr (NI W0)) (λi h=>CB _ _ h) p5 om (λh=>by cases h),.inl rfl,.rf rfl W0⟩
   .simp only[AM c0,AM c1,AM c3,AM c2]at NI ⊢;exact⟨key {S.D with bl:=AX S.D.bl b ⟨C8 1,0,(S.D.bl b).er+1⟩,n:=S.D.n+1} S.su _ 1 _ S.down rfl rfl rfl rfl q.pw (.inr (NI W0)) (λi h=>CB _ _ h) (by show(AX S.D.bl b _ b).nx<=_;rw[Am];exact CN _) om (λ_=>by show(AX S.D.bl b _ b).nx=0;rw[Am]),.inl rfl,.rf rfl W0⟩
theorem BE.unj(q:BE S)(h3:S.ps b=3):BE {S with jr:=Be S.jr (b:Int) false}:=by
 have ne:∀k,0<=S.BT k->S.BT k≠(b:Int):=λk h e=>by obtain⟨g1,g2⟩:=(q.iw.wi k).BT h;rw[e,FL]at g2;omega
 refine⟨q.CT,q.pw,q.n0,⟨λk=>⟨(q.iw.wi k).BT,(q.iw.wi k).lo⟩,q.iw.ne⟩,q.LB,q.RM,q.free,λy hy=>?_,λh=>?_,λh=>?_,λs p h=>?_,q.inj⟩
 .have NK:Be S.jr (b:Int) false y=true:=hy;unfold Be at NK;split at NK;.cases NK
  .exact q.jr y NK
 .show Be S.jr (b:Int) false S.log=true;unfold Be;rw[AM (show¬S.log=(b:Int)from ne true h)];exact q.SM h
 .show Be S.jr (b:Int) false S.HG=false;unfold Be;rw[AM (show¬S.HG=(b:Int)from ne false h)];exact q.TP h
 .obtain⟨e1,e2,i,j,g1,g2,g3,g4,g5,g6⟩:=q.map s p h;refine⟨e1,e2,i,j,g1,g2,g3,g4,?_,g6⟩;show Be S.jr (b:Int) false (i:Int)=false;unfold Be;split;.rfl
  .exact g5
theorem Alg(S:Ap)(b:Nat)(f:Int->Bool):({S with jr:=f}:Ap).BV b=({(S.BV b).1 with jr:=f},(S.BV b).2):=by
 unfold Ap.BV;by_cases h1:S.su (b:Int)=true;.rw[AP h1,AP h1]
 .rw[AM h1,AM h1];by_cases h2:(S.D.erase (b:Int)).2=50;.rw[AP h2,AP h2]
  .rw[AM h2,AM h2];by_cases h3:(S.D.erase (b:Int)).2=0;.rw[AP h3,AP h3]
   .rw[AM h3,AM h3]
theorem Hz(S:Ap)(b:Nat):(S.BV b).1.jr=S.jr:=by
 unfold Ap.BV;split;.rfl
 .split;.rfl
  .split<;>rfl
theorem BE.abl(q:BE S)(hb:b<S.D.nb)(h3:S.ps b=3)(hj:S.jr (b:Int)=true):BE {(S.BV b).1 with jr:=Be (S.BV b).1.jr (b:Int) false}/\((S.BV b).2= .done 0\/(S.BV b).2= .pow)/\KJ S (S.BV b).1 (S.BV b).2:=by
 have q1:=q.unj h3;have h:=q1.BV (b:=b) hb h3 (λs p h j MU e=>?_) (.inl (by show Be _ _ _ _=_;unfold Be;rw[AP rfl]));.rw[Alg]at h;rw[Hz];exact h
 .obtain⟨-,-,i,m,g1,g2,g3,g4,g5,-⟩:=q.map s p h;obtain⟨rfl,-⟩:=Id g3 MU (show i*S.D.P+m=b*S.D.P+j by have BG:p=((b*S.D.P+j:Nat):Int):=e;omega);rw[hj]at g5;cases g5
structure Bd (S:Ap)(k:Nat):Prop where
 last:S.last<S.next
 wr:∀b n,S.wr b=some n->n<S.next
 pe:∀b,S.pe b<=k
 nx:S.next<=k+1
 dn:S.D.n<=k
theorem Bd.mono{AZ:Nat}(q:Bd S k)(h:k<=AZ):Bd S AZ:=⟨q.last,q.wr,λb=>EM (q.pe b) h,by have:=q.nx;omega,EM q.dn h⟩
theorem IM.bd(h:IM sec data S AB o)(iw:IW S)(hn:S.D.nb<=44)(q:Bd S k):Bd AB (k+100):=by
 obtain⟨f,-,h1,h2⟩:=h.fr iw;have l1:=q.last;have l2:=q.nx;have l3:=q.dn;refine⟨by rw[f.last,h2];omega,λb n e=>?_,λb=>by rw[f.pe];have:=q.pe b;omega,by rw[h2];omega,om⟩;rw[h2]
 cases h with
 |ok h=>
  have g:=h.fr.wr;simp only[O9]at e;split at e;.cases e;omega
  .rw[g]at e;have:=q.wr b n e;omega
 |bad h _=>have g:=h.fr.wr;rw[g]at e;have:=q.wr b n e;omega
theorem EY.bd{l:GV}{es:List BI}(h:EY l S es AB o):∀{k:Nat},IW S->S.D.nb<=44->Bd S k->Bd AB (k+100*l.length):=by
 induction h with
 |nil=>intro k _ _ q;exact q.mono (OC _ _)
 |put h _ ih=>intro k iw hn q;obtain⟨f,iw1,-⟩:=h.fr iw;exact(ih iw1 (by rw[f.nb];exact hn) (h.bd iw hn q)).mono iM
 |bad h _=>intro k iw hn q;exact(h.bd iw hn q).mono iM
 |trim _ _ ih=>intro k iw hn q;exact(ih iw hn q).mono iM
 |skip _ _ ih=>intro k iw hn q;exact(ih iw hn q).mono iM
theorem EY.len{l:GV}{es:List BI}(h:EY l S es AB o):es.length<=l.length:=by
 induction h with
 |nil=>exact BD _
 |put _ _ ih=>exact Nat.succ_le_succ ih
 |bad _ _=>exact CN _
 |trim _ _ ih=>exact Nat.succ_le_succ ih
 |skip _ _ ih=>exact Nat.le_succ_of_le ih
theorem HO.bd{t:Nat}{es:List BI}(h:HO t es S AB o)(iw:IW S)(hn:S.D.nb<=44)(q:Bd S k):Bd AB (k+100*CF S es):=by
 obtain⟨f,-,h1,h2⟩:=h.fr iw;have l1:=q.last;have l2:=q.nx;have l3:=q.dn;have hm:(2*S.D.nb+2)*CF S es<=100*CF S es:=Xt _ om;have hl:AB.last<AB.next:=by
  rw[h2]
  cases h with
  |ok h=>simp only;omega
  |bad h _=>have:=(h.fr (S:={S with next:=S.next+CF S es}) ⟨λk=>⟨(iw.wi k).BT,(iw.wi k).lo⟩,iw.ne⟩).1.last;rw[this];simp only;omega
 exact⟨hl,λb n e=>by rw[f.wr]at e;have:=q.wr b n e;omega,λb=>by rw[f.pe];have:=q.pe b;omega,om,om⟩
theorem HU.bd{es:List BI}(h:HU es S AB o)(iw:IW S)(hn:S.D.nb<=44)(q:Bd S k):Bd AB (k+100*CF S es):=by
 cases h with
 |nil h=>exact q.mono (OC _ _)
 |ok h _=>have:=h.bd iw hn q;exact⟨this.last,this.wr,this.pe,this.nx,this.dn⟩
 |bad h _=>exact h.bd iw hn q
theorem f0(b:Nat)(q:Bd S k):Bd (S.BV b).1 (k+1):=by
 have l2:=q.nx;have l3:=q.dn;have g:=(S.D.oN (b:Int)).2.1;have hp:∀i,S.pe i<=k+1:=λi=>by have:=q.pe i;omega
 have hw:∀i n,O9 S.wr (b:Int) none i=some n->n<S.next:=λi n e=>by
  simp only[O9]at e;split at e;.cases e
  .exact q.wr i n e
 unfold Ap.BV;split;.exact⟨q.last,q.wr,hp,by simp only;omega,by simp only;omega⟩
 .split;.exact⟨q.last,q.wr,hp,by simp only;omega,by simp only;omega⟩
  .split
   .refine⟨q.last,hw,λi=>?_,by simp only;omega,by simp only;omega⟩;show AX S.pe b (S.pe b+1) i<=k+1;by_cases e:i=b;.subst e;rw[Am];have:=q.pe i;omega
    .rw[CB _ _ e];exact hp i
   .exact⟨q.last,hw,hp,by simp only;omega,by simp only;omega⟩
theorem KB.bd{l:List Int}(h:KB l S AB o):∀{k:Nat},Bd S k->Bd AB (k+l.length):=by
 induction h with
 |nil=>intro k q;exact q
 | @cons b l S AB o h t ih=>intro k q;have q1:=f0 b q;exact(ih ⟨q1.last,q1.wr,q1.pe,q1.nx,q1.dn⟩).mono iM
 | @bad b l S h=>intro k q;exact(f0 b q).mono iM
theorem Gr{es:List BI}(h:12<=S.D.sz):CF S es<=es.length+1:=Gm h
theorem LU.bd{l:GV}(h:LU l S AB o)(q:BE S)(b:Bd S k)(hl:l.length<=12):Bd AB (k+4000):=by
 have hn:=q.CT.nb.2;have key:∀{es:List BI} {S1 S2:Ap} {o:WO},EY l S es S1 (.done 0)->HU es S1 S2 o->Bd S2 (k+4000):=by intro es S1 S2 o a c;obtain⟨q1,k1,f1,-⟩:=a.inv q;have b1:=a.bd q.iw hn b;have b2:=c.bd q1.iw (by rw[f1.nb];exact hn) b1;have hr:CF S1 es<=es.length+1:=Gr (by rw[f1.sz];exact q.CT.sz.1);have he:=a.len;exact b2.mono om
 cases h with
 |ok a c=>exact key a c
 |bad a ho=>exact(a.bd q.iw hn b).mono om
 |WX a c ho=>exact key a c
variable {f:Nat->Nat}{g:Int->Int}{i:Nat}{p:Int}{ps:List Int}
theorem yV{p:Prop}(h:p:=by
 exact absurd (by rw[fQ,fQ,ei,ej]) (this j i (by simpa using hj) (by simpa using hi) c)):p:=h
theorem yW{p:Prop}(h:p:=by
 exact absurd (by rw[fQ,fQ,ei,ej]) (this i j (by simpa using hi) (by simpa using hj) c)):p:=h
structure Sm (S AB:Ap):Prop where
 nb:AB.D.nb=S.D.nb
 P:AB.D.P=S.D.P
 sz:AB.D.sz=S.D.sz
 en:AB.D.en=S.D.en
 CZ:AB.S=S.S
theorem Sm.trans(a:Sm S S1)(b:Sm S1 S2):Sm S S2:=⟨b.nb.trans a.nb,b.P.trans a.P,b.sz.trans a.sz,b.en.trans a.en,b.CZ.trans a.CZ⟩
theorem PT.sm(f:PT S AB):Sm S AB:=⟨f.nb,f.P,f.sz,f.en,f.CZ⟩
theorem W7:∀(es:List BI) (A:DM),(es.map (·.1)).Nodup->(∀s,s∉es.map (·.1)->es.foldl C9 A s=A s)/\∀e∈es,es.foldl C9 A e.1=if 0<=e.2 then some e.2 else none
 | [],A,_=>⟨λ_ _=>rfl,λe he=>by cases he⟩
 |x::r,A,h=>by
  rw[FU,RU]at h;obtain⟨h1,h2⟩:=W7 r (C9 A x) h.2;refine⟨λs hs=>?_,λe he=>?_⟩;.rw[FU,DD,not_or]at hs;rw[fR,h1 s hs.2];unfold C9;rw[AM hs.1]
  .rw[fR];rcases DD.1 he with rfl|he;.rw[h1 _ h.1];unfold C9;rw[AP rfl]
   .exact h2 e he
theorem Li(es:List BI)(A:DM):GB A es es.length=es.foldl C9 A:=by unfold GB;rw[NA]
theorem Sy(q:BE S)(ok:S.D.Ok)(s:Int):(S.rd s).length=S.D.sz:=by
 unfold Ap.rd
 cases hs:S.A s with
 |none=>exact VA
 |some p=>obtain⟨-,-,b,j,h1,h2,h3,h4,h5,h6,h7⟩:=q.map s p hs;obtain⟨g1,g2⟩:=Qg (b:=b) h3;have:=((ok.bl b h2).pg j h3).full (.inl h7);simp only[h1,FL,g1,g2,IS];omega
theorem EY.keys{l:GV}{es:List BI}(h:EY l S es AB o)(q:BE S)(ho:o= .done 0):(es.map (·.1)).Sublist (l.map (·.1))/\(∀s d,(s,some d)∈l->∃p:Nat,(s,(p:Int))∈es)/\(∀s,(s,none)∈l->(s,-1)∈es\/S.A s=none):=by
 induction h with
 |nil=>exact⟨.slnil,(λs d h=>by cases h),λs h=>by cases h⟩
 | @put sec data l S S1 AB p es o h r ih=>
  obtain⟨a,-⟩:=h.inv q;have f:=(h.fr q.iw).1;obtain⟨h1,h2,h3⟩:=ih a ho;refine⟨h1.cons_cons _,λs d hm=>?_,λs hm=>?_⟩
  .rcases DD.1 hm with e|hm;.cases e;exact⟨p,DW ..⟩
   .obtain⟨JW,h⟩:=h2 s d hm;exact⟨JW,Ck _ h⟩
  .rcases DD.1 hm with e|hm;.cases e
   .rcases h3 s hm with h|h;.exact .inl (Ck _ h)
    .exact .inr (by rw[f.A]at h;exact h)
 |bad h bW=>rcases bW with e|e<;>rw[e]at ho<;>cases ho
 | @trim sec l S AB es o h r ih=>
  obtain⟨h1,h2,h3⟩:=ih q ho;refine⟨h1.cons_cons _,λs d hm=>?_,λs hm=>?_⟩
  .rcases DD.1 hm with e|hm;.cases e
   .obtain⟨JW,h⟩:=h2 s d hm;exact⟨JW,Ck _ h⟩
  .rcases DD.1 hm with e|hm;.cases e;exact .inl (DW ..)
   .rcases h3 s hm with h|h;.exact .inl (Ck _ h)
    .exact .inr h
 | @skip sec l S AB es o h r ih=>
  obtain⟨h1,h2,h3⟩:=ih q ho;refine⟨h1.cons _,λs d hm=>?_,λs hm=>?_⟩
  .rcases DD.1 hm with e|hm;.cases e
   .exact h2 s d hm
  .rcases DD.1 hm with e|hm;.cases e;exact .inr h
   .exact h3 s hm
theorem LU.sm{l:GV}(h:LU l S AB o)(q:BE S):Sm S AB:=by
 have key:∀{es:List BI} {S1 S2:Ap} {o:WO},EY l S es S1 (.done 0)->HU es S1 S2 o->Sm S S2:=by intro es S1 S2 o a c;obtain⟨q1,k1,f1,-⟩:=a.inv q;obtain⟨⟨g1,g2,g3,g4,g5,-⟩,-⟩:=c.fr q1.iw;exact f1.sm.trans ⟨g1,g2,g3,g4,g5⟩
 cases h with
 |ok a c=>exact key a c
 |bad a ho=>exact(a.inv q).2.2.1.sm
 |WX a c ho=>exact key a c
def ng(l:GV)(S T:Ap):Prop:=(∀s,s∉l.map (·.1)->T.rd s=S.rd s)/\(∀s d,(s,some d)∈l->T.rd s=d)/\∀s,(s,none)∈l->T.rd s=List.replicate S.D.sz 0
theorem EY.qh{l:GV}{es:List BI}(a:EY l S es S1 (.done 0))(q:BE S)(AZ:IB S AB)(sm:Sm S AB)(hA:AB.A=GB S.A es es.length)(hp:∀e∈es,0<=e.2->∃data,(e.1,some data)∈l/\PU AB e.1 data e.2)(HA:(l.map (·.1)).Nodup)(hd:∀s d,(s,some d)∈l->d.length=S.D.sz):ng l S AB:=by
 obtain⟨h1,h2,h3⟩:=a.keys q rfl;obtain⟨n1,n2⟩:=W7 es S.A (HA.sublist h1);rw[Li]at hA;refine⟨λs hs=>?_,λs d hm=>?_,λs hm=>?_⟩;.refine Gq q AZ ⟨sm.P,sm.sz⟩ ?_;rw[hA];exact n1 s λe=>hs (h1.subset e)
 .obtain⟨p,he⟩:=h2 s d hm;obtain⟨MG,g1,g2⟩:=hp _ he (by simp only;omega);have e:MG=d:=by
   obtain⟨i,hi,ei⟩:=ah hm;obtain⟨j,hj,ej⟩:=ah g1;have:=(fe.1 HA);have hij:i=j:=by
    rcases Nat.lt_trichotomy i j with c|c|c;.exact yW
    .exact c
    .exact yV
   subst hij;rw[ei]at ej;cases ej;rfl
  rw[e]at g2;have hs:AB.A s=some (p:Int):=by rw[hA,n2 _ he,AP (by simp only;omega)]
  exact g2.rd hs (by rw[sm.sz];exact hd s d hm)
 .have hs:AB.A s=none:=by
   rw[hA];rcases h3 s hm with he|he;.rw[n2 _ he,AM W0]
   .by_cases hk:s∈es.map (·.1)
    .obtain⟨e,e1,e2⟩:=DK.1 hk;subst e2;rw[n2 _ e1];by_cases h0:0<=e.2
     .obtain⟨MG,g1,g2⟩:=hp _ e1 h0;obtain⟨i,hi,ei⟩:=ah hm;obtain⟨j,hj,ej⟩:=ah g1;have:=(fe.1 HA);rcases Nat.lt_trichotomy i j with c|c|c;.exact yW
      .subst c;rw[ei]at ej;cases ej
      .exact yV
     .rw[AM h0]
    .rw[n1 s hk,he]
  unfold Ap.rd;rw[hs];simp only[sm.sz]
theorem Mh(h:p∈S.mv b):∃j s,j<S.D.P/\p=((b*S.D.P+j:Nat):Int)/\S.A s=some p:=by unfold Ap.mv Eo at h;rw[JZ,DK]at h;obtain⟨⟨j,h1,h2⟩,h3⟩:=h;obtain⟨s,h4⟩:=aC.1 h3;exact⟨j,s,KI.1 h1,h2.symm,h4⟩
theorem Alh(hj:j<S.D.P)(h:S.A s=some ((b*S.D.P+j:Nat):Int)):((b*S.D.P+j:Nat):Int)∈S.mv b:=by unfold Ap.mv Eo;rw[JZ,DK];exact⟨⟨j,KI.2 hj,rfl⟩,aC.2 ⟨s,h⟩⟩
theorem ga:(S.mv b).length<=S.D.P:=by unfold Ap.mv;rw[Iq];exact Qx _ _
theorem FG.inv{es:List BI}(h:FG g S ps es S1)(q:BE S):BE S1/\IB S S1/\PT S S1/\S1.down=S.down:=by
 induction h with
 |nil=>exact⟨q,.refl _,.refl _,rfl⟩
 |snoc r h ih=>obtain⟨a,b,c,d⟩:=ih;obtain⟨BC,AR,MG,-⟩:=h.inv a;exact⟨BC,b.trans AR c.nb,c.trans (h.fr a.iw).1,(MG.dn W0).trans d⟩
theorem FG.bd{es:List BI}(h:FG g S ps es S1)(q:BE S)(hb:Bd S k):Bd S1 (k+100*ps.length)/\es.length=ps.length:=by
 induction h with
 |nil=>exact⟨hb,rfl⟩
 |snoc r h ih=>obtain⟨a,b,c,-⟩:=r.inv q;obtain⟨d,e⟩:=ih;exact⟨(h.bd a.iw a.CT.nb.2 d).mono (by rw[DX,nG];omega),by rw[DX,DX,e];rfl⟩
def Ap.Yk(S:Ap)(p:Int):List Nat:=((S.D.bl (p.toNat/S.D.P)).pg (p.toNat%S.D.P)).b.take S.D.sz
theorem Mj(h:S.A s=some p):S.Yk p=S.rd s:=by unfold Ap.rd Ap.Yk;rw[h]
theorem Sz(q:BE S)(k:IB S S1)(f:PT S S1)(h:S.A s=some p):S1.Yk p=S.Yk p:=by have:=Gq q k ⟨f.P,f.sz⟩ (s:=s) (by rw[f.A]);rw[<-Mj h,<-Mj (S:=S1) (s:=s) (p:=p) (by rw[f.A];exact h)]at this;exact this
theorem FG.es{g:Int->Int}{S S1:Ap}{ps:List Int}{es:List BI}(h:FG g S ps es S1)(q:BE S)(hm:∀p∈ps,∃s,S.A s=some p):es.map (·.1)=ps.map g/\(∀e∈es,∃p∈ps,e.1=g p/\PU S1 (g p) (S.Yk p) e.2/\∃b j:Nat,e.2=((b*S.D.P+j:Nat):Int)/\b<S.D.nb/\j<S.D.P/\(S.D.bl b).nx<=j/\S.ps b≠3)/\es.Pairwise (λx y=>x.2≠y.2):=by
 induction h with
 |nil=>exact⟨rfl,(λe he=>by cases he),.nil⟩
 | @snoc S1 S2 ps es p aek r h ih=>
  obtain⟨h1,h2,h3⟩:=ih λp hp=>hm p (TY _ hp);obtain⟨a,b,c,-⟩:=r.inv q;obtain⟨BC,AR,-,BG⟩:=h.inv a;obtain⟨k1,-⟩:=h.pg a;have f:=(h.fr a.iw).1;obtain⟨i,j,e1,e2,e3,e4,e5,e6,e7,e8⟩:=BG aek rfl;obtain⟨s,hs⟩:=hm p (Zf _ (aq _));have VY:S1.Yk p=S.Yk p:=Sz q b c hs;rw[c.nb]at e2;rw[c.P]at e1 e3;refine⟨by rw[IG,IG,h1];rfl,λe he=>?_,?_⟩
  .rcases GU.1 he with he|he;.obtain⟨JW,g1,g2,g3,g4⟩:=h2 e he;exact⟨JW,TY _ g1,g2,g3.JH AR f.P f.nb,g4⟩
   .rw[EV]at he;subst he;refine⟨p,Zf _ (aq _),rfl,by rw[<-VY];exact k1,i,j,by rw[e1],e2,e3,EM (b.nx i e2) e8,λki=>?_⟩;have:=AR.OA i (by rw[c.nb];exact e2) (b.OA i e2 ki);omega
  .rw[List.pairwise_append];refine⟨h3,List.pairwise_singleton _ _,λx hx y hy=>?_⟩;rw[EV]at hy;subst hy;obtain⟨JW,g1,g2,g3,-⟩:=h2 x hx;obtain⟨FB,JU,n,f1,f2,f3,f4,f5,f6,f7,-⟩:=g3.ex;intro e;have e:x.2=(aek:Int):=e;rw[c.P]at f1 f3;obtain⟨rfl,rfl⟩:=Id e3 f3 (show i*S.D.P+j=FB*S.D.P+JU from om);omega
theorem FG.ok{S S1:Ap}{b:Nat}{es:List BI}(h:FG (FZ S.A) S (S.mv b) es S1)(q:BE S):∀j x,es[j]?=some x->QO S.S (S.D.nb*S.D.P) (GB S.A es j) x:=by
 intro j x hx;obtain⟨-,h2,h3⟩:=h.es q λp hp=>let⟨_,s,_,_,h⟩:=Mh hp;⟨s,h⟩;obtain⟨p,g1,g2,g3,AR,k,e1,e2,e3,e4,e5⟩:=h2 x (I4 hx);obtain⟨j0,s,m1,m2,m3⟩:=Mh g1;rw[Fp m3 q.inj]at g2;obtain⟨r1,r2,-⟩:=q.map s p m3;refine⟨⟨om,om,om,?_⟩,?_⟩;.rw[e1];have:=Xt S.D.P (show AR+1<=S.D.nb from e2);rw[Ys]at this;omega
 .rintro⟨EU,hs,BZ⟩;rcases F2 j EU x.2 hs with h1|⟨JU,e,f1,f2,f3,f4,f5⟩;.obtain⟨-,-,i,m,g1,g2,g3,g4,g5,g6,-⟩:=q.map EU x.2 h1;obtain⟨rfl,rfl⟩:=Id g3 e3 (show i*S.D.P+m=AR*S.D.P+k from om);omega
  .obtain⟨l1,l2⟩:=FE.1 f2;obtain⟨l3,l4⟩:=FE.1 hx;have:=fe.1 h3 JU j l1 l3 f1;rw[l2,l4]at this;exact this f4
theorem FG.aj6{es:List BI}(h:FG (FZ S.A) S ((S.mv b).take i) es S1)(q:BE S)(ok:S.D.Ok)(hS:S.S<1000)(hd:S.down=false)(hp:(S.mv b)[i]?=some p):jw S b i p S1:=by
 obtain⟨a,k,c,d⟩:=h.inv q;obtain⟨j0,s,m1,m2,m3⟩:=Mh (I4 hp);obtain⟨r1,r2,AR,j,g1,g2,g3,g4,g5,g6,g7⟩:=q.map s p m3;obtain⟨d1,d2⟩:=Qg (b:=AR) g3;have hb:((S.D.bl AR).pg j).b.length=S.D.sz+64:=((ok.bl AR g2).pg j g3).full (.inl g7);have hk:=k.pg AR j g2 g6;have hn:=k.nx AR g2;have FT:=q.CT.nb;have hP:=q.CT.P;have BX:AR*S.D.P+j<900000000:=by have:=NB (show AR<=44 from om) (show S.D.P<=6 from om);omega
 refine⟨⟨_,g1,BX,?_,?_,?_,?_⟩,?_,a.pw.trans (d.trans hd)⟩;.rw[c.P,c.nb,d1];exact g2
 .rw[c.P,d1,d2];omega
 .rw[c.P,d1,d2,hk];exact .inl g7
 .rw[c.P,c.sz,d1,d2,hk,IS];omega
 .rw[Fp m3 q.inj];omega
theorem gf(q:BE S)(hm:∀s p,S.A s=some p->∀j:Nat,j<S.D.P->p≠((b*S.D.P+j:Nat):Int))(s:Int):(S.BV b).1.rd s=S.rd s:=by
 have key:∀(AB:Ap),AB.A=S.A->AB.D.P=S.D.P->AB.D.sz=S.D.sz->(∀i,i≠b->AB.D.bl i=S.D.bl i)->AB.rd s=S.rd s:=by
  intro AB h1 h2 h3 h4;unfold Ap.rd;rw[h1,h2,h3]
  cases hs:S.A s with
  |none=>rfl
  |some p=>obtain⟨-,-,AR,j,g1,g2,g3,-⟩:=q.map s p hs;obtain⟨d1,d2⟩:=Qg (b:=AR) g3;simp only[g1,FL,d1];rw[h4 AR λe=>by subst e;exact hm s p hs j g3 g1]
 have hE:∀i,i≠b->(S.D.erase (b:Int)).1.bl i=S.D.bl i:=by
  intro i hi;have PX:i≠(b:Int).toNat:=by rw[FL];exact hi
  unfold Dv.erase;split
  .split;.rfl
   .split;.rfl
    .split;.exact CB _ _ PX
     .split;.exact CB _ _ PX
      .exact CB _ _ PX
  .rfl
 obtain⟨⟨e1,e2,e3,e4⟩,-⟩:=S.D.oN (b:Int);unfold Ap.BV;split;.exact key _ rfl rfl rfl λ_ _=>rfl
 .split;.exact key _ rfl e2 e3 hE
  .split;.exact key _ rfl e2 e3 hE
   .exact key _ rfl e2 e3 hE
theorem Jm(S:Ap)(b:Nat):Sm S (S.BV b).1:=by
 obtain⟨⟨e1,e2,e3,e4⟩,-⟩:=S.D.oN (b:Int);unfold Ap.BV;split;.exact⟨rfl,rfl,rfl,rfl,rfl⟩
 .split;.exact⟨e1,e2,e3,e4,rfl⟩
  .split<;>exact⟨e1,e2,e3,e4,rfl⟩
theorem HU.sm{es:List BI}(h:HU es S AB o)(iw:IW S):Sm S AB:=by obtain⟨⟨g1,g2,g3,g4,g5,-⟩,-⟩:=h.fr iw;exact⟨g1,g2,g3,g4,g5⟩
theorem FG.hm:∀p∈S.mv b,∃s,S.A s=some p:=λp hp=>let⟨_,s,_,_,h⟩:=Mh hp;⟨s,h⟩
theorem FG.qh{es:List BI}(h:FG (FZ S.A) S (S.mv b) es S1)(k2:IB S1 S2)(PN:Sm S1 S2)(q:BE S)(ok:S.D.Ok)(hA:S2.A=GB S1.A es es.length):(∀s,S2.rd s=S.rd s)/\(S.ps b=3->∀s p,S2.A s=some p->∀j:Nat,j<S2.D.P->p≠((b*S2.D.P+j:Nat):Int)):=by
 obtain⟨q1,k1,f1,-⟩:=h.inv q;obtain⟨e1,e2,e3⟩:=h.es q FG.hm;have kk:=k1.trans k2 f1.nb;rw[Li,f1.A]at hA;have HA:(es.map (·.1)).Nodup:=by
  rw[e1];unfold Ap.mv Eo;refine List.pairwise_map.2 ?_;refine List.Pairwise.imp_of_mem (R:=λx y:Int=>x≠y) (λ{x y} hx hy BZ e=>BZ ?_) ?_;.obtain⟨_,s,_,_,h⟩:=Mh (S:=S) (b:=b) hx;obtain⟨_,EU,_,_,AA⟩:=Mh (S:=S) (b:=b) hy;rw[Fp h q.inj,Fp AA q.inj]at e;subst e;rw[h]at AA;cases AA;rfl
  .refine List.Pairwise.filter _ ?_;refine List.pairwise_map.2 (List.Pairwise.imp (R:=λx y:Nat=>x≠y) ?_ jQ);intro x y BZ e;have e2:((b*S.D.P+x:Nat):Int)=((b*S.D.P+y:Nat):Int):=e;exact BZ om
 obtain⟨n1,n2⟩:=W7 es S.A HA;refine⟨λs=>?_,λZ9 s p hs j hj hp=>?_⟩
 .by_cases hk:s∈es.map (·.1);.obtain⟨e,g1,g2⟩:=DK.1 hk;obtain⟨p,p1,p2,p3,AR,j,p4,-⟩:=e2 e g1;obtain⟨j0,EU,m1,m2,m3⟩:=Mh p1;rw[Fp m3 q.inj]at p2 p3;have BL:EU=s:=om;subst BL;have lW:S2.A EU=some e.2:=(by rw[hA,p2.symm,n2 e g1,AP om]);rw[(p3.JH k2 PN.P PN.nb).rd lW (by rw[PN.sz,f1.sz,Mj m3];exact Sy q ok EU),Mj m3]
  .exact Gq q kk ⟨by rw[PN.P,f1.P],by rw[PN.sz,f1.sz]⟩ (by rw[hA];exact n1 s hk)
 .rw[PN.P,f1.P]at hj hp;by_cases hk:s∈es.map (·.1)
  .obtain⟨e,g1,g2⟩:=DK.1 hk;obtain⟨JW,p1,p2,p3,AR,JU,p4,p5,ak1,p7,ak2⟩:=e2 e g1;have lW:S2.A s=some e.2:=(by rw[hA,g2.symm,n2 e g1,AP om]);rw[lW]at hs
   cases hs;obtain⟨rfl,rfl⟩:=Id ak1 hj (show AR*S.D.P+JU=b*S.D.P+j from om);exact ak2 Z9
  .have SK:S.A s=some p:=(by rw[<-n1 s hk,<-hA];exact hs);subst hp;have FO:=Alh hj SK;have:s∈es.map (·.1):=(by rw[e1];exact DK.2 ⟨_,FO,Fp SK q.inj⟩);exact hk this
theorem FG.cm{es:List BI}(h:FG (FZ S.A) S (S.mv b) es S1)(c:HU es S1 S2 o)(q:BE S)(ok:S.D.Ok):BE S2/\IB S S2/\Sm S S2/\KJ S S2 o/\(o≠ .done 0->S2.A=S.A)/\(o= .done 0->(∀s,S2.rd s=S.rd s)/\(S.ps b=3->∀s p,S2.A s=some p->∀j:Nat,j<S2.D.P->p≠((b*S2.D.P+j:Nat):Int))):=by obtain⟨q1,k1,f1,d1⟩:=h.inv q;obtain⟨-,e2,-⟩:=h.es q FG.hm;have ES:=h.ok q;obtain⟨q2,k2,c1,c2,c3⟩:=c.inv q1 (by rw[f1.CZ,f1.nb,f1.P,f1.A];exact ES) λe he h0=>let⟨p,_,g2,g3,_⟩:=e2 e he;⟨_,by rw[g2];exact g3⟩;have PN:=c.sm q1.iw;exact⟨q2,k1.trans k2 f1.nb,f1.sm.trans PN,by unfold KJ;rw[<-d1];exact c1,λho=>(c2 ho).trans f1.A,λho=>h.qh k2 PN q ok (c3 ho)⟩
theorem NE.inv(h:NE b S AB o)(q:BE S)(ok:S.D.Ok)(bd:Bd S k)(hb:b<S.D.nb)(h3:S.ps b=3)(hj:S.jr (b:Int)=false):BE AB/\Sm S AB/\Bd AB (k+4000)/\KJ S AB o/\∀s,AB.rd s=S.rd s:=by
 have hP:=q.CT.P;have DE:=q.CT.sz;have FT:=q.CT.nb;have hl:=ga (S:=S) (b:=b)
 cases h with
 | @bad S1 _ i p es _ m hp h ho=>
  obtain⟨q1,k1,f1,d1⟩:=m.inv q;obtain⟨b1,-⟩:=m.bd q bd;obtain⟨q2,k2,c2,-⟩:=h.inv q1;have f2:=(h.fr q1.iw).1;have b2:=h.bd q1.iw (by rw[f1.nb];exact FT.2) b1;have BX:((S.mv b).take i).length<=6:=by rw[IS];omega
  exact⟨q2,(f1.trans f2).sm,b2.mono om,by unfold KJ;rw[<-d1];exact c2,λs=>Gq q (k1.trans k2 f1.nb) ⟨by rw[f2.P,f1.P],by rw[f2.sz,f1.sz]⟩ (by rw[f2.A,f1.A])⟩
 | @WY S1 _ es _ m c ho=>obtain⟨q2,k2,sm,c1,c2,-⟩:=m.cm c q ok;obtain⟨q1,k1,f1,-⟩:=m.inv q;obtain⟨b1,EJ⟩:=m.bd q bd;have b2:=c.bd q1.iw (by rw[f1.nb];exact FT.2) b1;have hr:CF S1 es<=es.length+1:=Gr (by rw[f1.sz];exact DE.1);exact⟨q2,sm,b2.mono om,c1,λs=>Gq q k2 ⟨sm.P,sm.sz⟩ (by rw[c2 (by rcases ho with e|e<;>rw[e]<;>simp)])⟩
 | @ok S1 S2 es m c=>obtain⟨q2,k2,sm,c1,-,c3⟩:=m.cm c q ok;obtain⟨q1,k1,f1,-⟩:=m.inv q;obtain⟨b1,EJ⟩:=m.bd q bd;have b2:=c.bd q1.iw (by rw[f1.nb];exact FT.2) b1;have hr:CF S1 es<=es.length+1:=Gr (by rw[f1.sz];exact DE.1);obtain⟨g1,g2⟩:=c3 rfl;obtain⟨q3,-,pw⟩:=q2.BV (b:=b) (by rw[sm.nb];exact hb) (k2.OA b hb h3) (g2 h3) (.inl (by rw[k2.PH b hb om];exact hj));exact⟨q3,sm.trans (Jm _ _),(f0 b b2).mono om,c1.tr W0 pw,λs=>(gf q2 (g2 h3) s).trans (g1 s)⟩
theorem BE.vE(q:BE S)(ok:S.D.Ok)(hS:S.S<1000)(hd:S.down=false)(bd:Bd S k)(hk:k<900000000):∀b:Nat,b<S.D.nb->S.ps b=3->(S.mv b).length<=6/\S.pe b<900000000/\(∀i es S1 p,FG (FZ S.A) S ((S.mv b).take i) es S1->(S.mv b)[i]?=some p->jw S b i p S1)/\(∀es S1,FG (FZ S.A) S (S.mv b) es S1->∀j y,es[j]?=some y->QO S.S (S.D.nb*S.D.P) (GB S.A es j) y)/\(∀es S1 S2,FG (FZ S.A) S (S.mv b) es S1->HU es S1 S2 (.done 0)->S2.ps b=3):=by intro b hb h3;have hP:=q.CT.P;have hl:=ga (S:=S) (b:=b);have:=bd.pe b;exact⟨om,om,λi es S1 p h hp=>h.aj6 q ok hS hd hp,λes S1 h=>h.ok q,λes S1 S2 h c=>(h.cm c q ok).2.1.OA b hb h3⟩
theorem zK{p:Prop}(h:p:=by
 obtain⟨-,-,i,m,g1,g2,g3,g4,g5,-⟩:=q.map s p h
 obtain⟨rfl,-⟩:=Id g3 MU (show i*S.D.P+m=AR*S.D.P+j from om)
 rw[h3]at g5;cases g5):p:=h
theorem BE.CY(q:BE S):BE S.CY/\IB S S.CY/\Sm S S.CY/\S.CY.A=S.A/\S.CY.jr=S.jr/\S.CY.log<0/\S.CY.down=S.down/\∀k,Bd S k->Bd S.CY k:=by
 unfold Ap.CY;by_cases hl:0<=S.log
 .rw[AP hl];obtain⟨b,hb⟩:=Yt hl;have g2:S.ps S.log.toNat=2:=((q.iw.wi true).BT hl).2;have TE:0<=S.HG->S.HG≠S.log:=q.iw.ne false;have ly:IW {S with ps:=AX S.ps S.log.toNat 3,log:= -1}:=by
   refine⟨λk=>?_,λk hk=>?_⟩
   .cases k with
    |true=>exact⟨λh=>by simp only[Ap.BT]at h;simp at h,by simp[Ap.BT]⟩
    |false=>have w:=q.iw.wi false;refine⟨λh=>?_,w.lo⟩;obtain⟨h1,h2⟩:=w.BT h;refine⟨h1,?_⟩;have:=TE h;have hd:0<=S.HG:=h;show AX S.ps S.log.toNat 3 S.HG.toNat=2;rw[CB _ _ om];exact h2
   .cases k with
    |true=>simp[Ap.BT]at hk
    |false=>have hd:0<=S.HG:=hk;show S.HG≠ -1;omega
  obtain⟨a,c⟩:=q.close (k:=true) hl ly;exact⟨a,c,⟨rfl,rfl,rfl,rfl,rfl⟩,rfl,rfl,by simp,rfl,λk bd=>⟨bd.last,bd.wr,bd.pe,bd.nx,bd.dn⟩⟩
 .rw[AM hl];exact⟨q,.refl _,⟨rfl,rfl,rfl,rfl,rfl⟩,rfl,rfl,om,rfl,λk bd=>bd⟩
theorem rp.sm(f:rp S AB):Sm S AB:=⟨f.nb,f.P,f.sz,f.en,f.CZ⟩
theorem W8(S:Ap)(b i:Nat)(h:i≠b):(S.BV b).1.ps i=S.ps i:=by
 unfold Ap.BV;split;.exact CB _ _ h
 .split;.rfl
  .split<;>exact CB _ _ h
theorem Aub(S:Ap)(b:Nat):(S.BV b).1.A=S.A:=by
 unfold Ap.BV;split;.rfl
 .split;.rfl
  .split<;>rfl
theorem KB.inv{l:List Int}(h:KB l S AB o)(q:BE S)(hl:l.Nodup)(hj:∀y∈l,∃b:Nat,y=(b:Int)/\b<S.D.nb/\S.ps b=3/\S.jr (b:Int)=true):BE AB/\Sm S AB/\KJ S AB o/\(∀s,AB.rd s=S.rd s)/\(∀i:Nat,(i:Int)∉l->AB.ps i=S.ps i/\AB.jr (i:Int)=S.jr (i:Int)):=by
 induction h with
 |nil=>exact⟨q,⟨rfl,rfl,rfl,rfl,rfl⟩,.rf rfl W0,λ_=>rfl,λ_ _=>⟨rfl,rfl⟩⟩
 | @cons b l S AB o h t ih=>
  obtain⟨AR,e,h1,h2,h3⟩:=hj _ (DW ..);have:AR=b:=om
  subst this;obtain⟨q1,-,pw⟩:=q.abl h1 h2 h3;rw[h]at pw;have sm:=Jm S AR;rw[RU]at hl;have hm:∀s p,S.A s=some p->∀j:Nat,j<S.D.P->p≠((AR*S.D.P+j:Nat):Int):=λs p h j MU e=>by exact zK
  have XB:∀i:Nat,i≠AR->Be (S.BV AR).1.jr (AR:Int) false (i:Int)=S.jr (i:Int):=λi hi=>by unfold Be;rw[AM om,Hz]
  obtain⟨a1,a2,a3,a4,a5⟩:=ih q1 hl.2 λy hy=>by
   obtain⟨i,e5,g1,g2,g3⟩:=hj y (Ck _ hy);have BZ:i≠AR:=λBG=>by subst BG;rw[e5]at hy;exact hl.1 hy
   exact⟨i,e5,by show i<(S.BV AR).1.D.nb;rw[sm.nb];exact g1,by show(S.BV AR).1.ps i=3;rw[W8 S AR i BZ];exact g2,by show Be _ _ _ _=_;rw[XB i BZ];exact g3⟩
  refine⟨a1,sm.trans ⟨a2.nb,a2.P,a2.sz,a2.en,a2.CZ⟩,pw.tr W0 a3,λs=>(a4 s).trans (gf q hm s),λi hi=>?_⟩;rw[DD,not_or]at hi;have BZ:i≠AR:=λBG=>hi.1 (by rw[BG]);obtain⟨c1,c2⟩:=a5 i hi.2;exact⟨c1.trans (W8 S AR i BZ),c2.trans (XB i BZ)⟩
 | @bad b l S h=>
  obtain⟨AR,e,h1,h2,h3⟩:=hj _ (DW ..);have:AR=b:=om
  subst this;have hm:∀s p,S.A s=some p->∀j:Nat,j<S.D.P->p≠((AR*S.D.P+j:Nat):Int):=λs p h j MU e=>by exact zK
  obtain⟨a1,-,a3⟩:=q.BV h1 h2 hm (.inr h);rw[h]at a3;refine⟨a1,Jm S AR,a3,gf q hm,λi hi=>?_⟩;rw[DD,not_or]at hi;exact⟨W8 S AR i λBG=>hi.1 (by rw[BG]),by rw[Hz]⟩
theorem OH.len(q:BE S){D:List Int}(h:OH S.A D):D.length<=S.S:=by refine Da S.S D (h.lt.imp λ{a b} h=>om) λx hx=>?_;have h1:=(h.mem x).1 hx;obtain⟨p,hp⟩:=SV.1 h1;obtain⟨g1,g2,-⟩:=q.map x p hp;exact⟨g1,g2⟩
theorem az.len(q:BE S){J:List Int}(h:az S.jr J):J.length<=S.D.nb:=by refine Da S.D.nb J (h.lt.imp λ{a b} h=>om) λx hx=>?_;obtain⟨b,e1,e2,-⟩:=q.jr x ((h.mem x).1 hx);omega
theorem BE.kJ{D:List Int}(q:BE S)(bd:Bd S k)(hS:S.S<=12)(hD:OH S.A D)(h:HO 3 (Bf S.A D) S.CY S1 o):BE S1/\IB S S1/\Sm S S1/\S1.A=S.A/\Bd S1 (k+1600)/\KJ S S1 o/\(∀s,S1.rd s=S.rd s)/\∀y,S.jr y=true->∃b:Nat,y=(b:Int)/\b<S1.D.nb/\S1.ps b=3/\S1.jr (b:Int)=true:=by
 obtain⟨qc,kc,sc,cA,cj,cl,cd,cb⟩:=q.CY;have hD':=hD.len q;obtain⟨q1,k1,c1⟩:=h.inv qc;obtain⟨f,-⟩:=h.fr qc.iw;have b1:=h.bd qc.iw (by rw[sc.nb];exact q.CT.nb.2) (cb k bd);have hr:CF S.CY (Bf S.A D)<=(Bf S.A D).length+1:=Gr (by rw[sc.sz];exact q.CT.sz.1);have MI:(Bf S.A D).length=D.length:=by unfold Bf;rw[DC]
 have sm:=sc.trans f.sm;have kk:=kc.trans k1 sc.nb;refine⟨q1,kk,sm,f.A.trans cA,b1.mono om,by unfold KJ;rw[<-cd];exact c1,λs=>Gq q kk ⟨sm.P,sm.sz⟩ (by rw[f.A,cA]),λy hy=>?_⟩;obtain⟨b,e1,e2,e3⟩:=qc.jr y (by rw[cj];exact hy);have oK:b<S.D.nb:=by rw[sc.nb]at e2;exact e2
 have h3:S.CY.ps b=3:=by
  rcases e3 with e3|⟨-,e4⟩;.exact e3
  .omega
 refine⟨b,e1,by rw[sm.nb];exact oK,k1.OA b e2 h3,?_⟩;rw[k1.PH b e2 om,cj,<-e1];exact hy
theorem QX.inv(h:QX S AB o)(q:BE S)(bd:Bd S k)(hS:S.S<=12):BE AB/\Sm S AB/\Bd AB (k+4000)/\KJ S AB o/\∀s,AB.rd s=S.rd s:=by
 cases h with
 |bad hD h ho=>obtain⟨a,b,c,d,e,f,i,-⟩:=q.kJ bd hS hD h;exact⟨a,c,e.mono om,f,i⟩
 | @run D J S1 AB o hD h hJ e=>obtain⟨a,b,c,d,e1,f,i,j⟩:=q.kJ bd hS hD h;obtain⟨a1,a2,a3,a4,-⟩:=e.inv a (hJ.lt.imp λ{a b} h=>om) λy hy=>j y ((hJ.mem y).1 hy);have b1:=e.bd e1;have hl:=hJ.len q;have FT:=q.CT.nb;refine⟨a1,c.trans a2,b1.mono om,f.tr W0 a3,λs=>(a4 s).trans (i s)⟩
theorem Age{J:List Int}(h:J.Pairwise (·< ·)){y:Int}(hy:J[i]?=some y):y∉J.take i:=by intro hm;obtain⟨j,hj,e⟩:=ah hm;rw[IS]at hj;rw[List.getElem_take]at e;obtain⟨l1,l2⟩:=FE.1 hy;have:=fe.1 h j i om l1 om;omega
theorem BE.sG(q:BE S)(bd:Bd S k)(hS:S.S<=12)(hk:k<890000001):∀D J S1 i Si,OH S.A D->HO 3 (Bf S.A D) S.CY S1 (.done 0)->az S.jr J->KB (J.take i) S1 Si (.done 0)->∀y,J[i]?=some y->∃b:Nat,y=(b:Int)/\b<Si.D.nb/\(Si.ps b=2\/Si.ps b=3)/\Si.pe b<900000000/\Si.D.n+1<900000000:=by
 intro D J S1 i Si hD h hJ e y hy;obtain⟨a,b,c,d,e1,f,ii,j⟩:=q.kJ bd hS hD h;have HA:J.Nodup:=hJ.lt.imp λ{a b} h=>om
 obtain⟨a1,a2,a3,a4,a5⟩:=e.inv a (HA.sublist (List.take_sublist _ _)) λy hy=>j y ((hJ.mem y).1 (cO hy));have b1:=e.bd e1;have hl:=hJ.len q;have FT:=q.CT.nb;have BX:(J.take i).length<=44:=by rw[IS];omega
 obtain⟨x,x1,x2,x3,x4⟩:=j y ((hJ.mem y).1 (I4 hy));obtain⟨y1,y2⟩:=a5 x (by rw[<-x1];exact Age hJ.lt hy);have h1:=b1.pe x;have h2:=b1.dn;exact⟨x,x1,by rw[a2.nb];exact x2,.inr (by rw[y1];exact x3),om,om⟩
def Cq(f:Nat->Nat):Nat->Nat
 |0=>0
 |n+1=>Cq f n+f n
theorem Dg{f g:Nat->Nat}:∀{n},(∀i,i<n->f i<=g i)->Cq f n<=Cq g n
 |0,_=>BD _
 |n+1,h=>by have h1:=Dg (n:=n) λi hi=>h i om;have h2:=h n om;simp only[Cq];omega
theorem Jo{g:Nat->Nat}{n:Nat}(h:∀i,i<n->f i=g i):Cq f n=Cq g n:=Nat.le_antisymm (Dg λi hi=>Nat.le_of_eq (h i hi)) (Dg λi hi=>Nat.le_of_eq (h i hi).symm)
theorem S9{f g:Nat->Nat}{i:Nat}:∀{n},i<n->(∀j,j<n->j≠i->g j=f j)->Cq g n+f i=Cq f n+g i
 |n+1,hi,h=>by
  simp only[Cq];by_cases e:i=n;.subst e;have:=Jo (f:=g) (g:=f) (n:=i) λj hj=>h j om om;omega
  .have h1:=S9 (f:=f) (g:=g) (i:=i) (n:=n) om λj hj=>h j om;have h2:=h n om (λBG=>e BG.symm);omega
theorem Ee(f g:Nat->Nat):∀n,Cq (λi=>f i+g i) n=Cq f n+Cq g n
 |0=>rfl
 |n+1=>by simp only[Cq];rw[Ee f g n];omega
theorem C3(c:Nat):∀n,Cq (λ_=>c) n=n*c
 |0=>by simp[Cq]
 |n+1=>by simp only[Cq];rw[C3 c n,Ys]
theorem Hg(c:Nat)(f:Nat->Nat):∀n,Cq (λi=>c*f i) n=c*Cq f n
 |0=>rfl
 |n+1=>by simp only[Cq];rw[Hg c f n,SQ]
theorem Xb{f:Nat->Nat}{i:Nat}:∀{n},i<n->f i<=Cq f n
 |n+1,hi=>by
  simp only[Cq];by_cases e:i=n;.subst e;omega
  .have:=Xb (f:=f) (i:=i) (n:=n) om;omega
abbrev Wt:=Nat->Nat->Bool->Bool->Nat->Nat
def GG(w:Wt)(S:Ap)(b:Nat):Nat:=w b (S.ps b) (S.jr (b:Int)) (S.su (b:Int)) (S.D.bl b).nx
def An(w:Wt)(S:Ap):Nat:=Cq (GG w S) S.D.nb
def rem(l:List Int)(n:Nat):Nat:=(l.filter λi=>decide ((n:Int)<=i)).length
theorem gh(l:List Int)(n:Nat):rem l (n+1)<=rem l n:=by
 induction l with
 |nil=>exact BD _
 |cons a r ih=>
  unfold rem at ih ⊢;simp only[RT];by_cases h:((n+1:Nat):Int)<=a;.rw[AP (CM h),AP (CM om)];simp only[FX];omega
  .rw[AM (by rw[CW h];simp)];split;.simp only[FX];omega
   .exact ih
theorem wB{l:List Int}{n:Nat}(h:(n:Int)∈l):rem l (n+1)+1<=rem l n:=by
 induction l with
 |nil=>cases h
 |cons a r ih=>
  have h0:=gh r n;unfold rem at ih h0 ⊢;simp only[RT];rcases DD.1 h with rfl|h;.rw[AM (by rw[CW om];simp),AP (CM (Int.le_refl _))];simp only[FX];omega
  .have:=ih h;by_cases h:((n+1:Nat):Int)<=a;.rw[AP (CM h),AP (CM om)];simp only[FX];omega
   .rw[AM (by rw[CW h];simp)];split;.simp only[FX];omega
    .exact this
theorem F3(l:List Int){n m:Nat}(h:n<=m):rem l m<=rem l n:=by
 induction h with
 |refl=>exact BD _
 |step _ ih=>exact EM (gh l _) ih
structure KV (w:Wt)(k:Bool)(P a c:Nat):Prop where
 cl:∀b j s,w b 3 j s P<=w b 2 j s P
 op:∀b s,w b 2 k s 0<=w b 1 false s 0
 pg:∀b s n,n<P->w b 2 k s (n+1)<=w b 2 k s n+a
 fl:∀b s n,n<P->w b 3 k true (n+1)<=w b 2 k s n+c
def JA(S:Ap)(l:List Int):Prop:=∀n,S.D.CD n=true->((n:Nat):Int)∈l
section
variable {k:Bool}{all:List Nat}{w:Wt}{l:List Int}{a c:Nat}
theorem Hh(hn:AB.D.nb=S.D.nb)(hi:i<S.D.nb)(h:∀j,j<S.D.nb->j≠i->AB.ps j=S.ps j/\AB.jr ((j:Nat):Int)=S.jr ((j:Nat):Int)/\AB.su ((j:Nat):Int)=S.su ((j:Nat):Int)/\(AB.D.bl j).nx=(S.D.bl j).nx):An w AB+GG w S i=An w S+GG w AB i:=by unfold An;rw[hn];exact S9 hi λj hj e=>by obtain⟨h1,h2,h3,h4⟩:=h j hj e;unfold GG;rw[h1,h2,h3,h4]
theorem Agh(hn:AB.D.nb=S.D.nb)(h:∀j,j<S.D.nb->AB.ps j=S.ps j/\AB.jr ((j:Nat):Int)=S.jr ((j:Nat):Int)/\AB.su ((j:Nat):Int)=S.su ((j:Nat):Int)/\(AB.D.bl j).nx=(S.D.bl j).nx):An w AB=An w S:=by unfold An;rw[hn];exact Jo λj hj=>by obtain⟨h1,h2,h3,h4⟩:=h j hj;unfold GG;rw[h1,h2,h3,h4]
theorem Y8(T:Ap)(k:Bool)(b:Int):(T.put k b).ps=T.ps/\(T.put k b).jr=T.jr/\(T.put k b).su=T.su/\(T.put k b).D=T.D:=by unfold Ap.put;cases k<;>exact⟨rfl,rfl,rfl,rfl⟩
theorem BE.jrS(q:BE S)(h:0<=S.BT k):S.jr (S.BT k)=k:=by
 cases k with
 |false=>exact q.TP h
 |true=>exact q.SM h
theorem adr(q:BE S)(p:KV w k S.D.P a c):An w (S.cls k)<=An w S:=by
 by_cases h:0<=S.BT k/\(S.D.bl (S.BT k).toNat).nx=S.D.P
 .obtain⟨g1,g2⟩:=(q.iw.wi k).BT h.1;obtain⟨b,hb⟩:=Yt h.1;rw[hb,FL]at h g2;have e:S.cls k=({S with ps:=AX S.ps b 3}).put k (-1):=by unfold Ap.cls;rw[hb,FL,AP h]
  obtain⟨e1,e2,e3,e4⟩:=Y8 {S with ps:=AX S.ps b 3} k (-1);rw[<-e]at e1 e2 e3 e4;have:=Hh (w:=w) (S:=S) (AB:=S.cls k) (i:=b) (by rw[e4]) om λj _ hj=>⟨by rw[e1];exact CB _ _ hj,by rw[e2],by rw[e3],by rw[e4]⟩;unfold GG at this;rw[e1,e2,e3,e4,g2]at this;simp only[Am,h.2]at this;have:=p.cl b (S.jr (b:Int)) (S.su (b:Int));omega
 .have e:S.cls k=S:=by unfold Ap.cls;rw[AM h]
  rw[e];exact BD _
theorem Agi(q:BE S)(p:KV w k S.D.P a c)(h:S.HQ k=some S2):An w S2<=An w S:=by
 unfold Ap.HQ at h;by_cases hs:S.BT k<0
 .rw[AP hs]at h;split at h;.cases h
  .rename_i hc;rcases F1 S.ps S.pe 1 S.D.nb with⟨h1,-⟩|⟨b,hb,h1,h2⟩;.rw[h1]at hc;omega
   .rw[h1,FL]at h
    cases h;obtain⟨e1,e2,e3,e4⟩:=Y8 {S with ps:=AX S.ps b 2,jr:=if k=true then Be S.jr (b:Int) true else S.jr} k (b:Int);have hj:S.jr (b:Int)=false:=Yw.2 λhj=>by obtain⟨AR,e,-,h3⟩:=q.jr _ hj;have:b=AR:=om;subst this;rcases h3 with h3|⟨h3,-⟩<;>omega
    have hx:=q.free b hb h2;have:=Hh (w:=w) (S:=S) (AB:=Ap.put {S with ps:=AX S.ps b 2,jr:=if k=true then Be S.jr (b:Int) true else S.jr} k (b:Int)) (i:=b) (by rw[e4]) hb λj _ hj=>⟨by rw[e1];exact CB _ _ hj,by
     rw[e2];cases k with
     |false=>rfl
     |true=>exact AM om,by rw[e3],by rw[e4]⟩
    unfold GG at this;rw[e1,e2,e3,e4]at this;simp only[Am,hx,h2,hj]at this;have hk:(if k=true then Be S.jr (b:Int) true else S.jr) (b:Int)=k:=by
     cases k with
     |false=>exact hj
     |true=>exact AP rfl
    rw[hk]at this;have:=p.op b (S.su (b:Int));omega
 .rw[AM hs]at h;cases h;exact BD _
theorem JA.eq(h:JA S l)(e:AB.D.CD=S.D.CD):JA AB l:=λn hn=>h n (by rw[<-e];exact hn)
theorem gi(q:BE S)(p:KV w k S.D.P a c)(hl:JA S l):An w (S.w1 k all).1+c*rem l (S.w1 k all).1.D.n<=An w S+c*rem l S.D.n+a/\((S.w1 k all).2= .again->An w (S.w1 k all).1+c*rem l (S.w1 k all).1.D.n<=An w S+c*rem l S.D.n)/\S.D.n<=(S.w1 k all).1.D.n:=by
 have q1:=(q.cls k).1;have h1:=adr q p;have hD:=gJ S k
 cases ho:(S.cls k).HQ k with
 |none=>
  have e:S.w1 k all=(S.cls k,.full):=by unfold Ap.w1;rw[ho]
  rw[e];simp only[hD];exact⟨om,(λh=>by cases h),BD _⟩
 |some S2=>
  obtain⟨q2,-,MU⟩:=q1.HQ ho;have h2:=Agi q1 (by rw[hD];exact p) ho;have hx:=q.aef ho;obtain⟨-,aA,SK,-⟩:=q1.iw.HQ ho;obtain⟨g1,g2⟩:=(q2.iw.wi k).BT SK;obtain⟨b,hb⟩:=Yt SK;have MJ:S2.D=S.D:=aA.trans hD;rw[hb,FL]at hx g2;have dd:=q2.jrS SK;rw[hb]at dd;have Le:b<S2.D.nb:=om
  have hPn:(S2.D.bl b).nx<S.D.P:=by rw[<-MJ];exact hx
  have f1:=Dv.aei (all:=all) Le hx;have HB:∀j,((S2.D.wr b all).bl j).nx=if j=b then(S2.D.bl b).nx+1 else(S2.D.bl j).nx:=λj=>by
   show(AX S2.D.bl b _ j).nx=_;by_cases e:j=b;.subst e;rw[Am,AP rfl]
   .rw[CB _ _ e,AM e]
  have lV:rem l (S2.D.n+1)<=rem l S.D.n:=by rw[MJ];exact gh _ _
  have hm:c*rem l (S2.D.n+1)<=c*rem l S.D.n:=RP _ lV;have pgd:∀T:Ap,T.D=S2.D.wr b all->T.ps=S2.ps->T.jr=S2.jr->T.su=S2.su->An w T<=An w S2+a:=λT e1 e2 e3 e4=>by have:=Hh (w:=w) (S:=S2) (AB:=T) (i:=b) (by rw[e1];rfl) Le λj _ hj=>⟨by rw[e2],by rw[e3],by rw[e4],by rw[e1,HB,AM hj]⟩;unfold GG at this;rw[e1,e2,e3,e4,HB,AP rfl,g2,dd]at this;have:=p.pg b (S2.su (b:Int)) _ hPn;omega
  by_cases gy:S2.D.off=true;.rw[AP gy]at f1;have e:S.w1 k all=({S2 with down:=true},.pow):=pZ;rw[e];have e2:An w {S2 with down:=true}=An w S2:=Agh rfl λ_ _=>⟨rfl,rfl,rfl,rfl⟩;show An w {S2 with down:=true}+c*rem l S2.D.n<=_/\_/\S.D.n<=S2.D.n;rw[e2,MJ];exact⟨om,(λh=>by cases h),BD _⟩
  rw[AM gy]at f1;have JE:(S2.D.wr b all).n=S2.D.n+1:=rfl;by_cases hc:(S2.D.n:Int)=S2.D.cut;.rw[AP hc]at f1;have e:S.w1 k all=({S2 with D:=S2.D.wr b all,down:=true},.pow):=pZ;rw[e];have:=pgd {S2 with D:=S2.D.wr b all,down:=true} rfl rfl rfl rfl;simp only[JE];exact⟨om,(λh=>by cases h),by rw[MJ];exact QD _⟩
  rw[AM hc]at f1;by_cases GR:S2.D.CD S2.D.n=true;.rw[AP GR]at f1;have e:S.w1 k all=(({S2 with D:=S2.D.wr b all,su:=Be S2.su (b:Int) true,ps:=AX S2.ps b 3}:Ap).put k (-1),.again):=pY;rw[e];obtain⟨e1,e2,e3,e4⟩:=Y8 ({S2 with D:=S2.D.wr b all,su:=Be S2.su (b:Int) true,ps:=AX S2.ps b 3}:Ap) k (-1);have h3:=Hh (w:=w) (S:=S2) (AB:=({S2 with D:=S2.D.wr b all,su:=Be S2.su (b:Int) true,ps:=AX S2.ps b 3}:Ap).put k (-1)) (i:=b) (by rw[e4];rfl) Le λj _ hj=>⟨by rw[e1];exact CB _ _ hj,by rw[e2],by rw[e3];exact AM om,by rw[e4,HB,AM hj]⟩;unfold GG at h3;rw[e1,e2,e3,e4]at h3;simp only[Am,HB,AP,g2,dd]at h3;rw[show Be S2.su (b:Int) true (b:Int)=true from AP rfl]at h3;have h4:=p.fl b (S2.su (b:Int)) _ hPn;have h5:rem l (S2.D.n+1)+1<=rem l S.D.n:=(by rw[MJ]at GR ⊢;exact wB (hl _ GR));have h6:c*(rem l (S2.D.n+1)+1)<=c*rem l S.D.n:=RP _ h5;rw[SQ,RW]at h6;simp only[e4,JE];exact⟨om,λ_=>om,by rw[MJ];exact QD _⟩
  .rw[AM GR]at f1;have e:S.w1 k all=({S2 with D:=S2.D.wr b all},.done (b*S2.D.P+(S2.D.bl b).nx)):=pY;rw[e];have:=pgd {S2 with D:=S2.D.wr b all} rfl rfl rfl rfl;simp only[JE];exact⟨om,(λh=>by cases h),by rw[MJ];exact QD _⟩
theorem GX.GS(h:GX k all S AB r)(q:BE S)(p:KV w k S.D.P a c)(hl:JA S l):An w AB+c*rem l AB.D.n<=An w S+c*rem l S.D.n+a/\S.D.n<=AB.D.n:=by
 induction h with
 |stop h=>obtain⟨h1,-,h2⟩:=gi (all:=all) q p hl;exact⟨h1,h2⟩
 | @more S AB r h _ ih=>obtain⟨-,h1,h2⟩:=gi (all:=all) q p hl;have f:=St S k all;obtain⟨h3,h4⟩:=ih (q.w1 k all).1 (by rw[f.P];exact p) (hl.eq f.CD);have:=h1 h;exact⟨om,EM h2 h4⟩
end
variable {BC c m p t z:Nat}{ls:List LE}{w:Wt}
theorem zM{p:Prop}(h:p:=by
 simp only[Cq,ih]
 by_cases h:b<n
 .rw[AP h,AM om,AP om];rfl
 .rw[AM h]
  by_cases AA:n=b
  .subst AA;rw[AP rfl,AP om];omega
  .rw[AM om,AM om]):p:=h
structure apb (w:Wt)(P a BC c:Nat):Prop where
 d:KV w false P a c
 l:KV w true P BC c
section
variable {l:List Int}{a:Nat}
theorem IM.GS(h:IM sec data S AB o)(q:BE S)(p:KV w false S.D.P a c)(hl:JA S l):An w AB+c*rem l AB.D.n<=An w S+c*rem l S.D.n+a/\S.D.n<=AB.D.n:=by
 have q0:BE {S with next:=S.next+1}:=⟨q.CT,q.pw,Nat.le_succ_of_le q.n0,⟨λk=>⟨(q.iw.wi k).BT,(q.iw.wi k).lo⟩,q.iw.ne⟩,q.LB,q.RM,q.free,q.jr,q.SM,q.TP,q.map,q.inj⟩
 cases h with
 |ok h=>exact h.GS q0 p hl
 |bad h _=>exact h.GS q0 p hl
theorem LW.GS(h:LW z ls S AB o)(q:BE S)(p:KV w true S.D.P BC c)(hl:JA S l):An w AB+c*rem l AB.D.n<=An w S+c*rem l S.D.n+BC*ls.length/\S.D.n<=AB.D.n:=by
 induction h with
 |nil=>exact⟨OC _ _,BD _⟩
 |cons h _ ih=>obtain⟨h1,h2⟩:=h.GS q p hl;have f:=h.fr;obtain⟨h3,h4⟩:=ih (h.inv q).1 (by rw[f.P];exact p) (hl.eq f.CD);rw[FX,Zc];exact⟨om,EM h2 h4⟩
 |bad h _=>obtain⟨h1,h2⟩:=h.GS q p hl;rw[FX,Zc];exact⟨om,h2⟩
theorem BE.cI(q:BE S)(n m:Nat)(h:S.next<=n):BE {S with next:=n,last:=m}:=⟨q.CT,q.pw,EM q.n0 h,⟨λk=>⟨(q.iw.wi k).BT,(q.iw.wi k).lo⟩,q.iw.ne⟩,q.LB,q.RM,q.free,q.jr,q.SM,q.TP,q.map,q.inj⟩
theorem HO.GS{es:List BI}(h:HO k es S AB o)(q:BE S)(p:KV w true S.D.P BC c)(hl:JA S l):An w AB+c*rem l AB.D.n<=An w S+c*rem l S.D.n+BC*CF S es/\S.D.n<=AB.D.n:=by
 have hL:(Ed k S es).length=CF S es:=by unfold Ed Ks;simp
 cases h with
 |ok h=>have:=h.GS (q.cI (S.next+CF S es) S.last (OC _ _)) p hl;rw[hL]at this;exact this
 |bad h _=>have:=h.GS (q.cI (S.next+CF S es) S.last (OC _ _)) p hl;rw[hL]at this;exact this
theorem HU.GS{es:List BI}(h:HU es S AB o)(q:BE S)(p:KV w true S.D.P BC c)(hl:JA S l):An w AB+c*rem l AB.D.n<=An w S+c*rem l S.D.n+(if es=[]then 0 else BC*CF S es)/\S.D.n<=AB.D.n:=by
 cases h with
 |nil h=>exact⟨OC _ _,BD _⟩
 |ok h hn=>rw[AM hn];exact h.GS q p hl
 | @bad _ _ hn h _=>rw[AM hn];exact h.GS q p hl
theorem EY.GS{g:GV}{es:List BI}(h:EY g S es AB o)(q:BE S)(p:KV w false S.D.P a c)(hl:JA S l):An w AB+c*rem l AB.D.n<=An w S+c*rem l S.D.n+a*(g.filter λx=>x.2.isSome).length/\S.D.n<=AB.D.n:=by
 induction h with
 |nil=>exact⟨OC _ _,BD _⟩
 |put h _ ih=>obtain⟨h1,h2⟩:=h.GS q p hl;have f:=(h.fr q.iw).1;obtain⟨h3,h4⟩:=ih (h.inv q).1 (by rw[f.P];exact p) (hl.eq f.CD);rw[nE rfl,FX,Zc];exact⟨om,EM h2 h4⟩
 |bad h _=>obtain⟨h1,h2⟩:=h.GS q p hl;rw[nE rfl,FX,Zc];exact⟨om,h2⟩
 |trim _ _ ih=>rw[nF W0];exact ih q p hl
 |skip _ _ ih=>rw[nF W0];exact ih q p hl
theorem FG.GS{es:List BI}(h:FG g S ps es AB)(q:BE S)(p:KV w false S.D.P a c)(hl:JA S l):An w AB+c*rem l AB.D.n<=An w S+c*rem l S.D.n+a*ps.length/\S.D.n<=AB.D.n:=by
 induction h with
 |nil=>exact⟨OC _ _,BD _⟩
 |snoc r h ih=>obtain⟨h1,h2⟩:=ih;obtain⟨q1,-,f,-⟩:=r.inv q;obtain⟨h3,h4⟩:=h.GS q1 (by rw[f.P];exact p) (hl.eq f.CD);rw[DX,nG,Zc];exact⟨om,EM h2 h4⟩
end
def MY(P:Nat):Wt:=λ_ p _ _ n=>if p=1 then 0 else if p=2 then n else P
def IY:Wt:=λ_ p _ s _=>(if p=4 then 1 else 0)+if s=true then 1 else 0
def NO(P:Nat):Wt:=λ_ p j s n=>if j=true then if s=true then 0 else if p=2 then n else P else 0
def QQ(P:Nat):Wt:=λ_ p j _ n=>if j=true then if p=2 then n else P else 0
def JL(P:Nat):Wt:=λ_ p j _ n=>if j=true then 0 else if p=3 then P else if p=2 then n else 0
theorem Fq(P:Nat)(k:Bool):KV (MY P) k P 1 P:=⟨λ_ j s=>by simp[MY],λ_ s=>by simp[MY],λ_ s n h=>by simp[MY],λ_ s n h=>by simp[MY]⟩
theorem Q0(P:Nat)(k:Bool):KV IY k P 0 1:=⟨λ_ j s=>by simp[IY],λ_ s=>by simp[IY],λ_ s n h=>by simp[IY],λ_ s n h=>by simp[IY]⟩
theorem Q1(P:Nat):KV (NO P) false P 0 0/\KV (NO P) true P 1 0:=⟨⟨λ_ j s=>by simp[NO],λ_ s=>by simp[NO],λ_ s n h=>by simp[NO],λ_ s n h=>by simp[NO]⟩,⟨λ_ j s=>by simp[NO],λ_ s=>by simp[NO],λ_ s n h=>by simp[NO];split<;>omega,λ_ s n h=>by simp[NO]⟩⟩
theorem Agj(P:Nat):KV (QQ P) false P 0 0/\KV (QQ P) true P 1 P:=⟨⟨λ_ j s=>by simp[QQ],λ_ s=>by simp[QQ],λ_ s n h=>by simp[QQ],λ_ s n h=>by simp[QQ]⟩,⟨λ_ j s=>by simp[QQ],λ_ s=>by simp[QQ],λ_ s n h=>by simp[QQ],λ_ s n h=>by simp[QQ]⟩⟩
theorem Xc(P:Nat):KV (JL P) false P 1 P/\KV (JL P) true P 0 0:=⟨⟨λ_ j s=>by simp[JL],λ_ s=>by simp[JL],λ_ s n h=>by simp[JL],λ_ s n h=>by simp[JL]⟩,⟨λ_ j s=>by simp[JL],λ_ s=>by simp[JL],λ_ s n h=>by simp[JL],λ_ s n h=>by simp[JL]⟩⟩
section
variable {k:Bool}{all:List Nat}{l:List Int}
theorem Agk(q:BE S)(h:(S.w1 k all).2= .full):S.D.nb*S.D.P<=An (MY S.D.P) (S.cls k)+S.D.P:=by
 have q1:=(q.cls k).1;have hD:=gJ S k
 cases ho:(S.cls k).HQ k with
 |some S2=>
  exfalso;unfold Ap.w1 at h;rw[ho]at h;simp only at h;split at h;.cases h
  .split at h<;>cases h
 |none=>
  unfold Ap.HQ at ho;by_cases hs:(S.cls k).BT k<0
  .rw[AP hs]at ho;have hc:∀b,b<S.D.nb->(S.cls k).ps b≠1:=λb hb e=>by
    rcases F1 (S.cls k).ps (S.cls k).pe 1 (S.cls k).D.nb with⟨-,h1⟩|⟨i,hi,h1,h2⟩;.exact h1 b (by rw[hD];exact hb) e
    .rw[h1,AM om]at ho;cases ho
   have hw:∀b,b<S.D.nb->S.D.P<=GG (MY S.D.P) (S.cls k) b+if((b:Nat):Int)=(S.cls k).BT (!k)then S.D.P else 0:=λb hb=>by
    unfold GG MY;rw[AM (hc b hb)];by_cases h2:(S.cls k).ps b=2
    .have:=q1.RM b (by rw[hD];exact hb) h2;have e:(b:Int)=(S.cls k).BT (!k):=by
      cases k with
      |false=>
                       rcases this with h|h;.rw[show(S.cls false).BT false=(S.cls false).HG from rfl]at hs;omega
                       .exact h
      |true=>
           rcases this with h|h;.exact h
           .rw[show(S.cls true).BT true=(S.cls true).log from rfl]at hs;omega
     rw[AP e];omega
    .rw[AM h2];omega
   have h1:=Dg (n:=S.D.nb) (f:=λ_=>S.D.P) hw;rw[C3,Ee]at h1;have h2:∀n,Cq (λb=>if((b:Nat):Int)=(S.cls k).BT (!k)then S.D.P else 0) n<=S.D.P:=λn=>by
    by_cases e:∃b:Nat,(b:Int)=(S.cls k).BT (!k)
    .obtain⟨b,e⟩:=e;rw[<-e];have key:∀n,Cq (λi=>if((i:Nat):Int)=(b:Int)then S.D.P else 0) n=if b<n then S.D.P else 0:=λn=>by
      induction n with
      |zero=>rfl
      |succ n ih=>exact zM
     rw[key];split<;>omega
    .rw[Jo (g:=λ_=>0) λi _=>AM λh=>e ⟨i,h⟩,C3];simp
   have h3:=h2 S.D.nb;unfold An;rw[hD];omega
  .rw[AM hs]at ho;cases ho
theorem GX.TT(h:GX k all S AB r)(q:BE S)(hl:JA S l)(hm:An (MY S.D.P) S+S.D.P*rem l S.D.n+S.D.P+1<=S.D.nb*S.D.P):r≠ .full:=by
 induction h with
 | @stop S h=>intro e;have h1:=Agk q e;have h2:=adr q (Fq S.D.P k);omega
 | @more S AB r h _ ih=>obtain⟨-,h1,-⟩:=gi (all:=all) q (Fq S.D.P k) hl;have f:=St S k all;refine ih (q.w1 k all).1 (hl.eq f.CD) ?_;have:=h1 h;rw[f.P,f.nb];omega
theorem IM.TT(h:IM sec data S AB o)(q:BE S)(hl:JA S l)(hm:An (MY S.D.P) S+S.D.P*rem l S.D.n+S.D.P+1<=S.D.nb*S.D.P):o≠ .full:=by
 cases h with
 |ok h=>simp
 |bad h _=>exact h.TT (q.cI (S.next+1) S.last (QD _)) hl hm
theorem EY.TT{g:GV}{es:List BI}(h:EY g S es AB o)(q:BE S)(hl:JA S l)(hm:An (MY S.D.P) S+S.D.P*rem l S.D.n+S.D.P+(g.filter λx=>x.2.isSome).length<=S.D.nb*S.D.P):o≠ .full:=by
 induction h with
 |nil=>simp
 |put h _ ih=>obtain⟨h1,h2⟩:=h.GS q (Fq _ _) hl;have f:=(h.fr q.iw).1;rw[nE rfl,FX]at hm;refine ih (h.inv q).1 (hl.eq f.CD) ?_;rw[f.P,f.nb];omega
 |bad h _=>rw[nE rfl,FX]at hm;exact h.TT q hl om
 |trim _ _ ih=>rw[nF W0]at hm;exact ih q hl hm
 |skip _ _ ih=>rw[nF W0]at hm;exact ih q hl hm
theorem LW.TT(h:LW z ls S AB o)(q:BE S)(hl:JA S l)(hm:An (MY S.D.P) S+S.D.P*rem l S.D.n+S.D.P+ls.length<=S.D.nb*S.D.P):o≠ .full:=by
 induction h with
 |nil=>simp
 |cons h _ ih=>obtain⟨h1,h2⟩:=h.GS q (Fq _ _) hl;have f:=h.fr;rw[FX]at hm;refine ih (h.inv q).1 (hl.eq f.CD) ?_;rw[f.P,f.nb];omega
 |bad h _=>rw[FX]at hm;exact h.TT q hl om
theorem HO.TT{es:List BI}(h:HO t es S AB o)(q:BE S)(hl:JA S l)(hm:An (MY S.D.P) S+S.D.P*rem l S.D.n+S.D.P+CF S es<=S.D.nb*S.D.P):o≠ .full:=by
 have hL:(Ed t S es).length=CF S es:=by unfold Ed Ks;simp
 cases h with
 |ok h=>simp
 |bad h _=>exact h.TT (q.cI (S.next+CF S es) S.last (OC _ _)) hl (by rw[hL];exact hm)
theorem HU.TT{es:List BI}(h:HU es S AB o)(q:BE S)(hl:JA S l)(hm:es≠[]->An (MY S.D.P) S+S.D.P*rem l S.D.n+S.D.P+CF S es<=S.D.nb*S.D.P):o≠ .full:=by
 cases h with
 |nil h=>simp
 |ok h hn=>simp
 | @bad _ _ hn h _=>exact h.TT q hl (hm hn)
end
section
variable {l:List Int}
def ad(b P:Nat):Wt:=λi p _ _ n=>if i=b then if p=3 then n else P else 0
theorem Agl(b P:Nat)(k:Bool):KV (ad b P) k P 0 0:=⟨λi j s=>by unfold ad;split<;>simp,λi s=>by simp[ad],λi s n h=>by simp[ad],λi s n h=>by unfold ad;split<;>simp <;>omega⟩
theorem t8{n:Nat}(hb:b<n)(h:∀j,j≠b->f j=0):Cq f n=f b:=by have:=S9 (f:=λ_=>0) (g:=f) hb λj _ hj=>h j hj;rw[C3]at this;simpa using this
theorem HO.full{es:List BI}(h:HO k es S AB o)(a:BE S)(hl:JA S l)(hb:b<S.D.nb)(h3:S.ps b=3):(AB.D.bl b).nx<=(S.D.bl b).nx:=by
 have h1:=(h.GS (w:=ad b S.D.P) a (Agl _ _ _) hl).1;obtain⟨-,kk,-⟩:=h.inv a;have f:=(h.fr a.iw).1;have e:∀T:Ap,T.D.nb=S.D.nb->T.ps b=3->An (ad b S.D.P) T=(T.D.bl b).nx:=λT e1 e2=>by unfold An;rw[t8 (b:=b) om λj hj=>by unfold GG ad;rw[AM hj]];unfold GG ad;rw[AP rfl,AP e2]
 rw[e AB f.nb (kk.OA b hb h3),e S rfl h3]at h1;omega
end
def KG:Wt:=λ_ p _ s _=>(if p=1\/p=2\/p=3\/p=4 then 0 else 1)+if s=true/\p≠3 then 1 else 0
def KF:Wt:=λ_ _ j s _=>if j=true/\s=false then 1 else 0
def KH:Wt:=λ_ _ j _ _=>if j=true then 1 else 0
theorem Gs(P:Nat)(k:Bool):KV KG k P 0 0:=⟨λ_ j s=>by simp[KG],λ_ s=>by simp[KG],λ_ s n h=>by simp[KG],λ_ s n h=>by simp[KG]⟩
def KL(S:Ap):Prop:=∀k,S.su k=true->0<=k/\k<S.D.nb
def IZ(S:Ap)(e:Nat):Prop:=∀b,b<S.D.nb->(S.D.bl b).er<=e
section
variable {k:Bool}{all:List Nat}{l:List Int}{n e:Nat}
theorem xN(q:BE S)(h:KL S)(he:IZ S e):KL (S.w1 k all).1/\IZ (S.w1 k all).1 e:=by
 have f:=St S k all;have hsc:(S.cls k).su=S.su:=by unfold Ap.cls;split<;>cases k<;>rfl
 have hD:=gJ S k;have q1:=(q.cls k).1;have hso:∀{S2},(S.cls k).HQ k=some S2->S2.su=S.su:=λ{S2} h=>by
  rw[<-hsc];unfold Ap.HQ at h;split at h
  .split at h;.cases h
   .cases h;cases k<;>rfl
  .cases h;rfl
 have TF:∀(D:Dv) (i:Int) b,((D.prog i all).1.bl b).er=(D.bl b).er:=λD i b=>by
  unfold Dv.prog;split
  .split;.rfl
   .show(AX D.bl _ _ b).er=_;by_cases e:b=i.toNat;.rw[e,Am]
    .rw[CB _ _ e]
  .rfl
 refine⟨λy hy=>?_,λb hb=>?_⟩
 .rw[f.nb];unfold Ap.w1 at hy
  cases ho:(S.cls k).HQ k with
  |none=>rw[ho]at hy;exact h y (by rw[<-hsc];exact hy)
  |some S2=>
   rw[ho]at hy;obtain⟨q2,-,-⟩:=q1.HQ ho;obtain⟨-,aA,SK,-⟩:=q1.iw.HQ ho;obtain⟨g1,-⟩:=(q2.iw.wi k).BT SK;have OM:=hso ho;simp only at hy;split at hy;.exact h y (by rw[<-OM];exact hy)
   .split at hy;.exact h y (by rw[<-OM];exact hy)
    .rw[(Y8 _ k _).2.2.1]at hy;simp only[Be]at hy;split at hy;.rename_i e;rw[e,<-hD,<-aA];exact⟨SK,g1⟩
     .exact h y (by rw[<-OM];exact hy)
 .rw[f.nb]at hb;have JT:=he b hb;unfold Ap.w1
  cases ho:(S.cls k).HQ k with
  |none=>simp only[hD];exact JT
  |some S2=>
   have aA:=(q1.iw.HQ ho).2.1.trans hD;simp only;split;.show(((S2.D.prog _ all).1).bl b).er<=e;rw[TF,aA];exact JT
   .split;.show(((S2.D.prog _ all).1).bl b).er<=e;rw[TF,aA];exact JT
    .rw[(Y8 _ k _).2.2.2];show(((S2.D.prog _ all).1).bl b).er<=e;rw[TF,aA];exact JT
theorem GX.sd(h:GX k all S AB r)(q:BE S)(hs:KL S)(he:IZ S e):KL AB/\IZ AB e:=by
 induction h with
 |stop _=>exact xN q hs he
 |more _ _ ih=>obtain⟨a,b⟩:=xN (all:=all) (k:=k) q hs he;exact ih (q.w1 k all).1 a b
theorem IM.sd(h:IM sec data S AB o)(q:BE S)(hs:KL S)(he:IZ S e):KL AB/\IZ AB e:=by
 cases h with
 |ok h=>exact h.sd (q.cI (S.next+1) S.last (QD _)) hs he
 |bad h _=>exact h.sd (q.cI (S.next+1) S.last (QD _)) hs he
theorem LW.sd(h:LW z ls S AB o)(q:BE S)(hs:KL S)(he:IZ S e):KL AB/\IZ AB e:=by
 induction h with
 |nil=>exact⟨hs,he⟩
 |cons h _ ih=>obtain⟨a,b⟩:=h.sd q hs he;exact ih (h.inv q).1 a b
 |bad h _=>exact h.sd q hs he
theorem HO.sd{es:List BI}(h:HO t es S AB o)(q:BE S)(hs:KL S)(he:IZ S e):KL AB/\IZ AB e:=by
 cases h with
 |ok h=>exact h.sd (q.cI (S.next+CF S es) S.last (OC _ _)) hs he
 |bad h _=>exact h.sd (q.cI (S.next+CF S es) S.last (OC _ _)) hs he
theorem HU.sd{es:List BI}(h:HU es S AB o)(q:BE S)(hs:KL S)(he:IZ S e):KL AB/\IZ AB e:=by
 cases h with
 |nil h=>exact⟨hs,he⟩
 |ok h hn=>exact h.sd q hs he
 |bad h _=>exact h.sd q hs he
theorem EY.sd{g:GV}{es:List BI}(h:EY g S es AB o)(q:BE S)(hs:KL S)(he:IZ S e):KL AB/\IZ AB e:=by
 induction h with
 |nil=>exact⟨hs,he⟩
 |put h _ ih=>obtain⟨a,b⟩:=h.sd q hs he;exact ih (h.inv q).1 a b
 |bad h _=>exact h.sd q hs he
 |trim _ _ ih=>exact ih q hs he
 |skip _ _ ih=>exact ih q hs he
theorem FG.sd{es:List BI}(h:FG g S ps es AB)(q:BE S)(hs:KL S)(he:IZ S e):KL AB/\IZ AB e:=by
 induction h with
 |nil=>exact⟨hs,he⟩
 |snoc r h ih=>obtain⟨a,b⟩:=ih;exact h.sd (r.inv q).1 a b
structure ji (S T:Ap)(b p:Nat)(s:Bool)(m:Nat):Prop where
 nb:T.D.nb=S.D.nb
 eW:∀j,j≠b->T.ps j=S.ps j/\T.su ((j:Nat):Int)=S.su ((j:Nat):Int)/\T.D.bl j=S.D.bl j
 ps:T.ps b=p
 su:T.su (b:Int)=s
 nx:(T.D.bl b).nx=m
 jr:T.jr=S.jr
 n:S.D.n<=T.D.n
 CD:T.D.CD=S.D.CD
theorem ji.sum{T:Ap}{s:Bool}(c:ji S T b p s m)(hb:b<S.D.nb)(h3:S.ps b=3)(w:Wt):An w T+w b 3 (S.jr (b:Int)) (S.su (b:Int)) (S.D.bl b).nx=An w S+w b p (S.jr (b:Int)) s m:=by have:=Hh (w:=w) (S:=S) (AB:=T) c.nb hb λj _ hj=>⟨(c.eW j hj).1,by rw[c.jr],(c.eW j hj).2.1,by rw[(c.eW j hj).2.2]⟩;unfold GG at this;rw[c.ps,c.jr,c.su,c.nx,h3]at this;exact this
def Ap.jF(T:Ap)(b:Nat):Ap:={T with jr:=Be T.jr (b:Int) false}
theorem ji.ams{T:Ap}{s:Bool}(c:ji S T b p s m)(hb:b<S.D.nb)(h3:S.ps b=3)(w:Wt):An w (T.jF b)+w b 3 (S.jr (b:Int)) (S.su (b:Int)) (S.D.bl b).nx=An w S+w b p false s m:=by have hj:Be T.jr (b:Int) false (b:Int)=false:=AP rfl;have:=Hh (w:=w) (S:=S) (AB:=T.jF b) c.nb hb λj _ hj=>⟨(c.eW j hj).1,by show Be _ _ _ _=_;rw[show Be T.jr (b:Int) false ((j:Nat):Int)=T.jr ((j:Nat):Int)from AM om,c.jr],(c.eW j hj).2.1,by show(T.D.bl j).nx=_;rw[(c.eW j hj).2.2]⟩;unfold GG at this;unfold Ap.jF at this ⊢;simp only[c.ps,hj,c.su,c.nx,h3]at this;exact this
theorem Pf(hb:b<S.D.nb)(h3:S.ps b=3)(hl:JA S l)(hs:KL S)(he:IZ S e)(ID:e<S.D.en):∃p s m,ji S (S.BV b).1 b p s m/\KL (S.BV b).1/\(∀i,i<S.D.nb->((S.BV b).1.D.bl i).er<=(S.D.bl i).er+if i=b then 1 else 0)/\((S.BV b).2= .pow/\p=3/\s=S.su (b:Int)\/(S.BV b).2= .done 0/\s=false/\(S.su (b:Int)=true/\p=4\/S.su (b:Int)=false/\(p=1/\m=0\/p=4/\rem l (S.BV b).1.D.n+1<=rem l S.D.n))):=by
 have VT:∀i,i<S.D.nb->(S.D.bl i).er<=(S.D.bl i).er+if i=b then 1 else 0:=λ_ _=>OC _ _;unfold Ap.BV;by_cases OM:S.su (b:Int)=true
 .rw[AP OM];refine⟨4,false,(S.D.bl b).nx,⟨rfl,λj hj=>⟨CB _ _ hj,AM om,rfl⟩,Am _ _ _,AP rfl,rfl,rfl,BD _,rfl⟩,λy hy=>?_,VT,.inr ⟨rfl,rfl,.inl ⟨OM,rfl⟩⟩⟩;simp only[Be]at hy;split at hy;.cases hy
  .exact hs y hy
 .rw[AM OM];have pG:S.su (b:Int)=false:=Yw.2 OM;have YJ:0<=(b:Int)/\(b:Int)<S.D.nb:=om
  have hw:=he b hb;have hD:S.D.erase (b:Int)=if S.D.off=true then(S.D,50)else if(S.D.n:Int)=S.D.cut then({S.D with bl:=AX S.D.bl b ⟨C8 5,S.D.P,(S.D.bl b).er+1⟩,n:=S.D.n+1,off:=true},50)else if S.D.CD S.D.n=true then({S.D with bl:=AX S.D.bl b ⟨C8 5,S.D.P,(S.D.bl b).er+1⟩,n:=S.D.n+1},55)else({S.D with bl:=AX S.D.bl b ⟨C8 1,0,(S.D.bl b).er+1⟩,n:=S.D.n+1},0):=by unfold Dv.erase;rw[AP YJ,FL,AM (show¬S.D.en<=(S.D.bl b).er from om)]
  have tH:∀x:Bl,x.er=(S.D.bl b).er+1->∀i,i<S.D.nb->(AX S.D.bl b x i).er<=(S.D.bl i).er+if i=b then 1 else 0:=λx hx i hi=>by
   by_cases e0:i=b;.subst e0;rw[Am,hx,AP rfl];omega
   .rw[CB _ _ e0];omega
  by_cases ho:S.D.off=true;.rw[AP ho]at hD;rw[hD,AP rfl];exact⟨3,S.su (b:Int),(S.D.bl b).nx,⟨rfl,λ_ _=>⟨rfl,rfl,rfl⟩,h3,rfl,rfl,rfl,BD _,rfl⟩,hs,VT,.inl ⟨rfl,rfl,rfl⟩⟩
  .rw[AM ho]at hD;by_cases hc:(S.D.n:Int)=S.D.cut;.rw[AP hc]at hD;rw[hD,AP rfl];exact⟨3,S.su (b:Int),S.D.P,⟨rfl,λj hj=>⟨rfl,rfl,CB _ _ hj⟩,h3,rfl,HT Bl.nx (Am _ _ _),rfl,QD _,rfl⟩,hs,tH _ rfl,.inl ⟨rfl,rfl,rfl⟩⟩
   .rw[AM hc]at hD;by_cases hf:S.D.CD S.D.n=true;.rw[AP hf]at hD;rw[hD,AM W0,AM W0];exact⟨4,false,S.D.P,⟨rfl,λj hj=>⟨CB _ _ hj,rfl,CB _ _ hj⟩,Am _ _ _,pG,HT Bl.nx (Am _ _ _),rfl,QD _,rfl⟩,hs,tH _ rfl,.inr ⟨rfl,rfl,.inr ⟨pG,.inr ⟨rfl,wB (hl _ hf)⟩⟩⟩⟩
    .rw[AM hf]at hD;rw[hD,AM W0,AP rfl];exact⟨1,false,0,⟨rfl,λj hj=>⟨CB _ _ hj,rfl,CB _ _ hj⟩,Am _ _ _,pG,HT Bl.nx (Am _ _ _),rfl,QD _,rfl⟩,hs,tH _ rfl,.inr ⟨rfl,rfl,.inr ⟨pG,.inl ⟨rfl,rfl⟩⟩⟩⟩
end
theorem zN{p:Prop}(h:p:=by
 have:1<=GG KF S b:=by unfold GG KF;rw[AP ⟨hj,hs⟩];omega
 have:=RP m this
 omega):p:=h
section
theorem Ll{f g:Nat->Bool}:∀{n},(∀j,j<n->f j=true->g j=true)->E1 f n<=E1 g n
 |0,_=>BD _
 |n+1,h=>by
  have h1:=Ll (f:=f) (g:=g) (n:=n) λj hj=>h j om;have h2:=h n om;simp only[E1];split;.rename_i e;rw[AP (h2 e)];omega
  .split<;>omega
theorem Y9{f g:Nat->Bool}{p:Nat}:∀{n},(∀j,j<n->j≠p->f j=true->g j=true)->E1 f n<=E1 g n+1
 |0,_=>CN _
 |n+1,h=>by
  simp only[E1];by_cases e:n=p;.have:=Ll (f:=f) (g:=g) (n:=n) λj hj=>h j om om;split<;>split<;>omega
  .have h1:=Y9 (f:=f) (g:=g) (p:=p) (n:=n) λj hj=>h j om;have h2:=h n om e;split;.rename_i e;rw[AP (h2 e)];omega
   .split<;>omega
theorem aau(f:Nat->Bool)(n:Nat):∀m,E1 f (n+m)=E1 f n+E1 (λj=>f (n+j)) m
 |0=>rfl
 |m+1=>by rw[<-fU];simp only[E1,aau f n m];omega
theorem aav(A:DM)(N:Nat):∀m:Nat,E1 (λp=> @decide (∃s:Nat,s<m/\A (s:Int)=some ((p:Nat):Int)) (Classical.propDecidable _)) N<=m
 |0=>by
  have:=Ll (n:=N) (f:=λp:Nat=> @decide (∃s:Nat,s<0/\A (s:Int)=some ((p:Nat):Int)) (Classical.propDecidable _)) (g:=λ_=>false) λj _ h=>by obtain⟨s,h1,-⟩:= @Xv _ (Classical.propDecidable _) h;omega
  have h0:∀n,E1 (λ_=>false) n=0:=λn=>by
   induction n with
   |zero=>rfl
   |succ n ih=>simp only[E1,ih];rfl
  rw[h0]at this;exact this
 |m+1=>by
  have ih:=aav A N m;have:∃p:Nat,∀j:Nat,j≠p->A (m:Int)≠some (j:Int):=by
   cases h:A (m:Int)with
   |none=>exact⟨0,λ_ _ h=>by cases h⟩
   |some y=>exact⟨y.toNat,λj hj h=>hj (by cases h;simp)⟩
  obtain⟨p,hp⟩:=this;refine EM (Y9 (p:=p) (g:=λp=> @decide (∃s:Nat,s<m/\A (s:Int)=some ((p:Nat):Int)) (Classical.propDecidable _)) λj _ hj h=>?_) (Nat.succ_le_succ ih);obtain⟨s,h1,h2⟩:= @Xv _ (Classical.propDecidable _) h;refine @CM _ (Classical.propDecidable _) ⟨s,?_,h2⟩;have:s≠m:=λe=>hp j hj (by rw[<-e];exact h2);omega
section
variable {l:List Int}
theorem BE.aet(q:BE S):Cq (GT S.A S.D.P) S.D.nb<=S.S:=by
 have h1:∀n,Cq (GT S.A S.D.P) n=E1 (λp=>Jh S.A ((p:Nat):Int)) (n*S.D.P):=λn=>by
  induction n with
  |zero=>simp[Cq,E1]
  |succ n ih=>simp only[Cq,ih];rw[Ys,aau];rfl
 rw[h1];refine EM (Ll λj _ h=>?_) (aav S.A (S.D.nb*S.D.P) S.S);obtain⟨s,hs⟩:=aC.1 h;obtain⟨r1,r2,-⟩:=q.map s _ hs;obtain⟨t,rfl⟩:=Yt r1;exact @CM _ (Classical.propDecidable _) ⟨t,om,hs⟩
theorem Lm(ps:Nat->Nat)(s:Nat):∀n,LG ps s n=Cq (λb=>if ps b=s then 1 else 0) n
 |0=>rfl
 |n+1=>by simp only[LG,Cq,Lm ps s n]
theorem t9{n:Nat}(h:Cq f n=0)(hb:b<n):f b=0:=by have:=Xb (f:=f) hb;omega
theorem ads(i:Int)(c:Nat):∀n,Cq (λb=>if((b:Nat):Int)=i then c else 0) n<=c:=λn=>by
 by_cases e:∃b:Nat,((b:Nat):Int)=i
 .obtain⟨b,rfl⟩:=e
  have key:∀n,Cq (λi=>if((i:Nat):Int)=((b:Nat):Int)then c else 0) n=if b<n then c else 0:=λn=>by induction n with
   |zero=>rfl
   |succ n ih=>
    exact zM
  rw[key];split<;>omega
 .rw[Jo (g:=λ_=>0) λi _=>AM λh=>e ⟨i,h⟩,C3];simp
def Ap.nice(S:Ap)(b:Nat):Prop:=S.ps b=3/\S.jr (b:Int)=false/\S.su (b:Int)=false
theorem BE.part(q:BE S)(z:An KG S=0)(hm:∀b,b<S.D.nb->S.nice b->m<=GT S.A S.D.P b):m*S.D.nb<=m*GK S+m*An IY S+S.S+m*An KF S+m:=by
 have hv:=q.aet;have hd:=ads S.HG m S.D.nb;have key:∀b,b<S.D.nb->m<=m*(if S.ps b=1 then 1 else 0)+m*GG IY S b+GT S.A S.D.P b+m*GG KF S b+if((b:Nat):Int)=S.HG then m else 0:=λb hb=>by
  have hz:GG KG S b=0:=t9 (f:=GG KG S) z hb;unfold GG KG at hz;by_cases h1:S.ps b=1;.rw[AP h1];omega
  by_cases h4:S.ps b=4;.have:1<=GG IY S b:=(by unfold GG IY;rw[AP h4];omega);have:=RP m this;omega
  by_cases h2:S.ps b=2
  .rcases q.RM b hb h2 with h|h;.rw[AP h];omega
   .have hj:=q.SM om;rw[<-h]at hj;have hs:S.su (b:Int)=false:=Yw.2 λe=>by rw[AP (show S.su (b:Int)=true/\S.ps b≠3 from⟨e,om⟩)]at hz;omega
    exact zN
  have h3:S.ps b=3:=by
   by_cases h:S.ps b=1\/S.ps b=2\/S.ps b=3\/S.ps b=4;.omega
   .rw[AM h]at hz;omega
  cases hs:S.su (b:Int)with
  |true=>have:1<=GG IY S b:=(by unfold GG IY;rw[hs,AP rfl];omega);have:=RP m this;omega
  |false=>
   cases hj:S.jr (b:Int)with
   |true=>exact zN
   |false=>have:=hm b hb ⟨h3,hj,hs⟩;omega
 have h1:=Dg (f:=λ_=>m) key;rw[C3,Ee,Ee,Ee,Ee,Hg,Hg,Hg]at h1;unfold GK;rw[Lm,WM m S.D.nb];unfold An;omega
def D3(S0:Ap)(w:Wt):Wt:=λb p j s n=>if S0.jr ((b:Nat):Int)=true then 0 else w b p j s n
theorem Ta{S0:Ap}{kk:Bool}{a d:Nat}(p:KV w kk P a d):KV (D3 S0 w) kk P a d:=⟨λb j s=>by unfold D3;split<;>first|exact BD _|exact p.cl b j s,λb s=>by unfold D3;split<;>first|exact BD _|exact p.op b s,λb s n h=>by unfold D3;split<;>first|exact CN _|exact p.pg b s n h,λb s n h=>by unfold D3;split<;>first|exact CN _|exact p.fl b s n h⟩
theorem adt(w:Wt):D3 {S with jr:=λ_=>false} w=w:=by funext b p j s n;unfold D3;rw[AM W0]
theorem BE.vH(q:BE S)(S0:Ap):S.D.P*An (D3 S0 KF) S<=An (D3 S0 (NO S.D.P)) S+S.D.P/\S.D.P*An (D3 S0 KH) S<=An (D3 S0 (QQ S.D.P)) S+S.D.P:=by
 have hd:=ads S.log S.D.P S.D.nb;have aeg:∀b,b<S.D.nb->S.jr ((b:Nat):Int)=true->S.ps b=2->((b:Nat):Int)=S.log:=λb hb hj h2=>by
  rcases q.RM b hb h2 with e|e;.have h:=q.TP om;rw[<-e,hj]at h;cases h
  .exact e
 have k1:∀b,b<S.D.nb->S.D.P*GG (D3 S0 KF) S b<=GG (D3 S0 (NO S.D.P)) S b+if((b:Nat):Int)=S.log then S.D.P else 0:=λb hb=>by
  unfold GG D3 KF NO;split;.omega
  .by_cases h:S.jr (b:Int)=true/\S.su (b:Int)=false
   .rw[AP h,AP h.1,AM (by rw[h.2];simp),RW];by_cases h2:S.ps b=2;.rw[AP (aeg b hb h.1 h2)];omega
    .rw[AM h2];omega
   .rw[AM h];omega
 have k2:∀b,b<S.D.nb->S.D.P*GG (D3 S0 KH) S b<=GG (D3 S0 (QQ S.D.P)) S b+if((b:Nat):Int)=S.log then S.D.P else 0:=λb hb=>by
  unfold GG D3 KH QQ;split;.omega
  .by_cases h:S.jr (b:Int)=true
   .rw[AP h,AP h,RW];by_cases h2:S.ps b=2;.rw[AP (aeg b hb h h2)];omega
    .rw[AM h2];omega
   .rw[AM h];omega
 have h1:=Dg k1;have h2:=Dg k2;rw[Hg,Ee]at h1 h2;unfold An;omega
theorem BE.njv(q:BE S):S.D.P*An KF S<=An (NO S.D.P) S+S.D.P:=by have:=(q.vH {S with jr:=λ_=>false}).1;rw[adt,adt]at this;exact this
theorem BE.jvn(q:BE S):An (NO S.D.P) S<=S.D.P*An KF S:=by
 unfold An;rw[<-Hg];refine Dg λb hb=>?_;have:=q.LB b hb;unfold GG KF NO
 cases S.jr (b:Int)<;>cases S.su (b:Int)<;>simp;split<;>omega
theorem mf(S:Ap):An KF S<=An KH S:=Dg λb _=>by
 unfold GG KF KH
 split
 .rename_i h;rw[AP h.1];exact BD _
 .exact CN _
theorem Abr(S:Ap):An (MY S.D.P) S+S.D.P*GK S<=S.D.nb*S.D.P\/∃b,b<S.D.nb/\S.ps b=2/\S.D.P<(S.D.bl b).nx:=by
 by_cases h:∃b,b<S.D.nb/\S.ps b=2/\S.D.P<(S.D.bl b).nx;.exact .inr h
 .refine .inl ?_;have key:∀b,b<S.D.nb->GG (MY S.D.P) S b+S.D.P*(if S.ps b=1 then 1 else 0)<=S.D.P:=λb hb=>by
   unfold GG MY;by_cases h1:S.ps b=1;.rw[AP h1,AP h1];omega
   .rw[AM h1,AM h1];by_cases h2:S.ps b=2;.rw[AP h2];have:¬S.D.P<(S.D.bl b).nx:=λe=>h ⟨b,hb,h2,e⟩;omega
    .rw[AM h2];omega
  have h1:=Dg key;rw[C3,Ee,Hg]at h1;unfold GK;rw[Lm];unfold An;omega
theorem BE.usF(q:BE S):An (MY S.D.P) S+S.D.P*GK S<=S.D.nb*S.D.P:=(Abr S).resolve_right λ⟨b,hb,_,h⟩=>by have:=q.LB b hb;omega
end
structure Ts (S:Ap)(sp c Y:Nat):Prop where
 P:S.D.P<=4
 PV:1<=S.S/\S.S<=12
 hX:S.S<=S.D.P*Y
 nb:sp+(3*c+12)+Y<=S.D.nb
 hc:2<=c
 hr:∀n,n<=S.S->EI S.D.sz n<=(c- 1)*S.D.P
structure JN (S:Ap)(l:List Int)(sp c e:Nat):Prop where
 no:An KG S=0
 sd:KL S
 fl:JA S l
 er:IZ S e
 x:∃x,An IY S+x+rem l S.D.n<=sp/\An KF S<=2*c+1+x
section
variable {l:List Int}{sp Y e:Nat}
theorem Ts.sm(q:Ts S sp c Y)(s:Sm S AB):Ts AB sp c Y:=⟨by rw[s.P];exact q.P,by rw[s.CZ];exact q.PV,by rw[s.CZ,s.P];exact q.hX,by rw[s.nb];exact q.nb,q.hc,by rw[s.CZ,s.sz,s.P];exact q.hr⟩
theorem JN.free(f:Ts S sp c Y)(g:JN S l sp c e)(q:BE S)(hE:∀b,b<S.D.nb->S.nice b->1<=GT S.A S.D.P b):(rem l S.D.n+c+1<=GK S)/\(An KF S<=c+1->rem l S.D.n+2*c+1<=GK S):=by
 obtain⟨x,h1,h2⟩:=g.x;have h3:=q.part g.no hE;have h4:=f.nb;have h5:=f.hX;have h6:=f.PV;have h7:=f.P;have h8:=q.CT.P;have h9:S.S<=9+Y:=by
  by_cases hx:3<=Y;.omega
  .have:Y=0\/Y=1\/Y=2:=om;rcases this with rfl|rfl|rfl<;>omega
 omega
structure Wk (S AB:Ap)(l:List Int)(a BC:Nat):Prop where
 n:S.D.n<=AB.D.n
 GS:∀(w:Wt) (cd pd pl:Nat),KV w false S.D.P pd cd->KV w true S.D.P pl cd->An w AB+cd*rem l AB.D.n<=An w S+cd*rem l S.D.n+pd*a+pl*BC
 da:An (JL S.D.P) AB+S.D.P*rem l AB.D.n<=An (JL S.D.P) S+S.D.P*rem l S.D.n+a
 jv:An (NO S.D.P) AB<=An (NO S.D.P) S+BC
 sd:∀{e},KL S->IZ S e->KL AB/\IZ AB e
theorem Wk.d{s:Sm S S1}{a:Nat}(hn:S.D.n<=S1.D.n)(h:∀(w:Wt) (a0 cd:Nat),KV w false S.D.P a0 cd->An w S1+cd*rem l S1.D.n<=An w S+cd*rem l S.D.n+a0*a)(hs:∀{e},KL S->IZ S e->KL S1/\IZ S1 e):Wk S S1 l a 0:=by
 refine⟨hn,λw cd pd pl p1 _=>?_,?_,?_,hs⟩;.rw[Nat.mul_zero,TV];exact h w pd cd p1
 .have:=h _ _ _ (Xc S.D.P).1;rw[jZ]at this;exact this
 .have:=h _ _ _ (Q1 S.D.P).1;omega
theorem Wk.lg{a:Nat}(hn:S.D.n<=S1.D.n)(h:∀(w:Wt) (a0 cd:Nat),KV w true S.D.P a0 cd->An w S1+cd*rem l S1.D.n<=An w S+cd*rem l S.D.n+a0*a)(hs:∀{e},KL S->IZ S e->KL S1/\IZ S1 e):Wk S S1 l 0 a:=by
 refine⟨hn,λw cd pd pl _ p2=>?_,?_,?_,hs⟩;.rw[Nat.mul_zero,TV];exact h w pl cd p2
 .have h1:=h _ _ _ (Xc S.D.P).2;have:=RP S.D.P (F3 l hn);omega
 .have:=h _ _ _ (Q1 S.D.P).2;omega
theorem Wk.trans{a AR:Nat}(h:Wk S S1 l a BC)(k:Wk S1 S2 l b AR)(hP:S1.D.P=S.D.P):Wk S S2 l (a+b) (BC+AR):=by
 refine⟨EM h.n k.n,λw cd pd pl p1 p2=>?_,?_,?_,λs r=>let⟨EU,CO⟩:=h.sd s r;k.sd EU CO⟩;.have h1:=h.GS w cd pd pl p1 p2;have h2:=k.GS w cd pd pl (by rw[hP];exact p1) (by rw[hP];exact p2);rw[SQ,SQ];omega
 .have h1:=h.da;have h2:=k.da;rw[hP]at h2;omega
 .have h1:=h.jv;have h2:=k.jv;rw[hP]at h2;omega
theorem Wk.cg{a:Nat}(h:Wk S AB l a BC)(g:JN S l sp c e)(q:BE S)(WC:BE AB)(sm:Sm S AB)(GR:AB.D.CD=S.D.CD)(hj:An KF S<=c+1)(ha:BC<=(c- 1)*S.D.P)(hc:2<=c):JN AB l sp c e:=by
 obtain⟨x,h1,h2⟩:=g.x;obtain⟨s1,s2⟩:=h.sd g.sd g.er;refine⟨?_,s1,g.fl.eq GR,s2,x,?_,?_⟩;.have:=h.GS KG 0 0 0 (Gs _ _) (Gs _ _);have:=g.no;omega
 .have:=h.GS IY 1 0 0 (Q0 _ _) (Q0 _ _);omega
 .have h3:=WC.njv;have h4:=h.jv;have h5:=q.jvn;rw[sm.P]at h3;have h6:=RP S.D.P hj;have h7:S.D.P*An KF AB<=S.D.P*(2*c+1):=by have:(c- 1)*S.D.P=S.D.P*(c- 1):=WM _ _;have h8:S.D.P*(2*c+1)=S.D.P*(c+1)+S.D.P*(c- 1)+S.D.P:=(by rw[<-SQ,<-Zc];congr 1;omega);omega
  have h8:=nD h7 (by have:=q.CT.P;omega);omega
theorem FG.wk{es:List BI}(h:FG g S ps es AB)(q:BE S)(hl:JA S l):Wk S AB l ps.length 0:=Wk.d (s:=(h.inv q).2.2.1.sm) (h.GS q (w:=KG) (Gs _ _) hl).2 (λw a0 cd p=>(h.GS q p hl).1) λs r=>h.sd q s r
theorem EY.wk{g:GV}{es:List BI}(h:EY g S es AB o)(q:BE S)(hl:JA S l):Wk S AB l (g.filter λx=>x.2.isSome).length 0:=Wk.d (s:=(h.inv q).2.2.1.sm) (h.GS q (w:=KG) (Gs _ _) hl).2 (λw a0 cd p=>(h.GS q p hl).1) λs r=>h.sd q s r
theorem IM.wk(h:IM sec data S AB o)(q:BE S)(hl:JA S l):Wk S AB l 1 0:=Wk.d (s:=(h.fr q.iw).1.sm) (h.GS q (w:=KG) (Gs _ _) hl).2 (λw a0 cd p=>by have:=(h.GS q p hl).1;omega) λs r=>h.sd q s r
theorem HU.wk{es:List BI}(h:HU es S AB o)(q:BE S)(hl:JA S l):Wk S AB l 0 (if es=[]then 0 else CF S es):=by
 refine Wk.lg (h.GS q (w:=KG) (Gs _ _) hl).2 (λw a0 cd p=>?_) λs r=>h.sd q s r;have:=(h.GS q p hl).1;split at this<;>rename_i he;.rw[AP he];omega
 .rw[AM he];exact this
theorem HO.wk{es:List BI}(h:HO t es S AB o)(q:BE S)(hl:JA S l):Wk S AB l 0 (CF S es):=Wk.lg (h.GS q (w:=KG) (Gs _ _) hl).2 (λw a0 cd p=>(h.GS q p hl).1) λs r=>h.sd q s r
def mu(S:Ap)(l:List Int)(c:Nat):Nat:=2*An (JL S.D.P) S+(if c+2<=An KH S then 1 else 0)+(2*S.D.P+2)*rem l S.D.n
theorem JN.BV(g:JN S l sp c e)(hb:b<S.D.nb)(h3:S.ps b=3)(hj:S.jr (b:Int)=false)(ID:e<S.D.en):JN (S.BV b).1 l sp c (e+1)/\((S.BV b).2= .pow\/(S.BV b).2= .done 0/\An (JL S.D.P) (S.BV b).1+S.D.P=An (JL S.D.P) S)/\rem l (S.BV b).1.D.n<=rem l S.D.n/\An KH (S.BV b).1=An KH S:=by
 obtain⟨p,s,m,k,s1,s2,h⟩:=Pf hb h3 g.fl g.sd g.er ID;obtain⟨x,h1,h2⟩:=g.x;have e1:=k.sum hb h3 KG;have e2:=k.sum hb h3 IY;have e3:=k.sum hb h3 KF;have e4:=k.sum hb h3 (JL S.D.P);have e5:=k.sum hb h3 KH;rw[hj]at e1 e2 e3 e4 e5;have hr:=F3 l k.n;have TL:=g.no;have TF:IZ (S.BV b).1 (e+1):=λi hi=>by rw[k.nb]at hi;have h1:=s2 i hi;have h2:=g.er i hi;split at h1<;>omega
 have e3':An KF (S.BV b).1=An KF S:=by simpa[KF]using e3
 have e5':An KH (S.BV b).1=An KH S:=by simpa[KH]using e5
 rcases h with⟨h4,rfl,rfl⟩|⟨h4,rfl,h5⟩
 .refine⟨⟨?_,s1,g.fl.eq k.CD,TF,x,?_,om⟩,.inl h4,hr,e5'⟩;.simp[KG]at e1;omega
  .simp[IY]at e2;omega
 .have key:∀{P:Prop},(An KG (S.BV b).1=0->An IY (S.BV b).1+rem l (S.BV b).1.D.n<=An IY S+rem l S.D.n->An (JL S.D.P) (S.BV b).1+S.D.P=An (JL S.D.P) S->P)->P:=λhk=>by
   rcases h5 with⟨h5,rfl⟩|⟨h5,⟨rfl,rfl⟩|⟨rfl,h6⟩⟩;.rw[h5]at e1 e2;simp[KG]at e1;simp[IY]at e2;simp[JL]at e4;exact hk om om e4
   .rw[h5]at e1 e2;simp[KG]at e1;simp[IY]at e2;simp[JL]at e4;exact hk om om e4
   .rw[h5]at e1 e2;simp[KG]at e1;simp[IY]at e2;simp[JL]at e4;exact hk om om e4
  exact key λk1 k2 k3=>⟨⟨k1,s1,g.fl.eq k.CD,TF,x,om,om⟩,.inr ⟨h4,k3⟩,hr,e5'⟩
theorem JN.mono{BG:Nat}(g:JN S l sp c e)(h:e<=BG):JN S l sp c BG:=⟨g.no,g.sd,g.fl,λb hb=>EM (g.er b hb) h,g.x⟩
theorem wC(S:Ap)(b:Nat):(S.mv b).length=GT S.A S.D.P b:=by unfold Ap.mv;rw[Iq];rfl
theorem FG.ad6{es:List BI}(h:FG g S ps es AB)(e:ps=[]):es=[]/\S=AB:=by
 cases h with
 |nil=>exact⟨rfl,rfl⟩
 |snoc _ _=>simp at e
theorem FG.len{es:List BI}(h:FG g S ps es AB):es.length=ps.length:=by
 induction h with
 |nil=>rfl
 |snoc _ _ ih=>rw[DX,DX,ih];rfl
theorem NE.empty(h:NE b S AB o)(g:JN S l sp c e)(q:BE S)(hb:b<S.D.nb)(h3:S.ps b=3)(hj:S.jr (b:Int)=false)(hv:GT S.A S.D.P b=0)(ID:e<S.D.en):JN AB l sp c (e+1)/\(o= .pow\/o= .done 0/\mu AB l c<mu S l c):=by
 have hm:S.mv b=[]:=jJ.1 (by rw[wC];exact hv);have hP:=q.CT.P.1
 cases h with
 |bad m hp h ho=>rw[hm]at hp;simp at hp
 |WY m k ho=>
  obtain⟨rfl,rfl⟩:=m.ad6 hm
  cases k with
  |nil _=>rcases ho with h|h<;>cases h
  |ok _ hn=>exact absurd rfl hn
  | @bad _ _ hn _ _=>exact absurd rfl hn
 |ok m k=>
  obtain⟨rfl,rfl⟩:=m.ad6 hm
  cases k with
  |ok _ hn=>exact absurd rfl hn
  | @bad _ _ hn _ _=>exact absurd rfl hn
  |nil _=>obtain⟨g1,g2,g3,g4⟩:=g.BV hb h3 hj ID;have sm:=Jm S b;refine⟨g1,g2.imp id λ⟨h1,h2⟩=>⟨h1,?_⟩⟩;unfold mu;rw[sm.P,g4];have:=RP (2*S.D.P+2) g3;omega
theorem Tc(q:BE S){n:Nat}(h:rem l S.D.n+n<=GK S):An (MY S.D.P) S+S.D.P*rem l S.D.n+S.D.P*n<=S.D.nb*S.D.P:=by have h1:=q.usF;have h2:=RP S.D.P h;rw[SQ]at h2;omega
theorem NE.step(h:NE b S AB o)(f:Ts S sp c Y)(g:JN S l sp c e)(q:BE S)(ok:S.D.Ok)(hb:b<S.D.nb)(h3:S.ps b=3)(hj:S.jr (b:Int)=false)(hv:GT S.A S.D.P b<S.D.P)(ID:e<S.D.en)(hT:An KH S<=c+1)(hF:rem l S.D.n+2*c+1<=GK S):o≠ .full/\JN AB l sp c (e+1)/\(o= .done 0->mu AB l c<mu S l c):=by
 have hP:=q.CT.P.1;have hc:=f.hc;have hz:=q.CT.sz;have hN:An KF S<=c+1:=EM (mf S) hT;have hU:=Tc (l:=l) q (n:=5) om;have hl:=wC S b;have hcP:S.D.P<=(c- 1)*S.D.P:=Nat.le_mul_of_pos_left _ om
 cases h with
 | @bad S1 _ i p es _ m hp h ho=>
  obtain⟨q1,k1,f1,-⟩:=m.inv q;obtain⟨q2,k2,-,-⟩:=h.inv q1;have f2:=(h.fr q1.iw).1;have w1:=m.wk (l:=l) q g.fl;have w2:=h.wk (l:=l) q1 (g.fl.eq f1.CD);have hi:=(FE.1 hp).1;have h4:=w1.GS (MY S.D.P) S.D.P 1 1 (Fq _ _) (Fq _ _);have BX:((S.mv b).take i).length=i:=by rw[IS];omega
  rw[BX]at h4;refine⟨h.TT q1 (g.fl.eq f1.CD) (by rw[f1.P,f1.nb];omega),?_,λe=>by rcases ho with h|h<;>rw[h]at e<;>cases e⟩;exact((w1.trans w2 f1.P).cg g q q2 (f1.trans f2).sm ((f1.trans f2).CD) hN om hc).mono (QD _)
 | @WY S1 _ es _ m k ho=>obtain⟨q1,k1,f1,-⟩:=m.inv q;obtain⟨q2,k2,sm,-⟩:=m.cm k q ok;have w1:=m.wk (l:=l) q g.fl;have w2:=k.wk (l:=l) q1 (g.fl.eq f1.CD);have hr:CF S1 es<=es.length+1:=Gr (by rw[f1.sz];exact hz.1);have EJ:es.length=(S.mv b).length:=m.len;have h4:=w1.GS (MY S.D.P) S.D.P 1 1 (Fq _ _) (Fq _ _);refine⟨k.TT q1 (g.fl.eq f1.CD) (λ_=>by rw[f1.P,f1.nb];omega),?_,λe=>by rcases ho with h|h<;>rw[h]at e<;>cases e⟩;refine((w1.trans w2 f1.P).cg g q q2 sm ((k.fr q1.iw).1.2.2.2.2.2.2.2.2.trans f1.CD) hN ?_ hc).mono (QD _);split<;>omega
 | @ok S1 S2 es m k=>
  obtain⟨q1,k1,f1,-⟩:=m.inv q;obtain⟨q2,k2,sm,-⟩:=m.cm k q ok;have w1:=m.wk (l:=l) q g.fl;have w2:=k.wk (l:=l) q1 (g.fl.eq f1.CD);have hr:CF S1 es<=es.length+1:=Gr (by rw[f1.sz];exact hz.1);have EJ:es.length=(S.mv b).length:=m.len;have w:=w1.trans w2 f1.P;have g2:=w.cg g q q2 sm ((k.fr q1.iw).1.2.2.2.2.2.2.2.2.trans f1.CD) hN (by split<;>omega) hc;obtain⟨g3,g4,g5,g6⟩:=g2.BV (b:=b) (by rw[sm.nb];exact hb) (k2.OA b hb h3) (by rw[k2.PH b hb om];exact hj) (by rw[sm.en];exact ID);refine⟨λe=>by rcases g4 with h|h<;>rw[e]at h<;>simp at h,g3,λho=>?_⟩;rcases g4 with h|⟨-,h⟩;.rw[ho]at h;cases h
  .have h5:=w.da;have h6:=F3 l w.n;have h7:=RP S.D.P g5;unfold mu;rw[(Jm S2 b).P,sm.P,AM (show¬c+2<=An KH S from om),TX,TX,Nat.mul_assoc,Nat.mul_assoc];rw[sm.P]at h;split<;>omega
theorem LU.step{gr:GV}(h:LU gr S AB o)(f:Ts S sp c Y)(g:JN S l sp c e)(q:BE S)(hr:∀y∈gr,0<=y.1/\y.1<(S.S:Int))(HA:(gr.map (·.1)).Nodup)(hd:(gr.filter λx=>x.2.isSome).length<=S.D.P)(hT:An KH S<=c+1)(hF:rem l S.D.n+2*c+8<=GK S):o≠ .full/\JN AB l sp c e:=by
 have hP:=q.CT.P.1;have hc:=f.hc;have hN:An KF S<=c+1:=EM (mf S) hT;have hU:=Tc (l:=l) q (n:=2*c+8) om;have hlen:gr.length<=S.S:=by
  have:=Da S.S (gr.map (·.1)) HA λx hx=>by obtain⟨y,hy,rfl⟩:=DK.1 hx;exact hr y hy
  rw[DC]at this;exact this
 have bQ:S.D.P*(2*c+8)=(c- 1)*S.D.P+S.D.P*(c+9):=by rw[WM (c- 1),<-SQ];congr 1;omega
 have h9:S.D.P*2<=S.D.P*(c+9):=RP _ om
 cases h with
 | @ok S1 S2 es a k=>
  obtain⟨q1,k1,f1,-⟩:=a.inv q;have q2:=((LU.ok a k).inv q hr).1;have sm:=(LU.ok a k).sm q;have w1:=a.wk (l:=l) q g.fl;have w2:=k.wk (l:=l) q1 (g.fl.eq f1.CD);have EJ:=a.len;have lV:CF S1 es<=(c- 1)*S.D.P:=by unfold CF;rw[f1.sz];exact f.hr _ om
  exact⟨by simp,(w1.trans w2 f1.P).cg g q q2 sm ((k.fr q1.iw).1.2.2.2.2.2.2.2.2.trans f1.CD) hN (by split<;>omega) hc⟩
 | @bad S1 es _ a ho=>obtain⟨q1,k1,f1,-⟩:=a.inv q;have w1:=a.wk (l:=l) q g.fl;exact⟨a.TT q g.fl om,w1.cg g q q1 f1.sm f1.CD hN (CN _) hc⟩
 | @WX S1 S2 es _ a k ho=>
  obtain⟨q1,k1,f1,-⟩:=a.inv q;have q2:=((LU.WX a k ho).inv q hr).1;have sm:=(LU.WX a k ho).sm q;have w1:=a.wk (l:=l) q g.fl;have w2:=k.wk (l:=l) q1 (g.fl.eq f1.CD);have EJ:=a.len;have lV:CF S1 es<=(c- 1)*S.D.P:=by unfold CF;rw[f1.sz];exact f.hr _ om
  have h4:=w1.GS (MY S.D.P) S.D.P 1 1 (Fq _ _) (Fq _ _);exact⟨k.TT q1 (g.fl.eq f1.CD) (λ_=>by rw[f1.P,f1.nb];omega),(w1.trans w2 f1.P).cg g q q2 sm ((k.fr q1.iw).1.2.2.2.2.2.2.2.2.trans f1.CD) hN (by split<;>omega) hc⟩
