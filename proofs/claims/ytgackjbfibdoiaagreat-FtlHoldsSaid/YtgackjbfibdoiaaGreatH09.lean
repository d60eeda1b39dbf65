import Derived.Test.YtgackjbfibdoiaaGreatH07
import Derived.Test.YtgackjbfibdoiaaGreatH06
set_option linter.all false
set_option maxRecDepth 100000
set_option maxHeartbeats 4000000
noncomputable section
namespace Go.Ev
variable {P0:Program}{E:Env}{F:T DY}{K:HK}(L:Lg P0 E F K)[X:Fx F K][aq4:Tb P0 E F K][U:Yz P0 E F 208]
variable {B:Nat->Prop}{D:Dv}{M:OJ}{P b ck f fm i lp mb nb o r r1:Nat}{args cb:List AV}{h AA:H}{s:Int}{AD AF:Nat->Nat}
def FZ(A:DM)(p:Int):Int:= @dite Int (∃s,A s=some p) (Classical.propDecidable _) (λh=>Classical.choose h) λ_=>0
theorem Fp{A:DM}{p:Int}(h:A s=some p)(inj:∀s EU p,A s=some p->A EU=some p->s=EU):FZ A p=s:=by have hx:∃s,A s=some p:=⟨s,h⟩;unfold FZ;rw[dif_pos hx];exact inj _ _ p (Classical.choose_spec hx) h
def Eo(A:DM)(P i j:Nat):List Int:=((List.range j).map λk=>((i*P+k:Nat):Int)).filter (Jh A)
theorem Sq(A:DM)(P i j:Nat):Eo A P i (j+1)=Eo A P i j++if Jh A ((i*P+j:Nat):Int)=true then[((i*P+j:Nat):Int)]else[]:=by
 unfold Eo;rw[WQ,IG,jO];congr 1;show List.filter (Jh A) [((i*P+j:Nat):Int)]=_;by_cases h:Jh A ((i*P+j:Nat):Int)=true;.rw[AP h,nE h];rfl
 .rw[AM h,nF h];rfl
theorem Iq(A:DM)(P i:Nat):∀j,(Eo A P i j).length=E1 (λk=>Jh A ((i*P+k:Nat):Int)) j
 |0=>rfl
 |j+1=>by
  rw[Sq,DX,Iq A P i j];simp only[E1];by_cases h:Jh A ((i*P+j:Nat):Int)=true;.rw[AP h,AP h];rfl
  .rw[AM h,AM h];rfl
section
theorem aq7:CL L 211 [.AS,.AS] h λv AA=>v= .fn (.func 249) [] [.ptr h.n 0,.ptr (h.n+1) 0]/\Bk AA h.n [.AS]/\Bk AA (h.n+1) [.AS]/\K0 h AA:=by refine Ad L X.f211 λQ x cs G=>?_;refine ret X.f211.1 ?_;exact⟨rfl,AG,AG,AH⟩
theorem al8{a0 b0 k0 l0:Nat}:CL L 211 [.AE a0 0 k0 (Aa+1),.AE b0 0 l0 (Aa+1)] h λv AA=>v= .fn (.func 249) [] [.ptr h.n 0,.ptr (h.n+1) 0]/\Bk AA h.n [.AE a0 0 k0 (Aa+1)]/\Bk AA (h.n+1) [.AE b0 0 l0 (Aa+1)]/\K0 h AA:=by refine Ad L X.f211 λQ x cs G=>?_;refine ret X.f211.1 ?_;exact⟨rfl,AG,AG,AH⟩
variable {S m r2 vb:Nat}{A:DM}
theorem vf(q:II S nb P h m r1 r2 vb A):CL L 98 [.ptr m 0,AI s] h λv AA=>(v=match A s with|some p=> .BM [AI p,.bool true]|none=> .BM [Zi,.bool false])/\AA=h:=by
 obtain⟨km,-,rg,nz,M1,M2,c1,c2,cv,k1,o1,k2,o2,kv,vl,vv,mr⟩:=q;have ha:=mr.a1 s;refine Ad L X.f98 λQ x cs G=>?_;refine wk ?_;refine BO L (Ek (KE.int .i64) rfl rfl CH) ?_;rw[ha]
 cases hA:A s with
 |none=>refine ret X.f98.1 ?_;refine⟨?_,rfl⟩;rw[hA];rfl
 |some p=>refine ret X.f98.1 ?_;refine⟨?_,rfl⟩;rw[hA];rfl
theorem Hw(q:II S nb P h m r1 r2 vb A):CL L 97 [.ptr m 0] h λv AA=>v=AN S/\AA=h:=by have km:=q.km;refine Aj L X.f97 λQ x cs G=>?_;refine ret X.f97.1 ?_;exact⟨rfl,rfl⟩
theorem O5(q:II S nb P h m r1 r2 vb A)(hi:i<nb):CL L 175 [.ptr m 0,AN i] h λv AA=>v=AN (GT A P i)/\AA=h:=by obtain⟨km,-,rg,nz,M1,M2,c1,c2,cv,k1,o1,k2,o2,kv,vl,vv,mr⟩:=q;have hv:=vv i hi;refine Ad L X.f175 λQ x cs G=>?_;refine ret X.f175.1 ?_;exact⟨rfl,rfl⟩
theorem rx(q:II S nb P h m r1 r2 vb A)(hi:i<nb):CL L 177 [.ptr m 0,AN i] h λv AA=>∃a b va MA,v= .fn (.func 249) [] [.ptr a 0,.ptr b 0]/\Bk AA a [va]/\Bk AA b [MA]/\DN AA h.n va (Eo A P i P)/\DN AA h.n MA ((Eo A P i P).map (FZ A))/\K0 h AA/\h.n<=a/\h.n<=b:=by
 have q0:=q;have inj:=q.inv.inj;obtain⟨km,-,rg,nz,M1,M2,c1,c2,cv,k1,o1,k2,o2,kv,vl,vv,mr⟩:=q;have hlen:=Iq A P i P;have hm:i*P<=44*6:=NB om om;have e1:(i+1)*P=i*P+P:=by rw[TX,jZ]
 refine Ad L X.f177 λQ x cs G=>?_;refine AK ?_ (c:=O5 L q0 hi);rintro _ rfl;by_cases hz:GT A P i=0;.have hD:Eo A P i P=[]:=jJ.1 (by rw[hlen];exact hz);rw[hz];refine AK ?_ (c:=aq7 L);rintro _ h3 ⟨rfl,u1,u2,u3⟩;refine ret X.f177.1 ?_;rw[hD];exact⟨_,_,.AS,.AS,rfl,by exact AG,by exact AG,⟨.inl ⟨rfl,rfl⟩⟩,⟨.inl ⟨rfl,rfl⟩⟩,AH,by first|omega|(simp only[Ag]at *;omega),by first|omega|(simp only[Ag]at *;omega)⟩
 .refine wk ?_;refine Bt L (α:=AV×AV) (T:=λj s=>[(7,some (AN (i*P+j))),(5,some s.1),(6,some s.2),(1,some (AN i)),(0,some (.ptr m 0))]) (n:=P) (R:=λj s h3=>((Eo A P i j=[]/\s.1= .AS/\s.2= .AS)\/(0<(Eo A P i j).length/\∃b c,s.1= .AE b 0 (Eo A P i j).length (Aa+1)/\s.2= .AE c 0 (Eo A P i j).length (Aa+1)/\Bk h3 b ((Eo A P i j).map AI)/\Bk h3 c (((Eo A P i j).map (FZ A)).map AI)/\b≠c/\h.n<=b/\h.n<=c))/\Kp (λj=>h.n<=j) h h3) (i0:=0) (.AS,.AS) BA ⟨.inl ⟨rfl,rfl,rfl⟩,AH⟩ (CN _) ?_ ?_
  .rintro j ⟨sa,sb⟩ h3 hj ⟨u1,u2⟩ ih;simp only at u1;have n3:=u2.n;have km3:=Ao u2 om km;have ZN:=Nb u2 om k2;have YQ:=Iq A P i j;have NV:=Qx (λk=>Jh A ((i*P+k:Nat):Int)) j;have hs:=Sq A P i j;have e2:((i*P+j:Nat):Int)+((1:Nat):Int)=((i*P+(j+1):Nat):Int):=om;generalize hp:Eo A P i j=D at*;refine wk ?_;refine BO L (Ek (KE.int .i64) rfl rfl CH) ?_
   cases hg:A9 M2 ((i*P+j:Nat):Int)with
   |none=>
    have TL:Jh A ((i*P+j:Nat):Int)=false:=oY.2 λ⟨s,hs⟩=>by rw[mr.a2 s _ hs]at hg;cases hg
    rw[TL,AM W0,MO]at hs;rw[hs]at ih;refine wk ?_;exact ih (sa,sb) _ _ ⟨u1,AH⟩ BA
   |some u=>
    obtain⟨s,rfl,e3⟩:=mr.a3 _ u hg;have ajq:Jh A ((i*P+j:Nat):Int)=true:=aC.2 ⟨s,e3⟩;rw[AP ajq]at hs;rw[hs]at ih;have hinv:FZ A ((i*P+j:Nat):Int)=s:=Fp e3 inj;rcases u1 with⟨rfl,rfl,rfl⟩|⟨gn,b,c,rfl,rfl,g1,g2,g3,g4,g5⟩;.refine wk ?_;(apply IQ L rfl;exact D1 (new:=[AN (i*P+j)]) rfl rfl (CG.of (c:=[AN (i*P+j)]) AG (BD _) rfl) om om;rfl);refine wk ?_;refine BO L (D1 (new:=[AI s]) rfl rfl (CG.of (c:=[AI s]) AG (BD _) rfl) om om) ?_;refine wk ?_;refine ih (.AE (h3.n+1) 0 1 (Aa+1),.AE (h3.n+1+1+1) 0 1 (Aa+1)) _ _ ⟨.inr ⟨by simp,h3.n+1,h3.n+1+1+1,rfl,rfl,by exact AG,?_,om,om,om⟩,AH⟩ BA;have e9:List.map AI (List.map (FZ A) ([]++[((i*P+j:Nat):Int)]))=[AI s]:=(by simp only[RV,FU,Zb,hinv]);rw[e9];exact AG
    .have t1:=g1.lt;refine wk ?_;(apply IQ L rfl;exact D7 (old:=D.map AI) (new:=[AN (i*P+j)]) rfl rfl (CG.of (c:=D.map AI) AG W0 iQ) (CG.of (c:=[AN (i*P+j)]) AG (BD _) rfl) om om rfl;rfl);refine wk ?_;(apply IQ L rfl;exact D7 (old:=(D.map (FZ A)).map AI) (new:=[AI s]) rfl rfl (CG.of (c:=(D.map (FZ A)).map AI) AG W0 iQ) (CG.of (c:=[AI s]) AG (BD _) rfl) om om rfl;rfl);refine wk ?_;refine ih (.AE (h3.n+1) 0 (D.length+1) (Aa+1),.AE (h3.n+1+1+1) 0 (D.length+1) (Aa+1)) _ _ ⟨.inr ⟨by simp,h3.n+1,h3.n+1+1+1,by simp,by simp,?_,?_,om,om,om⟩,AH⟩ BA;.rw[IG];exact AG
     .have e9:List.map AI (List.map (FZ A) [((i*P+j:Nat):Int)])=[AI s]:=(by simp only[RV,FU,Zb,hinv]);rw[IG,IG,e9];exact AG
  .rintro⟨sa,sb⟩ h3 ⟨u1,u2⟩;simp only at u1;have n3:=u2.n;have km3:=Ao u2 om km;rcases u1 with⟨e0,-,-⟩|⟨gn,b,c,rfl,rfl,g1,g2,g3,g4,g5⟩;.rw[e0]at hlen;exact absurd hlen.symm hz
   .refine AK ?_ (c:=al8 L (a0:=b) (b0:=c) (k0:=(Eo A P i P).length) (l0:=(Eo A P i P).length));rintro _ h4 ⟨rfl,w1,w2,w3⟩;refine ret X.f177.1 ?_;refine⟨_,_,_,_,rfl,by exact AG,by exact AG,⟨.inr ⟨gn,b,rfl,by exact AG,g4⟩⟩,⟨.inr ⟨by rw[DC];exact gn,c,by rw[DC],by exact AG,g5⟩⟩,Kp.cut (Kp.EA w3 u2) (BD _),by simp only[Ag]at *;omega,by simp only[Ag]at *;omega⟩
end
def Ib(f:Nat->Nat)(n:Nat):List AV:=(List.range n).map λi=>AN (f i)
theorem Nn(f:Nat->Nat)(n:Nat):(Ib f n).length=n:=by simp[Ib]
theorem aam(f:Nat->Nat){n:Nat}(hi:i<n):(Ib f n)[i]?=some (AN (f i)):=by simp[Ib,hi]
theorem U0(f:Nat->Nat)(n:Nat):Ib f (n+1)=Ib f n++[AN (f n)]:=by simp[Ib,WQ]
theorem dt3{c:List AV}{u v w:AV}(h1:c[o]?=some u)(h2:c[o+1]?=some v)(h3:c[o+2]?=some w):o+3<=c.length/\(c.drop o).take 3=[u,v,w]:=by
 have l3:=(FE.1 h3).1;refine⟨om,QT λi=>?_⟩;rcases i with _|_|_|i;.rw[N0 om,MN];exact h1
 .rw[N0 om,MN];exact h2
 .rw[N0 om,MN];exact h3
 .rw[nA om];rfl
theorem Aa2{pn nx er:Nat}:CL L 108 [.agg [.AE pn 0 P P,AN nx,AN er]] h λv AA=>v=AN er/\K0 h AA:=by refine Aj L X.f108 λQ x cs G=>?_;refine ret X.f108.1 ?_;exact⟨rfl,AH⟩
theorem al9{d bb:Nat}(q:LV AD h d D fm bb cb):CL L 107 [.AE bb 0 D.nb D.nb,.fn (.func 108) [] []] h λv AA=>((D.nb=0/\v= .AS)\/∃b,v= .AE b 0 D.nb (Aa+1)/\Bk AA b (Ib (λi=>(D.bl i).er) D.nb)/\h.n<=b)/\K0 h AA:=by
 have hb:=q.bk;have hl:=q.Z1;have hn:=q.nb;refine Ad L X.f107 λQ x cs G=>?_;refine wk ?_;refine Bt L (α:=AV) (T:=λi v=>[(9,some (AN i)),(8,some (AN D.nb)),(7,some (.AE bb 0 D.nb D.nb)),(4,some v),(1,some (.fn (.func 108) [] []))]) (n:=D.nb) (R:=λi v h3=>((i=0/\v= .AS)\/(0<i/\∃b,v= .AE b 0 i (Aa+1)/\Bk h3 b (Ib (λi=>(D.bl i).er) i)/\h.n<=b))/\Kp (λj=>h.n<=j) h h3) (i0:=0) .AS BA ⟨.inl ⟨rfl,rfl⟩,AH⟩ (CN _) ?_ ?_
 .rintro i v h3 hi ⟨u1,u2⟩ ih;have Z9:=Ao u2 om hb;have n3:=u2.n;obtain⟨pn,c,hr⟩:=q.rows i hi;have DF:=dt3 hr.c0 hr.c1 hr.c2;have ZF:=Nn (λi=>(D.bl i).er) i;refine wk ?_;refine BO L (A0 Z9.rk DF rfl) ?_;refine AK ?_ (c:=Aa2 L);rintro _ h4 ⟨rfl,w1⟩;have n4:=w1.n;simp only[Ag]at n4;rcases u1 with⟨rfl,rfl⟩|⟨PY,b,rfl,g1,g2⟩;.refine wk ?_;(apply IQ L rfl;exact D1 (new:=[AN ((D.bl 0).er)]) rfl rfl (CG.of (c:=[AN ((D.bl 0).er)]) AG (BD _) rfl) om om;rfl);refine wk ?_;refine ih (.AE (h4.n+1) 0 1 (Aa+1)) _ _ ⟨.inr ⟨om,h4.n+1,rfl,?_,om⟩,AH⟩ BA;exact AG
  .have t1:=g1.lt;refine wk ?_;(apply IQ L rfl;exact D7 (old:=Ib (λi=>(D.bl i).er) i) (new:=[AN ((D.bl i).er)]) rfl rfl (CG.of (c:=Ib (λi=>(D.bl i).er) i) AG om iK) (CG.of (c:=[AN ((D.bl i).er)]) AG (BD _) rfl) om om rfl;rfl);refine wk ?_;refine ih (.AE (h4.n+1) 0 (i+1) (Aa+1)) _ _ ⟨.inr ⟨om,h4.n+1,rfl,?_,om⟩,AH⟩ BA;rw[U0];exact AG
 .rintro v h3 ⟨u1,u2⟩;have n3:=u2.n;rcases u1 with⟨e,rfl⟩|⟨PY,b,rfl,g1,g2⟩;.refine ret X.f107.1 ?_;exact⟨.inl ⟨e,rfl⟩,Kp.cut u2 (BD _)⟩
  .refine ret X.f107.1 ?_;exact⟨.inr ⟨b,rfl,AG,g2⟩,Kp.cut u2 (BD _)⟩
theorem Afx{d bb:Nat}(q:LV AD h d D fm bb cb)(FT:0<D.nb):CL L 70 [.ptr d 0] h λv AA=>∃a b,v= .fn (.func 109) [] [.ptr a 0]/\Bk AA a [.AE b 0 D.nb (Aa+1)]/\Bk AA b (Ib (λi=>(D.bl i).er) D.nb)/\h.n<=a/\h.n<=b/\K0 h AA:=by
 have hd:=q.dk;refine Aj L X.f70 λQ x cs G=>?_;refine AK ?_ (c:=Eh L (D:=D) AG);rintro _ rfl;unfold GJ T2 at hd;have hk:K0 h (hp (h.n+1) h.t [(h.n,some (cl [.AS]))]):=AH;have q2:LV AD (hp (h.n+1) h.t [(h.n,some (cl [.AS]))]) d D fm bb cb:=q.kb (hk.mono λ_ f=>f.elim);refine AK ?_ (c:=al9 L q2);rintro _ h3 ⟨u1,u2⟩;rcases u1 with⟨e,_⟩|⟨b,rfl,g1,g2⟩
 .omega
 .simp only[Ag]at g2;have n3:=u2.n;simp only[Ag]at n3;refine ret X.f70.1 ?_;exact⟨h.n,b,rfl,AG,AG,BD _,om,AH⟩
theorem Aa3{a:Nat}{f:Nat->Nat}(FT:nb<=44)(I:Nat->H->Prop)(hI:∀i hh,I i hh->Bk hh a [.AE b 0 nb (Aa+1)]/\Bk hh b (Ib f nb))(hK:∀i hh AA,I i hh->K0 hh AA->I i AA)(hY:∀i hh,i<nb->I i hh->SX P0 E F K (.yield lp) [AN i,AN (f i)] hh λu AA=>u= .bool true/\I (i+1) AA)(h0:I 0 h):CL L 109 [.fn (.yield lp) [] [],.ptr a 0] h λv AA=>I nb AA:=by
 obtain⟨k1,k2⟩:=hI _ _ h0;refine Ad L X.f109 λQ x cs G=>?_;refine wk ?_;refine Bt L (α:=Unit) (T:=λi _=>[(7,some (AN i)),(6,some (AN nb)),(5,some (.AE b 0 nb (Aa+1))),(0,some (.fn (.yield lp) [] []))]) (n:=nb) (R:=λi _ hh=>I i hh) (i0:=0) () BA (hK _ _ _ h0 AH) (CN _) ?_ ?_;.rintro i _ h2 hi w ih;obtain⟨j1,j2⟩:=hI _ _ w;have hx:=aam f hi;refine wk ?_;refine Jv L rfl rfl rfl rfl rfl (hY i _ hi (hK i _ _ w za)) ?_;rintro _ h3 ⟨rfl,w3⟩;refine wk ?_;refine ih () _ _ w3 ?_;exact BA
 .rintro _ h2 w;refine ret X.f109.1 ?_;exact w
def ZS(pe:Nat->Nat)(n:Nat):List AV:=(List.range n).flatMap λi=>[AN (pe i),AN 1]
theorem Ss(pe:Nat->Nat)(n:Nat):ZS pe (n+1)=ZS pe n++[AN (pe n),AN 1]:=by simp[ZS,WQ]
theorem Qy(pe:Nat->Nat):∀n,(ZS pe n).length=n*2
 |0=>rfl
 |n+1=>by rw[Ss,DX,Qy pe n];show n*2+2=_;omega
theorem Ww(pe:Nat->Nat):∀{n i:Nat},i<n->(ZS pe n)[i*2]?=some (AN (pe i))/\(ZS pe n)[i*2+1]?=some (AN 1)
 |n+1,i,hi=>by
  have hl:=Qy pe n;rw[Ss];by_cases e:i=n;.subst e;rw[OB om,OB om,hl,Xq,show i*2+1- i*2=1 from om];exact⟨rfl,rfl⟩
  .rw[QC om,QC om];exact Ww pe om
theorem Y0(s:Nat):∀n,LG (λ_=>1) s n=if 1=s then n else 0
 |0=>by simp[LG]
 |n+1=>by simp only[LG,Y0 s n];split<;>rfl
theorem Aa4{n:Nat}(hn:n<=1099511627776):CL L 213 [AN n] h λv AA=>v= .bool false/\AA=h:=by refine Aj L X.f213 λQ x cs G=>?_;refine AK ?_ (c:=Qf L hn);rintro _ rfl;refine ret X.f213.1 ?_;exact⟨rfl,rfl⟩
theorem Af0{eb:Nat}{pe:Nat->Nat}(hb:Bk h eb (Ib pe nb))(FT:0<nb/\nb<=44)(he:∀i,i<nb->pe i<=900000000):CL L 168 [.AE eb 0 nb (Aa+1)] h λv AA=>∃p pb cb,v= .BM [.ptr p 0,Zi]/\Ge AA p pb nb (λ_=>1) pe cb/\h.n<=p/\h.n<=pb/\K0 h AA:=by
 have ZF:=Nn pe nb;have q:OI (λ_=>0) h (.AE eb 0 nb (Aa+1)) ((List.range nb).map λi=>((pe i:Nat):Int)):=⟨.inr (.inr ⟨eb,Aa+1,by simp,by rw[WL];exact hb.rk,rfl⟩)⟩;refine Aj L X.f168 λQ x cs G=>?_;refine AK ?_ (c:=Nl L (f:=213) q Y1 (λx hx h2=>by obtain⟨i,hi,rfl⟩:=DK.1 hx;exact Aa4 L (by have:=he i (KI.1 hi);omega)));rintro _ h2 ⟨rfl,k2⟩;have n2:=k2.n;refine wk ?_;refine Bt L (α:=AV) (T:=λi _=>[(23,some (AN i)),(22,some (AN nb)),(21,some (.AE eb 0 nb (Aa+1))),(4,some (.ptr h2.n 0)),(0,some (.AE eb 0 nb (Aa+1)))]) (n:=nb) (R:=λi v h3=>Bk h3 h2.n [v,Zi,Zi,Zi,Zi,Zi]/\((i=0/\v= .AS)\/(0<i/\∃b,v= .AE b 0 i (Aa+2)/\Bk h3 b (ZS pe i)/\h.n<=b/\b≠h2.n))/\Kp (λj=>h.n<=j) h h3) (i0:=0) .AS BA ⟨AG,.inl ⟨rfl,rfl⟩,AH⟩ (CN _) ?_ ?_
 .rintro i v h3 hi ⟨u0,u1,u2⟩ ih;have Z9:=Ao u2 om hb;have n3:=u2.n;have t0:=u0.lt;have hx:=aam pe hi;have LA:=Qy pe i;rcases u1 with⟨rfl,rfl⟩|⟨PY,b,rfl,g1,g2,g3⟩;.refine wk ?_;(apply IQ L rfl;exact D1 (new:=[AN (pe 0),AN 1]) rfl rfl (CG.of (c:=[AN (pe 0),AN 1]) AG (BD _) rfl) om om;rfl);refine wk ?_;refine ih (.AE (h3.n+1) 0 1 (Aa+2)) _ _ ⟨AG,.inr ⟨om,h3.n+1,rfl,?_,om,om⟩,AH⟩ BA;exact AG
  .have t1:=g1.lt;refine wk ?_;(apply IQ L rfl;exact D7 (old:=ZS pe i) (new:=[AN (pe i),AN 1]) rfl rfl (CG.of (c:=ZS pe i) AG om iK) (CG.of (c:=[AN (pe i),AN 1]) AG (BD _) rfl) om om rfl;rfl);refine wk ?_;refine ih (.AE (h3.n+1) 0 (i+1) (Aa+2)) _ _ ⟨AG,.inr ⟨om,h3.n+1,rfl,?_,om,om⟩,AH⟩ BA;rw[Ss];exact AG
 .rintro v h3 ⟨u0,u1,u2⟩;rcases u1 with⟨e,_⟩|⟨PY,b,rfl,g1,g2,g3⟩;.omega
  .have n3:=u2.n;have t0:=u0.lt;have t1:=g1.lt;refine wk ?_;refine BO L (Hf (i:=1) rfl rfl om) ?_;refine ret X.f168.1 ?_;refine⟨h2.n,b,ZS pe nb,rfl,⟨?_,AG,om,Qy pe nb,FT,λi hi=>(Ww pe hi).1,λi hi=>(Ww pe hi).2,λi hi=>om,he⟩,n2,g2,?_⟩;.refine R9 ?_ AG;unfold W9;simp only[Y0];rfl
   .have k4:Kp (λj=>h.n<=j) h (hp h3.n h3.t [(h2.n,some (cl [.AE b 0 nb (Aa+2),Zi,AN nb,Zi,Zi,Zi]))]):=AH;exact k4.cut (BD _)
theorem amj(q:EP M ck)(I:List Int->H->Prop)(hI:∀S hh,I S hh->Bk hh mb [.map r1]/\Mk hh r1 (M.map (mE AI)) ck)(hK:∀S hh AA,I S hh->Kp (λj=>j=h.n) hh AA->I S AA)(hY:∀S k hh,I S hh->S.length<M.length->h.n<hh.n->SX P0 E F K (.yield lp) [AI k] hh λu AA=>u= .bool true/\I (S++[k]) AA/\hh.n<=AA.n/\(∀x,Gk hh h.n x->Gk AA h.n x))(h0:I [] h):CL L 255 [.fn (.yield lp) [] [],.ptr mb 0] h λv AA=>∃S,List.Perm S (M.map (·.1))/\I S AA:=by
 obtain⟨k1,k2⟩:=hI _ _ h0;refine Ad L X.f255 λQ x cs G=>?_;refine wk ?_;refine BO L (We rfl CH) ?_;refine wk ?_;refine Wr L (α:=OJ) (T:=λY=>[(5,some (.ptr h.n 0)),(0,some (.fn (.yield lp) [] []))]) (mu:=eR M) (R:=λY hh=>I (Y.map (·.1)) hh/\Gk hh h.n (.MX (some r1) ck (Y.map (·.2.2)) ck)/\(∀y∈Y,y∈M)/\(Y.map (·.2.2)).Nodup/\h.n<hh.n/\Y.length+eR M Y<=M.length) [] BA ⟨hK _ _ _ h0 AH,CS,(λy hy=>by cases hy),fT,NQ _,by rw[VB,MD];exact V0 _ _⟩ ?_;rintro Y hh ⟨i1,i2,i3,i4,i5,i6⟩ ih;obtain⟨k3,k4⟩:=hI _ _ i1;refine wk ?_;refine Wf L rfl rfl (M:=M) (enc:=AI) (ck:=ck) (it:=h.n) (m:=r1) (seen:=Y.map (·.2.2)) CS CH q.lt ?_ ?_;.intro JF;refine ret X.f255.1 ?_;exact⟨_,(O4 q i3 i4 JF).map _,hK _ _ _ i1 AH⟩
 .exact zq8
def jd(hn mb:Nat)(st:LS):DV:= .loop ⟨st,none,286,kI.ntmps,AJ [(6,some (.fn (.func 255) [] [.ptr mb 0])),(4,some .AS),(2,some (.ptr hn 0)),(1,some (.fn (.func 255) [] [.ptr mb 0])),(0,some .AS)],[7],vj,vk,hn+1⟩
structure zo (h hh:H)(mb:Nat)(S:List Int):Prop where
 k:K0 h hh
 dk:Gk hh (h.n+1) (.EQ (some []))
 lp:Gk hh (h.n+2) (jd h.n mb .ready)
 ex:∃v,Bk hh h.n [v]/\((S=[]/\v= .AS)\/(0<S.length/\∃b,v= .AE b 0 S.length (Aa+1)/\Bk hh b (S.map AI)/\h.n+4<=b))
theorem ah0(q:EP M ck)(k1:Bk h mb [.map r1])(k2:Mk h r1 (M.map (mE AI)) ck)(hlen:M.length<2000):CL L 286 [.AS,.fn (.func 255) [] [.ptr mb 0]] h λv AA=>∃S,List.Perm S (M.map (·.1))/\K0 h AA/\((S=[]/\v= .AS)\/(0<S.length/\∃b,v= .AE b 0 S.length (Aa+1)/\Bk AA b (S.map AI)/\h.n<=b)):=by
 have l1:=k1.lt;refine Ad L X.f286 λQ x cs G=>?_;refine wk ?_;refine Ew L (post:=λ_ AA=>∃S,List.Perm S (M.map (·.1))/\zo h AA mb S) rfl rfl rfl ?_ ?_
 .refine Ct.A ((amj L q (λS hh=>zo h hh mb S) (λS hh r=>⟨Ab r.k k1,Sa r.k k2⟩) (λS hh AA r k=>?_) (λS z hh r hSl BX=>?_) ⟨AH,CS,CS,.AS,AG,.inl ⟨rfl,rfl⟩⟩).mono λv AA p=>p);.exact yj
  .obtain⟨r1,r2,r3,v,r4,r5⟩:=r;simp only[Ag]at BX;have l3:=r4.lt;have l4:=r3.lt;have hle:=r3.e;unfold jd at hle;refine Du L (l1:=[(7,some (AI z)),(6,some (.fn (.func 255) [] [.ptr mb 0])),(4,some .AS),(2,some (.ptr h.n 0)),(1,some (.fn (.func 255) [] [.ptr mb 0])),(0,some .AS)]) hle rfl ?_;intro Q z2 cs G;refine wk ?_;refine Dh L (Gk.e CS) ?_;rcases r5 with⟨rfl,rfl⟩|⟨r5,b,rfl,r7,r8⟩;.refine wk ?_;refine BO L (D1 (new:=[AI z]) rfl rfl (CG.of (c:=[AI z]) AG (BD _) rfl) om om) ?_;refine wk ?_;refine D8 L (Gk.e CS) G ⟨rfl,?_,by simp only[Ag];omega,λx hx=>(λbg:Gk hh (h.n+3) x=>(show Gk _ (h.n+3) x from by exact CS)) hx⟩;exact⟨AH,CS,(by unfold jd;exact D5 om),_,AG,.inr ⟨by simp,hh.n+1,rfl,by exact AG,om⟩⟩
   .have l6:=r7.lt;refine wk ?_;refine BO L (D7 (old:=S.map AI) (new:=[AI z]) rfl rfl (CG.of (c:=S.map AI) AG W0 iQ) (CG.of (c:=[AI z]) AG (BD _) rfl) om om rfl) ?_;refine wk ?_;refine D8 L (Gk.e CS) G ⟨rfl,?_,by simp only[Ag];omega,λx hx=>(λbg:Gk hh (h.n+3) x=>(show Gk _ (h.n+3) x from by exact CS)) hx⟩;exact⟨AH,CS,(by unfold jd;exact D5 om),_,AG,.inr ⟨by simp,hh.n+1,by simp,mB,om⟩⟩
 .rintro v h3 ⟨S,p,r1,r2,r3,v2,r4,r5⟩;have hle:=r3.e;unfold jd at hle;exact yi
theorem Y1x7(q:EP M ck)(k1:Bk h mb [.map r1])(k2:Mk h r1 (M.map (mE AI)) ck)(hlen:M.length<2000):CL L 254 [.fn (.func 255) [] [.ptr mb 0]] h λv AA=>∃S,List.Perm S (M.map (·.1))/\K0 h AA/\DN AA h.n v S:=by refine Aj L X.f254 λQ x cs G=>?_;refine AK ?_ (c:=ah0 L q k1 k2 hlen);exact yl
theorem ah1(q:EP M ck)(k1:Bk h mb [.map r1])(k2:Mk h r1 (M.map (mE AI)) ck)(hlen:M.length<2000):CL L 222 [.fn (.func 255) [] [.ptr mb 0]] h λv AA=>∃S,List.Perm S (M.map (·.1))/\K0 h AA/\DN AA h.n v (Dn S):=by obtain⟨g0,bS⟩:=U.g;refine Aj L X.f222 λQ x cs G=>?_;refine AK ?_ (c:=Y1x7 L q k1 k2 hlen);exact yk
theorem ah2(q:EP M ck)(k2:Mk h r1 (M.map (mE AI)) ck)(hlen:M.length<2000):CL L 181 [.map r1] h λv AA=>∃S,List.Perm S (M.map (·.1))/\K0 h AA/\DN AA h.n v (Dn S):=by
 have tS:CL L 223 [.map r1] h λv AA=>v= .fn (.func 255) [] [.ptr h.n 0]/\Bk AA h.n [.map r1]/\K0 h AA/\AA.n=h.n+1:=by refine Aj L X.f223 λQ x cs G=>?_;refine ret X.f223.1 ?_;exact⟨rfl,AG,AH,rfl⟩
 refine Aj L X.f181 λQ x cs G=>?_;refine AK ?_ (c:=tS);rintro _ h2 ⟨rfl,w1,w2,w3⟩;refine AK ?_ (c:=ah1 L q w1 (Sa w2 k2) hlen);rintro _ h3 ⟨S,p,w4,w5⟩;have w6:=w5;rcases w5.ex with⟨e0,rfl⟩|⟨w7,b,rfl,w8,w9⟩
 .refine ret X.f181.1 ?_;exact⟨_,p,AH,⟨.inl ⟨e0,rfl⟩⟩⟩
 .refine ret X.f181.1 ?_;exact⟨_,p,AH,⟨.inr ⟨w7,b,rfl,by exact AG,om⟩⟩⟩
def ext(AD:Nat->Nat)(n:Nat):Nat->Nat:=λb=>if b<n then AD b else 0
theorem Ae{n:Nat}(h:b<n):ext AD n b=AD b:=AP h
theorem B9{n:Nat}(h:n<=b):ext AD n b=0:=AM om
def YA(P:Program)(E:Env)(F:T DY)(K:HK)(f:Nat)(args:List AV)(h:H)(post G0:OF):Prop:=
 ∀(Q:Nat->AV->Prop) (x:EW) (cs:FM),(∀v AA,post v AA->GO P E Q (finish v cs AA x))->(∀v AA,G0 v AA->Good P E Q ⟨Me x [(v,false)],cs,AA⟩)->GO P E Q (B6 F K (.func f) args false x cs h)
abbrev CX{P:Program}{E:Env}{F:T DY}{K:HK}(L:Lg P E F K):=YA P E F K
section
variable {P:Program}{Q:Nat->AV->Prop}
variable {fn nt:Nat}{l q:CJ}{k:DO}{ds:List HN}{AL:Bool}{ro:Option Nat}{cs:FM}{gd:Option (Nat×Bool)}{x:O}{r:List CI}{nm:List Nat}{pre By:List DI}{ps:List Ph}
variable {post G0:OF}
theorem Ct.Xc(c:Ct P E F K f args h post):YA P E F K f args h post G0:=λQ x cs g _=>c Q x cs g
theorem Zk.Xc(c:Zk P E F K f args h G0):YA P E F K f args h post G0:=λQ x cs _ g=>c Q x cs g
theorem YA.mono{WB mh:OF}(c:YA P E F K f args h WB mh)(m:∀v AA,WB v AA->post v AA)(mp:∀v AA,mh v AA->G0 v AA):YA P E F K f args h post G0:=λQ x cs g gp=>c Q x cs (λv AA p=>g v AA (m v AA p)) λv AA p=>gp v AA (mp v AA p)
include L
theorem d9{d:Nat}{a:List O}{fst va cp r0:List AV}(hg:HH gd l=some true)(e:AU l x=some (.fn (.func f) fst cp))(ha:Fb l a=some va)(h0:E5 va cp=some r0)(hr:E5 fst r0=some args)(hc:YA P0 E F K f args h post G0)(g:∀v AA,post v AA->Good P0 E Q ⟨⟨fn,nt,AJ ((d,some v)::l),.ops r::k,ds,.run,AL,ro⟩,cs,hp AA.n AA.t []⟩)(gp:∀v AA,G0 v AA->Good P0 E Q ⟨⟨fn,nt,AJ l,.ops (⟨some d,gd,.LY x a⟩::r)::k,ds,.panicking [(v,false)],AL,ro⟩,cs,AA⟩):Good P0 E Q ⟨⟨fn,nt,AJ l,.ops (⟨some d,gd,.LY x a⟩::r)::k,ds,.run,AL,ro⟩,cs,h⟩:=R5 L (Az hg) (Qw e ha h0 hr) (hc Q _ cs (λv AA p=>L9 L Zt (g v AA p)) λv AA p=>gp v AA p)
theorem Ak5{di:Nat}{a:List O}{va cp:List AV}(ho:Cn l nm=some q)(hg:HH gd q=some true)(e:AU q x=some (.fn (.func f) [] cp))(ha:Fb q a=some va)(hr:E5 va cp=some args)(hc:YA P0 E F K f args h post G0)(g:∀v AA,post v AA->Bh P0 E Q pre By ps k fn nt (AJ ((di,some v)::l)) ds AL ro cs (hp AA.n AA.t []))(gp:∀v AA,G0 v AA->Good P0 E Q ⟨⟨fn,nt,Pt By (AJ l),[.gone],ds,.panicking [(v,false)],AL,ro⟩,cs,AA⟩):Good P0 E Q ⟨⟨fn,nt,AJ l,.drawn ⟨⟨⟨some di,gd,.LY x a⟩,nm⟩,pre,By⟩ ps::k,ds,.run,AL,ro⟩,cs,h⟩:=oL L ho (Az hg) (Jb e ha hr) (hc Q _ cs (λv AA p=>fd Zt (g v AA p)) λv AA p=>gp v AA p)
theorem Bg{g:DY}{l0 l1:CJ}{td:DO}(hq:Fk F K f g)(body:∀(Q:Nat->AV->Prop) (x:EW) (cs:FM),(∀v AA,post v AA->GO P0 E Q (finish v cs AA x))->(∀v AA,G0 v AA->Good P0 E Q ⟨Me x [(v,false)],cs,AA⟩)->Good P0 E Q ⟨⟨f,g.ntmps,AJ l1,td,[],.run,false,none⟩,x::cs,hp h.n h.t []⟩)(hn:Nat.ble args.length g.ntmps=true:=by exact rfl)(hl:qo 0 args []=l0:=by exact rfl)(ha:HL 1000 [.code g.body] l0=(td,l1):=by exact rfl):YA P0 E F K f args h post G0:=by
 intro Q x cs hG hP;have h1:JI 0 .leaf args=AJ l0:=by rw[<-hl];exact Qv args 0 []
 exact xX L hq.1 hq.2 hn h1 (Dl L 1000 ha (body Q x cs hG hP))
theorem Gj{p B1 B2 A:Prop}(h:p->bA B1->bA B2->A:=by
 intro dR QK gp_
 refine wk ?_
 first
  |(apply d9 L rfl rfl rfl rfl rfl;exact dR;exact QK.g;exact gp_.g)
  |(apply Ak5 L rfl rfl rfl rfl rfl;exact dR;exact QK.g;exact gp_.g))(c:p)(g:B1)(gp:B2):A:=h c ⟨g⟩ ⟨gp⟩
end
structure Ap where
 D:Dv
 S:Nat
 ps:Nat->Nat
 pe:Nat->Nat
 A:DM
 next:Nat
 last:Nat
 HG:Int
 log:Int
 jr:Int->Bool
 su:Int->Bool
 wr:Int->Option Nat
 down:Bool
structure Ai where
 s:Nat
 p:Nat
 pb:Nat
 m:Nat
 r1:Nat
 r2:Nat
 vb:Nat
 rj:Nat
 rs:Nat
 rw:Nat
 d:Nat
def EX(I:Ai)(S:Ap):List AV:=
 [.ptr I.p 0,.ptr I.d 0,AN S.D.nb,AN S.D.P,AN S.D.sz,AN S.D.en,.ptr I.m 0,UN S.next,UN S.last,AI S.HG,AI S.log,.map I.rj,.map I.rs,.map I.rw,.bool S.down]
structure LX (h:H)(r:Nat)(f:Int->Bool):Prop where
 ex:∃M ck,Mk h r (M.map (mE AI)) ck/\EP M ck/\∀k:Int,A9 M k=if f k=true then some (.bool true)else none
structure Tv (h:H)(r:Nat)(f:Int->Option Nat):Prop where
 ex:∃M ck,Mk h r (M.map (mE AI)) ck/\EP M ck/\∀k:Int,A9 M k=(f k).map λn=>UN n
theorem LX.kp{f:Int->Bool}(k:Kp B h AA)(hb:¬B r)(q:LX h r f):LX AA r f:=let⟨M,ck,q1,q2,q3⟩:=q.ex;⟨M,ck,Nb k hb q1,q2,q3⟩
theorem Tv.kp{f:Int->Option Nat}(k:Kp B h AA)(hb:¬B r)(q:Tv h r f):Tv AA r f:=let⟨M,ck,q1,q2,q3⟩:=q.ex;⟨M,ck,Nb k hb q1,q2,q3⟩
theorem LX.lt{f:Int->Bool}(q:LX h r f):r<h.n:=let⟨_,_,q1,_⟩:=q.ex;q1.lt
theorem Tv.lt{f:Int->Option Nat}(q:Tv h r f):r<h.n:=let⟨_,_,q1,_⟩:=q.ex;q1.lt
structure BJ (AD:Nat->Nat)(h:H)(I:Ai)(S:Ap):Prop where
 sk:Bk h I.s (EX I S)
 po:∃cb,Ge h I.p I.pb S.D.nb S.ps S.pe cb
 dv:IK AD h I.d S.D
 mp:II S.S S.D.nb S.D.P h I.m I.r1 I.r2 I.vb S.A
 mj:LX h I.rj S.jr
 ms:LX h I.rs S.su
 mw:Tv h I.rw S.wr
 CA:AD I.s=101/\AD I.p=102/\AD I.pb=103/\AD I.m=104/\AD I.r1=105/\AD I.r2=106/\AD I.vb=107/\AD I.rj=108/\AD I.rs=109/\AD I.rw=110
structure BB (AD:Nat->Nat)(h:H)(AF:Nat->Nat)(AA:H):Prop where
 k:Kp (λb=>1<=AD b/\AD b<200) h AA
 CA:∀b,b<h.n->AF b=AD b
theorem BB.refl(AD:Nat->Nat)(h:H):BB AD h AD h:=⟨.refl _,λ_ _=>rfl⟩
theorem BB.trans{HD BN:Nat->Nat}{h1 h2:H}(a:BB AD h HD h1)(b:BB HD h1 BN h2):BB AD h BN h2:=⟨Kp.DZ b.k (λi hi=>by rw[a.CA i hi];exact id) a.k,λx hx=>(b.CA x (IF hx a.k.n)).trans (a.CA x hx)⟩
theorem Ch.a(q:Ch AD h AF AA):BB AD h AF AA:=⟨q.k.mono λb e=>⟨e.1,om⟩,q.CA⟩
theorem BB.kp(k:Kp B h AA)(hb:∀b,b<h.n->B b->1<=AD b/\AD b<200):BB AD h AD AA:=⟨⟨k.n,λb JT hn=>k.old b JT λe=>hn (hb b JT e)⟩,λ_ _=>rfl⟩
theorem BB.k0(k:K0 h AA)(hc:∀b,b<h.n->AF b=AD b):BB AD h AF AA:=⟨k.mono λ_ f=>f.elim,hc⟩
theorem BB.bs{AD AF:Nat->Nat}{h AA:H}{b o:Nat}{bs:List Nat}(q:BB AD h AF AA)(k:BS h b o bs)(hc:AD b=0):BS AA b o bs/\AF b=0:=⟨Lw q.k om k,(q.CA b k.ET).trans hc⟩
theorem LV.rc{d bb:Nat}(q:LV AD h d D fm bb cb)(hc:∀b,b<h.n->AF b=AD b):LV AF h d D fm bb cb:=
 have f:Fw AD h AF h:=⟨BD _,λ_ _ _=>rfl,hc⟩
 ⟨q.dk,(hc _ q.dk.lt).trans q.UC,q.fk,(hc _ q.fk.lt).trans q.YH,q.bk,(hc _ q.bk.lt).trans q.YE,q.Z1,q.nb,λi hi=>let⟨pn,c,h1⟩:=q.rows i hi;⟨pn,c,h1.fw f rfl⟩⟩
theorem BJ.lt{I:Ai}{S:Ap}(q:BJ AD h I S):I.s<h.n/\I.p<h.n/\I.pb<h.n/\I.m<h.n/\I.r1<h.n/\I.r2<h.n/\I.vb<h.n/\I.rj<h.n/\I.rs<h.n/\I.rw<h.n:=by obtain⟨cb,q1⟩:=q.po;have:=q.mp.lt;exact⟨q.sk.lt,q1.pk.lt,q1.bk.lt,this.1,this.2.1,this.2.2.1,this.2.2.2,q.mj.lt,q.ms.lt,q.mw.lt⟩
theorem BJ.k0{I:Ai}{S:Ap}(k:K0 h AA)(hc:∀b,b<h.n->AF b=AD b)(q:BJ AD h I S):BJ AF AA I S:=by
 obtain⟨l0,l1,l2,l3,l4,l5,l6,l7,l8,l9⟩:=q.lt;have ok:=q.dv.ok;have dv':IK AF AA I.d S.D:=by obtain⟨fm,bb,cb,q1⟩:=q.dv.ex;exact IK.k0 ⟨ok,fm,bb,cb,q1.rc hc⟩ k
 obtain⟨cb,q1⟩:=q.po;exact⟨Ab k q.sk,⟨cb,q1.k0 k⟩,dv',q.mp.k0 k,q.mj.kp k id,q.ms.kp k id,q.mw.kp k id,by rw[hc _ l0,hc _ l1,hc _ l2,hc _ l3,hc _ l4,hc _ l5,hc _ l6,hc _ l7,hc _ l8,hc _ l9];exact q.CA⟩
theorem BJ.dev{I:Ai}{S:Ap}{CV:Dv}(q:BJ AD h I S)(ch:Ch AD h AF AA)(dv:IK AF AA I.d CV)(g:CV.nb=S.D.nb/\CV.P=S.D.P/\CV.sz=S.D.sz/\CV.en=S.D.en):BJ AF AA I {S with D:=CV}:=by
 obtain⟨l0,l1,l2,l3,l4,l5,l6,l7,l8,l9⟩:=q.lt;obtain⟨c0,c1,c2,c3,c4,c5,c6,c7,c8,c9⟩:=q.CA;obtain⟨g1,g2,g3,g4⟩:=g;obtain⟨cb,q1⟩:=q.po;have hc:=ch.CA;refine⟨?_,⟨cb,?_⟩,dv,?_,q.mj.kp ch.k om,q.ms.kp ch.k om,q.mw.kp ch.k om,by rw[hc _ l0,hc _ l1,hc _ l2,hc _ l3,hc _ l4,hc _ l5,hc _ l6,hc _ l7,hc _ l8,hc _ l9];exact q.CA⟩;.refine R9 ?_ (Ao ch.k om q.sk);unfold EX;simp only[g1,g2,g3,g4]
 .show Ge AA I.p I.pb CV.nb S.ps S.pe cb;rw[g1];exact q1.kp ch.k om om
 .show II S.S CV.nb CV.P AA I.m I.r1 I.r2 I.vb S.A;rw[g1,g2];exact q.mp.kp ch.k om om om om
theorem BJ.kO{I:Ai}{S:Ap}(q:BJ AD h I S)(k:Kp B h AA)(hb:∀b,b<h.n->B b->100<=AD b):IK AD AA I.d S.D:=q.dv.kb ⟨k.n,λb JT hn=>k.old b JT λe=>hn (hb b JT e)⟩
theorem BJ.st{AD:Nat->Nat}{h AA:H}{I:Ai}{S AB:Ap}(q:BJ AD h I S)(k:Kp (λj=>j=I.s) h AA)(sk:Bk AA I.s (EX I AB))(e:AB.D=S.D/\AB.S=S.S/\AB.ps=S.ps/\AB.pe=S.pe/\AB.A=S.A/\AB.jr=S.jr/\AB.su=S.su/\AB.wr=S.wr):BJ AD AA I AB:=by
 obtain⟨c0,c1,c2,c3,c4,c5,c6,c7,c8,c9⟩:=q.CA;obtain⟨e1,e2,e3,e4,e5,e6,e7,e8⟩:=e;obtain⟨cb,q1⟩:=q.po;have ne:∀{b:Nat},AD b≠101->¬b=I.s:=λh e=>h (by rw[e];exact c0);refine⟨sk,⟨cb,?_⟩,?_,?_,by rw[e6];exact q.mj.kp k (ne om),by rw[e7];exact q.ms.kp k (ne om),by rw[e8];exact q.mw.kp k (ne om),q.CA⟩;.rw[e1,e3,e4];exact q1.kp k (ne om) (ne om)
 .rw[e1];exact q.kO k λb _ e=>by subst e;omega
 .rw[e1,e2,e5];exact q.mp.kp k (ne om) (ne om) (ne om) (ne om)
theorem BJ.iu{I:Ai}{S:Ap}{ps pe:Nat->Nat}(q:BJ AD h I S)(k:Kp (λj=>j=I.p\/j=I.pb) h AA)(po:Ge AA I.p I.pb S.D.nb ps pe cb):BJ AD AA I {S with ps:=ps,pe:=pe}:=by
 obtain⟨c0,c1,c2,c3,c4,c5,c6,c7,c8,c9⟩:=q.CA;have ne:∀{b:Nat},AD b≠102->AD b≠103->¬(b=I.p\/b=I.pb):=λh AA e=>by rcases e with e|e<;>subst e<;>omega
 exact⟨Ao k (ne om om) q.sk,⟨cb,po⟩,q.kO k λb _ e=>by rcases e with e|e<;>subst e<;>omega,q.mp.kp k (ne om om) (ne om om) (ne om om) (ne om om),
  q.mj.kp k (ne om om),q.ms.kp k (ne om om),q.mw.kp k (ne om om),q.CA⟩
theorem BJ.map{I:Ai}{S:Ap}{A:DM}(q:BJ AD h I S)(k:Kp (λj=>j=I.r1\/j=I.r2\/j=I.vb) h AA)(mp:II S.S S.D.nb S.D.P AA I.m I.r1 I.r2 I.vb A):BJ AD AA I {S with A:=A}:=by
 obtain⟨c0,c1,c2,c3,c4,c5,c6,c7,c8,c9⟩:=q.CA;obtain⟨cb,q1⟩:=q.po;have ne:∀{b:Nat},AD b≠105->AD b≠106->AD b≠107->¬(b=I.r1\/b=I.r2\/b=I.vb):=λh AA h'' e=>by rcases e with e|e|e<;>subst e<;>omega
 exact⟨Ao k (ne om om om) q.sk,⟨cb,q1.kp k (ne om om om) (ne om om om)⟩,q.kO k λb _ e=>by rcases e with e|e|e<;>subst e<;>omega,mp,
  q.mj.kp k (ne om om om),q.ms.kp k (ne om om om),q.mw.kp k (ne om om om),q.CA⟩
theorem BJ.one{I:Ai}{S:Ap}(q:BJ AD h I S)(k:Kp (λj=>j=r) h AA)(hr:108<=AD r/\AD r<200):Bk AA I.s (EX I S)/\(∃cb,Ge AA I.p I.pb S.D.nb S.ps S.pe cb)/\IK AD AA I.d S.D/\II S.S S.D.nb S.D.P AA I.m I.r1 I.r2 I.vb S.A/\(I.rj≠r->LX AA I.rj S.jr)/\(I.rs≠r->LX AA I.rs S.su)/\(I.rw≠r->Tv AA I.rw S.wr):=by
 obtain⟨c0,c1,c2,c3,c4,c5,c6,c7,c8,c9⟩:=q.CA;obtain⟨cb,q1⟩:=q.po;have ne:∀{b:Nat},AD b<108->¬b=r:=λh e=>by subst e;omega
 exact⟨Ao k (ne om) q.sk,⟨cb,q1.kp k (ne om) (ne om)⟩,q.kO k λb _ e=>by subst e;omega,q.mp.kp k (ne om) (ne om) (ne om) (ne om),λBZ=>q.mj.kp k BZ,λBZ=>q.ms.kp k BZ,λBZ=>q.mw.kp k BZ⟩
theorem BJ.acz{I:Ai}{S:Ap}{f:Int->Bool}(q:BJ AD h I S)(k:Kp (λj=>j=I.rj) h AA)(m:LX AA I.rj f):BJ AD AA I {S with jr:=f}:=by obtain⟨c0,c1,c2,c3,c4,c5,c6,c7,c8,c9⟩:=q.CA;obtain⟨a1,a2,a3,a4,a5,a6,a7⟩:=q.one k om;exact⟨a1,a2,a3,a4,m,a6 (λe=>by rw[e]at c8;omega),a7 (λe=>by rw[e]at c9;omega),q.CA⟩
theorem BJ.sset{I:Ai}{S:Ap}{f:Int->Bool}(q:BJ AD h I S)(k:Kp (λj=>j=I.rs) h AA)(m:LX AA I.rs f):BJ AD AA I {S with su:=f}:=by obtain⟨c0,c1,c2,c3,c4,c5,c6,c7,c8,c9⟩:=q.CA;obtain⟨a1,a2,a3,a4,a5,a6,a7⟩:=q.one k om;exact⟨a1,a2,a3,a4,a5 (λe=>by rw[e]at c7;omega),m,a7 (λe=>by rw[e]at c9;omega),q.CA⟩
theorem BJ.ae0{I:Ai}{S:Ap}{f:Int->Option Nat}(q:BJ AD h I S)(k:Kp (λj=>j=I.rw) h AA)(m:Tv AA I.rw f):BJ AD AA I {S with wr:=f}:=by obtain⟨c0,c1,c2,c3,c4,c5,c6,c7,c8,c9⟩:=q.CA;obtain⟨a1,a2,a3,a4,a5,a6,a7⟩:=q.one k om;exact⟨a1,a2,a3,a4,a5 (λe=>by rw[e]at c7;omega),a6 (λe=>by rw[e]at c8;omega),m,q.CA⟩
def Be(f:Int->Bool)(k:Int)(b:Bool):Int->Bool:=λj=>if j=k then b else f j
def O9(f:Int->Option Nat)(k:Int)(b:Option Nat):Int->Option Nat:=λj=>if j=k then b else f j
def Ap.BT(S:Ap)(k:Bool):Int:=if k=true then S.log else S.HG
def Ap.put(S:Ap)(k:Bool)(b:Int):Ap:=if k=true then{S with log:=b}else{S with HG:=b}
def Ap.cls(S:Ap)(k:Bool):Ap:=if 0<=S.BT k/\(S.D.bl (S.BT k).toNat).nx=S.D.P then({S with ps:=AX S.ps (S.BT k).toNat 3}).put k (-1)else S
def Ap.HQ(S:Ap)(k:Bool):Option Ap:=
 if S.BT k<0 then
  if(Db S.ps S.pe 1 S.D.nb).1<0 then none
  else some (({S with ps:=AX S.ps (Db S.ps S.pe 1 S.D.nb).1.toNat 2,jr:=if k=true then Be S.jr (Db S.ps S.pe 1 S.D.nb).1 true else S.jr}).put k (Db S.ps S.pe 1 S.D.nb).1)
 else some S
inductive WO where
 |done (p:Nat)
 |full
 |pow
 |again
def Ap.w1(S:Ap)(k:Bool)(all:List Nat):Ap×WO:=
 match(S.cls k).HQ k with
 |none=>(S.cls k,.full)
 |some S2=>
  if(S2.D.prog (S2.BT k) all).2=50 then({S2 with D:=(S2.D.prog (S2.BT k) all).1,down:=true},.pow)
  else if(S2.D.prog (S2.BT k) all).2=0 then({S2 with D:=(S2.D.prog (S2.BT k) all).1},.done ((S2.BT k).toNat*S2.D.P+(S2.D.bl (S2.BT k).toNat).nx))
  else(({S2 with D:=(S2.D.prog (S2.BT k) all).1,su:=Be S2.su (S2.BT k) true,ps:=AX S2.ps (S2.BT k).toNat 3}).put k (-1),.again)
inductive GX (k:Bool)(all:List Nat):Ap->Ap->WO->Prop where
 |stop {S:Ap} (h:(S.w1 k all).2≠ .again):GX k all S (S.w1 k all).1 (S.w1 k all).2
 |more {S AB:Ap} {r:WO} (h:(S.w1 k all).2= .again) (t:GX k all (S.w1 k all).1 AB r):GX k all S AB r
structure WI (S:Ap)(k:Bool):Prop where
 BT:0<=S.BT k->S.BT k<S.D.nb/\S.ps (S.BT k).toNat=2
 lo: -1<=S.BT k
def GK(S:Ap):Nat:=LG S.ps 1 S.D.nb
def JV(S:Ap)(k:Bool):Nat:=2*GK S+if 0<=S.BT k then 1 else 0
section
variable {I:Ai}{S:Ap}
theorem Ld{e:Int}(he:e≠50){s:AV}:CL L 126 [s,AI e] h λv AA=>v= .BM []/\AA=h:=by refine Ad L X.f126 λQ x cs G=>?_;refine ret X.f126.1 ?_;exact⟨rfl,rfl⟩
theorem Pa(r:BJ AD h I S):CP L 126 [.ptr I.s 0,AN 50] h λv AA=>v= .Cm 42 (AN 50)/\BJ AD AA I {S with down:=true}/\Kp (λj=>j=I.s) h AA:=by have sk:=r.sk;unfold EX at sk;refine Ey L X.f126 λQ x cs G=>?_;refine wk ?_;refine Km L rfl rfl ?_;refine Ax L X.f126.1 ?_;have kk:Kp (λj=>j=I.s) h (hp h.n h.t [(I.s,some (cl (EX I {S with down:=true})))]):=AH;exact G _ _ ⟨rfl,r.st kk AG ⟨rfl,rfl,rfl,rfl,rfl,rfl,rfl,rfl⟩,kk⟩
end
variable {I:Ai}{S AB S0 S2:Ap}{U:Nat->Prop}{b1 c1 lo:Nat}{data:List Nat}{k:Bool}{lh:SA}{o:WO}{p:Prop}{sec:Int}{sp:Sp}{t:T DV}{v:AV}
theorem rP(h:p:=by
 have h1:=GX.stop (k:=kw) (all:=data++A3 sp data) (S:=S) (by rw[ew];intro e;cases e)
 rw[ew]at h1;exact h1):p:=h
theorem yu(h:p:=by
  have DE:=r0.dv.ok.g.sz
  have l1:=kd.ET
  have l0:=r0.sk.lt
  refine Bg L X.f186 λQ x cs G Gp=>?_
  refine AK ?_ (c:=alv L (data:=data) q EN hd om)
  rintro _ h2 ⟨eb,rfl,w1,w2,w3⟩
  simp only[Ag]at w2
  have n2:=w3.n
  simp only[Ag]at n2
  refine AK ?_ (c:=A6 L)
  rintro _ rfl
  refine wk ?_
  have ajz:(A3 sp data).length=64:=by unfold A3;rw[DX,Bb,Cp]
  refine Wr L (α:=Ap×(Nat->Nat)) (T:=λs=>[(0,some (.ptr I.s 0)),(1,some (.ptr I.s ow)),(3,some (.AE b1 o1 S0.D.sz c1)),(6,some (.ptr h.n 0)),(9,some (.AE eb 0 64 (Aa+1)))]) (mu:=λs=>JV s.1 kw)
   (R:=λs hh=>BJ s.2 hh I s.1/\BB AD h s.2 hh/\(∀AB r,GX kw (data++A3 sp data) s.1 AB r->GX kw (data++A3 sp data) S0 AB r)/\WI s.1 kw/\s.1.D.sz=S0.D.sz/\BS hh b1 o1 data/\s.2 b1=0/\BS hh eb 0 (A3 sp data)/\s.2 eb=0/\Bk hh h.n (NL sp)/\s.2 h.n=0/\s.1.D.n+JV s.1 kw+2<900000000) (S0,ext AD h.n) BA
   ⟨r0.k0 (by exact Kp.EA w3 AH) (λb hb=>Ae hb),BB.k0 (by exact Kp.EA w3 AH) (λb hb=>Ae hb),λ_ _ h=>h,wi,rfl,EN,(by show ext AD h.n b1=0;rw[Ae l1];exact hc),EN,B9 om,AG,B9 (BD _),hn⟩ ?_
  rintro⟨S,PR⟩ hh ⟨r,ch,hw,wi,sQ,mL,VQ,iS,aD,iU,dS,hn⟩ ih
  simp only at r ch hw wi sQ VQ aD dS hn ih
  have sk:=r.sk
  obtain⟨cb,po⟩:=r.po
  have lt:=r.lt
  have CA:=r.CA
  have ok:=r.dv.ok
  obtain⟨v1,v2⟩:=wi
  obtain⟨_,fm,bb,db,dc⟩:=r.dv
  have FT:=ok.g.nb
  have hP:=ok.g.P
  have prog:∀(S2:Ap) (BN:Nat->Nat) (h4:H) (lq:CJ) (b:Nat),(S.cls kw).HQ kw=some S2->gw S2=(b:Int)->b<S2.D.nb->S2.ps b=2->BJ BN h4 I S2->BB PR hh BN h4->S2.D=S.D->2*GK S2+1<=JV S kw->FY (AJ [(96,some (AN b)),(95,some (.ptr I.d 0)),(13,some (AN b)),(0,some (.ptr I.s 0)),(1,some (.ptr I.s ow)),(3,some (.AE b1 o1 S0.D.sz c1)),(6,some (.ptr h.n 0)),(9,some (.AE eb 0 64 (Aa+1)))]) (AJ lq)->
    Good P0 E Q ⟨⟨186,dG.ntmps,AJ lq,[.ops [Cc 97 138 [(.t 95),(.t 96)],Cv 14 97],.code Afe,.inBlock 1,.inLoop ac0,.inBlock 0],[],.run,false,none⟩,x::cs,hp h4.n h4.t []⟩:=by
   intro S2 BN h4 lq b e1 e2 hb SI r2 UB eD XE ht
   refine D0 L ht ?_
   have ep:=r2.dv
   obtain⟨vJ,fm2,bb2,db2,sL⟩:=ep
   obtain⟨pn,c,hr⟩:=sL.rows b hb
   have kd4:=UB.bs mL VQ
   have ke4:=UB.bs iS aD
   have adb:Bk h4 h.n (NL sp):=Ao UB.k om iU
   have apw:BN h.n=0:=(UB.CA _ iU.lt).trans dS
   have jA:=r2.sk
   have TN:S2.BT kw=(b:Int):=e2
   refine AK ?_ (c:=Nk L sL.dk sL.bk hb hr.c1)
   rintro _ rfl
   unfold EX at jA
   refine wk ?_
   have pH:S2.D.sz=S0.D.sz:=by rw[eD,sQ]
   have fp:=agm (h:=hp h4.n h4.t []) (c1:=c1) (c2:=Aa+1) L (i:=(b:Int)) (p:=(S2.D.bl b).nx) (data:=data) (extra:=A3 sp data) r2.dv (by rw[eD];omega) (λ_=>by rw[FL]) kd4.1 ke4.1 (by rw[pH];exact hd) ajz
   rw[pH]at fp
   refine AK ?_ (c:=fp)
   rintro _ h5 ⟨rfl,NR,dv5,ch5⟩
   obtain⟨g1,g2⟩:=S2.D.vN (b:Int) (data++A3 sp data)
   have r5:=r2.dev ch5 dv5 g1
   have a5:BB PR hh NR h5:=UB.trans ch5.a
   have fA:=r5.sk
   have ls5:=fA.lt
   by_cases aI:(S2.D.prog (b:Int) (data++A3 sp data)).2=50
   .have ew:S.w1 kw (data++A3 sp data)=({S2 with D:=(S2.D.prog (b:Int) (data++A3 sp data)).1,down:=true},.pow):=by
     unfold Ap.w1;rw[e1];simp only[TN];rw[AP aI]
    rw[aI]
    refine wk ?_
    refine Eu L rfl rfl rfl rfl rfl (Pa L r5) ?_
    rintro _ h6 ⟨rfl,r6,k6⟩
    refine Ax L X.f186.1 ?_
    have HC:GX kw (data++A3 sp data) S {S2 with D:=(S2.D.prog (b:Int) (data++A3 sp data)).1,down:=true} .pow:=by
     exact rP
    exact Gp _ _ ⟨50,_,NR,rfl,.inr ⟨rfl,hw _ _ HC⟩,r6,ch.trans (a5.trans (BB.kp k6 λb _ e=>by subst e;have:=r5.CA;omega))⟩
   .by_cases h0:(S2.D.prog (b:Int) (data++A3 sp data)).2=0
    .have ew:S.w1 kw (data++A3 sp data)=({S2 with D:=(S2.D.prog (b:Int) (data++A3 sp data)).1},.done (b*S2.D.P+(S2.D.bl b).nx)):=by
      unfold Ap.w1;rw[e1];simp only[TN,FL];rw[AM aI,AP h0]
     rw[h0]
     unfold EX at fA
     refine AK ?_ (c:=Ld L (e:=((0:Nat):Int)) om)
     rintro _ rfl
     have Le:=vJ.bl b hb
     have HB:=Le.nx
     have hP2:=vJ.g.P
     have ap9:=vJ.g.nb
     have hmul:b*S2.D.P<=44*6:=NB om om
     have sS:(S2.D.prog (b:Int) (data++A3 sp data)).1.P=S2.D.P:=g1.2.1
     simp only[sS]at fA
     refine ret X.f186.1 ?_
     have HC:GX kw (data++A3 sp data) S {S2 with D:=(S2.D.prog (b:Int) (data++A3 sp data)).1} (.done (b*S2.D.P+(S2.D.bl b).nx)):=by
      exact rP
     exact⟨_,_,NR,rfl,om,hw _ _ HC,r5.k0 AH λ_ _=>rfl,ch.trans (a5.trans (BB.k0 AH λ_ _=>rfl))⟩
    .have ew:S.w1 kw (data++A3 sp data)=((Aw {S2 with D:=(S2.D.prog (b:Int) (data++A3 sp data)).1,su:=Be S2.su (b:Int) true,ps:=AX S2.ps b 3} (-1)),.again):=by
      unfold Ap.w1;rw[e1];simp only[TN,FL];rw[AM aI,AM h0];rfl
     have HM:0<(S2.D.prog (b:Int) (data++A3 sp data)).2:=om
     have ap7:(S2.D.prog (b:Int) (data++A3 sp data)).2<1000:=by
      unfold Dv.prog;split
      .split
       .show 50<1000;omega
       .show(if _ then 50 else if _ then 54 else 0)<1000
        split
        .omega
        .split<;>omega
      .show 2<1000;omega
     unfold EX at fA
     generalize hE:(S2.D.prog (b:Int) (data++A3 sp data)).2=er at*
     refine AK ?_ (c:=Ld L (e:=(er:Int)) om)
     rintro _ rfl
     obtain⟨M,ck,m1,m2,m3⟩:=r5.ms.ex
     have lm:=m1.lt
     have nms:I.s≠I.rs:=λe=>by have:=r5.CA;rw[e]at this;omega
     refine wk ?_
     (apply Kk L rfl;exact El (KE.int .i64) m2 rfl rfl rfl CH;rfl)
     have k6:Kp (λj=>j=I.rs) h5 (hp h5.n h5.t [(I.rs,some (.map ((Dd M ck (b:Int) (.bool true)).map (mE AI)) (LM M ck (b:Int))))]):=AH
     have r6:=r5.sset k6 (LX.set (k:=(b:Int)) CH m2 m3)
     obtain⟨cb6,iq⟩:=r6.po
     have hb6:b<(S2.D.prog (b:Int) (data++A3 sp data)).1.nb:=by rw[g1.1];exact hb
     refine AK ?_ (c:=O7 L iq hb6 SI)
     rintro _ h7 ⟨rfl,po7,k7⟩
     have r7:=r6.iu k7 po7
     have mz:=r7.sk
     unfold EX at mz
     refine wk ?_
     have k8:Kp (λj=>j=I.s) h7 (hp h7.n h7.t [(I.s,some (cl (EX I (Aw {S2 with D:=(S2.D.prog (b:Int) (data++A3 sp data)).1,su:=Be S2.su (b:Int) true,ps:=AX S2.ps b 3} (-1)))))]):=AH
     have r8:=r7.st (AB:=(Aw {S2 with D:=(S2.D.prog (b:Int) (data++A3 sp data)).1,su:=Be S2.su (b:Int) true,ps:=AX S2.ps b 3} (-1))) k8 AG ⟨rfl,rfl,rfl,rfl,rfl,rfl,rfl,rfl⟩
     have a6:BB NR h5 NR _:=BB.kp k6 λb _ e=>by subst e;have:=r5.CA;omega
     have a7:BB NR _ NR h7:=BB.kp k7 λb _ e=>by rcases e with e|e<;>subst e<;>(have:=r6.CA;omega)
     have a8:BB NR h7 NR _:=BB.kp k8 λb _ e=>by subst e;have:=r7.CA;omega
     have aa:=a5.trans (a6.trans (a7.trans a8))
     have um:=aa.bs mL VQ
     have mM:=aa.bs iS aD
     have ab6:JV (Aw {S2 with D:=(S2.D.prog (b:Int) (data++A3 sp data)).1,su:=Be S2.su (b:Int) true,ps:=AX S2.ps b 3} (-1)) kw=2*GK S2:=by
      unfold JV GK Ap.BT
      simp only[Aw,kw,g1.1]
      have:=Di S2.ps b 3 1 S2.D.nb hb
      rw[SI]at this
      simp at this
      simp[this]
     refine ih ((Aw {S2 with D:=(S2.D.prog (b:Int) (data++A3 sp data)).1,su:=Be S2.su (b:Int) true,ps:=AX S2.ps b 3} (-1)),NR) _ _ ?_ ⟨r8,ch.trans aa,λAB CO hw'=>hw _ _ (.more (by rw[ew]) (by rw[ew];exact hw')),⟨λe=>absurd e (by unfold Ap.BT;simp[Aw,kw]),by unfold Ap.BT;simp[Aw,kw]⟩,?_,um.1,um.2,mM.1,mM.2,Ao aa.k om iU,(aa.CA _ iU.lt).trans dS,?_⟩ BA
     .simp only[ab6];omega
     .exact g1.2.2.1.trans pH
     .have eDn:S2.D.n=S.D.n:=by rw[eD]
      simp only[ab6];simp only[Aw];omega
  have take:∀(h4:H) (lq:CJ),gw (S.cls kw)<0->BJ PR h4 I (S.cls kw)->BB PR hh PR h4->(S.cls kw).D=S.D->2*GK (S.cls kw)<=JV S kw->FY (AJ [(69,some (.ptr I.p 0)),(0,some (.ptr I.s 0)),(1,some (.ptr I.s ow)),(3,some (.AE b1 o1 S0.D.sz c1)),(6,some (.ptr h.n 0)),(9,some (.AE eb 0 64 (Aa+1)))]) (AJ lq)->
    Good P0 E Q ⟨⟨186,dG.ntmps,AJ lq,[.ops [Cc 70 237 [(.t 69)],Cv 65 70,Ce 71 65 0,Ce 72 65 1,Cv 11 71,Cv 12 72],.code Afd,.code Aff,.inBlock 1,.inLoop ac0,.inBlock 0],[],.run,false,none⟩,x::cs,hp h4.n h4.t []⟩:=by
   intro h4 lq dm r2 UB eD XE ht
   refine D0 L ht ?_
   generalize hS1:S.cls kw=S1 at*
   obtain⟨cb2,ml⟩:=r2.po
   have adb:Bk h4 h.n (NL sp):=Ao UB.k om iU
   refine AK ?_ (c:=Afz L ml)
   rintro _ h5 (⟨e1,e2,rfl,k5⟩|⟨b,e1,hb,e2,rfl,po5,k5⟩)
   .refine wk ?_
    refine Eu L rfl rfl rfl rfl rfl (Gv L) ?_
    rintro _ _ ⟨rfl,rfl⟩
    refine Ax L X.f186.1 ?_
    have ew:S.w1 kw (data++A3 sp data)=(S1,.full):=by
     unfold Ap.w1;rw[hS1]
     have:S1.HQ kw=none:=by unfold Ap.HQ;rw[AP (show S1.BT kw<0 from dm),AP (by rw[e1];omega)]
     rw[this]
    have HC:GX kw (data++A3 sp data) S S1 .full:=by
     exact rP
    exact Gp _ _ ⟨7,S1,PR,rfl,.inl ⟨rfl,hw _ _ HC⟩,r2.k0 AH λ_ _=>rfl,ch.trans (UB.trans (BB.k0 AH λ_ _=>rfl))⟩
   .have r5:=r2.iu k5 po5
    have a5:BB PR h4 PR h5:=BB.kp k5 λb _ e=>by rcases e with e|e<;>subst e<;>(have:=r2.CA;omega)
    have adc:Bk h5 h.n (NL sp):=Ao a5.k (by have:=UB.CA _ iU.lt;omega) adb
    have fA:=r5.sk
    have ls5:=fA.lt
    have nsp:h.n≠I.s:=λe=>by have:=r5.CA;rw[<-e]at this;omega
    unfold EX at fA
    unfold NL at adc
    refine AK ?_ (c:=A6 L)
    rintro _ rfl
    have k6:Kp (λj=>j=I.s) h5 (hp h5.n h5.t [(I.s,some (cl (EX I (Aw {S1 with ps:=AX S1.ps b 2} (b:Int)))))]):=AH
    have r6:=r5.st (AB:=(Aw {S1 with ps:=AX S1.ps b 2} (b:Int))) k6 mC ⟨rfl,rfl,rfl,rfl,rfl,rfl,rfl,rfl⟩
    have a6:BB PR h5 PR _:=BB.kp k6 λb _ e=>by subst e;have:=r5.CA;omega
    have sk6:=r6.sk
    first
     |rw[hk]at adc
      refine wk ?_
      refine prog (Aw {S1 with ps:=AX S1.ps b 2} (b:Int)) PR _ _ b ?_ rfl hb (Am _ _ _) r6 (UB.trans (a5.trans a6)) eD ?_ BA
     |obtain⟨M,ck,m1,m2,m3⟩:=r6.mj.ex
      have lm:=m1.lt
      simp only[Ag]at lm
      have nms:I.s≠I.rj:=λe=>by have:=r5.CA;rw[e]at this;omega
      obtain⟨M5,ck5,p1,p2,p3⟩:=r5.mj.ex
      refine wk ?_
      (apply Kk L rfl;exact El (KE.int .i64) p2 rfl rfl rfl CH;rfl)
      have k7:Kp (λj=>j=I.rj) (hp h5.n h5.t [(I.s,some (cl (EX I (Aw {S1 with ps:=AX S1.ps b 2} (b:Int)))))]) (hp h5.n h5.t [(I.rj,some (.map ((Dd M5 ck5 (b:Int) (.bool true)).map (mE AI)) (LM M5 ck5 (b:Int)))),(I.s,some (cl (EX I (Aw {S1 with ps:=AX S1.ps b 2} (b:Int)))))]):=AH
      have r7:=r6.acz k7 (LX.set (k:=(b:Int)) CH p2 p3)
      have a7:BB PR _ PR _:=BB.kp k7 λb _ e=>by subst e;have:=r6.CA;omega
      have mz:=r7.sk
      refine wk ?_
      refine prog (Aw {S1 with ps:=AX S1.ps b 2,jr:=Be S1.jr (b:Int) true} (b:Int)) PR _ _ b ?_ rfl hb (Am _ _ _) r7 (UB.trans (a5.trans (a6.trans a7))) eD ?_ BA
    .unfold Ap.HQ;rw[AP (show S1.BT kw<0 from dm),AM (by rw[e1];omega),e1,FL];rfl
    .have:=Di S1.ps b 2 1 S1.D.nb hb
     rw[e2]at this
     simp at this
     unfold GK at XE ⊢
     simp only[Aw]
     omega
  by_cases YJ:0<=gw S
  .obtain⟨b,oa⟩:∃b:Nat,gw S=(b:Int):=⟨(gw S).toNat,om⟩
   have TN:S.BT kw=(b:Int):=oa
   obtain⟨v3,v4⟩:=v1 (by rw[TN];omega)
   rw[TN]at v3
   rw[TN,FL]at v4
   have hb:b<S.D.nb:=om
   obtain⟨pn,c,hr⟩:=dc.rows b hb
   have XE:JV S kw=2*GK S+1:=by unfold JV;rw[TN,AP om]
   unfold EX at sk
   have lB:=oa
   dsimp only[gw]at lB
   rw[lB]at sk
   refine AK ?_ (c:=Nk L dc.dk dc.bk hb hr.c1)
   rintro _ rfl
   by_cases ai9:(S.D.bl b).nx=S.D.P
   .have ec:S.cls kw=(Aw {S with ps:=AX S.ps b 3} (-1)):=by
     unfold Ap.cls;rw[TN,FL,AP ⟨om,ai9⟩];rfl
    refine AK ?_ (c:=O7 L po hb v4)
    rintro _ h4 ⟨rfl,qd,k4⟩
    have r4:=r.iu k4 qd
    have sk4:=r4.sk
    unfold EX at sk4
    refine wk ?_
    have k5:Kp (λj=>j=I.s) h4 (hp h4.n h4.t [(I.s,some (cl (EX I (Aw {S with ps:=AX S.ps b 3} (-1)))))]):=AH
    have r5:=r4.st (AB:=(Aw {S with ps:=AX S.ps b 3} (-1))) k5 mC ⟨rfl,rfl,rfl,rfl,rfl,rfl,rfl,rfl⟩
    have a4:BB PR hh PR h4:=BB.kp k4 λb _ e=>by rcases e with e|e<;>subst e<;>omega
    have a5:BB PR h4 PR _:=BB.kp k5 λb _ e=>by subst e;omega
    refine take _ _ (by rw[ec];show(-1:Int)<0;omega) (by rw[ec];exact r5) (a4.trans a5) (by rw[ec]) ?_ BA
    rw[ec,XE]
    have:=Di S.ps b 3 1 S.D.nb hb
    rw[v4]at this
    simp at this
    unfold GK;simp only[Aw];omega
   .have ec:S.cls kw=S:=by
     unfold Ap.cls;rw[TN,FL,AM om]
    have eo:(S.cls kw).HQ kw=some S:=by rw[ec];unfold Ap.HQ;rw[TN,AM om]
    refine wk ?_
    exact prog S PR _ _ b eo oa hb v4 (r.k0 AH λ_ _=>rfl) (BB.k0 AH λ_ _=>rfl) rfl om BA
  .have ec:S.cls kw=S:=by
    unfold Ap.cls;rw[AM];rintro⟨e,-⟩;exact YJ e
   have dm:gw S= -1:=by have: -1<=gw S:=v2;omega
   unfold EX at sk
   have lB:=dm
   dsimp only[gw]at lB
   rw[lB]at sk
   refine wk ?_
   refine take _ _ (by rw[ec,dm];omega) (by rw[ec];exact r.k0 AH λ_ _=>rfl) (BB.k0 AH λ_ _=>rfl) (by rw[ec]) ?_ BA
   rw[ec];unfold JV;omega):p:=h
theorem Dv.vN(D:Dv)(i:Int)(all:List Nat):((D.prog i all).1.nb=D.nb/\(D.prog i all).1.P=D.P/\(D.prog i all).1.sz=D.sz/\(D.prog i all).1.en=D.en)/\(D.prog i all).1.n<=D.n+1:=by
 unfold Dv.prog;split
 .split;.exact⟨⟨rfl,rfl,rfl,rfl⟩,QD _⟩
  .exact⟨⟨rfl,rfl,rfl,rfl⟩,BD _⟩
 .exact⟨⟨rfl,rfl,rfl,rfl⟩,QD _⟩
theorem LX.set{n:Nat}{f:Int->Bool}{k:Int}(q1:Mk (hp n t lh) r ((Dd M ck k (.bool true)).map (mE AI)) (LM M ck k))(q2:EP M ck)(q3:∀k:Int,A9 M k=if f k=true then some (.bool true)else none):LX (hp n t lh) r (Be f k true):=by
 refine⟨_,_,q1,q2.set _ _,λj=>?_⟩;rw[Bu,q3];unfold Be;by_cases e:j=k;.rw[AP e,AP e];rfl
 .rw[AM e,AM e]
theorem amt{o1:Nat}(r0:BJ AD h I S0)(wi:WI S0 false)(q:sp.Fit)(hk:sp.kind=1)(kd:BS h b1 o1 data)(hc:AD b1=0)(hd:data.length=S0.D.sz)(hn:S0.D.n+JV S0 false+2<900000000):CX L 186 [.ptr I.s 0,.ptr I.s 9,.agg (NL sp),.AE b1 o1 S0.D.sz c1] h (λv AA=>∃p AB AF,v=AN p/\p<1000/\GX false (data++A3 sp data) S0 AB (.done p)/\BJ AF AA I AB/\BB AD h AF AA) (λv AA=>∃(e:Nat) (AB:Ap) (AF:Nat->Nat),v= .Cm 42 (AN e)/\((e=7/\GX false (data++A3 sp data) S0 AB .full)\/(e=50/\GX false (data++A3 sp data) S0 AB .pow))/\BJ AF AA I AB/\BB AD h AF AA):=by let kw:=false;let ow:=9;let gw:Ap->Int:=λS=>S.HG;let Aw:Ap->Int->Ap:=λS v=>{S with HG:=v};exact yu
theorem amu{o1:Nat}(r0:BJ AD h I S0)(wi:WI S0 true)(q:sp.Fit)(hk:sp.kind≠1)(kd:BS h b1 o1 data)(hc:AD b1=0)(hd:data.length=S0.D.sz)(hn:S0.D.n+JV S0 true+2<900000000):CX L 186 [.ptr I.s 0,.ptr I.s 10,.agg (NL sp),.AE b1 o1 S0.D.sz c1] h (λv AA=>∃p AB AF,v=AN p/\p<1000/\GX true (data++A3 sp data) S0 AB (.done p)/\BJ AF AA I AB/\BB AD h AF AA) (λv AA=>∃(e:Nat) (AB:Ap) (AF:Nat->Nat),v= .Cm 42 (AN e)/\((e=7/\GX true (data++A3 sp data) S0 AB .full)\/(e=50/\GX true (data++A3 sp data) S0 AB .pow))/\BJ AF AA I AB/\BB AD h AF AA):=by let kw:=true;let ow:=10;let gw:Ap->Int:=λS=>S.log;let Aw:Ap->Int->Ap:=λS v=>{S with log:=v};exact yu
def PO(sec:Int)(n:Nat):Sp:=⟨1,sec,n,0,0,1⟩
theorem Nq{n:Nat}(h1:0<=sec/\sec<=4294967294)(h2:1<=n/\n<1000000000):(PO sec n).Fit:=⟨⟨h2.1,by unfold PO;simp,by unfold PO;simp,by unfold PO;simp,by unfold PO;simp,.inl ⟨rfl,h1.1,h1.2,rfl,rfl⟩⟩,⟨by unfold PO;simp,by unfold PO;simp only;omega,by unfold PO;simp⟩⟩
inductive IM (sec:Int)(data:List Nat):Ap->Ap->WO->Prop where
 |ok {S S1:Ap} {p:Nat} (h:GX false (data++A3 (PO sec S.next) data) {S with next:=S.next+1} S1 (.done p)):IM sec data S {S1 with wr:=O9 S1.wr ((p/S1.D.P:Nat):Int) (some S.next)} (.done p)
 |bad {S S1:Ap} {r:WO} (h:GX false (data++A3 (PO sec S.next) data) {S with next:=S.next+1} S1 r) (hr:r= .full\/r= .pow):IM sec data S S1 r
def NU:WO->Nat
 | .full=>7
 | .pow=>50
 |_=>0
theorem Tv.set{n:Nat}{v:Nat}{f:Int->Option Nat}{k:Int}(q1:Mk (hp n t lh) r ((Dd M ck k (UN v)).map (mE AI)) (LM M ck k))(q2:EP M ck)(q3:∀k:Int,A9 M k=(f k).map λn=>UN n):Tv (hp n t lh) r (O9 f k (some v)):=by
 refine⟨_,_,q1,q2.set _ _,λj=>?_⟩;rw[Bu,q3];unfold O9;by_cases e:j=k;.rw[AP e,AP e];rfl
 .rw[AM e,AM e]
theorem Tv.del{n:Nat}{f:Int->Option Nat}{k:Int}(q1:Mk (hp n t lh) r ((Jx M k).map (mE AI)) ck)(q2:EP M ck)(q3:∀k:Int,A9 M k=(f k).map λn=>UN n):Tv (hp n t lh) r (O9 f k none):=by
 refine⟨_,_,q1,q2.del _,λj=>?_⟩;rw[Kj,q3];unfold O9;by_cases e:j=k;.rw[AP e,AP e];rfl
 .rw[AM e,AM e]
theorem LX.del{n:Nat}{f:Int->Bool}{k:Int}(q1:Mk (hp n t lh) r ((Jx M k).map (mE AI)) ck)(q2:EP M ck)(q3:∀k:Int,A9 M k=if f k=true then some (.bool true)else none):LX (hp n t lh) r (Be f k false):=by
 refine⟨_,_,q1,q2.del _,λj=>?_⟩;rw[Kj,q3];unfold Be;by_cases e:j=k;.rw[AP e,AP e];rfl
 .rw[AM e,AM e]
theorem BJ.out(q:BJ AD h I S)(k:Kp B h AA)(hb:∀b,b<h.n->B b->200<=AD b):BJ AD AA I S:=by
 obtain⟨c0,c1,c2,c3,c4,c5,c6,c7,c8,c9⟩:=q.CA;obtain⟨l0,l1,l2,l3,l4,l5,l6,l7,l8,l9⟩:=q.lt;obtain⟨cb,q1⟩:=q.po;have ne:∀{b:Nat},b<h.n->AD b<200->¬B b:=λhl hk e=>by have:=hb _ hl e;omega
 exact⟨Ao k (ne l0 om) q.sk,⟨cb,q1.kp k (ne l1 om) (ne l2 om)⟩,q.kO k λb hl e=>by have:=hb b hl e;omega,q.mp.kp k (ne l3 om) (ne l4 om) (ne l5 om) (ne l6 om),
  q.mj.kp k (ne l7 om),q.ms.kp k (ne l8 om),q.mw.kp k (ne l9 om),q.CA⟩
theorem Y3{o1:Nat}(r:BJ AD h I S)(wi:WI S false)(hs:0<=sec/\sec<=4294967294)(hx:1<=S.next/\S.next<999999990)(kd:BS h b1 o1 data)(hc:AD b1=0)(hd:data.length=S.D.sz)(hn:S.D.n+JV S false+2<900000000):CX L 155 [.ptr I.s 0,AI sec,.AE b1 o1 S.D.sz c1] h (λv AA=>∃p AB AF,v= .agg [AI sec,AN p]/\IM sec data S AB (.done p)/\BJ AF AA I AB/\BB AD h AF AA) (λv AA=>∃(o:WO) (AB:Ap) (AF:Nat->Nat),v= .Cm 42 (AN (NU o))/\(o= .full\/o= .pow)/\IM sec data S AB o/\BJ AF AA I AB/\BB AD h AF AA):=by
 have sk:=r.sk;have l0:=sk.lt;have l1:=kd.ET;have CA:=r.CA;have nb1:b1≠I.s:=λe=>by rw[e]at hc;omega
 unfold EX at sk;refine Bg L X.f155 λQ x cs G Gp=>?_;refine wk ?_;refine BO L (Np rfl rfl om) ?_;refine wk ?_;have r1:BJ (AX (ext AD h.n) h.n 200) (hp (h.n+1) h.t [(h.n,some (cl [Zi,Zi]))]) I S:=r.k0 AH λb hb=>(CB _ _ om).trans (Ae hb);have k2:Kp (λj=>j=I.s) (hp (h.n+1) h.t [(h.n,some (cl [Zi,Zi]))]) (hp (h.n+1) h.t [(I.s,some (cl (EX I {S with next:=S.next+1}))),(h.n,some (cl [Zi,Zi]))]):=AH;have r2:=r1.st (AB:={S with next:=S.next+1}) k2 mC ⟨rfl,rfl,rfl,rfl,rfl,rfl,rfl,rfl⟩;have a2:BB AD h (AX (ext AD h.n) h.n 200) (hp (h.n+1) h.t [(I.s,some (cl (EX I {S with next:=S.next+1}))),(h.n,some (cl [Zi,Zi]))]):=BB.trans (HD:=AX (ext AD h.n) h.n 200) (h1:=hp (h.n+1) h.t [(h.n,some (cl [Zi,Zi]))]) (BB.k0 AH λb hb=>(CB _ _ om).trans (Ae hb)) (BB.kp k2 λb _ e=>by subst e;rw[CB _ _ om,Ae l0];omega);have mL:=a2.bs kd hc;have kr:Bk (hp (h.n+1) h.t [(I.s,some (cl (EX I {S with next:=S.next+1}))),(h.n,some (cl [Zi,Zi]))]) h.n [Zi,Zi]:=AG;have RH:=Nq hs ⟨hx.1,om⟩;have fp:=amt (c1:=c1) (sp:=PO sec S.next) (data:=data) L r2 ⟨wi.BT,wi.lo⟩ RH rfl mL.1 mL.2 hd (by exact hn);refine Gj L (c:=fp) (g:=?_) (gp:=?_)
 .rintro _ h3 ⟨p,S3,KT,rfl,aji,hw,r3,a3⟩;have ok3:=r3.dv.ok;have ky:=ok3.g.P;have cK:=r3.sk;have kr3:Bk h3 h.n [Zi,Zi]:=Ao a3.k (by rw[Am];omega) kr;obtain⟨M,ck,m1,m2,m3⟩:=r3.mw.ex;have nrw:h.n≠I.rw:=λe=>by have:=r.lt;omega
  unfold EX at cK;refine wk ?_;(apply Nf L rfl rfl;exact El (KE.int .i64) m2 rfl rfl rfl CH);have k4:Kp (λj=>j=I.rw) h3 (hp h3.n h3.t [(I.rw,some (.map ((Dd M ck ((p/S3.D.P:Nat):Int) (UN S.next)).map (mE AI)) (LM M ck ((p/S3.D.P:Nat):Int))))]):=AH;have r4:=r3.ae0 k4 (Tv.set (k:=((p/S3.D.P:Nat):Int)) CH m2 m3);have a4:BB KT h3 KT _:=BB.kp k4 λb _ e=>by subst e;have:=r3.CA;omega
  refine ret X.f155.1 ?_;have ap2:KT h.n=200:=(a3.CA _ Ze).trans (Am _ _ _);have k5:Kp (λj=>j=h.n) (hp h3.n h3.t [(I.rw,some (.map ((Dd M ck ((p/S3.D.P:Nat):Int) (UN S.next)).map (mE AI)) (LM M ck ((p/S3.D.P:Nat):Int))))]) (hp h3.n h3.t [(h.n,some (cl [AI sec,AN p])),(I.rw,some (.map ((Dd M ck ((p/S3.D.P:Nat):Int) (UN S.next)).map (mE AI)) (LM M ck ((p/S3.D.P:Nat):Int))))]):=AH;have a5:=a2.trans (a3.trans a4);have a6:BB AD h KT (hp h3.n h3.t [(h.n,some (cl [AI sec,AN p])),(I.rw,some (.map ((Dd M ck ((p/S3.D.P:Nat):Int) (UN S.next)).map (mE AI)) (LM M ck ((p/S3.D.P:Nat):Int))))]):=⟨Kp.DZ k5 (λi hi e=>om) a5.k,a5.CA⟩;exact⟨p,{S3 with wr:=O9 S3.wr ((p/S3.D.P:Nat):Int) (some S.next)},KT,rfl,.ok hw,r4.out k5 (λb _ e=>by subst e;omega),a6⟩
 .rintro _ h3 ⟨e,S3,KT,rfl,hw,r3,a3⟩;refine Ax L X.f155.1 ?_;rcases hw with⟨rfl,hw⟩|⟨rfl,hw⟩;.exact Gp _ _ ⟨.full,S3,KT,rfl,.inl rfl,.bad hw (.inl rfl),r3,a2.trans a3⟩
  .exact Gp _ _ ⟨.pow,S3,KT,rfl,.inr rfl,.bad hw (.inr rfl),r3,a2.trans a3⟩
theorem yx(h:p:=by
 have r4:=r3.iu k4 qd
 refine ret X.f178.1 ?_
 rw[ee]
 exact⟨rfl,BN,r4,a3.trans (BB.kp k4 λb _ e=>by rcases e with e|e<;>subst e<;>omega)⟩):p:=h
def Ap.BV(S:Ap)(b:Nat):Ap×WO:=
 if S.su (b:Int)=true then({S with su:=Be S.su (b:Int) false,ps:=AX S.ps b 4},.done 0)
 else if(S.D.erase (b:Int)).2=50 then({S with D:=(S.D.erase (b:Int)).1,down:=true},.pow)
 else if(S.D.erase (b:Int)).2=0 then({S with D:=(S.D.erase (b:Int)).1,wr:=O9 S.wr (b:Int) none,ps:=AX S.ps b 1,pe:=AX S.pe b (S.pe b+1)},.done 0)
 else({S with D:=(S.D.erase (b:Int)).1,wr:=O9 S.wr (b:Int) none,ps:=AX S.ps b 4},.done 0)
theorem Dv.oN(D:Dv)(i:Int):((D.erase i).1.nb=D.nb/\(D.erase i).1.P=D.P/\(D.erase i).1.sz=D.sz/\(D.erase i).1.en=D.en)/\(D.erase i).1.n<=D.n+1/\(D.erase i).2<1000:=by
 unfold Dv.erase;split
 .split;.exact⟨⟨rfl,rfl,rfl,rfl⟩,QD _,by simp⟩
  .split;.exact⟨⟨rfl,rfl,rfl,rfl⟩,QD _,by simp⟩
   .split;.exact⟨⟨rfl,rfl,rfl,rfl⟩,BD _,by simp⟩
    .split;.exact⟨⟨rfl,rfl,rfl,rfl⟩,BD _,by simp⟩
     .exact⟨⟨rfl,rfl,rfl,rfl⟩,BD _,by simp⟩
 .exact⟨⟨rfl,rfl,rfl,rfl⟩,QD _,by simp⟩
theorem ah7{d j:Nat}(r:IK AD h d D)(hi:i<D.nb)(hj:j<D.P)(ED:D.off=true):CL L 125 [.ptr d 0,AN i,AN j] h λv AA=>v= .BM [.AS,.AS,AN 50]/\K0 h AA:=by obtain⟨ok,fm,bb,cb,q⟩:=r;have hd:=q.dk;refine Bj L X.f125 λQ x cs G=>?_;refine AK ?_ (c:=Eh L hd);rintro _ rfl;refine AK ?_ (c:=Ji L hd);rintro _ rfl;rw[CM (show(0<=(i:Int)/\(i:Int)<D.nb)/\0<=(j:Int)/\(j:Int)<D.P from om)];unfold GJ T2 at hd;rw[ED]at hd;refine ret X.f125.1 ?_;exact⟨rfl,AH⟩
theorem aco{p:Nat}(r:BJ AD h I S)(DL:p<900000000)(hb:p/S.D.P<S.D.nb)(hj:p%S.D.P<(S.D.bl (p/S.D.P)).nx)(hs:S.D.off=false->((S.D.bl (p/S.D.P)).pg (p%S.D.P)).st=2\/((S.D.bl (p/S.D.P)).pg (p%S.D.P)).st=3):CX L 99 [.ptr I.s 0,AN p] h (λv AA=>S.D.off=false/\∃b,v= .AE b 0 S.D.sz (Aa+1)/\BS AA b 0 (((S.D.bl (p/S.D.P)).pg (p%S.D.P)).b.take S.D.sz)/\h.n<=b/\K0 h AA) (λv AA=>v= .Cm 42 (AN 50)/\S.D.off=true/\BJ (ext AD h.n) AA I {S with down:=true}/\BB AD h (ext AD h.n) AA):=by
 have sk:=r.sk;have dv:=r.dv;have hP:=r.dv.ok.g.P;have Le:=r.dv.ok.bl _ hb;have HB:=Le.nx;have KN:=r.CA;have ls:=sk.lt;unfold EX at sk
 cases ED:S.D.off with
 |false=>refine Bg L X.f99 λQ x cs G Gp=>?_;refine AK ?_ (c:=aal L (i:=p/S.D.P) (j:=p%S.D.P) dv hb hj ED (hs ED));rintro _ h2 ⟨b1,b2,rfl,w1,w2,w3,w4,w5⟩;refine AK ?_ (c:=Ld L (e:=((0:Nat):Int)) om);rintro _ rfl;refine AK ?_ (c:=A6 L);rintro _ rfl;refine ret X.f99.1 ?_;exact⟨rfl,b1,rfl,EN,w3,AH⟩
 |true=>refine Bg L X.f99 λQ x cs G Gp=>?_;refine AK ?_ (c:=ah7 L (i:=p/S.D.P) (j:=p%S.D.P) dv hb om ED);rintro _ h2 ⟨rfl,w5⟩;have r2:BJ (ext AD h.n) h2 I S:=r.k0 w5 λb hb=>Ae hb;have VQ:ext AD h.n I.s=101:=(Ae ls).trans KN.1;refine wk ?_;refine Eu L rfl rfl rfl rfl rfl (Pa L r2) ?_;rintro _ h3 ⟨rfl,r3,k3⟩;refine Ax L X.f99.1 ?_;exact Gp _ _ ⟨rfl,rfl,r3,(BB.k0 (AF:=ext AD h.n) w5 λb hb=>Ae hb).trans (BB.kp k3 λb _ e=>by subst e;omega)⟩
theorem U2(r:BJ AD h I S)(hb:b<S.D.nb)(SI:S.ps b=2\/S.ps b=3)(SH:S.pe b<900000000)(hn:S.D.n+1<900000000):CX L 178 [.ptr I.s 0,AN b] h (λv AA=>(S.BV b).2= .done 0/\∃AF,BJ AF AA I (S.BV b).1/\BB AD h AF AA) (λv AA=>v= .Cm 42 (AN 50)/\(S.BV b).2= .pow/\∃AF,BJ AF AA I (S.BV b).1/\BB AD h AF AA):=by
 have sk:=r.sk;have dv:=r.dv;have KN:=r.CA;obtain⟨cb,po⟩:=r.po;obtain⟨M,ck,m1,m2,m3⟩:=r.ms.ex;have hg:=m3 (b:Int);have nss:I.s≠I.rs:=λe=>by rw[e]at KN;omega
 unfold EX at sk
 cases OM:S.su (b:Int)with
 |true=>
  have ee:S.BV b=({S with su:=Be S.su (b:Int) false,ps:=AX S.ps b 4},.done 0):=by unfold Ap.BV;rw[AP OM]
  rw[OM,AP rfl]at hg;refine Bg L X.f178 λQ x cs G Gp=>?_;refine wk ?_;refine BO L (C0 (KE.int .i64) rfl rfl CH) ?_;rw[hg,MC];refine wk ?_;(apply Kk L rfl;exact Md (KE.int .i64) m2 rfl rfl CH;rfl);have k2:Kp (λj=>j=I.rs) h (hp h.n h.t [(I.rs,some (.map ((Jx M (b:Int)).map (mE AI)) ck))]):=AH;have r2:=r.sset k2 (LX.del (k:=(b:Int)) CH m2 m3);obtain⟨cb2,ml⟩:=r2.po;refine AK ?_ (c:=Sr L ml hb (by show S.ps b≠4;omega));rintro _ h3 ⟨rfl,im,k3⟩;have r3:=r2.iu k3 im;refine ret X.f178.1 ?_;rw[ee];exact⟨rfl,AD,r3,(BB.kp k2 λb _ e=>by subst e;omega).trans (BB.kp k3 λb _ e=>by rcases e with e|e<;>subst e<;>omega)⟩
 |false=>
  rw[OM,AM W0]at hg;obtain⟨g1,g2,g3⟩:=S.D.oN (b:Int);refine Bg L X.f178 λQ x cs G Gp=>?_;refine wk ?_;refine BO L (C0 (KE.int .i64) rfl rfl CH) ?_;rw[hg,cS];refine AK ?_ (c:=alu L (i:=(b:Int)) dv hn);rintro _ h2 ⟨rfl,BN,sO,UB⟩;have r2:=r.dev UB sO g1;have a2:BB AD h BN h2:=UB.a;have aix:=r2.CA;by_cases aI:(S.D.erase (b:Int)).2=50;.have ee:S.BV b=({S with D:=(S.D.erase (b:Int)).1,down:=true},.pow):=(by unfold Ap.BV;rw[AM (by rw[OM];simp),AP aI]);rw[aI];refine wk ?_;refine Eu L rfl rfl rfl rfl rfl (Pa L r2) ?_;rintro _ h3 ⟨rfl,r3,k3⟩;refine Ax L X.f178.1 ?_;refine Gp _ _ ⟨rfl,?_⟩;rw[ee];exact⟨rfl,BN,r3,a2.trans (BB.kp k3 λb _ e=>by subst e;omega)⟩
  .have jA:=r2.sk;unfold EX at jA;generalize hE:(S.D.erase (b:Int)).2=er at*;refine AK ?_ (c:=Ld L (e:=(er:Int)) om);rintro _ rfl;obtain⟨M2,ck2,p1,p2,p3⟩:=r2.mw.ex;refine wk ?_;(apply Kk L rfl;exact Md (KE.int .i64) p2 rfl rfl CH;rfl);have k3:Kp (λj=>j=I.rw) h2 (hp h2.n h2.t [(I.rw,some (.map ((Jx M2 (b:Int)).map (mE AI)) ck2))]):=AH;have r3:=r2.ae0 k3 (Tv.del (k:=(b:Int)) CH p2 p3);have a3:=a2.trans (BB.kp k3 λb _ e=>by subst e;omega);obtain⟨cb3,im⟩:=r3.po;have Z9:b<(S.D.erase ((b:Nat):Int)).1.nb:=(by rw[g1.1];exact hb);have nsw:I.s≠I.rw:=λe=>by rw[e]at aix;omega
   by_cases h0:er=0;.have ee:S.BV b=({S with D:=(S.D.erase (b:Int)).1,wr:=O9 S.wr (b:Int) none,ps:=AX S.ps b 1,pe:=AX S.pe b (S.pe b+1)},.done 0):=(by unfold Ap.BV;rw[AM (by rw[OM];simp),AM (by rw[hE];exact aI),AP (by rw[hE];exact h0)]);subst h0;refine AK ?_ (c:=ago L im Z9 SI SH);rintro _ h4 ⟨rfl,⟨cb4,qd⟩,k4⟩;exact yx
   .have ee:S.BV b=({S with D:=(S.D.erase (b:Int)).1,wr:=O9 S.wr (b:Int) none,ps:=AX S.ps b 4},.done 0):=(by unfold Ap.BV;rw[AM (by rw[OM];simp),AM (by rw[hE];exact aI),AM (by rw[hE];exact h0)]);refine AK ?_ (c:=Sr L im Z9 (by show S.ps b≠4;omega));rintro _ h4 ⟨rfl,qd,k4⟩;exact yx
theorem yy(h:p:=by
 exact⟨by cases k<;>rfl,by cases k<;>rfl,by cases k<;>rfl,by cases k<;>rfl,by cases k<;>rfl,by cases k<;>rfl,by cases k<;>rfl,by cases k<;>rfl,by cases k<;>rfl,by cases k<;>rfl,Kt _ _ _,by cases k<;>rfl⟩):p:=h
theorem Dp(S:Ap)(k:Bool)(b:Int):(S.put k b).BT k=b:=by unfold Ap.BT Ap.put;cases k<;>rfl
theorem Kt(S:Ap)(k:Bool)(b:Int):(S.put k b).BT (!k)=S.BT (!k):=by unfold Ap.BT Ap.put;cases k<;>rfl
structure Fr (k:Bool)(S AB:Ap):Prop where
 nb:AB.D.nb=S.D.nb
 P:AB.D.P=S.D.P
 sz:AB.D.sz=S.D.sz
 en:AB.D.en=S.D.en
 CZ:AB.S=S.S
 A:AB.A=S.A
 next:AB.next=S.next
 last:AB.last=S.last
 pe:AB.pe=S.pe
 wr:AB.wr=S.wr
 o:AB.BT (!k)=S.BT (!k)
 CD:AB.D.CD=S.D.CD
theorem Fr.refl(k:Bool)(S:Ap):Fr k S S:=⟨rfl,rfl,rfl,rfl,rfl,rfl,rfl,rfl,rfl,rfl,rfl,rfl⟩
theorem Fr.trans{S1:Ap}(a:Fr k S S1)(b:Fr k S1 S2):Fr k S S2:=⟨b.nb.trans a.nb,b.P.trans a.P,b.sz.trans a.sz,b.en.trans a.en,b.CZ.trans a.CZ,b.A.trans a.A,b.next.trans a.next,b.last.trans a.last,b.pe.trans a.pe,b.wr.trans a.wr,b.o.trans a.o,b.CD.trans a.CD⟩
theorem vg(S:Ap)(k:Bool):Fr k S (S.cls k):=by
 unfold Ap.cls;split;.exact yy
 .exact Fr.refl _ _
theorem Ak7(h:S.HQ k=some S2):Fr k S S2:=by
 unfold Ap.HQ at h;split at h
 .split at h;.cases h
  .cases h;exact yy
 .cases h;exact Fr.refl _ _
theorem Dv.alb(D:Dv)(i:Int)(all:List Nat):(D.prog i all).1.CD=D.CD:=by
 unfold Dv.prog;split;.split<;>rfl
 .rfl
theorem St(S:Ap)(k:Bool)(all:List Nat):Fr k S (S.w1 k all).1:=by
 unfold Ap.w1;split;.exact vg S k
 .rename_i S2 h2;have f:=(vg S k).trans (Ak7 h2);obtain⟨⟨g1,g2,g3,g4⟩,-⟩:=S2.D.vN (S2.BT k) all;have g5:=S2.D.alb (S2.BT k) all;split;.exact f.trans ⟨g1,g2,g3,g4,rfl,rfl,rfl,rfl,rfl,rfl,rfl,g5⟩
  .split;.exact f.trans ⟨g1,g2,g3,g4,rfl,rfl,rfl,rfl,rfl,rfl,rfl,g5⟩
   .exact f.trans ⟨by cases k<;>exact g1,by cases k<;>exact g2,by cases k<;>exact g3,by cases k<;>exact g4,by cases k<;>rfl,by cases k<;>rfl,by cases k<;>rfl,by cases k<;>rfl,by cases k<;>rfl,by cases k<;>rfl,Kt _ _ _,by cases k<;>exact g5⟩
theorem GX.fr{all:List Nat}{r:WO}(h:GX k all S AB r):Fr k S AB:=by
 induction h with
 |stop h=>exact St _ _ _
 |more h _ ih=>exact(St _ _ _).trans ih
structure IW (S:Ap):Prop where
 wi:∀k,WI S k
 ne:∀k,0<=S.BT k->S.BT k≠S.BT (!k)
theorem IW.cls(q:IW S)(k:Bool):IW (S.cls k)/\JV (S.cls k) k<=JV S k/\(S.cls k).D=S.D/\2*GK (S.cls k)<=JV S k:=by
 have w:=q.wi k;have AY:=q.wi (!k);have BZ:=q.ne k;by_cases hc:0<=S.BT k/\(S.D.bl (S.BT k).toNat).nx=S.D.P
 .have e:S.cls k=({S with ps:=AX S.ps (S.BT k).toNat 3}).put k (-1):=by unfold Ap.cls;rw[AP hc]
  obtain⟨h1,h2⟩:=w.BT hc.1;have hb:(S.BT k).toNat<S.D.nb:=om
  have hf:=Di S.ps (S.BT k).toNat 3 1 S.D.nb hb;rw[h2]at hf;simp at hf;have eD:(S.cls k).D=S.D:=by rw[e];cases k<;>rfl
  have kR:(S.cls k).ps=AX S.ps (S.BT k).toNat 3:=by rw[e];cases k<;>rfl
  have es:(S.cls k).BT k= -1:=by rw[e];exact Dp _ _ _
  have BL:(S.cls k).BT (!k)=S.BT (!k):=by rw[e];exact Kt _ _ _
  have ef:GK (S.cls k)=GK S:=by unfold GK;rw[eD,kR];exact hf
  refine⟨⟨λj=>?_,λj hj=>?_⟩,?_,eD,?_⟩
  .by_cases ej:j=k;.subst ej;exact⟨λh=>by rw[es]at h;omega,by rw[es];exact Int.le_refl _⟩
   .have:j=!k:=iL;subst this;refine⟨λh=>?_,by rw[BL];exact AY.lo⟩;rw[BL]at h ⊢;obtain⟨g1,g2⟩:=AY.BT h;rw[eD,kR];refine⟨g1,?_⟩;rw[CB _ _ (by have:=BZ hc.1;omega)];exact g2
  .by_cases ej:j=k;.subst ej;rw[es]at hj;omega
   .have:j=!k:=iL;subst this;rw[Bool.not_not,BL];rw[BL]at hj;rw[es];omega
  .unfold JV;rw[ef,es];split<;>split<;>omega
  .rw[ef];unfold JV;omega
 .have e:S.cls k=S:=by unfold Ap.cls;rw[AM hc]
  rw[e];exact⟨q,BD _,rfl,by unfold JV;omega⟩
theorem IW.HQ(q:IW S)(h:S.HQ k=some S2):IW S2/\S2.D=S.D/\0<=S2.BT k/\JV S2 k<=JV S k:=by
 have w:=q.wi k;have AY:=q.wi (!k);have BZ:=q.ne (!k);unfold Ap.HQ at h;split at h
 .rename_i hs;split at h;.cases h
  .rename_i lD;rcases F1 S.ps S.pe 1 S.D.nb with⟨h1,-⟩|⟨c,hc,h1,h2⟩;.rw[h1]at lD;omega
   .rw[h1,FL]at h;have hf:=Di S.ps c 2 1 S.D.nb hc;rw[h2]at hf;simp at hf
    cases h;have eo:(({S with ps:=AX S.ps c 2,jr:=if k=true then Be S.jr (c:Int) true else S.jr}:Ap).put k (c:Int)).BT (!k)=S.BT (!k):=(Kt _ _ _).trans mH;refine⟨⟨λj=>?_,λj hj=>?_⟩,by cases k<;>rfl,by rw[Dp];omega,?_⟩
    .by_cases ej:j=k;.subst ej;refine⟨λ_=>?_,by rw[Dp];omega⟩;rw[Dp,FL];exact⟨by cases j<;>(show(c:Int)<(S.D.nb:Int);omega),by cases j<;>exact Am _ _ _⟩
     .have:j=!k:=iL;subst this;refine⟨λhj=>?_,by rw[eo];exact AY.lo⟩;rw[eo]at hj ⊢;obtain⟨g1,g2⟩:=AY.BT hj;have YM:(S.BT (!k)).toNat≠c:=λe=>by rw[e]at g2;omega
      exact⟨by cases k<;>exact g1,by cases k<;>exact(CB _ _ YM).trans g2⟩
    .have YM:0<=S.BT (!k)->S.BT (!k)≠(c:Int):=(by intro hj e;obtain⟨g1,g2⟩:=AY.BT hj;rw[e,FL]at g2;omega);by_cases ej:j=k;.subst ej;rw[Dp,eo];intro e;exact YM (by rw[<-e];show(0:Int)<=(c:Int);omega) e.symm
     .have:j=!k:=iL;subst this;rw[eo]at hj ⊢;rw[Bool.not_not,Dp];exact YM hj
    .unfold JV;rw[Dp];have e1:GK (({S with ps:=AX S.ps c 2,jr:=if k=true then Be S.jr (c:Int) true else S.jr}:Ap).put k (c:Int))=LG (AX S.ps c 2) 1 S.D.nb:=mH;rw[e1];have e2:GK S=LG S.ps 1 S.D.nb:=rfl;rw[e2];split<;>split<;>omega
 .cases h;exact⟨q,rfl,om,BD _⟩
theorem Pb(S:Ap)(k:Bool):JV S k<=2*S.D.nb+1:=by unfold JV GK;have:=Hx S.ps 1 S.D.nb;split<;>omega
theorem IW.w1(q:IW S)(k:Bool)(all:List Nat):IW (S.w1 k all).1/\(S.w1 k all).1.D.n<=S.D.n+1/\((S.w1 k all).2= .again->(S.w1 k all).1.D.n+JV (S.w1 k all).1 k<=S.D.n+JV S k):=by
 obtain⟨q1,m1,e1,-⟩:=q.cls k;unfold Ap.w1;split;.exact⟨q1,by rw[e1];omega,λh=>by cases h⟩
 .rename_i S2 h2;obtain⟨q2,e2,s2,m2⟩:=q1.HQ h2;obtain⟨⟨g1,g2,g3,g4⟩,g5⟩:=S2.D.vN (S2.BT k) all;have eD:S2.D=S.D:=e2.trans e1;have hD:∀d:Bool,IW {S2 with D:=(S2.D.prog (S2.BT k) all).1,down:=d}:=λd=>⟨λj=>⟨λh=>by show S2.BT j<(S2.D.prog (S2.BT k) all).1.nb/\_;rw[g1];exact(q2.wi j).BT h,(q2.wi j).lo⟩,q2.ne⟩;split;.exact⟨hD true,by show(S2.D.prog (S2.BT k) all).1.n<=_;rw[<-eD];exact g5,λh=>by cases h⟩
  .split;.exact⟨hD S2.down,by show(S2.D.prog (S2.BT k) all).1.n<=_;rw[<-eD];exact g5,λh=>by cases h⟩
   .obtain⟨v1,v2⟩:=(q2.wi k).BT s2;have hb:(S2.BT k).toNat<S2.D.nb:=om;have hf:=Di S2.ps (S2.BT k).toNat 3 1 S2.D.nb hb;rw[v2]at hf;simp at hf;have en:(({S2 with D:=(S2.D.prog (S2.BT k) all).1,su:=Be S2.su (S2.BT k) true,ps:=AX S2.ps (S2.BT k).toNat 3}:Ap).put k (-1)).D=(S2.D.prog (S2.BT k) all).1:=mH;have kR:(({S2 with D:=(S2.D.prog (S2.BT k) all).1,su:=Be S2.su (S2.BT k) true,ps:=AX S2.ps (S2.BT k).toNat 3}:Ap).put k (-1)).ps=AX S2.ps (S2.BT k).toNat 3:=mH;have eo:(({S2 with D:=(S2.D.prog (S2.BT k) all).1,su:=Be S2.su (S2.BT k) true,ps:=AX S2.ps (S2.BT k).toNat 3}:Ap).put k (-1)).BT (!k)=S2.BT (!k):=(Kt _ _ _).trans mH;have AY:=q2.wi (!k);have BZ:=q2.ne k s2;refine⟨⟨λj=>?_,λj hj=>?_⟩,by simp only[en];rw[<-eD];exact g5,λ_=>?_⟩
    .by_cases ej:j=k;.subst ej;exact⟨λh=>by rw[Dp]at h;omega,by rw[Dp];exact Int.le_refl _⟩
     .have:j=!k:=iL;subst this;refine⟨λh=>?_,by rw[eo];exact AY.lo⟩;rw[eo]at h ⊢;obtain⟨a1,a2⟩:=AY.BT h;rw[en,kR,g1];refine⟨a1,?_⟩;rw[CB _ _ om];exact a2
    .by_cases ej:j=k;.subst ej;rw[Dp]at hj;omega
     .have:j=!k:=iL;subst this;rw[Bool.not_not,Dp,eo];rw[eo]at hj;omega
    .simp only[en];have ef:GK (({S2 with D:=(S2.D.prog (S2.BT k) all).1,su:=Be S2.su (S2.BT k) true,ps:=AX S2.ps (S2.BT k).toNat 3}:Ap).put k (-1))=GK S2:=(by unfold GK;rw[en,kR,g1];exact hf);have em:JV (({S2 with D:=(S2.D.prog (S2.BT k) all).1,su:=Be S2.su (S2.BT k) true,ps:=AX S2.ps (S2.BT k).toNat 3}:Ap).put k (-1)) k=2*GK S2:=(by unfold JV;rw[Dp,ef,AM om];rfl);rw[em];have em2:JV S2 k=2*GK S2+1:=(by unfold JV;rw[AP s2]);rw[eD]at g5;rw[eD];omega
theorem GX.iw{all:List Nat}{r:WO}(h:GX k all S AB r)(q:IW S):IW AB/\AB.D.n<=S.D.n+JV S k+1:=by
 induction h with
 |stop h=>obtain⟨a,b,-⟩:=q.w1 k all;exact⟨a,om⟩
 |more h _ ih=>obtain⟨a,b,c⟩:=q.w1 k all;obtain⟨d,e⟩:=ih a;have:=c h;exact⟨d,om⟩
inductive LW (sz:Nat):List LE->Ap->Ap->WO->Prop where
 |nil {S:Ap}:LW sz [] S S (.done 0)
 |cons {x:LE} {r:List LE} {S S1 AB:Ap} {p:Nat} {o:WO} (h:GX true (Cg sz x.2++A3 x.1 (Cg sz x.2)) S S1 (.done p)) (t:LW sz r S1 AB o):LW sz (x::r) S AB o
 |bad {x:LE} {r:List LE} {S S1:Ap} {o:WO} (h:GX true (Cg sz x.2++A3 x.1 (Cg sz x.2)) S S1 o) (ho:o= .full\/o= .pow):LW sz (x::r) S S1 o
def CF(S:Ap)(es:List BI):Nat:=EI S.D.sz es.length
def Ed(k:Nat)(S:Ap)(es:List BI):List LE:=Ks k S.D.sz S.next S.last es (CF S es)
inductive HO (k:Nat)(es:List BI):Ap->Ap->WO->Prop where
 |ok {S S1:Ap} (h:LW S.D.sz (Ed k S es) {S with next:=S.next+CF S es} S1 (.done 0)):HO k es S {S1 with last:=S.next+CF S es- 1} (.done 0)
 |bad {S S1:Ap} {o:WO} (h:LW S.D.sz (Ed k S es) {S with next:=S.next+CF S es} S1 o) (ho:o= .full\/o= .pow):HO k es S S1 o
theorem ah8{qb:Nat}{ev:AV}{es:List BI}(r:BJ AD h I S)(wi:WI S true)(kq:Bk h qb [.ptr I.s 0])(q:sp.Fit)(hk:sp.kind≠1)(he:EL h lo ev es)(ES:∀e∈es,e.Ok)(RH:4+8*es.length<=S.D.sz)(hn:S.D.n+JV S true+2<900000000):CX L 227 [.agg (FP ((sp,es),ev)),.ptr qb 0] h (λv AA=>∃p AB AF,GX true (Cg S.D.sz es++A3 sp (Cg S.D.sz es)) S AB (.done p)/\BJ AF AA I AB/\BB AD h AF AA) (λv AA=>∃(o:WO) (AB:Ap) (AF:Nat->Nat),v= .Cm 42 (AN (NU o))/\(o= .full\/o= .pow)/\GX true (Cg S.D.sz es++A3 sp (Cg S.D.sz es)) S AB o/\BJ AF AA I AB/\BB AD h AF AA):=by
 have sk:=r.sk;have DE:=r.dv.ok.g.sz;have LA:=he.plain;unfold EX at sk;obtain⟨ZV,jD,jE,jC,j9,jB⟩:=sp;have tC:=he
 have main:∀(bL:AV),ev=bL->A1 bL=some [bL]->(∀(h1:H),K0 h h1->EL h1 lo bL es)->(bL= .AS\/∃b n c,bL= .AE b 0 n c)->CX L 227 [.agg (FP ((⟨ZV,jD,jE,jC,j9,jB⟩,es),bL)),.ptr qb 0] h
   (λv AA=>∃p AB AF,GX true (Cg S.D.sz es++A3 ⟨ZV,jD,jE,jC,j9,jB⟩ (Cg S.D.sz es)) S AB (.done p)/\BJ AF AA I AB/\BB AD h AF AA)
   (λv AA=>∃(o:WO) (AB:Ap) (AF:Nat->Nat),v= .Cm 42 (AN (NU o))/\(o= .full\/o= .pow)/\GX true (Cg S.D.sz es++A3 ⟨ZV,jD,jE,jC,j9,jB⟩ (Cg S.D.sz es)) S AB o/\BJ AF AA I AB/\BB AD h AF AA):=by
  intro bL e1 oe MI NW
  unfold FP NL
  rcases NW with rfl|⟨eb,en,ec,rfl⟩
  all_goals
   refine Bg L X.f227 λQ x cs G Gp=>?_
   refine AK ?_ (c:=ah5 L (sz:=S.D.sz) (MI _ za) ES om RH)
   rintro _ h2 ⟨b2,rfl,w1,w2,w3⟩
   simp only[Ag]at w2
   have n2:=w3.n
   simp only[Ag]at n2
   refine AK ?_ (c:=A6 L)
   rintro _ rfl
   have k2:K0 h h2:=Kp.EA w3 AH
   have r2:BJ (ext AD h.n) h2 I S:=r.k0 k2 λb hb=>Ae hb
   have a2:BB AD h (ext AD h.n) h2:=BB.k0 k2 λb hb=>Ae hb
   have fp:=amu (c1:=Aa+1) (sp:=⟨ZV,jD,jE,jC,j9,jB⟩) (data:=Cg S.D.sz es) L r2 wi q hk w1 (B9 om) ((Eb RH)) hn
   clear k2
   refine Gj L (c:=fp) (g:=?_) (gp:=?_)
   .rintro _ h3 ⟨p,S3,KT,rfl,aji,hw,r3,a3⟩
    refine ret X.f227.1 ?_
    exact⟨p,S3,KT,hw,r3,a2.trans a3⟩
   .rintro _ h3 ⟨e,S3,KT,rfl,hw,r3,a3⟩
    refine Ax L X.f227.1 ?_
    rcases hw with⟨rfl,hw⟩|⟨rfl,hw⟩
    .exact Gp _ _ ⟨.full,S3,KT,rfl,.inl rfl,hw,r3,a2.trans a3⟩
    .exact Gp _ _ ⟨.pow,S3,KT,rfl,.inr rfl,hw,r3,a2.trans a3⟩
 exact main ev rfl LA.1 (λh1 k1=>tC.k0 k1) (by
  rcases he.len with⟨_,e⟩|⟨_,b,e,_⟩;.exact .inl e
  .exact .inr ⟨b,_,_,e⟩)
theorem Su{sz:Nat}{es:List BI}(ES:∀e∈es,e.Ok)(i:Nat):∀e∈Ec sz es i,e.Ok:=λe he=>ES e (List.mem_of_mem_drop (cO he))
theorem Ci{sz:Nat}{es:List BI}(DE:12<=sz)(i:Nat):4+8*(Ec sz es i).length<=sz:=by unfold Ec EK;rw[IS];have:min ((sz- 4)/8) (es.drop ((sz- 4)/8*i)).length<=(sz- 4)/8:=Nat.min_le_left _ _;omega
theorem Qz{sz n:Nat}(DE:12<=sz/\sz<900)(hn:n<1000):0<EI sz n/\EI sz n<2000:=by
 have hm:0<EK sz:=by unfold EK;omega
 have bV:EK sz<200:=by unfold EK;omega
 unfold EI;have:(n+EK sz- 1)/EK sz<=n+EK sz- 1:=an _ _;omega
theorem U3{k sz first prev:Nat}{es:List BI}(hk:k=2\/k=3)(hf:prev<first/\first<1000000000)(hi:i<EI sz es.length)(hn:EI sz es.length<2000):(Dc k sz first prev es i).1.Fit:=by
 have TJ:k=2\/k=3:=hk;refine⟨⟨by show 1<=first+i;omega,by show(1:Int)<=((EI sz es.length:Nat):Int);omega,by show((EI sz es.length:Nat):Int)<=65535;omega,by show(0:Int)<=(i:Int);omega,by show(i:Int)<((EI sz es.length:Nat):Int);omega,.inr ⟨hk,rfl,by show prev<first+i;omega,?_⟩⟩,⟨by show k<256;omega,by show first+i<18446744073709551616;omega,by show prev<18446744073709551616;omega⟩⟩;show((i:Int)).toNat<first+i- prev
 rw[FL];omega
theorem Mg{k:Nat}{ev:AV}{es:List BI}(r:BJ AD h I S)(iw:IW S)(hk:k=2\/k=3)(he:EL h 0 ev es)(ES:∀e∈es,e.Ok)(hlen:es.length<1000)(hf:S.last<S.next/\S.next<990000000)(hn:S.D.n+100*CF S es+200<900000000):CX L 183 [.ptr I.s 0,.int .u8 (k:Int),ev] h (λv AA=>∃AB AF,HO k es S AB (.done 0)/\BJ AF AA I AB/\BB AD h AF AA) (λv AA=>∃(o:WO) (AB:Ap) (AF:Nat->Nat),v= .Cm 42 (AN (NU o))/\(o= .full\/o= .pow)/\HO k es S AB o/\BJ AF AA I AB/\BB AD h AF AA):=by
 have sk:=r.sk;have ls:=sk.lt;have DE:=r.dv.ok.g.sz;have KN:=r.CA;have ZB:=Qz (sz:=S.D.sz) (n:=es.length) om hlen;have hN:CF S es=EI S.D.sz es.length:=rfl;unfold EX at sk;refine Bg L X.f183 λQ x cs G Gp=>?_;refine AK ?_ (c:=amq L (k:=k) (sz:=S.D.sz) (first:=S.next) (prev:=S.last) (he.k0 za) ES hk om hlen om);rintro _ h2 ⟨pb,l,rfl,hl,pr,k2⟩;have lO:l.length=CF S es:=by have:=HT List.length hl;rw[DC,Ks,DC,ZY]at this;exact this
 rw[lO];have n2:=k2.n;simp only[Ag]at n2;have ajl:=pr.lo;simp only[Ag]at ajl;refine AK ?_ (c:=A6 L);rintro _ rfl;refine wk ?_;refine BO L (Np rfl rfl om) ?_;refine wk ?_;have ue:K0 h h2:=Kp.EA k2 AH;have r2:BJ (ext AD h.n) h2 I S:=r.k0 ue λb hb=>Ae hb;have k4:Kp (λj=>j=I.s) h2 (hp h2.n h2.t [(I.s,some (cl (EX I {S with next:=S.next+CF S es})))]):=AH;have r4:=r2.st (AB:={S with next:=S.next+CF S es}) k4 mC ⟨rfl,rfl,rfl,rfl,rfl,rfl,rfl,rfl⟩;have hs4:ext AD h.n I.s=101:=(Ae ls).trans KN.1;have a4:BB AD h (ext AD h.n) (hp h2.n h2.t [(I.s,some (cl (EX I {S with next:=S.next+CF S es})))]):=(BB.k0 (AF:=ext AD h.n) ue λb hb=>Ae hb).trans (BB.kp k4 λb _ e=>by subst e;omega);clear ue;have ada:Bk (hp h2.n h2.t [(I.s,some (cl (EX I {S with next:=S.next+CF S es})))]) pb (l.flatMap FP):=by have:=pr.k;exact AG
 have kq4:Bk (hp h2.n h2.t [(I.s,some (cl (EX I {S with next:=S.next+CF S es})))]) h.n [.ptr I.s 0]:=AG;have el4:∀x∈l,EL (hp h2.n h2.t [(I.s,some (cl (EX I {S with next:=S.next+CF S es})))]) (h.n+1) x.2 x.1.2:=λx hx=>(pr.el x hx).kS (S:=λj=>j=I.s) k4 (by intro b hb;simp only[Ag]at hb;omega);have eE:IW {S with next:=S.next+CF S es}:=⟨λk=>⟨(iw.wi k).BT,(iw.wi k).lo⟩,iw.ne⟩;have apn:(Ed k S es).length=CF S es:=by unfold Ed Ks;rw[DC,ZY]
 refine Bt L (α:=Ap×(Nat->Nat)) (T:=λi _=>[(47,some (AN i)),(46,some (AN (CF S es))),(45,some (.AE pb 0 (CF S es) (Aa+7))),(8,some (.fn (.func 227) [] [.ptr h.n 0])),(6,some (.AE pb 0 (CF S es) (Aa+7))),(3,some (.ptr h.n 0))]) (n:=CF S es) (R:=λi s hh=>BJ s.2 hh I s.1/\BB (ext AD h.n) (hp h2.n h2.t [(I.s,some (cl (EX I {S with next:=S.next+CF S es})))]) s.2 hh/\IW s.1/\Fr true {S with next:=S.next+CF S es} s.1/\s.1.D.n+100*(CF S es- i)+100<900000000/\(∀AB o,LW S.D.sz ((Ed k S es).drop i) s.1 AB o->LW S.D.sz (Ed k S es) {S with next:=S.next+CF S es} AB o)) (i0:=0) ({S with next:=S.next+CF S es},ext AD h.n) BA ⟨r4,BB.refl _ _,eE,Fr.refl _ _,by simp only;omega,λAB o h=>by rw[LT]at h;exact h⟩ (CN _) ?_ ?_
 .rintro i ⟨Si,FQ⟩ hh hi ⟨ri,ai,OO,JD,YK,RD⟩ ih;simp only at ri ai OO JD YK RD;have kpb:Bk hh pb (l.flatMap FP):=Ao ai.k mG ada;have kq:Bk hh h.n [.ptr I.s 0]:=Ao ai.k mG kq4;have hx:l[i]?=some l[i]:=DA om;have MI:=el4 _ (LC (show i<l.length from om));have DF:=A7 l (Lc l) i _ hx;have ku:(Ed k S es)[i]?=some (l[i].1):=by have:=HT (λq=>q[i]?) hl;simp only[GD,hx,KR]at this;exact this.symm
  have TM:l[i].1=Dc k S.D.sz S.next S.last es i:=by have h1:(Ed k S es)[i]?=some (Dc k S.D.sz S.next S.last es i):=(by unfold Ed Ks;rw[GD,Yu hi];rfl);rw[h1]at ku;exact(Za ku).symm
  have PE:(Ed k S es).drop i=l[i].1::(Ed k S es).drop (i+1):=by have BX:i<(Ed k S es).length:=om;rw[ST BX];rw[DA BX]at ku;rw[Za ku]
  have RH:=U3 (k:=k) (sz:=S.D.sz) (first:=S.next) (prev:=S.last) (i:=i) (es:=es) hk om hi ZB.2;have tU:(Dc k S.D.sz S.next S.last es i).1.kind≠1:=by show k≠1;omega
  have pF:=Su (sz:=S.D.sz) ES i;have hO:=Ci (sz:=S.D.sz) (es:=es) om i;have NJ:(Dc k S.D.sz S.next S.last es i).2=Ec S.D.sz es i:=rfl;rw[<-NJ]at pF hO;rw[<-TM]at RH tU pF hO;have XE:=Pb Si true;have th:=ri.dv.ok.g.nb;have oM:EL hh (h.n+1) l[i].2 l[i].1.2:=by
   rcases MI.ex with q|⟨q1,b,q2,q3,q4⟩;.exact⟨.inl q⟩
   .exact⟨.inr ⟨q1,b,q2,Ao ai.k mG q3,q4⟩⟩
  clear MI TM ku;generalize dz:l[i]=xx at*;obtain⟨⟨⟨xk,xs,xq,xp,xi,xl⟩,ag⟩,qt⟩:=xx;simp only at RH tU pF hO oM PE;have e1:=oM;have call:∀h5,K0 hh h5->CX L 227 [.agg (FP ((⟨xk,xs,xq,xp,xi,xl⟩,ag),qt)),.ptr h.n 0] h5 (λv AA=>∃p AB AF,GX true (Cg Si.D.sz ag++A3 ⟨xk,xs,xq,xp,xi,xl⟩ (Cg Si.D.sz ag)) Si AB (.done p)/\BJ AF AA I AB/\BB (ext FQ hh.n) h5 AF AA) (λv AA=>∃(o:WO) (AB:Ap) (AF:Nat->Nat),v= .Cm 42 (AN (NU o))/\(o= .full\/o= .pow)/\GX true (Cg Si.D.sz ag++A3 ⟨xk,xs,xq,xp,xi,xl⟩ (Cg Si.D.sz ag)) Si AB o/\BJ AF AA I AB/\BB (ext FQ hh.n) h5 AF AA):=λh5 k5=>ah8 (lo:=h.n+1) L (ri.k0 k5 λb hb=>Ae hb) (OO.wi true) (Ab k5 kq) RH tU (oM.k0 k5) pF (by rw[JD.sz];exact hO) om
  have eV:∀(p:Nat) (AB:Ap) (AF:Nat->Nat) (h5 AA:H),K0 hh h5->GX true (Cg Si.D.sz ag++A3 ⟨xk,xs,xq,xp,xi,xl⟩ (Cg Si.D.sz ag)) Si AB (.done p)->BJ AF AA I AB->BB (ext FQ hh.n) h5 AF AA->
    BJ AF AA I AB/\BB (ext AD h.n) (hp h2.n h2.t [(I.s,some (cl (EX I {S with next:=S.next+CF S es})))]) AF AA/\IW AB/\Fr true {S with next:=S.next+CF S es} AB/\AB.D.n+100*(CF S es- (i+1))+100<900000000/\(∀SC o,LW S.D.sz ((Ed k S es).drop (i+1)) AB SC o->LW S.D.sz (Ed k S es) {S with next:=S.next+CF S es} SC o):=by
   intro p AB AF h5 AA k5 hw CO BC
   obtain⟨q1,q2⟩:=hw.iw OO
   refine⟨CO,ai.trans ((BB.k0 k5 λb hb=>Ae hb).trans BC),q1,JD.trans hw.fr,om,λSC o ho=>RD _ _ ?_⟩
   rw[PE]
   refine .cons (p:=p) ?_ ho
   rw[JD.sz]at hw;exact hw
  have WY:∀(o:WO) (AB:Ap),(o= .full\/o= .pow)->GX true (Cg Si.D.sz ag++A3 ⟨xk,xs,xq,xp,xi,xl⟩ (Cg Si.D.sz ag)) Si AB o->HO k es S AB o:=by intro o AB ho hw;refine .bad (RD _ _ ?_) ho;rw[PE];refine .bad ?_ ho;rw[JD.sz]at hw;exact hw
  clear RD;have NW:qt= .AS\/∃b n c,qt= .AE b 0 n c:=by
   rcases e1.len with⟨_,e⟩|⟨_,b,e,_⟩;.exact .inl e
   .exact .inr ⟨b,_,_,e⟩
  unfold FP NL at call;have aiz:i*7+7<=(l.flatMap FP).length/\((l.flatMap FP).drop (i*7)).take 7=[.int .u8 (xk:Int),.int .i64 xs,UN xq,UN xp,.int .i64 xi,.int .i64 xl,qt]:=DF;clear e1 oM DF;rcases NW with rfl|⟨eb,en,ec,rfl⟩
  all_goals
   refine wk ?_;refine BO L (A0 kpb.rk aiz rfl) ?_;refine Gj L (c:=call _ za) (g:=?_) (gp:=?_);.rintro _ h5 ⟨p,AB,AF,hw,CO,BC⟩;refine wk ?_;refine ih (AB,AF) _ _ (eV p AB AF _ _ ?_ hw CO BC) BA;exact AH
   .rintro _ h5 ⟨o,AB,AF,rfl,ho,hw,CO,BC⟩;refine Ax L X.f183.1 ?_;exact Gp _ _ ⟨o,AB,AF,rfl,ho,WY o AB ho hw,CO,a4.trans (ai.trans ((BB.k0 (AF:=ext FQ hh.n) AH λb hb=>Ae hb).trans BC))⟩
 .rintro⟨Si,FQ⟩ hh ⟨ri,ai,OO,JD,YK,RD⟩;simp only at ri ai OO JD YK RD;have kpb:Bk hh pb (l.flatMap FP):=Ao ai.k mG ada;have kq:Bk hh h.n [.ptr I.s 0]:=Ao ai.k mG kq4;have vW:=ri.sk;have ZF:LW S.D.sz (Ed k S es) {S with next:=S.next+CF S es} Si (.done 0):=RD _ _ (by rw[List.drop_of_length_le om];exact .nil);have gZ:(l.flatMap FP)[(CF S es- 1)*7+0+2]?=some (UN (S.next+(CF S es- 1))):=by
   have hx:l[CF S es- 1]?=some l[CF S es- 1]:=DA om;have h1:(Ed k S es)[CF S es- 1]?=some (Dc k S.D.sz S.next S.last es (CF S es- 1)):=(by unfold Ed Ks;rw[GD,Yu om];rfl);have h2:=HT (λq=>q[CF S es- 1]?) hl;simp only[GD,hx,KR]at h2;have h3:some l[CF S es- 1].1=some (Dc k S.D.sz S.next S.last es (CF S es- 1)):=h2.trans h1
   cases sV:l[CF S es- 1]with
   |mk a b=>rw[sV]at h3 hx;cases h3;rw[TV,In l (Lc l) (CF S es- 1) 2 _ hx om];rfl
  unfold EX at vW;refine wk ?_;have e9:S.next+(CF S es- 1)=S.next+CF S es- 1:=om
  refine ret X.f183.1 ?_;have k9:Kp (λj=>j=I.s) hh (hp hh.n hh.t [(I.s,some (cl (EX I {Si with last:=S.next+(CF S es- 1)})))]):=AH;have r9:=ri.st (AB:={Si with last:=S.next+(CF S es- 1)}) k9 mC ⟨rfl,rfl,rfl,rfl,rfl,rfl,rfl,rfl⟩;have a9:=a4.trans (ai.trans (BB.kp k9 λb _ e=>by subst e;have:=ri.CA;omega));have rc:HO k es S {Si with last:=S.next+CF S es- 1} (.done 0):= .ok ZF;rw[<-e9]at rc;exact⟨_,FQ,rc,r9,a9⟩
theorem LW.fr{sz:Nat}{l:List LE}(h:LW sz l S AB o)(iw:IW S):Fr true S AB/\IW AB/\AB.D.n<=S.D.n+(2*S.D.nb+2)*l.length:=by
 induction h with
 |nil=>exact⟨Fr.refl _ _,iw,by simp⟩
 | @cons x r S S1 AB p o h _ ih=>obtain⟨a,b⟩:=h.iw iw;obtain⟨c,d,e⟩:=ih a;have f:=h.fr;have m:=Pb S true;refine⟨f.trans c,d,?_⟩;rw[f.nb]at e;rw[FX,SQ];omega
 | @bad x r S S1 o h _=>obtain⟨a,b⟩:=h.iw iw;have m:=Pb S true;refine⟨h.fr,a,?_⟩;rw[FX,SQ];omega
structure rp (S AB:Ap):Prop where
 nb:AB.D.nb=S.D.nb
 P:AB.D.P=S.D.P
 sz:AB.D.sz=S.D.sz
 en:AB.D.en=S.D.en
 CZ:AB.S=S.S
 A:AB.A=S.A
 pe:AB.pe=S.pe
 wr:AB.wr=S.wr
 HG:AB.HG=S.HG
 CD:AB.D.CD=S.D.CD
theorem HO.fr{k:Nat}{es:List BI}(h:HO k es S AB o)(iw:IW S):rp S AB/\IW AB/\AB.D.n<=S.D.n+(2*S.D.nb+2)*CF S es/\AB.next=S.next+CF S es:=by
 have eE:IW {S with next:=S.next+CF S es}:=⟨λk=>⟨(iw.wi k).BT,(iw.wi k).lo⟩,iw.ne⟩;have hL:(Ed k S es).length=CF S es:=by unfold Ed Ks;rw[DC,ZY]
 cases h with
 |ok h=>obtain⟨a,b,c⟩:=h.fr eE;rw[hL]at c;exact⟨⟨a.nb,a.P,a.sz,a.en,a.CZ,a.A,a.pe,a.wr,a.o,a.CD⟩,⟨λk=>⟨(b.wi k).BT,(b.wi k).lo⟩,b.ne⟩,c,a.next⟩
 |bad h _=>obtain⟨a,b,c⟩:=h.fr eE;rw[hL]at c;exact⟨⟨a.nb,a.P,a.sz,a.en,a.CZ,a.A,a.pe,a.wr,a.o,a.CD⟩,b,c,a.next⟩
inductive HU (es:List BI):Ap->Ap->WO->Prop where
 |nil {S:Ap} (h:es=[]):HU es S S (.done 0)
 |ok {S S1:Ap} (h:HO 2 es S S1 (.done 0)) (hn:es≠[]):HU es S {S1 with A:=GB S1.A es es.length} (.done 0)
 |bad {S S1:Ap} {o:WO} {hn:es≠[]} (h:HO 2 es S S1 o) (ho:o= .full\/o= .pow):HU es S S1 o
theorem U4{ev:AV}{es:List BI}(r:BJ AD h I S)(iw:IW S)(he:EL h lo ev es)(HX:I.r1<lo/\I.r2<lo/\I.vb<lo/\I.m<lo)(hc:∀b n c,ev= .AE b 0 n c->AD b=0\/200<=AD b)(ES:∀e∈es,e.Ok)(hlen:es.length<=150)(hA:∀j x,es[j]?=some x->QO S.S (S.D.nb*S.D.P) (GB S.A es j) x)(hf:S.last<S.next/\S.next<990000000)(hn:S.D.n+100*CF S es+200<900000000):CX L 156 [.ptr I.s 0,ev] h (λv AA=>∃AB AF,HU es S AB (.done 0)/\BJ AF AA I AB/\BB AD h AF AA) (λv AA=>∃(o:WO) (AB:Ap) (AF:Nat->Nat),v= .Cm 42 (AN (NU o))/\(o= .full\/o= .pow)/\HU es S AB o/\BJ AF AA I AB/\BB AD h AF AA):=by
 have VT:=he.mono (CN lo);rcases he.len with⟨e0,rfl⟩|⟨HM,b,rfl,hb,sq⟩;.refine Bg L X.f156 λQ x cs G Gp=>?_;refine ret X.f156.1 ?_;exact⟨S,AD,.nil e0,r.k0 AH λ_ _=>rfl,BB.k0 AH λ_ _=>rfl⟩
 .have QM:=hc _ _ _ rfl;refine Bg L X.f156 λQ x cs G Gp=>?_;refine Gj L (c:=Mg (k:=2) L r iw (.inl rfl) VT ES om hf hn) (g:=?_) (gp:=?_);.rintro _ h2 ⟨S1,HD,hr,r1,a1⟩;obtain⟨fr,iw1,-,-⟩:=hr.fr iw;have ZV:=r1.sk;have TA:Bk h2 b (es.flatMap A2):=Ao a1.k om hb;have YN:EL h2 lo (.AE b 0 es.length (Aa+2)) es:=⟨.inr ⟨Yv.1 HM,b,rfl,TA,sq⟩⟩;have mp:=r1.mp;unfold EX at ZV;have hA1:∀j x,es[j]?=some x->QO S1.S (S1.D.nb*S1.D.P) (GB S1.A es j) x:=(by rw[fr.CZ,fr.nb,fr.P,fr.A];exact hA);refine AK ?_ (c:=O3 L mp YN om (λAR n c e=>by cases e;omega) hA1);rintro _ h3 ⟨rfl,k3,mp3⟩;have r3:=r1.map k3 mp3;refine AK ?_ (c:=A6 L);rintro _ rfl;refine ret X.f156.1 ?_;exact⟨_,HD,.ok hr (Yv.1 HM),r3,a1.trans (BB.kp k3 λb _ e=>by have:=r1.CA;rcases e with e|e|e<;>subst e<;>omega)⟩
  .rintro _ h2 ⟨o,S1,HD,rfl,ho,hr,r1,a1⟩;refine Ax L X.f156.1 ?_;exact Gp _ _ ⟨o,S1,HD,rfl,ho,.bad (hn:=Yv.1 HM) hr ho,r1,a1⟩
abbrev GW:=Int×Option (Nat×Nat×Nat)
def Zw(sz:Nat):Option (Nat×Nat×Nat)->AV
 |none=> .AS
 |some q=> .AE q.1 q.2.1 sz q.2.2
def GL(sz:Nat)(x:GW):List AV:=[AI x.1,Zw sz x.2]
theorem Gl{sz:Nat}(l:List GW):∀x∈l,(GL sz x).length=2:=λ_ _=>rfl
def Ff(S:Nat)(down:Bool)(l:List Int):Nat:=if l=[]\/¬l.Nodup then 2 else if∃s∈l,s<0\/(S:Int)<=s then 3 else if down=true then 50 else 0
theorem Sv{l:List Int}{a:Int}(h:l.Nodup)(ha:a∉l):(l++[a]).Nodup:=by rw[fM];exact⟨h,by simp,λx hx y hy=>by rw[EV.1 hy];exact λe=>ha (e ▸ hx)⟩
structure Tt (h:H)(U:Nat->Prop)(v:AV)(sz:Nat)(L:HJ):Prop where
 ex:(L=[]/\v= .AS)\/(0<L.length/\∃(lb:Nat) (rows:List (Nat×Nat)),v= .AE lb 0 L.length (Aa+1)/\Bk h lb (rows.map λb=>AV.AE b.1 0 sz b.2)/\U lb/\rows.length=L.length/\∀(i:Nat) (b:Nat×Nat) (d:List Nat),rows[i]?=some b->L[i]?=some d->BS h b.1 0 d/\d.length=sz/\U b.1/\b.1≠lb)
theorem Tt.kp{sz:Nat}{L:HJ}(q:Tt h U v sz L)(k:Kp B h AA)(hb:∀b,B b->b<h.n->¬U b):Tt AA U v sz L:=by
 rcases q.ex with h1|⟨h1,lb,rows,h2,h3,h4,h5,h6⟩;.exact⟨.inl h1⟩
 .refine⟨.inr ⟨h1,lb,rows,h2,Ao k (λe=>hb _ e h3.lt h4) h3,h4,h5,λi b d e1 e2=>?_⟩⟩;obtain⟨g1,g2,g3⟩:=h6 i b d e1 e2;exact⟨Lw k (λe=>hb _ e g1.ET g3.1) g1,g2,g3⟩
theorem Tt.mono{zy:Nat->Prop}{sz:Nat}{L:HJ}(q:Tt h U v sz L)(k:∀b,b<h.n->U b->zy b):Tt h zy v sz L:=by
 rcases q.ex with h1|⟨h1,lb,rows,h2,h3,h4,h5,h6⟩;.exact⟨.inl h1⟩
 .exact⟨.inr ⟨h1,lb,rows,h2,h3,k lb h3.lt h4,h5,λi b d e1 e2=>let⟨g1,g2,g3,g4⟩:=h6 i b d e1 e2;⟨g1,g2,k b.1 g1.ET g3,g4⟩⟩⟩
theorem Tt.app{sz N n:Nat}{b:Nat×Nat}{rows:List (Nat×Nat)}{L:HJ}{d:List Nat}(hb:Bk h N (rows.map (λb=>AV.AE b.1 0 sz b.2)++[AV.AE b.1 0 sz b.2]))(hN:U N)(hl:rows.length=L.length)(hn:L.length=n)(hr:∀(i:Nat) (b:Nat×Nat) (d:List Nat),rows[i]?=some b->L[i]?=some d->BS h b.1 0 d/\d.length=sz/\U b.1/\b.1≠N)(hd:BS h b.1 0 d)(TE:d.length=sz)(oz:U b.1/\b.1≠N):Tt h U (.AE N 0 (n+1) (Aa+1)) sz (L++[d]):=by
 refine⟨.inr ⟨by simp,N,rows++[b],by simp[hn],by rw[IG];exact hb,hN,by simp[hl],λi AR MG e1 e2=>?_⟩⟩;by_cases hi:i<rows.length;.rw[QC hi]at e1;rw[QC om]at e2;exact hr i AR MG e1 e2
 .rw[OB om]at e1 e2;have:i- rows.length=0:=by have:=(FE.1 e1).1;simp at this;omega
  rw[<-hl]at e2;rw[this]at e1 e2;simp at e1 e2;subst e1;subst e2;exact⟨hd,TE,oz⟩
theorem ac8{rows:List (Nat×Nat)}{sz:Nat}:(rows.map λb=>AV.AE b.1 0 sz b.2).length=rows.length:=DC _
theorem Tt.plain{sz:Nat}{L:HJ}(q:Tt h U v sz L){z:Int}:Av [AI z,v]=true:=by rcases q.ex with⟨_,rfl⟩|⟨_,lb,rows,rfl,_⟩<;>rfl
theorem Af1{sz S:Nat}(DE:1<=sz/\sz<=50)(hS:1<=S/\S<=12):CL L 39 [AN sz,AN S] h λv AA=>∃dv,v= .agg [AN sz,dv]/\Tt AA (λb=>h.n<=b) dv sz (List.replicate S (List.replicate sz 0))/\K0 h AA:=by
 refine Ad L X.f39 λQ x cs G=>?_;refine wk ?_;refine Bt L (α:=AV) (T:=λi _=>[(6,some (AN i)),(5,some (.ptr (h.n+1) 0)),(4,some (.ptr h.n 0)),(1,some (AN S)),(0,some (AN sz))]) (n:=S) (R:=λi dv h2=>Bk h2 (h.n+1) [AN sz,dv]/\Bk h2 h.n [Zi,.AS]/\Tt h2 (λb=>h.n+2<=b) dv sz (List.replicate i (List.replicate sz 0))/\K0 h h2) (i0:=0) .AS BA ⟨AG,AG,⟨.inl ⟨rfl,rfl⟩⟩,AH⟩ (CN _) ?_ ?_
 .rintro i dv h2 hi ⟨q1,q2,q3,q4⟩ ih;have l1:=q1.lt;have l2:=q2.lt;have n4:=q4.n;rcases q3.ex with⟨e0,rfl⟩|⟨h1,lb,rows,rfl,h3,h4,h5,h6⟩;.have:i=0:=(by simpa using e0);subst this;refine wk ?_;(apply H8 L rfl rfl;exact D1 (new:=[.AE h2.n 0 sz sz]) rfl rfl (CG.of (c:=[.AE h2.n 0 sz sz]) AG (BD _) rfl) om om);refine wk ?_;refine ih _ _ _ ⟨AG,AG,Tt.app (rows:=[]) (L:=[]) (n:=0) (b:=(h2.n,sz)) (d:=List.replicate sz 0) AG om rfl rfl (λi b d e=>by simp at e) (Ng ?_ (IA.rep om)) W0 ⟨om,om⟩,AH⟩ BA;rw[<-Fm];exact AG
  .have ZF:(List.replicate i (List.replicate sz 0)).length=i:=VA;rw[ZF]at h1 h5 q1;refine wk ?_;(apply H8 L rfl rfl;exact D7 (old:=rows.map λb=>AV.AE b.1 0 sz b.2) (new:=[.AE h2.n 0 sz sz]) rfl rfl (CG.of (c:=rows.map λb=>AV.AE b.1 0 sz b.2) AG (by rw[ac8];omega) (by rw[LT,LN (by rw[ac8];omega)])) (CG.of (c:=[.AE h2.n 0 sz sz]) AG (BD _) rfl) om om rfl);refine wk ?_;have kk:Kp (λj=>j=lb\/j=h.n+1) h2 (hp (h2.n+1+1+1) h2.t [(h.n+1,some (cl [AN sz,.AE (h2.n+1+1) 0 (i+1) (Aa+1)])),(h2.n+1+1,some (cl (rows.map (λb=>AV.AE b.1 0 sz b.2)++[.AE h2.n 0 sz sz]))),(lb,none),(h2.n+1,some (cl [.AE h2.n 0 sz sz])),(h2.n,some (cl (rl [Zy] sz)))]):=AH;refine ih _ _ _ ⟨AG,AG,?_,AH⟩ BA;rw[List.replicate_succ'];refine Tt.app (rows:=rows) (n:=i) (b:=(h2.n,sz)) (d:=List.replicate sz 0) AG om (by rw[h5,ZF]) ZF (λj b d e1 e2=>?_) (Ng ?_ (IA.rep om)) W0 ⟨om,om⟩;.obtain⟨g1,g2,g3,g4⟩:=h6 j b d e1 (by rw[List.getElem?_replicate]at e2 ⊢;exact e2);have:=g1.ET;exact⟨Lw kk om g1,g2,g3,om⟩
   .rw[<-Fm];exact AG
 .rintro dv h2 ⟨q1,q2,q3,q4⟩;have l1:=q1.lt;have l2:=q2.lt;have n4:=q4.n;have hp9:=q3.plain (z:=(sz:Int));refine wk ?_;(apply fD L rfl rfl rfl rfl rfl hp9;exact AG;rfl;rfl);refine ret X.f39.1 ?_;refine⟨dv,rfl,(q3.kp (B:=λj=>j=h.n) AH (λb e _=>om)).mono λb _ e=>om,AH⟩
variable {ab b4 gb m nt r2 vb:Nat}{h1:H}{post:OF}{todo:DO}{x0:AV}{z:EW}
theorem zq2(h:p:=by
 clear DF
 refine wk ?_
 refine BO L (A0 OP.rk HV rfl) ?_
 refine AK ?_ (c:=A6 L)
 rintro _ rfl
 refine wk ?_
 refine BO L (C0 (KE.int .i64) rfl rfl CH) ?_
 by_cases FO:s∈(l.map (·.1)).take i
 .rw[hg,AP FO,MC]
  refine wk ?_
  (apply Kk L rfl;exact El (KE.int .i64) m2 rfl rfl rfl CH;rfl)
  refine wk ?_
  refine BO L (C0 (KE.int .i64) rfl rfl CH) ?_
  rw[Bu,AP rfl,MC]
  refine wk ?_
  refine Eu L rfl rfl rfl rfl rfl (Gv L) ?_
  rintro _ h2 ⟨rfl,rfl⟩
  refine Ax L X.f154.1 ?_
  have e2:Ff S.S S.down (l.map (·.1))=2:=by unfold Ff;rw[AP (.inr (dup FO))]
  refine Gp _ _ ⟨by rw[e2],by rw[e2];simp,?_⟩
  exact Kp.DZ (AB:=λj=>j=h.n) AH (λi hi e=>om) k1
 .rw[hg,AM FO,cS]
  refine wk ?_
  (apply Kk L rfl;exact El (KE.int .i64) m2 rfl rfl rfl CH;rfl)
  refine wk ?_
  refine BO L (C0 (KE.int .i64) rfl rfl CH) ?_
  rw[Bu,AP rfl,MC]
  refine AK ?_ (c:=A6 L)
  rintro _ rfl
  refine wk ?_
  refine ih (Dd M ck s (AN 1),LM M ck s) _ _ ⟨?_,?_,m2.set _ _,?_,λk=>?_⟩ BA
  .exact Kp.DZ (AB:=λj=>j=h.n) AH (λi hi e=>om) k1
  .exact CH
  .rw[JG];exact Sv nd FO
  .rw[Bu,JG,m3]
   by_cases e:k=s
   .subst e;rw[AP rfl,AP W0]
   .rw[AM e]
    by_cases e2:k∈(l.map (·.1)).take i
    .rw[AP e2,AP (by simp[e2])]
    .rw[AM e2,AM (by simp[e2,e])]):p:=h
theorem zq4(h:p:=by
 clear DF
 by_cases c1:s<0
 .refine wk ?_
  refine BO L (A0 aQ.rk HV rfl) ?_
  refine wk ?_
  refine Jg L rfl rfl rfl rfl rfl (Gv L) ?_
  rintro _ h4 ⟨rfl,rfl⟩
  refine Ax L X.f154.1 ?_
  have e2:=bad (.inl c1)
  exact Gp _ _ ⟨by rw[e2],by rw[e2];simp,k2.trans AH⟩
 by_cases c2:s<(S.S:Int)
 .refine wk ?_
  refine BO L (A0 aQ.rk HV rfl) ?_
  refine AK ?_ (c:=Hw L (mp.k0 (k2.trans AH)))
  rintro _ rfl
  refine AK ?_ (c:=A6 L)
  rintro _ rfl
  refine wk ?_
  refine ih () _ _ ⟨?_,λj x hj e=>?_⟩ BA
  .exact k2.trans AH
  .rcases Nat.lt_succ_iff_lt_or_eq.1 hj with q|q
   .exact ok j x q e
   .subst q;rw[hx]at e;cases e;exact⟨by show 0<=s;omega,c2⟩
 .refine wk ?_
  refine BO L (A0 aQ.rk HV rfl) ?_
  refine AK ?_ (c:=Hw L (mp.k0 (k2.trans AH)))
  rintro _ rfl
  refine wk ?_
  refine Jg L rfl rfl rfl rfl rfl (Gv L) ?_
  rintro _ h4 ⟨rfl,rfl⟩
  refine Ax L X.f154.1 ?_
  have e2:=bad (.inr om)
  exact Gp _ _ ⟨by rw[e2],by rw[e2];simp,k2.trans AH⟩):p:=h
theorem z6(h:p:=by
 rintro⟨s,hs,hq⟩
 obtain⟨x,hx,rfl⟩:=DK.1 hs
 obtain⟨j,hj⟩:=UZ.1 hx
 have:=ok j x (FE.1 hj).1 hj
 omega):p:=h
theorem amb{cap:Nat}{l:List GW}(sk:Bk h I.s (EX I S))(mp:II S.S S.D.nb S.D.P h I.m I.r1 I.r2 I.vb S.A)(DE:12<=S.D.sz/\S.D.sz<900)(kb:Bk h gb (l.flatMap (GL S.D.sz)))(hl:l≠[])(hlen:l.length<1000):CX L 154 [.ptr I.s 0,.AE gb 0 l.length cap] h (λv AA=>v= .BM []/\Ff S.S S.down (l.map (·.1))=0/\K0 h AA) (λv AA=>v= .Cm 42 (AI ((Ff S.S S.down (l.map (·.1)):Nat):Int))/\Ff S.S S.down (l.map (·.1))≠0/\K0 h AA):=by
 have HM:=Yv.2 hl;have hmS:=mp.rg;unfold EX at sk;refine Bg L X.f154 λQ x cs G Gp=>?_;refine AK ?_ (c:=A6 L);rintro _ rfl;refine wk ?_
 refine Bt L (α:=OJ×Nat) (T:=λi _=>[(16,some (AN i)),(15,some (AN l.length)),(14,some (.AE gb 0 l.length cap)),(4,some (.map h.n)),(1,some (.AE gb 0 l.length cap)),(0,some (.ptr I.s 0))]) (n:=l.length)
  (R:=λi s hh=>K0 h hh/\Mk hh h.n (s.1.map (mE AI)) s.2/\EP s.1 s.2/\((l.map (·.1)).take i).Nodup/\∀k:Int,A9 s.1 k=if k∈(l.map (·.1)).take i then some (AN 1)else none) (i0:=0) ([],0) BA
  ⟨AH,CH,EP.nil,by simp,λk=>by simp[A9]⟩ (CN _) ?_ ?_
 .rintro i ⟨M,ck⟩ hh hi ⟨k1,m1,m2,nd,m3⟩ ih;simp only at m1 m2 m3;have ZV:=Ab k1 sk;have OP:=Ab k1 kb;have hx:l[i]?=some l[i]:=DA hi;have DF:=A7 l (Gl (sz:=S.D.sz) l) i _ hx;have JG:(l.map (·.1)).take (i+1)=(l.map (·.1)).take i++[l[i].1]:=by rw[LO,GD,hx];rfl
  clear kb sk;generalize dz:l[i]=xx at*;obtain⟨s,q⟩:=xx;have hg:=m3 s;have dup:s∈(l.map (·.1)).take i->¬(l.map (·.1)).Nodup:=λFO nn=>by have h1:=nn.sublist (List.take_sublist (i+1) _);rw[JG,fM]at h1;exact h1.2.2 s FO s (aq _) rfl
  rcases q with _|⟨b,o,c⟩;.have HV:i*2+2<=(l.flatMap (GL S.D.sz)).length/\((l.flatMap (GL S.D.sz)).drop (i*2)).take 2=[AI s,.AS]:=DF;exact zq2
  .have HV:i*2+2<=(l.flatMap (GL S.D.sz)).length/\((l.flatMap (GL S.D.sz)).drop (i*2)).take 2=[AI s,.AE b o S.D.sz c]:=DF;exact zq2
 .rintro⟨M,ck⟩ hh ⟨k1,m1,m2,nd,m3⟩;simp only at m1 m2 m3;rw[LN W0]at nd;have ZV:=Ab k1 sk;have OP:=Ab k1 kb;have sk0:=sk;have kb0:=kb;clear kb sk;refine wk ?_;refine Bt L (α:=Unit) (T:=λi _=>[(50,some (AN i)),(49,some (AN l.length)),(48,some (.AE gb 0 l.length cap)),(0,some (.ptr I.s 0))]) (n:=l.length) (R:=λi _ h2=>K0 h h2/\∀j x,j<i->l[j]?=some x->0<=x.1/\x.1<(S.S:Int)) (i0:=0) () BA ⟨k1.trans AH,λj x hj=>om⟩ (CN _) ?_ ?_
  .rintro i _ h3 hi ⟨k2,ok⟩ ih;have cK:=Ab k2 sk0;have aQ:=Ab k2 kb0;have hx:l[i]?=some l[i]:=DA hi;have DF:=A7 l (Gl (sz:=S.D.sz) l) i _ hx;clear ZV OP;generalize dz:l[i]=xx at*;obtain⟨s,q⟩:=xx;have bad:(s<0\/(S.S:Int)<=s)->Ff S.S S.down (l.map (·.1))=3:=λhq=>by unfold Ff;rw[AM (by rintro(q|q);exact hl (cQ.1 q);exact q nd),AP ⟨s,DK.2 ⟨_,I4 hx,rfl⟩,hq⟩]
   rcases q with _|⟨b,o,c⟩;.have HV:i*2+2<=(l.flatMap (GL S.D.sz)).length/\((l.flatMap (GL S.D.sz)).drop (i*2)).take 2=[AI s,.AS]:=DF;exact zq4
   .have HV:i*2+2<=(l.flatMap (GL S.D.sz)).length/\((l.flatMap (GL S.D.sz)).drop (i*2)).take 2=[AI s,.AE b o S.D.sz c]:=DF;exact zq4
  .rintro _ h3 ⟨k2,ok⟩;have cK:=Ab k2 sk0;have hc:Ff S.S S.down (l.map (·.1))=if S.down=true then 50 else 0:=(by unfold Ff;rw[AM (by rintro(q|q);exact hl (cQ.1 q);exact q nd),AM];exact z6);rw[hc]at G Gp;clear ZV OP
   cases hd:S.down with
   |false=>rw[hd]at cK G;refine AK ?_ (c:=A6 L);rintro _ rfl;refine ret X.f154.1 ?_;exact⟨rfl,rfl,k2.trans AH⟩
   |true=>rw[hd]at cK Gp;refine wk ?_;refine Eu L rfl rfl rfl rfl rfl (Gv L) ?_;rintro _ h4 ⟨rfl,rfl⟩;refine Ax L X.f154.1 ?_;exact Gp _ _ ⟨rfl,by simp,k2.trans AH⟩
include L in
theorem ah9{Q:Nat->AV->Prop}{l:CJ}{cs:FM}{e:Int}(t4:look l 4=some (.ptr b4 0))(k4:Bk h b4 [x0])(hG:∀v AA,post v AA->GO P0 E Q (finish v cs AA z))(DL:∀AA,Kp (λj=>j=b4) h AA->post (AI e) AA):Good P0 E Q ⟨⟨94,nt,AJ l,todo,[.call 124 [.ptr b4 0]],.panicking [(.Cm 42 (AI e),false)],false,none⟩,z::cs,h⟩:=by refine Co L W1 X.f124.1 rfl rfl rfl ?_;refine Je L rfl ?_;refine wk ?_;refine Hc L X.f124.1 rfl ?_;refine C1 L X.f94.1 (Bw t4 (Bk.e AG) rfl E7) hG (DL _ AH)
include L in
theorem Aa9{Q:Nat->AV->Prop}{l:CJ}{cs:FM}(t4:look l 4=some (.ptr b4 0))(k4:Bk h b4 [x0])(hG:∀v AA,post v AA->GO P0 E Q (finish v cs AA z))(DL:post x0 h):Good P0 E Q ⟨⟨94,nt,AJ l,todo,[.call 124 [.ptr b4 0]],.returning,false,none⟩,z::cs,h⟩:=by refine Co L W1 X.f124.1 rfl rfl rfl ?_;refine Dt L rfl ?_;refine wk ?_;refine BO L (Ki (k:=true) rfl rfl) ?_;refine wk ?_;refine Hc L X.f124.1 rfl ?_;refine C1 L X.f94.1 (Bw t4 (Bk.e AG) rfl E7) hG DL
theorem Ak8{s:Nat}{cp:List AV}{G0:OF}(ka:Bk h ab [.ptr s 0])(hc:CX L f (.ptr s 0::cp) (hp (h.n+1) h.t [(h.n,some (cl [Zi]))]) post G0)(hB:¬B h.n)(hq:∀v AA,post v AA->Kp B (hp (h.n+1) h.t [(h.n,some (cl [Zi]))]) AA)(hpn:∀v AA,G0 v AA->(∃e:Int,v= .Cm 42 (AI e))/\Kp B (hp (h.n+1) h.t [(h.n,some (cl [Zi]))]) AA):CL L 94 [.ptr ab 0,.fn (.func f) [] cp] h (λv AA=>(v=Zi/\∃u h1,post u h1/\Kp (λj=>j=h.n) h1 AA)\/(∃(e:Int) (h1:H),v=AI e/\G0 (.Cm 42 (AI e)) h1/\Kp (λj=>j=h.n) h1 AA)):=by
 refine Ad L X.f94 λQ x cs G=>?_;refine wk ?_;refine Ha L rfl rfl rfl rfl ?_;refine wk ?_;refine d9 L (fst:=[]) (cp:=cp) (va:=[.ptr s 0]) (r0:= .ptr s 0::cp) ?_ ?_ ?_ ?_ ?_ hc ?_ ?_;.rfl
 .rfl
 .rfl
 .rfl
 .rfl
 .intro u h1 hu;have k1:=hq u h1 hu;have OP:Bk h1 h.n [Zi]:=Ao k1 hB AG;refine wk ?_;refine Fd L (todo:=[]) ?_;refine Aa9 L (b4:=h.n) (x0:=Zi) rfl AG G (.inl ⟨rfl,u,h1,hu,AH⟩)
 .intro u h1 hu;obtain⟨⟨e,rfl⟩,k1⟩:=hpn u h1 hu;have OP:Bk h1 h.n [Zi]:=Ao k1 hB AG;refine ah9 L (b4:=h.n) rfl OP G λAA k=> .inr ⟨e,h1,rfl,hu,k⟩
structure PT (S AB:Ap):Prop where
 nb:AB.D.nb=S.D.nb
 P:AB.D.P=S.D.P
 sz:AB.D.sz=S.D.sz
 en:AB.D.en=S.D.en
 CZ:AB.S=S.S
 A:AB.A=S.A
 last:AB.last=S.last
 pe:AB.pe=S.pe
 log:AB.log=S.log
 CD:AB.D.CD=S.D.CD
theorem PT.refl(S:Ap):PT S S:=⟨rfl,rfl,rfl,rfl,rfl,rfl,rfl,rfl,rfl,rfl⟩
theorem PT.trans{S1:Ap}(a:PT S S1)(b:PT S1 S2):PT S S2:=⟨b.nb.trans a.nb,b.P.trans a.P,b.sz.trans a.sz,b.en.trans a.en,b.CZ.trans a.CZ,b.A.trans a.A,b.last.trans a.last,b.pe.trans a.pe,b.log.trans a.log,b.CD.trans a.CD⟩
theorem IM.fr(h:IM sec data S AB o)(iw:IW S):PT S AB/\IW AB/\AB.D.n<=S.D.n+2*S.D.nb+2/\AB.next=S.next+1:=by
 have eE:IW {S with next:=S.next+1}:=⟨λk=>⟨(iw.wi k).BT,(iw.wi k).lo⟩,iw.ne⟩;have m:JV {S with next:=S.next+1} false<=2*S.D.nb+1:=Pb _ _
 cases h with
 |ok h=>have f:=h.fr;obtain⟨a,b⟩:=h.iw eE;exact⟨⟨f.nb,f.P,f.sz,f.en,f.CZ,f.A,f.last,f.pe,f.o,f.CD⟩,⟨λk=>⟨(a.wi k).BT,(a.wi k).lo⟩,a.ne⟩,by simp only at b ⊢;omega,f.next⟩
 |bad h _=>have f:=h.fr;obtain⟨a,b⟩:=h.iw eE;exact⟨⟨f.nb,f.P,f.sz,f.en,f.CZ,f.A,f.last,f.pe,f.o,f.CD⟩,a,by simp only at b ⊢;omega,f.next⟩
inductive EY:GV->Ap->List BI->Ap->WO->Prop where
 |nil {S:Ap}:EY [] S [] S (.done 0)
 |put {sec:Int} {data:List Nat} {l:GV} {S S1 AB:Ap} {p:Nat} {es:List BI} {o:WO} (h:IM sec data S S1 (.done p)) (r:EY l S1 es AB o):EY ((sec,some data)::l) S ((sec,(p:Int))::es) AB o
 |bad {sec:Int} {data:List Nat} {l:GV} {S S1:Ap} {o:WO} (h:IM sec data S S1 o) (ho:o= .full\/o= .pow):EY ((sec,some data)::l) S [] S1 o
 |trim {sec:Int} {l:GV} {S AB:Ap} {es:List BI} {o:WO} (h:S.A sec≠none) (r:EY l S es AB o):EY ((sec,none)::l) S ((sec,-1)::es) AB o
 |skip {sec:Int} {l:GV} {S AB:Ap} {es:List BI} {o:WO} (h:S.A sec=none) (r:EY l S es AB o):EY ((sec,none)::l) S es AB o
inductive LU (l:GV):Ap->Ap->WO->Prop where
 |ok {S S1 S2:Ap} {es:List BI} (a:EY l S es S1 (.done 0)) (c:HU es S1 S2 (.done 0)):LU l S S2 (.done 0)
 |bad {S S1:Ap} {es:List BI} {o:WO} (a:EY l S es S1 o) (ho:o= .full\/o= .pow):LU l S S1 o
 |WX {S S1 S2:Ap} {es:List BI} {o:WO} (a:EY l S es S1 (.done 0)) (c:HU es S1 S2 o) (ho:o= .full\/o= .pow):LU l S S2 o
def DT(BH:Nat->List Nat)(l:List GW):GV:=l.map λx=>(x.1,x.2.map λq=>BH q.1)
theorem Gm{sz n:Nat}(DE:12<=sz):EI sz n<=n+1:=by
 unfold EI EK;have hm:1<=(sz- 4)/8:=om
 generalize (sz- 4)/8=m at*;rcases Nat.eq_zero_or_pos n with rfl|hn;.rw[fN om];simp
 .rw[show n+m- 1=(n- 1)+m from om,Nat.add_div_right _ om];have:=an (n- 1) m;omega
theorem BJ.own(q:BJ AD h I S)(k:Kp B h AA)(hb:∀b,b<h.n->B b->200<=AD b)(hc:∀b,b<h.n->AF b=AD b):BJ AF AA I S:=(q.k0 (Kp.refl _) hc).out k λb hl e=>by rw[hc b hl];exact hb b hl e
theorem BB.own{HD:Nat->Nat}(a:BB AD h HD h1)(k:Kp B h1 AA)(hb:∀b,B b->h.n<=b)(hc:∀b,b<h1.n->AF b=HD b):BB AD h AF AA:=⟨Kp.DZ k (λi hi e=>by have:=hb i e;omega) a.k,λb hl=>(hc b (IF hl a.k.n)).trans (a.CA b hl)⟩
theorem EL.blt{n c:Nat}{l:List BI}(q:EL h lo (.AE b 0 n c) l):b<h.n/\lo<=b:=by
 rcases q.ex with⟨_,e⟩|⟨_,AR,e,h4,h5⟩;.cases e
 .cases e;exact⟨h4.lt,h5⟩
theorem zq1(h:p:=by
 rintro _ rfl
 refine Gj L (c:=call _ za) (g:=?_) (gp:=?_)
 .rintro _ h5 ⟨p,AB,AF,rfl,hw,CO,BC⟩
  have n1:=BC.k.n
  simp only[Ag]at n1
  rcases el.len with⟨e0,rfl⟩|⟨HM,b1,rfl,TA,air⟩
  .subst e0
   refine wk ?_
   (apply IQ L rfl;exact D1 (new:=A2 (s,(p:Int))) rfl rfl (CG.of (c:=A2 (s,(p:Int))) AG (BD _) rfl) om om;rfl)
   refine wk ?_
   refine ih (AB,AX AF (h5.n+1) 200,.AE (h5.n+1) 0 1 (Aa+2),[(s,(p:Int))]) _ _ (eV p AB AF _ h5 _ _ (h5.n+1) ?_ hw CO BC (Kp.mono (S:=λ_=>False) (λ_ f=>f.elim) ?_) (EL.app (l:=[]) ?_ om rfl) om rfl) BA
   .exact AH
   .exact AH
   .exact AG
  .have ajd:=TA.lt
   have Zz:=IP b1 _ _ rfl
   have oZ:Bk h5 b1 (es.flatMap A2):=Ao BC.k (by rw[Ae ajd];omega) uc
   have ap4:=oZ.lt
   refine wk ?_
   (apply IQ L rfl;exact D7 (old:=es.flatMap A2) (new:=A2 (s,(p:Int))) rfl rfl (CG.of (c:=es.flatMap A2) AG (by rw[Bm];omega) pW) (CG.of (c:=A2 (s,(p:Int))) AG (BD _) rfl) om om rfl;rfl)
   refine wk ?_
   refine ih (AB,AX AF (h5.n+1) 200,.AE (h5.n+1) 0 (es.length+1) (Aa+2),es++[(s,(p:Int))]) _ _ (eV p AB AF _ h5 _ _ (h5.n+1) ?_ hw CO BC (Kp.mono (S:=λj=>j=b1) (λj e=>⟨_,_,by subst e;rfl⟩) ?_) (EL.app (l:=es) ?_ om rfl) om rfl) BA
   .exact AH
   .exact AH
   .exact AG
 .rintro _ h5 ⟨EG,AB,AF,rfl,ho,hw,CO,BC⟩
  refine Ax L X.f153.1 ?_
  refine Gp _ _ (.inr ⟨VS,EG,AB,AF,rfl,ho,WY _ _ ho hw,CO,ai.trans ((BB.k0 (AF:=ext FQ hh.n) AH λb hb=>Ae hb).trans BC)⟩)):p:=h
theorem z7(h:p:=by
 intro e he
 obtain⟨j,hj⟩:=UZ.1 he
 obtain⟨⟨f1,f2,f3,f4⟩,-⟩:=oS j e hj
 have hm:S.D.nb*S.D.P<=44*6:=NB r.dv.ok.g.nb.2 (by have:=r.dv.ok.g.P;omega)
 exact⟨f1,om,f3,om⟩):p:=h
theorem Wx{S:Nat}{A:DM}(q:II S nb P h m r1 r2 vb A)(e:A s=none):CL L 98 [.ptr m 0,AI s] h λv AA=>v= .BM [Zi,.bool false]/\AA=h:=(vf L q).mono λv AA q=>⟨by rw[q.1,e],q.2⟩
theorem Wy{S:Nat}{A:DM}(q:II S nb P h m r1 r2 vb A){p:Int}(e:A s=some p):CL L 98 [.ptr m 0,AI s] h λv AA=>v= .BM [AI p,.bool true]/\AA=h:=(vf L q).mono λv AA q=>⟨by rw[q.1,e],q.2⟩
theorem Wz{S:Nat}{d:Bool}{l:List Int}(h:Ff S d l=0):∀s∈l,0<=s/\s<S:=by
 intro s hs;unfold Ff at h;split at h;.cases h
 .split at h;.cases h
  .rename_i hn;constructor;.exact Int.not_lt.1 λc=>hn ⟨s,hs,.inl c⟩
   .exact Int.not_le.1 λc=>hn ⟨s,hs,.inr c⟩
theorem aia{cb:Nat}{l:List GW}{BH:Nat->List Nat}(r:BJ AD h I S)(iw:IW S)(hS:S.S<1000)(kc:Bk h cb [.AE gb 0 l.length (Aa+2)])(kb:Bk h gb (l.flatMap (GL S.D.sz)))(MS:AD cb=0/\AD gb=0)(hl:l≠[])(hlen:l.length<=12)(hD:∀(i:Nat) (s:Int) (b o c:Nat),l[i]?=some (s,some (b,o,c))->BS h b o (BH b)/\AD b=0/\(BH b).length=S.D.sz)(hf:S.last<S.next/\S.next<980000000)(hn:S.D.n+4000<900000000)(hA:Ff S.S S.down (l.map (·.1))=0->∀es AB,EY (DT BH l) S es AB (.done 0)->∀j x,es[j]?=some x->QO S.S (S.D.nb*S.D.P) (GB S.A es j) x):CX L 153 [.ptr I.s 0,.ptr cb 0] h (λv AA=>Ff S.S S.down (l.map (·.1))=0/\∃AB AF,LU (DT BH l) S AB (.done 0)/\BJ AF AA I AB/\BB AD h AF AA) (λv AA=>(v= .Cm 42 (AI ((Ff S.S S.down (l.map (·.1)):Nat):Int))/\Ff S.S S.down (l.map (·.1))≠0/\∃AF,BJ AF AA I S/\BB AD h AF AA)\/(Ff S.S S.down (l.map (·.1))=0/\∃(o:WO) (AB:Ap) (AF:Nat->Nat),v= .Cm 42 (AN (NU o))/\(o= .full\/o= .pow)/\LU (DT BH l) S AB o/\BJ AF AA I AB/\BB AD h AF AA)):=by
 have DE:=r.dv.ok.g.sz;have BX:=r.lt;have aps:l.length<Aa:=by simp only[Aa];omega
 refine Bg L X.f153 λQ x cs G Gp=>?_;refine Gj L (c:=amb (cap:=l.length) L (Ab za r.sk) (r.mp.k0 za) ⟨DE.1,om⟩ (Ab za kb) hl om) (g:=?_) (gp:=?_)
 .rintro _ h2 ⟨rfl,VS,k2⟩;have r2:BJ (ext AD h.n) h2 I S:=r.k0 k2 λb hb=>Ae hb;have a2:BB AD h (ext AD h.n) h2:=BB.k0 k2 λb hb=>Ae hb;have XK:Bk h2 cb [.AE gb 0 l.length (Aa+2)]:=Ab k2 kc;have YS:=Wz VS;have ot:(DT BH l).length=l.length:=by unfold DT;rw[DC]
  refine wk ?_;refine Bt L (α:=Ap×(Nat->Nat)×AV×List BI) (T:=λi s=>[(18,some (AN i)),(17,some (AN l.length)),(16,some (.AE gb 0 l.length (Aa+2))),(3,some s.2.2.1),(0,some (.ptr I.s 0))]) (n:=l.length) (R:=λi s hh=>BJ s.2.1 hh I s.1/\BB AD h s.2.1 hh/\IW s.1/\PT S s.1/\(s.1.next<=S.next+i/\S.next<=s.1.next)/\s.1.D.n+100*(l.length- i)+2000<900000000/\EL hh h.n s.2.2.1 s.2.2.2/\(∀b n c,s.2.2.1= .AE b 0 n c->s.2.1 b=200)/\s.2.2.2.length<=i/\(∀X2 SC o,EY ((DT BH l).drop i) s.1 X2 SC o->EY (DT BH l) S (s.2.2.2++X2) SC o)) (i0:=0) (S,ext AD h.n,.AS,[]) BA ⟨r2.k0 za λ_ _=>rfl,a2.trans (BB.k0 za λ_ _=>rfl),iw,PT.refl _,⟨by simp only;omega,BD _⟩,by simp only;omega,EL.nil _ _,(by intro b n c e;cases e),BD _,(by intro X2 SC o q;exact q)⟩ (CN _) ?_ ?_
  .rintro i ⟨Si,FQ,ev,es⟩ hh hi ⟨ri,ai,OO,JD,HB,YK,el,IP,MI,RD⟩ ih;simp only at ri ai OO JD HB YK el IP MI RD;have uk:Bk hh gb (l.flatMap (GL S.D.sz)):=Ao ai.k om kb;have VX:=ai.k.n;have vW:=ri.sk;have th:=ri.dv.ok.g.nb;have apv:=ri.CA;have hx:l[i]?=some l[i]:=DA hi;have DF:=A7 l (Gl (sz:=S.D.sz) l) i _ hx;have hg:(DT BH l)[i]?=some (l[i].1,l[i].2.map λq=>BH q.1):=(by unfold DT;rw[GD,hx];rfl);have PE:(DT BH l).drop i=(l[i].1,l[i].2.map λq=>BH q.1)::(DT BH l).drop (i+1):=(by have BX:i<(DT BH l).length:=om;rw[ST BX];rw[DA BX]at hg;rw[Za hg]);have hs:=YS l[i].1 (RQ (LC hi));have dP:=hD i;clear hg;generalize dz:l[i]=xx at*;obtain⟨s,q⟩:=xx;simp only at hs PE;unfold EX at vW;rcases q with _|⟨b,o,c⟩
   .have HV:i*2+2<=(l.flatMap (GL S.D.sz)).length/\((l.flatMap (GL S.D.sz)).drop (i*2)).take 2=[AI s,.AS]:=DF;clear DF
    cases UF:Si.A s with
    |none=>
     refine wk ?_;refine BO L (A0 uk.rk HV rfl) ?_;refine AK ?_ (c:=Wx L (ri.mp.k0 za) UF);rintro _ rfl;refine wk ?_;refine ih (Si,ext FQ hh.n,ev,es) _ _ ⟨ri.k0 ?_ λb hb=>Ae hb,ai.trans (BB.k0 ?_ λb hb=>Ae hb),OO,JD,⟨by simp only;omega,HB.2⟩,by simp only;omega,el.k0 ?_,λb n c e=>?_,by simp only;omega,λX2 SC o q=>RD _ _ _ ?_⟩ BA;.exact AH
     .exact AH
     .exact AH
     .have Zz:=IP b n c e;simp only at e;subst e;exact(Ae el.blt.1).trans Zz
     .rw[PE];exact .skip UF q
    |some p=>
     refine wk ?_;refine BO L (A0 uk.rk HV rfl) ?_;refine AK ?_ (c:=Wy L (ri.mp.k0 za) UF);rintro _ rfl;have abg:∀X2 SC o,EY ((DT BH l).drop (i+1)) Si X2 SC o->EY (DT BH l) S ((es++[(s,-1)])++X2) SC o:=λX2 SC o q=>by rw[NP];exact RD _ _ _ (by rw[PE];exact .trim (by rw[UF];simp) q)
     rcases el.len with⟨e0,rfl⟩|⟨HM,b,rfl,hb,sq⟩
     .subst e0;refine wk ?_;refine BO L (D1 (new:=A2 (s,-1)) rfl rfl (CG.of (c:=A2 (s,-1)) AG (BD _) rfl) om om) ?_;refine wk ?_;refine ih (Si,AX (ext FQ hh.n) (hh.n+2) 200,.AE (hh.n+2) 0 1 (Aa+2),[(s,-1)]) _ _ ⟨ri.own (B:=λ_=>False) ?_ (λb _ e=>e.elim) λb hb=>(CB _ _ om).trans (Ae hb),ai.own (B:=λ_=>False) ?_ (λb e=>e.elim) λb hb=>(CB _ _ om).trans (Ae hb),OO,JD,⟨by simp only;omega,HB.2⟩,by simp only;omega,EL.app (l:=[]) ?_ om rfl,λb n c e=>?_,by simp,abg⟩ BA;.exact AH
      .exact AH
      .exact AG
      .cases e;exact Am _ _ _
     .have oz:=hb.lt;have Zz:=IP b _ _ rfl;refine wk ?_;refine BO L (D7 (old:=es.flatMap A2) (new:=A2 (s,-1)) rfl rfl (CG.of (c:=es.flatMap A2) AG (by rw[Bm];omega) pW) (CG.of (c:=A2 (s,-1)) AG (BD _) rfl) om om rfl) ?_;refine wk ?_;refine ih (Si,AX (ext FQ hh.n) (hh.n+2) 200,.AE (hh.n+2) 0 (es.length+1) (Aa+2),es++[(s,-1)]) _ _ ⟨ri.own (B:=λj=>j=b) ?_ (λb _ e=>by subst e;omega) λb hb=>(CB _ _ om).trans (Ae hb),ai.own (B:=λj=>j=b) ?_ (λb e=>by subst e;exact sq) λb hb=>(CB _ _ om).trans (Ae hb),OO,JD,⟨by simp only;omega,HB.2⟩,by simp only;omega,EL.app (l:=es) ?_ om rfl,λb n c e=>?_,by simp;omega,abg⟩ BA;.exact AH
      .exact AH
      .exact AG
      .cases e;exact Am _ _ _
   .have HV:i*2+2<=(l.flatMap (GL S.D.sz)).length/\((l.flatMap (GL S.D.sz)).drop (i*2)).take 2=[AI s,.AE b o S.D.sz c]:=DF;clear DF;obtain⟨XA,bR,hd3⟩:=dP s b o c hx;have uo:=ai.bs XA bR;have aqe:1<=S.D.sz:=om;have XE:=Pb Si false
    have call:∀h5,K0 hh h5->CX L 155 [.ptr I.s 0,AI s,.AE b o S.D.sz c] h5
      (λv AA=>∃p AB AF,v= .agg [AI s,AN p]/\IM s (BH b) Si AB (.done p)/\BJ AF AA I AB/\BB (ext FQ hh.n) h5 AF AA)
      (λv AA=>∃(o:WO) (AB:Ap) (AF:Nat->Nat),v= .Cm 42 (AN (NU o))/\(o= .full\/o= .pow)/\IM s (BH b) Si AB o/\BJ AF AA I AB/\BB (ext FQ hh.n) h5 AF AA):=by
     intro h5 k5
     have:=Y3 (c1:=c) (sec:=s) L (ri.k0 k5 λb hb=>Ae hb) (OO.wi false) om ⟨om,om⟩ (uo.1.k0 k5) ((Ae uo.1.ET).trans uo.2) (by rw[JD.sz];exact hd3) om
     rw[JD.sz]at this
     exact this
    refine wk ?_;refine BO L (A0 uk.rk HV rfl) ?_
    have eV:∀(p:Nat) (AB:Ap) (AF:Nat->Nat) (h5 AA h7:H) (w:AV) (N:Nat),K0 hh h5->IM s (BH b) Si AB (.done p)->BJ AF AA I AB->BB (ext FQ hh.n) h5 AF AA->Kp (λj=>∃n c,ev= .AE j 0 n c) AA h7->EL h7 h.n w (es++[(s,(p:Int))])->AA.n<=N->w= .AE N 0 (es.length+1) (Aa+2)->
      BJ (AX AF N 200) h7 I AB/\BB AD h (AX AF N 200) h7/\IW AB/\PT S AB/\(AB.next<=S.next+(i+1)/\S.next<=AB.next)/\AB.D.n+100*(l.length- (i+1))+2000<900000000/\EL h7 h.n w (es++[(s,(p:Int))])/\(∀b n c,w= .AE b 0 n c->(AX AF N 200) b=200)/\(es++[(s,(p:Int))]).length<=i+1/\(∀X2 SC o,EY ((DT BH l).drop (i+1)) AB X2 SC o->EY (DT BH l) S ((es++[(s,(p:Int))])++X2) SC o):=by
     intro p AB AF h5 AA h7 w N k5 HC CO BC k7 ai2 hN hw
     obtain⟨f1,f2,f3,f4⟩:=HC.fr OO
     have n1:=BC.k.n
     have hold:∀j n c,ev= .AE j 0 n c->AF j=200/\h.n<=j:=by
      intro j n c e
      have Zz:=IP j n c e
      subst e
      have:=el.blt
      exact⟨(BC.CA j om).trans ((Ae this.1).trans Zz),this.2⟩
     refine⟨CO.own k7 (λj _ e=>?_) λj hj=>CB _ _ om,?_,f2,JD.trans f1,⟨om,om⟩,om,ai2,λb n c e=>?_,by simp;omega,λX2 SC o q=>?_⟩
     .obtain⟨n,c,e⟩:=e
      have:=hold j n c e;omega
     .refine BB.own (ai.trans ((BB.k0 k5 λb hb=>Ae hb).trans BC)) k7 (λj e=>?_) λj hj=>CB _ _ om
      obtain⟨n,c,e⟩:=e
      exact(hold j n c e).2
     .rw[hw]at e;cases e;exact Am _ _ _
     .rw[NP];exact RD _ _ _ (by rw[PE];exact .put HC q)
    have WY:∀(EG:WO) (AB:Ap),(EG= .full\/EG= .pow)->IM s (BH b) Si AB EG->LU (DT BH l) S AB EG:=(by intro EG AB ho HC;have:=RD [] AB EG (by rw[PE];exact .bad HC ho);exact .bad this ho);clear RD
    cases UF:Si.A s with
    |none=>refine AK ?_ (c:=Wx L (ri.mp.k0 za) UF);exact zq1
    |some pa=>refine AK ?_ (c:=Wy L (ri.mp.k0 za) UF);exact zq1
  .rintro⟨Si,FQ,ev,es⟩ hh ⟨ri,ai,OO,JD,HB,YK,el,IP,MI,RD⟩;simp only at ri ai OO JD HB YK el IP MI RD;have VX:=ai.k.n;have dQ:EY (DT BH l) S es Si (.done 0):=(by have:=RD [] Si (.done 0) (by rw[List.drop_of_length_le om];exact .nil);rwa[MO]at this);have oS:=hA VS es Si dQ;have ES:∀e∈es,e.Ok:=(by exact z7);have uC:CF Si es<=es.length+1:=Gm (by rw[JD.sz];omega);have bQ:=U4 (lo:=h.n) (ev:=ev) (es:=es) L (ri.k0 (AF:=FQ) (AA:=hp hh.n hh.t []) za λ_ _=>rfl) OO (el.k0 za) om (λb n c e=> .inr (by have:=IP b n c e;omega)) ES om (by rw[JD.CZ,JD.nb,JD.P,JD.A];exact oS) (by have:=JD.last;omega) om;rcases(show ev= .AS\/∃b n c,ev= .AE b 0 n c by rcases el.len with⟨_,e⟩|⟨_,b,e,_⟩;exact .inl e;exact .inr ⟨b,_,_,e⟩)with rfl|⟨eb,en,ec,rfl⟩
   all_goals
    refine Gj L (c:=bQ) (g:=?_) (gp:=?_);.rintro _ h5 ⟨AB,AF,hc,CO,BC⟩;refine ret X.f153.1 ?_;exact⟨VS,AB,AF,.ok dQ hc,CO.k0 AH λ_ _=>rfl,ai.trans ((BB.k0 (AF:=FQ) AH λ_ _=>rfl).trans (BC.trans (BB.k0 AH λ_ _=>rfl)))⟩
    .rintro _ h5 ⟨o,AB,AF,rfl,ho,hc,CO,BC⟩;refine Ax L X.f153.1 ?_;exact Gp _ _ (.inr ⟨VS,o,AB,AF,rfl,ho,.WX dQ hc ho,CO,ai.trans ((BB.k0 (AF:=FQ) AH λ_ _=>rfl).trans BC)⟩)
 .rintro _ h2 ⟨rfl,VS,k2⟩;refine Ax L X.f153.1 ?_;refine Gp _ _ (.inl ⟨rfl,VS,ext AD h.n,r.k0 k2 λb hb=>Ae hb,BB.k0 k2 λb hb=>Ae hb⟩)
structure CU (Y:Nat->Prop)(AD:Nat->Nat)(h:H)(AF:Nat->Nat)(AA:H):Prop where
 k:Kp (λb=>(1<=AD b/\AD b<200)\/Y b) h AA
 CA:∀b,b<h.n->AF b=AD b
theorem BB.x{Y:Nat->Prop}(a:BB AD h AF AA):CU Y AD h AF AA:=⟨a.k.mono λb e=> .inl e,a.CA⟩
theorem CU.own{Y:Nat->Prop}{HD:Nat->Nat}(a:BB AD h HD h1)(x:CU Y HD h1 AF AA)(hy:∀b,Y b->h.n<=b):BB AD h AF AA:=
 ⟨Kp.DZ x.k (λi hi e=>by
                rcases e with e|e;.rw[a.CA i hi]at e;exact e
                .have:=hy i e;omega) a.k,λb hl=>(x.CA b (IF hl a.k.n)).trans (a.CA b hl)⟩
theorem Hy{cp:List AV}{Y:Nat->Prop}{post:Ap->AV->(Nat->Nat)->H->Prop}{G0:Ap->Int->(Nat->Nat)->H->Prop}(r:BJ AD h I S)(ka:Bk h ab [.ptr I.s 0])(hY:∀b,Y b->b<h.n)(hc:∀BN h2,K0 h h2->h.n<h2.n->(∀b,b<h.n->BN b=AD b)->BJ BN h2 I S->CX L f (.ptr I.s 0::cp) h2 (λv AA=>∃AF AB,BJ AF AA I AB/\CU Y BN h2 AF AA/\post AB v AF AA) (λv AA=>∃AF AB e,v= .Cm 42 (AI e)/\BJ AF AA I AB/\CU Y BN h2 AF AA/\G0 AB e AF AA)):CL L 94 [.ptr ab 0,.fn (.func f) [] cp] h (λv AA=>∃AF AB h1,BJ AF AA I AB/\CU Y AD h AF AA/\Kp (λj=>j=h.n) h1 AA/\((v=Zi/\∃u,post AB u AF h1)\/(∃e,v=AI e/\G0 AB e AF h1))):=by
 have k2:K0 h (hp (h.n+1) h.t [(h.n,some (cl [Zi]))]):=AH;have KN:∀b,b<h.n->AX AD h.n 200 b=AD b:=λb hb=>CB _ _ om;have r2:BJ (AX AD h.n 200) (hp (h.n+1) h.t [(h.n,some (cl [Zi]))]) I S:=r.k0 k2 KN;have hB:¬((1<=AX AD h.n 200 h.n/\AX AD h.n 200 h.n<200)\/Y h.n):=by
  rw[Am];rintro(e|e);.omega
  .have:=hY _ e;omega
 have fin:∀AF AB h1 AA,BJ AF h1 I AB->CU Y (AX AD h.n 200) (hp (h.n+1) h.t [(h.n,some (cl [Zi]))]) AF h1->Kp (λj=>j=h.n) h1 AA->BJ AF AA I AB/\CU Y AD h AF AA:=by intro AF AB h1 AA r1 a1 k1;have n1:=a1.k.n;simp only[Ag]at n1;have hk:AF h.n=200:=(a1.CA _ Ze).trans (Am _ _ _);refine⟨r1.out k1 λb _ e=>by subst e;omega,⟨Kp.DZ k1 (λi hi e=>om) (Kp.DZ a1.k (λi hi e=>by rw[KN i hi]at e;exact e) (k2.mono λ_ f=>f.elim)),λb hb=>?_⟩⟩;rw[a1.CA b Ze,KN b hb]
 refine(Ak8 L (s:=I.s) (B:=λb=>(1<=AX AD h.n 200 b/\AX AD h.n 200 b<200)\/Y b) ka (hc _ _ k2 Ze KN r2) hB ?_ ?_).mono ?_;.rintro v AA ⟨AF,AB,-,a,-⟩;exact a.k
 .rintro v AA ⟨AF,AB,e,rfl,-,a,-⟩;exact⟨⟨e,rfl⟩,a.k⟩
 .rintro v AA (⟨rfl,u,h1,⟨AF,AB,r1,a1,p1⟩,k1⟩|⟨e,h1,rfl,⟨AF,AB,BG,he,r1,a1,p1⟩,k1⟩);.obtain⟨q1,q2⟩:=fin AF AB h1 AA r1 a1 k1;exact⟨AF,AB,h1,q1,q2,k1,.inl ⟨rfl,u,p1⟩⟩
  .obtain⟨q1,q2⟩:=fin AF AB h1 AA r1 a1 k1
   cases he;exact⟨AF,AB,h1,q1,q2,k1,.inr ⟨e,rfl,p1⟩⟩
inductive nZ (l:List Int)(g:GV)(S:Ap):Nat->Ap->Prop where
 |bad (h:Ff S.S S.down l≠0):nZ l g S (Ff S.S S.down l) S
 |run {AB:Ap} {o:WO} (h:Ff S.S S.down l=0) (ho:o= .done 0\/o= .full\/o= .pow) (a:LU g S AB o):nZ l g S (NU o) AB
theorem amc{l:List GW}{BH:Nat->List Nat}(r:BJ AD h I S)(ka:Bk h ab [.ptr I.s 0])(iw:IW S)(hS:S.S<1000)(kb:Bk h gb (l.flatMap (GL S.D.sz)))(MS:AD gb=0)(hl:l≠[])(hlen:l.length<=12)(hD:∀(i:Nat) (s:Int) (b o c:Nat),l[i]?=some (s,some (b,o,c))->BS h b o (BH b)/\AD b=0/\(BH b).length=S.D.sz)(hf:S.last<S.next/\S.next<980000000)(hn:S.D.n+4000<900000000)(hA:Ff S.S S.down (l.map (·.1))=0->∀es AB,EY (DT BH l) S es AB (.done 0)->∀j x,es[j]?=some x->QO S.S (S.D.nb*S.D.P) (GB S.A es j) x):CL L 122 [.ptr ab 0,.AE gb 0 l.length (Aa+2)] h (λv AA=>∃e AB AF,v=AN e/\nZ (l.map (·.1)) (DT BH l) S e AB/\BJ AF AA I AB/\BB AD h AF AA):=by
 have lb:=kb.lt;refine Ad L X.f122 λQ x cs G=>?_;refine wk ?_;have k1:K0 h (hp (h.n+1) h.t [(h.n,some (cl [.AE gb 0 l.length (Aa+2)]))]):=AH;have r1:BJ (ext AD h.n) (hp (h.n+1) h.t [(h.n,some (cl [.AE gb 0 l.length (Aa+2)]))]) I S:=r.k0 k1 λb hb=>Ae hb;have a1:BB AD h (ext AD h.n) (hp (h.n+1) h.t [(h.n,some (cl [.AE gb 0 l.length (Aa+2)]))]):=BB.k0 k1 λb hb=>Ae hb;have ML:Bk (hp (h.n+1) h.t [(h.n,some (cl [.AE gb 0 l.length (Aa+2)]))]) h.n [.AE gb 0 l.length (Aa+2)]:=AG;have OP:=Ab k1 kb
 have T0:∀BN h2,K0 (hp (h.n+1) h.t [(h.n,some (cl [.AE gb 0 l.length (Aa+2)]))]) h2->(hp (h.n+1) h.t [(h.n,some (cl [.AE gb 0 l.length (Aa+2)]))]).n<h2.n->(∀b,b<(hp (h.n+1) h.t [(h.n,some (cl [.AE gb 0 l.length (Aa+2)]))]).n->BN b=ext AD h.n b)->BJ BN h2 I S->CX L 153 (.ptr I.s 0::[.ptr h.n 0]) h2
   (λv AA=>∃AF AB,BJ AF AA I AB/\CU (λ_=>False) BN h2 AF AA/\(Ff S.S S.down (l.map (·.1))=0/\LU (DT BH l) S AB (.done 0)))
   (λv AA=>∃AF AB e,v= .Cm 42 (AI e)/\BJ AF AA I AB/\CU (λ_=>False) BN h2 AF AA/\∃BG:Nat,e=(BG:Int)/\nZ (l.map (·.1)) (DT BH l) S BG AB):=by
  intro BN h2 k2 n2 c2 r2
  refine(aia (BH:=BH) L r2 iw hS (Ab k2 ML) (Ab k2 OP) ⟨(c2 _ Ze).trans (B9 (BD _)),(c2 _ Ze).trans ((Ae lb).trans MS)⟩ hl hlen ?_ hf hn hA).mono ?_ ?_
  .intro i s b o c hx
   obtain⟨q1,q2,q3⟩:=hD i s b o c hx
   have:=q1.ET
   exact⟨(q1.k0 k1).k0 k2,(c2 _ Ze).trans ((Ae q1.ET).trans q2),q3⟩
  .rintro v AA ⟨q1,AB,AF,q2,q3,q4⟩
   exact⟨AF,AB,q3,q4.x,q1,q2⟩
  .rintro v AA (⟨rfl,q1,AF,q2,q3⟩|⟨q1,o,AB,AF,rfl,ho,q2,q3,q4⟩)
   .exact⟨AF,S,_,rfl,q2,q3.x,_,rfl,.bad q1⟩
   .exact⟨AF,AB,_,rfl,q3,q4.x,_,rfl,.run q1 (.inr ho) q2⟩
 refine AK ?_ (c:=Hy L r1 (Ab k1 ka) (λb e=>e.elim) T0);rintro v h2 ⟨AF,AB,h1,CO,BC,-,hv⟩;have a2:=BC.own a1 λb e=>e.elim;rcases hv with⟨rfl,u,q1,q2⟩|⟨e,rfl,BG,rfl,q⟩
 .refine ret X.f122.1 ?_;exact⟨0,AB,AF,rfl,.run q1 (.inl rfl) q2,CO.k0 AH λ_ _=>rfl,a2.trans (BB.k0 AH λ_ _=>rfl)⟩
 .refine ret X.f122.1 ?_;exact⟨BG,AB,AF,rfl,q,CO.k0 AH λ_ _=>rfl,a2.trans (BB.k0 AH λ_ _=>rfl)⟩
def Ap.rd(S:Ap)(s:Int):List Nat:=match S.A s with
 |none=>List.replicate S.D.sz 0
 |some p=>((S.D.bl (p.toNat/S.D.P)).pg (p.toNat%S.D.P)).b.take S.D.sz
theorem Aba{cs bc:Nat}{w:AV}(r:BJ AD h I S)(kc:Bk h cs [AI s])(kb:Bk h bc [w])(hs:0<=s/\s<S.S)(BZ:AD cs=0/\(AD bc=0\/200<=AD bc)/\cs≠bc)(KZ:S.down=false)(ED:S.D.off=false)(hp:∀p:Int,S.A s=some p->p.toNat/S.D.P<S.D.nb/\p.toNat%S.D.P<(S.D.bl (p.toNat/S.D.P)).nx/\(((S.D.bl (p.toNat/S.D.P)).pg (p.toNat%S.D.P)).st=2\/((S.D.bl (p.toNat/S.D.P)).pg (p.toNat%S.D.P)).st=3)):CX L 95 [.ptr I.s 0,.ptr cs 0,.ptr bc 0] h (λv AA=>Kp (λj=>j=bc) h AA/\∃b c,Bk AA bc [.AE b 0 S.D.sz c]/\BS AA b 0 (S.rd s)/\h.n<=b) (λv AA=>False):=by
 have sk:=r.sk;have DE:=r.dv.ok.g.sz;have KN:=r.CA;have YS:=r.mp.rg;have FT:=r.dv.ok.g.nb;have hPP:=r.dv.ok.g.P;have hm:S.D.nb*S.D.P<=44*6:=NB r.dv.ok.g.nb.2 om;have nbs:bc≠I.s:=λe=>by rw[<-e]at KN;omega
 unfold EX at sk;rw[KZ]at sk
 cases UF:S.A s with
 |none=>
  have er:S.rd s=List.replicate S.D.sz 0:=by unfold Ap.rd;rw[UF]
  refine Bg L X.f95 λQ x cs G Gp=>?_;refine AK ?_ (c:=Hw L (r.mp.k0 za));rintro _ rfl;refine AK ?_ (c:=A6 L);rintro _ rfl;refine AK ?_ (c:=A6 L);rintro _ rfl;refine AK ?_ (c:=Wx L (r.mp.k0 za) UF);rintro _ rfl;refine ret X.f95.1 ?_;refine⟨AH,h.n,S.D.sz,AG,?_,BD _⟩;rw[er];refine Ng ?_ (IA.rep om);rw[<-Fm];exact AG
 |some p=>
  obtain⟨q1,q2,q3⟩:=hp p UF;obtain⟨g1,g2,g3,g4⟩:=YS s p UF;obtain⟨pn,rfl⟩:=Yt g3;have er:S.rd s=((S.D.bl (pn/S.D.P)).pg (pn%S.D.P)).b.take S.D.sz:=by unfold Ap.rd;rw[UF];rfl
  rw[FL]at q1 q2 q3;refine Bg L X.f95 λQ x cs G Gp=>?_;refine AK ?_ (c:=Hw L (r.mp.k0 za));rintro _ rfl;refine AK ?_ (c:=A6 L);rintro _ rfl;refine AK ?_ (c:=A6 L);rintro _ rfl;refine AK ?_ (c:=Wy L (r.mp.k0 za) UF);rintro _ rfl;refine Gj L (c:=aco (p:=pn) L (r.k0 (AF:=AD) za λ_ _=>rfl) om q1 q2 (λ_=>q3)) (g:=?_) (gp:=?_);.rintro _ h2 ⟨-,b,rfl,w2,w3,w4⟩;simp only[Ag]at w3;have nb2:b≠bc:=om;refine ret X.f95.1 ?_;refine⟨AH,b,_,AG,?_,w3⟩;rw[er];exact EN
  .rintro _ h2 ⟨-,e,-⟩;rw[ED]at e;cases e
theorem Af2(r:BJ AD h I S)(ka:Bk h ab [.ptr I.s 0])(hs:0<=s/\s<S.S)(KZ:S.down=false)(ED:S.D.off=false)(TM:∀p:Int,S.A s=some p->p.toNat/S.D.P<S.D.nb/\p.toNat%S.D.P<(S.D.bl (p.toNat/S.D.P)).nx/\(((S.D.bl (p.toNat/S.D.P)).pg (p.toNat%S.D.P)).st=2\/((S.D.bl (p.toNat/S.D.P)).pg (p.toNat%S.D.P)).st=3)):CL L 56 [.ptr ab 0,AI s] h (λv AA=>∃AF b c,v= .BM [.AE b 0 S.D.sz c,Zi]/\BS AA b 0 (S.rd s)/\AF b=0/\h.n<=b/\BJ AF AA I S/\BB AD h AF AA):=by
 refine Ad L X.f56 λQ x cs G=>?_;refine wk ?_;have k1:K0 h (hp (h.n+1+1) h.t [(h.n+1,some (cl [.AS])),(h.n,some (cl [AI s]))]):=AH;have KD:∀b,b<h.n->AX (ext AD h.n) (h.n+1) 200 b=AD b:=λb hb=>(CB _ _ om).trans (Ae hb);have r1:BJ (AX (ext AD h.n) (h.n+1) 200) (hp (h.n+1+1) h.t [(h.n+1,some (cl [.AS])),(h.n,some (cl [AI s]))]) I S:=r.k0 k1 KD;have a1:BB AD h (AX (ext AD h.n) (h.n+1) 200) (hp (h.n+1+1) h.t [(h.n+1,some (cl [.AS])),(h.n,some (cl [AI s]))]):=BB.k0 k1 KD;have ML:Bk (hp (h.n+1+1) h.t [(h.n+1,some (cl [.AS])),(h.n,some (cl [AI s]))]) h.n [AI s]:=AG;have OP:Bk (hp (h.n+1+1) h.t [(h.n+1,some (cl [.AS])),(h.n,some (cl [AI s]))]) (h.n+1) [.AS]:=AG;have iR:=Ab k1 ka;have JE:(hp (h.n+1+1) h.t [(h.n+1,some (cl [.AS])),(h.n,some (cl [AI s]))]).n=h.n+2:=rfl
 have T0:∀BN h2,K0 (hp (h.n+1+1) h.t [(h.n+1,some (cl [.AS])),(h.n,some (cl [AI s]))]) h2->(hp (h.n+1+1) h.t [(h.n+1,some (cl [.AS])),(h.n,some (cl [AI s]))]).n<h2.n->(∀b,b<(hp (h.n+1+1) h.t [(h.n+1,some (cl [.AS])),(h.n,some (cl [AI s]))]).n->BN b=AX (ext AD h.n) (h.n+1) 200 b)->BJ BN h2 I S->CX L 95 (.ptr I.s 0::[.ptr h.n 0,.ptr (h.n+1) 0]) h2
   (λv AA=>∃AF AB,BJ AF AA I AB/\CU (λj=>j=h.n+1) BN h2 AF AA/\(AB=S/\∃b c,Bk AA (h.n+1) [.AE b 0 S.D.sz c]/\BS AA b 0 (S.rd s)/\h.n+2<b/\AF b=0))
   (λv AA=>∃AF AB e,v= .Cm 42 (AI e)/\BJ AF AA I AB/\CU (λj=>j=h.n+1) BN h2 AF AA/\False):=by
  intro BN h2 k2 n2 c2 r2
  rw[JE]at n2 c2
  have hk0:BN h.n=0:=(c2 _ om).trans ((CB _ _ om).trans (B9 (BD _)))
  have TI:BN (h.n+1)=200:=(c2 _ om).trans (Am _ _ _)
  refine(Aba L r2 (Ab k2 ML) (Ab k2 OP) hs ⟨hk0,.inr om,om⟩ KZ ED TM).mono ?_ ?_
  .rintro v AA ⟨q1,b,c,q2,q3,q4⟩
   refine⟨ext BN h2.n,S,r2.own q1 (λb _ e=>by subst e;omega) λb hb=>Ae hb,⟨q1.mono λb e=> .inr e,λb hb=>Ae hb⟩,rfl,b,c,q2,q3,om,B9 q4⟩
  .rintro v AA q;exact q.elim
 refine AK ?_ (c:=Hy L r1 iR (λb e=>by subst e;exact NQ _) T0);rintro v h2 ⟨AF,AB,h1,CO,BC,AZ,hv⟩;rw[JE]at AZ;rcases hv with⟨rfl,u,rfl,b,c,q1,q2,q3,q4⟩|⟨e,rfl,q⟩
 .have a2:=BC.own a1 λb e=>by subst e;omega
  have iv:Bk h2 (h.n+1) [.AE b 0 AB.D.sz c]:=Ao AZ om q1;have q2':BS h2 b 0 (AB.rd s):=Lw AZ om q2;have TI:AF (h.n+1)=200:=(BC.CA _ eG).trans (Am _ _ _);refine ret X.f56.1 ?_;refine⟨AF,b,c,rfl,EN,q4,om,CO.out (B:=λj=>j=h.n+1) ?_ (λb _ e=>by subst e;omega),BB.own (B:=λj=>j=h.n+1) a2 ?_ (λb e=>by subst e;omega) λ_ _=>rfl⟩;.exact AH
  .exact AH
 .exact q.elim
variable {cb:Nat}{f:OY}{G0:OF}{va MA:AV}
def ay(P:Program)(E:Env)(F:T DY)(K:HK)(f:OY)(args:List AV)(h:H)(post G0:OF):Prop:=
 ∀(Q:Nat->AV->Prop) (x:EW) (cs:FM),(∀v AA,post v AA->GO P E Q (finish v cs AA x))->(∀v AA,G0 v AA->Good P E Q ⟨Me x [(v,false)],cs,AA⟩)->GO P E Q (B6 F K f args false x cs h)
section
variable {P:Program}{Q:Nat->AV->Prop}
variable {fn:Nat}{l:CJ}{k:DO}{ds:List HN}{AL:Bool}{ro:Option Nat}{cs:FM}{gd:Option (Nat×Bool)}{x:O}{r:List CI}
variable {n:Nat}
theorem YA.Y{f:Nat}(c:YA P E F K f args h post G0):ay P E F K (.func f) args h post G0:=c
include L
theorem Ak9{d:Nat}{a:List O}{fst va cp r0:List AV}(hg:HH gd l=some true)(e:AU l x=some (.fn f fst cp))(ha:Fb l a=some va)(h0:E5 va cp=some r0)(hr:E5 fst r0=some args)(hc:ay P0 E F K f args h post G0)(g:∀v AA,post v AA->Good P0 E Q ⟨⟨fn,nt,AJ ((d,some v)::l),.ops r::k,ds,.run,AL,ro⟩,cs,hp AA.n AA.t []⟩)(gp:∀v AA,G0 v AA->Good P0 E Q ⟨⟨fn,nt,AJ l,.ops (⟨some d,gd,.LY x a⟩::r)::k,ds,.panicking [(v,false)],AL,ro⟩,cs,AA⟩):Good P0 E Q ⟨⟨fn,nt,AJ l,.ops (⟨some d,gd,.LY x a⟩::r)::k,ds,.run,AL,ro⟩,cs,h⟩:=R5 L (Az hg) (Qw e ha h0 hr) (hc Q _ cs (λv AA p=>L9 L Zt (g v AA p)) λv AA p=>gp v AA p)
theorem Abb{fst cp r0:List AV}{ps:List Nat}{a bd:CC}(e:AU l x=some (.fn f fst cp))(h0:E5 [.fn (.yield (n+1)) [] []] cp=some r0)(hr:E5 fst r0=some args)(hc:ay P0 E F K f args (hp (n+2) t ((n+1,some (.loop ⟨.ready,none,fn,nt,AJ l,ps,a,bd,n⟩))::(n,some (.EQ (some [])))::lh)) post G0)(g:∀v AA,post v AA->Good P0 E Q ⟨⟨fn,nt,AJ l,.VL (n+1)::k,.mark n::ds,.run,AL,none⟩,cs,AA⟩)(gp:∀v AA,G0 v AA->Good P0 E Q ⟨⟨fn,nt,AJ l,.XH (n+1)::k,.mark n::ds,.panicking [(v,false)],AL,none⟩,cs,AA⟩):Good P0 E Q ⟨⟨fn,nt,AJ l,.code (.rangeFunc x ps a bd)::k,ds,.run,AL,none⟩,cs,hp n t lh⟩:=by
 refine A5 L ?_;have e1:DP l x= .fn f fst cp:=Ac e;have e2:List.append fst (.fn (.yield (Nat.succ n)) [] []::cp)=args:=by have q0:=Gg h0;have q1:=Gg hr;rw[<-q0]at q1;exact q1
 simp only[Ev.step,B0,Cf,enterLoop,Ak,e1,e2];exact hc Q _ cs (λv AA p=>g v AA p) λv AA p=>gp v AA p
theorem amv{ps:List Nat}{a bd:CC}{l0 l1:CJ}{d:Nat}{st:LS}{pd:Option CC}(hl:H.get h lp=some (.loop ⟨st,pd,fn,nt,AJ l0,ps,a,bd,d⟩))(hs:C6 ps args (AJ l0)=some (AJ l1))(body:∀(Q:Nat->AV->Prop) (z:EW) (cs:FM),(∀v AA,post v AA->GO P0 E Q (finish v cs AA z))->(∀v AA,G0 v AA->Good P0 E Q ⟨Me z [(v,false)],cs,AA⟩)->Good P0 E Q ⟨⟨fn,nt,AJ l1,[.code a,.beginRound,.code bd],[],.run,false,some lp⟩,z::cs,hp h.n h.t []⟩):ay P0 E F K (.yield lp) args h post G0:=by intro Q z cs hG hP;simp only[B6,hl,hs];exact body Q z cs hG hP
end
theorem aic{a:Nat}{D:List Int}{g:Int->Int}(hlen:D.length<=1000)(I:Nat->H->Prop)(hI:∀i hh,I i hh->Bk hh a [va]/\Bk hh b [MA]/\DN hh lo va D/\DN hh lo MA (D.map g))(hK:∀i hh AA,I i hh->K0 hh AA->I i AA)(hY:∀i s hh,D[i]?=some s->I i hh->ay P0 E F K (.yield lp) [AI s,AI (g s)] hh (λu AA=>u= .bool true/\I (i+1) AA) G0)(h0:I 0 h):CX L 249 [.fn (.yield lp) [] [],.ptr a 0,.ptr b 0] h (λv AA=>I D.length AA) G0:=by
 obtain⟨k1,k2,k3,k4⟩:=hI _ _ h0;rcases k3.ex with⟨rfl,rfl⟩|⟨DL,da,rfl,k5,k6⟩;.refine Bg L X.f249 λQ x cs G Gp=>?_;refine wk ?_;refine Bi L ?_;refine ret X.f249.1 ?_;exact hK _ _ _ h0 AH
 rcases k4.ex with⟨e0,rfl⟩|⟨NJ,db,rfl,k7,k8⟩;.rw[cQ]at e0;rw[e0]at DL;exact absurd DL (jW 0)
 refine Bg L X.f249 λQ x cs G Gp=>?_;refine wk ?_;refine Bt L (α:=Unit) (T:=λi _=>[(8,some (AN i)),(7,some (AN D.length)),(6,some (.AE da 0 D.length (Aa+1))),(2,some (.ptr b 0)),(0,some (.fn (.yield lp) [] []))]) (n:=D.length) (R:=λi _ hh=>I i hh) (i0:=0) () BA (hK _ _ _ h0 AH) (CN _) ?_ ?_
 .rintro i _ h2 hi w ih;have hx:D[i]?=some D[i]:=DA hi;have hxa:(D.map AI)[i]?=some (AI D[i]):=by rw[GD,hx];rfl
  have hxb:((D.map g).map AI)[i]?=some (AI (g D[i])):=by rw[GD,GD,hx];rfl
  have UK:i<(D.map g).length:=by rw[DC];exact hi
  obtain⟨j1,j2,j3,j4⟩:=hI _ _ w;have j5:Bk h2 da (D.map AI):=by
   rcases j3.ex with⟨_,e⟩|⟨_,AR,e,e2,_⟩;.cases e
   .cases e;exact e2
  have j6:Bk h2 db ((D.map g).map AI):=by
   rcases j4.ex with⟨_,e⟩|⟨_,AR,e,e2,_⟩;.cases e
   .cases e;exact e2
  generalize D[i]=s at*;refine wk ?_;refine Ak9 L rfl rfl rfl rfl rfl (hY i _ _ hx (hK i _ _ w za)) ?_ ?_;.rintro _ h3 ⟨rfl,w3⟩;refine wk ?_;refine ih () _ _ w3 ?_;exact BA
  .intro v h3 w3;refine Ax L X.f249.1 ?_;exact Gp _ _ w3
 .rintro _ h2 w;refine ret X.f249.1 ?_;exact w
theorem z8(h:p:=by
 rintro _ h7 ⟨EG,AB,AF,rfl,ho,HC,CO,BC⟩
 refine Ax L X.f176.1 ?_
 exact Gp2 _ _ ⟨EG,AB,AF,rfl,ho,WY EG AB AF _ h7 za ho HC CO BC⟩):p:=h
inductive FG (g:Int->Int):Ap->List Int->List BI->Ap->Prop where
 |nil {S:Ap}:FG g S [] [] S
 |snoc {S S1 S2:Ap} {ps:List Int} {es:List BI} {p:Int} {q:Nat} (r:FG g S ps es S1) (h:IM (g p) (((S1.D.bl (p.toNat/S1.D.P)).pg (p.toNat%S1.D.P)).b.take S1.D.sz) S1 S2 (.done q)):FG g S (ps++[p]) (es++[(g p,(q:Int))]) S2
def Ap.mv(S:Ap)(b:Nat):List Int:=Eo S.A S.D.P b S.D.P
inductive NE (b:Nat)(S:Ap):Ap->WO->Prop where
 |bad {S1 AB:Ap} {i:Nat} {p:Int} {es:List BI} {o:WO} (m:FG (FZ S.A) S ((S.mv b).take i) es S1) (hp:(S.mv b)[i]?=some p) (h:IM (FZ S.A p) (((S1.D.bl (p.toNat/S1.D.P)).pg (p.toNat%S1.D.P)).b.take S1.D.sz) S1 AB o) (ho:o= .full\/o= .pow):NE b S AB o
 |WY {S1 AB:Ap} {es:List BI} {o:WO} (m:FG (FZ S.A) S (S.mv b) es S1) (c:HU es S1 AB o) (ho:o= .full\/o= .pow):NE b S AB o
 |ok {S1 S2:Ap} {es:List BI} (m:FG (FZ S.A) S (S.mv b) es S1) (c:HU es S1 S2 (.done 0)):NE b S (S2.BV b).1 (S2.BV b).2
theorem HU.fr{es:List BI}(h:HU es S AB o)(iw:IW S):(AB.D.nb=S.D.nb/\AB.D.P=S.D.P/\AB.D.sz=S.D.sz/\AB.D.en=S.D.en/\AB.S=S.S/\AB.pe=S.pe/\AB.wr=S.wr/\AB.HG=S.HG/\AB.D.CD=S.D.CD)/\IW AB/\AB.D.n<=S.D.n+(2*S.D.nb+2)*CF S es/\S.next<=AB.next/\AB.next<=S.next+CF S es:=by
 cases h with
 |nil h=>exact⟨⟨rfl,rfl,rfl,rfl,rfl,rfl,rfl,rfl,rfl⟩,iw,OC _ _,BD _,OC _ _⟩
 |ok h _=>obtain⟨a,b,c,d⟩:=h.fr iw;exact⟨⟨a.nb,a.P,a.sz,a.en,a.CZ,a.pe,a.wr,a.HG,a.CD⟩,⟨λk=>⟨(b.wi k).BT,(b.wi k).lo⟩,b.ne⟩,c,by simp only;omega,by simp only;omega⟩
 |bad h _=>obtain⟨a,b,c,d⟩:=h.fr iw;exact⟨⟨a.nb,a.P,a.sz,a.en,a.CZ,a.pe,a.wr,a.HG,a.CD⟩,b,c,om,om⟩
def Jl(AD:Nat->Nat)(n:Nat):Nat->Nat:=λb=>if b<n then AD b else 200
theorem Lf{n:Nat}(h:b<n):Jl AD n b=AD b:=AP h
theorem Gn{n:Nat}(h:n<=b):Jl AD n b=200:=AM om
def Nr(s cb bx a b mk:Nat)(st:LS):DV:= .loop ⟨st,none,176,o8.ntmps,AJ [(46,some (.fn (.func 249) [] [.ptr a 0,.ptr b 0])),(3,some (.ptr (bx+1) 0)),(2,some (.ptr bx 0)),(1,some (.ptr cb 0)),(0,some (.ptr s 0))],[47,48],Akz,Afc,mk⟩
structure fu (AD:Nat->Nat)(h:H)(I:Ai)(S:Ap)(FH cb a b mk:Nat)(va MA:AV)(i:Nat)(hh:H):Prop where
 ka:Bk hh a [va]
 kb:Bk hh b [MA]
 ra:DN hh (h.n+2) va (S.mv FH)
 rb:DN hh (h.n+2) MA ((S.mv FH).map (FZ S.A))
 dk:Gk hh mk (.EQ (some []))
 lp:Gk hh (mk+1) (Nr I.s cb h.n a b mk .ready)
 kx:Bk hh h.n [.ptr I.s 0]
 kc:Bk hh cb [AN FH]
 ex:∃FQ Si es ev,Bk hh (h.n+1) [ev]/\BJ FQ hh I Si/\BB AD h FQ hh/\(∀x,h.n<=x->x<mk+2->FQ x=200)/\IW Si/\FG (FZ S.A) S ((S.mv FH).take i) es Si/\PT S Si/\(Si.next<=S.next+i/\S.next<=Si.next)/\Si.D.n<=S.D.n+100*i/\EL hh (mk+2) ev es/\(∀x n c,ev= .AE x 0 n c->FQ x=200)/\es.length=i
theorem fu.k0{hh:H}{FH a mk:Nat}(q:fu AD h I S FH cb a b mk va MA i hh)(k:K0 hh AA):fu AD h I S FH cb a b mk va MA i AA:=by obtain⟨q1,q2,q3,q4,q5,q6,q7,q8,FQ,Si,es,ev,e1,e2,e3,e4,e5,e6,e7,e8,e9,oJ,e11,e12⟩:=q;have l6:=q6.lt;exact⟨Ab k q1,Ab k q2,q3.k0 k,q4.k0 k,C4 k q5,C4 k q6,Ab k q7,Ab k q8,ext FQ hh.n,Si,es,ev,Ab k e1,e2.k0 k λb hb=>Ae hb,e3.trans (BB.k0 k λb hb=>Ae hb),λx h1 h2=>(Ae om).trans (e4 x h1 h2),e5,e6,e7,e8,e9,oJ.k0 k,λx n c e=>by have h1:=e11 x n c e;subst e;exact(Ae oJ.blt.1).trans h1,e12⟩
structure jw (S:Ap)(FH:Nat)(i:Nat)(p:Int)(S1:Ap):Prop where
 pg:∃pn:Nat,p=(pn:Int)/\pn<900000000/\pn/S1.D.P<S1.D.nb/\pn%S1.D.P<(S1.D.bl (pn/S1.D.P)).nx/\(((S1.D.bl (pn/S1.D.P)).pg (pn%S1.D.P)).st=2\/((S1.D.bl (pn/S1.D.P)).pg (pn%S1.D.P)).st=3)/\(((S1.D.bl (pn/S1.D.P)).pg (pn%S1.D.P)).b.take S1.D.sz).length=S1.D.sz
 sec:0<=FZ S.A p/\FZ S.A p<=4294967294
 off:S1.D.off=false
theorem Abc(r:BJ AD h I S)(iw:IW S)(kc:Bk h cb [AN b])(MS:AD cb=0\/200<=AD cb)(hb:b<S.D.nb)(KZ:S.down=false)(SI:S.ps b=3)(UJ:S.jr (b:Int)=false)(hf:S.last<S.next/\S.next<980000000)(hn:S.D.n+4000<900000000)(hlen:(S.mv b).length<=6)(hL:∀i es S1 p,FG (FZ S.A) S ((S.mv b).take i) es S1->(S.mv b)[i]?=some p->jw S b i p S1)(hA:∀es S1,FG (FZ S.A) S (S.mv b) es S1->∀j x,es[j]?=some x->QO S.S (S.D.nb*S.D.P) (GB S.A es j) x)(SH:S.pe b<900000000)(hS:S.S<1000)(hE:∀es S1 S2,FG (FZ S.A) S (S.mv b) es S1->HU es S1 S2 (.done 0)->S2.ps b=3):CX L 176 [.ptr I.s 0,.ptr cb 0] h (λv AA=>∃AB AF,NE b S AB (.done 0)/\BJ AF AA I AB/\BB AD h AF AA) (λv AA=>∃(o:WO) (AB:Ap) (AF:Nat->Nat),v= .Cm 42 (AN (NU o))/\(o= .full\/o= .pow)/\NE b S AB o/\BJ AF AA I AB/\BB AD h AF AA):=by
 have sk:=r.sk;have ls:=sk.lt;have lc:=kc.lt;have KN:=r.CA;obtain⟨sC,po⟩:=r.po;obtain⟨M,ck,m1,m2,m3⟩:=r.mj.ex;have lm:=m1.lt;have hg:=m3 (b:Int);rw[UJ,AM W0]at hg;unfold EX at sk;rw[KZ]at sk;refine Bg L X.f176 λQ x cs G Gp=>?_;refine AK ?_ (c:=A6 L);rintro _ rfl;refine AK ?_ (c:=A6 L);rintro _ rfl;refine AK ?_ (c:=Is L (po.k0 za) hb);rintro _ rfl;rw[SI];refine wk ?_;(apply B4 rfl rfl;exact C0 (KE.int .i64) rfl rfl CH);rw[hg,cS];refine AK ?_ (c:=A6 L);rintro _ rfl;refine AK ?_ (c:=rx L (r.mp.k0 za) hb);rintro _ h2 ⟨a,AR,va,MA,rfl,w1,w2,w3,w4,w5,w6,w7⟩;refine wk ?_;have n5:=w5.n;simp only[Ag]at n5 w3 w4 w6 w7;have la:=w1.lt;have vA:=w2.lt;refine D0 L (FV:=AJ [(46,some (.fn (.func 249) [] [.ptr a 0,.ptr AR 0])),(3,some (.ptr (h.n+1) 0)),(2,some (.ptr h.n 0)),(1,some (.ptr cb 0)),(0,some (.ptr I.s 0))]) BA ?_;refine Abb L (post:=λ_ AA=>fu AD h I S b cb a AR h2.n va MA (S.mv b).length AA) (G0:=λv AA=>∃(o:WO) (AB:Ap) (AF:Nat->Nat),v= .Cm 42 (AN (NU o))/\(o= .full\/o= .pow)/\NE b S AB o/\BJ AF AA I AB/\BB AD h AF AA/\Gk AA h2.n (.EQ (some []))/\AF h2.n=200) rfl rfl rfl ?_ ?_ ?_
 .refine(aic L (g:=FZ S.A) (lo:=h.n+2) om (λi hh=>fu AD h I S b cb a AR h2.n va MA i hh) (λi hh r=>⟨r.ka,r.kb,r.ra,r.rb⟩) (λi hh AA r k=>r.k0 k) (λi s hh hx r=>?_) ?_).Y
  .obtain⟨r1,r2,r3,r4,r5,r6,r7,r8,FQ,Si,es,ev,r9,ri,ai,PD,OO,ZP,JD,HB,ZE,el,IP,MI⟩:=r;have hle:=r6.e;unfold Nr at hle;have g1:=r1.lt;have g2:=r2.lt;have g5:=r5.lt;have g6:=r6.lt;have g7:=r7.lt;have g8:=r8.lt;have g9:=r9.lt;have hi:=(FE.1 hx).1;obtain⟨⟨pn,rfl,p1,p2,p3,p4,p5⟩,bZ,ED⟩:=hL i es Si s ZP hx;have XE:=Pb Si false;have th:=ri.dv.ok.g.nb;have abw:((pn:Int)).toNat=pn:=FL pn;have e1:(S.mv b).take (i+1)=(S.mv b).take i++[(pn:Int)]:=ph;have ait:FQ cb=AD cb:=ai.CA cb lc;refine amv L (l1:=[(48,some (AI (FZ S.A (pn:Int)))),(47,some (AN pn)),(46,some (.fn (.func 249) [] [.ptr a 0,.ptr AR 0])),(3,some (.ptr (h.n+1) 0)),(2,some (.ptr h.n 0)),(1,some (.ptr cb 0)),(0,some (.ptr I.s 0))]) hle rfl ?_;intro Q z2 cs G2 Gp2;refine wk ?_;refine Dh L (Gk.e CS) ?_;have uj:Kp (λj=>j=h2.n+1) hh (hp hh.n hh.t [(h2.n+1,some (Nr I.s cb h.n a AR h2.n .busy))]):=AH;have YL:∀x,x<hh.n->ext FQ hh.n x=FQ x:=λx hx=>Ae hx;have ael:∀h6,Kp (λj=>j=h2.n+1) hh h6->BJ (ext FQ hh.n) h6 I Si:=λh6 k6=>ri.own k6 (λj hj e=>by subst e;rw[PD _ om om];omega) YL
   have ldc:∀h5,Kp (λj=>j=h2.n+1) hh h5->CX L 99 [.ptr I.s 0,AN pn] h5
     (λv AA=>∃b1,v= .AE b1 0 Si.D.sz (Aa+1)/\BS AA b1 0 (((Si.D.bl (pn/Si.D.P)).pg (pn%Si.D.P)).b.take Si.D.sz)/\hh.n<=b1/\K0 h5 AA) (λv AA=>False):=λh5 k5=>
    (aco L (ael h5 k5) p1 p2 p3 (λ_=>p4)).mono (λv AA q=>let⟨_,b1,q2,q3,q4,q5⟩:=q;⟨b1,q2,q3,EM k5.n q4,q5⟩) λv AA q=>by rw[ED]at q;exact absurd q.2.1 W0
   have stc:∀h6 b1,Kp (λj=>j=h2.n+1) hh h6->hh.n<=b1->BS h6 b1 0 (((Si.D.bl (pn/Si.D.P)).pg (pn%Si.D.P)).b.take Si.D.sz)->CX L 155 [.ptr I.s 0,AI (FZ S.A (pn:Int)),.AE b1 0 Si.D.sz (Aa+1)] h6
     (λv AA=>∃p AB AF,v= .agg [AI (FZ S.A (pn:Int)),AN p]/\IM (FZ S.A (pn:Int)) (((Si.D.bl (pn/Si.D.P)).pg (pn%Si.D.P)).b.take Si.D.sz) Si AB (.done p)/\BJ AF AA I AB/\BB (ext FQ hh.n) h6 AF AA)
     (λv AA=>∃(o:WO) (AB:Ap) (AF:Nat->Nat),v= .Cm 42 (AN (NU o))/\(o= .full\/o= .pow)/\IM (FZ S.A (pn:Int)) (((Si.D.bl (pn/Si.D.P)).pg (pn%Si.D.P)).b.take Si.D.sz) Si AB o/\BJ AF AA I AB/\BB (ext FQ hh.n) h6 AF AA):=λh6 b1 k6 TA ss=>
    Y3 L (ael h6 k6) (OO.wi false) bZ ⟨om,om⟩ ss (B9 TA) p5 om
   have n6:∀x,h.n<=x->x<h2.n+2->¬(1<=ext FQ hh.n x/\ext FQ hh.n x<200):=λx q1 q2=>by rw[YL _ om,PD x q1 q2];omega
   have nc6:¬(1<=ext FQ hh.n cb/\ext FQ hh.n cb<200):=(by rw[YL _ om,ait];omega);have ap5:Gk (hp hh.n hh.t [(h2.n+1,some (Nr I.s cb h.n a AR h2.n .busy))]) (h2.n+1) (Nr I.s cb h.n a AR h2.n .busy):=D5 om
   have eV:∀(p:Nat) (AB:Ap) (AF:Nat->Nat) (h6 h7 h9:H) (w:AV) (N:Nat),Kp (λj=>j=h2.n+1) hh h6->IM (FZ S.A (pn:Int)) (((Si.D.bl (pn/Si.D.P)).pg (pn%Si.D.P)).b.take Si.D.sz) Si AB (.done p)->BJ AF h7 I AB->BB (ext FQ hh.n) h6 AF h7->Kp (λj=>j=h2.n+1\/j=h.n+1\/∃n c,ev= .AE j 0 n c) h7 h9->EL h9 (h2.n+2) w (es++[(FZ S.A (pn:Int),(p:Int))])->h7.n<=N->w= .AE N 0 (es.length+1) (Aa+2)->
     Gk h9 (h2.n+1) (Nr I.s cb h.n a AR h2.n .ready)->Bk h9 (h.n+1) [w]->fu AD h I S b cb a AR h2.n va MA (i+1) h9:=by
    intro p AB AF h6 h7 h9 w N k6 HC CO BC k9 ai3 hN hw tY hec
    obtain⟨f1,f2,f3,f4⟩:=HC.fr OO
    have nn1:=BC.k.n
    have nn0:=k6.n
    have VX:=ai.k.n
    have dV:∀j n c,ev= .AE j 0 n c->j<hh.n/\h2.n+2<=j/\FQ j=200:=by
     intro j n c e
     have Zz:=IP j n c e
     subst e
     exact⟨el.blt.1,el.blt.2,Zz⟩
    have kk:∀x,x<hh.n->¬(1<=ext FQ hh.n x/\ext FQ hh.n x<200)->x≠h2.n+1->x≠h.n+1->x<h2.n+2->(¬(λj=>j=h2.n+1) x)/\(¬(1<=ext FQ hh.n x/\ext FQ hh.n x<200))/\¬(x=h2.n+1\/x=h.n+1\/∃n c,ev= .AE x 0 n c):=by
     intro x q1 q2 q3 q4 q5
     refine⟨q3,q2,?_⟩
     rintro(e|e|⟨n,c,e⟩)
     .exact q3 e
     .exact q4 e
     .have:=dV x n c e;omega
    have qV:∀x c,Bk hh x c->h.n<=x->x≠h2.n+1->x≠h.n+1->x<h2.n+2->Bk h9 x c:=λx c q q1 q2 q3 q4=>
     have t:=kk x q.lt (n6 x q1 q4) q2 q3 q4
     Ao k9 t.2.2 (Ao BC.k t.2.1 (Ao k6 t.1 q))
    have mvR:∀v D,DN hh (h.n+2) v D->(∀x n c,v= .AE x 0 n c->x<h2.n)->DN h9 (h.n+2) v D:=by
     intro v D q hb
     rcases q.ex with q1|⟨q1,x,q2,q3,q4⟩
     .exact⟨.inl q1⟩
     .have:=hb _ _ _ q2
      exact⟨.inr ⟨q1,x,q2,qV x _ q3 om om om om,q4⟩⟩
    have tk:=kk h2.n om (n6 _ om om) om om om
    have tc:=kk cb om nc6 om om om
    refine⟨qV a _ r1 om om om om,qV AR _ r2 om om om om,mvR _ _ r3 w3.bd,mvR _ _ r4 w4.bd,Jw k9 tk.2.2 (Jw BC.k tk.2.1 (Jw k6 tk.1 r5)),tY,qV h.n _ r7 om om om om,Ao k9 tc.2.2 (Ao BC.k tc.2.1 (Ao k6 tc.1 r8)),AX AF N 200,AB,_,w,hec,CO.own k9 (λj hj e=>?_) (λj hj=>CB _ _ om),?_,λx q1 q2=>?_,f2,?_,JD.trans f1,⟨om,om⟩,by have:=JD.nb;omega,ai3,λx n c e=>?_,by simp[MI]⟩
    .have NI:j<hh.n/\ext FQ hh.n j=200:=by
      rcases e with rfl|rfl|⟨n,c,e⟩
      .exact⟨om,by rw[YL _ om,PD _ om om]⟩
      .exact⟨om,by rw[YL _ om,PD _ om om]⟩
      .have:=dV j n c e
       exact⟨this.1,by rw[YL _ this.1];exact this.2.2⟩
     rw[BC.CA j om,NI.2];omega
    .refine BB.own (BB.trans (BB.own ai k6 (λj e=>by subst e;omega) YL) BC) k9 (λj e=>?_) λj hj=>CB _ _ om
     rcases e with rfl|rfl|⟨n,c,e⟩
     .omega
     .omega
     .have:=dV j n c e;omega
    .rw[CB _ _ om,BC.CA x om,YL _ om];exact PD x q1 q2
    .rw[e1];exact .snoc ZP (by rw[abw];exact HC)
    .rw[hw]at e;cases e;exact Am _ _ _
   have WY:∀(EG:WO) (AB:Ap) (AF:Nat->Nat) (h6 h7:H),Kp (λj=>j=h2.n+1) hh h6->(EG= .full\/EG= .pow)->IM (FZ S.A (pn:Int)) (((Si.D.bl (pn/Si.D.P)).pg (pn%Si.D.P)).b.take Si.D.sz) Si AB EG->BJ AF h7 I AB->BB (ext FQ hh.n) h6 AF h7->
     NE b S AB EG/\BJ AF h7 I AB/\BB AD h AF h7/\Gk h7 h2.n (.EQ (some []))/\AF h2.n=200:=by
    intro EG AB AF h6 h7 k6 ho HC CO BC
    have nn0:=k6.n
    have VX:=ai.k.n
    refine⟨.bad ZP hx (by rw[abw];exact HC) ho,CO,(BB.own ai k6 (λj e=>by subst e;omega) YL).trans BC,Jw BC.k (n6 _ om om) (Jw k6 om r5),?_⟩
    rw[BC.CA _ om,YL _ om];exact PD _ om om
   rcases el.len with⟨e0,rfl⟩|⟨HM,eb,rfl,TA,air⟩
   .subst e0;refine Gj L (c:=ldc _ za) (g:=?_) (gp:=?_)
    .rintro _ h6 ⟨b1,rfl,q3,q4,q5⟩;have k6:Kp (λj=>j=h2.n+1) hh h6:=AH;have eS:=q5.n;simp only[Ag]at eS;have qK:=q3.ET;refine Gj L (c:=stc _ b1 za q4 (by exact EN)) (g:=?_) (gp:=?_)
     .rintro _ h7 ⟨p,AB,AF,rfl,HC,CO,BC⟩;have n7:=BC.k.n;simp only[Ag]at n7;have ur:Bk h7 (h.n+1) [.AS]:=Ao BC.k (n6 _ om om) uc;have mT:Gk h7 (h2.n+1) (Nr I.s cb h.n a AR h2.n .busy):=Jw BC.k (n6 _ om om) XJ;unfold Nr at mT;have le7:=ur.lt;have ll7:=mT.lt;refine wk ?_;(apply H8 L rfl rfl;exact D1 (new:=A2 (FZ S.A (pn:Int),(p:Int))) rfl rfl (CG.of (c:=A2 (FZ S.A (pn:Int),(p:Int))) AG (BD _) rfl) om om);refine wk ?_;refine D8 L (Gk.e CS) G2 ⟨rfl,eV p AB AF _ h7 _ _ (h7.n+1) ?_ HC CO BC (Kp.mono (S:=λj=>j=h2.n+1\/j=h.n+1) (λj e=>by rcases e with e|e;exact .inl e;exact .inr (.inl e)) ?_) (EL.app (l:=[]) ?_ om rfl) om rfl ?_ ?_⟩;.exact AH
      .exact AH
      .exact AG
      .unfold Nr;exact D5 om
      .exact AG
     .exact z8
    .intro v h6 q;exact q.elim
   .have lbe:=TA.lt;have Zz:=IP eb _ _ rfl;refine Gj L (c:=ldc _ za) (g:=?_) (gp:=?_)
    .rintro _ h6 ⟨b1,rfl,q3,q4,q5⟩;have k6:Kp (λj=>j=h2.n+1) hh h6:=AH;have eS:=q5.n;simp only[Ag]at eS;have qK:=q3.ET;refine Gj L (c:=stc _ b1 za q4 (by exact EN)) (g:=?_) (gp:=?_)
     .rintro _ h7 ⟨p,AB,AF,rfl,HC,CO,BC⟩;have n7:=BC.k.n;simp only[Ag]at n7;have ur:Bk h7 (h.n+1) [.AE eb 0 es.length (Aa+2)]:=Ao BC.k (n6 _ om om) uc;have mT:Gk h7 (h2.n+1) (Nr I.s cb h.n a AR h2.n .busy):=Jw BC.k (n6 _ om om) XJ;unfold Nr at mT;have le7:=ur.lt;have ll7:=mT.lt;have hb7:Bk h7 eb (es.flatMap A2):=Ao BC.k (by rw[YL _ om];omega) uc;have lb7:=hb7.lt;refine wk ?_;(apply H8 L rfl rfl;exact D7 (old:=es.flatMap A2) (new:=A2 (FZ S.A (pn:Int),(p:Int))) rfl rfl (CG.of (c:=es.flatMap A2) AG (by rw[Bm];omega) pW) (CG.of (c:=A2 (FZ S.A (pn:Int),(p:Int))) AG (BD _) rfl) om om rfl);refine wk ?_;refine D8 L (Gk.e CS) G2 ⟨rfl,eV p AB AF _ h7 _ _ (h7.n+1) ?_ HC CO BC (Kp.mono (S:=λj=>j=h2.n+1\/j=h.n+1\/j=eb) (λj e=>by rcases e with e|e|e;exact .inl e;exact .inr (.inl e);exact .inr (.inr ⟨_,_,by rw[e]⟩)) ?_) (EL.app (l:=es) ?_ om rfl) om rfl ?_ ?_⟩;.exact AH
      .exact AH
      .exact AG
      .unfold Nr;exact D5 om
      .exact AG
     .exact z8
    .intro v h6 q;exact q.elim
  .refine⟨AG,AG,w3.k0 ?_,w4.k0 ?_,CS,(by unfold Nr;exact CS),by exact AG,by exact AG,Jl AD h.n,S,[],.AS,by exact AG,r.k0 ?_ λx hx=>Lf hx,BB.k0 ?_ λx hx=>Lf hx,λx q1 q2=>Gn q1,iw,.nil,PT.refl _,⟨om,BD _⟩,om,EL.nil _ _,(by intro x n c e;cases e),rfl⟩;.exact AH
   .exact AH
   .exact AH
   .exact AH
 .rintro v h3 ⟨r1,r2,r3,r4,r5,r6,r7,r8,FQ,Si,es,ev,r9,ri,ai,PD,OO,ZP,JD,HB,ZE,el,IP,MI⟩;rw[NA]at ZP;have hle:=r6.e;unfold Nr at hle;have g5:=r5.lt;have g6:=r6.lt;have g7:=r7.lt;have g8:=r8.lt;have g9:=r9.lt;have ap8:=r.lt;have VX:=ai.k.n;have th:=ri.dv.ok.g.nb;have aqf:=ri.dv.ok.g.sz;have oS:=hA es Si ZP;have ES:∀e∈es,e.Ok:=by exact z7
  have uC:CF Si es<=es.length+1:=Gm om;have hmul:(2*Si.D.nb+2)*CF Si es<=90*7:=NB om om;refine Hv L (n:=h3.n) (t:=h3.t) (lh:=[]) hle W1 ?_;have alz:∀h5,Kp (λj=>j=h2.n+1) h3 h5->BJ (ext FQ h3.n) h5 I Si:=λh6 k6=>ri.own k6 (λj hj e=>by subst e;rw[PD _ om om];omega) λx hx=>Ae hx;have aba:∀h5,Kp (λj=>j=h2.n+1) h3 h5->BB AD h (ext FQ h3.n) h5:=λh6 k6=>BB.own ai k6 (λj e=>by subst e;omega) λx hx=>Ae hx;have cmc:∀h5,Kp (λj=>j=h2.n+1) h3 h5->EL h5 (h2.n+2) ev es->_:=λh5 k5 el5=>U4 (lo:=h2.n+2) (ev:=ev) (es:=es) L (alz h5 k5) OO el5 om (λx n c e=> .inr (by have Zz:=IP x n c e;subst e;rw[Ae el.blt.1];omega)) ES om (by rw[JD.CZ,JD.nb,JD.P,JD.A];exact oS) (by have:=JD.last;omega) om;have kcb:∀NR h5 h6 MP,(∀x,x<h3.n->NR x=FQ x)->BB NR h5 MP h6->Kp (λj=>j=h2.n+1) h3 h5->Bk h6 h.n [.ptr I.s 0]/\Bk h6 cb [AN b]/\Gk h6 h2.n (.EQ (some []))/\MP h2.n=200:=by
   intro NR h5 h6 MP hc a k;have YM:FQ cb=AD cb:=ai.CA cb lc;refine⟨Ao a.k ?_ (Ao k om r7),Ao a.k ?_ (Ao k om r8),Jw a.k ?_ (Jw k om r5),?_⟩;.rw[hc _ om,PD _ om om];omega
   .rw[hc _ om];omega
   .rw[hc _ om,PD _ om om];omega
   .have:=k.n;rw[a.CA _ om,hc _ om,PD _ om om]
  have el3:=el;rcases(show ev= .AS\/∃b n c,ev= .AE b 0 n c by rcases el.len with⟨_,e⟩|⟨_,b,e,_⟩;exact .inl e;exact .inr ⟨b,_,_,e⟩)with rfl|⟨eb,en,ec,rfl⟩
  all_goals
   refine Gj L (c:=cmc _ za (el3.kS (S:=λj=>j=h2.n+1) za mF)) (g:=?_) (gp:=?_)
   .rintro _ h5 ⟨S2,BN,hc,CO,BC⟩;obtain⟨⟨f1,f2,f3,f4,f5,f6,f7,f8,f9⟩,iw2,f10,f11,f12⟩:=hc.fr OO;obtain⟨x1,x2,x3,x4⟩:=kcb _ _ _ _ (λx hx=>Ae hx) BC za;have a2:BB AD h BN h5:=(aba _ za).trans BC;have ajn:=hE es Si S2 ZP hc;have l1:=x1.lt;have l2:=x2.lt;have l3:=x3.lt;refine Gj L (c:=U2 (b:=b) L (CO.k0 (AF:=BN) za λ_ _=>rfl) (by rw[f1,JD.nb];exact hb) (.inr ajn) (by rw[f6,JD.pe];exact SH) om) (g:=?_) (gp:=?_)
    .rintro _ h6 ⟨q1,MP,q2,q3⟩;have TJ:Gk h6 h2.n (.EQ (some [])):=Jw q3.k om XJ;have hk6:MP h2.n=200:=(q3.CA _ Ze).trans x4;have hl6:=TJ.lt;have a6:BB AD h MP h6:=a2.trans ((BB.k0 (AF:=BN) za λ_ _=>rfl).trans q3);have hm:=NE.ok ZP hc;rw[q1]at hm;refine wk ?_;refine A5 L (show Good P0 E Q ⟨⟨_,_,_,_,_,.returning,false,none⟩,_,_⟩from ?_);refine Ex L W1 (Gk.e CS) ?_;refine C1 L X.f176.1 (Fl rfl) G ⟨_,MP,hm,q2.out (B:=λj=>j=h2.n) ?_ (λj _ e=>by subst e;omega),BB.own (B:=λj=>j=h2.n) a6 ?_ (λj e=>by subst e;omega) λ_ _=>rfl⟩;.exact AH
     .exact AH
    .rintro _ h6 ⟨rfl,q1,MP,q2,q3⟩;have TJ:Gk h6 h2.n (.EQ (some [])):=Jw q3.k om XJ;have hk6:MP h2.n=200:=(q3.CA _ Ze).trans x4;have hl6:=TJ.lt;have a6:BB AD h MP h6:=a2.trans ((BB.k0 (AF:=BN) za λ_ _=>rfl).trans q3);have hm:=NE.ok ZP hc;rw[q1]at hm;refine Ex L (n:=h6.n) (t:=h6.t) (lh:=[]) W1 TJ.e ?_;refine Ax L X.f176.1 ?_;refine Gp _ _ ⟨.pow,_,MP,rfl,.inr rfl,hm,q2.out (B:=λj=>j=h2.n) ?_ (λj _ e=>by subst e;omega),BB.own (B:=λj=>j=h2.n) a6 ?_ (λj e=>by subst e;omega) λ_ _=>rfl⟩;.exact AH
     .exact AH
   .rintro _ h5 ⟨o,S2,BN,rfl,ho,hc,CO,BC⟩;obtain⟨x1,x2,x3,x4⟩:=kcb _ _ _ _ (λx hx=>Ae hx) BC za;refine Ex L (n:=h5.n) (t:=h5.t) (lh:=[]) W1 x3.e ?_;have hl3:=x3.lt;refine Ax L X.f176.1 ?_;refine Gp _ _ ⟨o,S2,BN,rfl,ho,.WY ZP hc ho,CO.out (B:=λj=>j=h2.n) ?_ (λj _ e=>by subst e;omega),BB.own (B:=λj=>j=h2.n) ((aba _ za).trans BC) ?_ (λj e=>by subst e;omega) λ_ _=>rfl⟩;.exact AH
    .exact AH
 .rintro v h3 ⟨o,AB,AF,rfl,ho,hm,CO,BC,gk,TJ⟩;refine Ex L (n:=h3.n) (t:=h3.t) (lh:=[]) W1 gk.e ?_;have hl3:=gk.lt;refine Ax L X.f176.1 ?_;refine Gp _ _ ⟨o,AB,AF,rfl,ho,hm,CO.out (B:=λj=>j=h2.n) ?_ (λj _ e=>by subst e;omega),BB.own (B:=λj=>j=h2.n) BC ?_ (λj e=>by subst e;omega) λ_ _=>rfl⟩;.exact AH
  .exact AH
theorem nV(h:p:=by
 refine wk ?_
 refine Jg L rfl rfl rfl rfl rfl (Gv L) ?_
 rintro _ h4 ⟨rfl,rfl⟩
 refine Ax L X.f176.1 ?_
 exact G _ _ ⟨rfl,AH⟩):p:=h
theorem amy{x:Int}(r:BJ AD h I S)(kc:Bk h cb [AI x])(hb:¬(0<=x/\x<S.D.nb)):CP L 176 [.ptr I.s 0,.ptr cb 0] h λv AA=>v= .Cm 42 (AN 3)/\K0 h AA:=by
 have sk:=r.sk;unfold EX at sk;by_cases c1:x<0;.refine Ey L X.f176 λQ x cs G=>?_;exact nV
 .refine Ey L X.f176 λQ x cs G=>?_;exact nV
theorem Abd(r:BJ AD h I S)(kc:Bk h cb [AN b])(hb:b<S.D.nb)(KZ:S.down=false)(hs:S.ps b≠3\/S.jr (b:Int)=true):CP L 176 [.ptr I.s 0,.ptr cb 0] h λv AA=>v= .Cm 42 (AN 8)/\K0 h AA:=by
 have sk:=r.sk;obtain⟨sC,po⟩:=r.po;obtain⟨M,ck,m1,m2,m3⟩:=r.mj.ex;have hg:=m3 (b:Int);unfold EX at sk;rw[KZ]at sk;by_cases h3:S.ps b=3;.have UJ:S.jr (b:Int)=true:=hs.resolve_left λq=>q h3;rw[UJ,AP rfl]at hg;refine Ey L X.f176 λQ x cs G=>?_;refine AK ?_ (c:=A6 L);rintro _ rfl;refine AK ?_ (c:=A6 L);rintro _ rfl;refine AK ?_ (c:=Is L (po.k0 za) hb);rintro _ rfl;rw[h3];refine wk ?_;(apply B4 rfl rfl;exact C0 (KE.int .i64) rfl rfl CH);rw[hg,MC];exact nV
 .refine Ey L X.f176 λQ x cs G=>?_;refine AK ?_ (c:=A6 L);rintro _ rfl;refine AK ?_ (c:=A6 L);rintro _ rfl;refine AK ?_ (c:=Is L (po.k0 za) hb);rintro _ rfl;exact nV
inductive fq (x:Int)(S:Ap):Nat->Ap->Prop where
 |Ym (h:¬(0<=x/\x<S.D.nb)):fq x S 3 S
 |st {b:Nat} (e:x=(b:Int)) (hb:b<S.D.nb) (h:S.ps b≠3\/S.jr (b:Int)=true):fq x S 8 S
 |run {b:Nat} {AB:Ap} {o:WO} (e:x=(b:Int)) (hb:b<S.D.nb) (h1:S.ps b=3) (h2:S.jr (b:Int)=false) (ho:o= .done 0\/o= .full\/o= .pow) (m:NE b S AB o):fq x S (NU o) AB
theorem ade{y:Int}(r:BJ AD h I S)(ka:Bk h ab [.ptr I.s 0])(iw:IW S)(KZ:S.down=false)(hf:S.last<S.next/\S.next<980000000)(hn:S.D.n+4000<900000000)(hS:S.S<1000)(hM:∀b:Nat,y=(b:Int)->b<S.D.nb->S.ps b=3->S.jr (b:Int)=false->(S.mv b).length<=6/\S.pe b<900000000/\(∀i es S1 p,FG (FZ S.A) S ((S.mv b).take i) es S1->(S.mv b)[i]?=some p->jw S b i p S1)/\(∀es S1,FG (FZ S.A) S (S.mv b) es S1->∀j y,es[j]?=some y->QO S.S (S.D.nb*S.D.P) (GB S.A es j) y)/\(∀es S1 S2,FG (FZ S.A) S (S.mv b) es S1->HU es S1 S2 (.done 0)->S2.ps b=3)):CL L 149 [.ptr ab 0,AI y] h (λv AA=>∃e AB AF,v=AN e/\fq y S e AB/\BJ AF AA I AB/\BB AD h AF AA):=by
 refine Ad L X.f149 λQ x cs G=>?_;refine wk ?_;have k1:K0 h (hp (h.n+1) h.t [(h.n,some (cl [AI y]))]):=AH;have r1:BJ (ext AD h.n) (hp (h.n+1) h.t [(h.n,some (cl [AI y]))]) I S:=r.k0 k1 λb hb=>Ae hb;have a1:BB AD h (ext AD h.n) (hp (h.n+1) h.t [(h.n,some (cl [AI y]))]):=BB.k0 k1 λb hb=>Ae hb;have ML:Bk (hp (h.n+1) h.t [(h.n,some (cl [AI y]))]) h.n [AI y]:=AG
 have T0:∀BN h2,K0 (hp (h.n+1) h.t [(h.n,some (cl [AI y]))]) h2->(hp (h.n+1) h.t [(h.n,some (cl [AI y]))]).n<h2.n->(∀b,b<(hp (h.n+1) h.t [(h.n,some (cl [AI y]))]).n->BN b=ext AD h.n b)->BJ BN h2 I S->CX L 176 (.ptr I.s 0::[.ptr h.n 0]) h2
   (λv AA=>∃AF AB,BJ AF AA I AB/\CU (λ_=>False) BN h2 AF AA/\fq y S 0 AB)
   (λv AA=>∃AF AB e,v= .Cm 42 (AI e)/\BJ AF AA I AB/\CU (λ_=>False) BN h2 AF AA/\∃BG:Nat,e=(BG:Int)/\fq y S BG AB):=by
  intro BN h2 k2 n2 c2 r2
  have hk:BN h.n=0:=(c2 _ Ze).trans (B9 (BD _))
  by_cases hr:0<=y/\y<S.D.nb
  .obtain⟨b,rfl⟩:=Yt hr.1
   by_cases hs:S.ps b≠3\/S.jr (b:Int)=true
   .refine(Abd L r2 (Ab k2 ML) om KZ hs).Xc.mono (λv AA q=>q) ?_
    rintro v AA ⟨rfl,k3⟩
    exact⟨ext BN h2.n,S,_,rfl,r2.k0 k3 λb hb=>Ae hb,(BB.k0 k3 λb hb=>Ae hb).x,_,rfl,.st rfl om hs⟩
   .have h3:S.ps b=3:=nC λq=>hs (.inl q)
    have hj:S.jr (b:Int)=false:=Yw.2 λq=>hs (.inr q)
    obtain⟨m1,m2,m3,m4,m5⟩:=hM b rfl om h3 hj
    refine(Abc L r2 iw (Ab k2 ML) (.inl hk) om KZ h3 hj hf hn m1 m3 m4 m2 hS m5).mono ?_ ?_
    .rintro v AA ⟨AB,AF,q1,q2,q3⟩
     exact⟨AF,AB,q2,q3.x,.run rfl om h3 hj (.inl rfl) q1⟩
    .rintro v AA ⟨o,AB,AF,rfl,ho,q1,q2,q3⟩
     exact⟨AF,AB,_,rfl,q2,q3.x,_,rfl,.run rfl om h3 hj (.inr ho) q1⟩
  .refine(amy L r2 (Ab k2 ML) hr).Xc.mono (λv AA q=>q) ?_
   rintro v AA ⟨rfl,k3⟩
   exact⟨ext BN h2.n,S,_,rfl,r2.k0 k3 λb hb=>Ae hb,(BB.k0 k3 λb hb=>Ae hb).x,_,rfl,.Ym hr⟩
 refine AK ?_ (c:=Hy L r1 (Ab k1 ka) (λb e=>e.elim) T0);rintro v h2 ⟨AF,AB,h1,CO,BC,-,hv⟩;have a2:=BC.own a1 λb e=>e.elim;rcases hv with⟨rfl,u,q1⟩|⟨e,rfl,BG,rfl,q⟩
 .refine ret X.f149.1 ?_;exact⟨0,AB,AF,rfl,q1,CO.k0 AH λ_ _=>rfl,a2.trans (BB.k0 AH λ_ _=>rfl)⟩
 .refine ret X.f149.1 ?_;exact⟨BG,AB,AF,rfl,q,CO.k0 AH λ_ _=>rfl,a2.trans (BB.k0 AH λ_ _=>rfl)⟩
theorem zq0(h:p:=by
 have wj6:Bk h6 jb (J.map AI):=Ao a6.k (by rw[aH];omega) uc
 have hj6:MP jb=0:=(a6.CA jb Ze).trans aH
 refine wk ?_
 refine Bt L (α:=Ap×(Nat->Nat)) (T:=λi _=>[(45,some (AN i)),(44,some (AN J.length)),(43,some (.AE jb 0 J.length (Aa+1))),(0,some (.ptr I.s 0))]) (n:=J.length)
  (R:=λi s hh=>BJ s.2 hh I s.1/\BB AD h s.2 hh/\KB (J.take i) S1 s.1 (.done 0)/\Bk hh jb (J.map AI)/\s.2 jb=0) (i0:=0) (S1,MP) BA
  ⟨r6.k0 za λ_ _=>rfl,a7.trans (BB.k0 za λ_ _=>rfl),.nil,by exact AG,hj6⟩ (CN _) ?_ ?_
 .rintro i ⟨Si,FQ⟩ hh hi ⟨ri,ai,dL,kj,TB⟩ ih
  simp only at ri ai dL TB
  have hx:J[i]?=some J[i]:=DA hi
  obtain⟨b,hy,q1,q2,q3,q4⟩:=hE D J S1 i Si hD RK hJ dL _ hx
  rw[hy]at hx
  have hja:(J.map AI)[i]?=some (AN b):=by rw[GD,hx];rfl
  have JG:J.take (i+1)=J.take i++[(b:Int)]:=by rw[LO,hx];rfl
  have bf:J=J.take i++((b:Int)::J.drop (i+1)):=by
   have h1:=(fK i J).symm
   rw[ST hi,hy]at h1
   exact h1
  have lj:=kj.lt
  refine Gj L (c:=U2 (b:=b) L (ri.k0 (AF:=FQ) za λ_ _=>rfl) q1 q2 q3 q4) (g:=?_) (gp:=?_)
  .rintro _ h7 ⟨g1,jc,r7,a8⟩
   have a9:BB AD h jc h7:=ai.trans ((BB.k0 (AF:=FQ) za λ_ _=>rfl).trans a8)
   have kj7:Bk h7 jb (J.map AI):=Ao a8.k (by rw[TB];omega) uc
   have hc7:jc jb=0:=(a8.CA jb Ze).trans TB
   obtain⟨afw,ck7,o1,o2,o3⟩:=r7.mj.ex
   have lo1:=o1.lt
   have mz:=r7.sk
   have ls7:=mz.lt
   have abv:=r7.CA
   have nsj:I.s≠I.rj:=λe=>by rw[e]at abv;omega
   have njj:jb≠I.rj:=λe=>by rw[<-e]at abv;omega
   have lj7:=kj7.lt
   unfold EX at mz
   refine wk ?_
   (apply Kk L rfl;exact Md (KE.int .i64) o2 rfl rfl CH;rfl)
   have k8:Kp (λj=>j=I.rj) h7 (hp h7.n h7.t [(I.rj,some (.map ((Jx afw (b:Int)).map (mE AI)) ck7))]):=AH
   have r8:=r7.acz k8 (LX.del (k:=(b:Int)) CH o2 o3)
   have QH:BB AD h jc _:=a9.trans (BB.kp k8 λj _ e=>by subst e;omega)
   refine wk ?_
   refine ih ({(Si.BV b).1 with jr:=Be (Si.BV b).1.jr (b:Int) false},jc) _ _ ⟨r8.k0 ?_ λ_ _=>rfl,QH.trans (BB.k0 ?_ λ_ _=>rfl),?_,?_,hc7⟩ BA
   .exact AH
   .exact AH
   .rw[JG];exact dL.app rfl (.cons g1 .nil)
   .exact AG
  .rintro _ h7 ⟨rfl,g1,jc,r7,a8⟩
   refine Ax L X.f180.1 ?_
   exact Gp _ _ ⟨.pow,_,jc,rfl,.inr rfl,.run hD RK hJ (by rw[bf];exact dL.app rfl (.bad g1)),r7,ai.trans ((BB.k0 (AF:=FQ) AH λ_ _=>rfl).trans a8)⟩
 .rintro⟨Si,FQ⟩ hh ⟨ri,ai,dL,kj,TB⟩
  rw[NA]at dL
  refine ret X.f180.1 ?_
  exact⟨Si,FQ,.run hD RK hJ dL,ri.k0 AH λ_ _=>rfl,ai.trans (BB.k0 AH λ_ _=>rfl)⟩):p:=h
theorem zA(h:p:=by
 intro e he
 unfold Bf at he
 obtain⟨s,hs,rfl⟩:=DK.1 he
 have:=(hD.mem s).1 hs
 obtain⟨q,hq⟩:=SV.1 this
 have YS:=r.mp.rg s q hq
 have hm:S.D.nb*S.D.P<=44*6:=NB r.dv.ok.g.nb.2 (by have:=r.dv.ok.g.P;omega)
 have VP:HF S.A s=q:=by unfold HF;rw[hq];rfl
 exact⟨by show 0<=s;omega,by show s<=_;omega,by show -1<=HF S.A s;omega,by show HF S.A s<=_;omega⟩):p:=h
theorem yN(h:p:=by
 unfold Bf;rw[DC]
 refine Da S.S D (hD.lt.imp λh=>Int.ne_of_lt h) λs hs=>?_
 obtain⟨q,hq⟩:=SV.1 ((hD.mem s).1 hs)
 have YS:=r.mp.rg s q hq
 exact⟨YS.1,YS.2.1⟩):p:=h
theorem yO(h:p:=by
 rintro _ h6 ⟨o,S1,MP,rfl,ho,RK,r6,a6⟩
 refine Ax L X.f180.1 ?_
 exact Gp _ _ ⟨o,S1,MP,rfl,ho,.bad hD RK ho,r6,a5.trans ((BB.k0 (AF:=ext AD h.n) AH λ_ _=>rfl).trans a6)⟩):p:=h
theorem yP(h:p:=by
 refine wk ?_
 refine Bi L ?_
 refine ret X.f180.1 ?_
 exact⟨S1,MP,.run hD RK hJ .nil,r6.k0 AH λ_ _=>rfl,a7.trans (BB.k0 AH λ_ _=>rfl)⟩):p:=h
section
structure az (f:Int->Bool)(J:List Int):Prop where
 lt:J.Pairwise (·< ·)
 mem:∀s,s∈J↔f s=true
theorem LX.kK{f:Int->Bool}(o:EP M ck)(q:∀k:Int,A9 M k=if f k=true then some (.bool true)else none){J:List Int}(p:J.Perm (M.map (·.1))):az f (Dn J):=by
 refine⟨ac4 (p.nodup_iff.2 o.keys),λs=>?_⟩;rw[(Gw J).mem_iff,p.mem_iff,<-eM,C7];have h1:=q s;unfold A9 at h1;by_cases hf:f s=true
 .rw[AP hf]at h1
  cases hx:M.find? λx=>decide (s=x.1)with
  |none=>rw[hx]at h1;cases h1
  |some x=>simp[hf]
 .rw[AM hf,Option.map_eq_none_iff]at h1;rw[h1];simp[hf]
def Ap.CY(S:Ap):Ap:=if 0<=S.log then{S with ps:=AX S.ps S.log.toNat 3,log:= -1}else S
inductive KB:List Int->Ap->Ap->WO->Prop where
 |nil {S:Ap}:KB [] S S (.done 0)
 |cons {b:Nat} {l:List Int} {S AB:Ap} {o:WO} (h:(S.BV b).2= .done 0) (t:KB l {(S.BV b).1 with jr:=Be (S.BV b).1.jr (b:Int) false} AB o):KB ((b:Int)::l) S AB o
 |bad {b:Nat} {l:List Int} {S:Ap} (h:(S.BV b).2= .pow):KB ((b:Int)::l) S (S.BV b).1 .pow
theorem KB.app{l AT:List Int}{S1:Ap}{o1:WO}(h:KB l S S1 o1)(e:o1= .done 0)(t:KB AT S1 AB o):KB (l++AT) S AB o:=by
 induction h with
 |nil=>exact t
 |cons h _ ih=>exact .cons h (ih e t)
 |bad=>cases e
inductive QX (S:Ap):Ap->WO->Prop where
 |bad {D:List Int} {S1:Ap} {o:WO} (hD:OH S.A D) (h:HO 3 (Bf S.A D) S.CY S1 o) (ho:o= .full\/o= .pow):QX S S1 o
 |run {D J:List Int} {S1 AB:Ap} {o:WO} (hD:OH S.A D) (h:HO 3 (Bf S.A D) S.CY S1 (.done 0)) (hJ:az S.jr J) (e:KB J S1 AB o):QX S AB o
theorem amz(r:BJ AD h I S)(iw:IW S)(KZ:S.down=false)(hS:S.S<1000)(hj:∀k,S.jr k=true->0<=k/\k<S.D.nb)(hf:S.last<S.next/\S.next<980000000)(hn:S.D.n+200000<900000000)(hE:∀D J S1 i Si,OH S.A D->HO 3 (Bf S.A D) S.CY S1 (.done 0)->az S.jr J->KB (J.take i) S1 Si (.done 0)->∀y,J[i]?=some y->∃b:Nat,y=(b:Int)/\b<Si.D.nb/\(Si.ps b=2\/Si.ps b=3)/\Si.pe b<900000000/\Si.D.n+1<900000000):CX L 180 [.ptr I.s 0] h (λv AA=>∃AB AF,QX S AB (.done 0)/\BJ AF AA I AB/\BB AD h AF AA) (λv AA=>∃(o:WO) (AB:Ap) (AF:Nat->Nat),v= .Cm 42 (AN (NU o))/\(o= .full\/o= .pow)/\QX S AB o/\BJ AF AA I AB/\BB AD h AF AA):=by
 have sk:=r.sk;have ls:=sk.lt;have KN:=r.CA;have BX:=r.lt;have FT:=r.dv.ok.g.nb;have DE:=r.dv.ok.g.sz;obtain⟨M,ck,m1,m2,m3⟩:=r.mj.ex;have lm:=m1.lt;have hM:M.length<=S.D.nb:=by
  have:=Da S.D.nb (M.map (·.1)) m2.keys λk hk=>by
   refine hj k ?_;have h2:=eM.2 hk;rw[C7]at h2;have h1:=m3 k;unfold A9 at h1;by_cases q:S.jr k=true;.exact q
   .rw[AM q,Option.map_eq_none_iff]at h1;rw[h1]at h2;cases h2
  rwa[DC]at this
 unfold EX at sk;rw[KZ]at sk;refine Bg L X.f180 λQ x cs G Gp=>?_;refine AK ?_ (c:=A6 L);rintro _ rfl;refine AK ?_ (c:=ah2 L m2 (Sa za m1) om);rintro _ h2 ⟨J0,p,k2,w2⟩;have hJ:=LX.kK m2 m3 p;have hJl:(Dn J0).length<=S.D.nb:=by rw[(Gw J0).length_eq,p.length_eq,DC];exact hM
 generalize Dn J0=J at*;have r2:BJ (ext AD h.n) h2 I S:=r.k0 k2 λb hb=>Ae hb;have a2:BB AD h (ext AD h.n) h2:=BB.k0 k2 λb hb=>Ae hb;have w3:=w2.bd;by_cases pA:0<=S.log
 .obtain⟨RJ,UK⟩:=(iw.wi true).BT pA;have ba:S.BT true=S.log:=rfl;rw[ba]at RJ UK;obtain⟨lg,p9⟩:=Yt pA;have ec:S.CY={S with ps:=AX S.ps lg 3,log:= -1}:=by unfold Ap.CY;rw[AP pA,p9,FL]
  have ly:IW S.CY:=by
   rw[ec];refine⟨λk=>?_,λk=>?_⟩
   .cases k with
    |true=>exact⟨λh=>absurd h bo,by show(-1:Int)<= -1;omega⟩
    |false=>
     refine⟨λh=>?_,(iw.wi false).lo⟩;obtain⟨f1,f2⟩:=(iw.wi false).BT h;refine⟨f1,?_⟩;show AX S.ps lg 3 (S.BT false).toNat=2;have BZ:=iw.ne false h;rw[CB _ _ (λe=>BZ ?_)];.exact f2
     .show S.BT false=S.log;have:0<=S.BT false:=h;rw[p9];omega
   .cases k with
    |true=>intro h;exact absurd h bo
    |false=>intro h;show S.HG≠ -1;have:0<=S.HG:=h;omega
  have UI:S.CY.D=S.D:=by rw[ec]
  have NV:S.CY.last=S.last:=by rw[ec]
  have sy:S.CY.next=S.next:=by rw[ec]
  have sx:S.CY.A=S.A:=by rw[ec]
  rw[p9]at sk UK;rw[FL]at UK;obtain⟨cb2,ml⟩:=r2.po;refine AK ?_ (c:=O7 L (i:=lg) (ml.k0 za) om UK);rintro _ h3 ⟨rfl,im,k3⟩;have r3:=(r2.k0 (AF:=ext AD h.n) (AA:=hp h2.n h2.t []) za λ_ _=>rfl).iu k3 im;have cK:=r3.sk;have ls3:=cK.lt;have apu:=r3.CA;have nn3:=k3.n;simp only[Ag]at nn3;unfold EX at cK;refine wk ?_;have k4:Kp (λj=>j=I.s) h3 (hp h3.n h3.t [(I.s,some (cl (EX I {S with ps:=AX S.ps lg 3,log:= -1})))]):=AH;have r4:BJ (ext AD h.n) (hp h3.n h3.t [(I.s,some (cl (EX I {S with ps:=AX S.ps lg 3,log:= -1})))]) I S.CY:=by rw[ec];exact r3.st k4 AG ⟨rfl,rfl,rfl,rfl,rfl,rfl,rfl,rfl⟩
  have a4:BB AD h (ext AD h.n) (hp h3.n h3.t [(I.s,some (cl (EX I {S with ps:=AX S.ps lg 3,log:= -1})))]):=a2.trans ((BB.kp (AD:=ext AD h.n) k3 λj _ e=>by rcases e with e|e<;>subst e<;>omega).trans (BB.kp k4 λj _ e=>by subst e;omega));have aU:=r4.mp;rw[sx]at aU;refine AK ?_ (c:=Ko L (aU.k0 za));rintro v5 h5 ⟨D,hD,Z4,el,k5⟩;have r5:BJ (ext AD h.n) h5 I S.CY:=r4.k0 za λ_ _=>rfl;have a5:BB AD h (ext AD h.n) h5:=a4.trans (BB.k0 (AF:=ext AD h.n) za λ_ _=>rfl);have ES:∀e∈Bf S.A D,e.Ok:=by exact zA
  have MI:(Bf S.A D).length<=S.S:=by exact yN
  have uC:CF S.CY (Bf S.A D)<=(Bf S.A D).length+1:=Gm (by rw[UI];omega);refine Gj L (c:=Mg (k:=3) L (r5.k0 (AF:=ext AD h.n) za λ_ _=>rfl) ly (.inr rfl) ((el.mono (CN _)).k0 za) ES om (by rw[NV,sy];omega) (by rw[UI];omega)) (g:=?_) (gp:=?_)
  .rintro _ h6 ⟨S1,MP,RK,r6,a6⟩;have a7:BB AD h MP h6:=a5.trans ((BB.k0 (AF:=ext AD h.n) za λ_ _=>rfl).trans a6);have n6:=a6.k.n;have n5:=k5.n;simp only[Ag]at n5 n6;rcases w2.ex with⟨rfl,rfl⟩|⟨hpJ,jb,rfl,w4,w5⟩;.exact yP
   .simp only[Ag]at w5;have aH:ext AD h.n jb=0:=B9 w5;have ajb:=w4.lt;have wj5:Bk h5 jb (J.map AI):=Ab k5 (Ao k4 om (Ao k3 om w4));exact zq0
  .exact yO
 .have ec:S.CY=S:=by unfold Ap.CY;rw[AM pA]
  have ly:IW S.CY:=by rw[ec];exact iw
  have UI:S.CY.D=S.D:=by rw[ec]
  have NV:S.CY.last=S.last:=by rw[ec]
  have sy:S.CY.next=S.next:=by rw[ec]
  have sx:S.CY.A=S.A:=by rw[ec]
  have r4:BJ (ext AD h.n) (hp h2.n h2.t []) I S.CY:=by rw[ec];exact r2.k0 za λ_ _=>rfl
  have a4:BB AD h (ext AD h.n) (hp h2.n h2.t []):=a2.trans (BB.k0 za λ_ _=>rfl);refine wk ?_;have aU:=r4.mp;rw[sx]at aU;refine AK ?_ (c:=Ko L (aU.k0 za));rintro v5 h5 ⟨D,hD,Z4,el,k5⟩;have r5:BJ (ext AD h.n) h5 I S.CY:=r4.k0 za λ_ _=>rfl;have a5:BB AD h (ext AD h.n) h5:=a4.trans (BB.k0 (AF:=ext AD h.n) za λ_ _=>rfl);have ES:∀e∈Bf S.A D,e.Ok:=by exact zA
  have MI:(Bf S.A D).length<=S.S:=by exact yN
  have uC:CF S.CY (Bf S.A D)<=(Bf S.A D).length+1:=Gm (by rw[UI];omega);refine Gj L (c:=Mg (k:=3) L (r5.k0 (AF:=ext AD h.n) za λ_ _=>rfl) ly (.inr rfl) ((el.mono (CN _)).k0 za) ES om (by rw[NV,sy];omega) (by rw[UI];omega)) (g:=?_) (gp:=?_)
  .rintro _ h6 ⟨S1,MP,RK,r6,a6⟩;have a7:BB AD h MP h6:=a5.trans ((BB.k0 (AF:=ext AD h.n) za λ_ _=>rfl).trans a6);have n6:=a6.k.n;have n5:=k5.n;simp only[Ag]at n5 n6;rcases w2.ex with⟨rfl,rfl⟩|⟨hpJ,jb,rfl,w4,w5⟩;.exact yP
   .simp only[Ag]at w5;have aH:ext AD h.n jb=0:=B9 w5;have ajb:=w4.lt;have wj5:Bk h5 jb (J.map AI):=Ab k5 w4;exact zq0
  .exact yO
theorem af0(r:BJ AD h I S)(ka:Bk h ab [.ptr I.s 0])(iw:IW S)(KZ:S.down=false)(hS:S.S<1000)(hj:∀k,S.jr k=true->0<=k/\k<S.D.nb)(hf:S.last<S.next/\S.next<980000000)(hn:S.D.n+200000<900000000)(hE:∀D J S1 i Si,OH S.A D->HO 3 (Bf S.A D) S.CY S1 (.done 0)->az S.jr J->KB (J.take i) S1 Si (.done 0)->∀y,J[i]?=some y->∃b:Nat,y=(b:Int)/\b<Si.D.nb/\(Si.ps b=2\/Si.ps b=3)/\Si.pe b<900000000/\Si.D.n+1<900000000):CL L 151 [.ptr ab 0] h (λv AA=>∃(o:WO) (AB:Ap) (AF:Nat->Nat),v=AN (NU o)/\(o= .done 0\/o= .full\/o= .pow)/\QX S AB o/\BJ AF AA I AB/\BB AD h AF AA):=by
 refine Aj L X.f151 λQ x cs G=>?_;refine wk ?_
 have T0:∀BN h2,K0 (hp h.n h.t []) h2->(hp h.n h.t []).n<h2.n->(∀b,b<(hp h.n h.t []).n->BN b=AD b)->BJ BN h2 I S->CX L 180 (.ptr I.s 0::[]) h2
   (λv AA=>∃AF AB,BJ AF AA I AB/\CU (λ_=>False) BN h2 AF AA/\QX S AB (.done 0))
   (λv AA=>∃AF AB e,v= .Cm 42 (AI e)/\BJ AF AA I AB/\CU (λ_=>False) BN h2 AF AA/\∃o:WO,e=((NU o:Nat):Int)/\(o= .full\/o= .pow)/\QX S AB o):=by
  intro BN h2 k2 n2 c2 r2
  refine(amz L r2 iw KZ hS hj hf hn hE).mono ?_ ?_
  .rintro v AA ⟨AB,AF,q1,q2,q3⟩
   exact⟨AF,AB,q2,q3.x,q1⟩
  .rintro v AA ⟨o,AB,AF,rfl,ho,q1,q2,q3⟩
   exact⟨AF,AB,_,rfl,q2,q3.x,o,rfl,ho,q1⟩
 refine AK ?_ (c:=Hy L (r.k0 (AF:=AD) (AA:=hp h.n h.t []) za λ_ _=>rfl) (Ab za ka) (λb e=>e.elim) T0);rintro v h2 ⟨AF,AB,h1,CO,BC,-,hv⟩;have a2:BB AD h AF h2:=BC.own (BB.k0 (AF:=AD) za λ_ _=>rfl) λb e=>e.elim;rcases hv with⟨rfl,u,q1⟩|⟨e,rfl,o,rfl,ho,q⟩
 .refine ret X.f151.1 ?_;exact⟨.done 0,AB,AF,rfl,.inl rfl,q1,CO.k0 AH λ_ _=>rfl,a2.trans (BB.k0 AH λ_ _=>rfl)⟩
 .refine ret X.f151.1 ?_;exact⟨o,AB,AF,rfl,.inr ho,q,CO.k0 AH λ_ _=>rfl,a2.trans (BB.k0 AH λ_ _=>rfl)⟩
def Ap.gC(S:Ap)(b:Nat):Nat:=min (S.next- (S.wr (b:Int)).getD 0) 1099511627776
def Ap.GQ(S:Ap):Nat->List Nat
 |0=>[]
 |i+1=>if S.ps i=3/\S.jr (i:Int)=false then S.GQ i++[i]else S.GQ i
def QI(S:Ap)(b:Nat):List AV:=[AN b,AN (GT S.A S.D.P b),AN S.D.P,AN (S.gC b)]
theorem W2(S:Ap)(l:List Nat):∀x∈l,(QI S x).length=4:=λ_ _=>rfl
theorem W3(S:Ap):∀i,(S.GQ i).length<=i
 |0=>BD _
 |i+1=>by
  have:=W3 S i;simp only[Ap.GQ];split;.rw[DX,nG];omega
  .omega
structure WU (S:Ap)(h:H)(lo:Nat)(v:AV)(l:List Nat):Prop where
 ex:(l=[]/\v= .AS)\/(0<l.length/\∃b,v= .AE b 0 l.length (Aa+4)/\Bk h b (l.flatMap (QI S))/\lo<=b)
theorem WU.k0{l:List Nat}(q:WU S h lo v l)(k:K0 h AA):WU S AA lo v l:=by exact nU
theorem WU.app{N n:Nat}{l:List Nat}(hb:Bk h N (l.flatMap (QI S)++QI S i))(HX:lo<=N)(hn:l.length=n):WU S h lo (.AE N 0 (n+1) (Aa+4)) (l++[i]):=⟨.inr ⟨by simp,N,by simp[hn],by rw[OX];simpa using hb,HX⟩⟩
def Y4(s c bx a b mk:Nat)(st:LS):DV:= .loop ⟨st,none,174,o7.ntmps,AJ [(9,some (.fn (.func 218) [] [.ptr a 0,.ptr b 0])),(2,some (.ptr bx 0)),(1,some (.ptr c 0)),(0,some (.ptr s 0))],[10,11],Akx,Aky,mk⟩
structure zp (h hh:H)(I:Ai)(S:Ap)(c a b lb mk:Nat)(cb:List AV)(i:Nat):Prop where
 k:Kp (λj=>j=c) h hh
 dk:Gk hh mk (.EQ (some []))
 lp:Gk hh (mk+1) (Y4 I.s c h.n a b mk .ready)
 ka:Bk hh a [.AE lb 0 S.D.nb (Aa+2)]
 kb:Bk hh b [AN 3]
 kl:Bk hh lb cb
 kx:Bk hh h.n [.ptr I.s 0]
 ex:∃w,Bk hh c [w]/\WU S hh (mk+2) w (S.GQ i)
theorem Lh{l:CJ}{x y:O}{k:Int}{zero:AV}(hx:AU l x=some (.map r))(hy:AU l y=some (AI k))(hb:Mk h r (M.map (mE AI)) ck)(hv:(A9 M k).getD zero=v):XV (.lookup .QB zero x y false) h l v h:=hv ▸ C0 (KE.int .i64) hx hy hb
section
theorem Abe{c:Nat}(r:BJ AD h I S)(kc:Bk h c [.AS])(hc:200<=AD c)(hw:∀b n,S.wr b=some n->n<=S.next)(HB:S.next<980000000):CL L 174 [.ptr I.s 0,.ptr c 0] h (λv AA=>Kp (λj=>j=c) h AA/\∃w,Bk AA c [w]/\WU S AA h.n w (S.GQ S.D.nb)):=by
 have sk:=r.sk;have ls:=sk.lt;have lc:=kc.lt;have KN:=r.CA;have BX:=r.lt;have ajg:=r.dv.ok.g.nb;obtain⟨cb,po⟩:=r.po;have ncs:c≠I.s:=λe=>by rw[<-e]at KN;omega
 unfold EX at sk;refine Ad L X.f174 λQ x cs G=>?_;refine AK ?_ (c:=Mf L (s:=3) (po.k0 za));rintro _ h2 ⟨a,b,lb,rfl,w1,w2,w3,w4,w5,w6,w7⟩;have n5:=w7.n;simp only[Ag]at n5 w4 w5 w6;have la:=w1.lt;have vA:=w2.lt;have lc':=w3.lt;refine wk ?_;refine D0 L (FV:=AJ [(9,some (.fn (.func 218) [] [.ptr a 0,.ptr b 0])),(2,some (.ptr h.n 0)),(1,some (.ptr c 0)),(0,some (.ptr I.s 0))]) BA ?_;refine Ew L (post:=λ_ AA=>zp h AA I S c a b lb h2.n cb S.D.nb) rfl rfl rfl ?_ ?_
 .refine Ct.A ((Kq L (ps:=S.ps) (pe:=S.pe) (cb:=cb) po.len ajg.2 po.c0 po.c1 (λi hh=>zp h hh I S c a b lb h2.n cb i) (λi hh r=>⟨r.ka,r.kb,r.kl⟩) (λi hh AA r k=>?_) (λi hh hi e r=>?_) (λi hh hi e r=>?_) ⟨AH,CS,(by unfold Y4;exact CS),AG,AG,AG,AG,.AS,AG,⟨.inl ⟨rfl,rfl⟩⟩⟩).mono λv AA p=>p);.exact⟨Kp.EA k r.k,C4 k r.dk,C4 k r.lp,Ab k r.ka,Ab k r.kb,Ab k r.kl,Ab k r.kx,let⟨w,e1,e2⟩:=r.ex;⟨w,Ab k e1,e2.k0 k⟩⟩
  .obtain⟨r1,r2,r3,r4,r5,r6,r7,w,r8,r9⟩:=r;have hle:=r3.e;unfold Y4 at hle;have g1:=r2.lt;have g2:=r3.lt;have g3:=r4.lt;have g4:=r5.lt;have g5:=r6.lt;have g7:=r7.lt;have g8:=r8.lt;have NV:=W3 S i;have rr:BJ (ext AD h.n) hh I S:=r.own r1 (λj _ e=>by subst e;exact hc) λb hb=>Ae hb;obtain⟨M,ck,m1,m2,m3⟩:=rr.mj.ex;obtain⟨N,ad8,o1,o2,o3⟩:=rr.mw.ex;have jA:=rr.sk;have lm1:=m1.lt;have lo1:=o1.lt;have ls2:=jA.lt;have hg:=m3 (i:Int);have ou:=o3 (i:Int);unfold EX at jA;refine Du L (l1:=[(11,some (AN (S.pe i))),(10,some (AN i)),(9,some (.fn (.func 218) [] [.ptr a 0,.ptr b 0])),(2,some (.ptr h.n 0)),(1,some (.ptr c 0)),(0,some (.ptr I.s 0))]) hle rfl ?_;intro Q z2 cs G2;refine wk ?_;refine Dh L (Gk.e CS) ?_;have mpb:II S.S S.D.nb S.D.P (hp hh.n hh.t [(h2.n+1,some (Y4 I.s c h.n a b h2.n .busy))]) I.m I.r1 I.r2 I.vb S.A:=(by have:=rr.lt;exact rr.mp.kp (B:=λj=>j=h2.n+1) AH om om om om)
   cases UJ:S.jr (i:Int)with
   |true=>
    have e1:S.GQ (i+1)=S.GQ i:=(by simp only[Ap.GQ];rw[AM (by rw[UJ];simp)]);rw[UJ,AP rfl]at hg;refine wk ?_;refine BO L (Lh (v:= .bool true) (k:=(i:Int)) rfl rfl CH uZ) ?_;refine wk ?_;refine D8 L (Gk.e CS) G2 ⟨rfl,?_⟩;refine⟨AH,CS,(by unfold Y4;exact D5 om),AG,AG,AG,AG,w,AG,?_⟩;rw[e1];rcases r9.ex with h1|⟨VN,x,rfl,h4,h5⟩;.exact⟨.inl h1⟩
    .have bU:=h4.lt;exact⟨.inr ⟨VN,x,rfl,AG,h5⟩⟩
   |false=>
    have e1:S.GQ (i+1)=S.GQ i++[i]:=(by simp only[Ap.GQ];rw[AP ⟨e,UJ⟩]);rw[UJ,AM W0]at hg;obtain⟨wn,hwn,iF,hwe⟩:∃wn:Nat,(∀z:AV,z=Zu->(A9 N (i:Int)).getD z=UN wn)/\wn<=S.next/\S.gC i=min (S.next- wn) 1099511627776:=by
     cases lZ:S.wr (i:Int)with
     |none=>rw[lZ]at ou;exact⟨0,by rintro z rfl;rw[ou];rfl,CN _,by unfold Ap.gC;rw[lZ];rfl⟩
     |some n=>rw[lZ]at ou;exact⟨n,by rintro z rfl;rw[ou];rfl,hw _ _ lZ,by unfold Ap.gC;rw[lZ];rfl⟩
    have MS:QI S i=[AN i,AN (GT S.A S.D.P i),AN S.D.P,AN (min (S.next- wn) 1099511627776)]:=(by unfold QI;rw[hwe]);rcases r9.ex with⟨e0,rfl⟩|⟨VN,x,rfl,h4,h5⟩;.refine wk ?_;refine BO L (Lh (v:= .bool false) (k:=(i:Int)) rfl rfl CH uZ) ?_;refine wk ?_;(apply B4 rfl rfl;exact Lh (k:=(i:Int)) rfl rfl CH (hwn _ rfl));(apply B4 rfl rfl;exact O0 rfl rfl rfl iF (by show S.next<18446744073709551616;omega));(apply B4 rfl rfl;exact co rfl rfl);(apply B4 rfl rfl;exact XM);(apply Wb L;exact By;rfl);refine AK ?_ (c:=O5 L mpb hi);rintro _ rfl;refine wk ?_;(apply H8 L rfl rfl;exact D1 (new:=QI S i) rfl rfl (CG.of (c:=QI S i) (by rw[MS];exact AG) (BD _) rfl) om om);refine wk ?_;refine D8 L (Gk.e CS) G2 ⟨rfl,?_⟩;refine⟨AH,CS,(by unfold Y4;exact D5 om),AG,AG,AG,AG,_,AG,?_⟩;rw[e1];rw[e0];exact WU.app (l:=[]) uc om rfl
    .have bU:=h4.lt;refine wk ?_;refine BO L (Lh (v:= .bool false) (k:=(i:Int)) rfl rfl CH uZ) ?_;refine wk ?_;(apply B4 rfl rfl;exact Lh (k:=(i:Int)) rfl rfl CH (hwn _ rfl));(apply B4 rfl rfl;exact O0 rfl rfl rfl iF (by show S.next<18446744073709551616;omega));(apply B4 rfl rfl;exact co rfl rfl);(apply B4 rfl rfl;exact XM);(apply Wb L;exact By;rfl);refine AK ?_ (c:=O5 L mpb hi);rintro _ rfl;refine wk ?_;(apply H8 L rfl rfl;exact D7 (old:=(S.GQ i).flatMap (QI S)) (new:=QI S i) rfl rfl (CG.of (c:=(S.GQ i).flatMap (QI S)) AG (by rw[B8 _ (W2 S _)];omega) (by rw[LT,LN (by rw[B8 _ (W2 S _)];exact BD _)])) (CG.of (c:=QI S i) (by rw[MS];exact AG) (BD _) rfl) om om (by rw[MS];rfl));refine wk ?_;refine D8 L (Gk.e CS) G2 ⟨rfl,?_⟩;refine⟨AH,CS,(by unfold Y4;exact D5 om),AG,AG,AG,AG,_,AG,?_⟩;rw[e1];exact WU.app uc om rfl
  .obtain⟨r1,r2,r3,r4,r5,r6,r7,r8⟩:=r;have e1:S.GQ (i+1)=S.GQ i:=(by simp only[Ap.GQ];rw[AM om]);exact⟨r1,r2,r3,r4,r5,r6,r7,by rw[e1];exact r8⟩
 .rintro v h3 ⟨r1,r2,r3,r4,r5,r6,r7,w,r8,r9⟩;have hle:=r3.e;unfold Y4 at hle;have l5:=r2.lt;have l8:=r8.lt;refine Hv L (n:=h3.n) (t:=h3.t) (lh:=[]) hle W1 ?_;refine wk ?_;refine A5 L (show Good P0 E Q ⟨⟨_,_,_,_,_,.returning,false,none⟩,_,_⟩from ?_);refine Ex L W1 (Gk.e CS) ?_;refine C1 L X.f174.1 (Fl rfl) G ⟨AH,w,AG,?_⟩;rcases r9.ex with h1|⟨VN,x,rfl,h4,h5⟩;.exact⟨.inl h1⟩
  .have bU:=h4.lt;exact⟨.inr ⟨VN,x,rfl,AG,om⟩⟩
theorem Af4(r:BJ AD h I S)(ka:Bk h ab [.ptr I.s 0])(hw:∀b n,S.wr b=some n->n<=S.next)(HB:S.next<980000000):CL L 146 [.ptr ab 0] h (λv AA=>∃AF,WU S AA h.n v (S.GQ S.D.nb)/\(∀b n c,v= .AE b 0 n c->AF b=0)/\BJ AF AA I S/\BB AD h AF AA):=by
 refine Aj L X.f146 λQ x cs G=>?_;refine wk ?_;have k1:K0 h (hp (h.n+1) h.t [(h.n,some (cl [.AS]))]):=AH;have KD:∀b,b<h.n->Jl AD h.n b=AD b:=λb hb=>Lf hb;have r1:BJ (Jl AD h.n) (hp (h.n+1) h.t [(h.n,some (cl [.AS]))]) I S:=r.k0 k1 KD;have a1:BB AD h (Jl AD h.n) (hp (h.n+1) h.t [(h.n,some (cl [.AS]))]):=BB.k0 k1 KD;have ML:Bk (hp (h.n+1) h.t [(h.n,some (cl [.AS]))]) h.n [.AS]:=AG;have JE:(hp (h.n+1) h.t [(h.n,some (cl [.AS]))]).n=h.n+1:=rfl
 have T0:∀BN h2,K0 (hp (h.n+1) h.t [(h.n,some (cl [.AS]))]) h2->(hp (h.n+1) h.t [(h.n,some (cl [.AS]))]).n<h2.n->(∀b,b<(hp (h.n+1) h.t [(h.n,some (cl [.AS]))]).n->BN b=Jl AD h.n b)->BJ BN h2 I S->CX L 174 (.ptr I.s 0::[.ptr h.n 0]) h2
   (λv AA=>∃AF AB,BJ AF AA I AB/\CU (λj=>j=h.n) BN h2 AF AA/\(AB=S/\∃w,Bk AA h.n [w]/\WU S AA (h.n+2) w (S.GQ S.D.nb)/\∀b n c,w= .AE b 0 n c->AF b=0))
   (λv AA=>∃AF AB e,v= .Cm 42 (AI e)/\BJ AF AA I AB/\CU (λj=>j=h.n) BN h2 AF AA/\False):=by
  intro BN h2 k2 n2 c2 r2
  rw[JE]at n2 c2
  have TI:BN h.n=200:=(c2 _ om).trans (Gn (BD _))
  refine((Abe L r2 (Ab k2 ML) om hw HB).mono ?_).Xc
  rintro v AA ⟨q1,w,q2,q3⟩
  refine⟨ext BN h2.n,S,r2.own q1 (λj _ e=>by subst e;omega) λb hb=>Ae hb,⟨q1.mono λb e=> .inr e,λb hb=>Ae hb⟩,rfl,w,q2,?_,?_⟩
  .rcases q3.ex with h1|⟨g1,x,g2,g3,g4⟩
   .exact⟨.inl h1⟩
   .exact⟨.inr ⟨g1,x,g2,g3,om⟩⟩
  .rintro b n c rfl
   rcases q3.ex with⟨_,e⟩|⟨g1,x,g2,g3,g4⟩
   .cases e
   .cases g2;exact B9 g4
 refine AK ?_ (c:=Hy L r1 (Ab k1 ka) (λb e=>by subst e;exact NQ _) T0);rintro v h2 ⟨AF,AB,h1,CO,BC,AZ,hv⟩;rw[JE]at AZ;rcases hv with⟨rfl,u,rfl,w,q1,q2,q3⟩|⟨e,rfl,q⟩
 .have a2:BB AD h AF h2:=BC.own a1 λb e=>by subst e;exact BD _
  have iv:Bk h2 h.n [w]:=Ao AZ om q1;have TI:AF h.n=200:=(BC.CA _ eG).trans (Gn (BD _));rcases q2.ex with⟨e0,rfl⟩|⟨g1,x2,rfl,g3,g4⟩
  .refine ret X.f146.1 ?_;refine⟨AF,⟨.inl ⟨e0,rfl⟩⟩,q3,CO.out (B:=λj=>j=h.n) ?_ (λb _ e=>by subst e;omega),BB.own (B:=λj=>j=h.n) a2 ?_ (λb e=>by subst e;exact BD _) λ_ _=>rfl⟩;.exact AH
   .exact AH
  .have kZ:Bk h2 x2 _:=Ao AZ om g3;refine ret X.f146.1 ?_;refine⟨AF,⟨.inr ⟨g1,x2,rfl,by exact AG,om⟩⟩,q3,CO.out (B:=λj=>j=h.n) ?_ (λb _ e=>by subst e;omega),BB.own (B:=λj=>j=h.n) a2 ?_ (λb e=>by subst e;exact BD _) λ_ _=>rfl⟩;.exact AH
   .exact AH
 .exact q.elim
