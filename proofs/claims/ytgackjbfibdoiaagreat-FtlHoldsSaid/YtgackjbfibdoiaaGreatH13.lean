import Derived.Test.YtgackjbfibdoiaaGreatH12
set_option linter.all false
set_option maxRecDepth 100000
set_option maxHeartbeats 4000000
namespace Go.Ev
variable {P0:Program}{E:Env}{F:T DY}{K:HK}(L:Lg P0 E F K)[X:Fx F K][aq4:Tb P0 E F K][U:Yz P0 E F 208]
variable {N BC b AR cap fn j k lo lp m nt o p JW v AQ x1 x2 y1 y2:Nat}{Q:Nat->AV->Prop}{S:Ap}{Z:HJ}{c:List AV}{cs:FM}{AL:Bool}{ds:List HN}{h AA:H}{y:O}{BH:Nat->List Nat}
theorem zY{p:Prop}(h:p:=by
 refine⟨.inr ⟨by simp,N,by simp[hn],by rw[OX];simpa using hb,hN,λi s b o c e=>?_⟩⟩
 by_cases hi:i<l.length
 .rw[QC hi]at e;exact hr i s b o c e
 .rw[OB om]at e
  have PY:i- l.length=0:=by
   have:=(FE.1 e).1
   simp at this;omega
  rw[PY]at e
  simp at e
  exact hx s b o c e):p:=h
theorem zZ{p:Prop}(h:p:=by
 rcases q.ex with h1|⟨h1,gb,h2,h3,h4,h5⟩
 .exact⟨.inl h1⟩
 .exact⟨.inr ⟨h1,gb,h2,Ab k h3,h4,λi s b o c e=>let⟨g1,g2,g3,g4⟩:=h5 i s b o c e;⟨g1.k0 k,g2,g3,g4⟩⟩⟩):p:=h
theorem Vc(bs:List Nat)(m y:Nat):(B5 bs).set m (.int .u8 (y:Int))=B5 (bs.set m y):=by unfold B5;rw[List.map_set]
theorem IA.set{bs:List Nat}(h:IA bs){y:Nat}(hy:y<256):IA (bs.set m y):=by
 intro i hi;rw[LQ]at hi;rw[MZ,nM];split
 .split;.exact hy
  .simp
 .rw[<-MZ];exact h i hi
structure QY (h:H)(lo:Nat)(v:AV)(sz:Nat)(l:List GW)(BH:Nat->List Nat):Prop where
 ex:(l=[]/\v= .AS)\/(0<l.length/\∃gb:Nat,v= .AE gb 0 l.length (Aa+2)/\Bk h gb (l.flatMap (GL sz))/\lo<=gb/\∀(i:Nat) (s:Int) (b o c:Nat),l[i]?=some (s,some (b,o,c))->BS h b o (BH b)/\(BH b).length=sz/\lo<=b/\o=0/\c=sz/\b≠gb)
theorem QY.k0{sz:Nat}{v:AV}{l:List GW}(q:QY h lo v sz l BH)(k:K0 h AA):QY AA lo v sz l BH:=by
 exact zZ
theorem Gy{sz:Nat}(l:List GW):(l.flatMap (GL sz)).length=l.length*2:=B8 l (Gl l)
theorem QY.app{sz n:Nat}{l:List GW}{x:GW}(hb:Bk h N (l.flatMap (GL sz)++GL sz x))(hN:lo<=N)(hn:l.length=n)(hr:∀(i:Nat) (s:Int) (b o c:Nat),l[i]?=some (s,some (b,o,c))->BS h b o (BH b)/\(BH b).length=sz/\lo<=b/\o=0/\c=sz/\b≠N)
  (hx:∀(s:Int) (b o c:Nat),x=(s,some (b,o,c))->BS h b o (BH b)/\(BH b).length=sz/\lo<=b/\o=0/\c=sz/\b≠N):QY h lo (.AE N 0 (n+1) (Aa+2)) sz (l++[x]) BH:=by
 exact zY
theorem QY.AX{h:H}{lo sz D:Nat}{v:AV}{l:List GW}{BH:Nat->List Nat}{bs:List Nat}(q:QY h lo v sz l BH)(hD:h.n<=D):QY h lo v sz l (AX BH D bs):=by
 rcases q.ex with h1|⟨h1,gb,h2,h3,h4,h5⟩;.exact⟨.inl h1⟩
 .refine⟨.inr ⟨h1,gb,h2,h3,h4,λi s b o c e=>?_⟩⟩;obtain⟨g1,g2⟩:=h5 i s b o c e;have:=g1.ET;rw[CB _ _ om];exact⟨g1,g2⟩
theorem QY.vlt{sz:Nat}{v:AV}{l:List GW}(q:QY h lo v sz l BH):∀gb n c,v= .AE gb 0 n c->gb<h.n:=by
 rintro gb n c rfl;rcases q.ex with⟨_,e⟩|⟨_,bO,e,h3,_⟩;.cases e
 .cases e;exact h3.lt
theorem Acf(h:o<=c.length):Gb [] c o=c:=by apply QT;intro i;rw[Fv [] c o i (by simpa using h),AM (by simp only[VB];omega)]
theorem anm{xs:List AV}(h:xs.length=c.length):Gb xs c 0=xs:=by
 apply QT;intro i;rw[Fv xs c 0 i om];by_cases hi:i<xs.length;.rw[AP ⟨CN _,om⟩];rfl
 .rw[AM om,OW om,OW om]
section
variable {l AT:CJ}{k GA:DO}{ro:Option Nat}{gd:Option (Nat×Bool)}{r:List CI}
variable {n:Nat}{t:T DV}{lh:SA}{x:O}
include L
theorem Acg{d size dn bK:Nat}(hg:HH gd l=some true)(e:AU l x=some (.AE b o dn bK))(e1:AU l y=some .AS)(hb:Bk (hp n t lh) b c)(ho:o<=c.length)(ha:HL 1000 (.ops r::k) ((d,some Zi)::l)=(GA,AT))(g:Good P0 E Q ⟨⟨fn,nt,AJ AT,GA,ds,.run,AL,ro⟩,cs,hp n t ((b,some (cl c))::lh)⟩):Good P0 E Q ⟨⟨fn,nt,AJ l,.ops (⟨some d,gd,.copy size x y⟩::r)::k,ds,.run,AL,ro⟩,cs,hp n t lh⟩:=by
 obtain⟨AA,q1,q2⟩:=M8 (n:=n) (t:=t) (lh:=lh) (lv:=[]) rfl hb.e (by simpa using ho) (Acf ho);have hx:exec (.copy size x y) (hp n t lh) (AJ l)= .val Zi AA:=by
  have hm:Lu 0 dn=0:=by rw[K1];exact Nat.zero_min _
  have aD:cellsOf size 0 (hp n t lh) .AS=some []:=by cases size<;>rfl
  simp only[exec,Ak,Ac e,Ac e1,NX,hm,aD,q1];rfl
 exact Et L (Az hg) hx (Tx L q2 (Dl L 1000 ha g))
end
def Zm(sz:Nat)(BH:Nat->List Nat)(Z:HJ)(l:List GW):HJ:=l.foldl (λZ x=>Z.set x.1.toNat ((x.2.map λq=>BH q.1).getD (List.replicate sz 0))) Z
theorem Xi{sz:Nat}{BH:Nat->List Nat}:∀(l:List GW) (Z:HJ),(Zm sz BH Z l).length=Z.length
 | [],Z=>rfl
 |x::r,Z=>by show(Zm sz BH (Z.set _ _) r).length=_;rw[Xi r,LQ]
structure rh (h:H)(U:Nat->Prop)(lb sz:Nat)(Z:HJ)(rows:List (Nat×Nat)):Prop where
 k:Bk h lb (rows.map λb=>AV.AE b.1 0 sz b.2)
 len:rows.length=Z.length
 r:∀(i:Nat) (b:Nat×Nat) (d:List Nat),rows[i]?=some b->Z[i]?=some d->BS h b.1 0 d/\d.length=sz/\U b.1/\b.1≠lb
theorem rh.set{U:Nat->Prop}{lb sz:Nat}{rows:List (Nat×Nat)}{d:List Nat}(q:rh h U lb sz Z rows)(hk:Bk AA lb ((rows.map λb=>AV.AE b.1 0 sz b.2).set j (.AE N 0 sz sz)))(k:Kp (λi=>i=lb) h AA)(hd:BS AA N 0 d)(hl:d.length=sz)(hN:U N/\N≠lb):rh AA U lb sz (Z.set j d) (rows.set j (N,sz)):=by
 refine⟨by rw[List.map_set];exact hk,by rw[LQ,LQ,q.len],λi b MG e1 e2=>?_⟩;rw[nM]at e1 e2;by_cases e:j=i
 .rw[AP e]at e1 e2;split at e1
  .cases e1;split at e2;.cases e2;exact⟨hd,hl,hN⟩
   .cases e2
  .cases e1
 .rw[AM e]at e1 e2;obtain⟨g1,g2,g3,g4⟩:=q.r i b MG e1 e2;exact⟨Lw k g4 g1,g2,g3,g4⟩
section
variable {AD:Nat->Nat}{d fm bb:Nat}{D:Dv}{cb:List AV}
theorem af1(hd:Bk h d (GJ D fm bb)):CL L 20 [.ptr d 0] h λv AA=>v=AN D.n/\AA=h:=by refine Aj L X.f20 λQ x cs G=>?_;refine AK ?_ (c:=Eh L hd);rintro _ rfl;refine ret X.f20.1 ?_;exact⟨rfl,rfl⟩
theorem ain(hd:Bk h d (GJ D fm bb)):CL L 61 [.ptr d 0] h λv AA=>v=Zi/\Bk AA d (GJ D.up fm bb)/\Kp (λi=>i=d) h AA:=by refine Aj L X.f61 λQ x cs G=>?_;refine AK ?_ (c:=Eh L hd);rintro _ rfl;refine ret X.f61.1 ?_;exact⟨rfl,AG,AH⟩
theorem Alx(hd:Bk h d (GJ D fm bb))(ED:D.off=false)(h2:D.sz<=50){c:Nat}(hc:c<950000000)(gT:b<=D.sz+64):CL L 19 [.ptr d 0,AN (D.n+c),AN b] h λv AA=>v=Zi/\Bk AA d (GJ {D with cut:=((D.n+c:Nat):Int),EC:=b} fm bb)/\Kp (λi=>i=d) h AA:=by refine Bj L X.f19 λQ x cs G=>?_;refine AK ?_ (c:=Eh L hd);rintro _ rfl;unfold GJ T2 at hd;rw[ED]at hd;refine ret X.f19.1 ?_;unfold GJ T2;exact⟨rfl,by rw[ED];exact AG,AH⟩
theorem LV.hd{AA:H}{CV:Dv}(q:LV AD h d D fm bb cb)(k:Kp (λi=>i=d) h AA)(hd:Bk AA d (GJ CV fm bb))(e:CV.nb=D.nb/\CV.P=D.P/\CV.bl=D.bl/\CV.CD=D.CD):LV AD AA d CV fm bb cb:=by
 obtain⟨e1,e2,e3,e4⟩:=e;have f:Fw AD h AD AA:=k.fw λb _ h1=>by subst h1;rw[q.UC];omega
 have ne:∀b,AD b≠1->b≠d:=λb h e=>h (by rw[e,q.UC]);exact⟨hd,q.UC,by rw[e4];exact q.fk.kp k (ne _ (by rw[q.YH];omega)),q.YH,Ao k (ne _ (by rw[q.YE];omega)) q.bk,q.YE,by rw[e1];exact q.Z1,by rw[e1];exact q.nb,λi hi=>by rw[e2,e3];obtain⟨pn,c,h1⟩:=q.rows i (by rw[<-e1];exact hi);exact⟨pn,c,h1.fw f (k.old pn h1.row.k.lt (ne _ (by rw[h1.row.CA];omega)))⟩⟩
theorem agu(r:IK AD h d D):CL L 61 [.ptr d 0] h λv AA=>v=Zi/\IK AD AA d D.up/\Kp (λi=>i=d) h AA/\AD d=1:=by obtain⟨ok,fm,bb,cb,q⟩:=r;exact(ain L q.dk).mono λv AA ⟨h1,h2,h3⟩=>⟨h1,⟨⟨⟨ok.g.nb,ok.g.P,ok.g.sz,ok.g.en⟩,ok.n,ok.EC,⟨by show(-1:Int)<= -1;omega,by show(-1:Int)<900000000;omega⟩,λi hi=>⟨(ok.bl i hi).nx,(ok.bl i hi).lo,(ok.bl i hi).hi,(ok.bl i hi).pg,(ok.bl i hi).er⟩⟩,fm,bb,cb,q.hd h3 h2 ⟨rfl,rfl,rfl,rfl⟩⟩,h3,q.UC⟩
theorem Agt(r:IK AD h d D)(ED:D.off=false){c:Nat}(hc:D.n+c<900000000)(hb:b<=D.sz+64):CL L 19 [.ptr d 0,AN (D.n+c),AN b] h λv AA=>v=Zi/\IK AD AA d {D with cut:=((D.n+c:Nat):Int),EC:=b}/\Kp (λi=>i=d) h AA/\AD d=1:=by obtain⟨ok,fm,bb,cb,q⟩:=r;exact(Alx L q.dk ED ok.g.sz.2 om hb).mono λv AA ⟨h1,h2,h3⟩=>⟨h1,⟨⟨⟨ok.g.nb,ok.g.P,ok.g.sz,ok.g.en⟩,ok.n,hb,⟨by show(-1:Int)<=((D.n+c:Nat):Int);omega,by show((D.n+c:Nat):Int)<900000000;omega⟩,λi hi=>⟨(ok.bl i hi).nx,(ok.bl i hi).lo,(ok.bl i hi).hi,(ok.bl i hi).pg,(ok.bl i hi).er⟩⟩,fm,bb,cb,q.hd h3 h2 ⟨rfl,rfl,rfl,rfl⟩⟩,h3,q.UC⟩
end
theorem adz{sz:Nat}{BH:Nat->List Nat}:∀(l:List GW) (Z:HJ),(l.map (·.1)).Nodup->(∀x∈l,0<=x.1/\x.1<(Z.length:Int))->(∀i:Nat,(i:Int)∉l.map (·.1)->(Zm sz BH Z l)[i]?=Z[i]?)/\∀x∈l,(Zm sz BH Z l)[x.1.toNat]?=some ((x.2.map λq=>BH q.1).getD (List.replicate sz 0))
 | [],Z,_,_=>⟨λ_ _=>rfl,λx hx=>by cases hx⟩
 |y::r,Z,hn,hr=>by
  rw[FU,RU]at hn;obtain⟨h1,h2⟩:=adz r (Z.set y.1.toNat ((y.2.map λq=>BH q.1).getD (List.replicate sz 0))) hn.2 λx hx=>by rw[LQ];exact hr x (Ck _ hx)
  obtain⟨y1,y2⟩:=hr y (DW ..);refine⟨λi hi=>?_,λx hx=>?_⟩;.rw[FU,DD,not_or]at hi;show(Zm sz BH (Z.set y.1.toNat _) r)[i]?=_;rw[h1 i hi.2,GH (λe=>hi.1 om)]
  .rcases DD.1 hx with rfl|hx;.show(Zm sz BH (Z.set x.1.toNat _) r)[x.1.toNat]?=_;rw[h1 _ (λe=>hn.1 (by rw[nH y1]at e;exact e)),QS om]
   .exact h2 x hx
theorem ad0{S:Nat}{d:Bool}{l:List Int}(h:Ff S d l=0):l.Nodup/\l≠[]:=by
 unfold Ff at h;by_cases e:l=[]\/¬l.Nodup;.rw[AP e]at h;cases h
 .exact⟨nC λq=>e (.inr q),λq=>e (.inl q)⟩
theorem Agu{l:List GW}{s:Int}{d:ru}(h:(s,d)∈DT BH l):∃x∈l,x.1=s/\d=x.2.map λq=>BH q.1:=by
 obtain⟨x,h1,h2⟩:=DK.1 h
 cases h2;exact⟨x,h1,rfl,rfl⟩
theorem Dj(BH:Nat->List Nat)(l:List GW):(DT BH l).map (·.1)=l.map (·.1):=by unfold DT;rw[WL];rfl
structure ZR (S:Ap)(Z:HJ):Prop where
 len:Z.length=S.S
 rd:∀(i:Nat) (d:List Nat),Z[i]?=some d->S.rd (i:Int)=d
structure rn (S AB:Ap)(k e:Nat)(Z IT:HJ):Prop where
 sm:Sm S AB
 bd:Bd AB (k+4000)
 pw:AB.down=true↔e=50
 ln:IT.length=Z.length
 ex:∃DH AT,BE {AB with A:=DH,last:=AT}/\JS {AB with A:=DH,last:=AT}/\AT<AB.next/\(e≠50->DH=AB.A/\AT=AB.last)/\(ZR {AB with A:=DH,last:=AT} Z/\e≠0\/ZR {AB with A:=DH,last:=AT} IT/\(e=0\/e=50))
section
variable {AB:Ap}{o:WO}
theorem ZR.same{DH:DM}{AT:Nat}(z:ZR S Z)(s:Sm S AB)(h:∀s,({AB with A:=DH,last:=AT}:Ap).rd s=S.rd s):ZR {AB with A:=DH,last:=AT} Z:=⟨z.len.trans s.CZ.symm,λi d hi=>by rw[h];exact z.rd i d hi⟩
theorem Aly(h:o= .done 0\/o= .full\/o= .pow):(NU o=50↔o= .pow)/\(NU o=0↔o= .done 0):=by rcases h with rfl|rfl|rfl<;>simp[NU]
theorem rn.append{l:List GW}(m:LU (DT BH l) S AB o)(a:BE S)(q:JS S)(bd:Bd S k)(hk:k<900000000)(hS:S.S<=12)(z:ZR S Z)(KZ:S.down=false)(hl:l.length<=12)(hd:∀(i:Nat) (s:Int) (b o c:Nat),l[i]?=some (s,some (b,o,c))->(BH b).length=S.D.sz)(hc:Ff S.S S.down (l.map (·.1))=0):rn S AB k (NU o) Z (Zm S.D.sz BH Z l):=by
 have ho:o= .done 0\/o= .full\/o= .pow:=by
  cases m with
  |ok _ _=>exact .inl rfl
  |bad _ h=>exact .inr h
  |WX _ _ h=>exact .inr h
 obtain⟨e1,e2⟩:=Aly ho;have hr:∀y∈DT BH l,0<=y.1/\y.1<(S.S:Int):=λy hy=>Wz hc y.1 (by rw[<-Dj BH l];exact DK.2 ⟨y,hy,rfl⟩);have hn:((DT BH l).map (·.1)).Nodup:=by rw[Dj];exact(ad0 hc).1
 have ZF:∀x∈l,0<=x.1/\x.1<(Z.length:Int):=λx hx=>by rw[z.len];exact Wz hc x.1 (DK.2 ⟨x,hx,rfl⟩)
 have hg:(DT BH l).length<=12:=by unfold DT;rw[DC];exact hl
 obtain⟨-,-,p,-⟩:=m.inv a hr;have sm:=m.sm a;have TE:∀s d,(s,some d)∈DT BH l->d.length=S.D.sz/\0<=s/\s<S.S:=λs d hm=>by
  refine⟨?_,hr _ hm⟩;obtain⟨x,x1,x2,x3⟩:=Agu hm;obtain⟨i,hi,ei⟩:=ah x1;obtain⟨EU,w⟩:=x
  cases w with
  |none=>cases x3
  |some w=>
   obtain⟨b,o,c⟩:=w
   cases x3;exact hd i EU b o c (by rw[DA hi,ei])
 obtain⟨DH,AT,h1,h2,h3,h4,h5⟩:=m.mq a bd hk hS hg hr hn TE q;refine⟨sm,m.bd a bd hg,?_,Xi ..,DH,AT,h1,h2,h3,λh=>h4 λe=>h (e1.2 e),?_⟩;.have JW:AB.down=true↔S.down=true\/o= .pow:=p;rw[JW,KZ,e1];simp
 .rcases h5 with⟨h5,h6⟩|⟨⟨r1,r2,r3⟩,h6⟩;.exact .inl ⟨z.same sm h5,λe=>h6 (e2.1 e)⟩
  .refine .inr ⟨⟨by rw[Xi,z.len];exact sm.CZ.symm,λi d hi=>?_⟩,h6.imp e2.2 e1.2⟩;obtain⟨g1,g2⟩:=adz (sz:=S.D.sz) (BH:=BH) l Z (ad0 hc).1 ZF;by_cases hk:((i:Nat):Int)∈l.map (·.1)
   .obtain⟨x,x1,x2⟩:=DK.1 hk;have h3:=g2 x x1;rw[x2,FL,hi]at h3
    cases h3;obtain⟨EU,w⟩:=x;simp only at x2;subst x2
    cases w with
    |none=>exact r3 _ (DK.2 ⟨_,x1,rfl⟩)
    |some w=>exact r2 _ _ (DK.2 ⟨_,x1,rfl⟩)
   .rw[g1 i hk]at hi;rw[r1 _ (by rw[Dj];exact hk)];exact z.rd i d hi
end
theorem Ag1(q:BE S){D:List Int}(h:OH S.A D):∀j x,(Bf S.A D)[j]?=some x->QO S.S (S.D.nb*S.D.P) (GB (λ_=>none) (Bf S.A D) j) x:=by
 intro j x hx;have mem:∀y∈Bf S.A D,S.A y.1=some y.2:=λy hy=>by obtain⟨s,hs,rfl⟩:=DK.1 hy;obtain⟨p,hp⟩:=SV.1 ((h.mem s).1 hs);show S.A s=some (HF S.A s);unfold HF;rw[hp];rfl
 have hm:=mem x (I4 hx);obtain⟨r1,r2,b,i,g1,g2,g3,-⟩:=q.map x.1 x.2 hm;have hb:b*S.D.P+i<S.D.nb*S.D.P:=by have:=Xt S.D.P (show b+1<=S.D.nb from g2);rw[Ys]at this;omega
 refine⟨⟨r1,r2,om,om⟩,?_⟩;rintro⟨s,hs,BZ⟩;rcases F2 j s x.2 hs with h1|⟨JU,e,h1,h2,h3,h4,h5⟩;.cases h1
 .have:=mem e (I4 h2);rw[h3,h4]at this;exact BZ (q.inj _ _ _ this hm)
theorem Ap.vT{T:Ap}(hA:T.A=S.A)(hb:T.D.bl=S.D.bl)(hP:T.D.P=S.D.P/\T.D.sz=S.D.sz)(s:Int):T.rd s=S.rd s:=by unfold Ap.rd;rw[hA,hb,hP.1,hP.2]
theorem ZR.of{T:Ap}(z:ZR S Z)(hS:T.S=S.S)(h:∀s,T.rd s=S.rd s):ZR T Z:=⟨z.len.trans hS.symm,λi d hi=>by rw[h];exact z.rd i d hi⟩
theorem Ag2{nb P sz en S:Nat}{CD:Nat->Bool}(h0:2<=nb/\nb<=44)(h1:2<=P/\P<=6)(h2:12<=sz/\sz<=50)(h3:1<=en/\en<=1048576):BE (Ap.IJ (Dv.new nb P sz en CD) S (λ_=>none) 1 0 [] [])/\JS (Ap.IJ (Dv.new nb P sz en CD) S (λ_=>none) 1 0 [] [])/\Bd (Ap.IJ (Dv.new nb P sz en CD) S (λ_=>none) 1 0 [] []) k/\ZR (Ap.IJ (Dv.new nb P sz en CD) S (λ_=>none) 1 0 [] []) (List.replicate S (List.replicate sz 0)):=by
 have TN:∀k,(Ap.IJ (Dv.new nb P sz en CD) S (λ_=>none) 1 0 [] []).BT k= -1:=λk=>by cases k<;>rfl
 have SI:∀b,(Ap.IJ (Dv.new nb P sz en CD) S (λ_=>none) 1 0 [] []).ps b=1:=λb=>by show(if((b:Nat):Int)∈([]:List Int)++[]then 3 else 1)=1;simp
 refine⟨⟨⟨h0,h1,h2,h3⟩,rfl,BD _,⟨λk=>⟨λh=>?_,?_⟩,λk h=>?_⟩,λb _=>CN _,λb _ h=>?_,λb _ _=>rfl,λy h=>?_,λh=>?_,λh=>?_,λs p h=>?_,λs EU p h=>?_⟩,⟨[],[],⟨λb j _ hj=>absurd hj (OD _),λr hr=>(by cases hr),λr hr=>(by cases hr)⟩,λr hr=>(by cases hr),λr hr=>(by cases hr),λr hr=>(by cases hr),λr hr=>(by cases hr),.inl rfl,rfl,λj x h=>TS,λs p h=>?_⟩,⟨?_,λb n h=>?_,λb=>?_,?_,CN _⟩,VA,λi d hi=>?_⟩;.rw[TN]at h;omega
 .rw[TN];omega
 .rw[TN]at h;omega
 .rw[SI]at h;omega
 .have h:decide (y∈([]:List Int))=true:=h;simp at h
 .have h:(0:Int)<= -1:=h;omega
 .have h:(0:Int)<= -1:=h;omega
 .have h:(none:Option Int)=some p:=h;cases h
 .have h:(none:Option Int)=some p:=h;cases h
 .have h:(none:Option Int)=some p:=h;cases h
 .show 0<1;omega
 .have h:(none:Option Nat)=some n:=h;cases h
 .show(if b<nb then 0 else 0)<=k;split<;>omega
 .show 1<=k+1;omega
 .rw[List.getElem?_replicate]at hi;split at hi;.cases hi;rfl
  .cases hi
theorem Ag3{T:Ap}{Hs Cs:List Rc}{js ds:List Int}(q:GI T Hs Cs)(a:BE T)(ok:T.D.Ok)(b:T.next<=k+1/\T.D.n<=k/\1048576<=k/\k<890000000)(ED:T.D.off=false)(hS:T.S<=12)(f:Yx T.D js ds)(hJ:∀b:Nat,(b:Int)∈js↔∃r∈Cs,∃i,i<r.n T.D.sz/\∃j,On T b j (r.pg T.D.sz i)):BE (Ap.IJ T.D T.S T.A (Bn (Af T.D)) T.last js ds)/\JS (Ap.IJ T.D T.S T.A (Bn (Af T.D)) T.last js ds)/\Bd (Ap.IJ T.D T.S T.A (Bn (Af T.D)) T.last js ds) (k+100):=by
 have hn:T.next<950000000:=om
 obtain⟨h1,h2⟩:=q.bM a ED hn hS f hJ;obtain⟨-,g2,-⟩:=q.seq a hn;refine⟨h1,h2,q.last a hn,λb n h=>?_,λi=>?_,?_,?_⟩;.have h:(none:Option Nat)=some n:=h;cases h
 .show(if i<T.D.nb then(T.D.bl i).er else 0)<=k+100;split;.rename_i hi;have:=(ok.bl i hi).er;have:=a.CT.en;omega
  .omega
 .show Bn (Af T.D)<=k+100+1;omega
 .show T.D.n<=k+100;omega
theorem yS{p:Prop}(h:p:=by
 refine AK ?_ (c:=W5 L)
 rintro _ _ ⟨z1,rfl,rfl⟩
 refine AK ?_ (c:=W5 L)
 rintro _ _ ⟨z2,rfl,rfl⟩
 refine AK ?_ (c:=Alb L (m:=z1) (n:=z2) AG)
 rintro _ _ ⟨z3,rfl,rfl⟩
 refine ret X.f231.1 ?_
 exact⟨_,rfl,AH⟩):p:=h
abbrev KU:=Nat×Nat×Nat×Nat
def WZ(c:KU):List AV:=[AN c.1,AN c.2.1,AN c.2.2.1,AN c.2.2.2]
def JK(x:KU×Nat):List AV:=[AN x.1.1,AN x.1.2.1,AN x.1.2.2.1,AN x.1.2.2.2,AN x.2]
structure Zj (c:KU):Prop where
 p:1<=c.2.2.1/\c.2.2.1<=512
 v:c.2.1<=c.2.2.1
 a:c.2.2.2<=1099511627776
theorem aq8{a:Nat}(hp:1<=p/\p<=512)(hv:v<=p)(ha:a<=1099511627776):CL L 229 [.agg [AN b,AN v,AN p,AN a]] h λu AA=>u= .bool true/\K0 h AA:=by refine Aj L X.f229 λQ x cs G=>?_;refine ret X.f229.1 ?_;exact⟨rfl,AH⟩
theorem Y5{x:Int}:CL L 290 [AI x] h λu AA=>u= .bool false/\AA=h:=by refine Aj L X.f290 λQ x cs G=>?_;refine ret X.f290.1 ?_;exact⟨rfl,rfl⟩
theorem U5{a:Nat}(hp:1<=p/\p<=512)(hv:v<=p)(ha:a<=1099511627776):CL L 259 [.agg [AN b,AN v,AN p,AN a]] h λu AA=>∃x y:Nat,u= .agg [AN x,AN y]/\x<=562949953421312/\y<=1024/\K0 h AA:=by
 have hm:(p- v)*a<=512*1099511627776:=NB om ha;refine Aj L X.f259 λQ x cs G=>?_;by_cases h0:v=0;.subst h0;refine ret X.f259.1 ?_;exact⟨1,0,rfl,om,om,AH⟩
 .refine ret X.f259.1 ?_;exact⟨(p- v)*a,2*v,rfl,om,om,AH⟩
theorem W5{n:Nat}:CL L 260 [AN m,AN n] h λu AA=>∃z:Int,u=AI z/\AA=h:=by
 refine Ad L X.f260 λQ x cs G=>?_;refine AK ?_ (c:=Y5 L);rintro _ rfl;refine AK ?_ (c:=Y5 L);rintro _ rfl;by_cases h1:m<n;.refine ret X.f260.1 ?_;exact⟨_,rfl,rfl⟩
 .by_cases h2:n<m;.refine ret X.f260.1 ?_;exact⟨_,rfl,rfl⟩
  .refine ret X.f260.1 ?_;exact⟨_,rfl,rfl⟩
theorem Alb{m n:Int}(k:Bk h b [AI m,AI n]):CL L 261 [.AE b 0 2 2] h λu AA=>∃z:Int,u=AI z/\AA=h:=by
 refine Aj L X.f261 λQ x cs G=>?_;refine wk ?_;refine Bi L ?_;by_cases h1:m=0
 .subst h1;refine wk ?_;refine Bs L ?_;by_cases h2:n=0;.subst h2;refine wk ?_;refine Bs L ?_;refine ret X.f261.1 ?_;exact⟨_,rfl,rfl⟩
  .refine ret X.f261.1 ?_;exact⟨_,rfl,rfl⟩
 .refine ret X.f261.1 ?_;exact⟨_,rfl,rfl⟩
theorem Af9{P:Program}{k:DO}{l:CJ}{ro:Option Nat}(L:Lg P E F K){a1 a2 a3 a4 a5 a6 a7 a8 a9:Alt}(g1:Bh P E Q a1.pre a1.By a1.l k fn nt (AJ l) ds AL ro cs h)(g2:Bh P E Q a2.pre a2.By a2.l k fn nt (AJ l) ds AL ro cs h)(g3:Bh P E Q a3.pre a3.By a3.l k fn nt (AJ l) ds AL ro cs h)(g4:Bh P E Q a4.pre a4.By a4.l k fn nt (AJ l) ds AL ro cs h)(g5:Bh P E Q a5.pre a5.By a5.l k fn nt (AJ l) ds AL ro cs h)(g6:Bh P E Q a6.pre a6.By a6.l k fn nt (AJ l) ds AL ro cs h)(g7:Bh P E Q a7.pre a7.By a7.l k fn nt (AJ l) ds AL ro cs h)(g8:Bh P E Q a8.pre a8.By a8.l k fn nt (AJ l) ds AL ro cs h)(g9:Bh P E Q a9.pre a9.By a9.l k fn nt (AJ l) ds AL ro cs h):
  Good P E Q ⟨⟨fn,nt,AJ l,.code (.alts [a1,a2,a3,a4,a5,a6,a7,a8,a9])::k,ds,.run,AL,ro⟩,cs,h⟩:=
 Ajk L λa ha=>by
  simp only[DD,List.not_mem_nil,or_false]at ha
  rcases ha with e|e|e|e|e|e|e|e|e<;>subst e<;>assumption
include L
theorem aie{h0:H}{n2 n3 n5 n6 a:Nat}{x:EW}{lq:CJ}(l1:x1<=562949953421312)(l2:y1<=1024)(l3:x2<=562949953421312)(l4:y2<=1024)(k2:Bk h n2 [AN b,AN v,AN p,AN a])(k3:Bk h n3 [AN AR,AN AQ,AN JW,AN BC])(k5:Bk h n5 [Zi,Zi])(k6:Bk h n6 [Zi,Zi])(hn:h0.n<=n5/\h0.n<=n6/\n5≠n6/\n2≠n5/\n2≠n6/\n3≠n5/\n3≠n6)(k0:K0 h0 h)(ht:FY (AJ [(10,some (.agg [AN x2,AN y2])),(8,some (.agg [AN x1,AN y1])),(6,some (.ptr n6 0)),(5,some (.ptr n5 0)),(3,some (.ptr n3 0)),(2,some (.ptr n2 0))]) (AJ lq))(G:∀(v:AV) (AA:H),(∃z,v=AI z/\K0 h0 AA)->GO P0 E Q (finish v cs AA x)):Good P0 E Q ⟨⟨231,oA.ntmps,AJ lq,[.drawn ⟨⟨Cs 2 5 8,[5,8]⟩,[],[]⟩ [⟨⟨Cs 2 6 10,[6,10]⟩,[],[]⟩],.code ac1],[],.run,false,none⟩,x::cs,hp h.n h.t []⟩:=by
 refine D0 L ht ?_;obtain⟨e1,e2,e3,e4,e5,e6,e7⟩:=hn;have XD:x1*y2<=562949953421312*1024:=NB l1 l4;have bV:x2*y1<=562949953421312*1024:=NB l3 l2;(apply Ut L rfl rfl rfl rfl rfl rfl rfl;exact AG;rfl;intro h9 YT;(repeat(first|(apply B4 rfl rfl;exact XM)|(apply Yg rfl rfl)));(first|(apply eZ;exact By)|(refine Wb L ?_ rfl ?_;exact By));refine Tx L YT ?_);by_cases ld:y1=0
 .subst ld;by_cases bh:y2=0;.subst bh;exact yS
  .refine ret X.f231.1 ?_;exact⟨_,rfl,AH⟩
 .by_cases bh:y2=0;.subst bh;refine ret X.f231.1 ?_;exact⟨_,rfl,AH⟩
  .by_cases hxy:x1*y2=x2*y1;.exact yS
   .refine AK ?_ (c:=W5 L);rintro _ _ ⟨z1,rfl,rfl⟩;refine ret X.f231.1 ?_;exact⟨_,rfl,AH⟩
theorem D2(h0:H)(n5 n6:Nat){a:Nat}{x:EW}{lq:CJ}(l1:x1<=562949953421312)(l2:y1<=1024)(l3:x2<=562949953421312)(l4:y2<=1024)(G:∀(v:AV) (AA:H),(∃z,v=AI z/\K0 h0 AA)->GO P0 E Q (finish v cs AA x))(k2:Bk h h0.n [AN b,AN v,AN p,AN a])(k3:Bk h (h0.n+1) [AN AR,AN AQ,AN JW,AN BC])(k5:Bk h n5 [Zi,Zi]:=by exact AG)(k6:Bk h n6 [Zi,Zi]:=by exact AG)(hn:h0.n<=n5/\h0.n<=n6/\n5≠n6/\h0.n≠n5/\h0.n≠n6/\h0.n+1≠n5/\h0.n+1≠n6:=by omega)(k0:K0 h0 h:=by exact AH)(ht:FY (AJ [(10,some (.agg [AN x2,AN y2])),(8,some (.agg [AN x1,AN y1])),(6,some (.ptr n6 0)),(5,some (.ptr n5 0)),(3,some (.ptr (h0.n+1) 0)),(2,some (.ptr h0.n 0))]) (AJ lq):=by exact BA):Good P0 E Q ⟨⟨231,oA.ntmps,AJ lq,[.drawn ⟨⟨Cs 2 5 8,[5,8]⟩,[],[]⟩ [⟨⟨Cs 2 6 10,[6,10]⟩,[],[]⟩],.code ac1],[],.run,false,none⟩,x::cs,h⟩:=aie L l1 l2 l3 l4 k2 k3 k5 k6 hn k0 ht G
theorem Aga{a:Nat}(hp:1<=p/\p<=512)(hv:v<=p)(ha:a<=1099511627776)(lR:1<=JW/\JW<=512)(dy:AQ<=JW)(ha':BC<=1099511627776):CL L 231 [.agg [AN b,AN v,AN p,AN a],.agg [AN AR,AN AQ,AN JW,AN BC]] h λu AA=>∃z:Int,u=AI z/\K0 h AA:=by
 refine Ad L X.f231 λQ x cs G=>?_;refine wk ?_;refine Af9 L ?_ ?_ ?_ ?_ ?_ ?_ ?_ ?_ ?_<;>(refine wk ?_;refine AK (c:=U5 L hp hv ha) (g:=?_);rintro _ h2 ⟨x1,y1,rfl,l1,l2,k2⟩;have n2:=k2.n;simp only[Ag]at n2;refine wk ?_;refine AK (c:=U5 L lR dy ha') (g:=?_);rintro _ h3 ⟨x2,y2,rfl,l3,l4,k3⟩;have n3:=k3.n;simp only[Ag]at n3;refine wk ?_);.exact D2 L h (h.n+1+1) (h.n+1+1+1) l1 l2 l3 l4 G AG AG
 .exact D2 L h (h.n+1+1) (h2.n) l1 l2 l3 l4 G AG AG
 .exact D2 L h (h.n+1+1) (h3.n) l1 l2 l3 l4 G AG AG
 .exact D2 L h (h2.n) (h.n+1+1) l1 l2 l3 l4 G AG AG
 .exact D2 L h (h2.n) (h2.n+1) l1 l2 l3 l4 G AG AG
 .exact D2 L h (h2.n) (h3.n) l1 l2 l3 l4 G AG AG
 .exact D2 L h (h3.n) (h.n+1+1) l1 l2 l3 l4 G AG AG
 .exact D2 L h (h3.n) (h2.n) l1 l2 l3 l4 G AG AG
 .exact D2 L h (h3.n) (h3.n+1) l1 l2 l3 l4 G AG AG
omit L
theorem yT{p:Prop}(h:p:=by
 refine wk ?_
 refine ih _ _ _ ⟨by rw[JG,e0];exact YB.app (R:=[]) uc om rfl,AH⟩ ?_
 exact BA):p:=h
theorem li:∀{lv c:List AV},lv.length<=c.length->Yj lv c=some (lv++c.drop lv.length)
 | [],c,_=>by simp[Yj]
 |_::_,[],h=>by simp at h
 |v::lv,_::c,h=>by have:=li (lv:=lv) (c:=c) (by simp only[FX]at h;omega);simp only[Yj,this];simp
theorem Y6{lv:List AV}:∀(p:List AV) {c r:List AV},Lv lv c 0=some r->Lv lv (p++c) p.length=some (p++r)
 | [],c,r,h=>h
 |a::p,c,r,h=>by show(match Lv lv (p++c) p.length with|some x=>some (a::x)|none=>none)=_;rw[Y6 p h];rfl
theorem U6{α:Type}{f:α->List AV}{l:List α}(hk:∀x∈l,(f x).length=k){y:α}(hy:(f y).length=k)(hj:j<l.length):Lv (f y) (l.flatMap f) (j*k)=some ((l.set j y).flatMap f):=by
 have e:l=l.take j++l[j]::l.drop (j+1):=by rw[<-ST hj,fK]
 have e2:l.set j y=l.take j++y::l.drop (j+1):=by rw[List.set_eq_take_append_cons_drop,AP hj]
 have hl:((l.take j).flatMap f).length=j*k:=by rw[B8 (k:=k) _ λx hx=>hk x (cO hx),IS];congr 1;omega
 rw[e2];conv=>lhs;rw[e]
 rw[OX,OX,<-hl];refine Y6 _ ?_;have hx:(f l[j]).length=k:=hk _ (LC hj);rw[KP,KP];have h0:∀c:List AV,Lv (f y) c 0=Yj (f y) c:=λc=>by cases c<;>rfl
 rw[h0,li eF,List.drop_append,hy,<-hx,List.drop_length,Xq];rfl
structure YB (h:H)(lo:Nat)(v:AV)(R:List (KU×Nat)):Prop where
 ex:(R=[]/\v= .AS)\/(0<R.length/\∃b,v= .AE b 0 R.length (Aa+5)/\Bk h b (R.flatMap JK)/\lo<=b)
theorem YB.k0{v:AV}{R:List (KU×Nat)}(q:YB h lo v R)(k:K0 h AA):YB AA lo v R:=by exact nU
theorem YB.app{n:Nat}{R:List (KU×Nat)}{x:KU×Nat}(hb:Bk h N (R.flatMap JK++JK x))(HX:lo<=N)(hn:R.length=n):YB h lo (.AE N 0 (n+1) (Aa+5)) (R++[x]):=⟨.inr ⟨by simp,N,by simp[hn],by rw[OX];simpa using hb,HX⟩⟩
theorem Ic(R:List (KU×Nat)):∀x∈R,(JK x).length=5:=λ_ _=>rfl
theorem Sw(b v p a i:Nat):JK ((b,v,p,a),i)=[AN b,AN v,AN p,AN a,AN i]:=rfl
def NN(x:KU×Nat):Bool:=decide (x.1.2.1<x.1.2.2.1)
section
include L
variable {P:Program}{n:Nat}{t:T DV}{lh:SA}{k:DO}{post:OF}
theorem W6{f:Nat}{tm Yo:T AV}{ps:List Nat}{a bd:CC}{d:Nat}{st:LS}{pd:Option CC}{z:EW}(hl:H.get (hp n t lh) lp=some (.loop ⟨st,pd,f,nt,Yo,ps,a,bd,d⟩))(hG:∀v AA,post v AA->GO P0 E Q (finish v cs AA z))(p:post (.bool false) (hp n t ((lp,some (.loop ⟨.done,some .ret,f,nt,Yo,ps,a,bd,d⟩))::lh))):Good P0 E Q ⟨⟨fn,nt,tm,.code .ret::k,ds,.run,false,some lp⟩,z::cs,hp n t lh⟩:=by refine A5 L ?_;have hb:Nat.beq nt nt=true:=OE nt;simp only[Ev.step,B0,Cf,leave,hl,hb,Of];exact hG _ _ p
end
include L
theorem Agb{y:KU×Nat}:CL L 233 [.agg (JK y)] h λu AA=>u= .bool (NN y)/\K0 h AA:=by
 obtain⟨⟨b,v,p,a⟩,i⟩:=y;rw[Sw];by_cases hv:v<p;.refine Aj L X.f233 λQ x cs G=>?_;refine ret X.f233.1 ?_;exact⟨by unfold NN;rw[CM hv];rfl,AH⟩
 .refine Aj L X.f233 λQ x cs G=>?_;refine ret X.f233.1 ?_;exact⟨by unfold NN;rw[CW hv];rfl,AH⟩
theorem Alc{y z:KU×Nat}(hy:Zj y.1)(hz:Zj z.1):CL L 230 [.agg (JK y),.agg (JK z)] h λu AA=>∃w:Int,u=AI w/\K0 h AA:=by obtain⟨⟨b,v,p,a⟩,i⟩:=y;obtain⟨⟨AR,AQ,JW,BC⟩,FB⟩:=z;obtain⟨q1,q2,q3⟩:=hy;obtain⟨r1,r2,r3⟩:=hz;rw[Sw,Sw];refine Ad L X.f230 λQ x cs G=>?_;refine AK ?_ (c:=Aga L q1 q2 q3 r1 r2 r3);rintro _ h2 ⟨w,rfl,k2⟩;refine ret X.f230.1 ?_;exact⟨w,rfl,AH⟩
theorem Abh{R:List (KU×Nat)}(kb:Bk h b (R.flatMap JK))(hl:R.length<=100):CL L 232 [.AE b 0 R.length cap,.fn (.func 233) [] []] h λv AA=>YB AA h.n v (R.filter NN)/\K0 h AA:=by
 refine Ad L X.f232 λQ x cs G=>?_;refine wk ?_;refine Bt L (α:=AV) (T:=λi w=>[(9,some (AN i)),(8,some (AN R.length)),(7,some (.AE b 0 R.length cap)),(4,some w),(1,some (.fn (.func 233) [] []))]) (n:=R.length) (R:=λi w h2=>YB h2 h.n w ((R.take i).filter NN)/\K0 h h2) (i0:=0) .AS BA ⟨⟨.inl ⟨rfl,rfl⟩⟩,AH⟩ (CN _) ?_ ?_
 .rintro i w h2 hi ⟨r2,k2⟩ ih;have PJ:=Ab k2 kb;have hx:R[i]?=some R[i]:=DA hi;have DF:=A7 R (Ic R) i R[i] hx;have JG:(R.take (i+1)).filter NN=(R.take i).filter NN++if NN R[i]=true then[R[i]]else[]:=by rw[LO,hx,jO];congr 1;simp only[Option.toList,RT,List.filter_nil]
  generalize R[i]=y at DF JG;obtain⟨⟨c1,c2,c3,c4⟩,c5⟩:=y;rw[Sw]at DF;refine wk ?_;refine BO L (A0 (Bk.rk uc) DF rfl) ?_;refine AK ?_ (c:=Agb L (y:=((c1,c2,c3,c4),c5)));rintro _ h3 ⟨rfl,k3⟩;have n3:=k3.n;simp only[Ag]at n3
  cases hu:NN ((c1,c2,c3,c4),c5)with
  |false=>rw[hu,AM W0,MO]at JG;refine wk ?_;refine ih w _ _ ⟨by rw[JG];exact r2.k0 za,AH⟩ ?_;exact BA
  |true=>
   rw[hu,AP rfl]at JG;have BX:((R.take i).filter NN).length<=100:=EM (V0 _ _) bm;rcases r2.ex with⟨e0,rfl⟩|⟨hp,nb,rfl,w1,w2⟩;.refine wk ?_;(apply IQ L rfl;exact D1 (new:=JK ((c1,c2,c3,c4),c5)) rfl rfl (CG.of (c:=JK ((c1,c2,c3,c4),c5)) uc (BD _) rfl) om om;rfl);exact yT
   .have lw:=w1.lt;refine wk ?_;(apply IQ L rfl;exact D7 (old:=((R.take i).filter NN).flatMap JK) (new:=JK ((c1,c2,c3,c4),c5)) rfl rfl (CG.of (c:=((R.take i).filter NN).flatMap JK) uc (by rw[B8 _ (Ic _)];omega) k1b) (CG.of (c:=JK ((c1,c2,c3,c4),c5)) uc (BD _) rfl) om om (by rfl);rfl);refine wk ?_;refine ih _ _ _ ⟨by rw[JG];exact YB.app uc om rfl,AH⟩ ?_;exact BA
 .rintro w h2 ⟨r2,k2⟩;rw[NA]at r2;refine ret X.f232.1 ?_;exact⟨r2.k0 AH,AH⟩
omit L in
theorem am1{α:Type}{R:List α}(h0:0<j)(hj:j<R.length):((R.set j (R[j- 1]'om)).set (j- 1) R[j]).Perm R:=by
 have e:R=R.take (j- 1)++R[j- 1]::R[j]::R.drop (j+1):=by have h1:=fK (j- 1) R;rw[ST (show j- 1<R.length from om),ST (show j- 1+1<R.length from om)]at h1;simp only[Nat.sub_add_cancel h0]at h1;exact h1.symm
 generalize hx:R[j- 1]=x at e ⊢;generalize hy:R[j]=y at e ⊢;have hl:(R.take (j- 1)).length=j- 1:=by rw[IS];omega
 generalize R.take (j- 1)=A at e hl;generalize R.drop (j+1)=B at e;subst e;have e1:(A++x::y::B).set j x=A++x::x::B:=by
  rw[List.set_append_right _ _ om,hl];have:j- (j- 1)=1:=om
  rw[this];rfl
 have e2:(A++x::x::B).set (j- 1) y=A++y::x::B:=by rw[List.set_append_right _ _ om,hl,Xq];rfl
 rw[e1,e2];exact(List.Perm.swap x y B).append_left A
theorem Agc{R:List (KU×Nat)}(kb:Bk h b (R.flatMap JK))(hl:0<R.length/\R.length<=100)(hR:∀x∈R,Zj x.1):CL L 291 [.AE b 0 R.length cap,Zi,AN R.length,.fn (.func 230) [] []] h λv AA=>∃Tz:List (KU×Nat),Tz.Perm R/\Bk AA b (Tz.flatMap JK)/\Kp (λj=>j=b) h AA:=by
 refine Mc L X.f291 λQ x cs G=>?_;refine wk ?_;refine Bt L (α:=List (KU×Nat)) (T:=λi w=>[(8,some (AN i)),(0,some (.AE b 0 R.length cap)),(1,some Zi),(2,some (AN R.length)),(3,some (.fn (.func 230) [] []))]) (n:=R.length) (R:=λi w h2=>w.Perm R/\Bk h2 b (w.flatMap JK)/\Kp (λj=>j=b) h h2) (i0:=1) R BA ⟨.refl _,AG,AH⟩ om ?_ ?_
 .rintro i w h2 hi ⟨r2,PJ,k2⟩ ih;have hw:=r2.length_eq;refine wk ?_;refine Bt L (α:=List (KU×Nat)) (T:=λm w=>[(9,some (AN (i- m))),(8,some (AN i)),(0,some (.AE b 0 R.length cap)),(1,some Zi),(2,some (AN R.length)),(3,some (.fn (.func 230) [] []))]) (n:=i) (R:=λm w h2=>w.Perm R/\Bk h2 b (w.flatMap JK)/\Kp (λj=>j=b) h h2) (i0:=0) w BA ⟨r2,AG,AH⟩ (CN _) ?_ ?_
  .rintro m w h3 hm ⟨r3,aQ,k3⟩ pQ;have n3:=k3.n;have lb3:=aQ.lt;have hw3:=r3.length_eq;obtain⟨j,hj⟩:∃j,i- m=j:=⟨_,rfl⟩;rw[hj];have YP:0<j/\j<w.length:=om;have x1:w[j]?=some w[j]:=DA om;have x2:w[j- 1]?=some w[j- 1]:=DA om;have d1:=A7 w (Ic w) j w[j] x1;have d2:=A7 w (Ic w) (j- 1) w[j- 1] x2;have c1:=hR w[j] (r3.subset (LC _));have c2:=hR w[j- 1] (r3.subset (LC _));refine wk ?_;(apply B4 rfl rfl;exact A0 (Bk.rk uc) d1 rfl);refine wk ?_;(apply B4 rfl rfl;exact A0 (Bk.rk uc) d2 rfl);refine AK ?_ (c:=Alc L c1 c2);rintro _ h4 ⟨z,rfl,k4⟩;by_cases hz:z<0;.refine wk ?_;(apply B4 rfl rfl;exact A0 (Bk.rk uc) d2 rfl);refine wk ?_;(apply B4 rfl rfl;exact A0 (Bk.rk uc) d1 rfl);refine wk ?_;(apply Ut L rfl rfl rfl rfl rfl rfl rfl;exact AG;exact U6 (f:=JK) (k:=5) (Ic w) rfl YP.2;intro h9 YT;(repeat(first|(apply B4 rfl rfl;exact XM)|(apply Yg rfl rfl)));(first|(apply eZ;exact By)|(refine Wb L ?_ rfl ?_;exact By));refine Tx L YT ?_);(apply y7 L rfl rfl rfl rfl rfl rfl rfl;exact AG;exact U6 (f:=JK) (k:=5) (l:=w.set j w[j- 1]) (Ic _) rfl pv);refine wk ?_;refine pQ ((w.set j w[j- 1]).set (j- 1) w[j]) _ _ ⟨(am1 YP.1 YP.2).trans r3,AG,AH⟩ ?_;rw[show i- (m+1)=j- 1 from om];exact BA
   .refine wk ?_;refine ih w _ _ ⟨r3,AG,AH⟩ ?_;exact BA
  .rintro w h3 ⟨r3,aQ,k3⟩;have n3:=k3.n;have lb3:=aQ.lt;refine wk ?_;refine ih w _ _ ⟨r3,AG,AH⟩ ?_;exact BA
 .rintro w h2 ⟨r2,PJ,k2⟩;refine ret X.f291.1 ?_;exact⟨w,r2,AG,AH⟩
theorem Abi{R:List (KU×Nat)}(kb:Bk h b (R.flatMap JK))(hl:0<R.length/\R.length<20)(hR:∀x∈R,Zj x.1):CL L 234 [.AE b 0 R.length cap,.fn (.func 230) [] []] h λv AA=>∃Tz:List (KU×Nat),Tz.Perm R/\Bk AA b (Tz.flatMap JK)/\Kp (λj=>j=b) h AA:=by
 have HC:CL L 262 [.AE b 0 R.length cap,AN R.length,.fn (.func 230) [] []] h λv AA=>∃Tz:List (KU×Nat),Tz.Perm R/\Bk AA b (Tz.flatMap JK)/\Kp (λj=>j=b) h AA:=by refine Bj L X.f262 λQ x cs G=>?_;refine wk ?_;refine Bi L ?_;refine AK ?_ (c:=Agc L kb ⟨hl.1,om⟩ hR);rintro _ h2 ⟨Tz,p,PJ,k2⟩;refine wk ?_;refine Bi L ?_;refine ret X.f262.1 ?_;exact⟨Tz,p,AG,AH⟩
 refine Ad L X.f234 λQ x cs G=>?_;refine AK ?_ (c:=HC);rintro _ h2 ⟨Tz,p,PJ,k2⟩;refine ret X.f234.1 ?_;exact⟨Tz,p,AG,AH⟩
omit L
theorem wA(C:List KU):∀x∈C,(WZ x).length=4:=λ_ _=>rfl
theorem Ald(b v p a:Nat):WZ (b,v,p,a)=[AN b,AN v,AN p,AN a]:=rfl
include L
theorem U7{C:List KU}(kb:Bk h b (C.flatMap WZ))(PC:cap=Aa+4)(hl:0<C.length/\C.length<20)(hC:∀c∈C,Zj c)(hu:∃x∈C.zipIdx,NN x=true):CL L 184 [.AE b 0 C.length cap] h λv AA=>∃(N:Nat) (R:List (KU×Nat)),v= .BM [.AE N 0 R.length (Aa+5),.bool true]/\h.n<=N/\R.Perm (C.zipIdx.filter NN)/\Bk AA N (R.flatMap JK)/\K0 h AA:=by
 subst PC;refine Aj L X.f184 λQ x cs G=>?_;refine wk ?_;refine Bt L (α:=AV) (T:=λi w=>[(16,some (AN i)),(15,some (AN C.length)),(14,some (.AE b 0 C.length C.length)),(4,some w)]) (n:=C.length) (R:=λi w h2=>YB h2 h.n w (C.take i).zipIdx/\K0 h h2) (i0:=0) .AS BA ⟨⟨.inl ⟨rfl,rfl⟩⟩,AH⟩ (CN _) ?_ ?_
 .rintro i w h2 hi ⟨r2,k2⟩ ih;have n2:=k2.n;have PJ:=Ab k2 kb;have hx:C[i]?=some C[i]:=DA hi;have DF:=A7 C (wA C) i C[i] hx;have ES:=hC C[i] (LC hi);have hli:(C.take i).length=i:=by rw[IS];omega
  have JG:(C.take (i+1)).zipIdx=(C.take i).zipIdx++[(C[i],i)]:=by rw[LO,hx,List.zipIdx_append,hli];simp
  generalize C[i]=y at DF JG ES;obtain⟨c1,c2,c3,c4⟩:=y;obtain⟨g1,g2,g3⟩:=ES;rw[Ald]at DF;have hlz:(C.take i).zipIdx.length=i:=by rw[List.length_zipIdx,hli]
  refine wk ?_;refine BO L (A0 (Bk.rk uc) DF rfl) ?_;refine AK ?_ (c:=aq8 L g1 g2 g3);rintro _ h3 ⟨rfl,k3⟩;have n3:=k3.n;simp only[Ag]at n3;rcases r2.ex with⟨e0,rfl⟩|⟨hp,nb,rfl,w1,w2⟩;.refine wk ?_;(apply IQ L rfl;exact D1 (new:=JK ((c1,c2,c3,c4),i)) rfl rfl (CG.of (c:=JK ((c1,c2,c3,c4),i)) uc (BD _) rfl) om om;rfl);exact yT
  .have lw:=w1.lt;refine wk ?_;(apply IQ L rfl;exact D7 (old:=(C.take i).zipIdx.flatMap JK) (new:=JK ((c1,c2,c3,c4),i)) rfl rfl (CG.of (c:=(C.take i).zipIdx.flatMap JK) uc (by rw[B8 _ (Ic _)];omega) k1b) (CG.of (c:=JK ((c1,c2,c3,c4),i)) uc (BD _) rfl) om om (by rfl);rfl);refine wk ?_;refine ih _ _ _ ⟨by rw[JG];exact YB.app uc om rfl,AH⟩ ?_;exact BA
 .rintro w h2 ⟨r2,k2⟩;rw[NA]at r2;have n2:=k2.n;rcases r2.ex with⟨e0,-⟩|⟨hp,nb,rfl,w1,w2⟩;.have:=HT List.length e0;rw[List.length_zipIdx,VB]at this;omega
  have lw:=w1.lt;have hz:C.zipIdx.length=C.length:=List.length_zipIdx;refine AK ?_ (c:=Abh L w1 om);rintro _ h3 ⟨r3,k3⟩;have n3:=k3.n;rcases r3.ex with⟨e0,-⟩|⟨hp3,nb3,rfl,w3,w4⟩;.obtain⟨x0,uO,uP⟩:=hu;have:x0∈C.zipIdx.filter NN:=JZ.2 ⟨uO,uP⟩;rw[e0]at this;cases this
  have hlf:(C.zipIdx.filter NN).length<20:=nK (V0 _ _) om;have hcR:∀x∈C.zipIdx.filter NN,Zj x.1:=λx hx=>by have:=(JZ.1 hx).1;obtain⟨a,i⟩:=x;obtain⟨-,-,e⟩:=List.mem_zipIdx this;exact hC a (by rw[e];exact LC _)
  refine AK ?_ (c:=Abi L w3 ⟨hp3,hlf⟩ hcR);rintro _ h4 ⟨Tz,p,kb4,k4⟩;have tY:=p.length_eq;refine ret X.f184.1 ?_;exact⟨nb3,Tz,by rw[tY];rfl,om,p,AG,AH⟩
theorem am2{C:List KU}(kb:Bk h b (C.flatMap WZ))(PC:cap=Aa+4)(hl:0<C.length/\C.length<20)(hC:∀c∈C,Zj c)(hu:∃x∈C.zipIdx,NN x=true):CL L 185 [.AE b 0 C.length cap] h λv AA=>∃(N M:Nat) (R:List (KU×Nat)),v= .fn (.func 235) [] [.ptr M 0]/\Bk AA M [.AE N 0 R.length (Aa+5)]/\R.Perm (C.zipIdx.filter NN)/\Bk AA N (R.flatMap JK)/\K0 h AA/\h.n<=N/\h.n<=M:=by refine Aj L X.f185 λQ x cs G=>?_;refine AK ?_ (c:=U7 L kb PC hl hC hu);rintro _ h2 ⟨N,R,rfl,hN,p,kN,k2⟩;have n2:=k2.n;refine ret X.f185.1 ?_;exact⟨N,h2.n,R,rfl,AG,p,AG,AH,hN,n2⟩
theorem aif{M:Nat}{R:List (KU×Nat)}{b0:KU×Nat}{post:H->Prop}(kM:Bk h M [.AE N 0 R.length (Aa+5)])(kN:Bk h N (R.flatMap JK))(hR:R[0]?=some b0)(hl:R.length<20)(hY:∀hh,K0 h hh->SX P0 E F K (.yield lp) [AN b0.2,.agg (WZ b0.1)] hh λu AA=>u= .bool false/\post AA):CL L 235 [.fn (.yield lp) [] [],.ptr M 0] h λv AA=>post AA:=by have DF:=A7 R (Ic R) 0 b0 hR;have h0:=(FE.1 hR).1;obtain⟨⟨c1,c2,c3,c4⟩,c5⟩:=b0;rw[Sw]at DF;refine Ad L X.f235 λQ x cs G=>?_;refine wk ?_;refine Bi L ?_;refine wk ?_;refine BO L (A0 (Bk.rk uc) DF rfl) ?_;refine wk ?_;refine Jv L rfl rfl rfl rfl rfl (hY _ za) ?_;rintro _ h3 ⟨rfl,w3⟩;refine ret X.f235.1 ?_;exact w3
noncomputable def tp(mk:Nat)(st:LS)(pd:Option CC)(l:CJ):DV:= .loop ⟨st,pd,152,o6.ntmps,AJ l,[16,17],Akw,Ae6,mk⟩
theorem am3{C:List KU}(kb:Bk h b (C.flatMap WZ))(PC:cap=Aa+4)(hl:0<C.length/\C.length<20)(hC:∀c∈C,Zj c)(hu:∃x∈C.zipIdx,NN x=true):CL L 152 [.AE b 0 C.length cap] h λv AA=>∃x∈C.zipIdx,NN x=true/\v= .BM [AN x.2,Zi]/\K0 h AA:=by
 refine Aj L X.f152 λQ x cs G=>?_;refine AK ?_ (c:=U7 L (b:=b) (C:=C) uc PC hl hC hu);rintro _ h2 ⟨apa,apc,rfl,hN0,p0,kN0,k2⟩;have n2:=k2.n;simp only[Ag]at n2;have PJ:Bk h2 b (C.flatMap WZ):=Ab k2 uc;refine AK ?_ (c:=am2 L PJ PC hl hC hu);rintro _ h3 ⟨N,M,R,rfl,kM,p,kN,k3,hN,hM⟩;have hx:∃x,R[0]?=some x:=by
  cases R with
  |nil=>obtain⟨x0,uO,uP⟩:=hu;have:x0∈C.zipIdx.filter NN:=JZ.2 ⟨uO,uP⟩;have:=p.length_eq;rw[VB]at this;exact absurd (qz ‹x0∈_›) om
  |cons x r=>exact⟨x,rfl⟩
 obtain⟨x,hx⟩:=hx;have hm:=JZ.1 (p.subset (I4 hx));have hlR:R.length<20:=by have h1:=p.length_eq;have h2:=V0 NN C.zipIdx;have h3:C.zipIdx.length=C.length:=List.length_zipIdx;omega
 refine wk ?_;refine D0 L (FV:=AJ [(15,some (.fn (.func 235) [] [.ptr M 0])),(3,some (.ptr (h.n+1) 0)),(2,some (.ptr h.n 0))]) BA ?_;refine Ew L (post:=λ_ AA=>Gk AA h3.n (.EQ (some []))/\Gk AA (h3.n+1) (tp h3.n .done (some .ret) [(15,some (.fn (.func 235) [] [.ptr M 0])),(3,some (.ptr (h.n+1) 0)),(2,some (.ptr h.n 0))])/\Bk AA h.n [AN x.2]/\Bk AA (h.n+1) [Zi]/\K0 h AA) rfl rfl rfl ?_ ?_;.refine Ct.A ((aif L (R:=R) (b0:=x) uc uc hx hlR (λhh k=>?_)).mono λv AA p=>p);have ad8:=k.n;simp only[Ag]at ad8;have d1:Gk hh h3.n (.EQ (some [])):=C4 k XJ;have d2:Gk hh (h3.n+1) (tp h3.n .ready none [(15,some (.fn (.func 235) [] [.ptr M 0])),(3,some (.ptr (h.n+1) 0)),(2,some (.ptr h.n 0))]):=C4 k (by unfold tp;exact CS);have q1:Bk hh h.n [Zi]:=Ab k uc;have q2:Bk hh (h.n+1) [Zi]:=Ab k uc;have k0:K0 h hh:=Kp.EA k za;have hle:=d2.e;unfold tp at hle;have g1:=d1.lt;have g2:=d2.lt;have g3:=q1.lt;have g4:=q2.lt;refine Du L (l1:=[(17,some (.agg (WZ x.1))),(16,some (AN x.2)),(15,some (.fn (.func 235) [] [.ptr M 0])),(3,some (.ptr (h.n+1) 0)),(2,some (.ptr h.n 0))]) hle rfl ?_;intro Q z2 sI G2;refine wk ?_;refine Dh L (Gk.e CS) ?_;refine wk ?_;refine W6 L (Gk.e CS) G2 ⟨rfl,?_⟩;exact⟨CS,(by unfold tp;exact D5 om),AG,AG,AH⟩
 .rintro v h4 ⟨d1,d2,q1,q2,k4⟩;have hle:=d2.e;unfold tp at hle;have g1:=d1.lt;have g2:=d2.lt;have g3:=q1.lt;have g4:=q2.lt;refine Wi L (n:=h4.n) (t:=h4.t) (lh:=[]) hle W1 ?_;refine A5 L (show Good P0 E Q ⟨⟨_,_,_,_,_,.returning,false,none⟩,_,_⟩from ?_);refine Ex L W1 (Gk.e CS) ?_;refine C1 L X.f152.1 (Bw rfl (Bk.e AG) rfl (Bw rfl (Bk.e AG) rfl (Fl rfl))) G ⟨x,hm.1,hm.2,rfl,AH⟩
variable {B EB ab c cc mg nb pb s CZ sp:Nat}{I:Ai}{AB S0:Ap}{cv v:AV}{o:WO}{AD AF:Nat->Nat}
omit L
theorem yQ{p:Prop}(h:p:=by
 refine⟨AF,n,rfl,q0,CO.out (B:=λj=>j=h.n) ?_ (λb _ e=>by subst e;omega),BB.own (B:=λj=>j=h.n) a2 ?_ (λb e=>by subst e;exact BD _) λ_ _=>rfl⟩
 .exact AH
 .exact AH):p:=h
theorem yR{p:Prop}(h:p:=by
 rintro v AA ⟨q1,n,q2,q3⟩
 exact⟨ext BN h2.n,S,r2.own q1 (λj _ e=>by subst e;omega) λb hb=>Ae hb,⟨q1.mono λb e=> .inr e,λb hb=>Ae hb⟩,rfl,n,q2,q3⟩):p:=h
section
include L
theorem am0{ps pe:Nat->Nat}{cb:List AV}(q:Ge h p pb nb ps pe cb):CL L 119 [.ptr p 0,AN 1] h λv AA=>v=AN (LG ps 1 nb)/\AA=h:=by have hd:=q.pk;unfold W9 at hd;refine Ad L X.f119 λQ x cs G=>?_;refine AK ?_ (c:=Ir L q);rintro _ rfl;refine wk ?_;refine BO L (Hf (i:=1) rfl rfl om) ?_;refine ret X.f119.1 ?_;exact⟨rfl,rfl⟩
theorem aid{ps pe:Nat->Nat}{cb:List AV}(q:Ge h p pb nb ps pe cb):CL L 119 [.ptr p 0,AN 4] h λv AA=>v=AN (LG ps 4 nb)/\AA=h:=by have hd:=q.pk;unfold W9 at hd;refine Ad L X.f119 λQ x cs G=>?_;refine AK ?_ (c:=Ir L q);rintro _ rfl;refine wk ?_;refine BO L (Hf (i:=4) rfl rfl om) ?_;refine ret X.f119.1 ?_;exact⟨rfl,rfl⟩
def nW(f:Int->Bool)(n:Nat):Prop:=∃l:List Int,l.length=n/\l.Nodup/\∀x,x∈l↔f x=true
omit L in
theorem W4{M:OJ}{ck:Nat}{f:Int->Bool}(q:EP M ck)(h:∀k:Int,A9 M k=if f k=true then some (.bool true)else none):nW f M.length:=
 ⟨M.map (·.1),DC _,q.keys,λx=>by
  have h1:=h x
  constructor
  .intro hx
   by_cases e:f x=true
   .exact e
   .rw[AM e,qO]at h1
    obtain⟨y,hy,rfl⟩:=DK.1 hx
    unfold H9 at h1
    rw[List.any_eq_false]at h1
    exact absurd (CM rfl) (h1 y hy)
  .intro hx
   rw[AP hx]at h1
   refine nC λhn=>?_
   have:A9 M x=none:=by
    rw[qO]
    unfold H9
    rw[List.any_eq_false]
    intro y hy e
    exact hn (DK.2 ⟨y,hy,Eq.symm (by simpa using e)⟩)
   rw[this]at h1;cases h1⟩
def Ns(S:Ap)(n:Nat):Prop:=nW S.jr n
def T1(S:Ap)(n:Nat):Prop:=∃m,n=LG S.ps 4 S.D.nb+m/\nW S.su m
theorem Abf(r:BJ AD h I S)(kc:Bk h c [Zi])(hc:200<=AD c):CL L 173 [.ptr I.s 0,.ptr c 0] h λv AA=>Kp (λj=>j=c) h AA/\Bk AA c [AN (GK S)]:=by have sk:=r.sk;have KN:=r.CA;obtain⟨sC,po⟩:=r.po;unfold EX at sk;refine Ad L X.f173 λQ x cs G=>?_;refine AK ?_ (c:=am0 L po);rintro _ rfl;refine ret X.f173.1 ?_;exact⟨AH,AG⟩
theorem Af6(r:BJ AD h I S)(ka:Bk h ab [.ptr I.s 0]):CL L 145 [.ptr ab 0] h (λv AA=>∃AF,v=AN (GK S)/\BJ AF AA I S/\BB AD h AF AA):=by
 refine Aj L X.f145 λQ x cs G=>?_;refine wk ?_;have k1:K0 h (hp (h.n+1) h.t [(h.n,some (cl [Zi]))]):=AH;have KD:∀b,b<h.n->Jl AD h.n b=AD b:=λb hb=>Lf hb;have r1:BJ (Jl AD h.n) (hp (h.n+1) h.t [(h.n,some (cl [Zi]))]) I S:=r.k0 k1 KD;have a1:BB AD h (Jl AD h.n) (hp (h.n+1) h.t [(h.n,some (cl [Zi]))]):=BB.k0 k1 KD;have ML:Bk (hp (h.n+1) h.t [(h.n,some (cl [Zi]))]) h.n [Zi]:=AG;have JE:(hp (h.n+1) h.t [(h.n,some (cl [Zi]))]).n=h.n+1:=rfl
 have T0:∀BN h2,K0 (hp (h.n+1) h.t [(h.n,some (cl [Zi]))]) h2->(hp (h.n+1) h.t [(h.n,some (cl [Zi]))]).n<h2.n->(∀b,b<(hp (h.n+1) h.t [(h.n,some (cl [Zi]))]).n->BN b=Jl AD h.n b)->BJ BN h2 I S->CX L 173 (.ptr I.s 0::[.ptr h.n 0]) h2
   (λv AA=>∃AF AB,BJ AF AA I AB/\CU (λj=>j=h.n) BN h2 AF AA/\(AB=S/\Bk AA h.n [AN (GK S)]))
   (λv AA=>∃AF AB e,v= .Cm 42 (AI e)/\BJ AF AA I AB/\CU (λj=>j=h.n) BN h2 AF AA/\False):=by
  intro BN h2 k2 n2 c2 r2
  rw[JE]at n2 c2
  have TI:BN h.n=200:=(c2 _ om).trans (Gn (BD _))
  refine((Abf L r2 (Ab k2 ML) om).mono ?_).Xc
  rintro v AA ⟨q1,q2⟩
  exact⟨ext BN h2.n,S,r2.own q1 (λj _ e=>by subst e;omega) λb hb=>Ae hb,⟨q1.mono λb e=> .inr e,λb hb=>Ae hb⟩,rfl,q2⟩
 refine AK ?_ (c:=Hy L r1 (Ab k1 ka) (λb e=>by subst e;exact NQ _) T0);rintro v h2 ⟨AF,AB,h1,CO,BC,AZ,hv⟩;rw[JE]at AZ;rcases hv with⟨rfl,u,rfl,q1⟩|⟨e,rfl,q⟩
 .have a2:BB AD h AF h2:=BC.own a1 λb e=>by subst e;exact BD _
  have iv:Bk h2 h.n [AN (GK AB)]:=Ao AZ om q1;have TI:AF h.n=200:=(BC.CA _ eG).trans (Gn (BD _));refine ret X.f145.1 ?_;refine⟨AF,rfl,CO.out (B:=λj=>j=h.n) ?_ (λb _ e=>by subst e;omega),BB.own (B:=λj=>j=h.n) a2 ?_ (λb e=>by subst e;exact BD _) λ_ _=>rfl⟩;.exact AH
  .exact AH
 .exact q.elim
theorem Abg(r:BJ AD h I S)(kc:Bk h c [Zi])(hc:200<=AD c):CL L 179 [.ptr I.s 0,.ptr c 0] h λv AA=>Kp (λj=>j=c) h AA/\∃n,Ns S n/\Bk AA c [AN n]:=by have sk:=r.sk;have KN:=r.CA;unfold EX at sk;refine Ad L X.f179 λQ x cs G=>?_;obtain⟨M,ck,m1,m2,m3⟩:=r.mj.ex;refine wk ?_;refine BO L (Wc rfl m1) ?_;refine ret X.f179.1 ?_;exact⟨AH,_,W4 m2 m3,AG⟩
theorem Af7(r:BJ AD h I S)(ka:Bk h ab [.ptr I.s 0]):CL L 150 [.ptr ab 0] h (λv AA=>∃AF n,v=AN n/\Ns S n/\BJ AF AA I S/\BB AD h AF AA):=by
 refine Aj L X.f150 λQ x cs G=>?_;refine wk ?_;have k1:K0 h (hp (h.n+1) h.t [(h.n,some (cl [Zi]))]):=AH;have KD:∀b,b<h.n->Jl AD h.n b=AD b:=λb hb=>Lf hb;have r1:BJ (Jl AD h.n) (hp (h.n+1) h.t [(h.n,some (cl [Zi]))]) I S:=r.k0 k1 KD;have a1:BB AD h (Jl AD h.n) (hp (h.n+1) h.t [(h.n,some (cl [Zi]))]):=BB.k0 k1 KD;have ML:Bk (hp (h.n+1) h.t [(h.n,some (cl [Zi]))]) h.n [Zi]:=AG;have JE:(hp (h.n+1) h.t [(h.n,some (cl [Zi]))]).n=h.n+1:=rfl
 have T0:∀BN h2,K0 (hp (h.n+1) h.t [(h.n,some (cl [Zi]))]) h2->(hp (h.n+1) h.t [(h.n,some (cl [Zi]))]).n<h2.n->(∀b,b<(hp (h.n+1) h.t [(h.n,some (cl [Zi]))]).n->BN b=Jl AD h.n b)->BJ BN h2 I S->CX L 179 (.ptr I.s 0::[.ptr h.n 0]) h2
   (λv AA=>∃AF AB,BJ AF AA I AB/\CU (λj=>j=h.n) BN h2 AF AA/\(AB=S/\∃n,Ns S n/\Bk AA h.n [AN n]))
   (λv AA=>∃AF AB e,v= .Cm 42 (AI e)/\BJ AF AA I AB/\CU (λj=>j=h.n) BN h2 AF AA/\False):=by
  intro BN h2 k2 n2 c2 r2
  rw[JE]at n2 c2
  have TI:BN h.n=200:=(c2 _ om).trans (Gn (BD _))
  refine((Abg L r2 (Ab k2 ML) om).mono ?_).Xc
  exact yR
 refine AK ?_ (c:=Hy L r1 (Ab k1 ka) (λb e=>by subst e;exact NQ _) T0);rintro v h2 ⟨AF,AB,h1,CO,BC,AZ,hv⟩;rw[JE]at AZ;rcases hv with⟨rfl,u,rfl,n,q0,q1⟩|⟨e,rfl,q⟩
 .have a2:BB AD h AF h2:=BC.own a1 λb e=>by subst e;exact BD _
  have iv:Bk h2 h.n [AN n]:=Ao AZ om q1;have TI:AF h.n=200:=(BC.CA _ eG).trans (Gn (BD _));refine ret X.f150.1 ?_;exact yQ
 .exact q.elim
theorem Af8(r:BJ AD h I S)(kc:Bk h c [Zi])(hc:200<=AD c)(OM:∀k,S.su k=true->0<=k/\k<S.D.nb):CL L 118 [.ptr I.s 0,.ptr c 0] h λv AA=>Kp (λj=>j=c) h AA/\∃n,T1 S n/\Bk AA c [AN n]:=by
 have sk:=r.sk;have KN:=r.CA;unfold EX at sk;refine Ad L X.f118 λQ x cs G=>?_;obtain⟨M,ck,m1,m2,m3⟩:=r.ms.ex;obtain⟨sC,po⟩:=r.po;have hM:M.length<=S.D.nb:=by obtain⟨l,e1,e2,e3⟩:=W4 m2 m3;rw[<-e1];exact Da S.D.nb l e2 λy hy=>OM y ((e3 y).1 hy)
 have FT:=r.dv.ok.g.nb;have ZB:=Hx S.ps 4 S.D.nb;refine AK ?_ (c:=aid L po);rintro _ rfl;refine wk ?_;(apply B4 rfl rfl;exact Wc rfl m1);refine ret X.f118.1 ?_;exact⟨AH,_,⟨_,rfl,W4 m2 m3⟩,by exact AG⟩
theorem Ala(r:BJ AD h I S)(ka:Bk h ab [.ptr I.s 0])(OM:∀k,S.su k=true->0<=k/\k<S.D.nb):CL L 89 [.ptr ab 0] h (λv AA=>∃AF n,v=AN n/\T1 S n/\BJ AF AA I S/\BB AD h AF AA):=by
 refine Aj L X.f89 λQ x cs G=>?_;refine wk ?_;have k1:K0 h (hp (h.n+1) h.t [(h.n,some (cl [Zi]))]):=AH;have KD:∀b,b<h.n->Jl AD h.n b=AD b:=λb hb=>Lf hb;have r1:BJ (Jl AD h.n) (hp (h.n+1) h.t [(h.n,some (cl [Zi]))]) I S:=r.k0 k1 KD;have a1:BB AD h (Jl AD h.n) (hp (h.n+1) h.t [(h.n,some (cl [Zi]))]):=BB.k0 k1 KD;have ML:Bk (hp (h.n+1) h.t [(h.n,some (cl [Zi]))]) h.n [Zi]:=AG;have JE:(hp (h.n+1) h.t [(h.n,some (cl [Zi]))]).n=h.n+1:=rfl
 have T0:∀BN h2,K0 (hp (h.n+1) h.t [(h.n,some (cl [Zi]))]) h2->(hp (h.n+1) h.t [(h.n,some (cl [Zi]))]).n<h2.n->(∀b,b<(hp (h.n+1) h.t [(h.n,some (cl [Zi]))]).n->BN b=Jl AD h.n b)->BJ BN h2 I S->CX L 118 (.ptr I.s 0::[.ptr h.n 0]) h2
   (λv AA=>∃AF AB,BJ AF AA I AB/\CU (λj=>j=h.n) BN h2 AF AA/\(AB=S/\∃n,T1 S n/\Bk AA h.n [AN n]))
   (λv AA=>∃AF AB e,v= .Cm 42 (AI e)/\BJ AF AA I AB/\CU (λj=>j=h.n) BN h2 AF AA/\False):=by
  intro BN h2 k2 n2 c2 r2
  rw[JE]at n2 c2
  have TI:BN h.n=200:=(c2 _ om).trans (Gn (BD _))
  refine((Af8 L r2 (Ab k2 ML) om OM).mono ?_).Xc
  exact yR
 refine AK ?_ (c:=Hy L r1 (Ab k1 ka) (λb e=>by subst e;exact NQ _) T0);rintro v h2 ⟨AF,AB,h1,CO,BC,AZ,hv⟩;rw[JE]at AZ;rcases hv with⟨rfl,u,rfl,n,q0,q1⟩|⟨e,rfl,q⟩
 .have a2:BB AD h AF h2:=BC.own a1 λb e=>by subst e;exact BD _
  have iv:Bk h2 h.n [AN n]:=Ao AZ om q1;have TI:AF h.n=200:=(BC.CA _ eG).trans (Gn (BD _));refine ret X.f89.1 ?_;exact yQ
 .exact q.elim
omit L
theorem BB.bk{c:List AV}(q:BB AD h AF AA)(k:Bk h b c)(hc:AD b=0):Bk AA b c/\AF b=0:=⟨Ao q.k om k,(q.CA b k.lt).trans hc⟩
theorem BB.b2{c:List AV}(q:BB AD h AF AA)(k:Bk h b c)(hc:AD b=200):Bk AA b c/\AF b=200:=⟨Ao q.k om k,(q.CA b k.lt).trans hc⟩
include L
theorem Fg(r:BJ AD h I S)(ka:Bk h ab [.ptr I.s 0]):CL L 42 [.ptr ab 0] h λv AA=>v= .ptr I.d 0/\AA=h:=by have sk:=r.sk;unfold EX at sk;refine Aj L X.f42 λQ x cs G=>?_;refine ret X.f42.1 ?_;exact⟨rfl,rfl⟩
theorem Cu{e:Int}:CL L 44 [.bool true,.int .i64 e] h λv AA=>v= .BM []/\AA=h:=by refine Ad L X.f44 λQ x cs G=>?_;refine ret X.f44.1 ?_;exact⟨rfl,rfl⟩
theorem Fh{e:Int}:CP L 44 [.bool false,.int .i64 e] h λv AA=>v= .Cm 42 (.int .i64 e)/\AA=h:=by refine Ey L X.f44 λQ x cs G=>?_;refine wk ?_;refine Km L rfl rfl ?_;refine Ax L X.f44.1 ?_;exact G _ _ ⟨rfl,rfl⟩
theorem Nt:CL L 121 [Zi] h λv AA=>v= .BM []/\AA=h:=by refine Aj L X.f121 λQ x cs G=>?_;refine AK ?_ (c:=Cu L);rintro _ rfl;refine ret X.f121.1 ?_;exact⟨rfl,rfl⟩
theorem Nu:CP L 121 [AN 50] h λv AA=>v= .Cm 42 (AN 50)/\AA=h:=by refine Ey L X.f121 λQ x cs G=>?_;refine wk ?_;refine Eu L rfl rfl rfl rfl rfl (Fh L) ?_;rintro _ h2 ⟨rfl,rfl⟩;refine Ax L X.f121.1 ?_;exact G _ _ ⟨rfl,rfl⟩
theorem Nv{P sz en n:Nat}(hP:2<=P/\P<=6)(DE:12<=sz/\sz<=50)(hn:n<=12):CL L 87 [.agg [AN nb,AN P,AN sz,AN en],AN n] h λv AA=>v=AN ((EI sz n+P- 1)/P+1)/\K0 h AA:=by have hc:=Qz (sz:=sz) (n:=n) om om;have hd:=an (EI sz n+P- 1) P;refine Ad L X.f87 λQ x cs G=>?_;refine AK ?_ (c:=O8 L (sz:=sz) (n:=n) om om);rintro _ rfl;refine ret X.f87.1 ?_;exact⟨rfl,AH⟩
noncomputable def Zs(S:Ap)(b:Nat):KU:=(b,GT S.A S.D.P b,S.D.P,S.gC b)
omit L
theorem Sx(S:Ap)(l:List Nat):l.flatMap (QI S)=(l.map (Zs S)).flatMap WZ:=by
 induction l with
 |nil=>rfl
 |cons a r ih=>rw[KP,FU,KP,ih];rfl
theorem Ale(S:Ap)(hP:2<=S.D.P/\S.D.P<=6)(b:Nat):Zj (Zs S b):=⟨⟨by show 1<=S.D.P;omega,by show S.D.P<=512;omega⟩,Wm _ _ _,Nat.min_le_right _ _⟩
include L
theorem Agd{v a:Nat}:CL L 148 [.agg [AN b,AN v,AN p,AN a]] h λu AA=>u= .bool (decide (v=0))/\K0 h AA:=by
 by_cases hv:v=0;.subst hv;refine Aj L X.f148 λQ x cs G=>?_;refine ret X.f148.1 ?_;exact⟨rfl,AH⟩
 .refine Aj L X.f148 λQ x cs G=>?_;refine ret X.f148.1 ?_;exact⟨by rw[CW hv];rfl,AH⟩
theorem Alf{l:List Nat}(q:WU S h lo v l)(hl:l.length<=100):CL L 147 [v,.fn (.func 148) [] []] h λu AA=>((∃i b,l[i]?=some b/\GT S.A S.D.P b=0/\u=AN i)\/(u=AI (-1)/\∀b∈l,GT S.A S.D.P b≠0))/\K0 h AA:=by
 rcases q.ex with⟨rfl,rfl⟩|⟨hp,b,rfl,kb,-⟩;.refine Ad L X.f147 λQ x cs G=>?_;refine wk ?_;refine Bi L ?_;refine ret X.f147.1 ?_;exact⟨.inr ⟨rfl,λb hb=>by cases hb⟩,AH⟩
 .have lb:=kb.lt;rw[Sx]at kb;refine Ad L X.f147 λQ x cs G=>?_;refine wk ?_;refine Bt L (α:=Unit) (T:=λi _=>[(8,some (AN i)),(7,some (AN l.length)),(0,some (.AE b 0 l.length (Aa+4))),(1,some (.fn (.func 148) [] []))]) (n:=l.length) (R:=λi _ h2=>(∀b∈l.take i,GT S.A S.D.P b≠0)/\K0 h h2) (i0:=0) () BA ⟨(λb hb=>by cases hb),AH⟩ (CN _) ?_ ?_
  .rintro i _ h2 hi ⟨w2,k2⟩ ih;have PJ:=Ab k2 kb;have hx:l[i]?=some l[i]:=DA hi;have DF:=A7 (l.map (Zs S)) (wA _) i (Zs S l[i]) pj;have JG:l.take (i+1)=l.take i++[l[i]]:=ph;generalize l[i]=y at hx DF JG;have DF:i*4+4<=((l.map (Zs S)).flatMap WZ).length/\(((l.map (Zs S)).flatMap WZ).drop (i*4)).take 4=[AN y,AN (GT S.A S.D.P y),AN S.D.P,AN (S.gC y)]:=DF;refine wk ?_;refine BO L (A0 (Bk.rk uc) DF rfl) ?_;refine AK ?_ (c:=Agd L);rintro _ h3 ⟨rfl,k3⟩;by_cases hv:GT S.A S.D.P y=0;.rw[CM hv];refine ret X.f147.1 ?_;exact⟨.inl ⟨i,y,hx,hv,rfl⟩,AH⟩
   .rw[CW hv];refine wk ?_;refine ih () _ _ ⟨λb hb=>?_,AH⟩ ?_
    .rw[JG]at hb;rcases GU.1 hb with hb|hb;.exact w2 b hb
     .rw[EV.1 hb];exact hv
    .exact BA
  .rintro _ h2 ⟨w2,k2⟩;rw[NA]at w2;refine ret X.f147.1 ?_;exact⟨.inr ⟨rfl,w2⟩,AH⟩
def LH(CZ sp cc mg ab:Nat)(cv:AV)(dn ro:Bool):List AV:=[AN CZ,AN sp,AN cc,AN mg,.ptr ab 0,cv,.bool dn,.bool ro]
omit L in
theorem Lj{S:Ap}{b:Nat}:∀{n:Nat},b∈S.GQ n->b<n/\S.ps b=3/\S.jr (b:Int)=false
 |n+1,h=>by
  simp only[Ap.GQ]at h;split at h
  .rename_i e;rcases GU.1 h with h|h;.obtain⟨h1,h2⟩:=Lj h;exact⟨om,h2⟩
   .rw[EV.1 h];exact⟨NQ n,e⟩
  .obtain⟨h1,h2⟩:=Lj h;exact⟨om,h2⟩
structure rv (J:Ap->Prop)(m:Ap->Nat)(Cut:Ap->Prop)(sp c:Nat):Prop where
 b:∀S,J S->IW S/\S.down=false/\(S.last<S.next/\S.next<980000000)/\S.D.n+200000<900000000/\S.S<1000/\(∀k,S.su k=true->0<=k/\k<S.D.nb)/\(∀k,S.jr k=true->0<=k/\k<S.D.nb)/\∀b n,S.wr b=some n->n<=S.next
 bad:∀S n,J S->T1 S n->n<=sp
 vE:∀S,J S->S.D.Ok->∀b:Nat,b<S.D.nb->S.ps b=3->(S.mv b).length<=6/\S.pe b<900000000/\
   (∀i es S1 p,FG (FZ S.A) S ((S.mv b).take i) es S1->(S.mv b)[i]?=some p->jw S b i p S1)/\
   (∀es S1,FG (FZ S.A) S (S.mv b) es S1->∀j y,es[j]?=some y->QO S.S (S.D.nb*S.D.P) (GB S.A es j) y)/\
   (∀es S1 S2,FG (FZ S.A) S (S.mv b) es S1->HU es S1 S2 (.done 0)->S2.ps b=3)
 sG:∀S,J S->∀D J S1 i Si,OH S.A D->HO 3 (Bf S.A D) S.CY S1 (.done 0)->az S.jr J->KB (J.take i) S1 Si (.done 0)->∀y,J[i]?=some y->∃b:Nat,y=(b:Int)/\b<Si.D.nb/\(Si.ps b=2\/Si.ps b=3)/\Si.pe b<900000000/\Si.D.n+1<900000000
 use:∀S n k,J S->T1 S n->Ns S k->GK S+n<2*c+8+sp->k<c+2->(∀b∈S.GQ S.D.nb,GT S.A S.D.P b≠0)->(S.GQ S.D.nb).length<20/\∃b∈S.GQ S.D.nb,GT S.A S.D.P b<S.D.P
 m0:∀S AB o b,J S->S.D.Ok->(o= .done 0\/o= .full\/o= .pow)->b∈S.GQ S.D.nb->GT S.A S.D.P b=0->NE b S AB o->o= .done 0/\J AB/\m AB<m S\/o= .pow/\Cut AB
 m1:∀S AB o b n k,J S->S.D.Ok->(o= .done 0\/o= .full\/o= .pow)->T1 S n->Ns S k->GK S+n<2*c+8+sp->k<c+2->(∀b∈S.GQ S.D.nb,GT S.A S.D.P b≠0)->b∈S.GQ S.D.nb->GT S.A S.D.P b<S.D.P->NE b S AB o->o= .done 0/\J AB/\m AB<m S\/o= .pow/\Cut AB
 ck:∀S AB o n k,J S->T1 S n->Ns S k->c+2<=k->(2*c+8+sp<=GK S+n\/∀b∈S.GQ S.D.nb,GT S.A S.D.P b≠0)->QX S AB o->o= .done 0/\J AB/\m AB<m S\/o= .pow/\Cut AB
theorem aig{dn ro:Bool}{J:Ap->Prop}{m:Ap->Nat}{Cut:Ap->Prop}(r0:BJ AD h I S0)(ka:Bk h ab [.ptr I.s 0])(ca:AD ab=0)(ks:Bk h s (LH CZ sp cc mg ab cv dn ro))(oF:AD s=200)(hJ:J S0)(H0:rv J m Cut sp c)(hc:c=(EI S0.D.sz CZ+S0.D.P- 1)/S0.D.P+1)(bZ:CZ<=12)(bf:sp<=44)(hc9:c<=1000):CX L 120 [.ptr s 0] h (λv AA=>∃AB AF,J AB/\(∃n k,T1 AB n/\Ns AB k/\2*c+8+sp<=GK AB+n/\k<c+2)/\BJ AF AA I AB/\BB AD h AF AA) (λv AA=>∃AB AF,v= .Cm 42 (AN 50)/\Cut AB/\BJ AF AA I AB/\BB AD h AF AA):=by
 unfold LH at ks;refine Bg L X.f120 λQ x cs G Gp=>?_;obtain⟨mc,fm,bb,cb,dK⟩:=r0.dv;have dk:=dK.dk;refine AK ?_ (c:=Fg L r0 ka);rintro _ rfl;refine AK ?_ (c:=Df L dk);rintro _ h2 ⟨rfl,k2⟩;refine AK ?_ (c:=Nv L mc.g.P mc.g.sz bZ);rintro _ h3 ⟨rfl,k3⟩;rw[<-hc];refine wk ?_;refine Wr L (α:=Ap×(Nat->Nat)) (T:=λ_=>[(2,some (AN c)),(0,some (.ptr s 0))]) (mu:=λs=>m s.1) (R:=λs hh=>J s.1/\BJ s.2 hh I s.1/\BB AD h s.2 hh) (S0,ext AD h.n) BA ⟨hJ,r0.k0 za (λb hb=>Ae hb),BB.k0 za (λb hb=>Ae hb)⟩ ?_;rintro⟨S,PR⟩ hh ⟨jS,r,ch⟩ ih;simp only at jS r ch ih;obtain⟨iw,KZ,hf,hn,hS,OM,UJ,hw⟩:=H0.b S jS;have FT:=r.dv.ok.g.nb;have hP:=r.dv.ok.g.P;obtain⟨iR,SE⟩:=ch.bk ka ca;obtain⟨eK,abh⟩:=ch.b2 ks oF;refine AK ?_ (c:=Ala L r iR OM);rintro _ h4 ⟨QE,nb,rfl,NH,r4,a4⟩;have hb:=H0.bad S nb jS NH;obtain⟨YW,VI⟩:=a4.bk iR SE;obtain⟨UQ,ahn⟩:=a4.b2 eK abh;refine AK ?_ (c:=Cu L);rintro _ rfl;refine AK ?_ (c:=Af6 L r4 YW);rintro _ h5 ⟨NR,rfl,r5,a5⟩;have TG:=Hx S.ps 1 S.D.nb;have TG:GK S<=S.D.nb:=TG;obtain⟨ka5,Zp⟩:=a5.bk YW VI;obtain⟨ks5,aho⟩:=a5.b2 UQ ahn;have agw:=(a4.trans a5)
 have rest:∀(en:Bool) (lq:CJ),(en=true->2*c+8+sp<=GK S+nb)->(en=false->GK S+nb<2*c+8+sp)->FY (AJ [(54,some (.ptr ab 0)),(4,some (.bool en)),(2,some (AN c)),(0,some (.ptr s 0))]) (AJ lq)->
   Good P0 E Q ⟨⟨120,dF.ntmps,AJ lq,[.ops [Cc 55 146 [.t 54],Cv 5 55],.code Aeu,.inBlock 1,.inLoop acw,.inBlock 0,.inScope acx],[],.run,false,none⟩,x::cs,hp h5.n h5.t []⟩:=by
  intro en lq YN VT ht
  refine D0 L ht ?_
  refine AK ?_ (c:=Af4 L r5 ka5 hw hf.2)
  rintro vc h6 ⟨MP,od,hvc,r6,a6⟩
  obtain⟨ka6,ca6⟩:=a6.bk ka5 Zp
  obtain⟨ks6,ahp⟩:=a6.b2 ks5 aho
  have hlen:=W3 S S.D.nb
  refine AK ?_ (c:=Alf L od om)
  rintro aqu h7 ⟨tF,k7⟩
  have r7:=r6.k0 (AF:=ext MP h6.n) k7 λb hb=>Ae hb
  have a7:BB MP h6 (ext MP h6.n) h7:=BB.k0 k7 λb hb=>Ae hb
  have a57:=a6.trans a7
  have cu:=agw.trans a57
  obtain⟨uh,ca7⟩:=a7.bk ka6 ca6
  obtain⟨ks7,ahq⟩:=a7.b2 ks6 ahp
  have aiu:=od.k0 k7
  have rows:∀{i b:Nat},(S.GQ S.D.nb)[i]?=some b->∃lb,vc= .AE lb 0 (S.GQ S.D.nb).length (Aa+4)/\Bk h7 lb ((S.GQ S.D.nb).flatMap (QI S))/\((S.GQ S.D.nb).flatMap (QI S))[i*4]?=some (AN b)/\i<(S.GQ S.D.nb).length:=λ{i b} hi=>by
   have RI:=(FE.1 hi).1
   rcases aiu.ex with⟨e0,-⟩|⟨-,lb,e,qH,-⟩
   .rw[e0]at RI;exact absurd RI (OD _)
   .refine⟨lb,e,qH,?_,RI⟩
    obtain⟨d1,d2⟩:=A7 (S.GQ S.D.nb) (W2 S _) i b hi
    have:=HT (λl=>l[0]?) d2
    simp only[N0 (show 0<4 from om),MN,TV]at this
    exact this
  have hmM:∀b:Nat,∀AR:Nat,(b:Int)=(AR:Int)->AR<S.D.nb->S.ps AR=3->S.jr (AR:Int)=false->_:=λb AR _ h1 h2 _=>H0.vE S jS r.dv.ok AR h1 h2
  have vU:∀(lq:CJ),(en=true\/∀b∈S.GQ S.D.nb,GT S.A S.D.P b≠0)->FY (AJ [(99,some (.ptr ab 0)),(5,some vc),(4,some (.bool en)),(2,some (AN c)),(0,some (.ptr s 0))]) (AJ lq)->
    Good P0 E Q ⟨⟨120,dF.ntmps,AJ lq,[.ops [Cc 100 150 [.t 99],Cv 101 2,afq 102 .add 101 2,afp 103 .geq 100 102,Cv 95 103],.code Aet,.inBlock 2,.inBlock 1,.inLoop acw,.inBlock 0,.inScope acx],[],.run,false,none⟩,x::cs,hp h7.n h7.t []⟩:=by
   intro lq BZ ht
   refine D0 L ht ?_
   refine AK ?_ (c:=Af7 L r7 uh)
   rintro _ h8 ⟨rA,k,rfl,lM,r8,a8⟩
   have hkn:k<=S.D.nb:=by
    obtain⟨l,e1,e2,e3⟩:=lM
    rw[<-e1]
    exact Da S.D.nb l e2 λy hy=>UJ y ((e3 y).1 hy)
   obtain⟨ui,ca8⟩:=a8.bk uh ca7
   obtain⟨uz,ahr⟩:=a8.b2 ks7 ahq
   by_cases hk:c+2<=k
   .refine AK ?_ (c:=af0 L r8 ui iw KZ hS UJ hf hn (H0.sG S jS))
    rintro _ h9 ⟨o,AB,κ9,rfl,-,TC,r9,a9⟩
    rcases H0.ck S AB o nb k jS NH lM hk (BZ.imp YN id) TC with⟨rfl,lz,hm⟩|⟨rfl,lE⟩
    .refine AK ?_ (c:=Nt L)
     rintro _ rfl
     refine wk ?_
     refine ih (AB,κ9) _ _ hm ⟨lz,r9,ch.trans (cu.trans (a8.trans a9))⟩ ?_
     exact BA
    .refine wk ?_
     refine Eu L rfl rfl rfl rfl rfl (Nu L) ?_
     rintro _ UE ⟨rfl,rfl⟩
     refine Ax L X.f120.1 ?_
     exact Gp _ _ ⟨AB,κ9,rfl,lE,r9,ch.trans (cu.trans (a8.trans a9))⟩
   .cases en with
    |true=>
     refine ret X.f120.1 ?_
     exact⟨S,rA,jS,⟨nb,k,NH,lM,YN rfl,om⟩,r8,ch.trans (cu.trans a8)⟩
    |false=>
     have BZ:=BZ.resolve_left W0
     obtain⟨iC,b0,YJ,ZG⟩:=H0.use S nb k jS NH lM (VT rfl) om BZ
     obtain⟨i0,PY,ei0⟩:=ah YJ
     obtain⟨lb,rfl,qH,-,-⟩:=rows (i:=i0) (b:=b0) (by rw[DA PY,ei0])
     have ac9:Bk h8 lb (((S.GQ S.D.nb).map (Zs S)).flatMap WZ):=by
      have QM:=hvc _ _ _ rfl
      have KD:ext MP h6.n lb=0:=by
       by_cases e:lb<h6.n
       .rw[Ae e];exact QM
       .exact B9 om
      rw[<-Sx]
      exact(a8.bk qH KD).1
     have X7:=am3 (h:=h8) (b:=lb) (cap:=Aa+4) (C:=(S.GQ S.D.nb).map (Zs S)) L ac9 rfl ⟨by rw[DC];omega,by rw[DC];exact iC⟩ (λc hc=>by obtain⟨b,-,rfl⟩:=DK.1 hc;exact Ale S hP b) ⟨(Zs S b0,i0),by
      rw[List.mem_zipIdx_iff_getElem?,GD,DA PY,ei0];rfl,CM ZG⟩
     rw[DC]at X7
     refine AK ?_ (c:=X7)
     rintro _ h9 ⟨y,hy,uR,rfl,k9⟩
     obtain⟨y1,i⟩:=y
     rw[List.mem_zipIdx_iff_getElem?,GD]at hy
     simp only at hy
     obtain⟨b,hb,rfl⟩:=Xs.1 hy
     obtain⟨vA,BG,aqj,aJ,RI⟩:=rows hb
     cases BG
     have uR:GT S.A S.D.P b<S.D.P:=Xv uR
     have r9:=r8.k0 (AF:=ext rA h8.n) k9 λb hb=>Ae hb
     have a9:BB rA h8 (ext rA h8.n) h9:=BB.k0 k9 λb hb=>Ae hb
     obtain⟨ka9,ca9⟩:=a9.bk ui ca8
     obtain⟨ks9,api⟩:=a9.b2 uz ahr
     have aqk:Bk h9 lb ((S.GQ S.D.nb).flatMap (QI S)):=by rw[Sx];exact Ab k9 ac9
     refine AK ?_ (c:=Cu L)
     rintro _ rfl
     have ajp:((S.GQ S.D.nb).flatMap (QI S))[i*4+0]?=some (AN b):=aJ
     refine AK ?_ (c:=ade L (y:=(b:Int)) r9 ka9 iw KZ hf om hS (hmM b))
     rintro _ UE ⟨oJ,AB,nP,rfl,tf,RN,QH⟩
     obtain⟨m1,m2,m3⟩:=Lj (I4 hb)
     cases tf with
     |Ym q=>exact absurd ⟨om,om⟩ q
     | @st AR e q1 q=>
      have:AR=b:=om
      subst this
      rcases q with q|q
      .exact absurd m2 q
      .rw[m3]at q;cases q
     | @run AR _ o e q0 q1 q2 q3 mo=>
      have:AR=b:=om
      subst this
      rcases H0.m1 S AB o AR nb k jS r.dv.ok q3 NH lM (VT rfl) om BZ (I4 hb) uR mo with⟨rfl,lz,hm⟩|⟨rfl,lE⟩
      .refine AK ?_ (c:=Nt L)
       rintro _ rfl
       refine wk ?_
       refine ih (AB,nP) _ _ hm ⟨lz,RN,ch.trans (cu.trans (a8.trans (a9.trans QH)))⟩ ?_
       exact BA
      .refine wk ?_
       refine Jg L rfl rfl rfl rfl rfl (Nu L) ?_
       rintro _ oQ ⟨rfl,rfl⟩
       refine Ax L X.f120.1 ?_
       exact Gp _ _ ⟨AB,nP,rfl,lE,RN,ch.trans (cu.trans (a8.trans (a9.trans QH)))⟩
  rcases tF with⟨i,b,hi,hv,rfl⟩|⟨rfl,BZ⟩
  .cases en with
   |true=>
    refine wk ?_
    refine vU _ (.inl rfl) ?_
    exact BA
   |false=>
    obtain⟨lb,rfl,qH,aJ,RI⟩:=rows hi
    have ajp:((S.GQ S.D.nb).flatMap (QI S))[i*4+0]?=some (AN b):=aJ
    refine AK ?_ (c:=ade L (y:=(b:Int)) r7 uh iw KZ hf om hS (hmM b))
    rintro _ UE ⟨oJ,AB,nP,rfl,tf,RN,QH⟩
    obtain⟨m1,m2,m3⟩:=Lj (I4 hi)
    cases tf with
    |Ym q=>exact absurd ⟨om,om⟩ q
    | @st AR e q1 q=>
     have:AR=b:=om
     subst this
     rcases q with q|q
     .exact absurd m2 q
     .rw[m3]at q;cases q
    | @run AR _ o e q0 q1 q2 q3 mo=>
     have:AR=b:=om
     subst this
     rcases H0.m0 S AB o AR jS r.dv.ok q3 (I4 hi) hv mo with⟨rfl,lz,hm⟩|⟨rfl,lE⟩
     .refine AK ?_ (c:=Nt L)
      rintro _ rfl
      refine wk ?_
      refine ih (AB,nP) _ _ hm ⟨lz,RN,ch.trans (cu.trans QH)⟩ ?_
      exact BA
     .refine wk ?_
      refine Jg L rfl rfl rfl rfl rfl (Nu L) ?_
      rintro _ oQ ⟨rfl,rfl⟩
      refine Ax L X.f120.1 ?_
      exact Gp _ _ ⟨AB,nP,rfl,lE,RN,ch.trans (cu.trans QH)⟩
  .cases en with
   |true=>
    refine wk ?_
    refine vU _ (.inr BZ) ?_
    exact BA
   |false=>
    refine wk ?_
    refine vU _ (.inr BZ) ?_
    exact BA
 by_cases ID:2*c+8+sp<=GK S+nb;.refine wk ?_;refine rest true _ (λ_=>ID) (λh=>by cases h) ?_;exact BA
 .refine wk ?_;refine rest false _ (λh=>by cases h) (λ_=>om) ?_;exact BA
def NC(S:Ap):Prop:=S.D.cut= -1/\S.D.off=false
section
omit L
theorem Ap.vP(S:Ap)(k:Bool)(b:Int):(S.put k b).D=S.D:=by unfold Ap.put;split<;>rfl
theorem Ap.gJ(S:Ap)(k:Bool):(S.cls k).D=S.D:=by unfold Ap.cls;split<;>first|exact Ap.vP _ _ _|rfl
theorem Ap.aks{k:Bool}(h:S.HQ k=some AB):AB.D=S.D:=by
 unfold Ap.HQ at h;split at h
 .split at h;.cases h
  .cases h;exact Ap.vP _ _ _
 .cases h;rfl
theorem NC.prog(q:NC S)(i:Int)(all:List Nat):(S.D.prog i all).1.cut= -1/\(S.D.prog i all).1.off=false/\(S.D.prog i all).2≠50:=by
 obtain⟨h1,h2⟩:=q;have hn:¬(S.D.n:Int)=S.D.cut:=om
 have ho:¬S.D.off=true:=by rw[h2];simp
 unfold Dv.prog;split;.refine⟨h1,?_,by show(if _ then 54 else 0)≠50;split<;>omega⟩;show(S.D.off ||decide ((S.D.n:Int)=S.D.cut))=false;rw[h2,CW hn];rfl
 .exact⟨h1,h2,by simp⟩
theorem NC.w1(q:NC S)(k:Bool)(all:List Nat):NC (S.w1 k all).1/\(S.w1 k all).2≠ .pow:=by
 have hc:=Ap.gJ S k;unfold Ap.w1;split;.exact⟨by unfold NC;rw[hc];exact q,by simp⟩
 .rename_i S2 h;have q2:NC S2:=by unfold NC;rw[Ap.aks h,hc];exact q
  obtain⟨h1,h2,h3⟩:=q2.prog (S2.BT k) all;rw[AM h3];split;.exact⟨⟨h1,h2⟩,by simp⟩
  .exact⟨by unfold NC;rw[Ap.vP];exact⟨h1,h2⟩,by simp⟩
theorem NC.BV(q:NC S)(b:Nat):NC (S.BV b).1/\(S.BV b).2≠ .pow:=by
 obtain⟨h1,h2⟩:=q;have hn:¬(S.D.n:Int)=S.D.cut:=om
 have ho:¬S.D.off=true:=by rw[h2];simp
 have he:(S.D.erase (b:Int)).1.cut= -1/\(S.D.erase (b:Int)).1.off=false/\(S.D.erase (b:Int)).2≠50:=by
  unfold Dv.erase;split
  .split;.exact⟨h1,h2,by simp⟩
   .split<;>exact⟨h1,h2,by simp⟩
  .exact⟨h1,h2,by simp⟩
 unfold Ap.BV;split;.exact⟨⟨h1,h2⟩,by simp⟩
 .rw[AM he.2.2];split<;>exact⟨⟨he.1,he.2.1⟩,by simp⟩
theorem GX.nc{k:Bool}{all:List Nat}(h:GX k all S AB o)(q:NC S):NC AB/\o≠ .pow:=by
 induction h with
 |stop h=>exact q.w1 _ _
 |more h t ih=>exact ih (q.w1 _ _).1
theorem IM.nc{sec:Int}{data:List Nat}(h:IM sec data S AB o)(q:NC S):NC AB/\o≠ .pow:=by
 cases h with
 |ok h=>exact⟨(h.nc q).1,by simp⟩
 |bad h _=>exact h.nc q
theorem LW.nc{sz:Nat}{l:List LE}(h:LW sz l S AB o)(q:NC S):NC AB/\o≠ .pow:=by
 induction h with
 |nil=>exact⟨q,by simp⟩
 |cons h t ih=>exact ih (h.nc q).1
 |bad h _=>exact h.nc q
theorem HO.nc{es:List BI}(h:HO k es S AB o)(q:NC S):NC AB/\o≠ .pow:=by
 cases h with
 |ok h=>exact h.nc (S:={S with next:=S.next+CF S es}) q
 |bad h _=>exact h.nc (S:={S with next:=S.next+CF S es}) q
theorem HU.nc{es:List BI}(h:HU es S AB o)(q:NC S):NC AB/\o≠ .pow:=by
 cases h with
 |nil _=>exact⟨q,by simp⟩
 |ok h _=>exact h.nc q
 |bad h _=>exact h.nc q
theorem EY.nc{l:GV}{es:List BI}(h:EY l S es AB o)(q:NC S):NC AB/\o≠ .pow:=by
 induction h with
 |nil=>exact⟨q,by simp⟩
 |put h _ ih=>exact ih (h.nc q).1
 |bad h _=>exact h.nc q
 |trim _ _ ih=>exact ih q
 |skip _ _ ih=>exact ih q
theorem LU.nc{l:GV}(h:LU l S AB o)(q:NC S):NC AB/\o≠ .pow:=by
 cases h with
 |ok a c=>exact c.nc (a.nc q).1
 |bad a _=>exact a.nc q
 |WX a c _=>exact c.nc (a.nc q).1
theorem FG.nc{g:Int->Int}{ps:List Int}{es:List BI}(h:FG g S ps es AB)(q:NC S):NC AB:=by
 induction h with
 |nil=>exact q
 |snoc r h ih=>exact(h.nc ih).1
theorem NE.nc(h:NE b S AB o)(q:NC S):NC AB/\o≠ .pow:=by
 cases h with
 |bad m _ h _=>exact h.nc (m.nc q)
 |WY m c _=>exact c.nc (m.nc q)
 |ok m c=>exact(c.nc (m.nc q)).1.BV _
theorem KB.nc{l:List Int}(h:KB l S AB o)(q:NC S):NC AB/\o≠ .pow:=by
 induction h with
 |nil=>exact⟨q,by simp⟩
 |cons h t ih=>exact ih (q.BV _).1
 |bad h=>exact absurd h (q.BV _).2
theorem QX.nc(h:QX S AB o)(q:NC S):NC AB/\o≠ .pow:=by
 have qc:NC S.CY:=by unfold Ap.CY;split<;>exact q
 cases h with
 |bad _ h _=>exact h.nc qc
 |run _ h _ e=>exact e.nc (h.nc qc).1
end
section
variable {n:Nat}
omit L
theorem aa2{f:Int->Bool}{n:Nat}(h:nW f n)(hr:∀k,f k=true->0<=k/\k<(N:Int)):n=Cq (λb=>if f ((b:Nat):Int)=true then 1 else 0) N:=by
 obtain⟨l,rfl,h1,h2⟩:=h;rw[<-Mo];have p:l.Perm (((List.range N).filter λb=>f ((b:Nat):Int)).map λb=>((b:Nat):Int)):=by
  refine(List.perm_ext_iff_of_nodup h1 ?_).2 λx=>?_;.exact List.Pairwise.map _ (λa b (e:a≠b) h=>e om) (jQ.filter _)
  .rw[h2,DK];constructor;.intro hx;obtain⟨g1,g2⟩:=hr x hx;obtain⟨b,rfl⟩:=Yt g1;exact⟨b,JZ.2 ⟨KI.2 om,hx⟩,rfl⟩
   .rintro⟨b,hb,rfl⟩;exact(JZ.1 hb).2
 rw[p.length_eq,DC]
theorem N7(q:BE S)(h:Ns S n):n=An KH S:=aa2 h λk hk=>by obtain⟨b,e,h1,-⟩:=q.jr k hk;omega
theorem Q4(q:KL S)(h:T1 S n):n=An IY S:=by obtain⟨m,rfl,h⟩:=h;rw[aa2 h q,Lm,<-Ee];rfl
theorem Xj{b:Nat}(h:S.ps b=3/\S.jr (b:Int)=false):∀{n},b<n->b∈S.GQ n
 |n+1,hb=>by
  simp only[Ap.GQ];by_cases e:b=n;.subst e;rw[AP h];exact Zf _ (aq _)
  .have:=Xj h (n:=n) om;split;.exact TY _ this
   .exact this
theorem Tk:∀{n},(∀b∈S.GQ n,GT S.A S.D.P b≠0)->(S.GQ n).length<=Cq (GT S.A S.D.P) n
 |0,_=>BD _
 |n+1,h=>by
  simp only[Ap.GQ]at h ⊢;split at h<;>rename_i e;.rw[AP e];have h1:=Tk (n:=n) λb hb=>h b (TY _ hb);have h2:=h n (Zf _ (aq _));rw[DX,nG];simp only[Cq];omega
  .rw[AM e];have h1:=Tk (n:=n) h;simp only[Cq];omega
end
structure FJ (S0:Ap)(Z:HJ)(l:List Int)(sp c Y B EB:Nat)(S:Ap):Prop where
 a:BE S
 js:JS S
 z:ZR S Z
 dn:S.down=false
 cf:Ts S sp c Y
 sm:Sm S0 S
 nc: -1∈l->S.D.cut= -1
 k:∃k e,Bd S k/\k+4000*mu S l c<=B/\JN S l sp c e/\e+mu S l c<=EB
structure FC (S0:Ap)(Z:HJ)(l:List Int)(sp c B EB:Nat)(S:Ap):Prop where
 sm:Sm S0 S
 dn:S.down=true
 nc:¬(-1:Int)∈l
 fl:JA S l
 er:IZ S EB
 bd:Bd S B
 ex:∃DH AT,BE {S with A:=DH,last:=AT}/\AT<S.next/\ZR {S with A:=DH,last:=AT} Z/\∃x,x+rem l S.D.n<=sp/\LJ {S with A:=DH,last:=AT} (2*c+1+x)
section
variable {l:List Int}{Y e:Nat}
omit L
theorem FJ.out(q:FJ S0 Z l sp c Y B EB S)(ho:o= .done 0\/o= .pow)(hnc:NC S->NC AB/\o≠ .pow)(BC:BE AB)(sm:Sm S AB)(pw:KJ S AB o)(rd:∀s,AB.rd s=S.rd s)(bd:Bd AB (k+4000))(hk:k+4000*mu S l c<=B)(he:e+mu S l c<=EB)(XD:1<=mu S l c)(fl:JA AB l)(er:IZ AB (e+1))(g:o= .done 0->JN AB l sp c (e+1)/\mu AB l c<mu S l c)(rc:VG AB o λT=>(∀s,T.rd s=S.rd s)/\(o= .pow->∃x,x+rem l AB.D.n<=sp/\LJ T (2*c+1+x))):o= .done 0/\FJ S0 Z l sp c Y B EB AB/\mu AB l c<mu S l c\/o= .pow/\FC S0 Z l sp c B EB AB:=by
 obtain⟨DH,AT,h1,h2,h3,h4,h5,h6⟩:=rc;have hn: -1∈l->NC AB/\o≠ .pow:=λh=>hnc ⟨q.nc h,q.a.pw.trans q.dn⟩;rcases ho with rfl|rfl
 .obtain⟨g1,g2⟩:=g rfl;obtain⟨rfl,rfl⟩:=h4 W0;exact .inl ⟨rfl,⟨BC,h2,⟨q.z.len.trans sm.CZ.symm,λi d hi=>by rw[rd];exact q.z.rd i d hi⟩,by rw[pw.dn W0];exact q.dn,q.cf.sm sm,q.sm.trans sm,λh=>(hn h).1.1,k+4000,e+1,bd,om,g1,om⟩,g2⟩
 .have hd:AB.down=true:=(show _↔_ from pw).2 (.inr rfl);exact .inr ⟨rfl,q.sm.trans sm,hd,λh=>(hn h).2 rfl,fl,λb hb=>EM (er b hb) om,bd.mono om,DH,AT,h1,h3,⟨q.z.len.trans sm.CZ.symm,λi d hi=>by rw[h5];exact q.z.rd i d hi⟩,h6 rfl⟩
theorem FJ.prH(hB:B<=890000000)(hE:∀S,FJ S0 Z l sp c Y B EB S->EB<S.D.en):rv (FJ S0 Z l sp c Y B EB) (λS=>mu S l c) (FC S0 Z l sp c B EB) sp c:=by
 have mu1:∀{S:Ap} {b:Nat},BE S->b<S.D.nb->S.ps b=3->S.jr (b:Int)=false->1<=mu S l c:=λ{S b} a hb h3 hj=>by
  have:GG (JL S.D.P) S b<=An (JL S.D.P) S:=Xb hb;have hw:GG (JL S.D.P) S b=S.D.P:=by unfold GG JL;rw[hj,h3];rfl
  have:=a.CT.P.1;unfold mu;omega
 have fin:∀{S AB:Ap} {o:WO} {b:Nat},FJ S0 Z l sp c Y B EB S->S.D.Ok->b<S.D.nb->S.ps b=3->S.jr (b:Int)=false->NE b S AB o->(o= .done 0\/o= .pow)->(∀e,e<S.D.en->JN S l sp c e->JN AB l sp c (e+1)/\(o= .done 0->mu AB l c<mu S l c))->o= .done 0/\FJ S0 Z l sp c Y B EB AB/\mu AB l c<mu S l c\/o= .pow/\FC S0 Z l sp c B EB AB:=by intro S AB o b q ok hb h3 hj m ho g;obtain⟨k,e,bd,hk,cg,he⟩:=q.k;have ID:=hE S q;have hm:=mu1 q.a hb h3 hj;obtain⟨g1,g2⟩:=g e om cg;obtain⟨i1,i2,i3,i4,i5⟩:=m.inv q.a ok bd hb h3 hj;have rc:=m.mq q.a ok bd om q.cf.PV.2 hb h3 hj q.js;obtain⟨DH,AT,r1,r2,r3,r4,r5⟩:=rc;exact q.out ho m.nc i1 i2 i4 i5 i3 hk he hm g1.fl g1.er (λh=>⟨g1,g2 h⟩) ⟨DH,AT,r1,r2,r3,r4,r5,λ_=>g1.lj r2⟩
 refine⟨λS q=>?_,λS n q h=>?_,λS q ok=>?_,λS q=>?_,λS n k q h1 h2 h3 h4 h5=>?_,λS AB o b q ok ho hb hv m=>?_,λS AB o b n k q ok ho h1 h2 h3 h4 h5 hb hv m=>?_,λS AB o n k q h1 h2 h3 h4 m=>?_⟩;.obtain⟨k,e,bd,hk,cg,he⟩:=q.k;have:=bd.nx;have:=bd.dn;have:=q.cf.PV;exact⟨q.a.iw,q.dn,⟨bd.last,om⟩,om,om,cg.sd,λy hy=>by obtain⟨b,e,h1,-⟩:=q.a.jr y hy;omega,λb n h=>Nat.le_of_lt (bd.wr b n h)⟩
 .obtain⟨k,e,bd,hk,cg,he⟩:=q.k;obtain⟨x,h1,-⟩:=cg.x;rw[Q4 cg.sd h];omega
 .obtain⟨k,e,bd,hk,cg,he⟩:=q.k;have:=q.cf.PV;exact q.a.vE ok om q.dn bd om
 .obtain⟨k,e,bd,hk,cg,he⟩:=q.k;exact q.a.sG bd q.cf.PV.2 om
 .obtain⟨AZ,e,bd,hk,cg,he⟩:=q.k;have hn:=Q4 cg.sd h1;have hj:=N7 q.a h2;have hv:=q.a.aet;have h12:=q.cf.PV;refine⟨by have:=Tk h5;omega,?_⟩;refine nC λTL=>?_;have JF:∀b,b<S.D.nb->S.nice b->S.D.P<=GT S.A S.D.P b:=λb hb hn=>by refine Nat.le_of_not_lt λBX=>TL ⟨b,Xj ⟨hn.1,hn.2.1⟩ hb,BX⟩
  have h6:=q.a.part cg.no JF;have h7:=q.cf.hX;have h8:=q.cf.nb;have h9:=mf S;have hP:=q.a.CT.P.1;have UE:S.D.P*S.D.nb<=S.D.P*(GK S+An IY S+Y+An KF S+1):=by simp only[SQ,RW];omega
  have oQ:=nD UE om;omega
 .obtain⟨h1,h2,h3⟩:=Lj hb;have key:∀e,e<S.D.en->JN S l sp c e->JN AB l sp c (e+1)/\(o= .pow\/o= .done 0/\mu AB l c<mu S l c):=λe he cg=>m.empty cg q.a h1 h2 h3 hv he;obtain⟨k,e,bd,hk,cg,he⟩:=q.k;have ID:=hE S q;obtain⟨-,h4⟩:=key e om cg;refine fin q ok h1 h2 h3 m (h4.elim .inr λh=> .inl h.1) λe he cg=>?_;obtain⟨g1,g2⟩:=key e he cg;exact⟨g1,λh=>g2.elim (λe=>by rw[h]at e;cases e) λh=>h.2⟩
 .obtain⟨g1,g2,g3⟩:=Lj hb;have hE1:∀b,b<S.D.nb->S.nice b->1<=GT S.A S.D.P b:=λb hb hn=>fL (h5 b (Xj ⟨hn.1,hn.2.1⟩ hb));obtain⟨AZ,e,bd,hk,cg,he⟩:=q.k;have ID:=hE S q;have hj:=N7 q.a h2;have hnj:=mf S;have key:∀e,e<S.D.en->JN S l sp c e->o≠ .full/\JN AB l sp c (e+1)/\(o= .done 0->mu AB l c<mu S l c):=λe he cg=>m.step q.cf cg q.a ok g1 g2 g3 hv he om ((cg.free q.cf q.a hE1).2 om);have bW:o= .done 0\/o= .pow:=by
   obtain⟨h,-⟩:=key e om cg;rcases ho with h|AA|h;.exact .inl h
   .exact absurd AA h
   .exact .inr h
  exact fin q ok g1 g2 g3 m bW λe he cg=>(key e he cg).2
 .obtain⟨AZ,e,bd,hk,cg,he⟩:=q.k;have ID:=hE S q;have hn:=Q4 cg.sd h1;have hj:=N7 q.a h2;have hF:rem l S.D.n+c+1<=GK S:=by
   rcases h4 with h4|h4;.obtain⟨x,x1,-⟩:=cg.x;have:=q.cf.hc;omega
   .exact(cg.free q.cf q.a λb hb hn=>fL (h4 b (Xj ⟨hn.1,hn.2.1⟩ hb))).1
  have hm:1<=mu S l c:=by unfold mu;rw[AP om];omega
  obtain⟨s1,s2,s3,s4,s5,s6⟩:=m.step q.cf cg q.a bd om q.cf.PV.2 q.js om om hF;obtain⟨i1,i2,i3,i4,i5⟩:=m.inv q.a bd q.cf.PV.2;have ho:o= .done 0\/o= .pow:=by
   cases m with
   |bad hD h ho=>exact ho.elim (λh=>absurd h s1) .inr
   |run hD h hJ t=>exact t.oo
  obtain⟨DH,AT,r1,r2,r3,r4,r5,r6⟩:=s6;exact q.out ho m.nc i1 i2 i4 i5 i3 hk he hm s2 s3 s5 ⟨DH,AT,r1,r2,r3,r4,r5,λ_=>r6⟩
end
def SD(sz:Nat)(Z:HJ)(g:GV):HJ:=g.foldl (λZ x=>Z.set x.1.toNat (x.2.getD (List.replicate sz 0))) Z
omit L
theorem xT(sz:Nat)(BH:Nat->List Nat):∀(l:List GW) (Z:HJ),Zm sz BH Z l=SD sz Z (DT BH l)
 | [],_=>rfl
 |x::r,Z=>by show Zm sz BH (Z.set _ _) r=_;rw[xT sz BH r];rfl
structure Rz (S P:Nat)(g:GV):Prop where
 ne:g≠[]
 nd:(g.map (·.1)).Nodup
 rg:∀y∈g,0<=y.1/\y.1<(S:Int)
 dt:(g.filter λx=>x.2.isSome).length<=P
structure FI (Z:HJ)(l:List Int)(sp c Y n:Nat)(S:Ap):Prop where
 a:BE S
 js:JS S
 z:ZR S Z
 dn:S.down=false
 cf:Ts S sp c Y
 en:250000<S.D.en
 nc: -1∈l->S.D.cut= -1
 k:∃k e,Bd S k/\k<=3300000*n/\JN S l sp c e/\e<=800*n
section
variable {S1 S2:Ap}{l:List Int}{Y n:Nat}
theorem Auw(q:BE S)(f:Ts S sp c Y){e:Nat}(g:JN S l sp c e):mu S l c<=799:=by
 obtain⟨x,h1,-⟩:=g.x;have hP:=f.P;have hn:=q.CT.nb;have h2:An (JL S.D.P) S<=S.D.nb*S.D.P:=by
  rw[<-C3];refine Dg λb hb=>?_;have:=q.LB b hb;unfold GG JL;split;.exact CN _
  .split;.exact BD _
   .split;.exact this
    .exact CN _
 have h3:S.D.nb*S.D.P<=44*4:=NB hn.2 hP;have h4:(2*S.D.P+2)*rem l S.D.n<=10*44:=NB om (by have:=f.nb;omega);unfold mu;split<;>omega
theorem FI.aib(q:FI Z l sp c Y n S):FJ S Z l sp c Y (3300000*n+4000*799) (800*n+799) S:=by obtain⟨k,e,h1,h2,h3,h4⟩:=q.k;have:=Auw q.a q.cf h3;exact⟨q.a,q.js,q.z,q.dn,q.cf,⟨rfl,rfl,rfl,rfl,rfl⟩,q.nc,k,e,h1,om,h3,om⟩
theorem FI.pr(q:FI Z l sp c Y n S)(hn:n<=250):rv (FJ S Z l sp c Y (3300000*n+4000*799) (800*n+799)) (λS=>mu S l c) (FC S Z l sp c (3300000*n+4000*799) (800*n+799)) sp c:=
 FJ.prH om λAB h=>by
  rw[h.sm.en]
  have:=q.en
  omega
theorem FC.mono{zh zi:Nat}(q:FC S0 Z l sp c B EB S)(h:B<=zh)(AA:EB<=zi):FC S0 Z l sp c zh zi S:=⟨q.sm,q.dn,q.nc,q.fl,λb hb=>EM (q.er b hb) AA,q.bd.mono h,q.ex⟩
theorem FJ.app(q:FJ S Z l sp c Y (3300000*n+4000*799) (800*n+799) S1)(ID:250000<S.D.en)(hn:n<=250)(hr:∃n k,T1 S1 n/\Ns S1 k/\2*c+8+sp<=GK S1+n/\k<c+2){w:List GW}(g:Rz S1.S S1.D.P (DT BH w))(hl:w.length<=12)(hd:∀(i:Nat) (s:Int) (b o c:Nat),w[i]?=some (s,some (b,o,c))->(BH b).length=S1.D.sz)(hc:Ff S1.S S1.down (w.map (·.1))=0)(m:LU (DT BH w) S1 S2 o):o= .done 0/\FI (SD S1.D.sz Z (DT BH w)) l sp c Y (n+1) S2/\Sm S S2\/o= .pow/\∃IT,(IT=Z\/IT=SD S1.D.sz Z (DT BH w))/\FC S IT l sp c (3300000*(n+1)) (800*(n+1)) S2:=by
 obtain⟨k,e,bd,hk,cg,he⟩:=q.k;obtain⟨nb,aqr,h1,h2,h3,h4⟩:=hr;have hb:=Q4 cg.sd h1;have hj:=N7 q.a h2;obtain⟨x,x1,-⟩:=cg.x;obtain⟨s1,s2⟩:=m.step q.cf cg q.a g.rg g.nd g.dt om om;have d:=rn.append m q.a q.js bd om q.cf.PV.2 q.z q.dn hl hd hc;rw[xT]at d;obtain⟨sm,np,pw,-,DH,AT,i1,i2,i3,i4,i5⟩:=d;have hn: -1∈l->NC S2/\o≠ .pow:=λh=>m.nc ⟨q.nc h,q.a.pw.trans q.dn⟩;have key:∀{IT:HJ},ZR {S2 with A:=DH,last:=AT} IT->o= .pow->FC S IT l sp c (3300000*(n+1)) (800*(n+1)) S2:=λ{IT} hz ho=>by subst ho;exact⟨q.sm.trans sm,pw.2 rfl,λh=>(hn h).2 rfl,s2.fl,λb hb=>EM (s2.er b hb) om,np.mono om,DH,AT,i1,i3,hz,s2.lj i2⟩
 cases o with
 |full=>exact absurd rfl s1
 |again=>cases m with
  |bad _ h=>rcases h with h|h<;>cases h
  |WX _ _ h=>rcases h with h|h<;>cases h
 |pow=>
  refine .inr ⟨rfl,?_⟩;rcases i5 with⟨h,-⟩|⟨h,-⟩;.exact⟨Z,.inl rfl,key h rfl⟩
  .exact⟨_,.inr rfl,key h rfl⟩
 |done p=>
  have hp:p=0:=by cases m with
   |ok _ _=>rfl
   |bad _ h=>rcases h with h|h<;>cases h
   |WX _ _ h=>rcases h with h|h<;>cases h
  subst hp;obtain⟨rfl,rfl⟩:=i4 (by simp[NU])
  have KZ:S2.down=false:=by cases h:S2.down with
   |false=>rfl
   |true=>have:=pw.1 h;simp[NU]at this
  refine .inl ⟨rfl,⟨i1,i2,?_,KZ,q.cf.sm sm,by rw[sm.en,q.sm.en];exact ID,λh=>(hn h).1.1,k+4000,e,np,om,s2,om⟩,q.sm.trans sm⟩;rcases i5 with⟨-,h⟩|⟨h,-⟩;.exact absurd rfl h
  .exact h
end
structure SY (AD:Nat->Nat)(h:H)(v:AV)(sz:Nat)(g:GV):Prop where
 ex:∃gb w BH,v= .AE gb 0 w.length (Aa+2)/\w≠[]/\w.length<=12/\Bk h gb (w.flatMap (GL sz))/\AD gb=0/\g=DT BH w/\∀(i:Nat) (s:Int) (b o c:Nat),w[i]?=some (s,some (b,o,c))->BS h b o (BH b)/\AD b=0/\(BH b).length=sz
theorem SY.fw{sz:Nat}{g:GV}(q:SY AD h v sz g)(f:Fw AD h AF AA):SY AF AA v sz g:=by obtain⟨gb,w,BH,e1,e2,e3,k,c,e4,hd⟩:=q.ex;have bk:∀{b c},Bk h b c->AD b=0->Bk AA b c:=λ{b c} k hb=>⟨(f.old b k.lt hb).trans k.e,IF k.lt f.n⟩;refine⟨gb,w,BH,e1,e2,e3,bk k c,(f.CA gb k.lt).trans c,e4,λi s b o c hi=>?_⟩;obtain⟨g1,g2,g3⟩:=hd i s b o c hi;obtain⟨⟨BP,q1,q2,q3⟩,q4⟩:=g1;exact⟨⟨⟨BP,bk q1 g2,q2,q3⟩,q4⟩,(f.CA b q1.lt).trans g2,g3⟩
theorem BB.fw(a:BB AD h AF AA):Fw AD h AF AA:=⟨a.k.n,λb hb h0=>a.k.old b hb om,a.CA⟩
include L
theorem Tl{Y n:Nat}{gv:AV}{dn ro:Bool}{l:List Int}{g:GV}(r:BJ AD h I S)(ka:Bk h ab [.ptr I.s 0])(ca:AD ab=0)(ks:Bk h s (LH CZ sp cc mg ab cv dn ro))(oF:AD s=200)(q:FI Z l sp c Y n S)(hn:n<=250)(hc:c=(EI S.D.sz CZ+S.D.P- 1)/S.D.P+1)(bZ:CZ=S.S)(gr:SY AD h gv S.D.sz g)(go:Rz S.S S.D.P g):CX L 91 [.ptr s 0,gv] h (λv AA=>∃AB AF,v= .BM []/\FI (SD S.D.sz Z g) l sp c Y (n+1) AB/\Sm S AB/\BJ AF AA I AB/\BB AD h AF AA) (λv AA=>∃AB AF IT,v= .Cm 42 (AN 50)/\(IT=Z\/IT=SD S.D.sz Z g)/\FC S IT l sp c (3300000*(n+1)) (800*(n+1)) AB/\BJ AF AA I AB/\BB AD h AF AA):=by
 have bf:sp<=44:=by have:=q.cf.nb;have:=q.a.CT.nb;omega
 have hc9:c<=1000:=by have:=q.cf.nb;have:=q.a.CT.nb;omega
 have aqb:=q.cf.PV;refine Bg L X.f91 λQ x cs G Gp=>?_;refine Gj L (c:=aig (S0:=S) L r ka ca ks oF q.aib (q.pr hn) hc om bf hc9) (g:=?_) (gp:=?_)
 .rintro _ h2 ⟨S1,HD,j1,hr,r1,a1⟩;obtain⟨iR,SE⟩:=a1.bk ka ca;obtain⟨eK,abh⟩:=a1.b2 ks oF;unfold LH at eK;obtain⟨gb,w,BH,rfl,e2,e3,kg,cg,rfl,hd⟩:=(gr.fw a1.fw).ex;have sm:=j1.sm;obtain⟨k,e,bd,hk,cgI,he⟩:=j1.k;have oP:Rz S1.S S1.D.P (DT BH w):=by rw[sm.CZ,sm.P];exact go
  have TC:Ff S1.S S1.down (w.map (·.1))=0:=by
   have hk:=Dj BH w;unfold Ff;rw[AM,AM,AM (by rw[j1.dn];simp)];.rintro⟨y,hy,bh⟩;rw[<-hk]at hy;obtain⟨z,hz,rfl⟩:=DK.1 hy;have:=oP.rg z hz;omega
   .rintro(h|h);.exact e2 (cQ.1 h)
    .rw[<-hk]at h;exact h oP.nd
  have Le:=bd.nx;have gU:=bd.dn;refine AK ?_ (c:=amc L r1 iR j1.a.iw (by rw[sm.CZ];omega) (by rw[sm.sz];exact kg) cg e2 om (by rw[sm.sz];exact hd) ⟨bd.last,om⟩ om (λ_ es AB sg=>sg.ok j1.a oP.rg));rintro _ h3 ⟨e,AB,BN,rfl,sg,r2,a2⟩
  cases sg with
  |bad h=>exact absurd TC h
  | @run _ o _ ho m=>
   have dW:=j1.app q.en hn hr oP e3 (λi s b o c hi=>by rw[sm.sz];exact(hd i s b o c hi).2.2) TC m;rw[sm.sz]at dW;rcases dW with⟨rfl,f1,f2⟩|⟨rfl,IT,hz,f1⟩;.refine AK ?_ (c:=Nt L);rintro _ rfl;refine ret X.f91.1 ?_;exact⟨AB,BN,rfl,f1,f2,r2,a1.trans a2⟩
   .refine wk ?_;refine Eu L rfl rfl rfl rfl rfl (Nu L) ?_;rintro _ h4 ⟨rfl,rfl⟩;refine Ax L X.f91.1 ?_;exact Gp _ _ ⟨AB,BN,IT,rfl,hz,f1,r2,a1.trans a2⟩
 .rintro _ h2 ⟨S1,HD,rfl,j1,r1,a1⟩;refine Ax L X.f91.1 ?_;exact Gp _ _ ⟨S1,HD,Z,rfl,.inl rfl,j1.mono om om,r1,a1⟩
section
variable {l:List Int}{Y n x:Nat}{Hs Cs:List Rc}{js ds:List Int}
omit L
theorem FI.IJ(q:GI S Hs Cs)(hL:∀L:List Nat,L.Nodup->(∀b∈L,∃r∈Cs,∃i,i<r.n S.D.sz/\∃j,On S b j (r.pg S.D.sz i))->L.length<=2*c+1+x)(hx:x+rem l S.D.n<=sp)(a:BE S)(ok:S.D.Ok)(ED:S.D.off=false)(b:S.next<=k+1/\S.D.n<=k/\1048576<=k/\k<890000000)(hk:k+100<=3300000*n)(er:IZ S (800*n))(fl:JA S l)(cf:Ts S sp c Y)(en:250000<S.D.en)(z:ZR S Z)(f:Yx S.D js ds)(hJ:∀b:Nat,(b:Int)∈js↔∃r∈Cs,∃i,i<r.n S.D.sz/\∃j,On S b j (r.pg S.D.sz i))(nc: -1∈l->S.D.cut= -1):FI Z l sp c Y n (Ap.IJ S.D S.S S.A (Bn (Af S.D)) S.last js ds):=by obtain⟨h1,h2,h3⟩:=Ag3 q a ok b ED cf.PV.2 f hJ;exact⟨h1,h2,z.of rfl λs=>Ap.vT rfl rfl ⟨rfl,rfl⟩ s,rfl,⟨cf.P,cf.PV,cf.hX,cf.nb,cf.hc,cf.hr⟩,en,nc,k+100,800*n,h3,hk,Alv (S:=S) fl er hx λL hn hb=>hL L hn λb h=>(hJ b).1 (hb b h),BD _⟩
theorem FC.rst(q:∃DH AT,BE {S with A:=DH,last:=AT}/\AT<S.next/\ZR {S with A:=DH,last:=AT} Z/\∃x,x+rem l S.D.n<=sp/\LJ {S with A:=DH,last:=AT} (2*c+1+x)):∃DH AT Hs Cs x,BE ({S with A:=DH,last:=AT}:Ap).up/\ZR ({S with A:=DH,last:=AT}:Ap).up Z/\AT<S.next/\GI ({S with A:=DH,last:=AT}:Ap).up Hs Cs/\x+rem l S.D.n<=sp/\∀L:List Nat,L.Nodup->(∀b∈L,∃r∈Cs,∃i,i<r.n S.D.sz/\∃j,On ({S with A:=DH,last:=AT}:Ap).up b j (r.pg S.D.sz i))->L.length<=2*c+1+x:=by obtain⟨DH,AT,h1,h2,h3,x,h4,Hs,Cs,h5,h6⟩:=q;exact⟨DH,AT,Hs,Cs,x,h1.up,h3.of rfl λs=>Ap.vT rfl rfl ⟨rfl,rfl⟩ s,h2,h5.up,h4,h6⟩
