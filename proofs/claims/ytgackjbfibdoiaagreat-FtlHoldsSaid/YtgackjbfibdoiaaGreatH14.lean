import Derived.Test.YtgackjbfibdoiaaGreatH13
set_option linter.all false
set_option maxRecDepth 100000
set_option maxHeartbeats 4000000
namespace Go.Ev
variable {P0:Program}{E:Env}{F:T DY}{K:HK}(L:Lg P0 E F K)[X:Fx F K][aq4:Tb P0 E F K][U:Yz P0 E F 208]
variable {S AB:Ap}{Z:HJ}{ab b4 cc f g lo m mg nt s CZ sp:Nat}{cv gv v x0:AV}{gs:VE}{h AA:H}{post:OF}{todo:DO}{w:List GW}{z:EW}{BH:Nat->List Nat}{AD AF:Nat->Nat}
structure JM (AD:Nat->Nat)(h:H)(v:AV)(sz:Nat)(gs:VE):Prop where
 ex:(gs=[]/\v= .AS)\/∃b o vs c,v= .AE b o gs.length (Aa+1)/\vs.length=gs.length/\Bk h b c/\AD b=0/\o+gs.length<=c.length/\(c.drop o).take gs.length=vs/\∀(i:Nat) v g,vs[i]?=some v->gs[i]?=some g->SY AD h v sz g
theorem JM.fw{sz:Nat}(q:JM AD h v sz gs)(f:Fw AD h AF AA):JM AF AA v sz gs:=by
 rcases q.ex with e|⟨b,o,vs,c,e,e1,k,c0,k1,k2,k3⟩;.exact⟨.inl e⟩
 .exact⟨.inr ⟨b,o,vs,c,e,e1,f.bk k c0,(f.CA b k.lt).trans c0,k1,k2,λi v g hv hg=>(k3 i v g hv hg).fw f⟩⟩
structure ME where
 CZ:Nat
 sp:Nat
 cc:Nat
 mg:Nat
 c:Nat
 Y:Nat
 l:List Int
structure Ls where
 ab:Nat
 I:Ai
 S:Ap
 cv:AV
 dn:Bool
 ro:Bool
structure HE (q:ME)(AD:Nat->Nat)(h:H)(s:Nat)(u:Ls):Prop where
 r:BJ AD h u.I u.S
 ka:Bk h u.ab [.ptr u.I.s 0]
 ca:AD u.ab=0
 ks:Bk h s (LH q.CZ q.sp q.cc q.mg u.ab u.cv u.dn u.ro)
 sc:AD s=200
theorem CU.tr{Y:Nat->Prop}{HD:Nat->Nat}{h1:H}(a:CU Y AD h HD h1)(x:CU Y HD h1 AF AA):CU Y AD h AF AA:=⟨Kp.DZ x.k (λi hi e=>by rw[a.CA i hi]at e;exact e) a.k,λb hl=>(x.CA b (IF hl a.k.n)).trans (a.CA b hl)⟩
theorem CU.kp{Y:Nat->Prop}(k:Kp Y h AA)(hc:∀b,b<h.n->AF b=AD b):CU Y AD h AF AA:=⟨k.mono λb e=> .inr e,hc⟩
theorem CU.fw(a:CU (λb=>b=s) AD h AF AA)(hs:AD s=200):Fw AD h AF AA:=⟨a.k.n,λb hb h0=>a.k.old b hb (λe=>e.elim (λe=>om) λe=>by subst e;omega),a.CA⟩
section
variable {q:ME}{u:Ls}
theorem HE.k0(y:HE q AD h s u)(k:K0 h AA)(hc:∀b,b<h.n->AF b=AD b):HE q AF AA s u:=⟨y.r.k0 k hc,Ab k y.ka,(hc _ y.ka.lt).trans y.ca,Ab k y.ks,(hc _ y.ks.lt).trans y.sc⟩
theorem HE.st{cv:AV}{dn ro:Bool}(y:HE q AD h s u)(k:Kp (λj=>j=s\/h.n<=j) h AA)(ks:Bk AA s (LH q.CZ q.sp q.cc q.mg u.ab cv dn ro))(hc:∀b,b<h.n->AF b=AD b):HE q AF AA s {u with cv:=cv,dn:=dn,ro:=ro}:=by
 have oV:¬(u.ab=s\/h.n<=u.ab):=λe=>by
  have h1:=y.ca;have h2:=y.sc;have h3:=y.ka.lt;rcases e with e|e;.rw[e]at h1;omega
  .omega
 exact⟨y.r.own k (λb hb e=>e.elim (λe=>by subst e;exact Nat.le_of_eq y.sc.symm) λe=>absurd hb (Nat.not_lt.2 e)) hc,Ao k oV y.ka,(hc _ y.ka.lt).trans y.ca,ks,(hc _ y.ks.lt).trans y.sc⟩
theorem HE.ch(y:HE q AD h s u)(a:BB AD h AF AA)(r:BJ AF AA u.I AB):HE q AF AA s {u with S:=AB}:=⟨r,(a.bk y.ka y.ca).1,(a.bk y.ka y.ca).2,(a.b2 y.ks y.sc).1,(a.b2 y.ks y.sc).2⟩
end
def Ep(sz:Nat)(Z:HJ)(gs:VE):HJ:=gs.foldl (SD sz) Z
structure Zh (q:ME)(S:Ap):Prop where
 c:q.c=(EI S.D.sz q.CZ+S.D.P- 1)/S.D.P+1
 CZ:q.CZ=S.S
theorem Zh.sm{q:ME}(f:Zh q S)(m:Sm S AB):Zh q AB:=⟨by rw[m.sz,m.P];exact f.c,by rw[m.CZ];exact f.CZ⟩
structure fg (q:ME)(S:Ap)(n:Nat)(Z:HJ)(gs:VE)(j:Nat)(AB:Ap):Prop where
 ex:∃IT,(IT=Ep S.D.sz Z (gs.take j)\/IT=Ep S.D.sz Z (gs.take (j+1)))/\FC S IT q.l q.sp q.c (3300000*(n+j+1)) (800*(n+j+1)) AB
theorem Vd{sz:Nat}{j:Nat}(hj:j<gs.length):Ep sz Z (gs.take (j+1))=SD sz (Ep sz Z (gs.take j)) gs[j]:=by unfold Ep;rw[List.take_succ_eq_append_getElem hj,jP];rfl
theorem FC.tr{S0:Ap}{l:List Int}{c B EB:Nat}(q:FC S Z l sp c B EB AB)(m:Sm S0 S):FC S0 Z l sp c B EB AB:=⟨m.trans q.sm,q.dn,q.nc,q.fl,q.er,q.bd,q.ex⟩
section
variable {q:ME}{u:Ls}{n left:Nat}
theorem aa3(y:HE q AD h s u)(f:Zh q u.S)(fi:FI Z q.l q.sp q.c q.Y n u.S)(ca:JM AD h u.cv u.S.D.sz gs)(go:∀g∈gs,Rz u.S.S u.S.D.P g)(hn:n+gs.length<=250)(hl:left<=4):CX L 50 [.ptr s 0,AN left] h (λv AA=>∃AF AB EZ,FI (Ep u.S.D.sz Z (gs.take (gs.length- left))) q.l q.sp q.c q.Y (n+(gs.length- left)) AB/\Sm u.S AB/\HE q AF AA s {u with S:=AB,cv:=EZ}/\JM AF AA EZ u.S.D.sz (gs.drop (gs.length- left))/\CU (λb=>b=s) AD h AF AA) (λv AA=>∃AF AB EZ j,v= .Cm 42 (AN 50)/\j<gs.length- left/\fg q u.S n Z gs j AB/\HE q AF AA s {u with S:=AB,cv:=EZ}/\JM AF AA EZ u.S.D.sz (gs.drop j)/\CU (λb=>b=s) AD h AF AA):=by
 have ls:=y.ks.lt;refine Bg L X.f50 λQ x cs G Gp=>?_;refine wk ?_;refine Wr L (α:=Ap×(Nat->Nat)×AV×Nat) (T:=λ_=>[(1,some (AN left)),(0,some (.ptr s 0))]) (mu:=λz=>gs.length- z.2.2.2) (R:=λz hh=>z.2.2.2<=gs.length- left/\FI (Ep u.S.D.sz Z (gs.take z.2.2.2)) q.l q.sp q.c q.Y (n+z.2.2.2) z.1/\Sm u.S z.1/\HE q z.2.1 hh s {u with S:=z.1,cv:=z.2.2.1}/\JM z.2.1 hh z.2.2.1 u.S.D.sz (gs.drop z.2.2.2)/\CU (λb=>b=s) AD h z.2.1 hh) (u.S,AD,u.cv,0) BA ⟨CN _,fi,⟨rfl,rfl,rfl,rfl,rfl⟩,y.k0 za λ_ _=>rfl,ca.fw (Kp.gO za),CU.kp (Kp.mono (λ_ f=>f.elim) (by exact AH:K0 _ _)) λ_ _=>rfl⟩ ?_;rintro⟨S1,HD,cv1,j⟩ hh ⟨hj,f1,UU,y1,SE,a1⟩ ih;simp only at hj f1 UU y1 SE a1 ih;have eK:=y1.ks;unfold LH at eK;have TE:(gs.drop j).length=gs.length- j:=SW;rcases SE.ex with⟨e,rfl⟩|⟨b,o,vs,c,rfl,e1,kb,cb,k1,k2,k3⟩
 .have aH:gs.length- left=j:=by rw[e]at TE;simp at TE;omega
  refine ret X.f50.1 ?_;refine⟨HD,S1,.AS,by rw[aH];exact f1,UU,y1.k0 AH λ_ _=>rfl,by rw[aH];exact SE.fw (Kp.gO AH),a1.tr (CU.kp (Kp.mono (λ_ f=>f.elim) (AH:K0 _ _)) λ_ _=>rfl)⟩
 .have lb:=kb.lt;have kbr:=kb.rk;have ns:=SE;rw[TE]at ns;rw[TE]at e1 k1 k2 eK y1;dsimp only at eK;by_cases hle:gs.length- j<=left;.have aH:gs.length- left=j:=om;refine ret X.f50.1 ?_;refine⟨HD,S1,_,by rw[aH];exact f1,UU,y1.k0 AH λ_ _=>rfl,by rw[aH];exact ns.fw (Kp.gO AH),a1.tr (CU.kp (Kp.mono (λ_ f=>f.elim) (AH:K0 _ _)) λ_ _=>rfl)⟩
  .have YQ:j<gs.length:=om;have od:gs.drop j=gs[j]::gs.drop (j+1):=ST YQ;obtain⟨v0,vr,rfl⟩:∃v0 vr,vs=v0::vr:=by
    cases vs with
    |nil=>simp at e1;omega
    |cons v0 vr=>exact⟨v0,vr,rfl⟩
   have bS:SY HD hh v0 u.S.D.sz gs[j]:=k3 0 v0 gs[j] rfl (by rw[od];rfl);have uJ:c[o+0]?=some v0:=(by have:=HT (λl=>l[0]?) k2;simp only[N0 (show 0<gs.length- j from om),MN,TV]at this;exact this);have hlj:0<gs.length- j:=om;refine wk ?_;have hgj:=go gs[j] (LC YQ);refine Gj L (c:=Tl L y1.r y1.ka y1.ca y1.ks y1.sc f1 om (f.sm UU).c (f.sm UU).CZ (by rw[UU.sz];exact bS) (by rw[UU.CZ,UU.P];exact hgj)) (g:=?_) (gp:=?_)
   .rintro _ h2 ⟨S2,BN,rfl,f2,PN,r2,a2⟩;rw[UU.sz,<-Vd YQ]at f2;have y2:HE q BN h2 s {u with S:=S2,cv:= .AE b o (gs.length- j) (Aa+1)}:=y1.ch a2 r2;have YX:=y2.ks;dsimp only[LH]at YX;have Zo:=ns.fw a2.fw;refine wk ?_;refine ih (S2,BN,.AE b (o+1) (gs.length- j- 1) (Aa+1),j+1) _ _ (by simp only;omega) ⟨by simp only;omega,f2,UU.trans PN,(y2.st (cv:= .AE b (o+1) (gs.length- j- 1) (Aa+1)) ?_ ?_ λ_ _=>rfl),?_,a1.tr (a2.x.tr (CU.kp ?_ λ_ _=>rfl))⟩ BA;.exact AH
    .exact AG
    .have XA:(gs.drop (j+1)).length=gs.length- j- 1:=pt;have PJ:=(a2.bk kb cb).1;refine(JM.mk (AD:=BN) (h:=h2) (v:= .AE b (o+1) (gs.length- j- 1) (Aa+1)) (gs:=gs.drop (j+1)) (.inr ⟨b,o+1,vr,c,by rw[XA],by rw[XA];simp at e1;omega,PJ,(a2.bk kb cb).2,om,?_,λi v g hv hg=>?_⟩)).fw ((AH:Kp (λj=>j=s) h2 _).fw λb _ e=>by subst e;rw[y2.sc];omega);.rw[XA];have h9:=HT (λl=>l.drop 1) k2;simp only[List.drop_take,List.drop_drop]at h9;exact h9
     .exact(k3 (i+1) v g hv (by rw[MN]at hg ⊢;rw[<-hg];congr 1;omega)).fw a2.fw
    .exact AH
   .rintro _ h2 ⟨S2,BN,IT,rfl,hz,f2,r2,a2⟩;rw[UU.sz,<-Vd YQ]at hz;refine Ax L X.f50.1 ?_;exact Gp _ _ ⟨BN,S2,_,j,rfl,om,⟨IT,hz,f2.tr UU⟩,y1.ch a2 r2,ns.fw a2.fw,a1.tr a2.x⟩
end
section
variable {q:ME}
include L
theorem ut{Q:Nat->AV->Prop}{l:CJ}{cs:FM}{b2:Nat}(t4:look l 4=some (.ptr b4 0))(k4:Bk h b4 [x0])(hG:∀v AA,post v AA->GO P0 E Q (finish v cs AA z))(DL:post x0 h):Good P0 E Q ⟨⟨40,nt,AJ l,todo,[.call 90 [.ptr b4 0,.ptr b2 0]],.returning,false,none⟩,z::cs,h⟩:=by refine Co L W1 X.f90.1 rfl rfl rfl ?_;refine Dt L rfl ?_;refine wk ?_;refine BO L (Ki (k:=true) rfl rfl) ?_;refine wk ?_;refine Hc L X.f90.1 rfl ?_;refine C1 L X.f40.1 (Bw t4 (Bk.e AG) rfl E7) hG DL
theorem agv{Q:Nat->AV->Prop}{l:CJ}{cs:FM}{b2 e:Nat}{dn ro:Bool}(t4:look l 4=some (.ptr b4 0))(k4:Bk h b4 [x0])(k2:Bk h b2 [.ptr f 0])(kf:Bk h f [.ptr s 0])(ks:Bk h s (LH CZ sp cc mg ab cv dn ro))(ne:b4≠b2/\b4≠f/\b4≠s/\s≠b2/\s≠f)(hG:∀v AA,post v AA->GO P0 E Q (finish v cs AA z))(DL:∀AA,Kp (λj=>j=b4\/j=s) h AA->Bk AA s (LH CZ sp cc mg ab cv (dn ||decide (e=50)) (ro ||decide (e=130)))->post (AN e) AA):Good P0 E Q ⟨⟨40,nt,AJ l,todo,[.call 90 [.ptr b4 0,.ptr b2 0]],.panicking [(.Cm 42 (AN e),false)],false,none⟩,z::cs,h⟩:=by
 obtain⟨n1,n2,n3,n4,n5⟩:=ne;unfold LH at ks
 have fin:∀{h2:H} {lq:CJ},Kp (λj=>j=b4\/j=s) h h2->Bk h2 b4 [AN e]->Bk h2 s (LH CZ sp cc mg ab cv (dn ||decide (e=50)) (ro ||decide (e=130)))->
   Good P0 E Q ⟨⟨90,abf.ntmps,AJ lq,[],[],.run,true,none⟩,⟨40,nt,AJ l,todo,[],.panicking [(.Cm 42 (AN e),true)],false,none⟩::z::cs,h2⟩:=by
  intro h2 lq k ug eJ
  refine Hc L X.f90.1 rfl ?_
  refine C1 L X.f40.1 (Bw t4 (Bk.e AG) rfl E7) hG (DL _ ?_ ?_)
  .exact k
  .exact eJ
 have key:∀d r:Bool,(dn ||decide (e=50))=d->(ro ||decide (e=130))=r->(dn=true\/dn=false/\e=50\/dn=false/\e≠50)/\(ro=true\/ro=false/\e=130\/ro=false/\e≠130):=λd r _ _=>by
  constructor
  .cases dn
   .by_cases he:e=50;.exact .inr (.inl ⟨rfl,he⟩)
    .exact .inr (.inr ⟨rfl,he⟩)
   .exact .inl rfl
  .cases ro
   .by_cases he:e=130;.exact .inr (.inl ⟨rfl,he⟩)
    .exact .inr (.inr ⟨rfl,he⟩)
   .exact .inl rfl
 obtain⟨c1,c2⟩:=key _ _ rfl rfl;refine Co L W1 X.f90.1 rfl rfl rfl ?_;refine Je L rfl ?_;dsimp only[LH]at fin;rcases c1 with rfl|⟨rfl,h1⟩|⟨rfl,h1⟩<;>rcases c2 with rfl|⟨rfl,h3⟩|⟨rfl,h3⟩
 all_goals
  (try rw[CM h1]at fin);(try rw[CW h1]at fin);(try rw[CM h3]at fin);(try rw[CW h3]at fin);refine wk ?_;refine fin ?_ ?_ ?_;.exact AH
  .exact AG
  .exact AG
theorem Xk{cp:List AV}{Y:Nat->Prop}{u:Ls}{post:Ls->(Nat->Nat)->H->Prop}{G0:Ls->Nat->(Nat->Nat)->H->Prop}(y:HE q AD h s u)(kf:Bk h f [.ptr s 0])(cf:AD f=0)(hY:∀b,Y b->b<h.n/\b≠f)(hc:∀BN h2,K0 h h2->h.n+2<=h2.n->(∀b,b<h.n->BN b=AD b)->HE q BN h2 s u->CX L g (.ptr s 0::cp) h2 (λv AA=>∃AF FW,HE q AF AA s FW/\CU (λb=>b=s\/Y b) BN h2 AF AA/\post FW AF AA) (λv AA=>∃AF FW e,v= .Cm 42 (AN e)/\HE q AF AA s FW/\CU (λb=>b=s\/Y b) BN h2 AF AA/\G0 FW e AF AA)):CL L 40 [.ptr f 0,.fn (.func g) [] cp] h (λv AA=>∃AF FW h1,CU (λb=>b=s\/Y b) AD h AF AA/\Fw AF h1 AF AA/\Kp (λj=>j=h.n+1\/j=s) h1 AA/\h.n+2<=h1.n/\((v=Zi/\HE q AF AA s FW/\post FW AF h1)\/(∃e:Nat,v=AN e/\HE q AF AA s {FW with dn:=FW.dn ||decide (e=50),ro:=FW.ro ||decide (e=130)}/\G0 FW e AF h1))):=by
 have lf:=kf.lt;have ls:=y.ks.lt;have k2:K0 h (hp (h.n+2) h.t [(h.n+1,some (cl [Zi])),(h.n,some (cl [.ptr f 0]))]):=AH;refine Ad L X.f40 λQ x cs G=>?_;refine wk ?_;refine Ha L rfl rfl rfl rfl ?_;refine wk ?_;have KN:∀b,b<h.n->AX (AX AD h.n 0) (h.n+1) 200 b=AD b:=λb hb=>(CB _ _ om).trans (CB _ _ om);have c0:AX (AX AD h.n 0) (h.n+1) 200 h.n=0:=(CB _ _ om).trans (Am _ _ _);have c1:AX (AX AD h.n 0) (h.n+1) 200 (h.n+1)=200:=Am _ _ _;generalize AX (AX AD h.n 0) (h.n+1) 200=BN at KN c0 c1;have qI:K0 h (hp (h.n+1+1) h.t [(h.n+1,some (cl [Zi])),(h.n,some (cl [.ptr f 0]))]):=AH;have y2:HE q BN (hp (h.n+1+1) h.t [(h.n+1,some (cl [Zi])),(h.n,some (cl [.ptr f 0]))]) s u:=y.k0 qI KN;have CK:f≠s:=λe=>by have:=y.sc;rw[<-e,cf]at this;omega
 have own:∀{h1:H} {AF:Nat->Nat},CU (λb=>b=s\/Y b) BN (hp (h.n+1+1) h.t [(h.n+1,some (cl [Zi])),(h.n,some (cl [.ptr f 0]))]) AF h1->Bk h1 (h.n+1) [Zi]/\Bk h1 h.n [.ptr f 0]/\Bk h1 f [.ptr s 0]:=λ{h1 AF} a=>by
  refine⟨Ao a.k ?_ AG,Ao a.k ?_ AG,Ao a.k ?_ (Ab qI kf)⟩
  .rintro(e|e|e);.omega
   .omega
   .have:=(hY _ e).1;omega
  .rintro(e|e|e);.omega
   .omega
   .have:=(hY _ e).1;omega
  .rintro(e|e|e);.have:=KN f lf;omega
   .exact CK e
   .exact(hY _ e).2 rfl
 have back:∀{h1 AA:H} {AF:Nat->Nat},CU (λb=>b=s\/Y b) BN (hp (h.n+1+1) h.t [(h.n+1,some (cl [Zi])),(h.n,some (cl [.ptr f 0]))]) AF h1->Kp (λj=>j=h.n+1\/j=s) h1 AA->CU (λb=>b=s\/Y b) AD h AF AA:=λ{h1 AA AF} a k=>by
  have n1:=a.k.n;simp only[Ag]at n1;refine⟨Kp.DZ k (λi hi e=>?_) (Kp.DZ a.k (λi hi e=>?_) (qI.mono λ_ f=>f.elim)),λb hb=>?_⟩
  .rcases e with e|e;.omega
   .exact .inr (.inl e)
  .rw[KN i hi]at e;exact e
  .rw[a.CA b Ze,KN b hb]
 refine d9 L (fst:=[]) (cp:=cp) (va:=[.ptr s 0]) (r0:= .ptr s 0::cp) ?_ ?_ ?_ ?_ ?_ (hc BN _ qI Ze KN y2) ?_ ?_;.rfl
 .rfl
 .rfl
 .rfl
 .rfl
 .rintro v h1 ⟨AF,FW,y1,a1,p1⟩;obtain⟨b1,b2,b3⟩:=own a1;have n1:=a1.k.n;simp only[Ag]at n1;have ls1:=y1.ks.lt;have s1:AF (h.n+1)=200:=(a1.CA _ Ze).trans c1;refine wk ?_;refine Fd L (todo:=[]) ?_;have kz:Kp (λj=>j=h.n+1\/j=s) h1 (hp h1.n h1.t [(h.n+1,some (cl [Zi]))]):=AH;have ko:Kp (λj=>j=h.n+1) h1 (hp h1.n h1.t [(h.n+1,some (cl [Zi]))]):=AH;refine ut L (b4:=h.n+1) (x0:=Zi) rfl AG G ⟨AF,FW,h1,back a1 kz,kz.fw λb _ e=>e.elim (λe=>by subst e;omega) λe=>by subst e;rw[y1.sc];omega,kz,n1,.inl ⟨rfl,?_,p1⟩⟩;have BZ:∀{b},AF b=0->b≠h.n+1:=λe1 e2=>by rw[e2,s1]at e1;omega
  exact⟨y1.r.out ko λb _ e=>by subst e;omega,Ao ko (BZ y1.ca) y1.ka,y1.ca,Ao ko om y1.ks,y1.sc⟩
 .rintro v h1 ⟨AF,FW,e,rfl,y1,a1,p1⟩;obtain⟨b1,b2,b3⟩:=own a1;have n1:=a1.k.n;simp only[Ag]at n1;have s1:AF (h.n+1)=200:=(a1.CA _ Ze).trans c1;have s0:AF h.n=0:=(a1.CA _ Ze).trans c0;refine agv L (s:=s) (b4:=h.n+1) (b2:=h.n) (f:=f) rfl b1 b2 b3 y1.ks ⟨om,om,om,om,λe=>CK e.symm⟩ G λAA k eJ=>⟨AF,FW,h1,back a1 k,k.fw λb _ e=>e.elim (λe=>by subst e;omega) λe=>by subst e;rw[y1.sc];omega,k,n1,.inr ⟨e,rfl,?_,p1⟩⟩;have BZ:∀{b},AF b=0->¬(b=h.n+1\/b=s):=λe1 e2=>by have:=y1.sc;rcases e2 with e2|e2<;>subst e2<;>omega
  exact⟨y1.r.out k λb _ e=>e.elim (λe=>by subst e;omega) λe=>by subst e;exact Nat.le_of_eq y1.sc.symm,Ao k (BZ y1.ca) y1.ka,y1.ca,eJ,y1.sc⟩
end
theorem zc{p:Prop}(h:p:=by
 refine ret X.f48.1 ?_
 refine fin (vs:=[]) (nb:=h2.n+1) rfl (λi v g hv hg=>by simp at hv) ?_ om ?_ ?_
 .exact AH
 .exact AG
 .exact AG):p:=h
section
variable {q:ME}{u:Ls}{n:Nat}{g:GV}
theorem Tm(ks:Bk h s (LH CZ sp cc mg ab cv false false)):CL L 47 [.ptr s 0] h λv AA=>v= .BM []/\AA=h:=by unfold LH at ks;refine Aj L X.f47 λQ x cs G=>?_;refine AK ?_ (c:=Cu L);rintro _ rfl;refine AK ?_ (c:=Cu L);rintro _ rfl;refine ret X.f47.1 ?_;exact⟨rfl,rfl⟩
theorem JM.push{sz nb:Nat}{vs:List AV}(e1:vs.length=gs.length)(k3:∀(i:Nat) v g,vs[i]?=some v->gs[i]?=some g->SY AF AA v sz g)(gr:SY AF AA gv sz g)(kb:Bk AA nb (vs++[gv]))(cb:AF nb=0)(e:cv= .AE nb 0 (gs.length+1) (Aa+1)):JM AF AA cv sz (gs++[g]):=by
 have hl:(gs++[g]).length=gs.length+1:=by rw[DX];rfl
 refine⟨.inr ⟨nb,0,vs++[gv],vs++[gv],by rw[hl];exact e,by rw[hl,DX,e1];rfl,kb,cb,by rw[hl,DX,e1];simp,by rw[hl,LT,LN (by rw[DX,e1];exact BD _)],λi v LI hv hg=>?_⟩⟩;by_cases hi:i<gs.length;.rw[QC om]at hv hg;exact k3 i v LI hv hg
 .have YO:=(FE.1 hg).1;have hi3:i=gs.length:=om
  subst hi3;rw[OB (BD _),Xq]at hg;rw[<-e1,OB (BD _),Xq]at hv
  cases hv;cases hg;exact gr
theorem Ve(y:HE q AD h s u)(f:Zh q u.S)(fi:FI Z q.l q.sp q.c q.Y n u.S)(ca:JM AD h u.cv u.S.D.sz gs)(go:∀LI∈gs++[g],Rz u.S.S u.S.D.P LI)(gr:SY AD h gv u.S.D.sz g)(hn:n+gs.length+1<=250)(MS:gs.length<=q.cc/\q.cc<=4):CX L 48 [.ptr s 0,gv] h (λv AA=>∃AF AB EZ,FI (Ep u.S.D.sz Z ((gs++[g]).take (gs.length+1- q.cc))) q.l q.sp q.c q.Y (n+(gs.length+1- q.cc)) AB/\Sm u.S AB/\HE q AF AA s {u with S:=AB,cv:=EZ}/\JM AF AA EZ u.S.D.sz ((gs++[g]).drop (gs.length+1- q.cc))/\CU (λb=>b=s) AD h AF AA) (λv AA=>∃AF AB EZ gs' j,v= .Cm 42 (AN 50)/\j<gs.length+1- q.cc/\fg q u.S n Z (gs++[g]) j AB/\HE q AF AA s {u with S:=AB,cv:=EZ}/\JM AF AA EZ u.S.D.sz gs'/\CU (λb=>b=s) AD h AF AA):=by
 have ks:=y.ks;unfold LH at ks;refine Bg L X.f48 λQ x cs G Gp=>?_;refine wk ?_;by_cases QM:q.cc=0
 .have dS:gs=[]:=jJ.1 om;subst dS;rw[QM]at G Gp ⊢;refine Gj L (c:=Tl L y.r y.ka y.ca y.ks y.sc fi om f.c f.CZ gr (go g W0)) (g:=?_) (gp:=?_);.rintro _ h2 ⟨S2,BN,rfl,f2,PN,r2,a2⟩;refine ret X.f48.1 ?_;exact⟨BN,S2,_,f2,PN,y.ch a2 r2,ca.fw a2.fw,a2.x⟩
  .rintro _ h2 ⟨S2,BN,IT,rfl,hz,f2,r2,a2⟩;refine Ax L X.f48.1 ?_;exact Gp _ _ ⟨BN,S2,_,[],0,rfl,Nat.one_pos,⟨IT,hz,f2⟩,y.ch a2 r2,ca.fw a2.fw,a2.x⟩
 .refine Gj L (c:=aa3 (left:=q.cc- 1) L y f fi ca (λLI hg=>go LI (TY _ hg)) om om) (g:=?_) (gp:=?_)
  .rintro _ h2 ⟨BN,S2,cv2,f2,PN,y2,Zo,a2⟩;have hm:gs.length- (q.cc- 1)=gs.length+1- q.cc:=om;rw[hm]at f2 Zo;have hk:gs.length+1- q.cc<=gs.length:=om;have ah6:(gs++[g]).take (gs.length+1- q.cc)=gs.take (gs.length+1- q.cc):=qw hk;have ed:(gs++[g]).drop (gs.length+1- q.cc)=gs.drop (gs.length+1- q.cc)++[g]:=List.drop_append_of_le_length hk;rw[ah6,ed]at G;have gQ:=gr.fw (a2.fw y.sc);obtain⟨gb,w,BH,egv,-⟩:=gr.ex;subst egv;have YX:=y2.ks;dsimp only[LH]at YX
   have fin:∀{h3:H} {nb:Nat} {vs:List AV},vs.length=(gs.drop (gs.length+1- q.cc)).length->(∀(i:Nat) v g,vs[i]?=some v->(gs.drop (gs.length+1- q.cc))[i]?=some g->SY BN h2 v u.S.D.sz g)->Kp (λj=>j=s) h2 h3->h2.n<=nb->Bk h3 nb (vs++[.AE gb 0 w.length (Aa+2)])->
     Bk h3 s (LH q.CZ q.sp q.cc q.mg u.ab (.AE nb 0 ((gs.drop (gs.length+1- q.cc)).length+1) (Aa+1)) u.dn u.ro)->_:=λ{h3 nb vs} e1 k3 k FT kb mO=>
    have a3:CU (λb=>b=s) BN h2 (ext BN h2.n) h3:=CU.kp k λb hb=>Ae hb
    (⟨ext BN h2.n,S2,_,f2,PN,y2.st (k.mono λ_ e=> .inl e) mO λb hb=>Ae hb,JM.push (AF:=ext BN h2.n) (AA:=h3) e1 (λi v g hv hg=>(k3 i v g hv hg).fw (a3.fw y2.sc)) (gQ.fw (a3.fw y2.sc)) kb (B9 FT) rfl,a2.tr a3⟩:∃AF AB EZ,FI (Ep u.S.D.sz Z (gs.take (gs.length+1- q.cc))) q.l q.sp q.c q.Y (n+(gs.length+1- q.cc)) AB/\Sm u.S AB/\HE q AF h3 s {u with S:=AB,cv:=EZ}/\JM AF h3 EZ u.S.D.sz (gs.drop (gs.length+1- q.cc)++[g])/\CU (λb=>b=s) AD h AF h3)
   rcases Zo.ex with⟨e,rfl⟩|⟨b,o,vs,c,rfl,e1,kb,cb,k1,k2,k3⟩;.rw[e]at fin G;refine wk ?_;(apply B4 rfl rfl;exact rC rfl rfl rfl);refine wk ?_;(apply H8 L rfl rfl;exact D1 (new:=[.AE gb 0 w.length (Aa+2)]) rfl rfl (CG.of (c:=[.AE gb 0 w.length (Aa+2)]) AG (BD _) rfl) om om);exact zc
   .have lb:=kb.lt;have TE:(gs.drop (gs.length+1- q.cc)).length=gs.length- (gs.length+1- q.cc):=SW;rw[TE]at YX e1 k1 k2 fin;by_cases h0:gs.length- (gs.length+1- q.cc)=0;.have uM:vs=[]:=jJ.1 om;rw[h0]at YX fin;refine wk ?_;(apply H8 L rfl rfl;exact rQ (new:=[.AE gb 0 w.length (Aa+2)]) rfl rfl (CG.of (c:=[.AE gb 0 w.length (Aa+2)]) AG (BD _) rfl) om om);exact zc
    .refine wk ?_;(apply H8 L rfl rfl;exact z9 (old:=vs) (new:=[.AE gb 0 w.length (Aa+2)]) rfl rfl (CG.of (c:=c) AG om (by rw[RW];exact k2)) (CG.of (c:=[.AE gb 0 w.length (Aa+2)]) AG (BD _) rfl) om mD om);refine ret X.f48.1 ?_;refine fin (vs:=vs) (nb:=h2.n+1) e1 k3 ?_ om ?_ ?_;.exact AH
     .exact AG
     .exact AG
  .rintro _ h2 ⟨BN,S2,cv2,j,rfl,hj,br,y2,Zo,a2⟩;refine Ax L X.f48.1 ?_;obtain⟨IT,hz,f2⟩:=br.ex;have e0:(gs++[g]).take j=gs.take j:=qw om;have e1:(gs++[g]).take (j+1)=gs.take (j+1):=qw om;exact Gp _ _ ⟨BN,S2,cv2,_,j,rfl,om,⟨IT,by rw[e0,e1];exact hz,f2⟩,y2,Zo,a2⟩
end
theorem ze{p:Prop}(h:p:=by
 rintro(q|q|q|q)
 .exact hl (cQ.1 q)
 .rw[DC]at q;omega
 .exact q rfl
 .exact q nd):p:=h
def Iy(mg S sz m:Nat)(l:List Int):Nat:=if l=[]\/mg<l.length\/m≠sz\/¬l.Nodup then 2 else if∃s∈l,s<0\/(S:Int)<=s then 3 else 0
structure SB (h:H)(lo:Nat)(v:AV)(sz:Nat)(l:List GW)(BH:Nat->List Nat):Prop where
 ex:(l=[]/\v= .AS)\/(0<l.length/\∃gb:Nat,v= .AE gb 0 l.length (Aa+2)/\Bk h gb (l.flatMap (GL sz))/\lo<=gb/\∀(i:Nat) (s:Int) (b o c:Nat),l[i]?=some (s,some (b,o,c))->BS h b o (BH b)/\(BH b).length=sz/\lo<=b/\b≠gb)
theorem SB.k0{sz:Nat}{l:List GW}(q:SB h lo v sz l BH)(k:K0 h AA):SB AA lo v sz l BH:=by
 exact zZ
theorem SB.app{sz N n:Nat}{l:List GW}{x:GW}(hb:Bk h N (l.flatMap (GL sz)++GL sz x))(hN:lo<=N)(hn:l.length=n)(hr:∀(i:Nat) (s:Int) (b o c:Nat),l[i]?=some (s,some (b,o,c))->BS h b o (BH b)/\(BH b).length=sz/\lo<=b/\b≠N)
  (hx:∀(s:Int) (b o c:Nat),x=(s,some (b,o,c))->BS h b o (BH b)/\(BH b).length=sz/\lo<=b/\b≠N):SB h lo (.AE N 0 (n+1) (Aa+2)) sz (l++[x]) BH:=by
 exact zY
theorem SB.ins{sz D:Nat}{l:List GW}{bs:List Nat}(q:SB h lo v sz l BH)(hD:h.n<=D):SB h lo v sz l (AX BH D bs)/\DT (AX BH D bs) l=DT BH l:=by
 rcases q.ex with⟨rfl,e⟩|⟨h1,gb,h2,h3,h4,h5⟩;.exact⟨⟨.inl ⟨rfl,e⟩⟩,rfl⟩
 .have e:∀(i:Nat) (s:Int) (b o c:Nat),l[i]?=some (s,some (b,o,c))->AX BH D bs b=BH b:=λi s b o c e=>CB _ _ (by have:=(h5 i s b o c e).1.ET;omega);refine⟨⟨.inr ⟨h1,gb,h2,h3,h4,λi s b o c hi=>by rw[e i s b o c hi];exact h5 i s b o c hi⟩⟩,?_⟩;unfold DT;refine ar λx hx=>?_;obtain⟨i,hi⟩:=UZ.1 hx;obtain⟨s,_|⟨b,o,c⟩⟩:=x;.rfl
  .simp only[KR];rw[e i s b o c hi]
theorem SB.gp{sz:Nat}{l:List GW}(q:SB h lo v sz l BH)(hl:l≠[])(hn:l.length<=12):SY (ext AD lo) h v sz (DT BH l):=by
 rcases q.ex with⟨h1,-⟩|⟨h1,gb,h2,h3,h4,h5⟩;.exact absurd h1 hl
 .exact⟨gb,l,BH,h2,hl,hn,h3,B9 h4,rfl,λi s b o c e=>let⟨g1,g2,g3,g4⟩:=h5 i s b o c e;⟨g1,B9 g3,g2⟩⟩
structure b9 (h:H)(v:AV)(m:Nat)(w:List GW)(BH:Nat->List Nat):Prop where
 ex:∃gb,v= .AE gb 0 w.length (Aa+2)/\Bk h gb (w.flatMap (GL m))/\∀(i:Nat) (s:Int) (p:Option (Nat×Nat×Nat)),w[i]?=some (s,p)->∃b o c,p=some (b,o,c)/\BS h b o (BH b)/\(BH b).length=m
theorem Ca{a l b:Int}:CL L 46 [AI a,AI l,AI b] h λv AA=>v= .bool (decide (l<=a/\a<=b))/\AA=h:=by
 by_cases h1:l<=a
 .by_cases h2:a<=b;.rw[CM ⟨h1,h2⟩];refine Bj L X.f46 λQ x cs G=>?_;refine ret X.f46.1 ?_;exact⟨rfl,rfl⟩
  .rw[CW λe=>h2 e.2];refine Bj L X.f46 λQ x cs G=>?_;refine ret X.f46.1 ?_;exact⟨rfl,rfl⟩
 .rw[CW λe=>h1 e.1];refine Bj L X.f46 λQ x cs G=>?_;refine ret X.f46.1 ?_;exact⟨rfl,rfl⟩
section
variable {q:ME}{u:Ls}{n cb:Nat}
theorem Vf(y:HE q AD h s u)(KZ:u.dn=false)(KO:u.ro=false)(f:Zh q u.S)(fi:FI Z q.l q.sp q.c q.Y n u.S)(ca:JM AD h u.cv u.S.D.sz gs)(go:∀g∈gs,Rz u.S.S u.S.D.P g)(ta:q.mg<=u.S.D.P)(hn:n+gs.length+1<=250)(MS:gs.length<=q.cc/\q.cc<=4)(kc:Bk h cb [gv])(ig:b9 h gv m w BH)(hl:w≠[])(hlen:w.length<=6)(hm:m<=900):CX L 41 [.ptr s 0,.ptr cb 0] h (λv AA=>Iy q.mg u.S.S u.S.D.sz m (w.map (·.1))=0/\∃AF AB EZ,FI (Ep u.S.D.sz Z ((gs++[DT BH w]).take (gs.length+1- q.cc))) q.l q.sp q.c q.Y (n+(gs.length+1- q.cc)) AB/\Sm u.S AB/\HE q AF AA s {u with S:=AB,cv:=EZ}/\JM AF AA EZ u.S.D.sz ((gs++[DT BH w]).drop (gs.length+1- q.cc))/\CU (λb=>b=s) AD h AF AA) (λv AA=>(v= .Cm 42 (AI ((Iy q.mg u.S.S u.S.D.sz m (w.map (·.1)):Nat):Int))/\Iy q.mg u.S.S u.S.D.sz m (w.map (·.1))≠0/\K0 h AA)\/(Iy q.mg u.S.S u.S.D.sz m (w.map (·.1))=0/\∃AF AB EZ IC j,v= .Cm 42 (AN 50)/\j<gs.length+1- q.cc/\fg q u.S n Z (gs++[DT BH w]) j AB/\HE q AF AA s {u with S:=AB,cv:=EZ}/\JM AF AA EZ u.S.D.sz IC/\CU (λb=>b=s) AD h AF AA)):=by
 obtain⟨gb,rfl,kb,hD⟩:=ig.ex;have ks:=y.ks;have HM:=Yv.2 hl;have DE:=fi.a.CT.sz;dsimp only[LH]at ks;have r:=y.r;obtain⟨mc,fm,bb,db,dK⟩:=r.dv;have dk:=dK.dk;refine Bg L X.f41 λQ x cs G Gp=>?_;refine AK ?_ (c:=Fg L r y.ka);rintro _ rfl;refine AK ?_ (c:=Df L dk);rintro _ h2 ⟨rfl,k2⟩;have YX:=Ab k2 ks;have XK:=Ab k2 kc;have PJ:=Ab k2 kb;have ve:∀{P:Prop},(q.mg<w.length\/m≠u.S.D.sz\/¬(w.map (·.1)).Nodup)->(Iy q.mg u.S.S u.S.D.sz m (w.map (·.1))=2->P)->P:=λhq k=>k (by unfold Iy;rw[AP (.inr (by rw[DC];exact hq))]);by_cases hg:w.length<=q.mg;rotate_left;.refine wk ?_;refine Jg L rfl rfl rfl rfl rfl (Fh L) ?_;rintro _ h3 ⟨rfl,rfl⟩;refine Ax L X.f41.1 ?_;refine ve (.inl (Nat.lt_of_not_le hg)) λe2=>Gp _ _ (.inl ⟨by rw[e2],by rw[e2];simp,k2.trans AH⟩)
 refine AK ?_ (c:=Cu L);rintro _ rfl;by_cases lP:m=u.S.D.sz;rotate_left
 .have aL:0<w.length:=HM;refine wk ?_;refine Bt L (α:=Unit) (T:=λi _=>[(34,some (AN i)),(33,some (AN w.length)),(32,some (.AE gb 0 w.length (Aa+2))),(5,some .AS),(4,some (.map h2.n)),(3,some (AN u.S.D.sz)),(1,some (.ptr cb 0)),(0,some (.ptr s 0))]) (n:=w.length) (R:=λi _ hh=>i=0/\K0 h2 hh/\Mk hh h2.n (([]:OJ).map (mE AI)) 0) (i0:=0) () BA ⟨rfl,AH,CH⟩ (CN _) ?_ ?_;.rintro i _ hh hi ⟨rfl,k1,m1⟩ ih;have OP:=Ab k1 PJ;have qK:=OP.lt;have lm1:=m1.lt;have hx:w[0]?=some w[0]:=DA hi;have DF:=A7 w (Gl (sz:=m) w) 0 _ hx;have dP:=hD 0;generalize dz:w[0]=xx at*;obtain⟨sc,p⟩:=xx;obtain⟨b,o,c,rfl,XA,bR⟩:=dP sc p hx;have HV:0*2+2<=(w.flatMap (GL m)).length/\((w.flatMap (GL m)).drop (0*2)).take 2=[AI sc,.AE b o m c]:=DF;clear DF;refine wk ?_;refine BO L (A0 OP.rk HV rfl) ?_;refine wk ?_;(apply Kk L rfl;exact El (KE.int .i64) EP.nil rfl rfl rfl CH;rfl);refine wk ?_;refine Eu L rfl rfl rfl rfl rfl (Fh L) ?_;rintro _ h3 ⟨rfl,rfl⟩;refine Ax L X.f41.1 ?_;refine ve (.inr (.inl lP)) λe2=>Gp _ _ (.inl ⟨by rw[e2],by rw[e2];simp,k2.trans (Kp.DZ (AB:=λj=>j=h2.n) AH (λi hi e=>om) k1)⟩)
  .rintro _ hh ⟨e,-,-⟩;omega
 subst lP;refine wk ?_
 refine Bt L (α:=OJ×Nat×AV×List GW×(Nat->List Nat)) (T:=λi z=>[(34,some (AN i)),(33,some (AN w.length)),(32,some (.AE gb 0 w.length (Aa+2))),(5,some z.2.2.1),(4,some (.map h2.n)),(3,some (AN u.S.D.sz)),(1,some (.ptr cb 0)),(0,some (.ptr s 0))]) (n:=w.length)
  (R:=λi z hh=>K0 h2 hh/\Mk hh h2.n (z.1.map (mE AI)) z.2.1/\EP z.1 z.2.1/\((w.map (·.1)).take i).Nodup/\(∀k:Int,A9 z.1 k=if k∈(w.map (·.1)).take i then some (AN 1)else none)/\SB hh (h2.n+1) z.2.2.1 u.S.D.sz z.2.2.2.1 z.2.2.2.2/\DT z.2.2.2.2 z.2.2.2.1=(DT BH w).take i) (i0:=0) ([],0,.AS,[],BH) BA
  ⟨AH,CH,EP.nil,by simp,λk=>by simp[A9],⟨.inl ⟨rfl,rfl⟩⟩,rfl⟩ (CN _) ?_ ?_
 .rintro i ⟨M,ck,ev,AY,TZ⟩ hh hi ⟨k1,m1,m2,nd,m3,ow,ZD⟩ ih;simp only at m1 m2 m3 ow ZD;have OP:=Ab k1 PJ;have qK:=OP.lt;have lm1:=m1.lt;have hx:w[i]?=some w[i]:=DA hi;have DF:=A7 w (Gl (sz:=u.S.D.sz) w) i _ hx;have JG:(w.map (·.1)).take (i+1)=(w.map (·.1)).take i++[w[i].1]:=by rw[LO,GD,hx];rfl
  have hgk:(DT BH w).take (i+1)=(DT BH w).take i++[(w[i].1,w[i].2.map λq=>BH q.1)]:=by unfold DT;rw[LO,GD,hx];rfl
  have dP:=hD i;generalize dz:w[i]=xx at*;obtain⟨sc,p⟩:=xx;obtain⟨b,o,c,rfl,XA,bR⟩:=dP sc p hx;have hg3:=m3 sc;have dup:sc∈(w.map (·.1)).take i->¬(w.map (·.1)).Nodup:=λFO nn=>by have h1:=nn.sublist (List.take_sublist (i+1) _);rw[JG,fM]at h1;exact h1.2.2 sc FO sc (aq _) rfl
  have HV:i*2+2<=(w.flatMap (GL u.S.D.sz)).length/\((w.flatMap (GL u.S.D.sz)).drop (i*2)).take 2=[AI sc,.AE b o u.S.D.sz c]:=DF;clear DF;have YR:AY.length=i:=by have:=HT List.length ZD;unfold DT at this;rw[DC,IS,DC]at this;omega
  refine wk ?_;refine BO L (A0 OP.rk HV rfl) ?_;refine wk ?_;refine BO L (C0 (KE.int .i64) rfl rfl CH) ?_;by_cases FO:sc∈(w.map (·.1)).take i;.rw[hg3,AP FO,MC];refine wk ?_;(apply Kk L rfl;exact El (KE.int .i64) m2 rfl rfl rfl CH;rfl);refine wk ?_;refine BO L (C0 (KE.int .i64) rfl rfl CH) ?_;rw[Bu,AP rfl,MC];refine wk ?_;refine Eu L rfl rfl rfl rfl rfl (Fh L) ?_;rintro _ h3 ⟨rfl,rfl⟩;refine Ax L X.f41.1 ?_;refine ve (.inr (.inr (dup FO))) λe2=>Gp _ _ (.inl ⟨by rw[e2],by rw[e2];simp,k2.trans (Kp.DZ (AB:=λj=>j=h2.n) AH (λi hi e=>om) k1)⟩)
  .rw[hg3,AM FO,cS];refine wk ?_;(apply Kk L rfl;exact El (KE.int .i64) m2 rfl rfl rfl CH;rfl);refine wk ?_;refine BO L (C0 (KE.int .i64) rfl rfl CH) ?_;rw[Bu,AP rfl,MC];refine AK ?_ (c:=Cu L);rintro _ rfl;have dT:BS hh b o (BH b):=(XA.k0 k2).k0 k1;have apx:=XA.ET;have tZ:∀k:Int,A9 (Dd M ck sc (AN (0+1))) k=if k∈(w.map (·.1)).take (i+1)then some (AN 1)else none:=λk=>by
    rw[Bu,JG,m3];by_cases e:k=sc;.subst e;rw[AP rfl,AP W0]
    .rw[AM e];by_cases e2:k∈(w.map (·.1)).take i;.rw[AP e2,AP (by simp[e2])]
     .rw[AM e2,AM (by simp[e2,e])]
   have ab7:((w.map (·.1)).take (i+1)).Nodup:=(by rw[JG];exact Sv nd FO);have aby:∀AR,hh.n<=AR->DT (AX TZ AR (BH b)) (AY++[(sc,some (AR,0,Aa+1))])=(DT BH w).take (i+1):=λAR JT=>by have e1:=(ow.ins (bs:=BH b) JT).2;rw[hgk,<-ZD,<-e1];unfold DT;rw[IG];simp only[FU,Zb,KR,Am]
   rcases ow.ex with⟨aL,rfl⟩|⟨pN,bO,rfl,kg,HX,aJ⟩
   .refine AK ?_ (c:=Ip L (Lw (S:=λj=>j=h2.n) za om dT) bR ⟨om,om⟩);rintro _ h3 ⟨AR,rfl,aP,FT,k3⟩;simp only[Ag]at FT;have n3:=k3.n;simp only[Ag]at n3;refine wk ?_;(apply H8 L rfl rfl;exact D1 (new:=[AI sc,.AE AR 0 u.S.D.sz (Aa+1)]) rfl rfl (CG.of (c:=[AI sc,.AE AR 0 u.S.D.sz (Aa+1)]) AG (BD _) rfl) om om);refine wk ?_;have PY:i=0:=(by rw[aL]at YR;exact YR.symm);refine ih (Dd M ck sc (AN (0+1)),LM M ck sc,.AE (h3.n+1) 0 (i+1) (Aa+2),AY++[(sc,some (AR,0,Aa+1))],AX TZ AR (BH b)) _ _ ⟨?_,?_,m2.set _ _,ab7,tZ,SB.app (N:=h3.n+1) (x:=(sc,some (AR,0,Aa+1))) ?_ om YR (λi s b o c e=>by rw[aL]at e;simp at e) (λs b o c e=>?_),aby AR om⟩ ?_;.exact Kp.DZ (AB:=λj=>j=h2.n) (Kp.trans (Kp.trans za (k3.mono λ_ f=>f.elim)) (Kp.mono (λ_ f=>f.elim) (by exact AH:K0 h3 _))) (λi hi e=>om) k1
    .exact CH
    .rw[aL];exact AG
    .cases e;have BX:=aP.ET;show BS _ AR 0 (AX TZ AR (BH b) AR)/\(AX TZ AR (BH b) AR).length=_/\_/\_;rw[Am];exact⟨aP.k0 za,bR,om,om⟩
    .rw[PY];exact BA
   .have CS:=kg.lt;refine AK ?_ (c:=Ip L (Lw (S:=λj=>j=h2.n) za om dT) bR ⟨om,om⟩);rintro _ h3 ⟨AR,rfl,aP,FT,k3⟩;simp only[Ag]at FT;have n3:=k3.n;simp only[Ag]at n3;rw[YR];refine wk ?_;(apply H8 L rfl rfl;exact D7 (old:=AY.flatMap (GL u.S.D.sz)) (new:=[AI sc,.AE AR 0 u.S.D.sz (Aa+1)]) rfl rfl (CG.of (c:=AY.flatMap (GL u.S.D.sz)) AG (by rw[Gy];omega) k1z) (CG.of (c:=[AI sc,.AE AR 0 u.S.D.sz (Aa+1)]) AG (BD _) rfl) om om rfl);refine wk ?_;have kB:Kp (λj=>j=bO) h3 (hp (h3.n+1+1) h3.t [(h3.n+1,some (cl (AY.flatMap (GL u.S.D.sz)++[AI sc,.AE AR 0 u.S.D.sz (Aa+1)]))),(bO,none),(h3.n,some (cl [AI sc,.AE AR 0 u.S.D.sz (Aa+1)]))]):=AH;have ac5:Kp (λj=>j=h2.n) hh h3:=Kp.trans za (k3.mono λ_ f=>f.elim);refine ih (Dd M ck sc (AN (0+1)),LM M ck sc,.AE (h3.n+1) 0 (i+1) (Aa+2),AY++[(sc,some (AR,0,Aa+1))],AX TZ AR (BH b)) _ _ ⟨?_,?_,m2.set _ _,ab7,tZ,SB.app (N:=h3.n+1) (x:=(sc,some (AR,0,Aa+1))) ?_ om YR (λj s b1 o1 c1 e=>?_) (λs b o c e=>?_),aby AR om⟩ ?_;.exact Kp.DZ kB (λi hi e=>om) (Kp.DZ ac5 (λi hi e=>om) k1)
    .exact CH
    .exact AG
    .obtain⟨g1,g2,g3,g4⟩:=aJ j s b1 o1 c1 e;have BX:=g1.ET;show BS _ b1 o1 (AX TZ AR (BH b) b1)/\(AX TZ AR (BH b) b1).length=_/\_/\_;rw[CB _ _ om];exact⟨Lw kB g4 (Lw ac5 om g1),g2,g3,om⟩
    .cases e;have BX:=aP.ET;show BS _ AR 0 (AX TZ AR (BH b) AR)/\(AX TZ AR (BH b) AR).length=_/\_/\_;rw[Am];exact⟨Lw kB om aP,bR,om,om⟩
    .exact BA
 .rintro⟨M,ck,ev,AY,TZ⟩ hh ⟨k1,m1,m2,nd,m3,ow,ZD⟩;simp only at m1 m2 m3 ow ZD;rw[LN W0]at nd;rw[LN (by unfold DT;simp)]at ZD;have YR:AY.length=w.length:=by have:=HT List.length ZD;unfold DT at this;rwa[DC,DC]at this
  rcases ow.ex with⟨aL,-⟩|⟨pN,bO,rfl,kg,HX,aJ⟩;.rw[aL]at YR;simp at YR;omega
  have XI:K0 h hh:=k2.trans k1;have ux:=ks;have kg0:=kg;have ajc:AY.map (·.1)=w.map (·.1):=by rw[<-Dj TZ AY,<-Dj BH w,ZD]
  rw[YR]at pN;have hq:=f.CZ;have hS:=fi.cf.PV;clear m1 YX PJ XK kg;rw[YR];refine wk ?_;refine Bt L (α:=Unit) (T:=λi _=>[(68,some (AN i)),(67,some (AN w.length)),(66,some (.AE bO 0 w.length (Aa+2))),(5,some (.AE bO 0 w.length (Aa+2))),(0,some (.ptr s 0))]) (n:=w.length) (R:=λi _ h4=>K0 hh h4/\∀j x,j<i->w[j]?=some x->0<=x.1/\x.1<(u.S.S:Int)) (i0:=0) () BA ⟨AH,λj x hj=>om⟩ (CN _) ?_ ?_
  .rintro i _ h4 hi ⟨k4,ok⟩ ih;have UQ:=Ab k4 (Ab XI ux);have qG:=Ab k4 kg0;have qN:=UQ.lt;have hx:w[i]?=some w[i]:=DA hi;have ZH:AY[i]?=some AY[i]:=DA om;have TI:AY[i].1=w[i].1:=(by have:=HT (λl=>l[i]?) ajc;simp only[GD,hx,ZH,KR]at this;exact Za this);have DF:=A7 AY (Gl (sz:=u.S.D.sz) AY) i _ ZH;have gX:=HT (λl=>l[i]?) ZD;unfold DT at gX;simp only[GD,hx,ZH,KR]at gX;have dP:=hD i;generalize dz:w[i]=xx at*;generalize aqg:AY[i]=aox at*;obtain⟨sc,p⟩:=xx;obtain⟨j7,JW⟩:=aox;obtain⟨b,o,c,rfl,-,-⟩:=dP sc p hx;simp only at TI;subst TI;have bad:(j7<0\/(u.S.S:Int)<=j7)->Iy q.mg u.S.S u.S.D.sz u.S.D.sz (w.map (·.1))=3:=λhq=>by unfold Iy;rw[AM,AP ⟨j7,DK.2 ⟨_,I4 hx,rfl⟩,hq⟩];exact ze
   rcases JW with _|⟨AR,EG,BP⟩;.simp at gX
   have HV:i*2+2<=(AY.flatMap (GL u.S.D.sz)).length/\((AY.flatMap (GL u.S.D.sz)).drop (i*2)).take 2=[AI j7,.AE AR EG u.S.D.sz BP]:=DF;clear DF;refine wk ?_;refine BO L (A0 qG.rk HV rfl) ?_;refine AK ?_ (c:=Ca L);rintro _ rfl;by_cases hr:0<=j7/\j7<(u.S.S:Int)
   .rw[CM om];refine AK ?_ (c:=Cu L);rintro _ rfl;refine wk ?_;refine ih () _ _ ⟨?_,λj x hj e=>?_⟩ BA;.exact k4.trans AH
    .rcases Nat.lt_succ_iff_lt_or_eq.1 hj with q|q;.exact ok j x q e
     .subst q;rw[hx]at e;cases e;exact hr
   .rw[CW om];refine wk ?_;refine Jg L rfl rfl rfl rfl rfl (Fh L) ?_;rintro _ h5 ⟨rfl,rfl⟩;refine Ax L X.f41.1 ?_;have e2:=bad om;exact Gp _ _ (.inl ⟨by rw[e2],by rw[e2];simp,XI.trans (k4.trans AH)⟩)
  .rintro _ h4 ⟨k4,ok⟩;have UP:=XI.trans k4;have e0:Iy q.mg u.S.S u.S.D.sz u.S.D.sz (w.map (·.1))=0:=by
    unfold Iy;rw[AM,AM];.exact z6
    .exact ze
   have c4:∀b,b<h.n->ext AD (h2.n+1) b=AD b:=λb hb=>Ae om;have y4:HE q (ext AD (h2.n+1)) h4 s u:=y.k0 UP c4;have UQ:=y4.ks;have qN:=UQ.lt;have a4:CU (λb=>b=s) AD h (ext AD (h2.n+1)) h4:=CU.kp (UP.mono λ_ f=>f.elim) c4;have gk:Rz u.S.S u.S.D.P (DT BH w):=⟨by unfold DT;simpa using hl,by rw[Dj];exact nd,λy hy=>by obtain⟨x,hx,rfl⟩:=DK.1 (show y∈w.map λx=>(x.1,x.2.map λq=>BH q.1)from hy);obtain⟨j,hj⟩:=UZ.1 hx;exact ok j x (FE.1 hj).1 hj,EM (V0 _ _) (by unfold DT;rw[DC];omega)⟩;have gr:=(ow.k0 k4).gp (AD:=AD) (by rw[<-Yv];omega) om;rw[ZD,YR]at gr;rw[KZ,KO]at UQ;refine AK ?_ (c:=Tm L UQ);rintro _ rfl;refine Gj L (c:=Ve L y4 f fi (ca.fw (a4.fw y.sc)) (λg hg=>(GU.1 hg).elim (go g) λh=>by rw[EV.1 h];exact gk) gr hn MS) (g:=?_) (gp:=?_);.rintro _ h5 ⟨NR,S5,dJ,f5,vZ,y5,Zp,a5⟩;refine ret X.f41.1 ?_;exact⟨e0,NR,S5,dJ,f5,vZ,y5,Zp,a4.tr a5⟩
   .rintro _ h5 ⟨NR,S5,dJ,sJ,j,rfl,hj,br,y5,Zp,a5⟩;refine Ax L X.f41.1 ?_;exact Gp _ _ (.inr ⟨e0,NR,S5,dJ,sJ,j,rfl,hj,br,y5,Zp,a4.tr a5⟩)
end
structure JC (q:ME)(AD:Nat->Nat)(h:H)(f s:Nat)(u:Ls)(n:Nat)(Z:HJ)(gs:VE):Prop where
 kf:Bk h f [.ptr s 0]
 cf:AD f=0
 y:HE q AD h s u
 dn:u.dn=false
 ro:u.ro=false
 ok:Zh q u.S
 fi:FI Z q.l q.sp q.c q.Y n u.S
 ca:JM AD h u.cv u.S.D.sz gs
 go:∀g∈gs,Rz u.S.S u.S.D.P g
 mg:q.mg<=u.S.D.P
 cc:gs.length<=q.cc/\q.cc<=4
structure jl (q:ME)(AD:Nat->Nat)(h:H)(f s:Nat)(u:Ls)(S0:Ap)(n:Nat)(Z:HJ):Prop where
 kf:Bk h f [.ptr s 0]
 cf:AD f=0
 y:HE q AD h s u
 fc:FC S0 Z q.l q.sp q.c (3300000*n) (800*n) u.S
 ok:Zh q S0
 ci:Ts S0 q.sp q.c q.Y
 en:250000<S0.D.en
 mg:q.mg<=S0.D.P
 cc:q.cc<=4
def b7(q:ME)(f s:Nat)(u:Ls)(n:Nat)(Z:HJ)(all:VE)(k:Nat)(v:AV)(AF:Nat->Nat)(AA:H):Prop:=
 (v=Zi/\∃AB EZ,Sm u.S AB/\JC q AF AA f s {u with S:=AB,cv:=EZ} (n+k) (Ep u.S.D.sz Z (all.take k)) (all.drop k))\/
 (v=AN 50/\∃AB EZ j IT,j<k/\(IT=Ep u.S.D.sz Z (all.take j)\/IT=Ep u.S.D.sz Z (all.take (j+1)))/\jl q AF AA f s {u with S:=AB,cv:=EZ,dn:=true} u.S (n+j+1) IT)
section
variable {q:ME}{u:Ls}{n:Nat}{all:VE}
theorem CU.wk{Y jy:Nat->Prop}(a:CU Y AD h AF AA)(hy:∀b,Y b->jy b):CU jy AD h AF AA:=⟨a.k.mono λb e=>e.imp id (hy b),a.CA⟩
theorem JC.k0{BN:Nat->Nat}{h2:H}(y:JC q AD h f s u n Z gs)(k:K0 h h2)(c:∀b,b<h.n->BN b=AD b):JC q BN h2 f s u n Z gs:=⟨Ab k y.kf,(c _ y.kf.lt).trans y.cf,y.y.k0 k c,y.dn,y.ro,y.ok,y.fi,y.ca.fw ⟨k.n,λb hb _=>k.old b hb id,c⟩,y.go,y.mg,y.cc⟩
theorem Iz{k:Nat}{cp:List AV}{er:Nat}(y:JC q AD h f s u n Z gs)(hk:all.length=k+(all.drop k).length)(ha:(all.drop k).length<=q.cc)(hg:∀g∈all,Rz u.S.S u.S.D.P g)(he:er≠50/\er≠130)(hc:∀BN h2,K0 h h2->h.n+2<=h2.n->(∀b,b<h.n->BN b=AD b)->JC q BN h2 f s u n Z gs->CX L g (.ptr s 0::cp) h2 (λv AA=>er=0/\∃AF AB EZ,FI (Ep u.S.D.sz Z (all.take k)) q.l q.sp q.c q.Y (n+k) AB/\Sm u.S AB/\HE q AF AA s {u with S:=AB,cv:=EZ}/\JM AF AA EZ u.S.D.sz (all.drop k)/\CU (λb=>b=s) BN h2 AF AA) (λv AA=>(v= .Cm 42 (AN er)/\er≠0/\K0 h2 AA)\/(er=0/\∃AF AB EZ IC j,v= .Cm 42 (AN 50)/\j<k/\fg q u.S n Z all j AB/\HE q AF AA s {u with S:=AB,cv:=EZ}/\JM AF AA EZ u.S.D.sz IC/\CU (λb=>b=s) BN h2 AF AA))):CL L 40 [.ptr f 0,.fn (.func g) [] cp] h (λv AA=>∃AF,CU (λb=>b=s) AD h AF AA/\(er≠0/\v=AN er/\JC q AF AA f s u n Z gs\/er=0/\b7 q f s u n Z all k v AF AA)):=by
 have JH:=λ{BN:Nat->Nat} {h2:H} (k:K0 h h2) (c:∀b,b<h.n->BN b=AD b)=>y.k0 k c;have fw:∀{AF:Nat->Nat} {AA:H},CU (λb=>b=s\/False) AD h AF AA->Bk AA f [.ptr s 0]/\AF f=0:=λ{AF AA} a=>have a2:CU (λb=>b=s) AD h AF AA:=a.wk λb e=>e.elim id False.elim;⟨(a2.fw y.y.sc).bk y.kf y.cf,(a.CA _ y.kf.lt).trans y.cf⟩;refine(Xk L (Y:=λ_=>False) (u:=u) (post:=λFW AF h1=>er=0/\∃AB EZ,FW={u with S:=AB,cv:=EZ}/\FI (Ep u.S.D.sz Z (all.take k)) q.l q.sp q.c q.Y (n+k) AB/\Sm u.S AB/\JM AF h1 EZ u.S.D.sz (all.drop k)) (G0:=λFW e AF h1=>(e=er/\er≠0/\FW=u/\JM AF h1 u.cv u.S.D.sz gs)\/(er=0/\e=50/\∃AB EZ IC j,FW={u with S:=AB,cv:=EZ}/\j<k/\fg q u.S n Z all j AB/\JM AF h1 EZ u.S.D.sz IC)) y.y y.kf y.cf (λb e=>e.elim) λBN h2 k2 n2 c2 _=>?_).mono ?_
 .refine(hc BN h2 k2 n2 c2 (JH k2 c2)).mono ?_ ?_;.rintro v AA ⟨e0,AF,AB,EZ,f1,sm,y1,SE,a1⟩;exact⟨AF,_,y1,a1.wk λb e=> .inl e,e0,AB,EZ,rfl,f1,sm,SE⟩
  .rintro v AA (⟨rfl,e0,k3⟩|⟨e0,AF,AB,EZ,IC,j,rfl,hj,br,y1,SE,a1⟩);.have y3:=(JH k2 c2).y.k0 (AF:=ext BN h2.n) k3 λb hb=>Ae hb;exact⟨ext BN h2.n,u,er,rfl,y3,CU.kp (k3.mono λ_ f=>f.elim) λb hb=>Ae hb,.inl ⟨rfl,e0,rfl,(JH k2 c2).ca.fw ⟨k3.n,λb hb _=>k3.old b hb id,λb hb=>Ae hb⟩⟩⟩
   .exact⟨AF,_,50,rfl,y1,a1.wk λb e=> .inl e,.inr ⟨e0,rfl,AB,EZ,IC,j,rfl,hj,br,SE⟩⟩
 .rintro v AA ⟨AF,FW,h1,a,fw1,-,-,⟨rfl,y1,e0,AB,EZ,rfl,f1,sm,SE⟩|⟨e,rfl,y1,⟨rfl,e0,rfl,SE⟩|⟨e0,rfl,AB,EZ,IC,j,rfl,hj,br,SE⟩⟩⟩;.obtain⟨kf,cf⟩:=fw a;exact⟨AF,a.wk λb e=>e.elim id False.elim,.inr ⟨e0,.inl ⟨rfl,AB,EZ,sm,kf,cf,y1,y.dn,y.ro,y.ok.sm sm,f1,by show JM AF AA EZ AB.D.sz _;rw[sm.sz];exact SE.fw fw1,λg dX=>by show Rz AB.S AB.D.P g;rw[sm.CZ,sm.P];exact hg g (List.mem_of_mem_drop dX),by show q.mg<=AB.D.P;rw[sm.P];exact y.mg,ha,y.cc.2⟩⟩⟩
  .obtain⟨kf,cf⟩:=fw a;rw[CW he.1,CW he.2,jX,jX]at y1;exact⟨AF,a.wk λb e=>e.elim id False.elim,.inl ⟨e0,rfl,kf,cf,y1,y.dn,y.ro,y.ok,y.fi,SE.fw fw1,y.go,y.mg,y.cc⟩⟩
  .obtain⟨kf,cf⟩:=fw a;obtain⟨IT,hz,fc⟩:=br.ex;rw[CM (rfl:50=50),CW (by omega:¬50=130),Bool.or_true,jX]at y1;exact⟨AF,a.wk λb e=>e.elim id False.elim,.inr ⟨e0,.inr ⟨rfl,AB,EZ,j,IT,hj,hz,kf,cf,y1,fc,y.ok,y.fi.cf,y.fi.en,y.mg,y.cc.2⟩⟩⟩
end
section
variable {q:ME}{u:Ls}{n:Nat}
theorem b9.k0(g:b9 h gv m w BH)(k:K0 h AA):b9 AA gv m w BH:=by
 obtain⟨gb,e,kb,hD⟩:=g.ex
 exact⟨gb,e,Ab k kb,λi s p hi=>let⟨b,o,c,e1,e2,e3⟩:=hD i s p hi;⟨b,o,c,e1,e2.k0 k,e3⟩⟩
theorem ado(mg S sz m:Nat)(l:List Int):Iy mg S sz m l≠50/\Iy mg S sz m l≠130:=by
 unfold Iy;split;.omega
 .split<;>omega
theorem wK{S sz P:Nat}(e0:Iy mg S sz m (w.map (·.1))=0)(hl:w≠[])(hm:mg<=P):Rz S P (DT BH w):=by
 unfold Iy at e0;split at e0;.cases e0
 .rename_i c1;split at e0;.cases e0
  .rename_i c2;refine⟨by unfold DT;simpa using hl,by rw[Dj];exact nC λh=>c1 (.inr (.inr (.inr h))),λz hz=>?_,EM (V0 _ _) ?_⟩;.have aM:z.1∈w.map (·.1):=(by rw[<-Dj BH w];exact DK.2 ⟨z,hz,rfl⟩);exact⟨Int.not_lt.1 λh=>c2 ⟨_,aM,.inl h⟩,Int.not_le.1 λh=>c2 ⟨_,aM,.inr h⟩⟩
   .have:¬mg<(w.map (·.1)).length:=λh=>c1 (.inr (.inl h));unfold DT;rw[DC]at this ⊢;omega
theorem aa4(y:JC q AD h f s u n Z gs)(hn:n+gs.length+1<=250)(ig:b9 h gv m w BH)(hl:w≠[])(hlen:w.length<=6)(hm:m<=900):CL L 12 [.ptr f 0,gv] h (λv AA=>∃AF,CU (λb=>b=s) AD h AF AA/\(Iy q.mg u.S.S u.S.D.sz m (w.map (·.1))≠0/\v=AI ((Iy q.mg u.S.S u.S.D.sz m (w.map (·.1)):Nat):Int)/\JC q AF AA f s u n Z gs\/Iy q.mg u.S.S u.S.D.sz m (w.map (·.1))=0/\b7 q f s u n Z (gs++[DT BH w]) (gs.length+1- q.cc) v AF AA)):=by
 obtain⟨gb,rfl,-,-⟩:=ig.ex;have lf:=y.kf.lt;refine Ad L X.f12 λQ x cs G=>?_;refine wk ?_;have k1:K0 h (hp (h.n+1) h.t [(h.n,some (cl [.AE gb 0 w.length (Aa+2)]))]):=AH;have y1:=y.k0 (BN:=ext AD h.n) k1 λb hb=>Ae hb;have kc:Bk (hp (h.n+1) h.t [(h.n,some (cl [.AE gb 0 w.length (Aa+2)]))]) h.n [.AE gb 0 w.length (Aa+2)]:=AG;have MS:=y.cc;have hd:((gs++[DT BH w]).drop (gs.length+1- q.cc)).length=gs.length+1- (gs.length+1- q.cc):=by rw[SW,DX];rfl
 by_cases e0:Iy q.mg u.S.S u.S.D.sz m (w.map (·.1))=0;rotate_left
 .have hc:=Iz (all:=gs) (k:=0) (er:=Iy q.mg u.S.S u.S.D.sz m (w.map (·.1))) (g:=41) (cp:=[.ptr h.n 0]) L y1 ua (by rw[LT];exact MS.1) y1.go (ado _ _ _ _ _) λBN h2 k2 n2 c2 y2=>
   (Vf L y2.y y2.dn y2.ro y2.ok y2.fi y2.ca y2.go y2.mg hn y2.cc (Ab k2 kc) ((ig.k0 k1).k0 k2) hl hlen hm).mono (λv AA p=>absurd p.1 e0) λv AA p=>by
    rcases p with p|p;.exact .inl p
    .exact absurd p.1 e0
  refine AK ?_ (c:=hc);rintro v h2 ⟨BN,a2,⟨-,rfl,y2⟩|⟨e1,-⟩⟩;.refine ret X.f12.1 ?_;exact⟨BN,(CU.kp (k1.mono λ_ f=>f.elim) λb hb=>Ae hb).tr a2,.inl ⟨e0,rfl,y2⟩⟩
  .exact absurd e1 e0
 .have lK:∀g∈gs++[DT BH w],Rz u.S.S u.S.D.P g:=λg hg=>(GU.1 hg).elim (y.go g) λh=>by rw[EV.1 h];exact wK e0 hl y.mg
  have hc:=Iz (all:=gs++[DT BH w]) (k:=gs.length+1- q.cc) (er:=0) (g:=41) (cp:=[.ptr h.n 0]) L y1 (by rw[hd,DX];show gs.length+1=_;omega) (by rw[hd];omega) lK ⟨om,om⟩ λBN h2 k2 n2 c2 y2=>
   (Vf L y2.y y2.dn y2.ro y2.ok y2.fi y2.ca y2.go y2.mg hn y2.cc (Ab k2 kc) ((ig.k0 k1).k0 k2) hl hlen hm).mono (λv AA p=>⟨rfl,p.2⟩) λv AA p=>by
    rcases p with p|p;.exact absurd e0 p.2.1
    .exact .inr ⟨rfl,p.2⟩
  refine AK ?_ (c:=hc);rintro v h2 ⟨BN,a2,⟨e1,-⟩|⟨-,o⟩⟩;.exact absurd rfl e1
  .rcases o with⟨rfl,o⟩|⟨rfl,o⟩;.refine ret X.f12.1 ?_;exact⟨BN,(CU.kp (k1.mono λ_ f=>f.elim) λb hb=>Ae hb).tr a2,.inr ⟨e0,.inl ⟨rfl,o⟩⟩⟩
   .refine ret X.f12.1 ?_;exact⟨BN,(CU.kp (k1.mono λ_ f=>f.elim) λb hb=>Ae hb).tr a2,.inr ⟨e0,.inr ⟨rfl,o⟩⟩⟩
end
section
variable {q:ME}{u:Ls}{n:Nat}
theorem Vh(y:JC q AD h f s u n Z gs):CL L 12 [.ptr f 0,.AS] h (λv AA=>∃AF,CU (λb=>b=s) AD h AF AA/\v=AN 2/\JC q AF AA f s u n Z gs):=by
 have lf:=y.kf.lt;refine Ad L X.f12 λQ x cs G=>?_;refine wk ?_;have k1:K0 h (hp (h.n+1) h.t [(h.n,some (cl [.AS]))]):=AH;have y1:=y.k0 (BN:=ext AD h.n) k1 λb hb=>Ae hb;have kc:Bk (hp (h.n+1) h.t [(h.n,some (cl [.AS]))]) h.n [.AS]:=AG;have MS:=y.cc;have hc:=Iz (all:=gs) (k:=0) (er:=2) (g:=41) (cp:=[.ptr h.n 0]) L y1 ua (by rw[LT];exact MS.1) y1.go ⟨om,om⟩ λBN h2 k2 n2 c2 y2=>by have ks:=y2.y.ks;have XK:=Ab k2 kc;dsimp only[LH]at ks;have r:=y2.y.r;obtain⟨mc,fm,bb,db,dK⟩:=r.dv;have dk:=dK.dk;refine Bg L X.f41 λQ x cs G Gp=>?_;refine AK ?_ (c:=Fg L r y2.y.ka);rintro _ rfl;refine AK ?_ (c:=Df L dk);rintro _ h3 ⟨rfl,k3⟩;have qF:=Ab k3 XK;refine wk ?_;refine Jg L rfl rfl rfl rfl rfl (Fh L) ?_;rintro _ h4 ⟨rfl,rfl⟩;refine Ax L X.f41.1 ?_;exact Gp _ _ (.inl ⟨rfl,om,k3.trans AH⟩)
 refine AK ?_ (c:=hc);rintro v h2 ⟨BN,a2,⟨-,rfl,y2⟩|⟨e1,-⟩⟩;.refine ret X.f12.1 ?_;exact⟨BN,(CU.kp (k1.mono λ_ f=>f.elim) λb hb=>Ae hb).tr a2,rfl,y2⟩
 .omega
theorem Vi(y:JC q AD h f s u n Z gs)(hn:n+gs.length<=250):CL L 15 [.ptr f 0] h (λv AA=>∃AF,CU (λb=>b=s) AD h AF AA/\b7 q f s u n Z gs gs.length v AF AA):=by
 have lf:=y.kf.lt;have hc:=Iz (all:=gs) (k:=gs.length) (er:=0) (g:=49) (cp:=[]) L y (by rw[List.drop_length];rfl) (by rw[List.drop_length];exact CN _) y.go ⟨om,om⟩ λBN h2 k2 n2 c2 y2=>by
  have ks:=y2.y.ks;rw[y2.dn,y2.ro]at ks;refine Bg L X.f49 λQ x cs G Gp=>?_;refine AK ?_ (c:=Tm L ks);rintro _ rfl;refine Gj L (c:=aa3 (left:=0) L y2.y y2.ok y2.fi y2.ca y2.go hn om) (g:=?_) (gp:=?_);.rintro _ h3 ⟨KT,S3,sK,f3,sm3,y3,gG,a3⟩;rw[WK]at f3 gG;refine ret X.f49.1 ?_;exact⟨rfl,KT,S3,sK,f3,sm3,y3,gG,a3⟩
  .rintro _ h3 ⟨KT,S3,sK,j,rfl,hj,br,y3,gG,a3⟩;refine Ax L X.f49.1 ?_;exact Gp _ _ (.inr ⟨rfl,KT,S3,sK,_,j,rfl,om,br,y3,gG,a3⟩)
 refine Aj L X.f15 λQ x cs G=>?_;refine AK ?_ (c:=hc);rintro v h2 ⟨BN,a2,⟨e1,-⟩|⟨-,o⟩⟩;.exact absurd rfl e1
 .rcases o with⟨rfl,o⟩|⟨rfl,o⟩;.refine ret X.f15.1 ?_;exact⟨BN,a2,.inl ⟨rfl,o⟩⟩
  .refine ret X.f15.1 ?_;exact⟨BN,a2,.inr ⟨rfl,o⟩⟩
end
variable {M P S b b1 cap i i0 i1 lp o t:Nat}{m:Int}{p:Prop}{post:H->Prop}{q:ME}{u:Ls}
theorem zf(h:p:=by
 rw[CW om]
 refine wk ?_
 refine Jg L rfl rfl rfl rfl rfl (Fh L) ?_
 rintro _ h4 ⟨rfl,rfl⟩
 refine Ax L X.f59.1 ?_
 exact G _ _ ⟨rfl,AH⟩):p:=h
def XU(a n:Nat):List GW:=(List.range n).map λj=>(((a+j:Nat):Int),none)
def WG(a n:Nat):GV:=(List.range n).map λj=>(((a+j:Nat):Int),none)
theorem Agv(BH:Nat->List Nat)(a n:Nat):DT BH (XU a n)=WG a n:=by unfold DT XU WG;rw[WL];rfl
theorem H3(a n:Nat):(XU a n).length=n:=by unfold XU;rw[DC,ZY]
theorem aa5{a n:Nat}{s:Int}{c:Nat}(h:(XU a n)[i]?=some (s,some (b,o,c))):False:=by
 unfold XU at h;rw[GD]at h;obtain⟨j,-,e⟩:=Xs.1 h
 cases e
theorem aa6(a n:Nat):XU a (n+1)=XU a n++[(((a+n:Nat):Int),none)]:=by unfold XU;rw[WQ,IG];rfl
theorem ib{a n:Nat}(hn:n≠0)(h:a+n<=S):Rz S P (WG a n):=by
 refine⟨?_,?_,λy hy=>?_,?_⟩;.unfold WG;intro e;have:=cQ.1 e;rw[List.range_eq_nil]at this;exact hn this
 .unfold WG;rw[WL];exact List.Pairwise.map _ (λa b (e:a≠b) h=>e (by simp only[Function.comp]at h;omega)) jQ
 .obtain⟨j,hj,rfl⟩:=DK.1 hy;rw[KI]at hj;exact⟨by show(0:Int)<=((a+j:Nat):Int);omega,by show((a+j:Nat):Int)<_;omega⟩
 .have:(WG a n).filter (λx=>x.2.isSome)=[]:=List.filter_eq_nil_iff.2 λy hy=>by obtain⟨j,hj,rfl⟩:=DK.1 hy;simp
  rw[this];exact CN _
section
variable {n b2:Nat}{a:Int}
theorem ann(y:JC q AD h f s u n Z gs)(k1:Bk h b1 [AI a])(k2:Bk h b2 [AI m])(hb:¬(0<=a/\a<(u.S.S:Int)/\0<=m/\m<=(u.S.S:Int)- a)):CP L 59 [.ptr s 0,.ptr b1 0,.ptr b2 0] h λv AA=>v= .Cm 42 (AN 3)/\K0 h AA:=by
 have ks:=y.y.ks;have hS:=y.fi.cf.PV;have hq:=y.ok.CZ;dsimp only[LH]at ks;refine Ey L X.f59 λQ x cs G=>?_;refine AK ?_ (c:=Ca L);rintro _ rfl;by_cases c1:0<=a/\a<(u.S.S:Int);.rw[CM om];refine AK ?_ (c:=Ca L);rintro _ rfl;exact zf
 .exact zf
theorem Acj(y:JC q AD h f s u n Z gs)(hn:n+gs.length+1<=250)(k1:Bk h b1 [AN i0])(k2:Bk h b2 [AN i1])(h0:i0<u.S.S)(h1:i0+i1<=u.S.S):CX L 59 [.ptr s 0,.ptr b1 0,.ptr b2 0] h (λv AA=>(i1=0/\K0 h AA)\/(i1≠0/\∃AF AB EZ,FI (Ep u.S.D.sz Z ((gs++[WG i0 i1]).take (gs.length+1- q.cc))) q.l q.sp q.c q.Y (n+(gs.length+1- q.cc)) AB/\Sm u.S AB/\HE q AF AA s {u with S:=AB,cv:=EZ}/\JM AF AA EZ u.S.D.sz ((gs++[WG i0 i1]).drop (gs.length+1- q.cc))/\CU (λb=>b=s) AD h AF AA)) (λv AA=>i1≠0/\∃AF AB EZ IC j,v= .Cm 42 (AN 50)/\j<gs.length+1- q.cc/\fg q u.S n Z (gs++[WG i0 i1]) j AB/\HE q AF AA s {u with S:=AB,cv:=EZ}/\JM AF AA EZ u.S.D.sz IC/\CU (λb=>b=s) AD h AF AA):=by
 have ks:=y.y.ks;have hS:=y.fi.cf.PV;have hq:=y.ok.CZ;rw[y.dn,y.ro]at ks;have ux:=ks;dsimp only[LH]at ks;refine Bg L X.f59 λQ x cs G Gp=>?_;refine AK ?_ (c:=Ca L);rintro _ rfl;rw[CM om];refine AK ?_ (c:=Ca L);rintro _ rfl;rw[CM om];refine AK ?_ (c:=Cu L);rintro _ rfl;refine AK ?_ (c:=Tm L ux);rintro _ rfl;refine wk ?_;refine Bt L (α:=AV) (T:=λi ev=>[(29,some (AN i)),(28,some (AN i1)),(4,some ev),(2,some (.ptr b2 0)),(1,some (.ptr b1 0)),(0,some (.ptr s 0))]) (n:=i1) (R:=λi ev hh=>K0 h hh/\SB hh h.n ev u.S.D.sz (XU i0 i) λ_=>[]) (i0:=0) .AS BA ⟨AH,⟨.inl ⟨rfl,rfl⟩⟩⟩ (CN _) ?_ ?_
 .rintro i ev hh hi ⟨kk,ow⟩ ih;have k11:=Ab kk k1;rcases ow.ex with⟨aL,rfl⟩|⟨pN,bO,rfl,kg,HX,aJ⟩
  .have PY:i=0:=(by have:=HT List.length aL;rwa[H3]at this);refine wk ?_;(apply IQ L rfl;exact D1 (new:=[AN (i0+i),.AS]) rfl rfl (CG.of (c:=[AN (i0+i),.AS]) AG (BD _) rfl) om om;rfl);refine wk ?_;refine ih (.AE (hh.n+1) 0 (i+1) (Aa+2)) _ _ ⟨kk.trans AH,?_⟩ ?_
   .rw[aa6];refine SB.app (N:=hh.n+1) ?_ om (H3 _ _) (λ_ _ _ _ _ e=>(aa5 e).elim) λ_ _ _ _ e=>by cases e
    rw[aL];exact AG
   .rw[PY];exact BA
  .have lg:=kg.lt;rw[H3]at pN ⊢;refine wk ?_;(apply IQ L rfl;exact D7 (old:=(XU i0 i).flatMap (GL u.S.D.sz)) (new:=[AN (i0+i),.AS]) rfl rfl (CG.of (c:=(XU i0 i).flatMap (GL u.S.D.sz)) AG (by rw[Gy,H3];omega) (by rw[LT,LN (by rw[Gy,H3];omega)])) (CG.of (c:=[AN (i0+i),.AS]) AG (BD _) rfl) om om rfl;rfl);refine wk ?_;refine ih (.AE (hh.n+1) 0 (i+1) (Aa+2)) _ _ ⟨?_,?_⟩ BA;.exact Kp.DZ (AB:=λj=>j=bO) AH (λi hi e=>om) kk
   .rw[aa6];refine SB.app (N:=hh.n+1) ?_ om (H3 _ _) (λ_ _ _ _ _ e=>(aa5 e).elim) λ_ _ _ _ e=>by cases e
    exact AG
 .rintro ev hh ⟨kk,ow⟩;have k21:=Ab kk k2;have c4:∀b,b<h.n->ext AD h.n b=AD b:=λb hb=>Ae hb;by_cases hz:i1=0;.subst hz;refine ret X.f59.1 ?_;exact .inl ⟨rfl,kk.trans AH⟩
  .have y4:=y.k0 (BN:=ext AD h.n) kk c4;have qN:=y4.y.ks.lt;have a4:CU (λb=>b=s) AD h (ext AD h.n) hh:=CU.kp (kk.mono λ_ f=>f.elim) c4;have gr:=ow.gp (AD:=AD) (λe=>hz (by have:=HT List.length e;rwa[H3]at this)) (by rw[H3];omega);rw[Agv]at gr;refine Gj L (c:=Ve L y4.y y4.ok y4.fi y4.ca (λg hg=>(GU.1 hg).elim (y4.go g) λh=>by rw[EV.1 h];exact ib hz h1) gr hn y4.cc) (g:=?_) (gp:=?_);.rintro _ h5 ⟨NR,S5,dJ,f5,vZ,y5,Zp,a5⟩;refine ret X.f59.1 ?_;exact .inr ⟨hz,NR,S5,dJ,f5,vZ,y5,Zp,a4.tr a5⟩
   .rintro _ h5 ⟨NR,S5,dJ,sJ,j,rfl,hj,br,y5,Zp,a5⟩;refine Ax L X.f59.1 ?_;exact Gp _ _ ⟨hz,NR,S5,dJ,sJ,j,rfl,hj,br,y5,Zp,a4.tr a5⟩
end
section
variable {n:Nat}{a:Int}
theorem Ack(y:JC q AD h f s u n Z gs)(hb:¬(0<=a/\a<(u.S.S:Int)/\0<=m/\m<=(u.S.S:Int)- a)):CL L 21 [.ptr f 0,AI a,AI m] h (λv AA=>∃AF,CU (λb=>b=s) AD h AF AA/\v=AN 3/\JC q AF AA f s u n Z gs):=by
 have lf:=y.kf.lt;refine Bj L X.f21 λQ x cs G=>?_;refine wk ?_;have k1:K0 h (hp (h.n+1+1) h.t [(h.n+1,some (cl [AI m])),(h.n,some (cl [AI a]))]):=AH;have y1:=y.k0 (BN:=ext AD h.n) k1 λb hb=>Ae hb;have ML:Bk (hp (h.n+1+1) h.t [(h.n+1,some (cl [AI m])),(h.n,some (cl [AI a]))]) h.n [AI a]:=AG;have XK:Bk (hp (h.n+1+1) h.t [(h.n+1,some (cl [AI m])),(h.n,some (cl [AI a]))]) (h.n+1) [AI m]:=AG;have hc:=Iz (all:=gs) (k:=0) (er:=3) (g:=59) (cp:=[.ptr h.n 0,.ptr (h.n+1) 0]) L y1 ua (by rw[LT];exact y.cc.1) y1.go ⟨om,om⟩ λBN h2 k2 n2 c2 y2=>(ann L y2 (Ab k2 ML) (Ab k2 XK) hb).Xc (post:=λ_ _=>False) |>.mono (λv AA p=>False.elim p) λv AA p=> .inl ⟨p.1,om,p.2⟩;refine AK ?_ (c:=hc);rintro v h2 ⟨BN,a2,⟨-,rfl,y2⟩|⟨e1,-⟩⟩;.refine ret X.f21.1 ?_;exact⟨BN,(CU.kp (k1.mono λ_ f=>f.elim) λb hb=>Ae hb).tr a2,rfl,y2⟩
 .omega
theorem Agw(y:JC q AD h f s u n Z gs)(hn:n+gs.length+1<=250)(h0:i0<u.S.S)(h1:i0+i1<=u.S.S):CL L 21 [.ptr f 0,AN i0,AN i1] h (λv AA=>∃AF,CU (λb=>b=s) AD h AF AA/\b7 q f s u n Z (if i1=0 then gs else gs++[WG i0 i1]) (if i1=0 then 0 else gs.length+1- q.cc) v AF AA):=by
 have lf:=y.kf.lt;refine Bj L X.f21 λQ x cs G=>?_;refine wk ?_;have k1:K0 h (hp (h.n+1+1) h.t [(h.n+1,some (cl [AN i1])),(h.n,some (cl [AN i0]))]):=AH;have y1:=y.k0 (BN:=ext AD h.n) k1 λb hb=>Ae hb;have ML:Bk (hp (h.n+1+1) h.t [(h.n+1,some (cl [AN i1])),(h.n,some (cl [AN i0]))]) h.n [AN i0]:=AG;have XK:Bk (hp (h.n+1+1) h.t [(h.n+1,some (cl [AN i1])),(h.n,some (cl [AN i0]))]) (h.n+1) [AN i1]:=AG;have MS:=y.cc;have hd:((gs++[WG i0 i1]).drop (gs.length+1- q.cc)).length=gs.length+1- (gs.length+1- q.cc):=by rw[SW,DX];rfl
 have hc:=Iz (all:=if i1=0 then gs else gs++[WG i0 i1]) (k:=if i1=0 then 0 else gs.length+1- q.cc) (er:=0) (g:=59) (cp:=[.ptr h.n 0,.ptr (h.n+1) 0]) L y1
  (by
    split
    .rw[LT,MD]
    .rw[hd,DX];show gs.length+1=_;omega) (by
                                     split
                                     .rw[LT];exact MS.1
                                     .rw[hd];omega)
  (λg hg=>by
    split at hg
    .exact y.go g hg
    .rename_i hz
     exact(GU.1 hg).elim (y.go g) λh=>by rw[EV.1 h];exact ib hz h1) ⟨om,om⟩ λBN h2 k2 n2 c2 y2=>by
   refine(Acj L y2 hn (Ab k2 ML) (Ab k2 XK) h0 h1).mono (λv AA p=>⟨rfl,?_⟩) λv AA p=> .inr ⟨rfl,?_⟩
   .rcases p with⟨hz,k3⟩|⟨hz,p⟩
    .rw[AP hz,AP hz]
     have y3:=y2.k0 (BN:=ext BN h2.n) k3 λb hb=>Ae hb
     exact⟨_,u.S,u.cv,y3.fi,⟨rfl,rfl,rfl,rfl,rfl⟩,y3.y,y3.ca,CU.kp (k3.mono λ_ f=>f.elim) λb hb=>Ae hb⟩
    .rw[AM hz,AM hz];exact p
   .rw[AM p.1,AM p.1];exact p.2
 refine AK ?_ (c:=hc);rintro v h2 ⟨BN,a2,⟨e1,-⟩|⟨-,o⟩⟩;.exact absurd rfl e1
 .rcases o with⟨rfl,o⟩|⟨rfl,o⟩;.refine ret X.f21.1 ?_;exact⟨BN,(CU.kp (k1.mono λ_ f=>f.elim) λb hb=>Ae hb).tr a2,.inl ⟨rfl,o⟩⟩
  .refine ret X.f21.1 ?_;exact⟨BN,(CU.kp (k1.mono λ_ f=>f.elim) λb hb=>Ae hb).tr a2,.inr ⟨rfl,o⟩⟩
end
theorem zB(h:p:=by
 have pI:((i:Int)- ((1:Nat):Int))=m6 i:=by
  cases i with
  |zero=>rfl
  |succ n=>show _=(n:Int);omega
 refine wk ?_
 rw[pI]
 refine ih i _ _ (NQ i) ⟨om,hJ _ _ _ j3 AH⟩ ?_
 exact BA):p:=h
def m6:Nat->Int
 |0=> -1
 |i+1=>(i:Int)
theorem Alz{cb:Nat}{vs c:List AV}{S:Nat->Prop}{J:Nat->H->Prop}(kM:Bk h M [.AE cb o vs.length cap])(kc:Bk h cb c)(hk:o+vs.length<=c.length/\(c.drop o).take vs.length=vs)(hl:vs.length<1000)(hM:¬S M)(hc:¬S cb)(hS:∀i hh,J i hh->Kp S h hh)(h0:∀hh,K0 h hh->J vs.length hh)(hJ:∀i hh TH,J i hh->K0 hh TH->J i TH)(tG:∀hh,J 0 hh->post hh)(hY:∀i v hh,vs[i]?=some v->J (i+1) hh->SX P0 E F K (.yield lp) [AN i,v] hh λu AA=>u= .bool true/\J i AA\/u= .bool false/\post AA)(bY:∀hh TH,post hh->K0 hh TH->post TH):CL L 123 [.fn (.yield lp) [] [],.ptr M 0] h λv AA=>post AA:=by
 refine Ad L X.f123 λQ x cs G=>?_;refine wk ?_;have uG:((vs.length:Int)- ((1:Nat):Int))=m6 vs.length:=by
  cases vs.length with
  |zero=>rfl
  |succ n=>show _=(n:Int);omega
 rw[uG];refine Wr L (α:=Nat) (T:=λj=>[(3,some (AI (m6 j))),(1,some (.ptr M 0)),(0,some (.fn (.yield lp) [] []))]) (mu:=λj=>j) (R:=λj hh=>j<=vs.length/\J j hh) vs.length BA ⟨BD _,h0 _ AH⟩ ?_;rintro j hh ⟨hj,jj⟩ ih;have kk:=hS _ _ jj;have kM1:=Ao kk hM kM;have ML:=Ao kk hc kc;have kcr:=ML.rk
 cases j with
 |zero=>show Good P0 E Q ⟨⟨_,_,AJ [(3,some (AI (-1))),(1,some (.ptr M 0)),(0,some (.fn (.yield lp) [] []))],_,_,_,_,_⟩,_,_⟩;refine ret X.f123.1 ?_;exact bY _ _ (tG _ jj) AH
 |succ i=>
  show Good P0 E Q ⟨⟨_,_,AJ [(3,some (AN i)),(1,some (.ptr M 0)),(0,some (.fn (.yield lp) [] []))],_,_,_,_,_⟩,_,_⟩;have RI:i<vs.length:=hj;have hv:vs[i]?=some vs[i]:=DA RI;generalize vs[i]=v0 at hv;have oe:c[o+i]?=some v0:=by have:=HT (λl=>l[i]?) hk.2;simp only[N0 RI,MN]at this;rw[this,hv]
  refine wk ?_;refine Jv L rfl rfl rfl rfl rfl (hY i v0 _ hv (hJ _ _ _ jj AH)) ?_;rintro _ h3 (⟨rfl,j3⟩|⟨rfl,j3⟩);.exact zB
  .refine ret X.f123.1 ?_;exact bY _ _ j3 AH
theorem Agx(kM:Bk h M [.AS])(h0:∀hh,K0 h hh->post hh):CL L 123 [.fn (.yield lp) [] [],.ptr M 0] h λv AA=>post AA:=by refine Ad L X.f123 λQ x cs G=>?_;refine wk ?_;refine Bi L ?_;refine ret X.f123.1 ?_;exact h0 _ AH
theorem Agy{gb sz:Nat}{S:Nat->Prop}{J:Nat->H->Prop}(kM:Bk h M [.AE gb 0 w.length cap])(kc:Bk h gb (w.flatMap (GL sz)))(hl:w.length<1000)(hM:¬S M)(hc:¬S gb)(hS:∀i hh,J i hh->Kp S h hh)(h0:∀hh,K0 h hh->J w.length hh)(hJ:∀i hh TH,J i hh->K0 hh TH->J i TH)(tG:∀hh,J 0 hh->post hh)(hY:∀(i:Nat) (y:GW) hh,w[i]?=some y->J (i+1) hh->SX P0 E F K (.yield lp) [AN i,.agg (GL sz y)] hh λu AA=>u= .bool true/\J i AA\/u= .bool false/\post AA)(bY:∀hh TH,post hh->K0 hh TH->post TH):CL L 127 [.fn (.yield lp) [] [],.ptr M 0] h λv AA=>post AA:=by
 refine Ad L X.f127 λQ x cs G=>?_;refine wk ?_;have uG:((w.length:Int)- ((1:Nat):Int))=m6 w.length:=by
  cases w.length with
  |zero=>rfl
  |succ n=>show _=(n:Int);omega
 rw[uG];refine Wr L (α:=Nat) (T:=λj=>[(3,some (AI (m6 j))),(1,some (.ptr M 0)),(0,some (.fn (.yield lp) [] []))]) (mu:=λj=>j) (R:=λj hh=>j<=w.length/\J j hh) w.length BA ⟨BD _,h0 _ AH⟩ ?_;rintro j hh ⟨hj,jj⟩ ih;have kk:=hS _ _ jj;have kM1:=Ao kk hM kM;have ML:=Ao kk hc kc
 cases j with
 |zero=>show Good P0 E Q ⟨⟨_,_,AJ [(3,some (AI (-1))),(1,some (.ptr M 0)),(0,some (.fn (.yield lp) [] []))],_,_,_,_,_⟩,_,_⟩;refine ret X.f127.1 ?_;exact bY _ _ (tG _ jj) AH
 |succ i=>
  show Good P0 E Q ⟨⟨_,_,AJ [(3,some (AN i)),(1,some (.ptr M 0)),(0,some (.fn (.yield lp) [] []))],_,_,_,_,_⟩,_,_⟩;have RI:i<w.length:=hj;have hv:w[i]?=some w[i]:=DA RI;have DF:=A7 w (Gl (sz:=sz) w) i _ hv;generalize w[i]=v0 at hv DF;refine wk ?_;refine BO L (A0 ML.rk DF rfl) ?_;refine wk ?_;refine Jv L rfl rfl rfl rfl rfl (hY i v0 _ hv (hJ _ _ _ jj AH)) ?_;rintro _ h3 (⟨rfl,j3⟩|⟨rfl,j3⟩);.exact zB
  .refine ret X.f127.1 ?_;exact bY _ _ j3 AH
theorem rI{sz:Nat}{a:Int}{y:GW}(k1:Bk h b1 [AI a]):CL L 52 [.agg (GL sz y),.ptr b1 0] h λv AA=>v= .bool (decide (y.1=a))/\K0 h AA:=by
 obtain⟨s,p⟩:=y;by_cases e:s=a
 .subst e;rcases p with _|⟨b,o,c⟩
  all_goals
   refine Ad L X.f52 λQ x cs G=>?_;refine ret X.f52.1 ?_;exact⟨by rw[CM rfl];rfl,AH⟩
 .rcases p with _|⟨b,o,c⟩
  all_goals
   refine Ad L X.f52 λQ x cs G=>?_;refine ret X.f52.1 ?_;exact⟨by rw[CW e];rfl,AH⟩
theorem Agz{sz:Nat}{a:Int}{g:GV}(gr:SY AD h gv sz g)(k1:Bk h b1 [AI a])(kt:Bk h t [.fn (.func 52) [] [.ptr b1 0]]):CL L 54 [gv,.ptr t 0] h λv AA=>v= .bool (decide (a∈g.map (·.1)))/\K0 h AA:=by
 obtain⟨gb,w,BH,rfl,e2,e3,kb,c0,rfl,hd⟩:=gr.ex;rw[Dj];have lt:=kt.lt;have idx:∀hh,K0 h hh->CL L 93 [.AE gb 0 w.length (Aa+2),.fn (.func 52) [] [.ptr b1 0]] hh λu AA=>(if a∈w.map (·.1)then∃i:Nat,u=AN i else u=AI (-1))/\K0 hh AA:=by
  intro hh kh;have OP:=Ab kh kb;have k11:=Ab kh k1;refine Ad L X.f93 λQ x cs G=>?_;refine wk ?_;refine Bt L (α:=Unit) (T:=λi _=>[(8,some (AN i)),(7,some (AN w.length)),(0,some (.AE gb 0 w.length (Aa+2))),(1,some (.fn (.func 52) [] [.ptr b1 0]))]) (n:=w.length) (R:=λi _ h2=>a∉(w.map (·.1)).take i/\K0 hh h2) (i0:=0) () BA ⟨by simp,AH⟩ (CN _) ?_ ?_
  .rintro i _ h2 hi ⟨w2,k2⟩ ih;have PJ:=Ab k2 OP;have iP:=Ab k2 k11;have hx:w[i]?=some w[i]:=DA hi;have DF:=A7 w (Gl (sz:=sz) w) i _ hx;have JG:(w.map (·.1)).take (i+1)=(w.map (·.1)).take i++[w[i].1]:=(by rw[LO,GD,hx];rfl);generalize w[i]=y at hx DF JG;refine wk ?_;refine BO L (A0 PJ.rk DF rfl) ?_;refine AK ?_ (c:=rI L (sz:=sz) uc);rintro _ h3 ⟨rfl,k3⟩;by_cases hv:y.1=a;.rw[CM hv];refine ret X.f93.1 ?_;exact⟨by rw[AP (DK.2 ⟨y,I4 hx,hv⟩)];exact⟨i,rfl⟩,AH⟩
   .rw[CW hv];refine wk ?_;refine ih () _ _ ⟨?_,AH⟩ ?_;.rw[JG,GU,EV];exact λe=>e.elim w2 λe=>hv e.symm
    .exact BA
  .rintro _ h2 ⟨w2,k2⟩;rw[LN W0]at w2;refine ret X.f93.1 ?_;exact⟨by rw[AM w2];rfl,AH⟩
 have con:∀hh,K0 h hh->CL L 55 [.AE gb 0 w.length (Aa+2),.fn (.func 52) [] [.ptr b1 0]] hh λu AA=>u= .bool (decide (a∈w.map (·.1)))/\K0 hh AA:=by
  intro hh kh;refine Ad L X.f55 λQ x cs G=>?_;refine AK ?_ (c:=idx _ (kh.trans AH));rintro u h2 ⟨hu,k2⟩;by_cases hm:a∈w.map (·.1);.rw[AP hm]at hu;obtain⟨i,rfl⟩:=hu;rw[CM hm]at G;refine ret X.f55.1 ?_;exact⟨rfl,k2⟩
  .rw[AM hm]at hu;subst hu;rw[CW hm]at G;refine ret X.f55.1 ?_;exact⟨rfl,k2⟩
 refine Ad L X.f54 λQ x cs G=>?_;refine AK ?_ (c:=con _ AH);rintro _ h2 ⟨rfl,k2⟩;refine ret X.f54.1 ?_;exact⟨rfl,k2⟩
noncomputable def Ie(mk:Nat)(st:LS)(pd:Option CC)(l:CJ):DV:= .loop ⟨st,pd,53,gI.ntmps,AJ l,[10,11],Aos,Aot,mk⟩
theorem Acm{n:Nat}:CL L 92 [.AE b o n cap] h λv AA=>v= .fn (.func 123) [] [.ptr h.n 0]/\Bk AA h.n [.AE b o n cap]/\K0 h AA:=by refine Aj L X.f92 λQ x cs G=>?_;refine ret X.f92.1 ?_;exact⟨rfl,AG,AH⟩
theorem Acn:CL L 92 [.AS] h λv AA=>v= .fn (.func 123) [] [.ptr h.n 0]/\Bk AA h.n [.AS]/\K0 h AA:=by refine Aj L X.f92 λQ x cs G=>?_;refine ret X.f92.1 ?_;exact⟨rfl,AG,AH⟩
def zl(AD:Nat->Nat)(h:H)(sz:Nat)(gs:VE)(a:Int)(v:AV):Prop:=
 (∃i g gv,gs[i]?=some g/\a∈g.map (·.1)/\(∀(j:Nat) LI,i<j->gs[j]?=some LI->a∉LI.map (·.1))/\v= .BM [gv,.bool true]/\SY AD h gv sz g)\/(v= .BM [.AS,.bool false]/\∀g∈gs,a∉g.map (·.1))
theorem Ag0{sz:Nat}{a:Int}(ca:JM AD h cv sz gs)(hl:gs.length<1000)(k1:Bk h b1 [AI a])(kt:Bk h t [.fn (.func 52) [] [.ptr b1 0]]):CL L 53 [cv,.fn (.func 54) [] [.ptr t 0]] h λv AA=>zl AD h sz gs a v/\K0 h AA:=by
 have l1:=k1.lt;have lt:=kt.lt
 have ad9:∀{Q:Nat->AV->Prop} {x:EW} {cs:FM} {mk:Nat} {h4:H},h.n+3<=mk->Gk h4 mk (.EQ (some []))->Gk h4 (mk+1) (Ie mk .ready none [(9,some (.fn (.func 123) [] [.ptr (h.n+1+1+1) 0])),(5,some (.ptr (h.n+1+1) 0)),(4,some (.ptr (h.n+1) 0)),(3,some (.ptr h.n 0))])->Bk h4 (h.n+1) [.AS]->Bk h4 (h.n+1+1) [.bool false]->K0 h h4->(∀v AA,v= .BM [.AS,.bool false]/\K0 h AA->GO P0 E Q (finish v cs AA x))->
   Good P0 E Q ⟨⟨53,gI.ntmps,AJ [(9,some (.fn (.func 123) [] [.ptr (h.n+1+1+1) 0])),(5,some (.ptr (h.n+1+1) 0)),(4,some (.ptr (h.n+1) 0)),(3,some (.ptr h.n 0))],[.VL (mk+1),.inBlock 0,.code Akr],[.mark mk],.run,false,none⟩,x::cs,h4⟩:=by
  intro Q x cs mk h4 dh d1 d2 p1 p2 UP G
  have hle:=d2.e
  unfold Ie at hle
  have g1:=d1.lt
  have g2:=d2.lt
  have g3:=p1.lt
  have g4:=p2.lt
  refine Hv L (n:=h4.n) (t:=h4.t) (lh:=[]) hle W1 ?_
  refine wk ?_
  refine Fd L (todo:=[]) ?_
  refine Ex L W1 (Gk.e CS) ?_
  refine C1 L X.f53.1 (Bw rfl (Bk.e AG) rfl (Bw rfl (Bk.e AG) rfl E7)) G ⟨rfl,AH⟩
 rcases ca.ex with⟨rfl,rfl⟩|⟨b,o,vs,c,rfl,e1,kb,cb,q1,q2,q3⟩
 .refine Ad L X.f53 λQ x cs G=>?_;refine AK ?_ (c:=Acn L);rintro _ h3 ⟨rfl,kM,k3⟩;simp only[Ag]at kM;have n3:=k3.n;simp only[Ag]at n3;have ajy:=kM.lt;refine wk ?_;refine D0 L (FV:=AJ [(9,some (.fn (.func 123) [] [.ptr (h.n+1+1+1) 0])),(5,some (.ptr (h.n+1+1) 0)),(4,some (.ptr (h.n+1) 0)),(3,some (.ptr h.n 0))]) BA ?_;refine Ew L (post:=λ_ AA=>K0 (hp (h3.n+2) h3.t [(h3.n+1,some (Ie h3.n .ready none [(9,some (.fn (.func 123) [] [.ptr (h.n+1+1+1) 0])),(5,some (.ptr (h.n+1+1) 0)),(4,some (.ptr (h.n+1) 0)),(3,some (.ptr h.n 0))])),(h3.n,some (.EQ (some [])))]) AA) rfl rfl rfl ?_ ?_;.exact Ct.A (Agx L uc λhh k=>k)
  .rintro v h4 k4;refine ad9 om (C4 k4 XJ) (C4 k4 (by unfold Ie;exact CS)) (Ab k4 uc) (Ab k4 uc) (Kp.EA k4 za) λv AA p=>G v AA ⟨?_,p.2⟩;exact .inr ⟨p.1,λg hg=>by cases hg⟩
 .have lb:=kb.lt;refine Ad L X.f53 λQ x cs G=>?_;refine AK ?_ (c:=Acm L);rintro _ h3 ⟨rfl,kM,k3⟩;simp only[Ag]at kM;have n3:=k3.n;simp only[Ag]at n3;have ajy:=kM.lt;have aQ:Bk h3 b c:=Ab k3 uc;refine wk ?_;refine D0 L (FV:=AJ [(9,some (.fn (.func 123) [] [.ptr (h.n+1+1+1) 0])),(5,some (.ptr (h.n+1+1) 0)),(4,some (.ptr (h.n+1) 0)),(3,some (.ptr h.n 0))]) BA ?_;refine Ew L (post:=λ_ AA=>(Kp (λj=>j=h3.n+1) (hp (h3.n+2) h3.t [(h3.n+1,some (Ie h3.n .ready none [(9,some (.fn (.func 123) [] [.ptr (h.n+1+1+1) 0])),(5,some (.ptr (h.n+1+1) 0)),(4,some (.ptr (h.n+1) 0)),(3,some (.ptr h.n 0))])),(h3.n,some (.EQ (some [])))]) AA/\Gk AA (h3.n+1) (Ie h3.n .ready none [(9,some (.fn (.func 123) [] [.ptr (h.n+1+1+1) 0])),(5,some (.ptr (h.n+1+1) 0)),(4,some (.ptr (h.n+1) 0)),(3,some (.ptr h.n 0))])/\∀g∈gs,a∉g.map (·.1))\/(∃gv,zl AD h sz gs a (.BM [gv,.bool true])/\Kp (λj=>j=h3.n+1\/j=h.n+1\/j=h.n+1+1) (hp (h3.n+2) h3.t [(h3.n+1,some (Ie h3.n .ready none [(9,some (.fn (.func 123) [] [.ptr (h.n+1+1+1) 0])),(5,some (.ptr (h.n+1+1) 0)),(4,some (.ptr (h.n+1) 0)),(3,some (.ptr h.n 0))])),(h3.n,some (.EQ (some [])))]) AA/\Gk AA (h3.n+1) (Ie h3.n .done (some .ret) [(9,some (.fn (.func 123) [] [.ptr (h.n+1+1+1) 0])),(5,some (.ptr (h.n+1+1) 0)),(4,some (.ptr (h.n+1) 0)),(3,some (.ptr h.n 0))])/\Bk AA (h.n+1) [gv]/\Bk AA (h.n+1+1) [.bool true])) rfl rfl rfl ?_ ?_
  .have uW:K0 h (hp (h3.n+2) h3.t [(h3.n+1,some (Ie h3.n .ready none [(9,some (.fn (.func 123) [] [.ptr (h.n+1+1+1) 0])),(5,some (.ptr (h.n+1+1) 0)),(4,some (.ptr (h.n+1) 0)),(3,some (.ptr h.n 0))])),(h3.n,some (.EQ (some [])))]):=AH;have hw:Bk (hp (h3.n+2) h3.t [(h3.n+1,some (Ie h3.n .ready none [(9,some (.fn (.func 123) [] [.ptr (h.n+1+1+1) 0])),(5,some (.ptr (h.n+1+1) 0)),(4,some (.ptr (h.n+1) 0)),(3,some (.ptr h.n 0))])),(h3.n,some (.EQ (some [])))]) h.n [.fn (.func 54) [] [.ptr t 0]]:=AG;have tq:Bk (hp (h3.n+2) h3.t [(h3.n+1,some (Ie h3.n .ready none [(9,some (.fn (.func 123) [] [.ptr (h.n+1+1+1) 0])),(5,some (.ptr (h.n+1+1) 0)),(4,some (.ptr (h.n+1) 0)),(3,some (.ptr h.n 0))])),(h3.n,some (.EQ (some [])))]) (h.n+1) [.AS]:=AG;have tt:Bk (hp (h3.n+2) h3.t [(h3.n+1,some (Ie h3.n .ready none [(9,some (.fn (.func 123) [] [.ptr (h.n+1+1+1) 0])),(5,some (.ptr (h.n+1+1) 0)),(4,some (.ptr (h.n+1) 0)),(3,some (.ptr h.n 0))])),(h3.n,some (.EQ (some [])))]) (h.n+1+1) [.bool false]:=AG;refine Ct.A ((Alz L (vs:=vs) (c:=c) (o:=o) (S:=λj=>j=h3.n+1) (J:=λi hh=>Kp (λj=>j=h3.n+1) (hp (h3.n+2) h3.t [(h3.n+1,some (Ie h3.n .ready none [(9,some (.fn (.func 123) [] [.ptr (h.n+1+1+1) 0])),(5,some (.ptr (h.n+1+1) 0)),(4,some (.ptr (h.n+1) 0)),(3,some (.ptr h.n 0))])),(h3.n,some (.EQ (some [])))]) hh/\Gk hh (h3.n+1) (Ie h3.n .ready none [(9,some (.fn (.func 123) [] [.ptr (h.n+1+1+1) 0])),(5,some (.ptr (h.n+1+1) 0)),(4,some (.ptr (h.n+1) 0)),(3,some (.ptr h.n 0))])/\∀(j:Nat) g,i<=j->gs[j]?=some g->a∉g.map (·.1)) (by rw[e1];exact AG) uc (by rw[e1];exact⟨q1,q2⟩) om om om (λi hh p=>p.1) ?_ ?_ ?_ ?_ ?_).mono λv AA p=>p);.intro hh k;exact⟨k.mono λ_ f=>f.elim,C4 k (by unfold Ie;exact CS),λj g hj hg=>by rw[e1]at hj;have:=(FE.1 hg).1;omega⟩
   .rintro i hh TH ⟨p1,p2,p3⟩ k;exact⟨p1.trans (k.mono λ_ f=>f.elim),C4 k p2,p3⟩
   .rintro hh ⟨p1,p2,p3⟩;exact .inl ⟨p1,p2,λg hg=>by obtain⟨j,hj⟩:=UZ.1 hg;exact p3 j g (CN _) hj⟩
   .rintro i gv hh hv ⟨p1,p2,p3⟩;have hi:=(FE.1 hv).1;have hg:gs[i]?=some gs[i]:=DA om;generalize gs[i]=g at hg;have gr:=q3 i gv g hv hg;have n1:=p1.n;simp only[Ag]at n1;have w1:=Ao p1 om hw;have w2:=Ao p1 om tq;have w3:=Ao p1 om tt;have hle:=p2.e;unfold Ie at hle;have g2:=p2.lt;have m9:K0 h hh:=Kp.DZ p1 (λi hi e=>om) uW;obtain⟨gb,w,BH,rfl,-⟩:=gr.ex;have k1h:=Ab m9 k1;have kth:=Ab m9 kt;refine Du L (l1:=[(11,some (.AE gb 0 w.length (Aa+2))),(10,some (AN i)),(9,some (.fn (.func 123) [] [.ptr (h.n+1+1+1) 0])),(5,some (.ptr (h.n+1+1) 0)),(4,some (.ptr (h.n+1) 0)),(3,some (.ptr h.n 0))]) hle rfl ?_;intro Q z2 sI G2;refine wk ?_;refine Dh L (Gk.e CS) ?_;refine wk ?_;have gQ:SY AD (hp hh.n hh.t [(h3.n+1,some (Ie h3.n .busy none [(9,some (.fn (.func 123) [] [.ptr (h.n+1+1+1) 0])),(5,some (.ptr (h.n+1+1) 0)),(4,some (.ptr (h.n+1) 0)),(3,some (.ptr h.n 0))]))]) (.AE gb 0 w.length (Aa+2)) sz g:=gr.fw (Kp.gO (Kp.DZ (AB:=λj=>j=h3.n+1) za (λi hi e=>om) m9));unfold Ie at gQ;refine AK ?_ (c:=Agz (a:=a) L gQ (b1:=b1) (t:=t) uc uc);rintro _ h5 ⟨rfl,k5⟩;have n5:=k5.n;simp only[Ag]at n5;by_cases hm:a∈g.map (·.1)
    .rw[CM hm];refine wk ?_;refine W6 L (Gk.e CS) G2 (.inr ⟨rfl,.inr ⟨.AE gb 0 w.length (Aa+2),.inl ⟨i,g,_,hg,hm,λj LI hj=>p3 j LI hj,rfl,gr⟩,?_,?_,?_,?_⟩⟩);.exact Kp.DZ (AB:=λj=>j=h3.n+1\/j=h.n+1\/j=h.n+1+1) AH (λi _ e=>e) (p1.mono λ_ e=> .inl e)
     .unfold Ie;exact D5 om
     .exact AG
     .exact AG
    .rw[CW hm];refine wk ?_;refine D8 L (Gk.e CS) G2 (.inl ⟨rfl,?_,?_,λj LI hj dX=>?_⟩);.exact Kp.DZ (AB:=λj=>j=h3.n+1) AH (λi _ e=>e) p1
     .unfold Ie;exact D5 om
     .rcases Nat.lt_or_eq_of_le hj with q|q;.exact p3 j LI q dX
      .subst q;rw[hg]at dX;cases dX;exact hm
   .rintro hh TH (⟨p1,p2,p3⟩|⟨gv,p0,p1,p2,p3,p4⟩) k;.exact .inl ⟨p1.trans (k.mono λ_ f=>f.elim),C4 k p2,p3⟩
    .exact .inr ⟨gv,p0,p1.trans (k.mono λ_ f=>f.elim),C4 k p2,Ab k p3,Ab k p4⟩
  .rintro v h4 (⟨p1,p2,p3⟩|⟨gv,p0,p1,p2,p3,p4⟩);.refine ad9 om (Jw p1 om XJ) p2 (Ao p1 om uc) (Ao p1 om uc) (Kp.DZ p1 (λi hi e=>om) za) λv AA p=>G v AA ⟨?_,p.2⟩;exact .inr ⟨p.1,p3⟩
   .have hle:=p2.e;unfold Ie at hle;have d1:Gk h4 h3.n (.EQ (some [])):=Jw p1 om XJ;have UP:K0 h h4:=Kp.DZ p1 (λi hi e=>om) za;have g1:=d1.lt;have g2:=p2.lt;have g3:=p3.lt;have g4:=p4.lt;refine Wi L (n:=h4.n) (t:=h4.t) (lh:=[]) hle W1 ?_;refine A5 L (show Good P0 E Q ⟨⟨_,_,_,_,_,.returning,false,none⟩,_,_⟩from ?_);refine Ex L W1 (Gk.e CS) ?_;refine C1 L X.f53.1 (Bw rfl (Bk.e AG) rfl (Bw rfl (Bk.e AG) rfl E7)) G ⟨p0,AH⟩
theorem zC(h:p:=by
 rw[CW hm]
 refine wk ?_
 refine D8 L (Gk.e CS) G2 (.inl ⟨rfl,?_,?_,λj y hj hy=>?_⟩)
 .exact Kp.DZ (AB:=λj=>j=h3.n+1) AH (λi _ e=>e) p1
 .unfold Mp;exact D5 om
 .rcases Nat.lt_or_eq_of_le hj with q|q
  .exact p3 j y q hy
  .subst q;rw[hv]at hy;cases hy;exact hm):p:=h
section
noncomputable def Mp(mk:Nat)(st:LS)(pd:Option CC)(l:CJ):DV:= .loop ⟨st,pd,57,oE.ntmps,AJ l,[10,11],Aou,Aov,mk⟩
theorem Aco{n:Nat}:CL L 100 [.AE b o n cap] h λv AA=>v= .fn (.func 127) [] [.ptr h.n 0]/\Bk AA h.n [.AE b o n cap]/\K0 h AA:=by refine Aj L X.f100 λQ x cs G=>?_;refine ret X.f100.1 ?_;exact⟨rfl,AG,AH⟩
theorem Acp{sz:Nat}{a:Int}{g:GV}(gr:SY AD h gv sz g)(k1:Bk h b1 [AI a])(ha:a∈g.map (·.1)):CL L 57 [gv,.fn (.func 52) [] [.ptr b1 0]] h λv AA=>(∃(p:Option (Nat×Nat×Nat)) (BH:Nat->List Nat),v= .BM [.agg (GL sz (a,p)),.bool true]/\(a,p.map λq=>BH q.1)∈g/\∀b o c,p=some (b,o,c)->BS h b o (BH b)/\AD b=0/\(BH b).length=sz)/\K0 h AA:=by
 have l1:=k1.lt;obtain⟨gb,w,BH,rfl,e2,e3,kb,c0,rfl,hd⟩:=gr.ex;rw[Dj]at ha;refine Ad L X.f57 λQ x cs G=>?_;refine AK ?_ (c:=Aco L);rintro _ h3 ⟨rfl,kM,k3⟩;simp only[Ag]at kM;have n3:=k3.n;simp only[Ag]at n3;have aQ:Bk h3 gb (w.flatMap (GL sz)):=Ab k3 uc;refine wk ?_;refine D0 L (FV:=AJ [(9,some (.fn (.func 127) [] [.ptr (h.n+1+1+1) 0])),(5,some (.ptr (h.n+1+1) 0)),(4,some (.ptr (h.n+1) 0)),(3,some (.ptr h.n 0))]) BA ?_;refine Ew L (post:=λ_ AA=>∃y,y∈w/\y.1=a/\Kp (λj=>j=h3.n+1\/j=h.n+1\/j=h.n+1+1) (hp (h3.n+2) h3.t [(h3.n+1,some (Mp h3.n .ready none [(9,some (.fn (.func 127) [] [.ptr (h.n+1+1+1) 0])),(5,some (.ptr (h.n+1+1) 0)),(4,some (.ptr (h.n+1) 0)),(3,some (.ptr h.n 0))])),(h3.n,some (.EQ (some [])))]) AA/\Gk AA (h3.n+1) (Mp h3.n .done (some .ret) [(9,some (.fn (.func 127) [] [.ptr (h.n+1+1+1) 0])),(5,some (.ptr (h.n+1+1) 0)),(4,some (.ptr (h.n+1) 0)),(3,some (.ptr h.n 0))])/\Bk AA (h.n+1) (GL sz y)/\Bk AA (h.n+1+1) [.bool true]) rfl rfl rfl ?_ ?_
 .have uW:K0 h (hp (h3.n+2) h3.t [(h3.n+1,some (Mp h3.n .ready none [(9,some (.fn (.func 127) [] [.ptr (h.n+1+1+1) 0])),(5,some (.ptr (h.n+1+1) 0)),(4,some (.ptr (h.n+1) 0)),(3,some (.ptr h.n 0))])),(h3.n,some (.EQ (some [])))]):=AH;have hw:Bk (hp (h3.n+2) h3.t [(h3.n+1,some (Mp h3.n .ready none [(9,some (.fn (.func 127) [] [.ptr (h.n+1+1+1) 0])),(5,some (.ptr (h.n+1+1) 0)),(4,some (.ptr (h.n+1) 0)),(3,some (.ptr h.n 0))])),(h3.n,some (.EQ (some [])))]) h.n [.fn (.func 52) [] [.ptr b1 0]]:=AG;have tq:Bk (hp (h3.n+2) h3.t [(h3.n+1,some (Mp h3.n .ready none [(9,some (.fn (.func 127) [] [.ptr (h.n+1+1+1) 0])),(5,some (.ptr (h.n+1+1) 0)),(4,some (.ptr (h.n+1) 0)),(3,some (.ptr h.n 0))])),(h3.n,some (.EQ (some [])))]) (h.n+1) [Zi,.AS]:=AG;have tt:Bk (hp (h3.n+2) h3.t [(h3.n+1,some (Mp h3.n .ready none [(9,some (.fn (.func 127) [] [.ptr (h.n+1+1+1) 0])),(5,some (.ptr (h.n+1+1) 0)),(4,some (.ptr (h.n+1) 0)),(3,some (.ptr h.n 0))])),(h3.n,some (.EQ (some [])))]) (h.n+1+1) [.bool false]:=AG;refine Ct.A ((Agy L (sz:=sz) (w:=w) (S:=λj=>j=h3.n+1) (J:=λi hh=>Kp (λj=>j=h3.n+1) (hp (h3.n+2) h3.t [(h3.n+1,some (Mp h3.n .ready none [(9,some (.fn (.func 127) [] [.ptr (h.n+1+1+1) 0])),(5,some (.ptr (h.n+1+1) 0)),(4,some (.ptr (h.n+1) 0)),(3,some (.ptr h.n 0))])),(h3.n,some (.EQ (some [])))]) hh/\Gk hh (h3.n+1) (Mp h3.n .ready none [(9,some (.fn (.func 127) [] [.ptr (h.n+1+1+1) 0])),(5,some (.ptr (h.n+1+1) 0)),(4,some (.ptr (h.n+1) 0)),(3,some (.ptr h.n 0))])/\∀(j:Nat) y,i<=j->w[j]?=some y->y.1≠a) uc uc om om om (λi hh p=>p.1) ?_ ?_ ?_ ?_ ?_).mono λv AA p=>p);.intro hh k;exact⟨k.mono λ_ f=>f.elim,C4 k (by unfold Mp;exact CS),λj y hj hy=>by have:=(FE.1 hy).1;omega⟩
  .rintro i hh TH ⟨p1,p2,p3⟩ k;exact⟨p1.trans (k.mono λ_ f=>f.elim),C4 k p2,p3⟩
  .rintro hh ⟨p1,p2,p3⟩;obtain⟨y,hy,e⟩:=DK.1 ha;obtain⟨j,hj⟩:=UZ.1 hy;exact absurd e (p3 j y (CN _) hj)
  .rintro i y hh hv ⟨p1,p2,p3⟩;have n1:=p1.n;simp only[Ag]at n1;have w1:=Ao p1 om hw;have w2:=Ao p1 om tq;have w3:=Ao p1 om tt;have hle:=p2.e;unfold Mp at hle;have g2:=p2.lt;have m9:K0 h hh:=Kp.DZ p1 (λi hi e=>om) uW;have k1h:=Ab m9 k1;have CK:∀{h6:H},Kp (λj=>j=h3.n+1\/j=h.n+1\/j=h.n+1+1) hh h6->Kp (λj=>j=h3.n+1\/j=h.n+1\/j=h.n+1+1) (hp (h3.n+2) h3.t [(h3.n+1,some (Mp h3.n .ready none [(9,some (.fn (.func 127) [] [.ptr (h.n+1+1+1) 0])),(5,some (.ptr (h.n+1+1) 0)),(4,some (.ptr (h.n+1) 0)),(3,some (.ptr h.n 0))])),(h3.n,some (.EQ (some [])))]) h6:=λk=>Kp.DZ k (λi _ e=>e) (p1.mono λ_ e=> .inl e);have hym:y∈w:=I4 hv;obtain⟨s,p⟩:=y;rcases p with _|⟨AR,EG,BP⟩
   .refine Du L (l1:=[(11,some (.agg [AI s,.AS])),(10,some (AN i)),(9,some (.fn (.func 127) [] [.ptr (h.n+1+1+1) 0])),(5,some (.ptr (h.n+1+1) 0)),(4,some (.ptr (h.n+1) 0)),(3,some (.ptr h.n 0))]) hle rfl ?_;intro Q z2 sI G2;refine wk ?_;refine Dh L (Gk.e CS) ?_;refine AK ?_ (c:=rI (a:=a) (b1:=b1) (sz:=sz) (y:=(s,none)) L uc);rintro _ h5 ⟨rfl,k5⟩;have n5:=k5.n;simp only[Ag]at n5;by_cases hm:s=a
    .rw[CM hm];refine wk ?_;refine W6 L (Gk.e CS) G2 (.inr ⟨rfl,(s,none),hym,hm,CK ?_,?_,?_,?_⟩);.exact AH
     .unfold Mp;exact D5 om
     .exact AG
     .exact AG
    .exact zC
   .refine Du L (l1:=[(11,some (.agg [AI s,.AE AR EG sz BP])),(10,some (AN i)),(9,some (.fn (.func 127) [] [.ptr (h.n+1+1+1) 0])),(5,some (.ptr (h.n+1+1) 0)),(4,some (.ptr (h.n+1) 0)),(3,some (.ptr h.n 0))]) hle rfl ?_;intro Q z2 sI G2;refine wk ?_;refine Dh L (Gk.e CS) ?_;refine AK ?_ (c:=rI (a:=a) (b1:=b1) (sz:=sz) (y:=(s,some (AR,EG,BP))) L uc);rintro _ h5 ⟨rfl,k5⟩;have n5:=k5.n;simp only[Ag]at n5;by_cases hm:s=a
    .rw[CM hm];refine wk ?_;refine W6 L (Gk.e CS) G2 (.inr ⟨rfl,(s,some (AR,EG,BP)),hym,hm,CK ?_,?_,?_,?_⟩);.exact AH
     .unfold Mp;exact D5 om
     .exact AG
     .exact AG
    .exact zC
  .rintro hh TH ⟨y,p0,p1,p2,p3,p4,p5⟩ k;exact⟨y,p0,p1,p2.trans (k.mono λ_ f=>f.elim),C4 k p3,Ab k p4,Ab k p5⟩
 .rintro v h4 ⟨y,p0,rfl,p1,p2,p3,p4⟩;have hle:=p2.e;unfold Mp at hle;have d1:Gk h4 h3.n (.EQ (some [])):=Jw p1 om XJ;have UP:K0 h h4:=Kp.DZ p1 (λi hi e=>om) za;have g2:=p2.lt;obtain⟨s,p⟩:=y;refine Wi L (n:=h4.n) (t:=h4.t) (lh:=[]) hle W1 ?_;refine A5 L (show Good P0 E Q ⟨⟨_,_,_,_,_,.returning,false,none⟩,_,_⟩from ?_);refine Ex L W1 (Gk.e CS) ?_;unfold GL at p3;refine C1 L X.f57.1 (K9 rfl (Bk.e AG) rfl (Bw rfl (Bk.e AG) rfl E7)) G ⟨⟨p,BH,rfl,?_,λb o c e=>?_⟩,AH⟩;.unfold DT;exact DK.2 ⟨_,p0,rfl⟩
  .subst e;obtain⟨i,hi⟩:=UZ.1 p0;exact hd i _ b o c hi
section
variable {sz:Nat}
theorem ad1:∀(g:GV) (Z:HJ),(SD sz Z g).length=Z.length
 | [],_=>rfl
 |x::r,Z=>by show(SD sz (Z.set _ _) r).length=_;rw[ad1 r,LQ]
theorem ia{i:Nat}:∀(g:GV) (Z:HJ),(∀y∈g,0<=y.1)->(i:Int)∉g.map (·.1)->(SD sz Z g)[i]?=Z[i]?
 | [],_,_,_=>rfl
 |x::r,Z,h0,h=>by rw[FU,DD,not_or]at h;have hx:=h0 x (DW ..);show(SD sz (Z.set _ _) r)[i]?=_;rw[ia r _ (λy hy=>h0 y (Ck _ hy)) h.2,GH (λe=>h.1 om)]
theorem wJ{i:Nat}{d:ru}:∀(g:GV) (Z:HJ),(∀y∈g,0<=y.1)->(g.map (·.1)).Nodup->((i:Int),d)∈g->i<Z.length->(SD sz Z g)[i]?=some (d.getD (List.replicate sz 0))
 |x::r,Z,h0,hn,hm,hi=>by
  rw[FU,RU]at hn;have h1:=λy hy=>h0 y (Ck x hy);show(SD sz (Z.set _ _) r)[i]?=_;rcases DD.1 hm with e|hm
  .subst e;rw[ia r _ h1 hn.1];show(Z.set ((i:Int).toNat) _)[i]?=_;rw[FL,QS hi]
  .exact wJ r _ h1 hn.2 hm (by rw[LQ];exact hi)
theorem N8{i:Nat}:∀(gs:VE) (Z:HJ),(∀g∈gs,Rz S P g)->(∀g∈gs,(i:Int)∉g.map (·.1))->(Ep sz Z gs)[i]?=Z[i]?
 | [],_,_,_=>rfl
 |g::r,Z,ho,h=>by show(Ep sz (SD sz Z g) r)[i]?=_;rw[N8 r _ (λLI hg=>ho LI (Ck _ hg)) (λLI hg=>h LI (Ck _ hg)),ia g Z (λy hy=>((ho g (DW ..)).rg y hy).1) (h g (DW ..))]
theorem adn{i:Nat}{d:ru}:∀(gs:VE) (Z:HJ) (j:Nat) (g:GV),(∀g∈gs,Rz S P g)->i<Z.length->gs[j]?=some g->((i:Int),d)∈g->(∀(k:Nat) LI,j<k->gs[k]?=some LI->(i:Int)∉LI.map (·.1))->(Ep sz Z gs)[i]?=some (d.getD (List.replicate sz 0))
 | [],_,j,g,_,_,hg,_,_=>by simp at hg
 |g0::r,Z,0,g,ho,hi,hg,hm,hk=>by simp only[List.getElem?_cons_zero,DB]at hg;subst hg;have h0:=ho g0 (DW ..);show(Ep sz (SD sz Z g0) r)[i]?=_;rw[N8 r _ (λLI hg=>ho LI (Ck _ hg)) λLI hg=>by obtain⟨k,XC⟩:=UZ.1 hg;exact hk (k+1) LI (cU k) XC];exact wJ g0 Z (λy hy=>(h0.rg y hy).1) h0.nd hm hi
 |g0::r,Z,j+1,g,ho,hi,hg,hm,hk=>by show(Ep sz (SD sz Z g0) r)[i]?=_;exact adn r _ j g (λLI hg=>ho LI (Ck _ hg)) (by rw[ad1];exact hi) hg hm λk LI hjk dX=>hk (k+1) LI om dX
end
section
variable {n b2:Nat}
theorem HE.out{B:Nat->Prop}(y:HE q AD h s u)(k:Kp B h AA)(hB:∀b,b<h.n->B b->AD b=200/\b≠s)(hc:∀b,b<h.n->AF b=AD b):HE q AF AA s u:=⟨y.r.own k (λb hb e=>Nat.le_of_eq (hB b hb e).1.symm) hc,Ao k (λe=>by have:=(hB _ y.ka.lt e).1;have:=y.ca;omega) y.ka,(hc _ y.ka.lt).trans y.ca,Ao k (λe=>(hB _ y.ks.lt e).2 rfl) y.ks,(hc _ y.ks.lt).trans y.sc⟩
theorem ano{a:Nat}(y:JC q AD h f s u n Z gs)(k1:Bk h b1 [AN a])(k2:Bk h b2 [.AS])(c1:AD b1=0)(c2:AD b2=200)(lW:b2≠s)(ha:a<u.S.S):CX L 51 [.ptr s 0,.ptr b1 0,.ptr b2 0] h (λv AA=>∃AF,HE q AF AA s u/\CU (λb=>b=s\/b=b2) AD h AF AA/\JM AF AA u.cv u.S.D.sz gs/\∃b c d,Bk AA b2 [.AE b 0 u.S.D.sz c]/\BS AA b 0 d/\AF b=0/\(Ep u.S.D.sz Z gs)[a]?=some d) (λv AA=>False):=by
 have ks:=y.y.ks;have l1:=k1.lt;have l2:=k2.lt;have hS:=y.fi.cf.PV;have hq:=y.ok.CZ;have r:=y.y.r;have apo:=y.fi.z.len;rw[y.dn,y.ro]at ks;dsimp only[LH]at ks;refine Bg L X.f51 λQ x cs G Gp=>?_;refine AK ?_ (c:=Ca L);rintro _ rfl;rw[CM om];refine AK ?_ (c:=Cu L);rintro _ rfl;refine AK ?_ (c:=Cu L);rintro _ rfl;refine wk ?_;have kk:K0 h (hp (h.n+1) h.t [(h.n,some (cl [.fn (.func 52) [] [.ptr b1 0]])),(h.n,some (cl [.PK]))]):=AH;have kt:Bk (hp (h.n+1) h.t [(h.n,some (cl [.fn (.func 52) [] [.ptr b1 0]])),(h.n,some (cl [.PK]))]) h.n [.fn (.func 52) [] [.ptr b1 0]]:=AG;have y1:=y.k0 (BN:=ext AD h.n) kk λb hb=>Ae hb;have NV:gs.length<1000:=by have:=y.cc;omega
 refine AK ?_ (c:=Ag0 L y1.ca NV (Ab kk k1) kt);rintro _ h2 ⟨lp,k3⟩;have y3:=y1.k0 (BN:=ext AD h.n) k3 λb hb=>rfl;have aO:K0 h h2:=Kp.EA k3 kk;have e2:ext AD h.n b2=200:=(Ae l2).trans c2;have e1:ext AD h.n b1=0:=(Ae l1).trans c1;have uf:Bk h2 b2 [.AS]:=Ab aO k2;have iP:Bk h2 b1 [AN a]:=Ab aO k1;have YX:=y3.y.ks;have l22:=uf.lt;have a3:CU (λb=>b=s\/b=b2) AD h (ext AD h.n) h2:=CU.kp (aO.mono λ_ f=>f.elim) λb hb=>Ae hb;dsimp only[LH]at YX;rw[y.dn,y.ro]at YX;have fin:∀{QE:Nat->Nat} {h4 h5:H} {b c:Nat} {d:List Nat},HE q QE h4 s u->JM QE h4 u.cv u.S.D.sz gs->CU (λb=>b=s\/b=b2) AD h QE h4->QE b2=200->Kp (λj=>j=b2) h4 h5->Bk h5 b2 [.AE b 0 u.S.D.sz c]->BS h5 b 0 d->QE b=0->(Ep u.S.D.sz Z gs)[a]?=some d->_:=λ{QE h4 h5 b c d} y4 VI a4 e4 k5 kb bs cb hd=>
  have o5:Fw QE h4 QE h5:=k5.fw λb _ e=>by subst e;omega
  (⟨QE,y4.out k5 (λb _ e=>by subst e;exact⟨e4,lW⟩) λ_ _=>rfl,a4.tr (CU.kp (k5.mono λ_ e=> .inr e) λ_ _=>rfl),VI.fw o5,b,c,d,kb,bs,cb,hd⟩:∃AF,HE q AF h5 s u/\CU (λb=>b=s\/b=b2) AD h AF h5/\JM AF h5 u.cv u.S.D.sz gs/\∃b c d,Bk h5 b2 [.AE b 0 u.S.D.sz c]/\BS h5 b 0 d/\AF b=0/\(Ep u.S.D.sz Z gs)[a]?=some d)
 rcases lp with⟨i,g,gv,hg,hm,BX,rfl,gr⟩|⟨rfl,TL⟩
 .have gQ:=gr.fw (Kp.gO k3);have dZ:g∈gs:=I4 hg;obtain⟨gb,w,δ0,rfl,-⟩:=gr.ex;have kt2:=Ab k3 kt;have r2:=y3.y.r;obtain⟨mc,fm,bb,db,dK⟩:=r2.dv;have dk:=dK.dk;have DE:=y.fi.a.CT.sz;refine AK ?_ (c:=Acp L gQ iP hm);rintro _ h4 ⟨⟨p,BH,rfl,TK,VY⟩,k4⟩;have FO:=adn (sz:=u.S.D.sz) gs Z i g y.go om hg TK BX;have k44:Bk h4 b2 [.AS]:=Ab k4 uf;have UQ:=Ab k4 YX;have r4:=y3.y.r.k0 (AF:=ext AD h.n) k4 λ_ _=>rfl;have YW:=Ab k4 y3.y.ka;have y4:=y3.y.k0 (AF:=ext (ext AD h.n) h2.n) k4 λb hb=>Ae hb;have VI:=y3.ca.fw (AF:=ext (ext AD h.n) h2.n) ⟨k4.n,λb hb _=>k4.old b hb id,λb hb=>Ae hb⟩;have a4:CU (λb=>b=s\/b=b2) AD h (ext (ext AD h.n) h2.n) h4:=a3.tr (CU.kp (k4.mono λ_ f=>f.elim) λb hb=>Ae hb);have e4:ext (ext AD h.n) h2.n b2=200:=(Ae l22).trans e2;have dc:=λ{h5:H} (k:K0 h4 h5)=>Fg (AD:=ext AD h.n) L (r4.k0 (AF:=ext AD h.n) k λ_ _=>rfl) (Ab k YW);have ge:=λ{h5:H} (k:K0 h4 h5)=>Df L (Ab k (Ab k4 dk));rcases p with _|⟨AR,EG,BP⟩
  .refine AK ?_ (c:=dc za);rintro _ rfl;refine AK ?_ (c:=ge za);rintro _ h5 ⟨rfl,k5⟩;have n5:=k5.n;simp only[Ag]at n5;refine wk ?_;refine Acg L (b:=h5.n) (o:=0) (c:=rl [Zy] u.S.D.sz) rfl rfl rfl uc (CN _) rfl ?_;refine ret X.f51.1 ?_;refine fin (b:=h5.n) y4 VI a4 e4 ?_ AG (Ng (by rw[<-Fm];exact AG) (IA.rep om)) (B9 om) FO;exact AH
  .obtain⟨g1,g2,g3⟩:=VY AR EG BP rfl;have g4:=g1.k0 k4;have lg4:=g4.ET;refine AK ?_ (c:=dc za);rintro _ rfl;refine AK ?_ (c:=ge za);rintro _ h5 ⟨rfl,k5⟩;have n5:=k5.n;simp only[Ag]at n5;have g5:BS h5 AR EG (BH AR):=(g4.k0 za).k0 k5;have ot:(BH AR).length=u.S.D.sz:=g3;have BZ:¬AR=b2:=λe=>by rw[e,e2]at g2;omega
   refine wk ?_;refine Aei L (lv:=B5 (BH AR)) (NG:=B5 (BH AR)) rfl rfl rfl (BS.UT (o:=EG) (Lw (S:=λj=>j=b2) za BZ g5) ot) AG om (Fc _) (by rw[F0,ot,Fm,F0,VA];omega) (by rw[F0];omega) (anm (by rw[F0,ot,Fm,F0,VA])) rfl ?_;refine ret X.f51.1 ?_;refine fin (b:=h5.n) y4 VI a4 e4 ?_ AG (Ng uc g1.all) (B9 om) FO;exact AH
 .have ZK:Z[a]?=some Z[a]:=DA om;have hd:(Ep u.S.D.sz Z gs)[a]?=some (u.S.rd (a:Int)):=by rw[N8 gs Z y.go TL,ZK,y.fi.z.rd a _ ZK]
  refine AK ?_ (c:=Af2 L y3.y.r y3.y.ka ⟨om,om⟩ y.fi.dn (y.fi.a.pw.trans y.fi.dn) y.fi.a.al1);rintro _ h4 ⟨QE,b,c,rfl,bs,cb,hb,r4,a4⟩;have n4:=a4.k.n;have y4:=y3.y.ch a4 r4;obtain⟨qD,c24⟩:=a4.b2 uf e2;have lbs:=bs.ET;refine AK ?_ (c:=Cu L);rintro _ rfl;refine ret X.f51.1 ?_;have kz:Kp (λj=>j=b2) h4 (hp h4.n h4.t [(b2,some (cl [.AE b 0 u.S.D.sz c]))]):=AH;exact fin y4 (y3.ca.fw a4.fw) (a3.tr a4.x) c24 kz AG (Lw kz om bs) cb hd
end
section
variable {n:Nat}
theorem aa7{a:Nat}(y:JC q AD h f s u n Z gs)(ha:a<u.S.S):CL L 16 [.ptr f 0,AN a] h (λv AA=>∃AF b c d,v= .BM [.AE b 0 u.S.D.sz c,Zi]/\BS AA b 0 d/\AF b=0/\(Ep u.S.D.sz Z gs)[a]?=some d/\JC q AF AA f s u n Z gs/\CU (λb=>b=s) AD h AF AA):=by
 have lf:=y.kf.lt;have ls:=y.y.ks.lt;have k1:K0 h (hp (h.n+1+1) h.t [(h.n+1,some (cl [.AS])),(h.n,some (cl [AN a]))]):=AH;have c1:∀b,b<h.n->AX (ext AD h.n) (h.n+1) 200 b=AD b:=λb hb=>(CB _ _ om).trans (Ae hb);have y1:=y.k0 k1 c1;have ML:Bk (hp (h.n+1+1) h.t [(h.n+1,some (cl [.AS])),(h.n,some (cl [AN a]))]) h.n [AN a]:=AG;have XK:Bk (hp (h.n+1+1) h.t [(h.n+1,some (cl [.AS])),(h.n,some (cl [AN a]))]) (h.n+1) [.AS]:=AG;have e1:AX (ext AD h.n) (h.n+1) 200 h.n=0:=(CB _ _ om).trans (B9 (BD _));have e2:AX (ext AD h.n) (h.n+1) 200 (h.n+1)=200:=Am _ _ _;generalize AX (ext AD h.n) (h.n+1) 200=HD at c1 y1 e1 e2
 have hc:=Xk (g:=51) (cp:=[.ptr h.n 0,.ptr (h.n+1) 0]) L (Y:=λb=>b=h.n+1) (u:=u)
  (post:=λFW AF h1=>FW=u/\JM AF h1 u.cv u.S.D.sz gs/\∃b c d,Bk h1 (h.n+1) [.AE b 0 u.S.D.sz c]/\BS h1 b 0 d/\AF b=0/\(Ep u.S.D.sz Z gs)[a]?=some d)
  (G0:=λFW e AF h1=>False) y1.y y1.kf y1.cf (λb e=>by subst e;exact⟨NQ _,om⟩) λBN h2 k2 n2 c2 _=>by
   have JE:(hp (h.n+1+1) h.t [(h.n+1,some (cl [.AS])),(h.n,some (cl [AN a]))]).n=h.n+2:=rfl
   rw[JE]at c2
   refine(ano L (y1.k0 k2 c2) (Ab k2 ML) (Ab k2 XK) ((c2 _ om).trans e1) ((c2 _ om).trans e2) om ha).mono ?_ λv AA p=>p.elim
   rintro v AA ⟨AF,y2,a2,Zo,b,c,d,p1,p2,p3,p4⟩
   exact⟨AF,u,y2,a2,rfl,Zo,b,c,d,p1,p2,p3,p4⟩
 refine Ad L X.f16 λQ x cs G=>?_;refine AK ?_ (c:=hc);rintro v h2 ⟨AF,FW,h1,a2,fw,iP,n1,⟨rfl,y2,rfl,Zo,b,c,d,p1,p2,p3,p4⟩|⟨e,rfl,y2,p⟩⟩
 .have JE:(hp (h.n+1+1) h.t [(h.n+1,some (cl [.AS])),(h.n,some (cl [AN a]))]).n=h.n+2:=rfl;rw[JE]at iP;have q1:Bk h2 (h.n+1) [.AE b 0 FW.S.D.sz c]:=Ao iP om p1;have q2:BS h2 b 0 d:=fw.bs p2 p3;have e22:AF (h.n+1)=200:=(a2.CA _ eG).trans e2;have hb:b≠h.n+1:=λe=>by rw[e,e22]at p3;omega
  have gG:=Zo.fw fw;refine ret X.f16.1 ?_;have kz:Kp (λj=>j=h.n+1) h2 (hp h2.n h2.t [(h.n+1,some (cl [.AE b 0 FW.S.D.sz c]))]):=AH;have o3:Fw AF h2 AF (hp h2.n h2.t [(h.n+1,some (cl [.AE b 0 FW.S.D.sz c]))]):=kz.fw λb _ e=>by subst e;omega
  have a3:CU (λb=>b=s) AD h AF (hp h2.n h2.t [(h.n+1,some (cl [.AE b 0 FW.S.D.sz c]))]):=by
   refine⟨Kp.DZ kz (λi hi e=>om) (Kp.DZ a2.k (λi hi e=>?_) (k1.mono λ_ f=>f.elim)),λb hb=>?_⟩
   .rw[c1 i hi]at e;rcases e with e|e|e;.exact .inl e
    .exact .inr e
    .omega
   .rw[a2.CA b eG,c1 b hb]
  exact⟨AF,b,c,d,rfl,Lw kz hb q2,p3,p4,⟨(a3.fw y.y.sc).bk y.kf y.cf,(a3.CA _ lf).trans y.cf,y2.out kz (λb _ e=>by subst e;exact⟨e22,om⟩) λ_ _=>rfl,y.dn,y.ro,y.ok,y.fi,gG.fw o3,y.go,y.mg,y.cc⟩,a3⟩
 .exact p.elim
end
section
variable {S:Ap}{Hs Cs:List Rc}
theorem adq{d:Nat}{a0 cv0 dn0 ro0:AV}(r:IK AD h d S.D)(ks:Bk h s [AN CZ,AN sp,AN cc,AN mg,a0,cv0,dn0,ro0])(CE:AD s=200)(bZ:CZ=S.S)(jq:GI S Hs Cs)(a:BE S)(ED:S.D.off=false)(HB:S.next<950000000)(hS:1<=S.S/\S.S<=12):CL L 62 [.ptr s 0,.ptr d 0] h (λv AA=>v= .bool true/\∃ab I AF js ds,BJ AF AA I (Ap.IJ S.D S.S S.A (Bn (Af S.D)) S.last js ds)/\I.d=d/\Bk AA ab [.ptr I.s 0]/\AF ab=0/\Bk AA s (LH CZ sp cc mg ab .AS false false)/\Yx S.D js ds/\(∀b:Nat,(b:Int)∈js↔∃r∈Cs,∃i,i<r.n S.D.sz/\∃j,On S b j (r.pg S.D.sz i))/\Kp (λb=>b=s) h AA/\∀b,b<h.n->AF b=AD b):=by
 have ls:=ks.lt;subst bZ;refine Ad L X.f62 λQ x cs G=>?_;refine AK ?_ (c:=Ags L r jq a ED HB hS);rintro _ h3 ⟨ev,v1,v2,Dm,js,ds,rfl,d1,d2,q1,q2,q3,f,hJ,k3⟩;have n3:=k3.n;have pl:∀{v:AV} {D:List Int},DN h3 h.n v D->A8 v=true:=λq=>by rcases q.ex with⟨-,rfl⟩|⟨-,b,rfl,-⟩<;>rfl
 have NJ:Av (Pm ev v1 v2 S.last (Bn (Af S.D)))=true:=by have a1:=q1.plain.2;show(match A8 ev with|true=>(match A8 v1 with|true=>(match A8 v2 with|true=>true|false=>false)|false=>false)|false=>false)=true;rw[a1,pl q2,pl q3]
 have mO:=Ab k3 (by exact ks);refine wk ?_;unfold Pm at NJ;(apply fD L rfl rfl rfl rfl rfl NJ;exact AG;rfl;rfl);refine wk ?_;have Z4:Dm.length<=S.S:=d1.len a;have EJ:(Bf S.A Dm).length<=150:=by unfold Bf;rw[DC];omega
 have HC:=U8 d1 λs p h=>by obtain⟨-,-,b,j,rfl,-⟩:=a.map s p h;omega
 have sV:∀e∈Bf S.A Dm,∃b j:Nat,e.2=((b*S.D.P+j:Nat):Int)/\j<S.D.P/\b<S.D.nb/\(b:Int)∈js++ds/\(b:Int)∉js:=λe he=>by obtain⟨i1,-⟩:=jq.bM a ED HB hS.2 f hJ;obtain⟨s,hs,rfl⟩:=DK.1 he;obtain⟨p,hp⟩:=SV.1 ((d1.mem s).1 hs);obtain⟨-,-,b,j,g1,g2,g3,-,g5,g6,-⟩:=i1.map s p hp;exact⟨b,j,by show HF S.A s=_;unfold HF;rw[hp];exact g1,g3,g2,(f.nx b g2).2 (nK (CN _) g6),of_decide_eq_false g5⟩
 have r4:IK AD (hp (h3.n+1) h3.t [(h3.n,some (cl (Pm ev v1 v2 S.last (Bn (Af S.D))))),(h3.n,some (cl [AV.AS,Zu,Zu,AV.AS,AV.AS]))]) d S.D:=(r.k0 k3).k0 AH;have kz:K0 h3 (hp (h3.n+1) h3.t [(h3.n,some (cl (Pm ev v1 v2 S.last (Bn (Af S.D))))),(h3.n,some (cl [AV.AS,Zu,Zu,AV.AS,AV.AS]))]):=AH;refine AK ?_ (c:=Acq L (lo:=h.n) (S:=S.S) r4 om ED (λi hi=>by have:=(r.ok.bl i hi).er;have:=r.ok.g.en;omega) (q1.k0 kz) (q2.k0 kz) (q3.k0 kz) (jq.last a HB) f EJ (Ag1 a d1) (sV));rw[HC];rintro _ h4 ⟨ab4,afv,QE,rfl,YW,VI,dI4,r4',ug,c4'⟩;have n4:=ug.n;simp only[Ag]at n4;have UP:K0 h h4:=Kp.EA ug (Kp.EA kz k3);have UQ:=Ab UP ks;have rz:∀b,b<h.n->QE b=AD b:=λb hb=>c4' b (by simp only[Ag];have:h.n<=h3.n:=n3;omega);have BZ:ab4≠s:=λe=>by have:=rz s ls;rw[<-e,VI]at this;rw[e]at this;omega
 have cs4:QE s=200:=(rz s ls).trans CE;refine ret X.f62.1 ?_;refine⟨rfl,ab4,afv,QE,js,ds,r4'.out (B:=λj=>j=s) ?_ (λb _ (e:b=s)=>by subst e;omega),dI4,Ao (S:=λj=>j=s) ?_ BZ YW,VI,?_,f,hJ,Kp.DZ (AB:=λj=>j=s) ?_ (λ_ _ e=>e) (UP.mono λ_ f=>f.elim),rz⟩;.exact AH
 .exact AH
 .exact AG
 .exact AH
end
section
variable {n:Nat}{S0:Ap}
theorem Sm.up{S T:Ap}(m:Sm S T){DH:DM}{AT nx la:Nat}{js ds:List Int}{A:DM}:Sm S (Ap.IJ ({T with A:=DH,last:=AT}:Ap).up.D ({T with A:=DH,last:=AT}:Ap).up.S A nx la js ds):=⟨m.nb,m.P,m.sz,m.en,m.CZ⟩
structure zj (q:ME)(AD:Nat->Nat)(h:H)(f s:Nat)(u:Ls)(S0:Ap)(n:Nat)(Z:HJ):Prop where
 kf:Bk h f [.ptr s 0]
 cf:AD f=0
 y:HE q AD h s u
 sm:Sm S0 u.S
 fl:JA u.S q.l
 er:IZ u.S (800*n)
 bd:Bd u.S (3300000*n)
 ex:∃DH AT,BE {u.S with A:=DH,last:=AT}/\AT<u.S.next/\ZR {u.S with A:=DH,last:=AT} Z/\∃x,x+rem q.l u.S.D.n<=q.sp/\LJ {u.S with A:=DH,last:=AT} (2*q.c+1+x)
 ok:Zh q S0
 ci:Ts S0 q.sp q.c q.Y
 en:250000<S0.D.en
 mg:q.mg<=S0.D.P
 cc:q.cc<=4
theorem jl.x(y:jl q AD h f s u S0 n Z):zj q AD h f s u S0 n Z:=⟨y.kf,y.cf,y.y,y.fc.sm,y.fc.fl,y.fc.er,y.fc.bd,y.fc.ex,y.ok,y.ci,y.en,y.mg,y.cc⟩
theorem agp(y:zj q AD h f s u S0 n Z)(hn:1<=n/\n<=250):CL L 22 [.ptr f 0] h (λv AA=>v=Zi/\∃AF FW,JC q AF AA f s FW (n+1) Z []/\CU (λb=>b=s) AD h AF AA/\Sm S0 FW.S/\FW.I.d=u.I.d):=by
 have lf:=y.kf.lt;obtain⟨DH,AT,Hs,Cs,x,a,z,hl,jq,hx,hL⟩:=FC.rst y.ex;have sm:=y.sm;have hS:=y.ci.PV
 have hc:=Xk (g:=60) (cp:=[]) L (Y:=λ_=>False) (u:=u)
  (post:=λFW AF h1=>FW.dn=false/\FW.ro=false/\FW.cv= .AS/\FI Z q.l q.sp q.c q.Y (n+1) FW.S/\Sm S0 FW.S/\FW.I.d=u.I.d)
  (G0:=λFW e AF h1=>False) y.y y.kf y.cf (λb e=>e.elim) λBN h2 k2 n2 c2 y2=>by
   have ks:=y2.ks
   have r:=y2.r
   dsimp only[LH]at ks
   refine Bg L X.f60 λQ x cs G Gp=>?_
   refine AK ?_ (c:=Fg L r y2.ka)
   rintro _ rfl
   refine AK ?_ (c:=agu L r.dv)
   rintro _ h3 ⟨rfl,r3,k3,cd⟩
   have hsd:s≠u.I.d:=λe=>by have:=y2.sc;rw[e,cd]at this;omega
   have mO:=Ao k3 hsd ks
   refine AK ?_ (c:=adq (S:=({u.S with A:=DH,last:=AT}:Ap).up) L r3 mO y2.sc (by show q.CZ=u.S.S;rw[y.ok.CZ];exact sm.CZ.symm) jq a rfl (by have:=y.bd.nx;show u.S.next<_;omega) (by show 1<=u.S.S/\u.S.S<=12;rw[sm.CZ];exact hS))
   rintro _ h4 ⟨rfl,ab,I,QE,js,ds,r4,dI,YW,VI,UQ,bM,hJ,k4,c4⟩
   have fi:FI Z q.l q.sp q.c q.Y (n+1) (Ap.IJ ({u.S with A:=DH,last:=AT}:Ap).up.D ({u.S with A:=DH,last:=AT}:Ap).up.S ({u.S with A:=DH,last:=AT}:Ap).up.A (Bn (Af ({u.S with A:=DH,last:=AT}:Ap).up.D)) ({u.S with A:=DH,last:=AT}:Ap).up.last js ds):=
    FI.IJ (k:=3300000*n) jq hL hx a r3.ok rfl ⟨y.bd.nx,y.bd.dn,om,om⟩ om (λb hb=>EM (y.er b hb) om) y.fl ((y.ci.sm sm).sm ⟨rfl,rfl,rfl,rfl,rfl⟩) (by show 250000<u.S.D.en;rw[sm.en];exact y.en) z bM hJ λh=>rfl
   refine ret X.f60.1 ?_
   exact⟨QE,⟨ab,I,_,.AS,false,false⟩,⟨r4,YW,VI,UQ,(c4 s om).trans y2.sc⟩,⟨Kp.DZ k4 (λi hi e=> .inr (.inl e)) (k3.mono λb e=> .inl (by subst e;omega)),λb hb=>c4 b om⟩,rfl,rfl,rfl,fi,sm.up,dI⟩
 refine Aj L X.f22 λQ x cs G=>?_;refine AK ?_ (c:=hc);rintro v h2 ⟨AF,FW,h1,a2,fw,iP,n1,⟨rfl,y2,e1,e2,e3,fi,m2,e4⟩|⟨e,rfl,y2,p⟩⟩;.refine ret X.f22.1 ?_;have a3:=a2.wk λb e=>e.elim id False.elim;exact⟨rfl,AF,FW,⟨(a3.fw y.y.sc).bk y.kf y.cf,(a3.CA _ lf).trans y.cf,y2,e1,e2,y.ok.sm m2,fi,⟨.inl ⟨rfl,e3⟩⟩,λg hg=>(by cases hg),by rw[m2.P];exact y.mg,CN _,y.cc⟩,a3,m2,e4⟩
 .exact p.elim
