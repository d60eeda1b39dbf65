import Derived.Test.YtgackjbfibdoiaaGreatH14
import Derived.ChangeSame
import Derived.DataReads
set_option linter.all false
set_option maxRecDepth 100000
set_option maxHeartbeats 4000000
namespace Go.Ev
variable {P0:Program}{E:Env}{F:T DY}{K:HK}(L:Lg P0 E F K)[X:Fx F K][aq4:Tb P0 E F K][U:Yz P0 E F 208]
variable {D P S b3 b6 cc en f i m mg nb nn cH s sp t wb wc:Nat}{Q:Nat->AV->Prop}{S0:Ap}{av v:AV}{c0 c1 c2 c3 g0 g1 g2:Int}{CT:List AV}{h AA h0:H}{lq:CJ}{p:Prop}{q:ME}{u:Ls}{y:O}{AD AF:Nat->Nat}
def Lx(g0 g1 g2 g3:Int):List AV:=[AI g0,AI g1,AI g2,AI g3]
theorem Vg{e:Int}:CL L 14 [AI e] h λv AA=>v=AI e/\AA=h:=by refine Aj L X.f14 λQ x cs G=>?_;refine ret X.f14.1 ?_;exact⟨rfl,rfl⟩
theorem Ag5{j:Nat}(hj:j<m):(List.replicate j t++List.replicate (m- j) 0).set j t=List.replicate (j+1) t++List.replicate (m- (j+1)) 0:=by obtain⟨k,rfl⟩:∃k,m=j+(k+1):=⟨m- j- 1,om⟩;rw[show j+(k+1)- j=k+1 from om,show j+(k+1)- (j+1)=k from om,List.set_append,VA,AM (jW _),Xq,List.replicate_succ,List.set_cons_zero,List.replicate_succ' (n:=j),NP];rfl
theorem anp{a:Int}(hm:max 0 a=(m:Int))(bV:m<=1000)(ht:t<256):CL L 30 [AI a,.int .u8 (t:Int)] h λv AA=>∃N,v= .AE N 0 m m/\Bk AA N (B5 (List.replicate m t))/\h.n<=N/\K0 h AA:=by
 refine Ad L X.f30 λQ x cs G=>?_;refine wk ?_;refine BO L ((⟨yz (Ac rfl) (Ac rfl) hm⟩)) ?_;refine wk ?_;refine Bt L (α:=Unit) (T:=λj _=>[(6,some (AN j)),(5,some (.AE h.n 0 m m)),(1,some (.int .u8 (t:Int)))]) (n:=m) (R:=λj _ hh=>Bk hh h.n (B5 (List.replicate j t++List.replicate (m- j) 0))/\K0 h hh) (i0:=0) () BA ⟨?_,AH⟩ (CN _) ?_ ?_;.rw[List.replicate_zero,RV,WK,<-Fm];exact AG
 .rintro j _ hh hj ⟨r1,k1⟩ ih;have l1:=r1.lt;have hl:(List.replicate j t++List.replicate (m- j) 0).length=m:=by rw[DX,VA,VA];omega
  refine wk ?_;(apply rM L rfl rfl rfl rfl rfl;exact AG;(rw[F0];omega);rfl);refine wk ?_;refine ih () _ _ ⟨?_,AH⟩ BA;rw[<-Ag5 hj,<-Vc];exact AG
 .rintro _ hh ⟨r1,k1⟩;rw[Xq,List.replicate_zero,MO]at r1;have l1:=r1.lt;refine ret X.f30.1 ?_;exact⟨h.n,rfl,AG,BD _,AH⟩
structure FA where
 w:Int
 sv:AV
 se:Int
 n:Int
 sa:Nat
 sh:Int
 af:Int
 bt:Int
 ls:List Int
def IV(x:FA):List AV:=[AI x.w,x.sv,AI x.se,AI x.n,.int .u8 (x.sa:Int),AI x.sh,AI x.af,AI x.bt]
theorem Lq(l:List FA):∀x∈l,(IV x).length=8:=λ_ _=>rfl
include L in
theorem anq{N:Nat}{s:Int}{sz:Nat}{l:List GW}{BH:Nat->List Nat}{w:Option (Nat×Nat×Nat)}{cs:FM}{k:DO}(hi:i<6)(q1:QY h h0.n v m l BH)(hl:l.length=i)(kN:Bk h N [AI s,Zw m w])(hN:h0.n<=N)(BZ:∀gb n c,v= .AE gb 0 n c->gb≠N)(hw:∀b o c,w=some (b,o,c)->BS h b o (BH b)/\(BH b).length=m/\h0.n<=b/\o=0/\c=m/\∀gb n c,v= .AE gb 0 n c->b≠gb)(k0:K0 h0 h)(ht:FY (AJ [(48,some (.AE N 0 1 1)),(40,some v),(6,some (AN i)),(3,some (.ptr b3 0)),(0,some (AN sz))]) (AJ lq))(G:∀AQ AA AT,QY AA h0.n AQ m (l++[(s,w)]) BH->K0 h0 AA->FY (AJ [(6,some (AN (i+1))),(5,some AQ),(3,some (.ptr b3 0)),(0,some (AN sz))]) (AJ AT)->Good P0 E Q ⟨⟨13,Zq.ntmps,AJ AT,.inLoop Wn::k,[],.run,false,none⟩,cs,AA⟩):Good P0 E Q ⟨⟨13,Zq.ntmps,AJ lq,.ops [Cj 49 (.append 2 32 (.t 40) (.t 48)),Cv 5 49]:: .inBlock 1:: .code vi:: .inLoop Wn::k,[],.run,false,none⟩,cs,hp h.n h.t []⟩:=by
 refine D0 L ht ?_;have LA:Av [AI s,Zw m w]=true:=by cases w<;>rfl
 rcases q1.ex with⟨rfl,rfl⟩|⟨h1,gb,rfl,h3,h4,h5⟩
 .have:i=0:=by simpa using hl.symm
  subst this;refine BO L (D1 (new:=[AI s,Zw m w]) rfl rfl (CG.of (c:=[AI s,Zw m w]) AG (BD _) rfl) om om) ?_;refine wk ?_;have kk:K0 h (hp (h.n+1) h.t [(h.n,some (cl [AI s,Zw m w]))]):=AH;refine G _ _ _ (QY.app (N:=h.n) (n:=0) (l:=[]) AG om rfl (λi s b o c e=>by simp at e) λEU b o c e=>?_) AH BA
  cases e;obtain⟨g1,g2,g3,g4,g5,g6⟩:=hw b o c rfl;have:=g1.ET;exact⟨g1.k0 kk,g2,g3,g4,g5,om⟩
 .have l3:=h3.lt;have hgN:=BZ gb _ _ rfl;rw[hl]at h1;subst hl;refine BO L (D7 (old:=l.flatMap (GL m)) (new:=[AI s,Zw m w]) rfl rfl (CG.of (c:=l.flatMap (GL m)) AG (by rw[Gy];omega) k1z) (CG.of (c:=[AI s,Zw m w]) AG (BD _) rfl) om om LA) ?_;refine wk ?_;have kk:Kp (λj=>j=gb) h (hp (h.n+1) h.t [(h.n,some (cl (l.flatMap (GL m)++[AI s,Zw m w]))),(gb,none)]):=AH;refine G _ _ _ (QY.app (N:=h.n) (x:=(s,w)) AG om rfl (λj s b o c e=>?_) λEU b o c e=>?_) AH BA;.obtain⟨g1,g2,g3,g4,g5,g6⟩:=h5 j s b o c e;have:=g1.ET;exact⟨Lw kk g6 g1,g2,g3,g4,g5,om⟩
  .cases e;obtain⟨g1,g2,g3,g4,g5,g6⟩:=hw b o c rfl;have:=g1.ET;exact⟨Lw kk (g6 _ _ _ rfl) g1,g2,g3,g4,g5,om⟩
include L in
theorem ajr{sz sb cap:Nat}{x:FA}{s:Int}{l:List GW}{BH:Nat->List Nat}{h2:H}{nr:List Nat}{cs:FM}{k:DO}(hi:i<6)(q1:QY h2 h0.n v m l BH)(k2:K0 h2 h)(XI:K0 h0 h2)(hl:l.length=i)(ajt:Bk h D (B5 nr))(hD:h2.n<=D)(hb:nr.length=m)(ha:IA nr)(hm:m<1000)(kb:Bk h b3 (IV x))(Z9:b3<h2.n)(ex:x.sv= .AE sb 0 x.ls.length cap)(hk:Rk h sb (x.ls.map eI))(RI:x.ls[i]?=some s)(hsb:sb<h2.n)(ht:FY (AJ [(8,some Zi),(7,some (.AE D 0 m m)),(6,some (AN i)),(5,some v),(3,some (.ptr b3 0)),(0,some (AN sz))]) (AJ lq))(G:∀TZ w AQ AA AT,QY AA h0.n AQ m (l++[(s,some w)]) TZ->K0 h0 AA->FY (AJ [(6,some (AN (i+1))),(5,some AQ),(3,some (.ptr b3 0)),(0,some (AN sz))]) (AJ AT)->Good P0 E Q ⟨⟨13,Zq.ntmps,AJ AT,.inLoop Wn::k,[],.run,false,none⟩,cs,AA⟩):Good P0 E Q ⟨⟨13,Zq.ntmps,AJ lq,.code Akn:: .inBlock 2:: .code Ako:: .inBlock 1:: .code vi:: .inLoop Wn::k,[],.run,false,none⟩,cs,hp h.n h.t []⟩:=by
 obtain⟨w0,sv0,ey,n0,eu,aX,dA,dC,NY⟩:=x;dsimp only at ex hk RI;subst ex;refine Bt L (α:=List Nat) (T:=λj _=>[(8,some (AN j)),(7,some (.AE D 0 m m)),(6,some (AN i)),(5,some v),(3,some (.ptr b3 0)),(0,some (AN sz))]) (n:=m) (R:=λj bs hh=>Bk hh D (B5 bs)/\bs.length=m/\IA bs/\Kp (λj=>j=D) h hh) (i0:=0) nr ht ⟨ajt,hb,ha,Kp.refl _⟩ (CN _) ?_ ?_
 .rintro j bs hh hj ⟨r1,r2,r3,r4⟩ ih;have l1:=r1.lt;have hx:(B5 bs)[j]?=some (.int .u8 ((bs.getD j 0:Nat):Int)):=by unfold B5;rw[GD,DA om,MZ,DA om];rfl
  refine wk ?_;refine BO L (Wa rfl rfl) ?_;refine wk ?_;refine BO L (ce rfl rfl rfl) ?_;refine wk ?_;(apply rM L rfl rfl rfl rfl rfl;exact AG;(rw[F0];omega);rfl);refine wk ?_;refine ih (bs.set j ((bs.getD j 0+(5*i+j)%pw .u8)%pw .u8)) _ _ ⟨?_,by rw[LQ];exact r2,r3.set (UX _ PI),AH⟩ BA;rw[<-Vc];exact AG
 .rintro bs hh ⟨r1,r2,r3,r4⟩;have l1:=r1.lt;have hy:(NY.map eI)[i]?=some (eI s):=by rw[GD,RI];rfl
  have ap1:=(FE.1 RI).1;have TJ:=Avx r4 om hk;have PJ:=Ao r4 om kb;have n4:=r4.n;unfold IV at PJ;refine wk ?_;refine BO L (Bx rfl JY hy) ?_;refine wk ?_;have n0:=XI.n;have n2:=k2.n;have kk:K0 h2 hh:=⟨EM n2 n4,λb hb _=>(r4.old b om om).trans (k2.old b hb id)⟩;have ke:K0 hh (hp (hh.n+1) hh.t [(hh.n,some (cl [AI s,.AE D 0 m m]))]):=AH;have pM:=q1.vlt;refine anq L (BH:=AX BH D bs) (w:=some (D,0,m)) (N:=hh.n) (h:=hp (hh.n+1) hh.t [(hh.n,some (cl [AI s,.AE D 0 m m]))]) hi (((q1.AX hD).k0 kk).k0 ke) hl uc om (λgb n c e=>by have:=pM gb n c e;omega) (λb o c e=>?_) ⟨by simp only[Ag];omega,λb hb _=>(ke.old b om id).trans ((kk.old b om id).trans (XI.old b hb id))⟩ ?_ (λAQ AA AT g1 g2 g3=>G _ _ AQ AA AT g1 g2 g3);.cases e;rw[Am];exact⟨(Ng r1 r3).k0 ke,r2,om,rfl,rfl,λgb n c e=>by have:=pM gb n c e;omega⟩
  .exact BA
theorem zD(h:p:=by
 refine Ad L X.f13 λQ x cs G=>?_
 refine wk ?_
 refine Bi L ?_
 refine ret X.f13.1 ?_
 exact⟨AH,.inl ⟨rfl,rfl⟩⟩):p:=h
theorem aa8{x:FA}{sz:Nat}(q:OI AD h x.sv x.ls)(DE:12<=sz/\sz<=50)(hl:x.ls.length<=6)(NW:0<=x.sh/\x.sh<=60)(SL:x.sa<256)(hm:max 0 ((sz:Int)- x.sh)=(m:Int)):CL L 13 [AN sz,.agg (IV x)] h λv AA=>K0 h AA/\(x.ls=[]/\v= .AS\/∃w BH,b9 AA v m w BH/\w.map (·.1)=x.ls/\w≠[]):=by
 have aqd:(12:Nat)<=sz:=DE.1;obtain⟨w0,sv0,ey,n0,eu,aX,dA,dC,NY⟩:=x;dsimp only at q hl NW SL hm ⊢;have TA: -9223372036854775808<=(sz:Int)- aX:=om
 have UG:(sz:Int)- aX<=9223372036854775807:=om
 rcases q.ex with⟨rfl,rfl⟩|⟨rfl,a,rfl⟩|⟨b,cap,rfl,hb,-⟩;.exact zD
 .exact zD
 .have lb:=hb.lt;refine Ad L X.f13 λQ x cs G=>?_;refine wk ?_;refine Bt L (α:=List GW×(Nat->List Nat)×AV) (T:=λi a=>[(6,some (AN i)),(5,some a.2.2),(3,some (.ptr h.n 0)),(0,some (AN sz))]) (n:=NY.length) (R:=λi a h2=>QY h2 (h.n+1) a.2.2 m a.1 a.2.1/\(∀y∈a.1,y.2.isSome)/\a.1.map (·.1)=NY.take i/\K0 (hp (h.n+1) h.t [(h.n,some (cl (IV ⟨w0,.AE b 0 NY.length cap,ey,n0,eu,aX,dA,dC,NY⟩)))]) h2) (i0:=0) ([],λ_=>[],.AS) BA ⟨⟨.inl ⟨rfl,rfl⟩⟩,(λy hy=>by cases hy),rfl,AH⟩ (CN _) ?_ ?_;.rintro i ⟨l,BH,v⟩ h2 hi ⟨q1,q2,q3,k2⟩ ih;simp only at q1 q2 q3;have n2:=k2.n;simp only[Ag]at n2;have kb:Bk h2 h.n (IV ⟨w0,.AE b 0 NY.length cap,ey,n0,eu,aX,dA,dC,NY⟩):=Ab k2 uc;have aj0:=kb.lt;have hk:=Ni k2 (Ni (AA:=hp (h.n+1) h.t [(h.n,some (cl (IV ⟨w0,.AE b 0 NY.length cap,ey,n0,eu,aX,dA,dC,NY⟩)))]) za hb);have hpv:A1 v=some [v]/\A8 v=true:=k1p;have hlen:l.length=i:=(by have:=HT List.length q3;rw[DC,IS]at this;omega);have hx:NY[i]?=some NY[i]:=DA hi;have HB:NY.take (i+1)=NY.take i++[NY[i]]:=(by rw[LO,DA hi];rfl);generalize NY[i]=s at*;have aP:=kb;dsimp only[IV]at aP;refine AK ?_ (c:=anp L hm om SL);rintro _ h3 ⟨N,rfl,kN,hN,k3⟩;refine wk ?_;refine ajr L (BH:=BH) (h0:=hp (h.n+1) h.t [(h.n,some (cl (IV ⟨w0,.AE b 0 NY.length cap,ey,n0,eu,aX,dA,dC,NY⟩)))]) (h2:=h2) (h:=h3) (x:=⟨w0,.AE b 0 NY.length cap,ey,n0,eu,aX,dA,dC,NY⟩) (s:=s) om (by exact q1) k3 (by exact k2) hlen kN hN VA (IA.rep SL) om (Ab k3 kb) om rfl (by exact Ni k3 hk) (by exact hx) om ?_ λTZ w AQ AA AT g1 g2 g3=>ih (l++[(s,some w)],TZ,AQ) AA AT ⟨by exact g1,λy hy=>(GU.1 hy).elim (q2 y) λe=>(by rw[EV.1 e];rfl),by rw[IG,q3,HB];rfl,by exact g2⟩ g3;exact BA
  .rintro⟨l,BH,v⟩ h2 ⟨q1,q2,q3,k2⟩;have n2:=k2.n;simp only[Ag]at n2;simp only at q1 q2 q3;have kb:Bk h2 h.n (IV ⟨w0,.AE b 0 NY.length cap,ey,n0,eu,aX,dA,dC,NY⟩):=Ab k2 uc;have aj0:=kb.lt;have hpv:A1 v=some [v]/\A8 v=true:=k1p;rw[NA]at q3;dsimp only[IV]at kb;refine ret X.f13.1 ?_;refine⟨AH,?_⟩;rcases q1.ex with⟨rfl,rfl⟩|⟨h1,gb,rfl,h3,h4,h5⟩;.exact .inl ⟨q3.symm,rfl⟩
   .refine .inr ⟨l,BH,⟨gb,rfl,h3,λi s p hi=>?_⟩,q3,λe=>by rw[e]at h1;cases h1⟩;obtain⟨w,rfl⟩:=SV.1 (q2 _ (I4 hi));obtain⟨AR,o,c⟩:=w;obtain⟨g1,g2,-⟩:=h5 i s AR o c hi;exact⟨AR,o,c,rfl,g1,g2⟩
theorem zq9(h:p:=by
 rcases sh3 with h7|⟨h7,h8|h8⟩
 .refine wk ?_
  refine BO L (Bx rfl JY k1) ?_
  refine wk ?_
  refine BO L (Bx rfl JY k5) ?_
  refine ret X.f8.1 ?_
  exact⟨false,rfl,nl,AH⟩
 .refine wk ?_
  refine BO L (Bx rfl JY k1) ?_
  refine wk ?_
  refine BO L (Bx rfl JY k5) ?_
  refine wk ?_
  refine BO L (Bx rfl JY k5) ?_
  refine ret X.f8.1 ?_
  exact⟨false,rfl,nl,AH⟩
 .refine wk ?_
  refine BO L (Bx rfl JY k1) ?_
  refine wk ?_
  refine BO L (Bx rfl JY k5) ?_
  refine wk ?_
  refine BO L (Bx rfl JY k5) ?_
  refine wk ?_
  exact ih () _ _ ⟨ok W0 ⟨h7,h8⟩,by exact AH⟩ BA):p:=h
theorem zE(h:p:=by
 refine Mc L X.f8 λQ x cs G=>?_
 refine wk ?_
 refine Bi L ?_
 refine ret X.f8.1 ?_
 exact⟨true,rfl,λ_=>⟨⟨s0,s1,s2,s3,s4⟩,by simp,λx hx=>by cases hx⟩,AH⟩):p:=h
structure RX (AD:Nat->Nat)(h:H)(v:AV)(l:List FA):Prop where
 el:∀x∈l,OI AD h x.sv x.ls/\x.sa<256/\ -9223372036854775808<=x.se
 ex:(l=[]/\v= .AS)\/(l=[]/\∃a,v= .HZ (.slice (some a) 0 0))\/∃b cap,v= .AE b 0 l.length cap/\Rk h b (l.flatMap IV)/\AD b=0
theorem RX.fw{l:List FA}(q:RX AD h v l)(f:Fw AD h AF AA):RX AF AA v l:=by refine⟨λx hx=>⟨(q.el x hx).1.fw f,(q.el x hx).2⟩,?_⟩;exact Avy
def uy(l:List FA):Prop:=l.length<=30/\∀x∈l,x.ls.length<=6/\0<=x.sh/\x.sh<=60
def Al0(g0 g1 g2 c0 c2:Int):Prop:=g0<=44/\g1<=4/\g2<=50/\c0<=12/\c2<=4
theorem aa9{g3:Int}{l:List FA}(k:RX AD h v l):CL L 8 [.agg (Lx g0 g1 g2 g3),.agg (Lx c0 c1 c2 c3),v,AN 30] h λu AA=>∃b:Bool,u= .bool b/\(b=true->Al0 g0 g1 g2 c0 c2/\uy l)/\K0 h AA:=by
 have nl:∀{p:Prop},(false:Bool)=true->p:=λe=>by cases e
 have sp:(44<g0\/g0<=44/\(4<g1\/g1<=4/\(50<g2\/g2<=50/\(12<c0\/c0<=12/\4<c2))))\/(g0<=44/\g1<=4/\g2<=50/\c0<=12/\c2<=4):=om
 rcases sp with sp|⟨s0,s1,s2,s3,s4⟩
 .rcases sp with sp|⟨h0,sp|⟨h1,sp|⟨h2,sp|⟨h3,sp⟩⟩⟩⟩
  all_goals
   refine Mc L X.f8 λQ x cs G=>?_;refine ret X.f8.1 ?_;exact⟨false,rfl,nl,AH⟩
 rcases k.ex with⟨rfl,rfl⟩|⟨rfl,a,rfl⟩|⟨b,cap,rfl,hb,hc⟩;.exact zE
 .exact zE
 by_cases hm:30<l.length;.refine Mc L X.f8 λQ x cs G=>?_;refine ret X.f8.1 ?_;exact⟨false,rfl,nl,AH⟩
 refine Mc L X.f8 λQ x cs G=>?_;refine wk ?_;refine Bt L (α:=Unit) (T:=λi _=>[(9,some (AN i)),(2,some (.AE b 0 l.length cap))]) (n:=l.length) (R:=λi _ h2=>(∀x∈l.take i,x.ls.length<=6/\0<=x.sh/\x.sh<=60)/\K0 h h2) (i0:=0) () BA ⟨by simp,AH⟩ (CN _) ?_ ?_
 .rintro i _ h2 hi ⟨w1,w2⟩ ih;have hx:l[i]?=some l[i]:=DA hi;have JG:l.take (i+1)=l.take i++[l[i]]:=by rw[LO,hx];rfl
  have hk:=Ni w2 hb;have FO:=LC hi;have k1:(l.flatMap IV)[i*8+1]?=some l[i].sv:=by rw[In l (Lq l) i 1 _ hx om];rfl
  have k5:(l.flatMap IV)[i*8+5]?=some (AI l[i].sh):=by rw[In l (Lq l) i 5 _ hx om];rfl
  have hq:=(k.el _ FO).1;generalize l[i]=y at*;have ok:y.ls.length<=6->0<=y.sh/\y.sh<=60->∀x∈l.take (i+1),x.ls.length<=6/\0<=x.sh/\x.sh<=60:=λh6 h7 x hx=>by
   rw[JG]at hx;rcases GU.1 hx with h|h;.exact w1 x h
   .rw[EV]at h;subst h;exact⟨h6,h7⟩
  obtain⟨yw,yv,ye,yn,ya,yh,yf,yb,ys⟩:=y;simp only at hq k1 k5 ok;have sh3:yh<0\/0<=yh/\(60<yh\/yh<=60):=om
  rcases hq.ex with⟨rfl,rfl⟩|⟨rfl,a,rfl⟩|⟨c,cp,rfl,-,-⟩;.exact zq9
  .exact zq9
  .by_cases h6:ys.length<=6
   .rcases sh3 with h7|⟨h7,h8|h8⟩;.refine wk ?_;refine BO L (Bx rfl JY k1) ?_;refine wk ?_;refine BO L (Bx rfl JY k5) ?_;refine ret X.f8.1 ?_;exact⟨false,rfl,nl,AH⟩
    .refine wk ?_;refine BO L (Bx rfl JY k1) ?_;refine wk ?_;refine BO L (Bx rfl JY k5) ?_;refine wk ?_;refine BO L (Bx rfl JY k5) ?_;refine ret X.f8.1 ?_;exact⟨false,rfl,nl,AH⟩
    .refine wk ?_;refine BO L (Bx rfl JY k1) ?_;refine wk ?_;refine BO L (Bx rfl JY k5) ?_;refine wk ?_;refine BO L (Bx rfl JY k5) ?_;refine wk ?_;exact ih () _ _ ⟨ok h6 ⟨h7,h8⟩,by exact AH⟩ BA
   .refine wk ?_;refine BO L (Bx rfl JY k1) ?_;refine ret X.f8.1 ?_;exact⟨false,rfl,nl,AH⟩
 .rintro _ h2 ⟨w1,w2⟩;refine ret X.f8.1 ?_;exact⟨true,rfl,λ_=>⟨⟨s0,s1,s2,s3,s4⟩,om,λx hx=>w1 x (by rw[NA];exact hx)⟩,AH⟩
theorem rS(h:p:=by
 rw[hc]
 refine Ad L X.f81 λQ x cs G=>?_
 refine AK ?_ (c:=ad4 L hs)
 rintro _ rfl
 refine ret X.f81.1 ?_
 exact⟨rfl,rfl⟩):p:=h
theorem zG(h:p:=by
 rw[he]
 refine Ad L X.f34 λQ x cs G=>?_
 refine AK ?_ (c:=RK)
 rintro _ h2 ⟨rfl,k2⟩
 refine AK ?_ (c:=ad4 L hs)
 rintro _ rfl
 refine AK ?_ (c:=anu L hs hn)
 rintro _ rfl
 refine ret X.f34.1 ?_
 exact⟨rfl,AH⟩):p:=h
theorem ad3(n m:Nat)(hm:0<m):(n+m- 1)/m=n/m+(if 0<n%m then 1 else 0):=by
 have h:=jT n m;have hr:=UX n hm;generalize n/m=q at*;generalize n%m=r at*;subst h
 cases r with
 |zero=>have e:m*q+0+m- 1=m*q+(m- 1):=Nat.add_sub_assoc hm _;rw[e,Nat.mul_add_div hm,fN om,AM om]
 |succ r=>
  have e:m*q+(r+1)+m- 1=m*(q+1)+r:=by rw[SQ,RW];generalize m*q=z;omega
  rw[e,Nat.mul_add_div hm,fN om,AP om]
theorem Pn{sz:Nat}(h:12<=sz):0<EK sz:=by unfold EK;omega
theorem ant{sz n:Nat}(h:12<=sz)(hn:1<=n):EI sz n=n/EK sz+(if 0<n%EK sz\/n/EK sz=0 then 1 else 0):=by
 have hm:=Pn h;have e:=ad3 n (EK sz) hm;have h1:=jT n (EK sz);unfold EI;rw[e];generalize n/EK sz=q at*;generalize n%EK sz=r at*;by_cases h2:0<r;.rw[AP h2,AP (.inl h2)];omega
 .by_cases h3:q=0;.subst h3;rw[Nat.mul_zero]at h1;omega
  .rw[AM h2,AM (by rintro(q|q);exact h2 q;exact h3 q)];omega
theorem aaq(h0:g0<=44)(h1:g1<=4)(h2:g2<=50)(h3:1<=en/\en<=1048576):CL L 33 [.agg (Lx g0 g1 g2 (en:Int))] h λv AA=>v= .bool (decide (2<=g0/\2<=g1/\1<=g2))/\K0 h AA:=by
 by_cases c0:2<=g0
 .by_cases c1:2<=g1
  .by_cases c2:1<=g2;.rw[CM ⟨c0,c1,c2⟩];refine Aj L X.f33 λQ x cs G=>?_;refine ret X.f33.1 ?_;exact⟨rfl,AH⟩
   .rw[CW λe=>c2 e.2.2];refine Aj L X.f33 λQ x cs G=>?_;refine ret X.f33.1 ?_;exact⟨rfl,AH⟩
  .rw[CW λe=>c1 e.2.1];refine Aj L X.f33 λQ x cs G=>?_;refine ret X.f33.1 ?_;exact⟨rfl,AH⟩
 .rw[CW λe=>c0 e.1];refine Aj L X.f33 λQ x cs G=>?_;refine ret X.f33.1 ?_;exact⟨rfl,AH⟩
theorem ad4{sz:Nat}(hs:12<=sz/\sz<=50):CL L 80 [AN sz] h λv AA=>v=AN (EK sz)/\AA=h:=by refine Aj L X.f80 λQ x cs G=>?_;refine ret X.f80.1 ?_;exact⟨rfl,rfl⟩
theorem anu{sz n:Nat}(hs:12<=sz/\sz<=50)(hn:1<=n/\n<=12):CL L 81 [AN sz,AN n] h λv AA=>v=AN (EI sz n)/\AA=h:=by
 have hm:=Pn hs.1;have bV:EK sz<=50:=by unfold EK;omega
 have hc:=ant hs.1 hn.1;have hd:=an n (EK sz);by_cases c1:0<n%EK sz;.rw[AP (.inl c1)]at hc;exact rS
 .by_cases c2:n/EK sz=0;.rw[AP (.inr c2)]at hc;exact rS
  .rw[AM (by rintro(q|q);exact c1 q;exact c2 q)]at hc;exact rS
def LF(P sz S:Nat):Nat:=(EI sz S+P- 1)/P+1
theorem Ag8{sz:Nat}(h0:2<=nb/\nb<=44)(h1:2<=P/\P<=4)(hs:12<=sz/\sz<=50)(h3:1<=en/\en<=1048576)(hn:1<=S/\S<=12):CL L 34 [.agg (C2 nb P sz en),AN S] h λv AA=>v=AN (3*LF P sz S+12)/\K0 h AA:=by
 have hm:=Pn hs.1;have hj:EI sz S<=S+1:=Gm hs.1;have he:=ad3 (EI sz S) P om;have hd:=an (EI sz S) P;unfold LF;have RK:=aaq (g0:=(nb:Int)) (g1:=(P:Int)) (g2:=(sz:Int)) (en:=en) (h:=hp (h.n+1) h.t [(h.n,some (cl (C2 nb P sz en)))]) L om om om h3;rw[CM om]at RK;by_cases c1:0<EI sz S%P;.rw[AP c1]at he;exact zG
 .rw[AM c1]at he;exact zG
structure cX (nb P sz S sp cc mg:Nat):Prop where
 FT:2<=nb/\nb<=44
 hP:2<=P/\P<=4
 DE:12<=sz/\sz<=50
 hS:1<=S/\S<=12
 MS:cc<=4
 ta:1<=mg/\mg<=P
 fit:sp+(3*LF P sz S+12)<=nb/\S<=P*(nb- sp- (3*LF P sz S+12))
theorem Acy(h0:g0<=44)(h1:g1<=4)(h2:g2<=50)(h3:1<=en/\en<=1048576)(h4:c0<=12)(h5:c2<=4):CL L 9 [.agg (Lx g0 g1 g2 (en:Int)),.agg (Lx c0 c1 c2 c3)] h λv AA=>∃b,v= .bool b/\(b=true->∃nb P sz S sp cc mg:Nat,g0=nb/\g1=P/\g2=sz/\c0=S/\c1=sp/\c2=cc/\c3=mg/\cX nb P sz S sp cc mg)/\K0 h AA:=by
 have RK:=aaq (g0:=g0) (g1:=g1) (g2:=g2) (en:=en) (h:=hp (h.n+1+1) h.t [(h.n+1,some (cl (Lx c0 c1 c2 c3))),(h.n,some (cl (Lx g0 g1 g2 (en:Int))))]) L om om om h3;by_cases hg:2<=g0/\2<=g1/\12<=g2/\1<=c0/\0<=c1/\c1<=g0/\0<=c2/\1<=c3/\c3<=g1
 .obtain⟨d0,d1,d2,d3,d4,d5,d6,d7,d8⟩:=hg;rw[CM ⟨d0,d1,om⟩]at RK;obtain⟨nb,rfl⟩:∃n:Nat,g0=n:=⟨g0.toNat,om⟩;obtain⟨P,rfl⟩:∃n:Nat,g1=n:=⟨g1.toNat,om⟩;obtain⟨sz,rfl⟩:∃n:Nat,g2=n:=⟨g2.toNat,om⟩;obtain⟨S,rfl⟩:∃n:Nat,c0=n:=⟨c0.toNat,om⟩;obtain⟨sp,rfl⟩:∃n:Nat,c1=n:=⟨c1.toNat,om⟩;obtain⟨cc,rfl⟩:∃n:Nat,c2=n:=⟨c2.toNat,om⟩;obtain⟨mg,rfl⟩:∃n:Nat,c3=n:=⟨c3.toNat,om⟩;have dw:=λ{hh:H}=>Ag8 (h:=hh) L (nb:=nb) (P:=P) (sz:=sz) (en:=en) (S:=S) ⟨om,om⟩ ⟨om,om⟩ ⟨om,om⟩ h3 ⟨om,om⟩;have TB:EI sz S<=S+1:=Gm om;have TC:LF P sz S<=100:=by have:=an (EI sz S+P- 1) P;unfold LF;omega
  refine Ad L X.f9 λQ x cs G=>?_;refine AK ?_ (c:=RK);rintro _ h2 ⟨rfl,k2⟩;have n2:=k2.n;refine AK ?_ (c:=dw);rintro _ h3 ⟨rfl,k3⟩;have ky:P=2\/P=3\/P=4:=om
  by_cases hf:sp+(3*LF P sz S+12)<=nb
  .have hm:P*(nb- sp- (3*LF P sz S+12))<=200:=(by rcases ky with rfl|rfl|rfl<;>omega);by_cases c9:S<=P*(nb- sp- (3*LF P sz S+12));.refine ret X.f9.1 ?_;exact⟨true,rfl,λ_=>⟨nb,P,sz,S,sp,cc,mg,rfl,rfl,rfl,rfl,rfl,rfl,rfl,⟨om,om,om,om,om,om,hf,c9⟩⟩,AH⟩
   .refine ret X.f9.1 ?_;exact⟨false,rfl,(λe=>by cases e),AH⟩
  .have key: -10000<=(P:Int)*(((nb- sp:Nat):Int)- ((3*LF P sz S+12:Nat):Int))/\(P:Int)*(((nb- sp:Nat):Int)- ((3*LF P sz S+12:Nat):Int))<0:=(by clear dw RK k2 k3;rcases ky with rfl|rfl|rfl<;>omega);refine wk ?_;(apply B4 rfl rfl;exact(⟨wx (Ac rfl) (Ac rfl) (Kg om om)⟩));refine ret X.f9.1 ?_;exact⟨false,rfl,(λe=>by cases e),AH⟩
 .have bad:(¬(2<=g0/\2<=g1/\1<=g2))\/(2<=g0/\2<=g1/\1<=g2)/\(g2<12\/12<=g2/\(c0<1\/1<=c0/\(c1<0\/0<=c1/\(g0<c1\/c1<=g0/\(c2<0\/0<=c2/\(c3<1\/1<=c3/\g1<c3)))))):=om
  rcases bad with d|⟨d,d1|⟨d1,d2|⟨d2,d3|⟨d3,d4|⟨d4,d5|⟨d5,d6|⟨d6,d7⟩⟩⟩⟩⟩⟩⟩
  all_goals
   (try rw[CW d]at RK);(try rw[CM d]at RK);(try obtain⟨z0,z1,z2⟩:=d);refine Ad L X.f9 λQ x cs G=>?_;refine AK ?_ (c:=RK);rintro _ h2 ⟨rfl,k2⟩;have n2:=k2.n;refine ret X.f9.1 ?_;exact⟨false,rfl,(λe=>by cases e),AH⟩
theorem xU(h:p:=by
 have:=an (EI sz S+P- 1) P
 have TB:EI sz S<=S+1:=Gm om
 unfold LF;omega):p:=h
section
variable {sz m0:Nat}
theorem Acz(h0:2<=nb/\nb<=44)(h1:2<=P/\P<=4)(hs:12<=sz/\sz<=50)(h3:1<=en/\en<=1048576)(hn:1<=S/\S<=12):CL L 36 [.agg (C2 nb P sz en),AN S] h λv AA=>v=AN (3*LF P sz S+12)/\K0 h AA:=by
 have TC:LF P sz S<=100:=by exact xU
 unfold LF at TC ⊢;refine Ad L X.f36 λQ x cs G=>?_;refine AK ?_ (c:=vu (AD:=λ_=>0) (g0:=2) (g1:=P) (g2:=sz) (g3:=en) (fl:=[]) L om om om h3 ⟨.inl ⟨rfl,rfl⟩⟩ (λx h=>by cases h) PI);rintro _ h2 ⟨d,BN,rfl,k2,-,-⟩;refine AK ?_ (c:=Ca L);rintro _ rfl;rw[CM om];refine AK ?_ (c:=Gi L ⟨om,om⟩);rintro _ rfl;refine AK ?_ (c:=Ca L);rintro _ rfl;rw[CM om];refine AK ?_ (c:=Nv (nb:=nb) (P:=P) (sz:=sz) (en:=en) (n:=S) L om om om);rintro _ h5 ⟨rfl,k5⟩;refine ret X.f36.1 ?_;exact⟨rfl,AH⟩
theorem Ac0(f:cX nb P sz S sp cc m0)(h3:1<=en/\en<=1048576)(hm:1<=mg/\mg<=100):CL L 37 [.agg (C2 nb P sz en),.agg (C2 S sp cc mg)] h λv AA=>v= .bool (decide (mg<=P))/\K0 h AA:=by
 have a1:=f.FT;have a2:=f.hP;have a3:=f.DE;have a4:=f.hS;have a5:=f.MS;have a7:=f.fit;have TC:LF P sz S<=100:=by exact xU
 have dw:=λ{hh:H}=>Acz (h:=hh) L (nb:=nb) (P:=P) (sz:=sz) (en:=en) (S:=S) a1 a2 a3 h3 a4;have ky:P=2\/P=3\/P=4:=om
 have bV:P*(nb- sp- (3*LF P sz S+12))<=200:=by rcases ky with rfl|rfl|rfl<;>omega
 by_cases hp:mg<=P;.rw[CM hp];refine Ad L X.f37 λQ x cs G=>?_;refine AK ?_ (c:=dw);rintro _ h2 ⟨rfl,k2⟩;have n2:=k2.n;refine AK ?_ (c:=Ca L);rintro _ rfl;rw[CM om];refine AK ?_ (c:=Ca L);rintro _ rfl;rw[CM om];refine AK ?_ (c:=Ca L);rintro _ rfl;rw[CM om];refine ret X.f37.1 ?_;exact⟨rfl,AH⟩
 .rw[CW hp];refine Ad L X.f37 λQ x cs G=>?_;refine AK ?_ (c:=dw);rintro _ h2 ⟨rfl,k2⟩;have n2:=k2.n;refine AK ?_ (c:=Ca L);rintro _ rfl;rw[CM om];refine AK ?_ (c:=Ca L);rintro _ rfl;rw[CM om];refine AK ?_ (c:=Ca L);rintro _ rfl;rw[CW om];refine ret X.f37.1 ?_;exact⟨rfl,AH⟩
end
theorem IK.rcl{d:Nat}{D:Dv}(q:IK AD h d D)(hc:∀b,b<h.n->AF b=AD b):IK AF h d D:=by obtain⟨ok,fm,bb,cb,r⟩:=q;have f:Fw AD h AF h:=⟨BD _,λ_ _ _=>rfl,hc⟩;refine⟨ok,fm,bb,cb,r.dk,(hc _ r.dk.lt).trans r.UC,r.fk,(hc _ r.fk.lt).trans r.YH,r.bk,(hc _ r.bk.lt).trans r.YE,r.Z1,r.nb,λi hi=>?_⟩;obtain⟨pn,c,hr⟩:=r.rows i hi;exact⟨pn,c,hr.fw f rfl⟩
theorem anv{sz n:Nat}(h:n<=m):EI sz n<=EI sz m:=by have:=Nat.div_le_div_right (c:=EK sz) (show n+EK sz- 1<=m+EK sz- 1 from om);unfold EI;omega
theorem Al5{sz n:Nat}(hP:2<=P)(h:n<=S):EI sz n<=(LF P sz S- 1)*P:=by have h1:=anv (sz:=sz) h;have h2:=jT (EI sz S+P- 1) P;have h3:=UX (EI sz S+P- 1) (show 0<P from om);unfold LF;rw[Nat.add_sub_cancel,WM];generalize P*((EI sz S+P- 1)/P)=z at*;omega
theorem Au7{sz:Nat}(hP:2<=P):2<=LF P sz S:=by
 have h1:1<=EI sz S:=by unfold EI;omega
 have:1<=(EI sz S+P- 1)/P:=(Nat.le_div_iff_mul_le om).2 om;unfold LF;omega
def rT(nb P sz S sp cc mg:Nat)(l:List Int):ME:=⟨S,sp,cc,mg,LF P sz S,nb- sp- (3*LF P sz S+12),l⟩
section
variable {sz:Nat}{l:List Int}{CD:Nat->Bool}
theorem cX.IJ(f:cX nb P sz S sp cc mg)(ID:250000<en/\en<=1048576)(GR:∀n,CD n=true->((n:Nat):Int)∈l)(hr:rem l 0<=sp){Hs Cs:List Rc}{js ds:List Int}(a:BE (Ap.IJ (Dv.new nb P sz en CD) S (λ_=>none) 1 0 [] []))(q:GI (Ap.IJ (Dv.new nb P sz en CD) S (λ_=>none) 1 0 [] []) Hs Cs)(z:ZR (Ap.IJ (Dv.new nb P sz en CD) S (λ_=>none) 1 0 [] []) (List.replicate S (List.replicate sz 0)))(ok:(Dv.new nb P sz en CD).Ok)(bM:Yx (Dv.new nb P sz en CD) js ds)(hJ:∀b:Nat,(b:Int)∈js↔∃r∈Cs,∃i,i<r.n (Dv.new nb P sz en CD).sz/\∃j,On (Ap.IJ (Dv.new nb P sz en CD) S (λ_=>none) 1 0 [] []) b j (r.pg (Dv.new nb P sz en CD).sz i)):FI (List.replicate S (List.replicate sz 0)) l sp (LF P sz S) (nb- sp- (3*LF P sz S+12)) 1 (Ap.IJ (Dv.new nb P sz en CD) S (λ_=>none) (Bn (Af (Dv.new nb P sz en CD))) 0 js ds):=by
 have hf:=f.fit;refine FI.IJ (S:=Ap.IJ (Dv.new nb P sz en CD) S (λ_=>none) 1 0 [] []) (Hs:=Hs) (Cs:=Cs) (x:=0) (k:=1048576) q (λL hn hb=>?_) ?_ a ok rfl ?_ om (λb hb=>?_) GR ?_ ID.1 z bM hJ λ_=>rfl
 .cases L with
  |nil=>exact CN _
  |cons b r=>obtain⟨r1,-,i,-,j,-,ho,-⟩:=hb b (DW ..);exact absurd ho (OD _)
 .show 0+rem l 0<=sp;omega
 .show(1:Nat)<=1048576+1/\(0:Nat)<=1048576/\1048576<=1048576/\1048576<890000000;omega
 .exact CN _
 .exact⟨f.hP.2,f.hS,f.fit.2,by show sp+(3*LF P sz S+12)+(nb- sp- (3*LF P sz S+12))<=nb;omega,Au7 f.hP.1,λn hn=>Al5 f.hP.1 hn⟩
theorem Ag9{d:Nat}(f:cX nb P sz S sp cc mg)(ID:250000<en/\en<=1048576)(r:IK AD h d (Dv.new nb P sz en CD))(GR:∀n,CD n=true->((n:Nat):Int)∈l)(hr:rem l 0<=sp):CL L 27 [.ptr d 0,.agg (C2 S sp cc mg)] h λv AA=>∃fb s AF u,v= .BM [.ptr fb 0,Zi]/\JC (rT nb P sz S sp cc mg l) AF AA fb s u 1 (List.replicate S (List.replicate sz 0)) []/\u.I.d=d/\Sm (Ap.IJ (Dv.new nb P sz en CD) S (λ_=>none) 1 0 [] []) u.S/\K0 h AA/\(∀b,b<h.n->AF b=AD b)/\h.n<=s/\h.n<=fb:=by obtain⟨y1,⟨Hs,Cs,y2⟩,y3,y4⟩:=Ag2 (k:=1048576) (CD:=CD) (S:=S) (nb:=nb) (P:=P) (sz:=sz) (en:=en) f.FT ⟨f.hP.1,by have:=f.hP;omega⟩ f.DE ⟨om,ID.2⟩;have a1:=f.FT;have a2:=f.hP;have a4:=f.hS;have a5:=f.MS;have a6:=f.ta;have r0:=r;obtain⟨ok,fm,bb,cb,rd⟩:=r;have aE:=rd.dk;refine Ad L X.f27 λQ x cs G=>?_;refine wk ?_;have RH:=λ{hh:H}=>Ac0 (h:=hh) (en:=en) L f (mg:=mg) ⟨om,ID.2⟩ ⟨a6.1,om⟩;rw[CM a6.2]at RH;have tN:CL L 43 [.ptr d 0] (hp (h.n+1) h.t [(h.n,some (cl (C2 S sp cc mg)))]) λv AA=>v= .agg (C2 nb P sz en)/\K0 (hp (h.n+1) h.t [(h.n,some (cl (C2 S sp cc mg)))]) AA:=Df L (D:=Dv.new nb P sz en CD) (fm:=fm) (bb:=bb) uc;refine AK ?_ (c:=tN);rintro _ h2 ⟨rfl,k2⟩;have n2:=k2.n;simp only[Ag]at n2;have XI:K0 h h2:=Kp.EA k2 za;have bR:=Ab XI aE;have uu:Bk h2 h.n (C2 S sp cc mg):=Ab k2 uc;refine AK ?_ (c:=RH);rintro _ h3 ⟨rfl,k3⟩;have n3:=k3.n;simp only[Ag]at n3;have aO:K0 h h3:=Kp.EA k3 (Kp.EA (m:=h2) za XI);have hd3:=Ab aO aE;have uv:Bk h3 h.n (C2 S sp cc mg):=Ab k3 uc;refine AK ?_ (c:=Jj L (D:=Dv.new nb P sz en CD) (fm:=fm) (bb:=bb) uc);rintro _ rfl;refine wk ?_;have kz:K0 h (hp (h3.n+1) h3.t [(h3.n,some (cl [AN S,AN sp,AN cc,AN mg,.M7,.AS,.bool false,.bool false]))]):=Kp.EA za aO;have cz:∀b,b<h.n->AX (ext AD h.n) h3.n 200 b=AD b:=λb hb=>(CB _ _ (by have:=aO.n;omega)).trans (Ae hb);have ama:=(r0.rcl cz).k0 kz;refine AK ?_ (c:=adq (S:=Ap.IJ (Dv.new nb P sz en CD) S (λ_=>none) 1 0 [] []) (CZ:=S) L ama uc (Am _ _ _) rfl y2 y1 rfl (by show 1<_;omega) f.hS);rintro _ h4 ⟨rfl,ab,I,QE,js,ds,r4,dI,YW,VI,UQ,bM,hJ,k4,c4⟩;have n4:=k4.n;simp only[Ag]at n4;have qN:=UQ.lt;refine ret X.f27.1 ?_;have kw:K0 h4 (hp (h4.n+1) h4.t [(h4.n,some (cl [.ptr h3.n 0]))]):=AH;have k0:K0 h h4:=⟨om,λb hb _=>(k4.old b Ze om).trans (kz.old b hb id)⟩;have kc:Bk (hp (h4.n+1) h4.t [(h4.n,some (cl [.ptr h3.n 0]))]) h4.n [.ptr h3.n 0]:=AG;have la4:=YW.lt;exact⟨h4.n,h3.n,ext QE h4.n,⟨ab,I,_,.AS,false,false⟩,rfl,⟨kc,B9 (BD _),⟨r4.k0 kw λb hb=>Ae hb,Ab kw YW,(Ae la4).trans VI,Ab kw UQ,(Ae qN).trans ((c4 _ Ze).trans (Am _ _ _))⟩,rfl,rfl,⟨rfl,rfl⟩,f.IJ ID GR hr y1 y2 y4 r0.ok bM hJ,⟨.inl ⟨rfl,rfl⟩⟩,λg hg=>(by cases hg),f.ta.2,CN _,f.MS⟩,dI,⟨rfl,rfl,rfl,rfl,rfl⟩,Kp.EA kw k0,λb hb=>(Ae om).trans ((c4 b Ze).trans (cz b hb)),om,om⟩
end
section
variable {l:CJ}{x:O}{q:Bool}
theorem Au4{a d:List Nat}(e:AU l x=some (.str a))(e1:AU l y=some (.str d))(hd:a=d):XV (.bin .eql x y q .vO) h l (.bool true) h:=by refine⟨?_⟩;simp only[exec,Ak,Ac e,Ac e1,Hk,T3,K2];subst hd;simp[vo]
end
section
variable {n:Nat}{Z:HJ}{gs:VE}
theorem Ag6(y:JC q AD h f s u n Z gs):CL L 17 [.ptr f 0] h λv AA=>v= .ptr u.I.d 0/\AA=h:=by have kf:=y.kf;have ks:=y.y.ks;dsimp only[LH]at ks;refine Aj L X.f17 λQ x cs G=>?_;refine AK ?_ (c:=Fg L y.y.r y.y.ka);rintro _ rfl;refine ret X.f17.1 ?_;exact⟨rfl,rfl⟩
theorem Acr{a:Nat}{d:List Nat}(y:JC q AD h f s u n Z gs)(ha:a<u.S.S)(hw:BS h wb 0 d)(cw:AD wb=0)(hl:d.length=u.S.D.sz)(hd:(Ep u.S.D.sz Z gs)[a]?=some d):CL L 23 [.ptr f 0,AN a,.AE wb 0 u.S.D.sz wc] h λv AA=>∃AF,v= .bool true/\JC q AF AA f s u n Z gs/\CU (λb=>b=s) AD h AF AA:=by refine Bj L X.f23 λQ x cs G=>?_;refine AK ?_ (c:=aa7 L y ha);rintro _ h2 ⟨AF,b,c,MG,rfl,r1,r2,r3,y2,a2⟩;rw[hd]at r3;obtain rfl:d=MG:=Za r3;have hw2:=(a2.fw y.y.sc).bs hw cw;refine AK ?_ (c:=Vg L);rintro _ rfl;refine wk ?_;refine BO L (wS rfl (by exact r1) hl) ?_;refine BO L (wS rfl (by exact hw2) hl) ?_;refine BO L (Au4 rfl rfl rfl) ?_;refine ret X.f23.1 ?_;exact⟨AF,rfl,y2.k0 AH λ_ _=>rfl,CU.tr a2 (CU.kp AH λ_ _=>rfl)⟩
theorem Ch.d{AD:Nat->Nat}{h AA:H}{d:Nat}(k:Kp (λi=>i=d) h AA)(c:AD d=1):Ch AD h AD AA:=⟨k.mono λb e=>by subst e;omega,λ_ _=>rfl⟩
theorem JC.cut{AA:H}{c:Int}{b:Nat}(y:JC q AD h f s u n Z gs)(hq:¬(-1:Int)∈q.l)(r:IK AD AA u.I.d {u.S.D with cut:=c,EC:=b})(k:Kp (λj=>j=u.I.d) h AA)(cd:AD u.I.d=1):JC q AD AA f s {u with S:={u.S with D:={u.S.D with cut:=c,EC:=b}}} n Z gs:=by
 have nd:∀{x m},AD x=m->m≠1->x≠u.I.d:=λh1 h2 h3=>by rw[h3,cd]at h1;omega
 have fw:Fw AD h AD AA:=k.fw λx _ e=>by subst e;omega
 obtain⟨kk,e,bd,hk,cg,he⟩:=y.fi.k;have a:=y.fi.a;obtain⟨Hs,Cs,jq⟩:=y.fi.js;exact⟨Ao k (nd y.cf om) y.kf,y.cf,⟨y.y.r.dev (Ch.d k cd) r ⟨rfl,rfl,rfl,rfl⟩,Ao k (nd y.y.ca om) y.y.ka,y.y.ca,Ao k (nd y.y.sc om) y.y.ks,y.y.sc⟩,y.dn,y.ro,⟨y.ok.c,y.ok.CZ⟩,⟨⟨⟨a.CT.nb,a.CT.P,a.CT.sz,a.CT.en⟩,a.pw,a.n0,⟨λk=>⟨(a.iw.wi k).BT,(a.iw.wi k).lo⟩,a.iw.ne⟩,a.LB,a.RM,a.free,a.jr,a.SM,a.TP,a.map,a.inj⟩,⟨Hs,Cs,⟨⟨jq.pg,jq.ok,jq.inj⟩,jq.sub,jq.live,jq.uq,jq.rest,jq.Vv,jq.ZU,jq.ap,jq.map⟩⟩,y.fi.z.of rfl λs=>Ap.vT rfl rfl ⟨rfl,rfl⟩ s,y.fi.dn,⟨y.fi.cf.P,y.fi.cf.PV,y.fi.cf.hX,y.fi.cf.nb,y.fi.cf.hc,y.fi.cf.hr⟩,y.fi.en,λh=>absurd h hq,kk,e,⟨bd.last,bd.wr,bd.pe,bd.nx,bd.dn⟩,hk,⟨cg.no,cg.sd,cg.fl,cg.er,cg.x⟩,he⟩,y.ca.fw fw,y.go,y.mg,y.cc⟩
theorem JC.low{l:List Int}(y:JC q AD h f s u n Z gs)(hq:q.l= -1::l)(hl:∀i∈l,0<=i):JC {q with l:=l} AD h f s u n Z gs:=by
 obtain⟨kk,e,bd,hk,cg,he⟩:=y.fi.k;have hr:∀n,rem q.l n=rem l n:=λn=>by rw[hq];unfold rem;rw[RT,AM (by simp only[LP];omega)]
 exact⟨y.kf,y.cf,⟨y.y.r,y.y.ka,y.y.ca,y.y.ks,y.y.sc⟩,y.dn,y.ro,⟨y.ok.c,y.ok.CZ⟩,
  ⟨y.fi.a,y.fi.js,y.fi.z,y.fi.dn,y.fi.cf,y.fi.en,λh=>by have:=hl _ h;omega,kk,e,bd,hk,⟨cg.no,cg.sd,λn hn=>by
   have:=cg.fl n hn
   rw[hq]at this
   exact(DD.1 this).elim (λh=>om) id,cg.er,by have:=cg.x;rw[hr]at this;exact this⟩,he⟩,y.ca,y.go,y.mg,y.cc⟩
end
section
variable {sz:Nat}
theorem Ac1{fv:AV}{fl:List Int}(f:cX nb P sz S sp cc mg)(ID:250000<en/\en<=1048576)(qf:OI AD h fv fl)(hf:∀x∈fl,0<=x)(lJ:fl.length<=sp):CL L 11 [.agg (C2 nb P sz en),fv,.agg (C2 S sp cc mg)] h λv AA=>∃pb fb s AF u rest,v= .ptr pb 0/\Bk AA pb (.ptr fb 0::rest)/\JC (rT nb P sz S sp cc mg (-1::fl)) AF AA fb s u 1 (List.replicate S (List.replicate sz 0)) []/\Sm (Ap.IJ (Dv.new nb P sz en (O2 fl)) S (λ_=>none) 1 0 [] []) u.S/\K0 h AA/\∀b,b<h.n->AF b=AD b:=by
 have a1:=f.FT;have a2:=f.hP;have a3:=f.DE;have a4:=f.hS;have a7:=f.fit;have fvp:A1 fv=some [fv]/\A8 fv=true:=by rcases qf.ex with⟨-,rfl⟩|⟨-,a,rfl⟩|⟨b,c,rfl,-⟩<;>exact⟨rfl,rfl⟩
 have uB:rem (-1::fl) 0<=sp:=by unfold rem;rw[RT,AM W0];exact EM (V0 _ _) lJ
 refine Bj L X.f11 λQ x cs G=>?_;refine wk ?_;have k1:K0 h (hp (h.n+1+1) h.t [(h.n+1,some (cl (C2 S sp cc mg))),(h.n,some (cl (C2 nb P sz en)))]):=AH;have q1:OI (ext AD h.n) (hp (h.n+1+1) h.t [(h.n+1,some (cl (C2 S sp cc mg))),(h.n,some (cl (C2 nb P sz en)))]) fv fl:=qf.fw ⟨k1.n,λb hb _=>k1.old b hb id,λb hb=>Ae hb⟩;refine AK ?_ (c:=vu (g0:=nb) (g1:=P) (g2:=sz) (g3:=en) L a1 om a3 om q1 hf om);rintro _ h2 ⟨d,BN,rfl,k2,r2,c2⟩;have n2:=k2.n;simp only[Ag]at n2;have kg:Bk h2 h.n (C2 nb P sz en):=Ab k2 uc;have kc:Bk h2 (h.n+1) (C2 S sp cc mg):=Ab k2 uc;refine AK ?_ (c:=Ag9 (l:= -1::fl) L f ID r2 (λn hn=>Ck _ (by simpa[O2]using hn)) uB);rintro _ h3 ⟨fb,s,KT,u,rfl,y3,dI,sm,k3,c3,hs,hfb⟩;have uv:=Ab k3 kg;have qF:=Ab k3 kc;refine AK ?_ (c:=Vg L);rintro _ rfl;refine AK ?_ (c:=Vg L);rintro _ rfl;refine AK ?_ (c:=Af1 (sz:=sz) (S:=S) L om om);rintro _ h4 ⟨dv,rfl,q4,k4⟩;have kc4:=Ab k4 qF;have hp9:=q4.plain (z:=(sz:Int));rcases q4.ex with⟨-,rfl⟩|⟨-,lb,rows,rfl,-⟩<;>rcases qf.ex with⟨-,rfl⟩|⟨-,a,rfl⟩|⟨b,c,rfl,-⟩
 all_goals
  refine ret X.f11.1 ?_;have kz:=λ{h5:H} (k:K0 h4 h5)=>(Kp.EA k k4:K0 h3 h5);have cz:∀b,b<h3.n->ext KT h3.n b=KT b:=λb hb=>Ae hb;refine⟨h4.n,fb,s,ext KT h3.n,u,_,rfl,AG,y3.k0 (kz za) cz,sm,Kp.EA (kz za) (Kp.EA k3 (Kp.EA k2 k1)),λb hb=>(Ae (by have:=k1.n;have:=k2.n;omega)).trans ((c3 b om).trans ((c2 b Ze).trans (Ae hb)))⟩
end
def Hd(q:ME)(S0:Ap)(f a:Nat)(d:List Nat)(nn:Nat)(AD:Nat->Nat)(h:H):Prop:=∃s u n Z gs,JC q AD h f s u n Z gs/\n+gs.length<=nn/\Sm S0 u.S/\Z[a]?=some d/\∀g∈gs,(a:Int)∉g.map (·.1)
def jo(q:ME)(S0:Ap)(f a:Nat)(d:List Nat)(nn:Nat)(v:AV)(AD:Nat->Nat)(h:H):Prop:=∃e:Nat,v=AN e/\e≠130/\(e≠50/\Hd q S0 f a d nn AD h\/e=50/\∃s u S1 n Z,jl q AD h f s u S1 n Z/\Sm S0 S1/\1<=n/\n<=nn/\Z[a]?=some d)
section
variable {a n:Nat}{d:List Nat}{Z:HJ}{gs all:VE}
theorem b7.hd{k:Nat}(o:b7 q f s u n Z all k v AF AA)(hk:k<=all.length)(hg:∀g∈all,Rz u.S.S u.S.D.P g)(ha:∀g∈all,(a:Int)∉g.map (·.1))(hz:Z[a]?=some d)(sm:Sm S0 u.S)(hn:n+all.length<=nn):jo q S0 f a d nn v AF AA:=by
 have key:∀j,(Ep u.S.D.sz Z (all.take j))[a]?=some d:=λj=>(N8 _ _ (λg h=>hg g (cO h)) λg h=>ha g (cO h)).trans hz;rcases o with⟨rfl,AB,EZ,vY,y⟩|⟨rfl,AB,EZ,j,IT,hj,iH,y⟩
 .exact⟨0,rfl,om,.inl ⟨om,s,_,_,_,_,y,by rw[SW];omega,sm.trans vY,key k,λg h=>ha g (List.mem_of_mem_drop h)⟩⟩
 .refine⟨50,rfl,om,.inr ⟨rfl,s,_,_,_,IT,y,sm,om,om,?_⟩⟩;rcases iH with rfl|rfl;.exact key j
  .exact key (j+1)
theorem anr(y:Hd q S0 f a d nn AD h)(hn:nn<=240):CL L 15 [.ptr f 0] h λv AA=>∃AF,Fw AD h AF AA/\jo q S0 f a d (nn+1) v AF AA:=by obtain⟨s,u,n,Z,gs,y,h1,h2,h3,h4⟩:=y;refine(Vi L y om).mono ?_;rintro v AA ⟨AF,BC,o⟩;exact⟨AF,BC.fw y.y.sc,o.hd (BD _) y.go h4 h3 h2 om⟩
theorem ans{x:FA}{gv:AV}(y:Hd q S0 f a d nn AD h)(hn:nn<=240)(hl:x.ls.length<=6)(hm:m<=900)(hv:x.ls=[]/\gv= .AS\/∃w BH,b9 h gv m w BH/\w.map (·.1)=x.ls/\w≠[])(ha:(a:Int)∉x.ls):CL L 12 [.ptr f 0,gv] h λv AA=>∃AF,Fw AD h AF AA/\jo q S0 f a d (nn+1) v AF AA:=by
 obtain⟨s,u,n,Z,gs,y,h1,h2,h3,h4⟩:=y;rcases hv with⟨-,rfl⟩|⟨w,BH,ig,hw,BZ⟩;.refine(Vh L y).mono ?_;rintro v AA ⟨AF,BC,rfl,GM⟩;exact⟨AF,BC.fw y.y.sc,2,rfl,om,.inl ⟨om,s,u,n,Z,gs,GM,om,h2,h3,h4⟩⟩
 .have iF:w.length<=6:=by rw[<-hw,DC]at hl;exact hl
  refine(aa4 L y om ig BZ iF hm).mono ?_;rintro v AA ⟨AF,BC,⟨e0,rfl,GM⟩|⟨e0,o⟩⟩;.obtain⟨e1,e2⟩:=ado q.mg u.S.S u.S.D.sz m (w.map (·.1));exact⟨AF,BC.fw y.y.sc,_,rfl,e2,.inl ⟨e1,s,u,n,Z,gs,GM,om,h2,h3,h4⟩⟩
  .refine⟨AF,BC.fw y.y.sc,o.hd (by rw[DX];show _<=_+1;have:=y.cc;omega) (λg hg=>?_) (λg hg=>?_) h3 h2 (by rw[DX];show _+(_+1)<=_;omega)⟩;.exact(GU.1 hg).elim (y.go g) λh=>by rw[EV.1 h];exact wK e0 BZ y.mg
   .rcases GU.1 hg with hg|hg;.exact h4 g hg
    .rw[EV.1 hg,Dj,hw];exact ha
theorem Al1{i0 i1:Nat}(h:a<i0\/i0+i1<=a):(a:Int)∉(WG i0 i1).map (·.1):=λe=>by
 obtain⟨z,hz,aM⟩:=DK.1 e
 obtain⟨j,hj,rfl⟩:=DK.1 hz
 have:=KI.1 hj
 simp only at aM
 omega
theorem Acs{i0 i1:Int}(y:Hd q S0 f a d nn AD h)(hn:nn<=240)(ha:(a:Int)<i0\/0<=i1/\i0+i1<=(a:Int)):CL L 21 [.ptr f 0,AI i0,AI i1] h λv AA=>∃AF,Fw AD h AF AA/\jo q S0 f a d (nn+1) v AF AA:=by
 obtain⟨s,u,n,Z,gs,y,h1,h2,h3,h4⟩:=y;by_cases hb:0<=i0/\i0<(u.S.S:Int)/\0<=i1/\i1<=(u.S.S:Int)- i0
 .obtain⟨b0,rfl⟩:∃n:Nat,i0=n:=⟨i0.toNat,om⟩;obtain⟨b1,rfl⟩:∃n:Nat,i1=n:=⟨i1.toNat,om⟩;refine(Agw L y om om om).mono ?_;rintro v AA ⟨AF,BC,o⟩;refine⟨AF,BC.fw y.y.sc,?_⟩;by_cases hz:b1=0;.rw[AP hz,AP hz]at o;exact o.hd (CN _) y.go h4 h3 h2 om
  .rw[AM hz,AM hz]at o;refine o.hd (by rw[DX];show _<=_+1;have:=y.cc;omega) (λg hg=>?_) (λg hg=>?_) h3 h2 (by rw[DX];show _+(_+1)<=_;omega);.exact(GU.1 hg).elim (y.go g) λh=>by rw[EV.1 h];exact ib hz om
   .rcases GU.1 hg with hg|hg;.exact h4 g hg
    .rw[EV.1 hg];exact Al1 om
 .refine(Ack L y hb).mono ?_;rintro v AA ⟨AF,BC,rfl,GM⟩;exact⟨AF,BC.fw y.y.sc,3,rfl,om,.inl ⟨om,s,u,n,Z,gs,GM,om,h2,h3,h4⟩⟩
theorem Acu{S1:Ap}(y:jl q AD h f s u S1 n Z)(sm:Sm S0 S1)(hn:1<=n/\n<=nn/\nn<=240)(hz:Z[a]?=some d):CL L 22 [.ptr f 0] h λv AA=>∃AF,Fw AD h AF AA/\v=Zi/\Hd q S0 f a d (nn+1) AF AA:=by refine(agp L y.x om).mono ?_;rintro v AA ⟨rfl,AF,FW,GM,BC,vY,-⟩;exact⟨AF,BC.fw y.y.sc,rfl,s,FW,n+1,Z,[],GM,by show n+1+0<=_;omega,sm.trans vY,hz,λg hg=>(by cases hg)⟩
theorem Vj(y:Hd q S0 f a d nn AD h)(ha:a<S0.S)(hw:BS h wb 0 d)(cw:AD wb=0)(hl:d.length=S0.D.sz):CL L 23 [.ptr f 0,AN a,.AE wb 0 S0.D.sz wc] h λv AA=>∃AF,v= .bool true/\Fw AD h AF AA/\Hd q S0 f a d nn AF AA:=by obtain⟨s,u,n,Z,gs,y,h1,h2,h3,h4⟩:=y;have hc:=Acr (wc:=wc) L y (by rw[h2.CZ];exact ha) hw cw (by rw[h2.sz];exact hl) ((N8 _ _ y.go h4).trans h3);rw[h2.sz]at hc;refine hc.mono ?_;rintro v AA ⟨AF,rfl,GM,BC⟩;exact⟨AF,rfl,BC.fw y.y.sc,s,u,n,Z,gs,GM,h1,h2,h3,h4⟩
end
structure QF (q:ME)(S0:Ap)(f a:Nat)(d:List Nat)(nn:Nat)(b6:Nat)(CT:List AV)(wb:Nat)(av:AV)(al:List FA)(AD:Nat->Nat)(h:H):Prop where
 hd:Hd q S0 f a d nn AD h
 k6:Bk h b6 CT
 c6:AD b6=0
 bw:BS h wb 0 d
 cw:AD wb=0
 ql:RX AD h av al
section
variable {a sz:Nat}{d:List Nat}{al:List FA}
theorem QF.fw(w:QF q S0 f a d nn b6 CT wb av al AD h)(g:Fw AD h AF AA)(y:Hd q S0 f a d cH AF AA):QF q S0 f a d cH b6 CT wb av al AF AA:=⟨y,g.bk w.k6 w.c6,(g.CA _ w.k6.lt).trans w.c6,g.bs w.bw w.cw,(g.CA _ w.bw.ET).trans w.cw,w.ql.fw g⟩
theorem QF.k0(w:QF q S0 f a d nn b6 CT wb av al AD h)(k:K0 h AA):QF q S0 f a d nn b6 CT wb av al (ext AD h.n) AA:=
 w.fw ⟨k.n,λb hb _=>k.old b hb id,λb hb=>Ae hb⟩ (by
  obtain⟨s,u,n,Z,gs,y,h1⟩:=w.hd
  exact⟨s,u,n,Z,gs,y.k0 k λb hb=>Ae hb,h1⟩)
abbrev jm(P0:Program)(E:Env)(Q:Nat->AV->Prop)(q:ME)(S0:Ap)(f a:Nat)(d:List Nat)(m b6:Nat)(CT:List AV)(wb wc:Nat)(av:AV)(al:List FA)(i:Nat)(kk:DO):Prop:=∀AF AA AT,QF q S0 f a d m b6 CT wb av al AF AA->FY (AJ [(19,some (AI ((i+1:Nat):Int))),(17,some (.AE wb 0 S0.D.sz wc)),(15,some (.ptr f 0)),(6,some (.ptr b6 0)),(5,some (AI (a:Int))),(4,some av)]) (AJ AT)->Good P0 E Q ⟨⟨3,JR.ntmps,AJ AT,.inLoop O1::kk,[],.run,false,none⟩,[],AA⟩
include L
theorem Xl{e:Nat}{κ0:Nat->Nat}{kk:DO}(w:QF q S0 f a d nn b6 CT wb av al κ0 h0)(g:Fw κ0 h0 AD h)(o:jo q S0 f a d cH (AN e) AD h)(hn:cH<=240)(hi:i<1000)(ha:a<S0.S)(hl:d.length=S0.D.sz)(DE:S0.D.sz<=50)(hD:D=183\/D=218\/D=224)(ht:FY (AJ [(D,some (AN e)),(19,some (AN i)),(17,some (.AE wb 0 S0.D.sz wc)),(15,some (.ptr f 0)),(6,some (.ptr b6 0)),(5,some (AN a)),(4,some av)]) (AJ lq))(G:jm P0 E Q q S0 f a d (cH+1) b6 CT wb wc av al i kk):Good P0 E Q ⟨⟨3,JR.ntmps,AJ lq,.ops [Cv 18 D]:: .inBlock 8:: .code cy:: .inBlock 5:: .code Sj:: .inLoop O1::kk,[],.run,false,none⟩,[],hp h.n h.t []⟩:=by
 refine D0 L ht ?_;obtain⟨BG,he,e1,o⟩:=o;obtain rfl:e=BG:=by injection he;omega
 have bG:A1 av=some [av]/\A8 av=true:=by rcases w.ql.ex with⟨-,rfl⟩|⟨-,a,rfl⟩|⟨b,c,rfl,-⟩<;>exact⟨rfl,rfl⟩
 rcases o with⟨e2,y⟩|⟨rfl,s,u,S1,n,Z,y,sm,pC,JE,hz⟩
 .rcases hD with rfl|rfl|rfl
  all_goals
   refine AK ?_ (c:=Vj (wc:=wc) L y ha (g.bs w.bw w.cw) ((g.CA _ w.bw.ET).trans w.cw) hl);rintro _ h2 ⟨BN,rfl,g2,y2⟩;refine wk ?_;refine G BN h2 _ ((w.fw g y).fw g2 ?_) ?_;.obtain⟨s,u,n,Z,gs,y3,m1,m2⟩:=y2;exact⟨s,u,n,Z,gs,y3,om,m2⟩
   .exact BA
 .rcases hD with rfl|rfl|rfl
  all_goals
   refine AK ?_ (c:=Acu (nn:=cH) L y sm ⟨pC,JE,hn⟩ hz);rintro _ h2 ⟨BN,g2,rfl,y2⟩;refine AK ?_ (c:=Vg L);rintro _ rfl;refine wk ?_;have g2:=Fw.trans g g2;refine AK ?_ (c:=Vj (wc:=wc) L y2 ha (g2.bs w.bw w.cw) ((g2.CA _ w.bw.ET).trans w.cw) hl);rintro _ h3 ⟨KT,rfl,g3,y3⟩;refine wk ?_;refine G KT h3 _ ((w.fw g2 y2).fw g3 y3) ?_;exact BA
end
def Tn:CC->List CI
 | .ops l=>l
 |_=>[]
section
variable {a sz:Nat}{d:List Nat}{al:List FA}{x:FA}{kk:DO}
include L
theorem Acv(w:QF q S0 f a d nn b6 CT wb av al AD h)(qx:OI AD h x.sv x.ls)(ok:x.ls.length<=6/\0<=x.sh/\x.sh<=60)(SL:x.sa<256)(gS:(a:Int)∉x.ls)(hn:nn<=230)(hi:i<1000)(ha:a<S0.S)(hl:d.length=S0.D.sz)(DE:12<=S0.D.sz/\S0.D.sz<=50)(ht:FY (AJ [(181,some (.agg (IV x))),(180,some (AN S0.D.sz)),(178,some (.ptr f 0)),(19,some (AN i)),(17,some (.AE wb 0 S0.D.sz wc)),(15,some (.ptr f 0)),(6,some (.ptr b6 0)),(5,some (AN a)),(4,some av)]) (AJ lq))(G:jm P0 E Q q S0 f a d (nn+1+1) b6 CT wb wc av al i kk):Good P0 E Q ⟨⟨3,JR.ntmps,AJ lq,.ops [Cc 182 13 [.t 180,.t 181],Cc 183 12 [.t 178,.t 182],Cv 18 183]:: .inBlock 8:: .code cy:: .inBlock 5:: .code Sj:: .inLoop O1::kk,[],.run,false,none⟩,[],hp h.n h.t []⟩:=by
 refine D0 L ht ?_;have bG:A1 av=some [av]/\A8 av=true:=by rcases w.ql.ex with⟨-,rfl⟩|⟨-,a,rfl⟩|⟨b,c,rfl,-⟩<;>exact⟨rfl,rfl⟩
 obtain⟨m,hm⟩:∃m:Nat,max 0 ((S0.D.sz:Int)- x.sh)=(m:Int):=⟨(max 0 ((S0.D.sz:Int)- x.sh)).toNat,om⟩;refine AK ?_ (c:=aa8 L qx DE ok.1 ok.2 SL hm);rintro v h2 ⟨k2,hv⟩;have w2:=w.k0 k2;have hc:=λ{hh:H}=>ans (h:=h2) L w2.hd om ok.1 (m:=m) om hv gS;rcases hv with⟨-,rfl⟩|⟨AY,BH,⟨gb,rfl,-⟩,-⟩
 all_goals
  refine AK ?_ (c:=hc (hh:=h));rintro v h3 ⟨KT,g3,e,rfl,o⟩;refine Xl L (D:=183) w2 g3 ⟨e,rfl,o⟩ om hi ha hl DE.2 om ?_ G;exact BA
end
variable {W:World}{al bl:List FA}{OL k n0 o:Nat}{bv fv:AV}{cs:List Value}{fl:List Int}{held:Bool}{kk:DO}{t:TypeId}{v:Value}
theorem zF(h:p:=by
 rintro v h3 ⟨KT,g3,e,rfl,o⟩
 refine Xl L (D:=218) w g3 ⟨e,rfl,o⟩ om hi ha.1 hl DE.2 om ?_ G
 exact BA):p:=h
section
variable {a:Nat}{d:List Nat}{x:FA}
include L
theorem Ag7(w:QF q S0 f a d nn b6 (C2 nb P S0.D.sz en) wb av al AD h)(kx:Bk h OL (IV x))(qx:OI AD h x.sv x.ls)(ok:x.ls.length<=6/\0<=x.sh/\x.sh<=60)(SL:x.sa<256)(UO: -9223372036854775808<=x.se)(gS:(a:Int)∉x.ls)(hn:nn<=230)(hi:i<1000)(ha:a<S0.S/\a<100)(hl:d.length=S0.D.sz)(DE:12<=S0.D.sz/\S0.D.sz<=50)(ht:FY (AJ [(186,some (AI x.w)),(20,some (.ptr OL 0)),(19,some (AN i)),(17,some (.AE wb 0 S0.D.sz wc)),(15,some (.ptr f 0)),(6,some (.ptr b6 0)),(5,some (AN a)),(4,some av)]) (AJ lq))(G:jm P0 E Q q S0 f a d (nn+1+1) b6 (C2 nb P S0.D.sz en) wb wc av al i kk):Good P0 E Q ⟨⟨3,JR.ntmps,AJ lq,.ops ((Tn xE).drop 2):: .code Aor:: .inBlock 8:: .code cy:: .inBlock 5:: .code Sj:: .inLoop O1::kk,[],.run,false,none⟩,[],hp h.n h.t []⟩:=by
 refine D0 L ht ?_;dsimp only[Tn,xE,List.drop];have bG:A1 av=some [av]/\A8 av=true:=by rcases w.ql.ex with⟨-,rfl⟩|⟨-,a,rfl⟩|⟨b,c,rfl,-⟩<;>exact⟨rfl,rfl⟩
 have k6:=w.k6;have OQ:=kx;obtain⟨yw,yv,ye,yn,ya,yh,yf,yb,ys⟩:=x;dsimp only[IV]at OQ qx ok SL gS UO ⊢;have hw:=λ{mW:CJ}=>Acv (lq:=mW) (wc:=wc) (kk:=kk) (Q:=Q) (x:=⟨yw,yv,ye,yn,ya,yh,yf,yb,ys⟩) L w qx ok SL gS hn hi ha.1 hl DE;have pK:=λ(hc:(a:Int)<ye\/0<=yn/\ye+yn<=(a:Int))=>Acs (i0:=ye) (i1:=yn) L w.hd om hc;have hf:=anr L w.hd om;have cs:(yw=6/\((a:Int)<ye\/ye<=(a:Int)/\(yn<0\/0<=yn/\(1000<yn\/yn<=1000/\(ye+yn<=(a:Int)\/(a:Int)<ye+yn)))))\/yw=7\/yw≠6/\yw≠7:=om
 rcases cs with⟨rfl,c|⟨c,c1|⟨c1,c2|⟨c2,c3|c3⟩⟩⟩⟩|rfl|⟨c,c1⟩;.refine AK ?_ (c:=pK (.inl c));exact zF
 .refine wk ?_;refine hw ?_ G;exact BA
 .refine wk ?_;refine hw ?_ G;exact BA
 .refine AK ?_ (c:=pK (.inr ⟨c1,c3⟩));exact zF
 .refine wk ?_;refine hw ?_ G;exact BA
 .refine AK ?_ (c:=hf);rintro v h3 ⟨KT,g3,e,rfl,o⟩;refine Xl L (D:=224) w g3 ⟨e,rfl,o⟩ om hi ha.1 hl DE.2 om ?_ G;exact BA
 .refine wk ?_;refine hw ?_ G;exact BA
theorem Al2(lT:¬(-1:Int)∈q.l)(w:QF q S0 f a d nn b6 (C2 nb P S0.D.sz en) wb av al AD h)(kx:Bk h OL (IV x))(cx:AD OL=200)(qx:OI AD h x.sv x.ls)(ok:x.ls.length<=6/\0<=x.sh/\x.sh<=60)(SL:x.sa<256)(UO: -9223372036854775808<=x.se)(gS:(a:Int)∉x.ls)(hn:nn<=230)(hi:i<1000)(ha:a<S0.S/\a<100)(hl:d.length=S0.D.sz)(DE:12<=S0.D.sz/\S0.D.sz<=50)(ht:FY (AJ [(142,some (.ptr f 0)),(20,some (.ptr OL 0)),(19,some (AN i)),(17,some (.AE wb 0 S0.D.sz wc)),(15,some (.ptr f 0)),(6,some (.ptr b6 0)),(5,some (AN a)),(4,some av)]) (AJ lq))(G:jm P0 E Q q S0 f a d (nn+1+1) b6 (C2 nb P S0.D.sz en) wb wc av al i kk):Good P0 E Q ⟨⟨3,JR.ntmps,AJ lq,.ops [Cc 143 17 [.t 142],Cv 22 143]:: .code Akh:: .inBlock 5:: .code Sj:: .inLoop O1::kk,[],.run,false,none⟩,[],hp h.n h.t []⟩:=by
 refine D0 L ht ?_;have bG:A1 av=some [av]/\A8 av=true:=by rcases w.ql.ex with⟨-,rfl⟩|⟨-,a,rfl⟩|⟨b,c,rfl,-⟩<;>exact⟨rfl,rfl⟩
 have k6:=w.k6;have OQ:=kx;have call:=λ{AF:Nat->Nat} {AA:H} {mW:CJ} (AY:QF q S0 f a d nn b6 (C2 nb P S0.D.sz en) wb av al AF AA) (g:Fw AD h AF AA) (kx:Bk AA OL (IV x))=>Ag7 (lq:=mW) (wc:=wc) (kk:=kk) (Q:=Q) (x:=x) L AY kx (qx.fw g) ok SL UO gS hn hi ha hl DE;obtain⟨s,u,n,Z,gs,y,h1,h2,ki,h4⟩:=w.hd;obtain⟨-,fm,bb,cb,sO⟩:=y.y.r.dv;have aE:=sO.dk;have ED:u.S.D.off=false:=y.fi.a.pw.trans y.fi.dn;have rf:Fw AD h AD h:=⟨BD _,λ_ _ _=>rfl,λ_ _=>rfl⟩;obtain⟨yw,yv,ye,yn,ya,yh,yf,yb,ys⟩:=x;dsimp only[IV]at OQ call;refine AK ?_ (c:=Ag6 L y);rintro _ rfl;have cs:yf<0\/0<=yf/\(40<yf\/yf<=40/\(yb<0\/0<=yb/\((S0.D.sz:Int)+64<yb\/yb<=(S0.D.sz:Int)+64))):=om
 rcases cs with c|⟨c,c1|⟨c1,c2⟩⟩;.refine wk ?_;refine call w rf kx ?_ G;exact BA
 .refine wk ?_;refine call w rf kx ?_ G;exact BA
 .refine AK ?_ (c:=Jj L (by exact aE));rintro _ rfl;rw[ED];rcases c2 with c2|⟨c2,c3|c3⟩;.refine wk ?_;refine call w rf kx ?_ G;exact BA
  .refine wk ?_;refine call w rf kx ?_ G;exact BA
  .obtain⟨yf,rfl⟩:∃n:Nat,yf=n:=⟨yf.toNat,om⟩;obtain⟨yb,rfl⟩:∃n:Nat,yb=n:=⟨yb.toNat,om⟩;obtain⟨bk,be,bd,bk1,-⟩:=y.fi.k;have KZ:=bd.dn;have pH:=h2.sz;have aqc:(u.S.D.n:Int)+(yf:Int)=((u.S.D.n+yf:Nat):Int):=om;refine AK ?_ (c:=af1 L (by exact aE));rintro _ rfl;refine AK ?_ (c:=Agt (c:=yf) (b:=yb) L y.y.r.dv ED om om);rintro _ h3 ⟨rfl,r3,k3,cd⟩;have y3:=y.cut lT r3 k3 cd;have g3:Fw AD h AD h3:=k3.fw λx _ e=>by subst e;omega
   have w3:QF q S0 f a d nn b6 (C2 nb P S0.D.sz en) wb av al AD h3:=w.fw g3 ⟨s,_,n,Z,gs,y3,h1,⟨h2.nb,h2.P,h2.sz,h2.en,h2.CZ⟩,ki,h4⟩;have k63:=w3.k6;have adf:=Ao k3 (λe=>by rw[e,cd]at cx;omega) kx;have kx3:=adf;dsimp only[IV]at kx3;refine wk ?_;refine call w3 g3 adf ?_ G;exact BA
end
theorem Bk.at{h:H}{b:Nat}{c BP:List AV}(k1:Bk h b c)(k2:Bk h b BP)(i:Nat):c[i]?=BP[i]?:=by have:=k1.e.symm.trans k2.e;injection this with e;unfold cl at e;injection e with e1 e2 e3;rw[<-G8 c,<-G8 BP,e3]
section
variable {a:Nat}{d:List Nat}{x:FA}
include L
theorem Acw(lT:¬(-1:Int)∈q.l)(w:QF q S0 f a d nn b6 (C2 nb P S0.D.sz en) wb av al AD h)(kx:Bk h OL (IV x))(cx:AD OL=200)(qx:OI AD h x.sv x.ls)(ok:x.ls.length<=6/\0<=x.sh/\x.sh<=60)(SL:x.sa<256)(UO: -9223372036854775808<=x.se)(hn:nn<=230)(hi:i<1000)(ha:a<S0.S/\a<100)(hl:d.length=S0.D.sz)(DE:12<=S0.D.sz/\S0.D.sz<=50)(ht:FY (AJ [(21,some Zi),(20,some (.ptr OL 0)),(19,some (AN i)),(17,some (.AE wb 0 S0.D.sz wc)),(15,some (.ptr f 0)),(6,some (.ptr b6 0)),(5,some (AN a)),(4,some av)]) (AJ lq))(G:jm P0 E Q q S0 f a d (nn+1+1) b6 (C2 nb P S0.D.sz en) wb wc av al i kk):Good P0 E Q ⟨⟨3,JR.ntmps,AJ lq,.code Aoq:: .inBlock 6:: .code Aki:: .inBlock 5:: .code Sj:: .inLoop O1::kk,[],.run,false,none⟩,[],hp h.n h.t []⟩:=by
 have bG:A1 av=some [av]/\A8 av=true:=by rcases w.ql.ex with⟨-,rfl⟩|⟨-,a,rfl⟩|⟨b,c,rfl,-⟩<;>exact⟨rfl,rfl⟩
 have lx:=kx.lt;have qR:=λ{AF:Nat->Nat} {AA:H} {mW:CJ} {Cb:FA} (AY:QF q S0 f a d nn b6 (C2 nb P S0.D.sz en) wb av al AF AA)=>Al2 (OL:=OL) (lq:=mW) (wc:=wc) (kk:=kk) (Q:=Q) (x:=Cb) (AD:=AF) (h:=AA) (i:=i) L lT AY;obtain⟨yw,yv,ye,yn,ya,yh,yf,yb,ys⟩:=x;simp only at qx ok SL UO;rcases qx.ex with⟨rfl,rfl⟩|⟨rfl,o,rfl⟩|⟨b,cap,rfl,hb,cb⟩
 .have OQ:=kx;dsimp only[IV]at OQ;refine D0 L ht ?_;refine Bi L ?_;refine wk ?_;refine qR w kx cx (.mk (.inl ⟨rfl,rfl⟩)) ok SL UO W0 hn hi ha hl DE ?_ G;exact BA
 .have OQ:=kx;dsimp only[IV]at OQ;refine D0 L ht ?_;refine Bi L ?_;refine wk ?_;refine qR w kx cx (.mk (.inr (.inl ⟨rfl,o,rfl⟩))) ok SL UO W0 hn hi ha hl DE ?_ G;exact BA
 .have lb:=hb.lt;refine Bt L (α:=Unit) (T:=λk _=>[(21,some (AN k)),(20,some (.ptr OL 0)),(19,some (AN i)),(17,some (.AE wb 0 S0.D.sz wc)),(15,some (.ptr f 0)),(6,some (.ptr b6 0)),(5,some (AN a)),(4,some av)]) (n:=ys.length) (R:=λk _ hh=>(a:Int)∉ys.take k/\K0 h hh) (i0:=0) () ht ⟨by simp,Kp.refl _⟩ (CN _) ?_ ?_
  .rintro k _ h2 hk ⟨r1,k2⟩ ih;have eL:=Ab k2 kx;have lx2:=eL.lt;have UG:=Ni k2 hb;have hx:ys[k]?=some ys[k]:=DA hk;have hy:(ys.map eI)[k]?=some (eI ys[k]):=pj;have JG:ys.take (k+1)=ys.take k++[ys[k]]:=ph;have w2:=w.k0 k2;generalize ys[k]=z at*;dsimp only[IV]at eL;by_cases e:z=(a:Int)
   .refine wk ?_;refine BO L (Bx rfl JY hy) ?_;refine wk ?_;have kz:Kp (λj=>j=OL) h2 (hp h2.n h2.t [(OL,some (cl [AI yw,.AS,AI ye,AI yn,.int .u8 (ya:Int),AI yh,AI yf,AI yb]))]):=AH;have kn:Bk (hp h2.n h2.t [(OL,some (cl [AI yw,.AS,AI ye,AI yn,.int .u8 (ya:Int),AI yh,AI yf,AI yb]))]) OL (IV ⟨yw,.AS,ye,yn,ya,yh,yf,yb,[]⟩):=AG;have c2:ext AD h.n OL=200:=(Ae lx).trans cx;have w3:QF q S0 f a d nn b6 (C2 nb P S0.D.sz en) wb av al (ext AD h.n) (hp h2.n h2.t [(OL,some (cl [AI yw,.AS,AI ye,AI yn,.int .u8 (ya:Int),AI yh,AI yf,AI yb]))]):=by
     refine w2.fw (kz.fw λx _ e=>by subst e;omega) ?_;obtain⟨s,u,n,Z,gs,y,h1⟩:=w2.hd;have hs:OL≠s:=λe=>by
      have e2:=Bk.at y.y.ks (e ▸ eL) 4
      cases e2
     have fz:Fw (ext AD h.n) h2 (ext AD h.n) (hp h2.n h2.t [(OL,some (cl [AI yw,.AS,AI ye,AI yn,.int .u8 (ya:Int),AI yh,AI yf,AI yb]))]):=kz.fw λx _ e=>by subst e;omega
     exact⟨s,u,n,Z,gs,⟨fz.bk y.kf y.cf,y.cf,y.y.out kz (λb _ e=>by subst e;exact⟨c2,hs⟩) λ_ _=>rfl,y.dn,y.ro,y.ok,y.fi,y.ca.fw fz,y.go,y.mg,y.cc⟩,h1⟩
    have kn':=kn;dsimp only[IV]at kn';refine Bs L ?_;refine wk ?_;refine qR w3 kn c2 (.mk (.inl ⟨rfl,rfl⟩)) ⟨by simp,ok.2⟩ SL UO W0 hn hi ha hl DE ?_ G;exact BA
   .refine wk ?_;refine BO L (Bx rfl JY hy) ?_;refine wk ?_;refine ih () _ _ ⟨?_,by exact AH⟩ BA;rw[JG,GU,EV];exact λhh=>hh.elim r1 λh=>e h.symm
  .rintro _ h2 ⟨r1,k2⟩;have eL:=Ab k2 kx;have lx2:=eL.lt;rw[NA]at r1;have w2:=w.k0 k2;have ajx:=eL;dsimp only[IV]at ajx;refine wk ?_;refine qR w2 eL ((Ae lx).trans cx) (qx.fw ⟨k2.n,λb hb _=>k2.old b hb id,λb hb=>Ae hb⟩) ok SL UO r1 hn hi ha hl DE ?_ G;exact BA
end
structure gA (P:Program)(E:Env)(F:T DY)(K:HK):Prop where
 ct:∀h,Ct P E F K 10 [] h λv AA=>v= .bool true/\AA=h
section
variable {a:Nat}{d:List Nat}{x:FA}
include L
theorem Mq(W:gA P0 E F K)(hD:D=59\/D=71\/D=240){k:DO}:Good P0 E (λfn u=>fn=3/\u= .bool true) ⟨⟨3,JR.ntmps,AJ lq,.ops [Cc D 10 [],Cv 12 D]:: .code .ret::k,[],.run,false,none⟩,[],hp h.n h.t []⟩:=by
 rcases hD with rfl|rfl|rfl
 all_goals
  refine AK ?_ (c:=W.ct _);rintro _ rfl;refine wk ?_;refine Fd L (todo:=[]) ?_;exact Aok L X.f3.1 (Fl rfl) ⟨rfl,rfl⟩
theorem Acx(W:gA P0 E F K)(lT:¬(-1:Int)∈q.l)(w:QF q S0 f a d 60 b6 (C2 nb P S0.D.sz en) wb av al AD h)(VO:uy al)(ha:a<S0.S/\a<100)(hl:d.length=S0.D.sz)(DE:12<=S0.D.sz/\S0.D.sz<=50)(ht:FY (AJ [(19,some Zi),(17,some (.AE wb 0 S0.D.sz wc)),(15,some (.ptr f 0)),(6,some (.ptr b6 0)),(5,some (AN a)),(4,some av)]) (AJ lq)):Good P0 E (λfn u=>fn=3/\u= .bool true) ⟨⟨3,JR.ntmps,AJ lq,[.code Akj,.inBlock 4,.code Akk],[],.run,false,none⟩,[],hp h.n h.t []⟩:=by
 refine Bt L (α:=Unit) (T:=λi _=>[(19,some (AN i)),(17,some (.AE wb 0 S0.D.sz wc)),(15,some (.ptr f 0)),(6,some (.ptr b6 0)),(5,some (AN a)),(4,some av)]) (n:=al.length) (R:=λi _ hh=>∃AF,QF q S0 f a d (60+2*i) b6 (C2 nb P S0.D.sz en) wb av al AF hh) (i0:=0) () ht ⟨AD,w⟩ (CN _) ?_ ?_
 .rintro i _ h1 hi ⟨HD,w1⟩ ih;have hx:al[i]?=some al[i]:=DA hi;have hm:=LC hi;have ES:=VO.2 _ hm;obtain⟨q1,q2,q3⟩:=w1.ql.el _ hm;have DF:=A7 al (Lq al) i _ hx;have h30:=VO.1;generalize al[i]=x at*;have vS:=w1.ql.ex;rcases vS with⟨e,-⟩|⟨e,-⟩|⟨b,c,rfl,uw,clv⟩;.subst e;simp at hx
  .subst e;simp at hx
  refine wk ?_;refine BO L (A0 uw DF rfl) ?_;refine wk ?_;have NJ:Av (IV x)=true:=by obtain⟨yw,yv,ye,yn,ya,yh,yf,yb,ys⟩:=x;dsimp only at q1;rcases q1.ex with⟨-,rfl⟩|⟨-,a,rfl⟩|⟨b,c,rfl,-⟩<;>rfl
  (apply fD L rfl rfl rfl rfl rfl NJ;exact AG;rfl;rfl);refine wk ?_;have kz:K0 h1 (hp (h1.n+1) h1.t [(h1.n,some (cl (IV x))),(h1.n,some (cl [Zi,.AS,Zi,Zi,Zy,Zi,Zi,Zi]))]):=AH;have fz:Fw HD h1 (AX (ext HD h1.n) h1.n 200) (hp (h1.n+1) h1.t [(h1.n,some (cl (IV x))),(h1.n,some (cl [Zi,.AS,Zi,Zi,Zy,Zi,Zi,Zi]))]):=⟨kz.n,λb hb _=>kz.old b hb id,λb hb=>(CB _ _ om).trans (Ae hb)⟩;refine Acw L (nn:=60+2*i) (x:=x) (OL:=h1.n) (wc:=wc) lT (w1.fw fz ?_) uc (Am _ _ _) (q1.fw fz) ES q2 q3 om om ha hl DE ?_ λAF AA AT AY aZ=>ih () AA AT ⟨AF,AY⟩ aZ;.obtain⟨s,u,n,Z,gs,y,m1⟩:=w1.hd;exact⟨s,u,n,Z,gs,y.k0 kz fz.CA,m1⟩
  .exact BA
 .rintro _ h1 ⟨HD,w1⟩;have vS:=w1.ql.ex;rcases vS with⟨e,rfl⟩|⟨e,a,rfl⟩|⟨lvb,lvc,rfl,-,-⟩
  all_goals
   (try(have hz:al.length=0:=by rw[e];rfl));refine wk ?_;exact Mq L W om
end
def Hb(q:ME)(S0:Ap)(f nn:Nat)(AD:Nat->Nat)(h:H):Prop:=∃s u n Z gs,JC q AD h f s u n Z gs/\n+gs.length<=nn/\Sm S0 u.S
section
variable {a:Nat}{x:FA}
theorem b7.hb{n:Nat}{Z:HJ}{all:VE}{v:AV}(hq:(-1:Int)∈q.l)(o:b7 q f s u n Z all k v AF AA):v=Zi/\∃AB EZ,Sm u.S AB/\JC q AF AA f s {u with S:=AB,cv:=EZ} (n+k) (Ep u.S.D.sz Z (all.take k)) (all.drop k):=by
 rcases o with o|⟨-,AB,EZ,j,IT,-,-,y⟩;.exact o
 .exact absurd hq y.fc.nc
theorem anw{gv:AV}(hq:(-1:Int)∈q.l)(y:Hb q S0 f nn AD h)(hn:nn<=240)(hl:x.ls.length<=6)(hm:m<=900)(hv:x.ls=[]/\gv= .AS\/∃w BH,b9 h gv m w BH/\w.map (·.1)=x.ls/\w≠[]):CL L 12 [.ptr f 0,gv] h λv AA=>∃AF e,v=AN e/\Fw AD h AF AA/\Hb q S0 f (nn+1) AF AA:=by
 obtain⟨s,u,n,Z,gs,y,h1,h2⟩:=y;rcases hv with⟨-,rfl⟩|⟨w,BH,ig,hw,BZ⟩;.refine(Vh L y).mono ?_;rintro v AA ⟨AF,BC,rfl,GM⟩;exact⟨AF,2,rfl,BC.fw y.y.sc,s,u,n,Z,gs,GM,om,h2⟩
 .have iF:w.length<=6:=by rw[<-hw,DC]at hl;exact hl
  refine(aa4 L y om ig BZ iF hm).mono ?_;rintro v AA ⟨AF,BC,⟨e0,rfl,GM⟩|⟨e0,o⟩⟩;.exact⟨AF,_,rfl,BC.fw y.y.sc,s,u,n,Z,gs,GM,om,h2⟩
  .obtain⟨rfl,AB,EZ,sm,GM⟩:=o.hb hq;exact⟨AF,0,rfl,BC.fw y.y.sc,s,_,_,_,_,GM,by rw[SW,DX];show _+(_+1- _)<=_;have:=y.cc;omega,h2.trans sm⟩
structure cY (q:ME)(S0:Ap)(f nn:Nat)(b6:Nat)(CT:List AV)(bv av:AV)(bl al:List FA)(AD:Nat->Nat)(h:H):Prop where
 hd:Hb q S0 f nn AD h
 k6:Bk h b6 CT
 c6:AD b6=0
 qb:RX AD h bv bl
 ql:RX AD h av al
theorem cY.fw(w:cY q S0 f nn b6 CT bv av bl al AD h)(g:Fw AD h AF AA)(y:Hb q S0 f cH AF AA):cY q S0 f cH b6 CT bv av bl al AF AA:=⟨y,g.bk w.k6 w.c6,(g.CA _ w.k6.lt).trans w.c6,w.qb.fw g,w.ql.fw g⟩
include L
theorem anx(hq:(-1:Int)∈q.l)(w:cY q S0 f 1 b6 (C2 nb P S0.D.sz en) bv av bl al AD h)(KY:uy bl)(DE:12<=S0.D.sz/\S0.D.sz<=50)(ht:FY (AJ [(16,some Zi),(15,some (.ptr f 0)),(6,some (.ptr b6 0)),(5,some (AN a)),(4,some av),(3,some bv)]) (AJ lq))(G:∀AF AA AT,cY q S0 f 31 b6 (C2 nb P S0.D.sz en) bv av bl al AF AA->FY (AJ [(97,some (.ptr f 0)),(15,some (.ptr f 0)),(6,some (.ptr b6 0)),(5,some (AN a)),(4,some av)]) (AJ AT)->Good P0 E Q ⟨⟨3,JR.ntmps,AJ AT,.ops ((Tn rB).drop 1):: .code xD:: .code vh::kk,[],.run,false,none⟩,[],AA⟩):Good P0 E Q ⟨⟨3,JR.ntmps,AJ lq,.code Aop:: .inBlock 2:: .code Akl::kk,[],.run,false,none⟩,[],hp h.n h.t []⟩:=by
 have bG:A1 av=some [av]/\A8 av=true:=by rcases w.ql.ex with⟨-,rfl⟩|⟨-,a,rfl⟩|⟨b,c,rfl,-⟩<;>exact⟨rfl,rfl⟩
 refine Bt L (α:=Unit) (T:=λi _=>[(16,some (AN i)),(15,some (.ptr f 0)),(6,some (.ptr b6 0)),(5,some (AN a)),(4,some av),(3,some bv)]) (n:=bl.length) (R:=λi _ hh=>∃AF,cY q S0 f (1+i) b6 (C2 nb P S0.D.sz en) bv av bl al AF hh) (i0:=0) () ht ⟨AD,w⟩ (CN _) ?_ ?_
 .rintro i _ h1 hi ⟨HD,w1⟩ ih;have hx:bl[i]?=some bl[i]:=DA hi;have hm:=LC hi;have ES:=KY.2 _ hm;obtain⟨q1,q2,q3⟩:=w1.qb.el _ hm;have DF:=A7 bl (Lq bl) i _ hx;have h30:=KY.1;generalize bl[i]=x at*;obtain⟨m,hm⟩:∃m:Nat,max 0 ((S0.D.sz:Int)- x.sh)=(m:Int):=⟨(max 0 ((S0.D.sz:Int)- x.sh)).toNat,om⟩;have k6:=w1.k6;rcases w1.qb.ex with⟨e,-⟩|⟨e,-⟩|⟨b,c,rfl,uw,clv⟩;.subst e;simp at hx
  .subst e;simp at hx
  refine wk ?_;(apply B4 rfl rfl;exact A0 uw DF rfl);refine AK ?_ (c:=aa8 L q1 DE ES.1 ES.2 q2 hm);rintro v h2 ⟨k2,hv⟩;have g2:Fw HD h1 (ext HD h1.n) h2:=⟨k2.n,λb hb _=>k2.old b hb id,λb hb=>Ae hb⟩;have y2:Hb q S0 f (1+i) (ext HD h1.n) h2:=by obtain⟨s,u,n,Z,gs,y,m1⟩:=w1.hd;exact⟨s,u,n,Z,gs,y.k0 k2 g2.CA,m1⟩
  have hc:=anw L hq y2 om ES.1 (m:=m) om hv;rcases hv with⟨-,rfl⟩|⟨AY,BH,⟨gb,rfl,-⟩,-⟩
  all_goals
   refine AK ?_ (c:=hc);rintro _ h3 ⟨KT,e,rfl,g3,y3⟩;refine wk ?_;exact ih () _ _ ⟨KT,(w1.fw g2 y2).fw g3 y3⟩ BA
 .rintro _ h1 ⟨HD,w1⟩;rcases w1.qb.ex with⟨e,rfl⟩|⟨e,a,rfl⟩|⟨lvb,lvc,rfl,-,-⟩
  all_goals
   (try(have hz:bl.length=0:=by rw[e];rfl));refine wk ?_;refine G HD _ _ (w1.fw ⟨BD _,λ_ _ _=>rfl,λ_ _=>rfl⟩ ?_) ?_;.obtain⟨s,u,n,Z,gs,y,m1,m2⟩:=w1.hd;exact⟨s,u,n,Z,gs,y,by have:=KY.1;omega,m2⟩
   .exact BA
theorem Ac2(W:gA P0 E F K)(hq:q.l= -1::fl)(GR:∀i∈fl,0<=i)(w:cY q S0 f 31 b6 (C2 nb P S0.D.sz en) bv av bl al AD h)(VO:uy al)(ha:a<S0.S/\a<100)(DE:12<=S0.D.sz/\S0.D.sz<=50)(ht:FY (AJ [(97,some (.ptr f 0)),(15,some (.ptr f 0)),(6,some (.ptr b6 0)),(5,some (AN a)),(4,some av)]) (AJ lq)):Good P0 E (λfn u=>fn=3/\u= .bool true) ⟨⟨3,JR.ntmps,AJ lq,.ops ((Tn rB).drop 1):: .code xD:: .code vh::[],[],.run,false,none⟩,[],hp h.n h.t []⟩:=by
 refine D0 L ht ?_;dsimp only[Tn,rB,List.drop];have bG:A1 av=some [av]/\A8 av=true:=by rcases w.ql.ex with⟨-,rfl⟩|⟨-,a,rfl⟩|⟨b,c,rfl,-⟩<;>exact⟨rfl,rfl⟩
 obtain⟨s,u,n,Z,gs,y,h1,h2⟩:=w.hd;have k6:=w.k6;refine AK ?_ (c:=Vi L y om);rintro v VN ⟨BN,a2,o⟩;obtain⟨rfl,AB,EZ,sm,y2⟩:=o.hb (by rw[hq];exact DW ..);rw[List.drop_length]at y2;have PN:=h2.trans sm;have g2:=a2.fw y.y.sc;refine AK ?_ (c:=Vg L);rintro _ rfl;refine AK ?_ (c:=aa7 L y2 (by show a<AB.S;rw[PN.CZ];exact ha.1));rintro _ h3 ⟨KT,b,c,d,rfl,r1,r2,r3,y3,a3⟩;have g3:=Fw.trans g2 (a3.fw y2.y.sc);have k63:=g3.bk k6 w.c6;have hd:d.length=S0.D.sz:=by have e:=y3.fi.z.rd a d r3;rw[<-e,Sy y3.fi.a y3.y.r.dv.ok];exact PN.sz
 have aM:=PN.sz;simp only at r1 ⊢;rw[aM];refine AK ?_ (c:=Vg L);rintro _ rfl;refine wk ?_;refine Acx (q:={q with l:=fl}) (wb:=b) (wc:=c) (d:=d) L W (λh=>by have:=GR _ h;omega) ⟨⟨s,_,_,_,[],y3.low hq GR,?_,PN,r3,λg hg=>(by cases hg)⟩,k63,(g3.CA _ k6.lt).trans w.c6,r1,r2,w.ql.fw g3⟩ VO ha hd DE ?_;.show n+gs.length+0<=60;omega
 .exact BA
end
theorem zH(h:p:=by
 simp only[VB]at c
 refine wk ?_
 refine Bi L ?_
 refine wk ?_
 refine ad5 L (a:=a) (AD:=ext AD h.n) W fit (qf.fw (fwd UP)) (λx hx=>by cases hx) (CN _) (qb.fw (fwd UP)) (qa.fw (fwd UP)) KY VO has qG (B9 (BD _)) ?_
 exact BA):p:=h
theorem zJ(h:p:=by
 rcases qf.ex with⟨rfl,rfl⟩|⟨rfl,_,rfl⟩|⟨_,_,rfl,-⟩
 all_goals
  (try simp only[VB]at c)
  refine wk ?_
  exact Mq L W om):p:=h
include L
theorem ad5{sz a:Nat}(W:gA P0 E F K)(f:cX nb P sz S sp cc mg)(qf:OI AD h fv fl)(GR:∀x∈fl,0<=x)(hlen:fl.length<=sp)(qb:RX AD h bv bl)(qa:RX AD h av al)(KY:uy bl)(VO:uy al)(ha:a<S)(kg:Bk h b6 (C2 nb P sz 1048576))(c6:AD b6=0)(ht:FY (AJ [(74,some (.agg (C2 S sp cc mg))),(73,some fv),(72,some (.agg (C2 nb P sz 1048576))),(6,some (.ptr b6 0)),(5,some (AN a)),(4,some av),(3,some bv)]) (AJ lq)):Good P0 E (λfn u=>fn=3/\u= .bool true) ⟨⟨3,JR.ntmps,AJ lq,.ops ((Tn xC).drop 3):: .code Akm::[],[],.run,false,none⟩,[],hp h.n h.t []⟩:=by
 refine D0 L ht ?_;dsimp only[Tn,xC,List.drop];have a3:=f.DE;have a4:=f.hS;have bG:A1 av=some [av]/\A8 av=true:=by rcases qa.ex with⟨-,rfl⟩|⟨-,a,rfl⟩|⟨b,c,rfl,-⟩<;>exact⟨rfl,rfl⟩
 have bvp:A1 bv=some [bv]/\A8 bv=true:=by rcases qb.ex with⟨-,rfl⟩|⟨-,a,rfl⟩|⟨b,c,rfl,-⟩<;>exact⟨rfl,rfl⟩
 refine AK ?_ (c:=Ac1 (en:=1048576) L f om qf GR hlen);rintro _ h2 ⟨pb,fb,s,BN,u,rest,rfl,kp,y,sm,k2,c2⟩;have g2:Fw AD h BN h2:=⟨k2.n,λb hb _=>k2.old b hb id,c2⟩;refine wk ?_;refine anx (q:=rT nb P sz S sp cc mg (-1::fl)) (S0:=Ap.IJ (Dv.new nb P sz 1048576 (O2 fl)) S (λ_=>none) 1 0 [] []) (b6:=b6) (nb:=nb) (P:=P) (en:=1048576) (av:=av) (bv:=bv) (al:=al) (bl:=bl) (a:=a) L (DW ..) ⟨⟨s,u,1,_,[],y,BD _,sm⟩,g2.bk kg c6,(g2.CA _ kg.lt).trans c6,qb.fw g2,qa.fw g2⟩ KY a3 ?_ λAF AA AT AY aZ=>Ac2 L W rfl GR AY VO ⟨ha,om⟩ a3 aZ;exact BA
theorem Aha{g3 a:Int}(W:gA P0 E F K)(qf:OI AD h fv fl)(qb:RX AD h bv bl)(qa:RX AD h av al):Good P0 E (λfn u=>fn=3/\u= .bool true) ⟨⟨3,JR.ntmps,AJ [(5,some (AI a)),(4,some av),(3,some bv),(2,some fv),(1,some (.agg (Lx c0 c1 c2 c3))),(0,some (.agg (Lx g0 g1 g2 g3)))],[.code JR.body],[],.run,false,none⟩,[],hp h.n h.t []⟩:=by
 have fvp:A1 fv=some [fv]/\A8 fv=true:=by rcases qf.ex with⟨-,rfl⟩|⟨-,a,rfl⟩|⟨b,c,rfl,-⟩<;>exact⟨rfl,rfl⟩
 have bG:A1 av=some [av]/\A8 av=true:=by rcases qa.ex with⟨-,rfl⟩|⟨-,a,rfl⟩|⟨b,c,rfl,-⟩<;>exact⟨rfl,rfl⟩
 have bvp:A1 bv=some [bv]/\A8 bv=true:=by rcases qb.ex with⟨-,rfl⟩|⟨-,a,rfl⟩|⟨b,c,rfl,-⟩<;>exact⟨rfl,rfl⟩
 have fwd:∀{h1:H},K0 h h1->Fw AD h (ext AD h.n) h1:=λk=>⟨k.n,λb hb _=>k.old b hb id,λb hb=>Ae hb⟩;refine wk ?_;have k1:K0 h (hp (h.n+1+1) h.t [(h.n,some (cl (Lx g0 g1 g2 1048576))),(h.n+1,some (cl (Lx c0 c1 c2 c3))),(h.n,some (cl (Lx g0 g1 g2 g3)))]):=AH;refine AK ?_ (c:=aa9 L (qb.fw (fwd k1)));rintro _ h2 ⟨b,rfl,hb,k2⟩;have XI:K0 h h2:=Kp.EA k2 k1;have uu:Bk h2 h.n (Lx g0 g1 g2 ((1048576:Nat):Int)):=Ab k2 uc;have XK:Bk h2 (h.n+1) (Lx c0 c1 c2 c3):=Ab k2 uc
 cases b with
 |false=>refine wk ?_;exact Mq L W om
 |true=>?_
 obtain⟨⟨s0,s1,s2,s3,s4⟩,KY⟩:=hb rfl;refine AK ?_ (c:=aa9 L (qa.fw (fwd XI)));rintro _ h3 ⟨b,rfl,hb,k3⟩;have aO:K0 h h3:=Kp.EA k3 XI;have uv:=Ab k3 uu;have qF:=Ab k3 XK
 cases b with
 |false=>refine wk ?_;exact Mq L W om
 |true=>?_
 obtain⟨-,VO⟩:=hb rfl;refine AK ?_ (c:=Acy (g0:=g0) (g1:=g1) (g2:=g2) (c0:=c0) (c1:=c1) (c2:=c2) (c3:=c3) (en:=1048576) L s0 s1 s2 om s3 s4);rintro _ h4 ⟨b,rfl,hb,k4⟩;have UP:K0 h h4:=Kp.EA k4 aO;have qG:=Ab k4 uv;have kc4:=Ab k4 qF
 cases b with
 |false=>refine wk ?_;exact Mq L W om
 |true=>?_
 obtain⟨nb,P,sz,S,sp,cc,mg,rfl,rfl,rfl,rfl,rfl,rfl,rfl,fit⟩:=hb rfl;have a4:=fit.hS;have cs:(sp:Int)<(fl.length:Int)\/fl.length<=sp/\(a<0\/0<=a/\((S:Int)<=a\/a<(S:Int))):=om
 rcases cs with c|⟨c,c1|⟨c1,c2|c2⟩⟩
 .rcases qf.ex with⟨rfl,rfl⟩|⟨rfl,_,rfl⟩|⟨_,_,rfl,-⟩
  all_goals
   (try simp only[VB]at c)
   first
    |(exfalso;omega;done)
    |(
           refine wk ?_
           exact Mq L W om)
 .exact zJ
 .exact zJ
 obtain⟨a,rfl⟩:∃n:Nat,a=n:=⟨a.toNat,om⟩;have has:a<S:=om
 have apz:fl.length<=44:=by have:=fit.fit;have:=fit.FT;omega
 rcases qf.ex with⟨rfl,rfl⟩|⟨rfl,o,rfl⟩|⟨fb,fc,rfl,hk,hc⟩;.exact zH
 .exact zH
 .have lb:=hk.lt;refine wk ?_;refine Bt L (α:=Unit) (T:=λi _=>[(13,some (AN i)),(7,some (.ptr (h.n+1) 0)),(6,some (.ptr h.n 0)),(5,some (AN a)),(4,some av),(3,some bv),(2,some (.AE fb 0 fl.length fc))]) (n:=fl.length) (R:=λi _ hh=>(∀x∈fl.take i,0<=x)/\K0 h4 hh) (i0:=0) () BA ⟨by simp,AH⟩ (CN _) ?_ ?_
  .rintro i _ h5 hi ⟨r1,k5⟩ ih;have oZ:=Ni k5 (Ni UP hk);have hx:fl[i]?=some fl[i]:=DA hi;have hy:(fl.map eI)[i]?=some (eI fl[i]):=pj;have JG:fl.take (i+1)=fl.take i++[fl[i]]:=ph;generalize fl[i]=z at*;by_cases hz:z<0;.refine wk ?_;refine BO L (Bx rfl JY hy) ?_;refine wk ?_;exact Mq L W om
   .refine wk ?_;refine BO L (Bx rfl JY hy) ?_;refine wk ?_;have key:∀x∈fl.take (i+1),0<=x:=λx hx=>by rw[JG,GU,EV]at hx;exact hx.elim (r1 x) λe=>om
    exact ih () _ _ ⟨key,by exact AH⟩ BA
  .rintro _ h5 ⟨r1,k5⟩;rw[NA]at r1;have uU:=Kp.EA k5 UP;have kg5:=Ab k5 qG;have kc5:=Ab k5 kc4;refine wk ?_;refine ad5 L (a:=a) (AD:=ext AD h.n) W fit (qf.fw (fwd uU)) r1 c (qb.fw (fwd uU)) (qa.fw (fwd uU)) KY VO has kg5 (B9 (BD _)) ?_;exact BA
open Go.ChangeShapes
noncomputable def eU{α:Type}:Nat->List α->T α
 |_,[]=> .leaf
 |i,x::r=>T.set (eU (i+1) r) i (some x)
omit L
theorem aea{α:Type}:∀(l:List α) (i j:Nat),T.get (eU i l) j=if i<=j then l[j- i]? else none
 | [],i,j=>by simp only[eU,T.VM];split<;>simp
 |x::r,i,j=>by
  simp only[eU,T.MH,aea r];by_cases h1:j=i;.subst h1;simp
  .rw[AM h1];by_cases h2:i+1<=j;.rw[AP h2,AP om,show j- i=(j- (i+1))+1 from om,fJ]
   .rw[AM h2,AM om]
theorem Axr{α:Type}(l:List α)(j:Nat):T.get (eU 0 l) j=l[j]?:=by rw[aea,AP (CN _),WK]
section
variable {a:Addr}{cap:Nat}
theorem anz(h:W.cell? a=some v):a.spot=none/\∃cs e fr,W.heap[a.block]?=some (.cells cs e fr)/\cs[a.off]?=some v:=by
 unfold World.cell? at h;split at h
 .rename_i cs e fr hb
  cases hs:a.spot with
  |none=>rw[hs]at h;exact⟨rfl,cs,e,fr,hb,h⟩
  |some _=>rw[hs]at h;cases h
 .cases h
theorem Al7{n:Nat}(h:a.spot=none):a.add n=⟨a.block,a.off+n,none⟩:=by
 unfold Addr.add;obtain⟨b,o,s⟩:=a;split;.rename_i h0;subst h0;simp only at h;subst h;rfl
 .rfl
theorem aar(hk:0<k)(PC:0<cap){f:Nat->List Value}(h:∀i,i<cap->W.cells? 0 (a.add (i*k)) k=some (f i)):∃cs e fr,a.spot=none/\W.heap[a.block]?=some (.cells cs e fr)/\a.off+cap*k<=cs.size/\∀i j,i<cap->j<k->cs[a.off+(i*k+j)]?=(f i)[j]?:=by
 have h0:=World.cells?_some (h 0 PC);have c0:=h0.2.2 0 hk;have dg:=h0.2.1;rw[DA om]at c0;have e0:(a.add (0*k)).add 0=a:=by rw[jY];rfl
 rw[e0]at c0;obtain⟨hs,cs,e,fr,hb,-⟩:=anz c0;have key:∀i j,i<cap->j<k->cs[a.off+(i*k+j)]?=(f i)[j]?:=by intro i j hi hj;have h1:=(World.cells?_some (h i hi)).2.2 j hj;rw[Al7 hs,Ds,K4 hb]at h1;rw[<-h1,fU]
 refine⟨cs,e,fr,hs,hb,?_,key⟩;have h1:=key (cap- 1) (k- 1) om om;have h2:=(World.cells?_some (h (cap- 1) om)).2.1;rw[DA om]at h1;have h3:=(fY.1 h1).1;have h4:cap*k=(cap- 1)*k+k:=by
  have:(cap- 1+1)*k=(cap- 1)*k+k:=by rw[TX,jZ]
  rwa[show cap- 1+1=cap from om]at this
 omega
end
section
variable {H:Type}{enc:TypeId×Value->H}{P:Program}{e:TypeId}{fuel:Nat}
theorem To(ht:P.underlying t=some (.slice e)){y:DataW H×List MemPlace}(h:DataW.trod enc P W 0 (λ_=>true) held fuel t [v]=some y):v= .slice none 0 0\/∃a len cap n,v= .slice (some a) len cap/\len<=cap/\∀i,i<cap->∃c z,W.cells? 0 (a.add (i*P.cellsOf e)) (P.cellsOf e)=some c/\DataW.trod enc P W 0 (λ_=>true) held n e c=some z:=by
 rcases DataW.trod_slice ht h with⟨h1,-⟩|⟨a,len,cap,elems,rest,n,-,h1,-,-,hle,-,hlen,MI,bf,-⟩;.left;simpa using h1
 .right;refine⟨a,len,cap,n,by simpa using h1,hle,λi hi=>?_⟩;obtain⟨MV,lU⟩:=bf rfl;have:∃z,(W.cells? 0 (a.add (i*P.cellsOf e)) (P.cellsOf e)).bind (DataW.trod enc P W 0 (λ_=>true) held n e)=some z:=by
   by_cases YO:i<len;.rw[MI i YO];exact⟨_,DA om⟩
   .have:=lU (i- len) om;rw[show len+(i- len)=i from om]at this;rw[this];exact⟨_,DA om⟩
  obtain⟨z,hz⟩:=this;rw[Option.bind_eq_some_iff]at hz;obtain⟨c,h2,h3⟩:=hz;exact⟨c,z,h2,h3⟩
theorem Hi{k:IntKind}{z:DataW H×List MemPlace}{sp:Nat->Bool}(ht:P.underlying t=some (.int k))(hc:P.cellsOf t=1)(h:DataW.trod enc P W 0 sp held fuel t ((cs.drop o).take (P.cellsOf t))=some z):∃n,cs[o]?=some (.int k n)/\(Lit.int k n).wf=true:=by rw[hc]at h;obtain⟨n,h1,-,h2⟩:=DataW.trod_int ht h;exact⟨n,(by have:=HT (λl=>l[0]?) h1;simpa[List.getElem?_take,MN]using this),h2⟩
theorem Al8{k:IntKind}{n:Int}(hs:k.signed=false)(h:(Lit.int k n).wf=true):∃m:Nat,n=m/\m<pw k:=by
 simp only[Lit.wf,KQ,LP]at h
 cases k<;>first|(cases hs;done)|(simp only[IntKind.min,IntKind.max,IntKind.signed,IntKind.bits]at h;exact⟨n.toNat,by simp at h;omega,by simp[pw]at h ⊢;omega⟩)
end
structure jx (P:Program):Prop where
 u3:P.underlying 3=some (.int .i64)
 c3:P.cellsOf 3=1
 u5:P.underlying 5=some (.int .u8)
 c5:P.cellsOf 5=1
 u26:P.underlying 26=some (.slice 3)
 c26:P.cellsOf 26=1
 u27:P.underlying 27=some (.slice 47)
 u47:∃fs,P.underlying 47=some (.struct fs)/\fs.map (λf=>(f.type,f.offset))= #[(3,0),(26,1),(3,2),(3,3),(5,4),(3,5),(3,6),(3,7)]
 sA:P.cellsOf 47=8
theorem fld{fs:Array Field}{A:Array (TypeId×Nat)}(h:fs.map (λf=>(f.type,f.offset))=A)(hi:A[i]?=some (t,o)):∃f,fs[i]?=some f/\f.type=t/\f.offset=o:=by
 subst h;rw[Array.getElem?_map,Xs]at hi;obtain⟨f,h1,h2⟩:=hi
 cases h2;exact⟨f,h1,rfl,rfl⟩
section
variable {H:Type}{enc:TypeId×Value->H}{P:Program}
theorem wF{x:DataW H×List MemPlace}{A:Array (TypeId×Nat)}{sp:Nat->Bool}(hu:∃fs,P.underlying t=some (.struct fs)/\fs.map (λf=>(f.type,f.offset))=A)(h:DataW.trod enc P W 0 sp held n0 t cs=some x):cs.length=P.cellsOf t/\∃n,∀(i:Nat) (aZ:TypeId) (o:Nat),A[i]?=some (aZ,o)->∃z,DataW.trod enc P W 0 sp held n aZ ((cs.drop o).take (P.cellsOf aZ))=some z:=by obtain⟨fs,h1,h2⟩:=hu;obtain⟨xs,n,-,-,hl,hlen,hf⟩:=DataW.trod_struct h1 h;refine⟨hl,n,λi aZ o hi=>?_⟩;obtain⟨f,h3,h4,h5⟩:=fld h2 hi;have h6:=hf i f h3;have h7:=(fY.1 h3).1;rw[h4,h5]at h6;rw[h6];exact⟨_,DA om⟩
theorem zg{α:Type}{n:Nat}(hn:0<n){R:Nat->α->Prop}(h:∀i,i<n->∃y,R i y):∃f:Nat->α,∀i,i<n->R i (f i):=by
 have:∀i,∃y,i<n->R i y:=λi=>by
  by_cases hi:i<n;.obtain⟨y,hy⟩:=h i hi;exact⟨y,λ_=>hy⟩
  .obtain⟨y,-⟩:=h 0 hn;exact⟨y,λq=>absurd q hi⟩
 exact Classical.axiomOfChoice this
theorem Vk{α:Type}(f:Nat->α)(n i:Nat)(x:α)(h:((List.range n).map f)[i]?=some x):i<n/\x=f i:=by rw[GD,Xs]at h;obtain⟨j,h1,h2⟩:=h;obtain⟨h3,h4⟩:=FE.1 h1;rw[ZY]at h3;rw[List.getElem_range]at h4;subst h4;exact⟨h3,h2.symm⟩
theorem Ahb(l:List AV)(i:Nat):T.get (JI 0 (.leaf:T AV) l) i=l[i]?:=G8 l i
def jt(W:World)(v:Value)(x:List Int×Option Loc):Prop:=
 match x.2 with
 |none=>x.1=[]/\(v= .slice none 0 0\/∃a,v= .slice (some a) 0 0)
 |some l=>∃cap cs e fr,v= .slice (some ⟨l.cb,l.base,none⟩) x.1.length cap/\x.1.length<=cap/\l.base+cap*1<=l.RF/\W.heap[l.cb]?=some (.cells cs e fr)/\cs.size=l.RF/\∀i y,x.1[i]?=some y->cs[l.base+i]?=some (.int .i64 y)
theorem Vl(T:jx P){y:DataW H×List MemPlace}(h:DataW.trod enc P W 0 (λ_=>true) held n0 26 [v]=some y):∃x,jt W v x:=by
 rcases To T.u26 h with rfl|⟨a,len,cap,n,rfl,hle,hc⟩;.exact⟨([],none),rfl,.inl rfl⟩
 .by_cases PC:cap=0
  .subst PC;obtain rfl:len=0:=om
   exact⟨([],none),rfl,.inr ⟨a,rfl⟩⟩
  .rw[T.c3]at hc;have VQ:∀i,i<cap->∃e:Int,W.cells? 0 (a.add (i*1)) 1=some [.int .i64 e]:=λi hi=>by obtain⟨c,z,h1,h2⟩:=hc i hi;obtain⟨e,h3,-⟩:=DataW.trod_int T.u3 h2;exact⟨e,by rw[h1,h3]⟩
   obtain⟨f,hf⟩:=zg (fL PC) VQ;obtain⟨cs,e,fr,hs,hb,DE,hk⟩:=aar (k:=1) (f:=λi=>[.int .i64 (f i)]) om (fL PC) hf;obtain⟨ab,ao,amn⟩:=a;simp only at hs hb DE hk;subst hs;have hlen:((List.range len).map f).length=len:=W0;refine⟨((List.range len).map f,some ⟨ab,ao,cs.size⟩),cap,cs,e,fr,?_,?_,DE,hb,rfl,λi y hi=>?_⟩;.show _=Value.slice (some ⟨ab,ao,none⟩) ((List.range len).map f).length cap;rw[hlen]
   .show((List.range len).map f).length<=cap;rw[hlen];exact hle
   .obtain⟨h1,rfl⟩:=Vk f len i y hi;have:=hk i 0 om om;rw[RW,TV]at this;exact this
structure WR where
 w:Int
 v:Value
 se:Int
 n:Int
 sa:Nat
 sh:Int
 af:Int
 bt:Int
 x:List Int×Option Loc
def jz(y:WR):List Value:=[.int .i64 y.w,y.v,.int .i64 y.se,.int .i64 y.n,.int .u8 (y.sa:Int),.int .i64 y.sh,.int .i64 y.af,.int .i64 y.bt]
def rG(W:World)(y:WR):Prop:=jt W y.v y.x/\y.sa<256/\ -9223372036854775808<=y.se
def AO(W:World)(v:Value)(x:List WR×Option Loc):Prop:=
 (∀y∈x.1,rG W y)/\match x.2 with
 |none=>x.1=[]/\(v= .slice none 0 0\/∃a,v= .slice (some a) 0 0)
 |some l=>∃cap cs e fr,v= .slice (some ⟨l.cb,l.base,none⟩) x.1.length cap/\x.1.length<=cap/\l.base+cap*8<=l.RF/\W.heap[l.cb]?=some (.cells cs e fr)/\cs.size=l.RF/\∀i y,x.1[i]?=some y->∀j,j<8->cs[l.base+(i*8+j)]?=(jz y)[j]?
theorem Ac4(T:jx P){x:DataW H×List MemPlace}(h:DataW.trod enc P W 0 (λ_=>true) held n0 47 cs=some x):∃y:WR,cs=jz y/\rG W y:=by
 obtain⟨hl,n,hf⟩:=wF T.u47 h;rw[T.sA]at hl;obtain⟨z0,h0⟩:=hf 0 3 0 rfl;obtain⟨z1,h1⟩:=hf 1 26 1 rfl;obtain⟨z2,h2⟩:=hf 2 3 2 rfl;obtain⟨z3,h3⟩:=hf 3 3 3 rfl;obtain⟨z4,h4⟩:=hf 4 5 4 rfl;obtain⟨z5,h5⟩:=hf 5 3 5 rfl;obtain⟨aq2,h6⟩:=hf 6 3 6 rfl;obtain⟨aq3,h7⟩:=hf 7 3 7 rfl;obtain⟨a0,e0,-⟩:=Hi T.u3 T.c3 h0;obtain⟨a2,e2,w2⟩:=Hi T.u3 T.c3 h2;obtain⟨a3,e3,-⟩:=Hi T.u3 T.c3 h3;obtain⟨a4,e4,w4⟩:=Hi T.u5 T.c5 h4;obtain⟨a5,e5,-⟩:=Hi T.u3 T.c3 h5;obtain⟨a6,e6,-⟩:=Hi T.u3 T.c3 h6;obtain⟨a7,e7,-⟩:=Hi T.u3 T.c3 h7;obtain⟨m4,rfl,h9⟩:=Al8 rfl w4;rw[T.c26]at h1;have e1:(cs.drop 1).take 1=[cs[1]]:=by rw[ST (show 1<cs.length from om)];rfl
 rw[e1]at h1;obtain⟨x,hx⟩:=Vl T h1;have h8: -9223372036854775808<=a2:=by simp only[Lit.wf,KQ,LP]at w2;exact w2.1
 refine⟨⟨a0,cs[1],a2,a3,m4,a5,a6,a7,x⟩,QT λi=>?_,hx,h9,h8⟩;rcases i with _|_|_|_|_|_|_|_|i;.exact e0
 .exact DA om
 .exact e2
 .exact e3
 .exact e4
 .exact e5
 .exact e6
 .exact e7
 .rw[OW om];rfl
theorem Vm(T:jx P){y:DataW H×List MemPlace}(h:DataW.trod enc P W 0 (λ_=>true) held n0 27 [v]=some y):∃x,AO W v x:=by
 rcases To T.u27 h with rfl|⟨a,len,cap,n,rfl,hle,hc⟩;.exact⟨([],none),(λy hy=>by cases hy),rfl,.inl rfl⟩
 .by_cases PC:cap=0
  .subst PC;obtain rfl:len=0:=om
   exact⟨([],none),(λy hy=>by cases hy),rfl,.inr ⟨a,rfl⟩⟩
  .rw[T.sA]at hc;have VQ:∀i,i<cap->∃y:WR,W.cells? 0 (a.add (i*8)) 8=some (jz y)/\rG W y:=λi hi=>by obtain⟨c,z,h1,h2⟩:=hc i hi;obtain⟨y,rfl,h3⟩:=Ac4 T h2;exact⟨y,h1,h3⟩
   obtain⟨f,hf⟩:=zg (fL PC) VQ;obtain⟨cs,e,fr,hs,hb,DE,hk⟩:=aar (k:=8) (f:=λi=>jz (f i)) om (fL PC) λi hi=>(hf i hi).1;obtain⟨ab,ao,amn⟩:=a;simp only at hs hb DE hk;subst hs;have hlen:((List.range len).map f).length=len:=W0;refine⟨((List.range len).map f,some ⟨ab,ao,cs.size⟩),(λy hy=>?_),cap,cs,e,fr,?_,?_,DE,hb,rfl,λi y hi j hj=>?_⟩;.obtain⟨i,h1,rfl⟩:=DK.1 hy;have:=KI.1 h1;exact(hf i om).2
   .show _=Value.slice (some ⟨ab,ao,none⟩) ((List.range len).map f).length cap;rw[hlen]
   .show((List.range len).map f).length<=cap;rw[hlen];exact hle
   .obtain⟨h1,rfl⟩:=Vk f len i y hi;exact hk i j om hj
end
variable {b:Nat}{rows:List (Option Loc×List AV)}{AC:BF}
def Fs(rows:List (Option Loc×List AV)):BF:=λb=>(rows[b]?).bind (·.1)
noncomputable def Tp(rows:List (Option Loc×List AV)):H:=⟨rows.length,eU 0 (rows.map λr=>L7 r.2)⟩
theorem Tq:H.get (Tp rows) b=(rows[b]?).map λr=>L7 r.2:=by show T.get (eU 0 (rows.map λr=>L7 r.2)) b=_;rw[Axr,GD]
theorem aeb{o:Option Loc}{c:List AV}(h:rows[b]?=some (o,c)):Rk (Tp rows) b c:=⟨⟨true,by rw[Tq,h];rfl⟩,(FE.1 h).1⟩
section
variable {P:Program}
theorem Ahc(hb:∀(b:Nat) (l:Loc) (c:List AV),rows[b]?=some (some l,c)->∃o,W.heap[l.cb]?=some o/\BR E (Fs rows) l (L7 c) o):HR E W.heap (Fs rows) (Tp rows) W.heap:=by
 have key:∀b l,Fs rows b=some l->∃c,rows[b]?=some (some l,c):=by intro b l h;unfold Fs at h;rw[Option.bind_eq_some_iff]at h;obtain⟨⟨o,c⟩,h1,h2⟩:=h;simp only at h2;subst h2;exact⟨c,h1⟩
 have ro:∀b x,H.get (Tp rows) b=some x->XP x=true:=by intro b x h;rw[Tq,Xs]at h;obtain⟨r,-,rfl⟩:=h;rfl
 refine⟨λb l h=>?_,λb l h=>?_,λb l x h hx=>?_,λb AR l AT x Cb _ _ hx _ hr _=>?_,λb l x _ hx hr=>?_,λ_ _=>rfl,BD _⟩;.obtain⟨c,h1⟩:=key b l h;exact(FE.1 h1).1
 .obtain⟨c,h1⟩:=key b l h;obtain⟨o,h2,-⟩:=hb b l c h1;rcases PP l.cb W.heap.size with AA|AA;.exact AA
  .rw[jK AA]at h2;cases h2
 .obtain⟨c,h1⟩:=key b l h;rw[Tq,h1]at hx
  cases hx;exact hb b l c h1
 .rw[ro b x hx]at hr;cases hr
 .rw[ro b x hx]at hr;cases hr
theorem wG{l:Loc}{xs:List AV}{cs:Array Value}{e:TypeId}{fr:Nat×Nat}(hs:cs.size=l.RF)(hn:l.base+xs.length<=cs.size)(h:∀(i:Nat) (v:AV),xs[i]?=some v->∃AQ,cs[l.base+i]?=some AQ/\VR AC v AQ):BR E AC l (L7 xs) (.cells cs e fr):= .cells (λq=>by cases q) hs hn λi v hi hv=>h i v (by rw[Ahb]at hv;exact hv)
theorem Ahd{α:Type}{f:α->List AV}(hk:0<k)(l:List α)(hl:∀x∈l,(f x).length=k){v:AV}(h:(l.flatMap f)[i]?=some v):∃x,l[i/k]?=some x/\(f x)[i%k]?=some v/\i/k*k+i%k=i:=by
 have h1:i<(l.flatMap f).length:=(FE.1 h).1;rw[B8 l hl]at h1;have h2:i/k<l.length:=by rw[Nat.div_lt_iff_lt_mul hk];exact h1
 have h3:i/k*k+i%k=i:=by rw[WM];exact jT i k
 refine⟨l[i/k],DA h2,?_,h3⟩;rw[<-In l hl (i/k) (i%k) _ (DA h2) (UX _ hk),h3];exact h
def uT(b:Nat)(v:Value)(x:List Int×Option Loc):AV:=match x.2 with
 |none=>(match v with
  | .slice none _ _=> .AS
  |_=> .HZ v)
 |some _=> .AE b 0 x.1.length (Aa+1)
theorem wH{x:List Int×Option Loc}(h:jt W v x)(BY:AC b=x.2):VR AC (uT b v x) v:=by
 obtain⟨xs,ol⟩:=x
 cases ol with
 |none=>
  obtain⟨-,rfl|⟨a,rfl⟩⟩:=h;.exact .AS
  .exact .HZ _
 |some l=>obtain⟨cap,cs,e,fr,rfl,h1,h2,-,-,-⟩:=h;exact .XQ BY h1 h2 λ_=>rfl
theorem aec{x:List Int×Option Loc}{l:Loc}(h:jt W v x)(hl:x.2=some l):∃o,W.heap[l.cb]?=some o/\BR E AC l (L7 (x.1.map eI)) o:=by obtain⟨xs,ol⟩:=x;simp only at hl;subst hl;obtain⟨cap,cs,e,fr,rfl,h1,h2,h3,h4,h5⟩:=h;simp only at h1 h5;refine⟨_,h3,wG h4 (by rw[DC];show l.base+xs.length<=cs.size;omega) λi u hi=>?_⟩;rw[GD,Xs]at hi;obtain⟨y,hy,rfl⟩:=hi;exact⟨_,h5 i y hy,.int _ _⟩
theorem aed{x:List Int×Option Loc}(h:jt W v x)(hr:rows[b]?=some (x.2,x.1.map eI)):OI (λ_=>0) (Tp rows) (uT b v x) x.1:=by
 obtain⟨xs,ol⟩:=x
 cases ol with
 |none=>
  obtain⟨e,rfl|⟨a,rfl⟩⟩:=h;.exact⟨.inl ⟨e,rfl⟩⟩
  .exact⟨.inr (.inl ⟨e,a,rfl⟩)⟩
 |some l=>exact⟨.inr (.inr ⟨b,_,rfl,aeb hr,rfl⟩)⟩
def rU(o i:Nat)(y:WR):FA:=⟨y.w,uT (o+i+1) y.v y.x,y.se,y.n,y.sa,y.sh,y.af,y.bt,y.x.1⟩
def N9(o:Nat)(ys:List WR):List FA:=ys.mapIdx (rU o)
theorem Vn{ys:List WR}:(N9 o ys)[i]?=(ys[i]?).map (rU o i):=by unfold N9;rw[List.getElem?_mapIdx]
theorem Vo{ys:List WR}:(N9 o ys).length=ys.length:=by unfold N9;rw[List.length_mapIdx]
def Hj(o:Nat)(ax:List WR×Option Loc):List (Option Loc×List AV):=(ax.2,(N9 o ax.1).flatMap IV)::ax.1.map λy=>(y.x.2,y.x.1.map eI)
def xV(fx:List Int×Option Loc)(bx ax:List WR×Option Loc):List (Option Loc×List AV):=(fx.2,fx.1.map eI)::Hj 1 bx++Hj (2+bx.1.length) ax
section
variable {ax:List WR×Option Loc}
theorem aas(h:∀i r,(Hj o ax)[i]?=some r->rows[o+i]?=some r):rows[o]?=some (ax.2,(N9 o ax.1).flatMap IV)/\∀i y,ax.1[i]?=some y->rows[o+i+1]?=some (y.x.2,y.x.1.map eI):=⟨h 0 _ rfl,λi y hi=>h (i+1) _ (by show(ax.1.map _)[i]?=_;rw[GD,hi];rfl)⟩
theorem wI{r:Option Loc×List AV}(h:rows[b]?=some r):Fs rows b=r.1:=by unfold Fs;rw[h];rfl
theorem aat(h:∀i r,(Hj o ax)[i]?=some r->rows[o+i]?=some r)(ha:AO W v ax){l:Loc}{c:List AV}(hb:(Hj o ax)[i]?=some (some l,c)):∃u,W.heap[l.cb]?=some u/\BR E (Fs rows) l (L7 c) u:=by
 obtain⟨r0,r1⟩:=aas h;obtain⟨oU,ha⟩:=ha;rcases i with _|i
 .have hb:some (ax.2,(N9 o ax.1).flatMap IV)=some (some l,c):=hb;obtain⟨e1,e2⟩:=Prod.mk.inj (Za hb);rw[<-e2];rw[e1]at ha;obtain⟨cap,cs,e,fr,rfl,g1,g2,g3,g4,g5⟩:=ha;refine⟨_,g3,wG g4 ?_ λi u hi=>?_⟩;.rw[B8 _ (Lq _),Vo];have:ax.1.length*8<=cap*8:=Xt 8 g1;omega
  .obtain⟨q,q1,q2,q3⟩:=Ahd om _ (Lq _) hi;rw[Vn,Xs]at q1;obtain⟨y,hy,rfl⟩:=q1;have g6:=g5 (i/8) y hy (i%8) (UX _ om);rw[q3]at g6;have hV:CQ (Fs rows) (IV (rU o (i/8) y)) (jz y):= .cons (.int _ _) (.cons (wH (oU y (I4 hy)).1 (wI (r1 _ y hy))) (.cons (.int _ _) (.cons (.int _ _) (.cons (.int _ _) (.cons (.int _ _) (.cons (.int _ _) (.cons (.int _ _) .nil)))))));obtain⟨FW,h7,h8⟩:=hV.get q2;exact⟨FW,by rw[g6];exact h7,h8⟩
 .have hb:(ax.1.map λy=>(y.x.2,y.x.1.map eI))[i]?=some (some l,c):=hb;rw[GD,Xs]at hb;obtain⟨y,hy,e⟩:=hb;obtain⟨e1,e2⟩:=Prod.mk.inj e;rw[<-e2];exact aec (oU y (I4 hy)).1 e1
theorem aee(h:∀i r,(Hj o ax)[i]?=some r->rows[o+i]?=some r)(ha:AO W v ax):∃av,VR (Fs rows) av v/\RX (λ_=>0) (Tp rows) av (N9 o ax.1):=by
 obtain⟨r0,r1⟩:=aas h;obtain⟨oU,ha⟩:=ha;have el:∀x∈N9 o ax.1,OI (λ_=>0) (Tp rows) x.sv x.ls/\x.sa<256/\ -9223372036854775808<=x.se:=by intro x hx;obtain⟨i,hi⟩:=UZ.1 hx;rw[Vn,Xs]at hi;obtain⟨y,hy,rfl⟩:=hi;obtain⟨m1,m2⟩:=oU y (I4 hy);exact⟨aed m1 (r1 i y hy),m2⟩
 cases he:ax.2 with
 |none=>
  rw[he]at ha;obtain⟨e,rfl|⟨a,rfl⟩⟩:=ha;.exact⟨.AS,.AS,el,.inl ⟨by rw[e];rfl,rfl⟩⟩
  .exact⟨.HZ _,.HZ _,el,.inr (.inl ⟨by rw[e];rfl,a,rfl⟩)⟩
 |some l=>have hp:Fs rows o=some l:=(wI r0).trans he;rw[he]at ha;obtain⟨cap,cs,e,fr,rfl,g1,g2,g3,g4,g5⟩:=ha;exact⟨.AE o 0 ax.1.length (Aa+8),.XQ hp g1 g2 λ_=>rfl,el,.inr (.inr ⟨o,Aa+8,by rw[Vo],aeb r0,rfl⟩)⟩
end
theorem Ac8{H1:Type}{enc:TypeId×Value->H1}(Ty:jx P){n1 n2:Nat}{v2 v3 v4:Value}{y2 y3 y4:DataW H1×List MemPlace}(h2:DataW.trod enc P W 0 (λ_=>true) held n0 26 [v2]=some y2)(h3:DataW.trod enc P W 0 (λ_=>true) held n1 27 [v3]=some y3)(h4:DataW.trod enc P W 0 (λ_=>true) held n2 27 [v4]=some y4):∃(h0:H) (AC:BF) (av2 nj nk:AV) (fl:List Int) (bl al:List FA),VR AC av2 v2/\VR AC nj v3/\VR AC nk v4/\HR E W.heap AC h0 W.heap/\OI (λ_=>0) h0 av2 fl/\RX (λ_=>0) h0 nj bl/\RX (λ_=>0) h0 nk al:=by
 obtain⟨fx,hf⟩:=Vl Ty h2;obtain⟨bx,hb⟩:=Vm Ty h3;obtain⟨ax,ha⟩:=Vm Ty h4;have adi:(Hj 1 bx).length=1+bx.1.length:=by unfold Hj;rw[FX,DC];omega
 have r1:∀i r,(Hj 1 bx)[i]?=some r->(xV fx bx ax)[1+i]?=some r:=λi r hi=>by show(_::(Hj 1 bx++_))[1+i]?=_;rw[show 1+i=i+1 from Nat.add_comm _ _,fJ,QC (FE.1 hi).1];exact hi
 have r2:∀i r,(Hj (2+bx.1.length) ax)[i]?=some r->(xV fx bx ax)[2+bx.1.length+i]?=some r:=λi r hi=>by show((_::Hj 1 bx)++_)[2+bx.1.length+i]?=_;rw[OB (by rw[FX,adi];omega),FX,adi,show 2+bx.1.length+i- (1+bx.1.length+1)=i from om];exact hi
 obtain⟨nj,s3,t3⟩:=aee r1 hb;obtain⟨nk,s4,t4⟩:=aee r2 ha;refine⟨_,_,_,nj,nk,fx.1,_,_,wH (b:=0) hf rfl,s3,s4,Ahc λb l c h=>?_,aed hf rfl,t3,t4⟩;rcases b with _|b;.have h:some (fx.2,fx.1.map eI)=some (some l,c):=h;obtain⟨e1,e2⟩:=Prod.mk.inj (Za h);rw[<-e2];exact aec hf e1
 .have h:(Hj 1 bx++Hj (2+bx.1.length) ax)[b]?=some (some l,c):=h;by_cases hi:b<(Hj 1 bx).length;.rw[QC hi]at h;exact aat r1 hb h
  .rw[OB om]at h;exact aat r2 ha h
