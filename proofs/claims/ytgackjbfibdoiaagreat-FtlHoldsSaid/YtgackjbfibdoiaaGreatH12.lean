import Derived.Test.YtgackjbfibdoiaaGreatH11
set_option linter.all false
set_option maxRecDepth 100000
set_option maxHeartbeats 4000000
namespace Go.Ev
variable {P0:Program}{E:Env}{F:T DY}{K:HK}(L:Lg P0 E F K)[X:Fx F K][aq4:Tb P0 E F K][U:Yz P0 E F 208]
variable {D:Dv}{S:List Int}{b cap i la lo nx pb:Nat}{h AA:H}{v v1 v2:AV}{y:O}{AD:Nat->Nat}
section
variable {gd:Option (Nat×Bool)}{l:CJ}{x:O}{d fn nt n bytes:Nat}{t:T DV}{lh:SA}{k:DO}{r:List CI}{ds:List HN}{AL:Bool}{ro:Option Nat}{cs:FM}{Q:Nat->AV->Prop}
theorem DN.kv{B:Nat->Prop}{D:List Int}(q:DN h lo v D)(k:Kp B h AA)(hs:∀b n c,v= .AE b 0 n c->¬B b):DN AA lo v D:=⟨q.ex.imp id λ⟨h2,b,h3,h4,h5⟩=>⟨h2,b,h3,Ao k (hs b _ _ h3) h4,h5⟩⟩
theorem DN.plain{D:List Int}(q:DN h lo v D):A1 v=some [v]:=by rcases q.ex with⟨-,rfl⟩|⟨-,b,rfl,-⟩<;>rfl
structure cr (h:H)(lo:Nat)(v:AV)(S:List Int):Prop where
 ex:(S=[]/\v= .AS)\/∃b c,v= .AE b 0 S.length (Aa+1)/\Bk h b c/\c.take S.length=S.map AI/\lo<=b
theorem ady:∀l:List Int,Av (l.map AI)=true
 | []=>rfl
 |_::l=>ady l
theorem xQ(k:Bk h b (S.map AI)):CG 1 h (.AE b 0 S.length cap) S.length (S.map AI):=CG.of k W0 iQ
theorem cr.kz{QA:Nat}(q:cr h lo v S)(k:K0 h AA)(hl:QA<=lo:=by omega):cr AA QA v S:=⟨q.ex.imp id λ⟨b,c,e,kb,sb,g⟩=>⟨b,c,e,Ab k kb,sb,EM hl g⟩⟩
include L
theorem xR{lo2:Nat}{w:AV}{ls new:List Int}(hg:HH gd l=some true)(e:AU l x=some v)(q:cr (hp n t lh) lo v ls)(HX:lo<=n)(e1:AU l y=some w)(q2:DN (hp n t lh) lo2 w new)(hb:(ls.length+new.length)*(bytes+1)<=1099511627776)(g:∀AQ AA,cr AA lo AQ (ls++new)->Kp (λj=>lo<=j) (hp n t lh) AA->Good P0 E Q ⟨⟨fn,nt,AJ ((d,some AQ)::l),.ops r::k,ds,.run,AL,ro⟩,cs,hp AA.n AA.t []⟩):Good P0 E Q ⟨⟨fn,nt,AJ l,.ops (⟨some d,gd,.append 1 bytes x y⟩::r)::k,ds,.run,AL,ro⟩,cs,hp n t lh⟩:=by
 rcases q2.ex with⟨rfl,rfl⟩|⟨h2,b2,rfl,k2,-⟩
 .rw[MO]at g;rcases q.ex with⟨rfl,rfl⟩|⟨b,c,rfl,kb,sb,hl⟩;.exact Et L (Az hg) (wQ e e1).e (g .AS (hp n t lh) ⟨.inl ⟨rfl,rfl⟩⟩ (.refl _))
  .exact Et L (Az hg) (yH e e1).e (g _ (hp n t lh) q (.refl _))
 .have s2:=xQ (cap:=Aa+1) k2;rcases q.ex with⟨rfl,rfl⟩|⟨b,c,rfl,kb,sb,hl⟩;.have kk:Bk (hp (n+1) t ((n,some (cl (new.map AI)))::lh)) n (new.map AI):=AG;exact Et L (Az hg) (D1 e e1 s2 h2 mJ).e (g (.AE n 0 new.length (Aa+1)) (hp (n+1) t ((n,some (cl (new.map AI)))::lh)) ⟨.inr ⟨n,_,rfl,kk,LN W0,HX⟩⟩ AH)
  .have kk:Bk (hp (n+1) t ((n,some (cl (ls.map AI++new.map AI)))::(b,none)::lh)) n ((ls++new).map AI):=mB;have:=g (.AE n 0 (ls.length+new.length) (Aa+1)) (hp (n+1) t ((n,some (cl (ls.map AI++new.map AI)))::(b,none)::lh)) ⟨.inr ⟨n,_,by rw[DX],kk,LN W0,HX⟩⟩ AH;exact Et L (Az hg) (D7 e e1 ((by have:=HT List.length sb;rw[IS,DC]at this;exact CG.of kb om (by rw[LT,RW];exact sb))) s2 h2 hb (ady _)).e this
end
theorem Ab4{n:Nat}(hn:n<10000):CL L 215 [.AS,AN n] h λv AA=>cr AA h.n v []/\K0 h AA:=by
 refine Ad L X.f215 λQ x cs G=>?_;by_cases h0:n=0;.subst h0;refine ret X.f215.1 ?_;exact⟨⟨.inl ⟨rfl,rfl⟩⟩,AH⟩
 .refine wk ?_;refine BO L (wR rfl rfl om om om om) ?_;refine ret X.f215.1 ?_;exact⟨⟨.inr ⟨h.n,_,rfl,AG,rfl,BD _⟩⟩,AH⟩
theorem aik{w1 w2:AV}{s1 s2:List Int}(DL:Bk h pb [w1,w2])(q1:DN h lo w1 s1)(q2:DN h lo w2 s2)(hl:s1.length<1000/\s2.length<1000):CL L 169 [.AE pb 0 2 2] h λv AA=>cr AA h.n v (s1++s2)/\K0 h AA:=by
 have iv:=q1.ex;have q2':=q2.ex;rcases iv with⟨e1,rfl⟩|⟨p1,b1,rfl,OP,-⟩<;>rcases q2' with⟨e2,rfl⟩|⟨p2,b2,rfl,PJ,-⟩
 all_goals
  try have qK:=OP.lt
  try have iV:=PJ.lt
  try subst e1
  try subst e2
  refine Aj L X.f169 λQ x cs G=>?_;refine wk ?_;refine Bi L ?_;refine wk ?_;refine Bs L ?_;refine wk ?_;refine Bs L ?_;refine AK ?_ (c:=Ab4 L om);rintro v3 h3 ⟨g3,k3⟩;have n3:=k3.n;simp only[Ag]at n3 g3;refine wk ?_;refine Bi L ?_;refine wk ?_;refine xR L rfl rfl (lo:=h.n) (g3.kz za) om rfl (q1.k0 za) (by simp only[VB];omega) ?_;rintro v4 h4 g4 k4;have n4:=k4.n;simp only[Ag]at n4;have k34:K0 h h4:=AH;refine wk ?_;refine Bs L ?_;refine wk ?_;refine xR L rfl rfl (lo:=h.n) (g4.kz za) om rfl (q2.k0 za) (by simp only[RV];omega) ?_;rintro v5 h5 g5 k5;have n5:=k5.n;simp only[Ag]at n5;refine wk ?_;refine Bs L ?_;refine ret X.f169.1 ?_;simp only[RV,MO]at g5;(try simp only[RV,MO]);exact⟨g5.kz za,AH⟩
theorem zW{p:Prop}(h:p:=by
 refine wk ?_
 refine D8 L (Gk.e CS) G2 ⟨rfl,?_⟩
 refine⟨AH,CS,(by unfold jg;exact D5 om),AG,AG,AG,AG,AG,_,AG,.inr ⟨om,_,rfl,?_,om⟩⟩
 rw[U0];exact AG):p:=h
theorem Aus{l:CJ}{x:O}{a b:AV}(e1:AU l x=some v1)(e2:AU l y=some v2)(h1:A1 v1=some [v1])(h2:A1 v2=some [v2]):Kh l [(0,1,x),(1,1,y)] [a,b]=some [v1,v2]:=by simp only[Kh,e1,e2,h1,h2];rfl
theorem Ab9{l:List Int}(h:l[i]?=some (b:Int)):(λx:Nat=>if((x:Nat):Int)∈l.take (i+1)then 3 else 1)=AX (λx:Nat=>if((x:Nat):Int)∈l.take i then 3 else 1) b 3:=funext λx=>by
 unfold AX
 rw[LO,h]
 by_cases e:x=b
 .subst e;simp
 .rw[AM e]
  have:(x:Int)≠(b:Int):=om
  simp[this]
def Pm(ev v1 v2:AV)(la nx:Nat):List AV:=[ev,UN la,UN nx,v1,v2]
noncomputable def jg(bx a mk:Nat)(st:LS):DV:= .loop ⟨st,none,139,Sd.ntmps,AJ [(20,some (.fn (.func 109) [] [.ptr a 0])),(5,some (.ptr (bx+3) 0)),(4,some (.ptr (bx+2) 0)),(3,some (.ptr (bx+1) 0)),(2,some (.ptr bx 0))],[21,22],Aku,Akv,mk⟩
structure zw (h hh:H)(fd:List AV)(s a b mk nb:Nat)(er:Nat->Nat)(i:Nat):Prop where
 k:K0 h hh
 dk:Gk hh mk (.EQ (some []))
 lp:Gk hh (mk+1) (jg h.n a mk .ready)
 ka:Bk hh a [.AE b 0 nb (Aa+1)]
 kb:Bk hh b (Ib er nb)
 k2:Bk hh h.n [.ptr s 0]
 k3:Bk hh (h.n+1) fd
 k4:Bk hh (h.n+2) [.bool false]
 ex:∃w,Bk hh (h.n+3) [w]/\((i=0/\w= .AS)\/(0<i/\∃x,w= .AE x 0 i (Aa+1)/\Bk hh x (Ib er i)/\mk+2<=x))
noncomputable def jh(bx a b mk:Nat)(st:LS):DV:= .loop ⟨st,none,139,Sd.ntmps,AJ [(109,some (.fn (.func 218) [] [.ptr a 0,.ptr b 0])),(4,some (.ptr (bx+2) 0)),(2,some (.ptr bx 0))],[110,111],Ae1,Ae2,mk⟩
def XT(p d:Nat)(nb P sz en m nx la rj rs rw:Nat):List AV:=[.ptr p 0,.ptr d 0,AN nb,AN P,AN sz,AN en,.ptr m 0,UN nx,UN la,AI (-1),AI (-1),.map rj,.map rs,.map rw,.bool false]
def vd(d:Nat)(nb P sz en m nx la rj rs rw:Nat):List AV:=[.M7,.ptr d 0,AN nb,AN P,AN sz,AN en,.ptr m 0,UN nx,UN la,AI (-1),AI (-1),.map rj,.map rs,.map rw,.bool false]
structure zu (h hh:H)(s rj a b lb mk mk1 p pb nb:Nat)(ps er:Nat->Nat)(sc cb:List AV)(f:Int->Bool):Prop where
 k:Kp (λj=>j=s\/j=rj) h hh
 dk:Gk hh mk (.EQ (some []))
 d1:Gk hh mk1 (.EQ (some []))
 lp:Gk hh (mk+1) (jh h.n a b mk .ready)
 ka:Bk hh a [.AE lb 0 nb (Aa+2)]
 kb:Bk hh b [AN 1]
 kl:Bk hh lb cb
 k2:Bk hh h.n [.ptr s 0]
 k4:Bk hh (h.n+2) [.bool false]
 ks:Bk hh s sc
 po:Ge hh p pb nb ps er cb
 mj:LX hh rj f
theorem anl{s d fm bb m rj rs rw qY qJ:Nat}{cb:List AV}{ev:AV}{es:List BI}{js ds:List Int}(q:LV AD h d D fm bb cb)(FT:2<=D.nb/\D.nb<=44)(hP:2<=D.P/\D.P<=6)(TF:∀i,i<D.nb->(D.bl i).er<=900000000)(ks:Bk h s (vd d D.nb D.P D.sz D.en m nx la rj rs rw))(kj:Mk h rj [] 0)(BZ:d≠s/\bb≠s/\fm≠s/\d≠rj/\bb≠rj/\fm≠rj/\s≠rj)(he:EL h lo ev es)(q1:DN h lo v1 js)(q2:DN h lo v2 ds)(HX:∀v∈[ev,v1,v2],∀b n c,v= .AE b 0 n c->b≠s/\b≠rj)(MI:es.length<=1000)(HA:(js++ds).Nodup)(h1:∀z∈js++ds,∃b:Nat,z=((b:Nat):Int)/\b<D.nb)(sW:∀e∈es,∃b j:Nat,e.2=((b*D.P+j:Nat):Int)/\j<D.P/\b<D.nb/\((b:Nat):Int)∈js++ds/\((b:Nat):Int)∉js)(h4x:∀b:Nat,b<D.nb->((b:Nat):Int)∉js++ds->(D.bl b).nx=0):CL L 139 [.ptr s 0,.agg (Pm ev v1 v2 qJ qY)] h λv AA=>v= .bool true/\∃p pb RC,Ge AA p pb D.nb (λb:Nat=>if((b:Nat):Int)∈js++ds then 3 else 1) (λi=>(D.bl i).er) RC/\Bk AA s (XT p d D.nb D.P D.sz D.en m nx la rj rs rw)/\LX AA rj (λk=>decide (k∈js))/\h.n<=p/\h.n<=pb/\Kp (λj=>j=s\/j=rj) h AA:=by
 have lrj:rj<h.n:=kj.lt;have kj':Mk h rj (([]:OJ).map (mE AI)) 0:=kj;unfold Pm;unfold vd at ks;refine Ad L X.f139 λQ x cs G=>?_;refine AK ?_ (c:=Afx L (q.kb (Kp.mono (S:=λ_=>False) (λ_ f=>f.elim) za)) om);rintro _ h2 ⟨a,b,rfl,w1,w2,w3,w4,w5⟩;have n5:=w5.n;simp only[Ag]at n5 w3 w4;refine wk ?_;refine D0 L (FV:=AJ [(20,some (.fn (.func 109) [] [.ptr a 0])),(5,some (.ptr (h.n+3) 0)),(4,some (.ptr (h.n+2) 0)),(3,some (.ptr (h.n+1) 0)),(2,some (.ptr h.n 0))]) BA ?_;refine Ew L (post:=λ_ AA=>zw h AA (Pm ev v1 v2 qJ qY) s a b h2.n D.nb (λi=>(D.bl i).er) D.nb) rfl rfl rfl ?_ ?_
 .refine Ct.A ((Aa3 L (f:=λi=>(D.bl i).er) FT.2 (λi hh=>zw h hh (Pm ev v1 v2 qJ qY) s a b h2.n D.nb (λi=>(D.bl i).er) i) (λi hh r=>⟨r.ka,r.kb⟩) (λi hh AA r k=>?_) (λi hh hi r=>?_) ⟨AH,CS,(by unfold jg;exact CS),AG,AG,AG,(by unfold Pm;exact AG),AG,.AS,AG,.inl ⟨rfl,rfl⟩⟩).mono λv AA p=>p)
  .exact⟨Kp.EA k r.k,C4 k r.dk,C4 k r.lp,Ab k r.ka,Ab k r.kb,Ab k r.k2,Ab k r.k3,Ab k r.k4,by
    obtain⟨w,e1,e2⟩:=r.ex;refine⟨w,Ab k e1,?_⟩;rcases e2 with e2|⟨e2,x,e3,e4,e5⟩;.exact .inl e2
    .exact .inr ⟨e2,x,e3,Ab k e4,e5⟩⟩
  .obtain⟨r1,r2,r3,r4,r5,r6,r7,r8,w,r9,RN⟩:=r;have hle:=r3.e;unfold jg at hle;have g1:=r2.lt;have g2:=r3.lt;have g3:=r4.lt;have g4:=r5.lt;have g6:=r6.lt;have g7:=r7.lt;have g8:=r8.lt;have g9:=r9.lt;refine Du L (l1:=[(22,some (AN ((D.bl i).er))),(21,some (AN i)),(20,some (.fn (.func 109) [] [.ptr a 0])),(5,some (.ptr (h.n+3) 0)),(4,some (.ptr (h.n+2) 0)),(3,some (.ptr (h.n+1) 0)),(2,some (.ptr h.n 0))]) hle rfl ?_;intro Q z2 cs G2;refine wk ?_;refine Dh L (Gk.e CS) ?_;rcases RN with⟨rfl,rfl⟩|⟨RN,x,rfl,WD,mn⟩;.refine wk ?_;(apply IQ L rfl;exact D1 (new:=[AN ((D.bl 0).er)]) rfl rfl (CG.of (c:=[AN ((D.bl 0).er)]) AG (BD _) rfl) om om;rfl);exact zW
   .have lx:=WD.lt;refine wk ?_;(apply IQ L rfl;exact D7 (old:=Ib (λi=>(D.bl i).er) i) (new:=[AN ((D.bl i).er)]) rfl rfl (CG.of (c:=Ib (λi=>(D.bl i).er) i) AG (by rw[Nn];omega) (by rw[LT,LN (by rw[Nn];omega)])) (CG.of (c:=[AN ((D.bl i).er)]) AG (BD _) rfl) om om rfl;rfl);exact zW
 .rintro v h3 ⟨r1,r2,r3,r4,r5,r6,r7,r8,w,r9,RN⟩;have r1x:=r1;have hle:=r3.e;unfold jg at hle;unfold Pm at r7;have g2:=r2.lt;have g3:=r3.lt;have g6:=r6.lt;have g7:=r7.lt;have g8:=r8.lt;have g9:=r9.lt;rcases RN with⟨e0,-⟩|⟨RN,xb,rfl,WD,mn⟩;.omega
  have lx:=WD.lt;have mO:=Ab r1 ks;refine Hv L (n:=h3.n) (t:=h3.t) (lh:=[]) hle W1 ?_;refine AK ?_ (c:=Af0 L (eb:=xb) (nb:=D.nb) (pe:=λi=>(D.bl i).er) uc ⟨om,FT.2⟩ TF);rintro _ h4 ⟨p,pb,RC,rfl,po,w6,w7,w8⟩;have n8:=w8.n;simp only[Ag]at n8 w6 w7;have lpo:=po.pk.lt;have lpb:=po.bk.lt;have dk4:Gk h4 h2.n (.EQ (some [])):=C4 w8 XJ;have gU:=Da D.nb (js++ds) HA λz hz=>let⟨b,e,hb⟩:=h1 z hz;⟨om,om⟩;have YQ:js.length+ds.length<=44:=by rw[DX]at gU;omega
  clear r3 hle w1 w2 w5 r4 r5 r2;have k5:Bk h4 (h.n+3) [.AE xb 0 D.nb (Aa+1)]:=AG;have kx:Bk h4 xb (Ib (λi=>(D.bl i).er) D.nb):=AG;clear WD r9;refine wk ?_;refine BO L (Yf (Aus rfl rfl q1.plain q2.plain)) ?_;have kd4:Kp (λj=>j=s) h h4:=AH;refine AK ?_ (c:=aik (lo:=lo) L uc (q1.kv (B:=λj=>j=s) za λb n c e=>(HX _ W0 b n c e).1) (q2.kv (B:=λj=>j=s) za λb n c e=>(HX _ W0 b n c e).1) ⟨om,om⟩);rintro lv h5 ⟨g5,w9⟩;have n9:=w9.n;simp only[Ag]at n9 g5;have ai1:∀i,i<(js++ds).length->∃b:Nat,(js++ds)[i]?=some ((b:Nat):Int)/\b<D.nb/\((b:Nat):Int)∉(js++ds).take i:=λi hi=>by have hx:(js++ds)[i]?=some (js++ds)[i]:=DA hi;obtain⟨b,e,hb⟩:=h1 _ (LC hi);rw[e]at hx;refine⟨b,hx,hb,λhm=>?_⟩;obtain⟨j,hj,ej⟩:=List.mem_take_iff_getElem.1 hm;have:=(fe.1 HA) j i om hi om;exact this (ej.trans e.symm)
  have kfd:Bk h4 (h.n+1) [ev,UN qJ,UN qY,v1,v2]:=AG
  have tail:∀(h8:H) (gH:List AV) (lq:CJ),Ge h8 p pb D.nb (λb:Nat=>if((b:Nat):Int)∈js++ds then 3 else 1) (λi=>(D.bl i).er) gH->LX h8 rj (λk=>decide (k∈js))->Bk h8 s (XT p d D.nb D.P D.sz D.en m nx la rj rs rw)->Kp (λj=>j=rj\/j=p\/j=pb) h5 h8->
    FY (AJ [(108,some (.ptr p 0)),(4,some (.ptr (h.n+2) 0)),(2,some (.ptr h.n 0))]) (AJ lq)->Good P0 E Q ⟨⟨139,Sd.ntmps,AJ lq,[.ops [Cc 109 172 [.t 108,Cz 1]],.code Ae3,.code Ae4],[.mark h2.n],.run,false,none⟩,x::cs,hp h8.n h8.t []⟩:=by
   intro h8 gH lq qe sj8 uz kp8 ht
   refine D0 L ht ?_
   have aqo:=qe.pk.lt
   have aqn:=qe.bk.lt
   have dk8:Gk h8 h2.n (.EQ (some [])):=Jw kp8 om (C4 w9 XJ)
   have e2:Bk h8 h.n [.ptr s 0]:=AG
   have e4:Bk h8 (h.n+2) [.bool false]:=AG
   have um:Kp (λj=>j=s\/j=rj) h h8:=AH
   have f4:=e2.lt
   clear kp8 w9 dk4 k5 kx kfd po r6 r7 r8
   refine AK ?_ (c:=Mf L (s:=1) (qe.k0 za))
   rintro _ h6 ⟨a2,b2,iV,rfl,v1,v2,v3,v4,v5,v6,v7⟩
   have n7:=v7.n
   simp only[Ag]at n7 v4 v5 v6
   have dk6:Gk h6 h2.n (.EQ (some [])):=C4 za dk8
   have iq:=qe.k0 (AA:=h6) za
   have e6:Bk h6 s (XT p d D.nb D.P D.sz D.en m nx la rj rs rw):=Ab v7 uz
   have sj6:=sj8.kp (B:=λ_=>False) (AA:=h6) za id
   have oK:Bk h6 h.n [.ptr s 0]:=Ab v7 e2
   have e4':Bk h6 (h.n+2) [.bool false]:=Ab v7 e4
   have kd6:Kp (λj=>j=s\/j=rj) h h6:=AH
   have f1:=v1.lt
   have f2:=v2.lt
   have f3:=v3.lt
   clear v7
   refine wk ?_
   refine D0 L (FV:=AJ [(109,some (.fn (.func 218) [] [.ptr a2 0,.ptr b2 0])),(4,some (.ptr (h.n+2) 0)),(2,some (.ptr h.n 0))]) BA ?_
   refine Ew L (post:=λ_ AA=>zu h AA s rj a2 b2 iV h6.n h2.n p pb D.nb (λb:Nat=>if((b:Nat):Int)∈js++ds then 3 else 1) (λi=>(D.bl i).er) (XT p d D.nb D.P D.sz D.en m nx la rj rs rw) gH (λk=>decide (k∈js))) rfl rfl rfl ?_ ?_
   .refine Ct.A ((Kq L (ps:=(λb:Nat=>if((b:Nat):Int)∈js++ds then 3 else 1)) (pe:=(λi=>(D.bl i).er)) (cb:=gH) iq.len FT.2 iq.c0 iq.c1 (λi hh=>zu h hh s rj a2 b2 iV h6.n h2.n p pb D.nb (λb:Nat=>if((b:Nat):Int)∈js++ds then 3 else 1) (λi=>(D.bl i).er) (XT p d D.nb D.P D.sz D.en m nx la rj rs rw) gH (λk=>decide (k∈js))) (λi hh r=>⟨r.ka,r.kb,r.kl⟩) (λi hh AA r k=>?_) (λi hh hi e r=>?_) (λi hh hi e r=>r) ⟨AH,CS,CS,(by unfold jh;exact CS),AG,AG,AG,AG,AG,AG,iq.k0 za,sj6.kp (B:=λ_=>False) za id⟩).mono λv AA p=>p)
    .exact⟨Kp.EA k r.k,C4 k r.dk,C4 k r.d1,C4 k r.lp,Ab k r.ka,Ab k r.kb,Ab k r.kl,Ab k r.k2,Ab k r.k4,Ab k r.ks,r.po.k0 k,r.mj.kp k id⟩
    .obtain⟨r1,r2,r3,r4,r5,r6,r7,r8,r9,RN,WD,mn⟩:=r
     have hle:=r4.e
     unfold jh at hle
     have g1:=r2.lt
     have g2:=r3.lt
     have g3:=r4.lt
     have g4:=r5.lt
     have g5:=r6.lt
     have g7:=r7.lt
     have g8:=r8.lt
     have g9:=r9.lt
     have g10:=RN.lt
     have g11:=WD.pk.lt
     have g12:=WD.bk.lt
     have hd:Bk hh d (GJ D fm bb):=Ao r1 om q.dk
     have gT:Bk hh bb cb:=Ao r1 om q.bk
     have hdo:=q.dk.lt
     have sr:=q.bk.lt
     obtain⟨pn,c,aJ⟩:=q.rows i hi
     have KD:=aJ.c1
     have FO:(i:Int)∉js++ds:=λhm=>by
      have e:(if(i:Int)∈js++ds then 3 else 1)=1:=e
      rw[AP hm]at e;cases e
     rw[h4x i hi FO]at KD
     unfold XT at RN
     refine Du L (l1:=[(111,some (AN ((D.bl i).er))),(110,some (AN i)),(109,some (.fn (.func 218) [] [.ptr a2 0,.ptr b2 0])),(4,some (.ptr (h.n+2) 0)),(2,some (.ptr h.n 0))]) hle rfl ?_
     intro Q z2 cs G2
     refine wk ?_
     refine Dh L (Gk.e CS) ?_
     refine AK ?_ (c:=Nk L (D:=D) (fm:=fm) (bb:=bb) (cb:=cb) (i:=i) (nx:=0) uc uc hi KD)
     rintro _ rfl
     refine wk ?_
     refine D8 L (Gk.e CS) G2 ⟨rfl,?_⟩
     refine⟨AH,CS,CS,(by unfold jh;exact D5 om),AG,AG,AG,AG,AG,py,WD.kp (S:=λj=>j=h6.n+1) AH om om,mn.kp (B:=λj=>j=h6.n+1) za om⟩
   .rintro v h7 ⟨r1,r2,r3,r4,r5,r6,r7,r8,r9,RN,WD,mn⟩
    have hle:=r4.e
    unfold jh at hle
    have g1:=r2.lt
    have g2:=r3.lt
    have g3:=r4.lt
    have g9:=r9.lt
    have g10:=RN.lt
    have g11:=WD.pk.lt
    have g12:=WD.bk.lt
    refine Hv L (n:=h7.n) (t:=h7.t) (lh:=[]) hle W1 ?_
    refine wk ?_
    refine Fd L (todo:=[]) ?_
    refine Ex L W1 (Gk.e CS) ?_
    refine Ex L W1 (Gk.e CS) ?_
    refine C1 L X.f139.1 (Bw (b:=h.n+2) rfl (Bk.e AG) rfl E7) G ⟨rfl,p,pb,gH,WD.kp (S:=λj=>j=h6.n+1\/j=h.n+2\/j=h6.n\/j=h2.n) ?_ om om,AG,mn.kp (B:=λj=>j=h6.n+1\/j=h.n+2\/j=h6.n\/j=h2.n) ?_ om,om,om,AH⟩
    .exact AH
    .exact AH
  have main:∀lq,FY (AJ [(45,some Zi),(44,some (AN ((js++ds).length))),(43,some lv),(8,some (.ptr p 0)),(5,some (.ptr (h.n+3) 0)),(4,some (.ptr (h.n+2) 0)),(3,some (.ptr (h.n+1) 0)),(2,some (.ptr h.n 0))]) (AJ lq)->
    Good P0 E Q ⟨⟨139,Sd.ntmps,AJ lq,[.code Aez,.inBlock 2,.code Ae5],[.mark h2.n],.run,false,none⟩,x::cs,hp h5.n h5.t []⟩:=by
   intro lq ht
   refine Bt L (bd:=Aey) (α:=Unit) (T:=λi _=>[(45,some (AN i)),(44,some (AN ((js++ds).length))),(43,some lv),(8,some (.ptr p 0)),(5,some (.ptr (h.n+3) 0)),(4,some (.ptr (h.n+2) 0)),(3,some (.ptr (h.n+1) 0)),(2,some (.ptr h.n 0))]) (n:=(js++ds).length)
    (R:=λi _ hh=>(∃kE,Ge hh p pb D.nb (λb:Nat=>if((b:Nat):Int)∈(js++ds).take i then 3 else 1) (λi=>(D.bl i).er) kE)/\LX hh rj (λk=>decide (k∈js.take i))/\Bk hh s (XT p d D.nb D.P D.sz D.en m nx la rj rs rw)/\Kp (λj=>j=rj\/j=p\/j=pb) h5 hh) (i0:=0) () ht ⟨⟨RC,by simpa using po.kp (S:=λj=>j=s) za om om⟩,?_,py,Kp.refl _⟩ (CN _) ?_ ?_
   .exact⟨[],0,by exact CH,EP.nil,λk=>by simp;rfl⟩
   .rintro i _ hh hi ⟨⟨kE,r1⟩,r2,r3,r4⟩ ih
    obtain⟨b,e1,e2,e3⟩:=ai1 i hi
    have nh:=r4.n
    have SI:(λb:Nat=>if((b:Nat):Int)∈(js++ds).take i then 3 else 1) b=1:=AM e3
    have aj2:=r1.pk.lt
    have aj1:=r1.bk.lt
    have kbx:(Ib (λi=>(D.bl i).er) D.nb)[b]?=some (AN ((D.bl b).er)):=by unfold Ib;rw[GD,Yu e2];rfl
    have gj:∃b5 c5,lv= .AE b5 0 (js++ds).length (Aa+1)/\Bk h5 b5 c5/\c5[i]?=some (AN b)/\h4.n+1<=b5:=by
     rcases g5.ex with⟨e0,-⟩|⟨b5,c5,f1,f2,f3,f4⟩
     .rw[e0]at hi;exact absurd hi (OD _)
     .refine⟨b5,c5,f1,f2,?_,f4⟩
      rw[<-N0 hi,f3,GD,e1];rfl
    obtain⟨b5,c5,rfl,uj,uQ,oZ⟩:=gj
    have kh:=Ao r4 om uj
    have up:AX (λi=>(D.bl i).er) b (D.bl b).er=λi=>(D.bl i).er:=funext λx=>by
     unfold AX;split
     .rename_i e;rw[e]
     .rfl
    rcases q1.ex with⟨j0,rfl⟩|⟨j0,jb,rfl,j1,j2⟩
    all_goals
     refine AK ?_ (c:=Is L (r1.k0 za) e2)
     rintro _ rfl
     rw[AM e3]
     refine AK ?_ (c:=Afy (t:=3) L (r1.k0 za) e2 om (TF b e2))
     rintro _ h7 ⟨rfl,⟨sB,p7⟩,k7⟩
     rw[<-Ab9 e1,up]at p7
     have qE:Kp (λj=>j=rj\/j=p\/j=pb) h5 h7:=AH
     have et:=Ao (S:=λj=>j=p\/j=pb) (AA:=h7) za om r3
     have ep:=r2.kp (B:=λj=>j=p\/j=pb) (AA:=h7) za om
    .subst j0
     refine wk ?_
     refine ih () _ _ ⟨⟨sB,p7⟩,?_,et,qE⟩ BA
     rw[List.take_nil]at ep ⊢
     exact ep
    .by_cases hj:i<js.length
     .obtain⟨M,ck,m1,m2,m3⟩:=ep.ex
      unfold XT at et
      refine wk ?_
      (apply Kk L rfl;exact El (KE.int .i64) m2 rfl rfl rfl CH;rfl)
      refine wk ?_
      refine ih () _ _ ⟨⟨sB,p7.kp (S:=λj=>j=rj) za om om⟩,?_,py,by exact AH⟩ BA
      have e5:js[i]?=some (b:Int):=by rw[<-e1,QC hj]
      have:(λk=>decide (k∈js.take (i+1)))=Be (λk=>decide (k∈js.take i)) (b:Int) true:=funext λk=>by
       unfold Be
       rw[LO,e5]
       by_cases e:k=(b:Int)
       .simp[e]
       .simp[e]
      rw[this]
      exact LX.set (k:=(b:Int)) CH m2 m3
     .refine wk ?_
      refine ih () _ _ ⟨⟨sB,p7⟩,?_,et,qE⟩ BA
      rw[LN om]at ep ⊢
      exact ep
   .rintro _ hh ⟨⟨kE,r1⟩,r2,r3,r4⟩
    rw[NA]at r1
    rw[LN eF]at r2
    have nh:=r4.n
    rcases he.ex with⟨e0,rfl⟩|⟨e0,eb,rfl,ke,MI⟩
    .refine wk ?_
     refine Bi L ?_
     refine wk ?_
     refine tail _ kE _ (r1.k0 za) (r2.kp (B:=λ_=>False) za id) py za ?_
     exact BA
    .have DJ:=ke.lt
     have aqa:=HX _ (DW ..) eb _ _ rfl
     have aj2:=r1.pk.lt
     have aj1:=r1.bk.lt
     have ke5:Bk h5 eb (es.flatMap A2):=by have ke4:Bk h3 eb (es.flatMap A2):=Ab r1x ke;exact AG
     refine wk ?_
     refine Bt L (bd:=Ae0) (α:=Unit) (T:=λi _=>[(78,some (AN i)),(77,some (AN es.length)),(76,some (.AE eb 0 es.length (Aa+2))),(8,some (.ptr p 0)),(5,some (.ptr (h.n+3) 0)),(4,some (.ptr (h.n+2) 0)),(3,some (.ptr (h.n+1) 0)),(2,some (.ptr h.n 0))]) (n:=es.length) (R:=λi _ h8=>K0 hh h8) (i0:=0) () BA za (CN _) ?_ ?_
     .rintro i _ h8 hi w ih
      have hx:es[i]?=some es[i]:=DA hi
      obtain⟨b,j,g1,g2,g3,g4,g5⟩:=sW _ (LC hi)
      have DF:=A7 es (Io es) i _ hx
      generalize es[i]=y at*
      obtain⟨ys,aq1⟩:=y
      simp only at g1
      subst g1
      have mM:=Ao (S:=λj=>j=rj\/j=p\/j=pb) (AA:=h8) za om ke5
      have kr:=mM.rk
      clear mM ke5
      have q6:Bk h8 h.n [.ptr s 0]:=AG
      have eg:=r1.k0 w
      have HV:i*2+2<=(es.flatMap A2).length/\((es.flatMap A2).drop (i*2)).take 2=[AI ys,AN (b*D.P+j)]:=DF
      have hmul:b*D.P<=44*6:=NB om om
      obtain⟨dv,apk⟩:=Qg (b:=b) g2
      obtain⟨M,ck,m1,m2,m3⟩:=(r2.kp (B:=λ_=>False) (AA:=h8) za id).ex
      have et:=Ab w r3
      unfold XT at et
      refine wk ?_
      refine BO L (A0 JY HV rfl) ?_
      refine wk ?_
      rw[dv]
      refine AK ?_ (c:=Is L (eg.k0 za) g3)
      rintro _ rfl
      rw[AP g4]
      refine wk ?_
      refine BO L (Lh (v:= .bool false) rfl rfl CH (by rw[m3,AM (by simpa using g5)];rfl)) ?_
      refine wk ?_
      refine ih () _ _ (Kp.EA (m:=h8) za w) BA
     .rintro _ h8 w
      refine wk ?_
      refine tail _ kE _ (r1.k0 za) (r2.kp (B:=λ_=>False) za id) (by have et:=Ab w r3;unfold XT at et ⊢;exact AG) za ?_
      exact BA
  rcases g5.ex with⟨e0,rfl⟩|⟨b5,c5,rfl,uj,sb5,oZ⟩;.refine wk ?_;refine main _ (by rw[e0];exact BA)
  .refine wk ?_;exact main _ BA
def nX(AD:Nat->Nat)(n:Nat)(I:Ai):Nat->Nat:=λb=>if b<n then AD b else if b=I.s then 101 else if b=I.p then 102 else if b=I.pb then 103 else if b=I.m then 104 else if b=I.r1 then 105 else if b=I.r2 then 106 else if b=I.vb then 107 else if b=I.rj then 108 else if b=I.rs then 109 else if b=I.rw then 110 else 0
theorem adp{n:Nat}{I:Ai}(h:b<n):nX AD n I b=AD b:=AP h
theorem Ge.qZ{h:H}{p pb nb:Nat}{ps pe qZ:Nat->Nat}{cb:List AV}(q:Ge h p pb nb ps pe cb)(e:∀i,i<nb->qZ i=pe i):Ge h p pb nb ps qZ cb:=⟨q.pk,q.bk,q.ne,q.len,q.cG,λi hi=>by rw[e i hi];exact q.c0 i hi,q.c1,q.st,λi hi=>by rw[e i hi];exact q.er i hi⟩
theorem Acq{d S:Nat}{ev:AV}{es:List BI}{js ds:List Int}(r:IK AD h d D)(hS:1<=S/\S<=1000)(ED:D.off=false)(TF:∀i,i<D.nb->(D.bl i).er<=900000000)(he:EL h lo ev es)(q1:DN h lo v1 js)(q2:DN h lo v2 ds)(hln:la<nx)(f:Yx D js ds)(EJ:es.length<=150)(ES:∀j x,es[j]?=some x->QO S (D.nb*D.P) (GB (λ_=>none) es j) x)(sW:∀e∈es,∃b j:Nat,e.2=((b*D.P+j:Nat):Int)/\j<D.P/\b<D.nb/\(b:Int)∈js++ds/\(b:Int)∉js):CL L 102 [.ptr d 0,AN S,.agg (Pm ev v1 v2 la nx)] h λv AA=>∃ab I AF,v= .BM [.ptr ab 0,Zi]/\Bk AA ab [.ptr I.s 0]/\AF ab=0/\I.d=d/\BJ AF AA I (Ap.IJ D S (GB (λ_=>none) es es.length) nx la js ds)/\K0 h AA/\(∀b,b<h.n->AF b=AD b):=by
 have inn:∀v∈[ev,v1,v2],∀b n c,v= .AE b 0 n c->b<h.n:=λv hv b n c e=>by
  have row:∀{v D},DN h lo v D->v= .AE b 0 n c->b<h.n:=λq e=>by rcases q.ex with⟨-,e2⟩|⟨-,AR,e2,kb,-⟩<;>rw[e2]at e<;>cases e;exact kb.lt
  rcases DD.1 hv with rfl|hv;.rcases he.ex with⟨-,e2⟩|⟨-,AR,e2,kb,-⟩<;>rw[e2]at e<;>cases e;exact kb.lt
  .rcases DD.1 hv with rfl|hv;.exact row q1 e
   .rw[EV.1 hv]at e;exact row q2 e
 obtain⟨ok,fm,bb,cb,q⟩:=r;have hd:=q.dk;have FT:=ok.g.nb;have hP:=ok.g.P;have DE:=ok.g.sz;unfold Pm;refine Bj L X.f102 λQ x cs G=>?_;refine AK ?_ (c:=Df L (D:=D) (fm:=fm) (bb:=bb) (Ab za hd));rintro _ h2 ⟨rfl,k2⟩;have n2:=k2.n;simp only[Ag]at n2;refine AK ?_ (c:=adj L hS FT hP);rintro _ h3 ⟨m,r1,r2,vb,rfl,mp,k3,l1,l2,l3,l4⟩;have n3:=k3.n;simp only[Ag]at n3 l1 l2 l3 l4;have te:=mp.lt;refine AK ?_ (c:=Gi L (sz:=D.sz) om);rintro _ rfl;refine AK ?_ (c:=O3 L (mp.k0 za) (he.k0 za) om (λb n c e=>by have:=inn _ (DW ..) b n c e;omega) ES);rintro _ h4 ⟨rfl,k4,aU⟩;have n4:=k4.n;simp only[Ag]at n4;refine wk ?_;have tZ:=aU.lt;have BZ:=aU.ne;have ldh:=q.dk.lt;have lbh:=q.bk.lt;have lfh:=q.fk.lt;refine AK ?_ (c:=anl (AD:=AD) (s:=h4.n+1+1+1) (m:=m) (rj:=h4.n) (rs:=h4.n+1) (rw:=h4.n+1+1) (nx:=nx) (la:=la) L (q.kb (Kp.mono (S:=λ_=>False) (λ_ f=>f.elim) za)) FT hP TF (by unfold vd;exact AG) eH ⟨om,om,om,om,om,om,om⟩ (he.k0 za) (q1.k0 za) (q2.k0 za) (λv hv b n c e=>by have:=inn v hv b n c e;omega) om f.nd f.mem sW (λb hb hm=>by have:=(not_congr (f.nx b hb)).1 hm;omega));rintro _ h5 ⟨rfl,p,pb,RC,po,ks,amm,l5,l6,k5⟩;have n5:=k5.n;simp only[Ag]at n5 l5 l6;have lpo:=po.pk.lt;have lpb:=po.bk.lt;have pne:=po.ne;have hd5:Bk h5 d (GJ D fm bb):=Ao k5 om uc;refine AK ?_ (c:=Jj L (D:=D) (fm:=fm) (bb:=bb) uc);rintro _ rfl;rw[ED];refine ret X.f102.1 ?_;have ac6:Kp (λj=>j=h4.n+1+1+1\/j=h4.n) h (hp (h5.n+1) h5.t [(h5.n,some (cl [.ptr (h4.n+1+1+1) 0]))]):=AH;have k0F:K0 h (hp (h5.n+1) h5.t [(h5.n,some (cl [.ptr (h4.n+1+1+1) 0]))]):=⟨ac6.n,λb hb hn=>ac6.old b hb om⟩;have mpF:II S D.nb D.P (hp (h5.n+1) h5.t [(h5.n,some (cl [.ptr (h4.n+1+1+1) 0]))]) m r1 r2 vb _:=aU.kp (B:=λj=>j=h4.n+1+1+1\/j=h4.n) AH om om om om;refine⟨h5.n,⟨h4.n+1+1+1,p,pb,m,r1,r2,vb,h4.n,h4.n+1,h4.n+1+1,d⟩,nX AD h.n ⟨h4.n+1+1+1,p,pb,m,r1,r2,vb,h4.n,h4.n+1,h4.n+1+1,d⟩,rfl,AG,?_,rfl,?_,k0F,λb hb=>adp hb⟩;.simp only[nX];repeat rw[AM om]
 .refine⟨?_,⟨RC,(po.k0 AH).qZ λi hi=>AP hi⟩,⟨ok,fm,bb,cb,(q.rc λb hb=>adp hb).kb (k0F.mono λ_ f=>f.elim)⟩,mpF,amm.kp (B:=λ_=>False) za id,⟨[],0,?_,EP.nil,λk=>rfl⟩,⟨[],0,?_,EP.nil,λk=>rfl⟩,?_⟩;.show Bk _ _ (XT p d D.nb D.P D.sz D.en m nx la h4.n (h4.n+1) (h4.n+1+1));exact AG
  .exact CH
  .exact CH
  .refine⟨?_,?_,?_,?_,?_,?_,?_,?_,?_,?_⟩<;>(simp only[nX];repeat(first|rw[AP trivial]|rw[AP om]|rw[AM om]))
theorem Fj{e:Int}:CL L 129 [.bool true,.int .i64 e] h λv AA=>v= .BM []/\AA=h:=by refine Ad L X.f129 λQ x cs G=>?_;refine ret X.f129.1 ?_;exact⟨rfl,rfl⟩
theorem U9{x:IL×Nat}{sz:Nat}:CL L 160 [.agg (HS sz x)] h λv AA=>v= .bool (H2 x.1)/\K0 h AA:=by
 obtain⟨⟨a,s,d⟩,b⟩:=x;show CL L 160 [.agg [.int .u8 (s.kind:Int),.int .i64 s.sec,UN s.seq,UN s.prev,.int .i64 s.idx,.int .i64 s.len,AN a,.AE b 0 sz (Aa+1)]] h _;by_cases e:s.kind=1;.have e2:H2 ⟨a,s,d⟩=true:=CM e;refine Aj L X.f160 λQ x cs G=>?_;refine ret X.f160.1 ?_;exact⟨by rw[e2];rfl,AH⟩
 .have e2:H2 ⟨a,s,d⟩=false:=CW e;refine Aj L X.f160 λQ x cs G=>?_;refine ret X.f160.1 ?_;exact⟨by rw[e2];rfl,AH⟩
theorem Ab2{d j:Nat}(r:IK AD h d D)(hi:i<D.nb)(hj:j<D.P)(ED:D.off=false)(he:((D.bl i).pg j).st≠2/\((D.bl i).pg j).st≠3):CL L 125 [.ptr d 0,AN i,AN j] h λv AA=>(∃e:Nat,v= .BM [.AS,.AS,AN e]/\0<e/\e<1000)/\K0 h AA:=by
 obtain⟨ok,fm,bb,cb,q⟩:=r;have hd:=q.dk;have UH:=q.bk;obtain⟨pn,c,hr⟩:=q.rows i hi;have HC:=((ok.bl i hi).pg j hj).st;have hP:=ok.g.P;have bY:=hr.row.k;have QM:=hr.c0;have abu:cb[i*3+0]?=some (.AE pn 0 D.P D.P):=QM;have DL:=(hr.row.pg j hj).st;refine Bj L X.f125 λQ x cs G=>?_;refine AK ?_ (c:=Eh L hd);rintro _ rfl;refine AK ?_ (c:=Ji L hd);rintro _ rfl;rw[CM (show(0<=(i:Int)/\(i:Int)<D.nb)/\0<=(j:Int)/\(j:Int)<D.P from om)];obtain⟨s2,s3⟩:=he;have dr:=(hr.row.pg j hj).none s2 s3;unfold GJ T2 at hd;rw[ED]at hd;refine wk ?_;by_cases s1:((D.bl i).pg j).st=1;.refine ret X.f125.1 ?_;exact⟨⟨52,rfl,om,om⟩,AH⟩
 exact Axp
theorem Va(D:Dv)(i n:Nat):(N5 D i n).length<=n:=EM (List.length_filterMap_le _ _) (by rw[ZY];exact BD _)
theorem gt(D:Dv)(i n:Nat):N5 D i (n+1)=N5 D i n++(F6 D i n).toList:=by
 unfold N5;rw[WQ,List.filterMap_append]
 cases h:F6 D i n<;>simp[h]
theorem N6(D:Dv)(n:Nat):Gt D (n+1)=Gt D n++N5 D n (D.bl n).nx:=by unfold Gt;rw[WQ,OX];simp
theorem Kw{D:Dv}(ok:D.Ok):∀n,n<=D.nb->(Gt D n).length<=n*6
 |0,_=>CN _
 |n+1,h=>by rw[N6,DX];have h1:=Kw ok n om;have h2:=Va D n (D.bl n).nx;have h3:=(ok.bl n h).nx;have h4:=ok.g.P;omega
theorem Ab3{d:Nat}(r:IK AD h d D)(ED:D.off=false):CL L 131 [.ptr d 0] h λv AA=>PL h.n AA D.sz v (Af D)/\K0 h AA:=by
 have r0:=r;obtain⟨ok,fm,bb,cb,q⟩:=r;have hd:=q.dk;have FT:=ok.g.nb;have hP:=ok.g.P;have DE:=ok.g.sz;refine Aj L X.f131 λQ x cs G=>?_;refine AK ?_ (c:=Df L hd);rintro _ h1 ⟨rfl,k1⟩;refine wk ?_;refine Bt L (α:=AV) (T:=λi v=>[(15,some (AN i)),(14,some (AN D.nb)),(3,some (.ptr h1.n 0)),(2,some v),(0,some (.ptr d 0))]) (n:=D.nb) (R:=λi v h2=>PL (h1.n+1) h2 D.sz v (Gt D i)/\Bk h2 h1.n [AN D.nb,AN D.P,AN D.sz,AN D.en]/\K0 h h2) (i0:=0) .AS BA ⟨PL.nil _ _ _,AG,AH⟩ (CN _) ?_ ?_
 .rintro i v h2 hi ⟨w1,w2,w3⟩ ih;obtain⟨pn,c,hr⟩:=q.rows i hi;have HB:=(ok.bl i hi).nx;have dr:=Kw ok i om;refine AK ?_ (c:=Nk L (Ab (by exact w3) hd) (Ab (by exact w3) q.bk) hi hr.c1);rintro _ rfl;rw[N6]at ih;refine wk ?_;refine Bt L (α:=AV) (T:=λj v=>[(21,some (AN j)),(20,some (AN ((D.bl i).nx))),(4,some (AN i)),(15,some (AN i)),(14,some (AN D.nb)),(3,some (.ptr h1.n 0)),(2,some v),(0,some (.ptr d 0))]) (n:=(D.bl i).nx) (R:=λj v h3=>PL (h1.n+1) h3 D.sz v (Gt D i++N5 D i j)/\Bk h3 h1.n [AN D.nb,AN D.P,AN D.sz,AN D.en]/\K0 h h3) (i0:=0) v BA ⟨by rw[show N5 D i 0=[]from rfl,MO];exact w1,w2,w3⟩ (CN _) ?_ ?_
  .clear ih w1 w2 w3;rintro j v h3 hj ⟨w1,w2,w3⟩ ih;rw[gt]at ih;have ZF:=Va D i j;have pM:∀b m c,v= .AE b 0 m c->h1.n+1<=b/\b<h3.n:=λb m c e=>by obtain⟨l,-,-,⟨-,e2⟩|⟨-,AR,e2,kb,aP,-⟩⟩:=w1.ex<;>rw[e2]at e<;>cases e;exact⟨aP,kb.lt⟩
   have aqq:i*D.P<=44*6:=NB om hP.2;by_cases hs:((D.bl i).pg j).st=2\/((D.bl i).pg j).st=3
   .refine AK ?_ (c:=aal L (r0.k0 (by exact w3)) hi hj ED hs);rintro _ h4 ⟨b1,b2,rfl,w4,w5,w6,w7,w8⟩;have n4:=w8.n;simp only[Ag]at w6 w7;(try simp only[Ag]at n4);have KY:=((ok.bl i hi).pg j om).full hs;have l1:=w4.ET;have RJ:(((D.bl i).pg j).b.take D.sz).length=D.sz:=bm;refine AK ?_ (c:=ang L w5 w4 pt RJ om);rintro _ h5 ⟨⟨e,rfl,he,YN⟩,w9⟩;have n5:=w9.n;(try simp only[Ag]at n5);have po:F6 D i j=(Nz (((D.bl i).pg j).b.drop D.sz) (((D.bl i).pg j).b.take D.sz)).map λs=>⟨i*D.P+j,s,((D.bl i).pg j).b.take D.sz⟩:=by unfold F6;rw[AP hs]
    generalize Nz (((D.bl i).pg j).b.drop D.sz) (((D.bl i).pg j).b.take D.sz)=ds at*;generalize ((D.bl i).pg j).b.take D.sz=data at*;have mK:K0 h3 h5:=Kp.EA w9 w8;have w2':=Ab mK w2
    cases ds with
    |none=>
     have VT:e≠0:=λe=>by have:=he.1 e;cases this
     refine wk ?_;refine ih v _ _ ⟨by rw[po];simp only[aj,Option.toList_none,MO];exact w1.k0 (Kp.EA (m:=h5) za mK),uc,Kp.EA (m:=h5) za (Kp.EA mK w3)⟩ BA
    |some s=>have VT:e=0:=he.2 rfl;subst VT;obtain⟨sk,jD,jE,jC,j9,jB⟩:=s;have w4':=w4.k0 w9;simp only[MC,NL];refine wk ?_;refine xP L rfl rfl (QA:=h1.n+1) (z:=⟨i*D.P+j,⟨sk,jD,jE,jC,j9,jB⟩,data⟩) (db:=b1) ((w1.k0 mK).k0 za) om rfl (CG.of uc (BD _) rfl) (by exact EN) om RJ (λb m c e=>by have:=pM b m c e;omega) eF ?_;rintro AQ h6 q6 k6- n6;have eS:=k6.n;simp only[Ag]at eS;have kg6:Bk h6 h1.n [AN D.nb,AN D.P,AN D.sz,AN D.en]:=Ao k6 om uc;have uV:K0 h h6:=Kp.DZ k6 (λi hi e=>om) (Kp.EA (m:=h5) za (Kp.EA mK w3));refine wk ?_;refine ih AQ _ _ ⟨by rw[po];simpa[NP]using q6.k0 (Kp.EA (m:=h6) za (Kp.refl _)),uc,Kp.EA (m:=h6) za uV⟩ BA
   .refine AK ?_ (c:=Ab2 L (r0.k0 (by exact w3)) hi om ED om);rintro _ h4 ⟨⟨e,rfl,VT,YN⟩,w8⟩;have n4:=w8.n;(try simp only[Ag]at n4);have po:F6 D i j=none:=(by unfold F6;rw[AM hs]);have w2':=Ab w8 w2;refine wk ?_;refine ih v _ _ ⟨by rw[po];simp only[Option.toList_none,MO];exact w1.k0 (Kp.EA (m:=h4) za w8),uc,Kp.EA (m:=h4) za (Kp.EA w8 w3)⟩ BA
  .rintro v h3 ⟨w1,w2,w3⟩;refine wk ?_;refine ih v _ _ ⟨w1.k0 za,uc,Kp.EA (m:=h3) za w3⟩ BA
 .rintro v h2 ⟨w1,w2,w3⟩;refine ret X.f131.1 ?_;exact⟨(w1.k0 za).mono om,Kp.EA (m:=h2) za w3⟩
theorem Alw{x:IL×Nat}{sz:Nat}(k:BS h x.2 0 x.1.data)(hl:x.1.data.length=sz)(hn:12<=sz/\sz<1000):CL L 133 [.agg (HS sz x)] h λv AA=>v= .bool (JX x.1)/\K0 h AA:=by
 obtain⟨⟨a,s,d⟩,b⟩:=x;have l1:=k.ET;show CL L 133 [.agg [.int .u8 (s.kind:Int),.int .i64 s.sec,UN s.seq,UN s.prev,.int .i64 s.idx,.int .i64 s.len,AN a,.AE b 0 sz (Aa+1)]] h _;refine Aj L X.f133 λQ x cs G=>?_;refine AK ?_ (c:=adx L (bs:=d) EN hl hn);rintro _ h2 ⟨⟨u,e,rfl,w1,w2,w3⟩,w4⟩;have n4:=w4.n;simp only[Ag]at n4;refine AK ?_ (c:=U9 L (x:=(⟨a,s,d⟩,b)) (sz:=sz));rintro _ h3 ⟨rfl,w5⟩;have ej:JX ⟨a,s,d⟩=(!H2 ⟨a,s,d⟩&&(N1 d).isSome):=rfl;by_cases hk:H2 ⟨a,s,d⟩=true;.rw[hk];refine ret X.f133.1 ?_;exact⟨by rw[ej,hk];rfl,AH⟩
 .have hk:=Yw.2 hk;rw[hk];by_cases he:e=0;.subst he;refine ret X.f133.1 ?_;exact⟨by rw[ej,hk,w2.1 rfl];rfl,AH⟩
  .refine ret X.f133.1 ?_;exact⟨by rw[ej,hk,Yw.2 (λq=>he (w2.2 q))];rfl,AH⟩
theorem Agq{sz:Nat}{LL:List IL}(q:PL lo h sz v LL)(hL:LL.length<=300)(hn:12<=sz/\sz<1000)(HX:lo<=h.n):CL L 132 [v,.fn (.func 133) [] []] h λu AA=>PL lo AA sz u (LL.filter JX)/\K0 h AA:=by
 have q0:=q;obtain⟨l,rfl,q1,q2⟩:=q.ex;have hlen:l.length<=300:=by simpa using hL
 have VU:∀x∈l,(HS sz x).length=8:=λ_ _=>rfl;rcases q2 with⟨rfl,rfl⟩|⟨q3,lb,rfl,q4,q5,q6⟩
 .refine Ad L X.f132 λQ x cs G=>?_;refine wk ?_;refine Bi L ?_;refine ret X.f132.1 ?_;exact⟨PL.nil _ _ _,AH⟩
 refine Ad L X.f132 λQ x cs G=>?_;refine wk ?_;refine Bt L (α:=AV) (T:=λi v=>[(9,some (AN i)),(8,some (AN l.length)),(7,some (.AE lb 0 l.length (Aa+8))),(4,some v),(1,some (.fn (.func 133) [] []))]) (n:=l.length) (R:=λi v h2=>PL lo h2 sz v (((l.take i).map (·.1)).filter JX)/\(∀b m c,v= .AE b 0 m c->h.n<=b)/\K0 h h2) (i0:=0) .AS BA ⟨PL.nil _ _ _,(λ_ _ _ e=>by cases e),AH⟩ (CN _) ?_ ?_
 .rintro i v h2 hi ⟨w1,wb,w2⟩ ih;have hx:l[i]?=some l[i]:=DA hi;have DF:=A7 l VU i _ hx;have hm:=LC hi;obtain⟨r1,r2,r3⟩:=q1 _ hm;have e1:((l.take (i+1)).map (·.1)).filter JX=((l.take i).map (·.1)).filter JX++(if JX l[i].1 then[l[i].1]else[]):=by rw[LO,hx,IG,jO];simp only[Option.toList_some,FU,Zb,RT,List.filter_nil]
  rw[e1]at ih;have p8:(((l.take i).map (·.1)).filter JX).length<=300:=by refine EM (V0 _ _) ?_;rw[DC,IS];omega
  generalize l[i]=y at*;obtain⟨⟨pa,s,data⟩,db⟩:=y;have HV:i*8+8<=(l.flatMap (HS sz)).length/\((l.flatMap (HS sz)).drop (i*8)).take 8=[.int .u8 (s.kind:Int),.int .i64 s.sec,UN s.seq,UN s.prev,.int .i64 s.idx,.int .i64 s.len,AN pa,.AE db 0 sz (Aa+1)]:=DF;have k2:=(Ab w2 q4).rk;have eg:=r1.k0 w2;have qL:=r1.ET;clear q4;refine wk ?_;refine BO L (A0 JY HV rfl) ?_;refine AK ?_ (c:=Alw L (x:=(⟨pa,s,data⟩,db)) (by exact EN) r3 hn);rintro _ h3 ⟨rfl,w3⟩;have n3:=w3.n;simp only[Ag]at n3;have ZN:K0 h2 h3:=Kp.EA w3 AH;by_cases hp:JX ⟨pa,s,data⟩=true;.have qq:=w1.k0 ZN;have aly:=eg.k0 ZN;have q9:Bk h3 h2.n [.int .u8 (s.kind:Int),.int .i64 s.sec,UN s.seq,UN s.prev,.int .i64 s.idx,.int .i64 s.len,AN pa,.AE db 0 sz (Aa+1)]:=Ab w3 AG;rw[hp]at ih ⊢;rw[AP rfl]at ih;refine wk ?_;refine xP L rfl rfl (QA:=h.n) (z:=⟨pa,s,data⟩) (db:=db) (qq.k0 za) (by have:=HX;omega) rfl (CG.of uc (BD _) rfl) (aly.k0 za) r2 r3 (λb m c e=>by have:=wb b m c e;exact⟨om,this⟩) om ?_;rintro AQ h6 q6 k6 dy n6;have eS:=k6.n;simp only[Ag]at eS;have uV:K0 h h6:=Kp.DZ k6 (λi hi e=>om) (Kp.EA (m:=h3) za (Kp.EA ZN w2));refine wk ?_;refine ih AQ _ _ ⟨q6.k0 (Kp.EA (m:=h6) za (Kp.refl _)),(λb m c e=>by have:=dy b m c e;omega),Kp.EA (m:=h6) za uV⟩ BA
  .rw[Yw.2 hp]at ih ⊢;rw[AM W0,MO]at ih;refine wk ?_;exact ih v _ _ ⟨w1.k0 (Kp.EA (m:=h3) za ZN),wb,Kp.EA (m:=h3) za (Kp.EA ZN w2)⟩ BA
 .rintro v h2 ⟨w1,wb,w2⟩;refine ret X.f132.1 ?_;rw[NA]at w1;exact⟨w1.k0 za,Kp.EA (m:=h2) za w2⟩
variable {LL:List IL}{Q:Nat->AV->Prop}{bytes SF ck fm fn QA nt o2 xb:Nat}{cs:FM}{AL:Bool}{hh:H}{lv:AV}{post:OF}{s z:Int}
theorem zU{p:Prop}(h:p:=by
 show(match A8 v1 with|true=>(match A8 v2 with|true=>true|false=>false)|false=>false)=true
 rw[a1,a2]):p:=h
theorem DN.mono{D:List Int}(q:DN h lo v D)(k:QA<=lo):DN h QA v D:=by exact yM
theorem DN.kq{S:Nat->Prop}{D:List Int}(q:DN h lo v D)(k:Kp S h AA)(hs:∀b,lo<=b->¬S b):DN AA lo v D:=by exact yL
structure bD (h:H)(lo:Nat)(v:AV)(l:List (JP×AV)):Prop where
 ex:(l=[]/\v= .AS)\/(0<l.length/\∃b,v= .AE b 0 l.length (Aa+7)/\na h lo b l)
theorem bD.k0{l:List (JP×AV)}(k:K0 h AA)(q:bD h lo v l):bD AA lo v l:=⟨q.ex.imp id λ⟨a,b,e,p⟩=>⟨a,b,e,⟨Ab k p.k,λx hx=>(p.el x hx).k0 k,p.lo,p.bd⟩⟩⟩
theorem bD.blt{l:List (JP×AV)}(q:bD h lo v l):∀b n c,v= .AE b 0 n c->b<h.n:=λb n c e=>by
 rcases q.ex with⟨-,h⟩|⟨-,AR,h,p⟩<;>rw[h]at e<;>cases e
 exact p.k.lt
section
variable {l:CJ}{n d:Nat}{t:T DV}{lh:SA}{x:O}{gd:Option (Nat×Bool)}{r:List CI}{k:DO}{ds:List HN}{ro:Option Nat}
include L
theorem Aup{lu b2:Nat}{u:AV}{ls:List (JP×AV)}{w:JP}(hg:HH gd l=some true)(e:AU l x=some v)(q:bD (hp n t lh) lo v ls)(HX:lo<=n)(e1:AU l y=some (.AE b2 o2 1 SF))(k2:CG 7 (hp n t lh) (.AE b2 o2 1 SF) 1 (FP (w,u)))(hu:EL (hp n t lh) lu u w.2)(hl:lo<=lu)(hv:∀b n c,v= .AE b 0 n c->b<lu)(hb:(ls.length+1)*(bytes+1)<=1099511627776)(g:∀AQ AA,bD AA lo AQ (ls++[(w,u)])->Kp (λj=>lo<=j) (hp n t lh) AA->Good P0 E Q ⟨⟨fn,nt,AJ ((d,some AQ)::l),.ops r::k,ds,.run,AL,ro⟩,cs,hp AA.n AA.t []⟩):Good P0 E Q ⟨⟨fn,nt,AJ l,.ops (⟨some d,gd,.append 7 bytes x y⟩::r)::k,ds,.run,AL,ro⟩,cs,hp n t lh⟩:=by
 have hub:∀c m AR,u= .AE AR 0 m c->AR<n:=λc m AR e=>by rcases hu.ex with⟨-,h⟩|⟨-,b,h,p,-⟩<;>rw[h]at e<;>cases e;exact p.lt
 have LA:Av (FP (w,u))=true:=by rcases hu.ex with⟨-,rfl⟩|⟨-,b,rfl,-⟩<;>rfl
 rcases q.ex with⟨rfl,rfl⟩|⟨h1,b,rfl,pr⟩
 .have kk:Bk (hp (n+1) t ((n,some (cl (FP (w,u))))::lh)) n (FP (w,u)):=AG;have k0:K0 (hp n t lh) (hp (n+1) t ((n,some (cl (FP (w,u))))::lh)):=AH;refine Et L (Az hg) (D1 e e1 k2 om mJ).e (g (.AE n 0 1 (Aa+7)) (hp (n+1) t ((n,some (cl (FP (w,u))))::lh)) ⟨.inr ⟨cU _,n,rfl,⟨by simpa using kk,λy hy=>?_,HX,λy hy c m AR e=>?_⟩⟩⟩ AH);.rw[RV,EV]at hy;subst hy;exact(hu.mono hl).k0 k0
  .rw[RV,EV]at hy;subst hy;exact hub c m AR e
 .have oz:=hv b _ _ rfl;have Le:b<n:=pr.k.lt;have kk:Bk (hp (n+1) t ((n,some (cl (ls.flatMap FP++FP (w,u))))::(b,none)::lh)) n (ls.flatMap FP++FP (w,u)):=AG;have kb:Kp (λj=>j=b) (hp n t lh) (hp (n+1) t ((n,some (cl (ls.flatMap FP++FP (w,u))))::(b,none)::lh)):=AH;have ap6:=pr.lo;have el:∀{QA:Nat} {z:AV} {es:List BI},EL (hp n t lh) QA z es->(∀c m AR,z= .AE AR 0 m c->AR≠b)->lo<=QA->EL (hp (n+1) t ((n,some (cl (ls.flatMap FP++FP (w,u))))::(b,none)::lh)) lo z es:=λq BZ h=>by
   rcases q.ex with h7|⟨h7,AR,h8,h9,UE⟩;.exact⟨.inl h7⟩
   .exact⟨.inr ⟨h7,AR,h8,Ao kb (BZ _ _ _ h8) h9,om⟩⟩
  have GR:=B8 ls (Lc ls);refine Et L (Az hg) (D7 e e1 (CG.of (c:=ls.flatMap FP) pr.k om iK) k2 om hb LA).e (g (.AE n 0 (ls.length+1) (Aa+7)) (hp (n+1) t ((n,some (cl (ls.flatMap FP++FP (w,u))))::(b,none)::lh)) ⟨.inr ⟨by simp,n,by simp,⟨by rw[OX];simpa using kk,λy hy=>?_,HX,λy hy c m AR e=>?_⟩⟩⟩ (kb.mono λj e=>om))
  .rcases GU.1 hy with hy|hy;.exact el (pr.el y hy) (λc m AR e=>by have:=pr.bd y hy _ _ _ e;omega) (BD _)
   .rw[EV.1 hy];exact el hu (λc m AR e=>by
     rcases hu.ex with⟨-,h⟩|⟨-,ape,h,-,p⟩;.have h:u= .AS:=h;rw[h]at e;cases e
     .have h:u=_:=h;rw[h]at e;cases e;omega) hl
  .rcases GU.1 hy with hy|hy;.have:=pr.bd y hy _ _ _ e;omega
   .rw[EV.1 hy]at e;exact hub c m AR e
end
theorem Ab5{sz:Nat}(q:PL lo h sz v (LL.filter JX))(hn:12<=sz/\sz<1000)(hl:(jps LL).length<=300)(ES:∀p∈jps LL,p.1.Jr/\p.1.seq<9223372036854775808/\p.2.length<=300):CL L 134 [v] h λu AA=>∃o ks v1 v2,u= .agg [v1,UN (PB ks),v2]/\VH (jps LL) o/\RB (jps LL) o ks/\EL AA h.n v1 (LZ (jps LL) ks)/\DN AA h.n v2 (Dn (nI (HP (jps LL) ks)))/\((LZ (jps LL) ks).length<=950000000/\(HP (jps LL) ks).length<=950000000)/\K0 h AA:=by
 obtain⟨l,VW,q1,q2⟩:=q.ex;have hJ:∀y∈l,JX y.1=true:=by
  intro y hy;have:y.1∈LL.filter JX:=by rw[<-VW];exact RQ hy
  exact(JZ.1 this).2
 have ox:l.map (λy=>Tj y.1)=jps LL:=by unfold jps;rw[<-VW,WL];rfl
 have lO:l.length<=300:=by rw[<-ox,DC]at hl;exact hl
 have VU:∀x∈l,(HS sz x).length=8:=λ_ _=>rfl
 have main:∀(Q:Nat->AV->Prop) (x:EW) (cs:FM) (h0:H) (lq:CJ),(∀u AA,(∃o ks v1 v2,u= .agg [v1,UN (PB ks),v2]/\VH (jps LL) o/\RB (jps LL) o ks/\EL AA h.n v1 (LZ (jps LL) ks)/\DN AA h.n v2 (Dn (nI (HP (jps LL) ks)))/\((LZ (jps LL) ks).length<=950000000/\(HP (jps LL) ks).length<=950000000)/\K0 h AA)->GO P0 E Q (finish u cs AA x))->Bk h0 h.n [.AS,Zu,.AS]->K0 h h0->h.n+1<=h0.n->
   FY (AJ [(10,some Zi),(9,some (AN l.length)),(8,some v),(3,some .AS),(2,some (.ptr h.n 0))]) (AJ lq)->Good P0 E Q ⟨⟨134,kG.ntmps,AJ lq,[.code Aew,.inBlock 0,.code Aex],[],.run,false,none⟩,x::cs,h0⟩:=by
  intro Q x cs h0 lq G z1 z2 z3 ht
  refine Bt L (bd:=Aev) (α:=AV×List (JP×AV)) (T:=λi s=>[(10,some (AN i)),(9,some (AN l.length)),(8,some v),(3,some s.1),(2,some (.ptr h.n 0))]) (n:=l.length)
   (R:=λi s h2=>bD h2 (h.n+1) s.1 s.2/\s.2.map (·.1)=(l.take i).map (λy=>Tj y.1)/\Bk h2 h.n [.AS,Zu,.AS]/\K0 h h2/\h.n+1<=h2.n) (i0:=0) (.AS,[]) ht ⟨⟨.inl ⟨rfl,rfl⟩⟩,rfl,z1,z2,z3⟩ (CN _) ?_ ?_
  .clear z1 z2 z3 ht
   rintro i ⟨va,ll⟩ h2 hi ⟨w1,we,w2,w3,w0⟩ ih
   simp only at w1 we
   rcases q2 with⟨e0,-⟩|⟨q3,lb,rfl,q4,q5,q6⟩
   .rw[e0]at hi;exact absurd hi (OD _)
   have hx:l[i]?=some l[i]:=DA hi
   have DF:=A7 l VU i _ hx
   have hm:=LC hi
   obtain⟨r1,r2,r3⟩:=q1 _ hm
   have hj:=hJ _ hm
   have e1:(l.take (i+1)).map (λy=>Tj y.1)=(l.take i).map (λy=>Tj y.1)++[Tj l[i].1]:=by
    rw[LO,hx,IG];rfl
   have p8:ll.length<=300:=by
    have:=HT List.length we
    rw[DC,DC,IS]at this;omega
   generalize l[i]=y at*
   obtain⟨⟨pa,s,data⟩,db⟩:=y
   have HV:i*8+8<=(l.flatMap (HS sz)).length/\((l.flatMap (HS sz)).drop (i*8)).take 8=[.int .u8 (s.kind:Int),.int .i64 s.sec,UN s.seq,UN s.prev,.int .i64 s.idx,.int .i64 s.len,AN pa,.AE db 0 sz (Aa+1)]:=DF
   have k2:=(Ab w3 q4).rk
   have eg:=r1.k0 w3
   have qL:=eg.ET
   have l2:=w2.lt
   have gU:=w1.blt
   clear q4
   refine wk ?_
   refine BO L (A0 JY HV rfl) ?_
   refine AK ?_ (c:=adx L (bs:=data) (by exact EN) r3 hn)
   rintro _ h3 ⟨⟨u,e,rfl,x1,x2,x3⟩,x4⟩
   have n3:=x4.n
   simp only[Ag]at n3 x1
   obtain rfl:e=0:=x2.2 (by unfold JX at hj;simp only[KQ]at hj;exact hj.2)
   have hdj:Tj ⟨pa,s,data⟩=(s,(N1 data).getD []):=rfl
   have q9:Bk h3 h2.n [.int .u8 (s.kind:Int),.int .i64 s.sec,UN s.seq,UN s.prev,.int .i64 s.idx,.int .i64 s.len,AN pa,.AE db 0 sz (Aa+1)]:=Ab x4 AG
   have ZN:K0 h2 h3:=Kp.EA x4 AH
   have qq:=w1.k0 ZN
   have w2':Bk h3 h.n [.AS,Zu,.AS]:=Ab ZN w2
   refine AK ?_ (c:=Fj L)
   rintro _ rfl
   refine wk ?_
   rcases x1.len with⟨aqx,rfl⟩|⟨-,ub,rfl,-,-⟩
   all_goals
    refine wk ?_
    refine Aup L rfl rfl (w:=(s,(N1 data).getD [])) (qq.k0 za) om rfl (CG.of uc (BD _) rfl) (x1.k0 za) om (λb n c e=>by have:=gU b n c e;omega) om ?_
    rintro v9 h9 g9 k9
    have n9:=k9.n
    simp only[Ag]at n9
    have k09:K0 h h9:=Kp.DZ k9 (λi hi e=>om) (Kp.EA (m:=h3) za (Kp.EA ZN w3))
    have aqw:Bk h9 h.n [.AS,Zu,.AS]:=Ao k9 om uc
    refine wk ?_
    refine ih (v9,ll++[((s,(N1 data).getD []),_)]) _ _ ⟨g9.k0 (Kp.EA (m:=h9) za (Kp.refl _)),by rw[IG,we,e1,hdj];rfl,uc,Kp.EA (m:=h9) za k09,(by show h.n+1<=h9.n;omega)⟩ BA
  .rintro⟨va,ll⟩ h2 ⟨w1,we,w2,w3,w0⟩
   simp only at w1 we
   rw[NA,ox]at we
   have l2:=w2.lt
   have tu:∀x∈ll,x.1.1.Jr/\x.1.1.seq<9223372036854775808/\x.1.2.length<=300:=λx hx=>ES _ (by rw[<-we];exact RQ hx)
   have UK:ll.length<=300:=by rw[<-we,DC]at hl;exact hl
   have hEL:∀x∈ll,EL h2 (h.n+1) x.2 x.1.2:=λx hx=>by
    rcases w1.ex with⟨rfl,-⟩|⟨-,b,-,p⟩
    .cases hx
    .exact p.el x hx
   have gj:(ll=[]/\va= .AS)\/∃lb,va= .AE lb 0 ll.length (Aa+7)/\Bk h2 lb (ll.flatMap FP):=w1.ex.imp id λ⟨_,b,e,p⟩=>⟨b,e,p.k⟩
   refine AK ?_ (c:=ani L (l:=ll) (λx hx=>(tu x hx).1) hEL gj UK (λx hx=>(tu x hx).2.2) (λx hx=>(tu x hx).2.1))
   rintro _ h3 ⟨o,ks,v1,v2,rfl,y1,y2,y3,y4,y5,y6⟩
   rw[we]at y1 y2 y3 y4 y5
   have n3:=y6.n
   try simp only[Ag]at n3
   have a2:A8 v2=true:=by rcases y4.ex with⟨_,rfl⟩|⟨_,b,rfl,_⟩<;>rfl
   have tx:Av [v1,UN (PB ks),v2]=true:=by
    have a1:=y3.plain.2
    exact zU
   refine wk ?_
   (apply fD L rfl rfl rfl rfl rfl tx;exact AG;rfl;rfl)
   refine ret X.f134.1 ?_
   exact⟨o,ks,v1,v2,rfl,y1,y2,(y3.kS (S:=λj=>j=h.n) za (λb hb f=>om)).mono om,(y4.kq (S:=λj=>j=h.n) za (λb hb f=>om)).mono om,y5,AH⟩
 have hlq:v= .AS\/∃lb,v= .AE lb 0 l.length (Aa+8):=q2.imp (·.2) λ⟨_,b,e,_⟩=>⟨b,e⟩;refine Aj L X.f134 λQ x cs G=>?_;rcases q2 with⟨e0,rfl⟩|⟨q3,lb,rfl,q4,-⟩
 .refine wk ?_;refine main Q x cs _ _ G AG AH (BD _) ?_;rw[e0];exact BA
 .refine wk ?_;refine main Q x cs _ _ G AG AH (BD _) BA
theorem zV{p:Prop}(h:p:=by
 show CL L 166 [.agg [.int .u8 (sp.kind:Int),.int .i64 sp.sec,UN sp.seq,UN sp.prev,.int .i64 sp.idx,.int .i64 sp.len,AN a,.AE b 0 sz (Aa+1)],.ptr xb 0] h _
 refine Ad L X.f166 λQ x cs G=>?_
 refine ret X.f166.1 ?_
 exact⟨rfl,AH⟩):p:=h
theorem ail{x:IL×Nat}{sz:Nat}{p:Int}(k:Bk h xb [AI s,AI p]):CL L 166 [.agg (HS sz x),.ptr xb 0] h λv AA=>v= .bool (decide ((x.1.at_:Int)=p))/\K0 h AA:=by
 obtain⟨⟨a,sp,d⟩,b⟩:=x;by_cases q:(a:Int)=p;.rw[show decide ((((IL.mk a sp d,b).1.at_:Nat):Int)=p)=true from CM q];exact zV
 .rw[show decide ((((IL.mk a sp d,b).1.at_:Nat):Int)=p)=false from CW q];exact zV
def Z0(p:Int)(x:IL):Bool:=decide ((x.at_:Int)=p)
theorem anj{sz:Nat}{p:Int}(q:PL lo h sz lv LL)(k:Bk h xb [AI s,AI p])(hL:LL.length<=300):CL L 165 [lv,.fn (.func 166) [] [.ptr xb 0]] h λv AA=>v=AI (match LL.findIdx? (Z0 p)with|some j=>(j:Int)|none=> -1)/\K0 h AA:=by
 obtain⟨l,rfl,q1,q2⟩:=q.ex;have hlen:l.length<=300:=by simpa using hL
 have VU:∀x∈l,(HS sz x).length=8:=λ_ _=>rfl;rcases q2 with⟨rfl,rfl⟩|⟨q3,lb,rfl,q4,-,-⟩
 .refine Ad L X.f165 λQ x cs G=>?_;refine wk ?_;refine Bi L ?_;refine ret X.f165.1 ?_;exact⟨rfl,AH⟩
 have round:∀(Q:Nat->AV->Prop) (x:EW) (cs:FM) (i:Nat) (y:IL×Nat) (h2:H),l[i]?=some y->K0 h h2->(∀(h3:H) (lq:CJ),Z0 p y.1=false->K0 h h3->FY (AJ [(8,some (AN (i+1))),(7,some (AN l.length)),(0,some (.AE lb 0 l.length (Aa+8))),(1,some (.fn (.func 166) [] [.ptr xb 0]))]) (AJ lq)->Good P0 E Q ⟨⟨165,kH.ntmps,AJ lq,[.inLoop Wo,.inBlock 0,.code jp],[],.run,false,none⟩,x::cs,h3⟩)->
   (∀v AA,(v=AN i/\K0 h AA)->GO P0 E Q (finish v cs AA x))\/Z0 p y.1=false->
   Good P0 E Q ⟨⟨165,kH.ntmps,AJ [(8,some (AN i)),(7,some (AN l.length)),(0,some (.AE lb 0 l.length (Aa+8))),(1,some (.fn (.func 166) [] [.ptr xb 0]))],[.code Wo,.inLoop Wo,.inBlock 0,.code jp],[],.run,false,none⟩,x::cs,hp h2.n h2.t []⟩:=by
  intro Q x cs i y h2 hx k2 cont aft
  have hi:i<l.length:=(FE.1 hx).1
  have DF:=A7 l VU i _ hx
  obtain⟨⟨pa,s,data⟩,db⟩:=y
  have HV:i*8+8<=(l.flatMap (HS sz)).length/\((l.flatMap (HS sz)).drop (i*8)).take 8=[.int .u8 (s.kind:Int),.int .i64 s.sec,UN s.seq,UN s.prev,.int .i64 s.idx,.int .i64 s.len,AN pa,.AE db 0 sz (Aa+1)]:=DF
  have kr:=(Ab k2 q4).rk
  have kx:=Ab k2 k
  refine wk ?_
  refine BO L (A0 JY HV rfl) ?_
  refine wk ?_
  refine Jv L rfl rfl rfl rfl rfl (ail L (x:=(⟨pa,s,data⟩,db)) (sz:=sz) uc).A ?_
  rintro _ h3 ⟨rfl,w1⟩
  by_cases hp:Z0 p ⟨pa,s,data⟩=true
  .have e1:decide (((((⟨pa,s,data⟩,db):IL×Nat).1.at_:Nat):Int)=p)=true:=hp
   rw[e1]
   rcases aft with G|G
   .refine ret X.f165.1 ?_
    exact⟨rfl,AH⟩
   .exact absurd (hp.symm.trans G) W0
  .have e1:decide (((((⟨pa,s,data⟩,db):IL×Nat).1.at_:Nat):Int)=p)=false:=Yw.2 hp
   rw[e1]
   refine wk ?_
   exact cont _ _ (by simpa using hp) za BA
 refine Ad L X.f165 λQ x cs G=>?_;refine wk ?_
 cases hf:(l.map (·.1)).findIdx? (Z0 p)with
 |none=>
  rw[hf]at G;rw[nB]at hf;refine Bt L (α:=Unit) (T:=λi _=>[(8,some (AN i)),(7,some (AN l.length)),(0,some (.AE lb 0 l.length (Aa+8))),(1,some (.fn (.func 166) [] [.ptr xb 0]))]) (n:=l.length) (R:=λi _ h2=>K0 h h2) (i0:=0) () BA AH (CN _) ?_ ?_;.rintro i _ h2 hi w1 ih;refine round Q x cs i l[i] h2 (DA hi) w1 (λh3 lq _ k3 t3=>ih () h3 lq k3 t3) (.inr ?_);exact hf _ (RQ (LC hi))
  .rintro _ h2 w1;refine ret X.f165.1 ?_;exact⟨rfl,AH⟩
 |some j=>
  rw[hf]at G;rw[List.findIdx?_eq_some_iff_getElem]at hf;obtain⟨hj,DL,NJ⟩:=hf;rw[DC]at hj;refine Bt L (α:=Unit) (T:=λi _=>[(8,some (AN i)),(7,some (AN l.length)),(0,some (.AE lb 0 l.length (Aa+8))),(1,some (.fn (.func 166) [] [.ptr xb 0]))]) (n:=j) (R:=λi _ h2=>K0 h h2) (i0:=0) () BA AH (CN _) ?_ ?_;.rintro i _ h2 hi w1 ih;refine round Q x cs i (l[i]'om) h2 (DA _) w1 (λh3 lq _ k3 t3=>ih () h3 lq k3 t3) (.inr ?_);have:=NJ i hi;rw[fQ]at this;simpa using this
  .rintro _ h2 w1;refine round Q x cs j l[j] h2 (DA hj) w1 (λh3 lq e k3 t3=>?_) (.inl λv AA p=>G v AA p);rw[fQ]at DL;rw[DL]at e;cases e
theorem Ab6{e:BI}{j:Nat}(hf:LL.findIdx? (Z0 e.2)=some j):∃x,LL[j]?=some x/\Qh LL e=(H2 x&&decide (x.s.sec=e.1)):=by
 unfold Qh;rw[List.findIdx?_eq_some_iff_getElem]at hf;obtain⟨hj,h1,h2⟩:=hf;refine⟨LL[j],DA hj,?_⟩;have:LL.find? (λx=>decide (((x.at_:Nat):Int)=e.2))=some LL[j]:=by rw[List.find?_eq_some_iff_getElem];exact⟨h1,j,hj,rfl,λi hi=>by have:=h2 i hi;simpa[Z0]using this⟩
 rw[this]
theorem aim{e:BI}(hf:LL.findIdx? (Z0 e.2)=none):Qh LL e=false:=by
 unfold Qh;rw[nB]at hf;have:LL.find? (λx=>decide (((x.at_:Nat):Int)=e.2))=none:=by rw[List.find?_eq_none];intro x hx;have:=hf x hx;unfold Z0 at this;rw[this];simp
 rw[this]
theorem ul{sz:Nat}{ev:AV}{es:List BI}(q:PL QA h sz lv LL)(k:EL h lo ev es)(hL:LL.length<=300)(hE:es.length<=950000000)(JF:∀e∈es,Qh LL e=true):CL L 137 [lv,ev] h λv AA=>v= .BM []/\K0 h AA:=by
 rcases k.len with⟨rfl,rfl⟩|⟨g1,eb,rfl,g3,g4⟩;.refine Ad L X.f137 λQ x cs G=>?_;refine wk ?_;refine Bi L ?_;refine ret X.f137.1 ?_;exact⟨rfl,AH⟩
 refine Ad L X.f137 λQ x cs G=>?_;refine wk ?_;refine Bt L (α:=Unit) (T:=λi _=>[(9,some (AN i)),(8,some (AN es.length)),(7,some (.AE eb 0 es.length (Aa+2))),(0,some lv)]) (n:=es.length) (R:=λi _ h2=>K0 h h2) (i0:=0) () BA AH (CN _) ?_ ?_
 .rintro i _ h2 hi w1 ih;have hx:es[i]?=some es[i]:=DA hi;have DF:=A7 es (Io es) i _ hx;have hh:=JF _ (LC hi);generalize es[i]=e at*;obtain⟨s,p⟩:=e;have HV:i*2+2<=(es.flatMap A2).length/\((es.flatMap A2).drop (i*2)).take 2=[AI s,AI p]:=DF;have kr:=(Ab w1 g3).rk;refine wk ?_;refine BO L (A0 JY HV rfl) ?_;refine AK ?_ (c:=anj L (s:=s) (p:=p) ((q.k0 w1).k0 za) uc hL);rintro _ h3 ⟨rfl,w2⟩;have n3:=w2.n;simp only[Ag]at n3
  cases hf:LL.findIdx? (Z0 p)with
  |none=>rw[aim (e:=(s,p)) hf]at hh;cases hh
  |some j=>
   obtain⟨x,hxj,e1⟩:=Ab6 (e:=(s,p)) hf;rw[e1]at hh;simp only[KQ,LP]at hh;obtain⟨l,rfl,q1,q2⟩:=q.ex;rw[GD,Xs]at hxj;obtain⟨y,hy,rfl⟩:=hxj;have hj:j<l.length:=(FE.1 hy).1;rcases q2 with⟨rfl,rfl⟩|⟨q3,lb,rfl,q4,-,-⟩;.cases hy
   have VU:∀x∈l,(HS sz x).length=8:=λ_ _=>rfl;have oq:=A7 l VU j _ hy;have bZ:(l.flatMap (HS sz))[j*8+0+1]?=some (.int .i64 y.1.s.sec):=(by have:=HT (λr=>r[1]?) oq.2;simp only[N0 (show 1<8 from om),MN]at this;exact this);obtain⟨⟨pa,sp,data⟩,db⟩:=y;simp only at hh bZ;have ai0:j*8+8<=(l.flatMap (HS sz)).length/\((l.flatMap (HS sz)).drop (j*8)).take 8=[.int .u8 (sp.kind:Int),.int .i64 sp.sec,UN sp.seq,UN sp.prev,.int .i64 sp.idx,.int .i64 sp.len,AN pa,.AE db 0 sz (Aa+1)]:=oq;have iy:Bk h3 lb (l.flatMap (HS sz)):=Ab w2 (by have:=Ab w1 q4;have:=this.lt;exact AG);have kr2:=iy.rk;have UK:l.length<=300:=(by simpa using hL);refine wk ?_;(apply B4 rfl rfl;exact A0 JY ai0 rfl);refine AK ?_ (c:=U9 L (x:=(⟨pa,sp,data⟩,db)) (sz:=sz));rintro _ h4 ⟨rfl,w3⟩;have n4:=w3.n;try simp only[Ag]at n4
   rw[show H2 ((⟨pa,sp,data⟩,db):IL×Nat).1=true from hh.1];have aqs:=Ab w3 iy;refine AK ?_ (c:=Fj L);rintro _ rfl;refine wk ?_;refine ih () _ _ za BA
 .rintro _ h2 w1;refine ret X.f137.1 ?_;exact⟨rfl,AH⟩
def TQ(bs:List Nat)(n:Nat):List Int:=((List.range n).filter λb=>decide (b∈bs)).map λb=>((b:Nat):Int)
def UD(D:Dv)(bs:List Nat)(n:Nat):List Int:=((List.range n).filter λb=>!decide (b∈bs)&&decide (0<(D.bl b).nx)).map λb=>((b:Nat):Int)
theorem Ab7(bs:List Nat)(n:Nat):TQ bs (n+1)=TQ bs n++(if n∈bs then[(n:Int)]else[]):=by unfold TQ;rw[WQ,jO,IG];by_cases e:n∈bs<;>simp[e]
theorem Ab8(D:Dv)(bs:List Nat)(n:Nat):UD D bs (n+1)=UD D bs n++(if n∉bs/\0<(D.bl n).nx then[(n:Int)]else[]):=by unfold UD;rw[WQ,jO,IG];by_cases e:n∈bs<;>by_cases f:0<(D.bl n).nx<;>simp[e,f]
theorem Agr(D:Dv)(bs:List Nat)(n:Nat):(TQ bs n).length<=n/\(UD D bs n).length<=n:=by unfold TQ UD;rw[DC,DC];exact⟨EM (V0 _ _) W0,EM (V0 _ _) W0⟩
section
variable {l:CJ}{n d:Nat}{t:T DV}{lh:SA}{x:O}{gd:Option (Nat×Bool)}{r:List CI}{k:DO}{ds:List HN}{ro:Option Nat}
include L
theorem xS{b2:Nat}{ls:List Int}(hg:HH gd l=some true)(e:AU l x=some v)(q:DN (hp n t lh) lo v ls)(HX:lo<=n)(e1:AU l y=some (.AE b2 o2 1 SF))(k2:CG 1 (hp n t lh) (.AE b2 o2 1 SF) 1 [AI z])(hb:(ls.length+1)*(bytes+1)<=1099511627776)(g:∀AA,DN AA lo (.AE n 0 (ls.length+1) (Aa+1)) (ls++[z])->Kp (λj=>∃m c,v= .AE j 0 m c) (hp n t lh) AA->AA.n=n+1->Good P0 E Q ⟨⟨fn,nt,AJ ((d,some (.AE n 0 (ls.length+1) (Aa+1)))::l),.ops r::k,ds,.run,AL,ro⟩,cs,hp AA.n AA.t []⟩):Good P0 E Q ⟨⟨fn,nt,AJ l,.ops (⟨some d,gd,.append 1 bytes x y⟩::r)::k,ds,.run,AL,ro⟩,cs,hp n t lh⟩:=by
 rcases q.ex with⟨rfl,rfl⟩|⟨h2,b,rfl,kb,hl⟩;.have kk:Bk (hp (n+1) t ((n,some (cl [AI z]))::lh)) n [AI z]:=AG;have k0:Kp (λj=>∃m c,AV.AS= .AE j 0 m c) (hp n t lh) (hp (n+1) t ((n,some (cl [AI z]))::lh)):=AH;exact Et L (Az hg) (D1 e e1 k2 om mJ).e (g (hp (n+1) t ((n,some (cl [AI z]))::lh)) ⟨.inr ⟨by simp,n,rfl,kk,HX⟩⟩ k0 rfl)
 .have kk:Bk (hp (n+1) t ((n,some (cl (ls.map AI++[AI z])))::(b,none)::lh)) n ((ls++[z]).map AI):=by rw[IG];exact AG
  have k0:Kp (λj=>j=b) (hp n t lh) (hp (n+1) t ((n,some (cl (ls.map AI++[AI z])))::(b,none)::lh)):=AH;exact Et L (Az hg) (D7 e e1 (xQ kb) k2 om hb rfl).e (g (hp (n+1) t ((n,some (cl (ls.map AI++[AI z])))::(b,none)::lh)) ⟨.inr ⟨by simp,n,by simp,kk,HX⟩⟩ (k0.mono λj e=>⟨ls.length,Aa+1,by rw[e]⟩) rfl)
end
include L
theorem ank{l:CJ}{todo:DO}{z:EW}{b4 b5:Nat}{x0 x1 x2 x3 x4 y0:AV}(t4:look l 4=some (.ptr b4 0))(t5:look l 5=some (.ptr b5 0))(k4:Bk h b4 [x0,x1,x2,x3,x4])(k5:Bk h b5 [y0])(hG:∀v AA,post v AA->GO P0 E Q (finish v cs AA z))(DL:post (.BM [.agg [x0,x1,x2,x3,x4],y0]) h):Good P0 E Q ⟨⟨101,nt,AJ l,todo,[.call 128 [.ptr b4 0,.ptr b5 0]],.returning,false,none⟩,z::cs,h⟩:=by refine Co L W1 X.f128.1 rfl rfl rfl ?_;refine Dt L rfl ?_;refine wk ?_;refine BO L (Ki (k:=true) rfl rfl) ?_;refine wk ?_;refine Hc L X.f128.1 rfl ?_;refine C1 L X.f101.1 (K9 t4 (Bk.e AG) rfl (Bw t5 (Bk.e AG) rfl E7)) hG DL
theorem ags{x:EW}{d bb:Nat}{cb:List AV}(ok:D.Ok)(dc:LV AD h d D fm bb cb){mu last next:Nat}{Mu:OJ}{ev:AV}{es:List BI}{bs:List Nat}(w:K0 h hh)(kf:Bk hh h.n [ev,UN last,UN next,.AS,.AS])(ke:Bk hh (h.n+1) [Zi])(km:Mk hh mu (Mu.map (mE AI)) ck)(HX:h.n+2<=mu)(IP:EL hh (h.n+2) ev es)(iC:∀b∈bs,∃z:Int,A9 Mu (b:Int)=some (AI z)/\0<z)(ZG:∀b:Nat,b∉bs->A9 Mu (b:Int)=none)(G:∀v AA,post v AA->GO P0 E Q (finish v cs AA x))(DL:∀v2 v3 AA,DN AA h.n v2 (TQ bs D.nb)->DN AA h.n v3 (UD D bs D.nb)->EL AA h.n ev es->K0 h AA->post (.BM [.agg [ev,UN last,UN next,v2,v3],Zi]) AA){lq:CJ}(ht:FY (AJ [(105,some Zi),(104,some (AN D.nb)),(14,some (.map mu)),(5,some (.ptr (h.n+1) 0)),(4,some (.ptr h.n 0)),(0,some (.ptr d 0))]) (AJ lq)):Good P0 E Q ⟨⟨101,VJ.ntmps,AJ lq,[.code Aep,.inBlock 4,.code Aeq],[.call 128 [.ptr h.n 0,.ptr (h.n+1) 0]],.run,false,none⟩,x::cs,hh⟩:=by
 have FT:=ok.g.nb;refine Bt L (bd:=Aeo) (α:=AV×AV) (T:=λi _=>[(105,some (AN i)),(104,some (AN D.nb)),(14,some (.map mu)),(5,some (.ptr (h.n+1) 0)),(4,some (.ptr h.n 0)),(0,some (.ptr d 0))]) (n:=D.nb) (R:=λi s h2=>Kp (λj=>j=h.n) hh h2/\DN h2 hh.n s.1 (TQ bs i)/\DN h2 hh.n s.2 (UD D bs i)/\(∀b1 n1 c1 b2 n2 c2,s.1= .AE b1 0 n1 c1->s.2= .AE b2 0 n2 c2->b1≠b2)/\Bk h2 h.n [ev,UN last,UN next,s.1,s.2]) (i0:=0) (.AS,.AS) ht ⟨Kp.refl _,⟨.inl ⟨rfl,rfl⟩⟩,⟨.inl ⟨rfl,rfl⟩⟩,(λ_ _ _ _ _ _ e=>by cases e),kf⟩ (CN _) ?_ ?_
 .rintro i ⟨v1,v2⟩ h2 hi ⟨w1,wa,wb,wd,w3⟩ ih;simp only at wa wb wd w3;have n2:=w1.n;have l3:=w3.lt;have KY:=Agr D bs i;have iS:Bk h2 (h.n+1) [Zi]:=Ao w1 om ke;have km2:=Nb w1 om km;have kk:K0 h h2:=Kp.DZ w1 (λi hi e=>om) w;have bd1:=wa.bd;have np:=wb.bd;have blo:∀{v:AV} {S:List Int},DN h2 hh.n v S->∀b m c,v= .AE b 0 m c->hh.n<=b:=λq b m c e=>by rcases q.ex with⟨-,e2⟩|⟨-,AR,e2,-,g⟩<;>rw[e2]at e<;>cases e;exact g
  have bl1:=blo wa;have bl2:=blo wb
  have XG:=λ(cM WH:AV) (AA:H) (AT:CJ) (a1:Kp (λj=>j=h.n) hh AA) (a2:DN AA hh.n cM (TQ bs i++(if i∈bs then[(i:Int)]else[]))) (a3:DN AA hh.n WH (UD D bs i++(if i∉bs/\0<(D.bl i).nx then[(i:Int)]else[]))) (a4:∀b1 n1 c1 b2 n2 c2,cM= .AE b1 0 n1 c1->WH= .AE b2 0 n2 c2->b1≠b2) (a5:Bk AA h.n [ev,UN last,UN next,cM,WH])
   (t:FY (AJ [(105,some (AN (i+1))),(104,some (AN D.nb)),(14,some (.map mu)),(5,some (.ptr (h.n+1) 0)),(4,some (.ptr h.n 0)),(0,some (.ptr d 0))]) (AJ AT))=>ih (cM,WH) AA AT ⟨a1,by rw[Ab7];exact a2,by rw[Ab8];exact a3,a4,a5⟩ t
  clear ih;generalize TQ bs i=js at*;generalize UD D bs i=ds at*;by_cases hb:i∈bs
  .obtain⟨z,hz,lk⟩:=iC i hb;rw[AP hb,AM (show¬(i∉bs/\0<(D.bl i).nx)from λq=>q.1 hb),MO]at XG;refine lit ?_;refine BO L (C0 (KE.int .i64) (M:=Mu) (k:=(i:Int)) rfl rfl CH) ?_;rw[hz];refine wk ?_;refine xS L rfl rfl (wa.kv (B:=λ_=>False) za (λ_ _ _ _ f=>f)) om rfl (Xg AG) om ?_;rintro h4 q4 k4 n4;have w34:Bk h4 h.n [ev,UN last,UN next,v1,v2]:=Ao k4 (by rintro⟨m,c,e⟩;have:=bl1 _ _ _ e;omega) uc;have wb4:DN h4 hh.n v2 ds:=(wb.kv (B:=λ_=>False) za (λ_ _ _ _ f=>f)).kv k4 (by rintro b m c e ⟨GF,BP,BG⟩;exact wd _ _ _ _ _ _ BG e rfl);have qD:Kp (λj=>j=h.n) hh h4:=Kp.DZ k4 (by rintro j hj ⟨m,c,e⟩;have:=bl1 _ _ _ e;omega) (Kp.EA (m:=h2) za w1);refine wk ?_;refine XG _ _ _ _ (Kp.DZ (AB:=λj=>j=h.n) (m:=h4) za (λ_ _ e=>e) qD) (q4.kq (S:=λj=>j=h.n) za (λb hb e=>om)) (wb4.kq (S:=λj=>j=h.n) za (λb hb e=>om)) ?_ uc BA;intro b1 n1 c1 b2 n2 c2 p1 p2
   cases p1;have:=np _ _ _ p2;omega
  .rw[AM hb,MO]at XG;obtain⟨pn,c,hr⟩:=dc.rows i hi;have kd:=Ab kk dc.dk;have kbb:=Ab kk dc.bk;have HB:=(ok.bl i hi).nx;refine lit ?_;refine BO L (C0 (KE.int .i64) (M:=Mu) (k:=(i:Int)) rfl rfl CH) ?_;rw[ZG i hb];refine AK ?_ (c:=Nk L uc uc hi hr.c1);rintro _ rfl;by_cases hx:0<(D.bl i).nx
   .rw[AP (show i∉bs/\0<(D.bl i).nx from⟨hb,hx⟩)]at XG;refine wk ?_;refine xS L rfl rfl (wb.kv (B:=λ_=>False) za (λ_ _ _ _ f=>f)) om rfl (Xg AG) om ?_;rintro h4 q4 k4 n4;have w34:Bk h4 h.n [ev,UN last,UN next,v1,v2]:=Ao k4 (by rintro⟨m,c,e⟩;have:=bl2 _ _ _ e;omega) uc;have wa4:DN h4 hh.n v1 js:=(wa.kv (B:=λ_=>False) za (λ_ _ _ _ f=>f)).kv k4 (by rintro b m c e ⟨GF,BP,BG⟩;exact wd _ _ _ _ _ _ e BG rfl);have qD:Kp (λj=>j=h.n) hh h4:=Kp.DZ k4 (by rintro j hj ⟨m,c,e⟩;have:=bl2 _ _ _ e;omega) (Kp.EA (m:=h2) za w1);refine wk ?_;refine XG _ _ _ _ (Kp.DZ (AB:=λj=>j=h.n) (m:=h4) za (λ_ _ e=>e) qD) (wa4.kq (S:=λj=>j=h.n) za (λb hb e=>om)) (q4.kq (S:=λj=>j=h.n) za (λb hb e=>om)) ?_ uc BA;intro b1 n1 c1 b2 n2 c2 p1 p2
    cases p2;have:=bd1 _ _ _ p1;omega
   .rw[AM (show¬(i∉bs/\0<(D.bl i).nx)from λq=>hx q.2),MO]at XG;refine wk ?_;refine XG _ _ _ _ (Kp.EA (m:=h2) za w1) (wa.kv (B:=λ_=>False) za (λ_ _ _ _ f=>f)) (wb.kv (B:=λ_=>False) za (λ_ _ _ _ f=>f)) wd uc BA
 .rintro⟨v1,v2⟩ h2 ⟨w1,wa,wb,wd,w3⟩;simp only at wa wb w3;have n2:=w1.n;have iS:Bk h2 (h.n+1) [Zi]:=Ao w1 om ke;have kk:K0 h h2:=Kp.DZ w1 (λi hi e=>om) w;have l3:=w3.lt;have pl:∀{v:AV} {S:List Int},DN h2 hh.n v S->A8 v=true:=λq=>by rcases q.ex with⟨-,rfl⟩|⟨-,b,rfl,-⟩<;>rfl
  have NJ:Av [ev,UN last,UN next,v1,v2]=true:=by have a1:=IP.plain.2;show(match A8 ev with|true=>(match A8 v1 with|true=>(match A8 v2 with|true=>true|false=>false)|false=>false)|false=>false)=true;rw[a1,pl wa,pl wb]
  refine wk ?_;(apply fD L rfl rfl rfl rfl rfl NJ;exact AG;rfl;rfl);refine wk ?_;refine Fd L (todo:=[]) ?_;refine ank L rfl rfl AG AG G (DL _ _ _ ((wa.kq (S:=λj=>j=h.n\/j=h.n+1) za (λb hb e=>om)).mono om) ((wb.kq (S:=λj=>j=h.n\/j=h.n+1) za (λb hb e=>om)).mono om) ?_ za);have:=IP.kS w1 (λb hb e=>om);exact(this.kS (S:=λj=>j=h.n\/j=h.n+1) za (λb hb e=>om)).mono om
omit L
theorem EL.JH{S:Nat->Prop}{l:List BI}(q:EL h lo v l)(k:Kp S h AA)(hs:∀b n c,v= .AE b 0 n c->¬S b):EL AA lo v l:=by
 rcases q.ex with h1|⟨h2,b,h3,h4,h5⟩;.exact⟨.inl h1⟩
 .exact⟨.inr ⟨h2,b,h3,Ao k (hs _ _ _ h3) h4,h5⟩⟩
structure UM (Mu:OJ)(bs:List Nat)(n:Nat):Prop where
 a:∀b∈bs,∃z:Int,A9 Mu (b:Int)=some (AI z)/\0<z/\z<=(n:Int)
 b:∀b:Nat,b∉bs->A9 Mu (b:Int)=none
theorem UM.step{Mu:OJ}{bs:List Nat}{n k:Nat}(q:UM Mu bs n)(lk:0<z)(ZK:z<=((n+1:Nat):Int)):UM (Dd Mu ck (k:Int) (AI z)) (bs++[k]) (n+1):=by
 refine⟨λb hb=>?_,λb hb=>?_⟩
 .rw[Bu];by_cases e:(b:Int)=(k:Int);.rw[AP e];exact⟨z,rfl,lk,ZK⟩
  .rw[AM e];rcases GU.1 hb with hb|hb;.obtain⟨Yq,h1,h2,h3⟩:=q.a b hb;exact⟨Yq,h1,h2,om⟩
   .rw[EV]at hb;subst hb;exact absurd rfl e
 .simp only[GU,EV,not_or]at hb;rw[Bu,AM om];exact q.b b hb.1
include L in
theorem Vb{x:EW}{d bb:Nat}{cb:List AV}(ok:D.Ok)(dc:LV AD h d D fm bb cb){mu b6 sz last next:Nat}{ev:AV}{es:List BI}{zs:List Int}(w:K0 h hh)(kf:Bk hh h.n [ev,UN last,UN next,.AS,.AS])(ke:Bk hh (h.n+1) [Zi])(km:Mk hh mu [] 0)(HX:h.n+2<=mu)(IP:EL hh (h.n+2) ev es)(kg:Bk hh b6 [AN D.nb,AN D.P,AN D.sz,AN D.en])(h6:h.n+2<=b6)(q:PL lo hh sz lv (LL.filter JX))(hv:DN hh (h.n+2) v2 zs)(hz:∀z∈zs,∃j:Nat,z=(j:Int)/\j<(LL.filter JX).length)(hl:zs.length<=950000000)(hL:(LL.filter JX).length<=300)(VP:∀y∈LL.filter JX,y.at_<1000)(G:∀v AA,post v AA->GO P0 E Q (finish v cs AA x))(DL:∀v2 v3 AA,DN AA h.n v2 (TQ (zs.map λz=>Kv LL D.P z.toNat) D.nb)->DN AA h.n v3 (UD D (zs.map λz=>Kv LL D.P z.toNat) D.nb)->EL AA h.n ev es->K0 h AA->post (.BM [.agg [ev,UN last,UN next,v2,v3],Zi]) AA){lq:CJ}(ht:FY (AJ [(87,some Zi),(86,some (AN zs.length)),(85,some v2),(14,some (.map mu)),(12,some lv),(6,some (.ptr b6 0)),(5,some (.ptr (h.n+1) 0)),(4,some (.ptr h.n 0)),(0,some (.ptr d 0))]) (AJ lq)):Good P0 E Q ⟨⟨101,VJ.ntmps,AJ lq,[.code Aen,.inBlock 2,.code Aer],[.call 128 [.ptr h.n 0,.ptr (h.n+1) 0]],.run,false,none⟩,x::cs,hh⟩:=by
 have FT:=ok.g.nb;have hP:=ok.g.P;refine Bt L (bd:=Aem) (α:=OJ×Nat) (T:=λi _=>[(87,some (AN i)),(86,some (AN zs.length)),(85,some v2),(14,some (.map mu)),(12,some lv),(6,some (.ptr b6 0)),(5,some (.ptr (h.n+1) 0)),(4,some (.ptr h.n 0)),(0,some (.ptr d 0))]) (n:=zs.length) (R:=λi s h2=>Kp (λj=>j=mu) hh h2/\EP s.1 s.2/\Mk h2 mu (s.1.map (mE AI)) s.2/\UM s.1 ((zs.take i).map (λz=>Kv LL D.P z.toNat)) i) (i0:=0) ([],0) ht ⟨Kp.refl _,EP.nil,km,⟨(λb hb=>by cases hb),λb _=>rfl⟩⟩ (CN _) ?_ ?_
 .rintro i ⟨Mu,ck⟩ h2 hi ⟨w1,w2,w3,w4⟩ ih;simp only at w2 w3 w4;have n2:=w1.n;have hx:zs[i]?=some zs[i]:=DA hi;obtain⟨j,YP,MU⟩:=hz _ (LC hi);have e1:(zs.take (i+1)).map (λz=>Kv LL D.P z.toNat)=(zs.take i).map (λz=>Kv LL D.P z.toNat)++[Kv LL D.P j]:=by rw[LO,hx,IG,YP];rfl
  have uQ:(zs.map AI)[i]?=some (AN j):=by rw[GD,hx,YP];rfl
  obtain⟨l,VW,q1,q2⟩:=q.ex;have YQ:j<l.length:=by rw[<-VW,DC]at MU;exact MU
  have ap3:l.length<=300:=by rw[<-VW,DC]at hL;exact hL
  have hy:l[j]?=some l[j]:=DA YQ;have hbz:Kv LL D.P j=(l[j]).1.at_/D.P:=by unfold Kv;rw[<-VW,GD,hy];rfl
  have apq:=VP (l[j]).1 (by rw[<-VW];exact RQ (LC YQ));have VU:∀x∈l,(HS sz x).length=8:=λ_ _=>rfl;have oq:=A7 l VU j _ hy;rcases q2 with⟨rfl,rfl⟩|⟨q3,lb,rfl,q4,-,-⟩
  .exact absurd YQ (OD _)
  have apr:(l.flatMap (HS sz))[j*8+6]?=some (AN ((l[j]).1.at_)):=by have:=HT (λr=>r[6]?) oq.2;simp only[N0 (show 6<8 from om),MN]at this;exact this
  rw[e1,hbz]at ih;generalize (l[j]).1.at_=Zn at*;have q4n:lb≠mu:=by intro e;have:=q4.e;rw[e,km.e]at this;cases this
  have iy:Bk h2 lb (l.flatMap (HS sz)):=Ao w1 q4n q4;have kgn:b6≠mu:=by intro e;have:=kg.e;rw[e,km.e]at this;cases this
  have kg':=Ao w1 kgn kg;rcases hv.ex with⟨rfl,_⟩|⟨_,ub,rfl,iC,ZG⟩;.exact absurd hi (OD _)
  have uH:ub≠mu:=by intro e;have:=iC.e;rw[e,km.e]at this;cases this
  have iB:=Ao w1 uH iC;by_cases hb:Zn/D.P∈(zs.take i).map (λz=>Kv LL D.P z.toNat);.obtain⟨z,ZK,aM,hz3⟩:=w4.a _ hb;refine lit ?_;refine Qt L ?_;refine WA ?_;(apply B4 rfl rfl;exact Na rfl rfl om);refine WA ?_;(apply B4 rfl rfl;exact zt rfl rfl om om);(apply B4 rfl rfl;exact C0 (KE.int .i64) (M:=Mu) (k:=((Zn/D.P:Nat):Int)) rfl rfl CH);rw[ZK];(apply B4 rfl rfl;exact b8 (p:=z) (r:=((1:Nat):Int)) rfl rfl om om);refine wk ?_;(apply Nf L rfl rfl;exact El (k:=((Zn/D.P:Nat):Int)) (KE.int .i64) w2 rfl rfl rfl CH);refine wk ?_;refine ih (Dd Mu ck ((Zn/D.P:Nat):Int) (AI (z+((1:Nat):Int))),LM Mu ck ((Zn/D.P:Nat):Int)) _ _ ⟨by exact AH,w2.set _ _,by exact CH,w4.step om om⟩ BA
  .have ZK:=w4.b _ hb;refine lit ?_;refine Qt L ?_;refine WA ?_;(apply B4 rfl rfl;exact Na rfl rfl om);refine WA ?_;(apply B4 rfl rfl;exact zt rfl rfl om om);(apply B4 rfl rfl;exact C0 (KE.int .i64) (M:=Mu) (k:=((Zn/D.P:Nat):Int)) rfl rfl CH);rw[ZK];(apply B4 rfl rfl;exact b8 (p:=((0:Nat):Int)) (r:=((1:Nat):Int)) rfl rfl om om);refine wk ?_;(apply Nf L rfl rfl;exact El (k:=((Zn/D.P:Nat):Int)) (KE.int .i64) w2 rfl rfl rfl CH);refine wk ?_;refine ih (Dd Mu ck ((Zn/D.P:Nat):Int) (AI (((0:Nat):Int)+((1:Nat):Int))),LM Mu ck ((Zn/D.P:Nat):Int)) _ _ ⟨by exact AH,w2.set _ _,by exact CH,w4.step om om⟩ BA
 .rintro⟨Mu,ck⟩ h2 ⟨w1,w2,w3,w4⟩;simp only at w2 w3 w4;rw[NA]at w4;have n2:=w1.n;have kk:K0 h h2:=Kp.DZ w1 (λi hi e=>om) w;have kg':Bk h2 b6 [AN D.nb,AN D.P,AN D.sz,AN D.en]:=Ao w1 (by intro e;have:=kg.e;rw[e,km.e]at this;cases this) kg;refine wk ?_;refine ags L ok dc (mu:=mu) (es:=es) (bs:=zs.map λz=>Kv LL D.P z.toNat) kk (Ao w1 om kf) (Ao w1 om ke) w3 HX ?_ (λb hb=>?_) w4.b G DL BA
  .exact IP.JH w1 (λb n c e=>by
    intro e2;rcases IP.ex with⟨_,f⟩|⟨_,AR,f,f2,_⟩;.rw[f]at e;cases e
    .rw[f]at e;cases e;have:=f2.e;rw[e2,km.e]at this;cases this)
  .obtain⟨z,h1,h2,h3⟩:=w4.a b hb;exact⟨z,h1,h2⟩
variable {m:Nat}
theorem zX{p:Prop}(h:p:=by
 exact⟨λ⟨b,⟨h1,h2⟩,e⟩=>⟨b,e.symm,h1,h2⟩,λ⟨b,e,h1,h2⟩=>⟨b,⟨h1,h2⟩,e.symm⟩⟩):p:=h
section
section
variable {S:Ap}{Hs Cs:List Rc}
theorem agt{L:List IL}{x:IL}(h:L[i]?=some x):Bn (L.take (i+1))=max (Bn (L.take i)) (x.s.seq+1):=by unfold Bn;rw[LO,h,jP];rfl
theorem Yx.mk'{bs:List Nat}(hb:∀b∈bs,b<D.nb/\0<(D.bl b).nx):Yx D (TQ bs D.nb) (UD D bs D.nb)/\∀b:Nat,(b:Int)∈TQ bs D.nb↔b∈bs:=by
 have mj:∀z,z∈TQ bs D.nb↔∃b:Nat,z=(b:Int)/\b<D.nb/\b∈bs:=λz=>by unfold TQ;simp only[DK,JZ,KI,LP];exact zX
 have md:∀z,z∈UD D bs D.nb↔∃b:Nat,z=(b:Int)/\b<D.nb/\b∉bs/\0<(D.bl b).nx:=λz=>by unfold UD;simp only[DK,JZ,KI,KQ,Bool.not_eq_true',decide_eq_false_iff_not,LP];exact zX
 have nd:∀p:Nat->Bool,(((List.range D.nb).filter p).map λb=>((b:Nat):Int)).Nodup:=λp=>List.Pairwise.map _ (λa b (h:a≠b) e=>h (jV e)) (jQ.filter _);refine⟨⟨fM.2 ⟨nd _,nd _,λa ha b JT e=>?_⟩,λz hz=>?_,λb h=>?_⟩,λb=>⟨λh=>?_,λh=>(mj _).2 ⟨b,rfl,(hb b h).1,h⟩⟩⟩;.subst e;obtain⟨b,e,-,h1⟩:=(mj _).1 ha;obtain⟨AR,BG,-,h2,-⟩:=(md _).1 JT;rw[e]at BG;exact h2 (jV BG ▸ h1)
 .rcases GU.1 hz with hz|hz;.obtain⟨b,e,h1,-⟩:=(mj _).1 hz;exact⟨b,e,h1⟩
  .obtain⟨b,e,h1,-⟩:=(md _).1 hz;exact⟨b,e,h1⟩
 .refine⟨λh=>?_,λh2=>?_⟩
  .rcases GU.1 h with h|h;.obtain⟨AR,e,-,h1⟩:=(mj _).1 h;rw[jV e];exact(hb AR h1).2
   .obtain⟨AR,e,-,-,h1⟩:=(md _).1 h;rw[jV e];exact h1
  .by_cases hm:b∈bs;.exact TY _ ((mj _).2 ⟨b,rfl,h,hm⟩)
   .exact Zf _ ((md _).2 ⟨b,rfl,h,hm,h2⟩)
 .obtain⟨AR,e,-,h1⟩:=(mj _).1 h;rw[jV e];exact h1
theorem Rc.Ok.jr{z:Nat}{r:Rc}(q:r.Ok m)(hz:12<=z/\z<=50)(hm:m<950000000)(hi:i<r.n z):(r.pg z i).1.Jr/\(r.pg z i).1.seq<9223372036854775808/\(r.pg z i).2.length<=300:=by have h1:=Ci (es:=r.es) hz.1 i;have h2:=q.fit hz hm hi;have h3:=Qz (sz:=z) (n:=r.es.length) om (by have:=q.len;omega);have h4:=q.n;exact⟨⟨h2.v,h2.ok,q.k⟩,by show r.f+i<_;have:i<EI z r.es.length:=hi;omega,by show(Ec z r.es i).length<=300;omega⟩
theorem Acc(jq:GI S Hs Cs)(a:BE S)(hn:S.next<950000000)(hS:S.S<=12){Dm:List Int}(d:OH S.A Dm):∀e∈Bf S.A Dm,Qh (Af S.D) e=true:=λe he=>by
 obtain⟨s,hs,rfl⟩:=DK.1 he
 obtain⟨p,hp⟩:=SV.1 ((d.mem s).1 hs)
 have:HF S.A s=p:=by unfold HF;rw[hp];rfl
 rw[this];exact jq.hold a hn hS hp
include L
def rH(S:Ap)(Cs:List Rc)(h:H)(v:AV)(AA:H):Prop:=
 ∃ev v1 v2 Dm js ds,v= .BM [.agg (Pm ev v1 v2 S.last (Bn (Af S.D))),Zi]/\OH S.A Dm/\Dm.length<=1000/\EL AA h.n ev (Bf S.A Dm)/\DN AA h.n v1 js/\DN AA h.n v2 ds/\Yx S.D js ds/\(∀b:Nat,(b:Int)∈js↔∃r∈Cs,∃i,i<r.n S.D.sz/\∃j,On S b j (r.pg S.D.sz i))/\K0 h AA
theorem Ace{x:EW}{d bb:Nat}{cb:List AV}(ok:S.D.Ok)(dc:LV AD h d S.D fm bb cb)(jq:GI S Hs Cs)(a:BE S)(HB:S.next<950000000)(hS:1<=S.S/\S.S<=12){b6 r1 r2 vb:Nat}(w:K0 h hh)(kf:Bk hh h.n [.AS,Zu,UN 1,.AS,.AS])(ke:Bk hh (h.n+1) [Zi])(kg:Bk hh b6 [AN S.D.nb,AN S.D.P,AN S.D.sz,AN S.D.en])(h6:h.n+2<=b6/\b6<r1/\b6<r2/\b6<vb)(mp:II S.S S.D.nb S.D.P hh m r1 r2 vb λ_=>none)(hm:h.n+2<=m/\h.n+2<=r1/\h.n+2<=r2/\h.n+2<=vb)(q:PL lo hh S.D.sz lv (Af S.D))(hc:h.n<lo/\r1<lo/\r2<lo/\vb<lo/\lo<=hh.n)(LA:(Af S.D).length<=300)(G:∀v AA,rH S Cs h v AA->GO P0 E Q (finish v cs AA x)){lq:CJ}(ht:FY (AJ [(45,some Zi),(44,some (AN ((Af S.D).length))),(43,some lv),(9,some lv),(7,some (.ptr m 0)),(6,some (.ptr b6 0)),(5,some (.ptr (h.n+1) 0)),(4,some (.ptr h.n 0)),(0,some (.ptr d 0))]) (AJ lq)):Good P0 E Q ⟨⟨101,VJ.ntmps,AJ lq,[.code Ael,.inBlock 0,.code Aes],[.call 128 [.ptr h.n 0,.ptr (h.n+1) 0]],.run,false,none⟩,x::cs,hh⟩:=by
 have n0:=w.n;have lke:=ke.lt;have CS:=kg.lt;have lkf:=kf.lt;have hz:=a.CT.sz;have mlt:=mp.lt;obtain⟨s1,s2,s3,-⟩:=jq.seq a HB;have Le:∀i,1<=Bn ((Af S.D).take i)/\Bn ((Af S.D).take i)<=950001000:=λi=>by
  obtain⟨g1,g2,-⟩:=Pl ((Af S.D).take i) 1 950001000 om λx hx=>by have:=s3 x (cO hx);omega
  exact⟨g2,g1⟩
 refine Bt L (bd:=Aek) (α:=Unit) (T:=λi _=>[(45,some (AN i)),(44,some (AN ((Af S.D).length))),(43,some lv),(9,some lv),(7,some (.ptr m 0)),(6,some (.ptr b6 0)),(5,some (.ptr (h.n+1) 0)),(4,some (.ptr h.n 0)),(0,some (.ptr d 0))]) (n:=(Af S.D).length) (R:=λi _ h2=>Kp (λj=>j=h.n) hh h2/\Bk h2 h.n [.AS,Zu,.int .u64 ((Bn ((Af S.D).take i):Nat):Int),.AS,.AS]) (i0:=0) () ht ⟨Kp.refl _,kf⟩ (CN _) ?_ ?_
 .rintro i _ h2 hi ⟨w1,w2⟩ ih;have n2:=w1.n;have l3:=w2.lt;have YK:=Le i;have hxp:(Af S.D)[i]?=some (Af S.D)[i]:=DA hi;have e1:=agt hxp;have lY:=s3 _ (LC hi);obtain⟨l,VW,q1,q2⟩:=q.ex;have RI:i<l.length:=by rw[<-VW,DC]at hi;exact hi
  have lO:l.length<=300:=by rw[<-VW,DC]at LA;exact LA
  have hx:l[i]?=some l[i]:=DA RI;have hy:(l[i]).1=(Af S.D)[i]:=by have:(l.map (·.1))[i]?=some (l[i]).1:=pj;rw[VW,hxp]at this;simp only[DB]at this;exact this.symm
  have VU:∀x∈l,(HS S.D.sz x).length=8:=λ_ _=>rfl;have DF:=A7 l VU i _ hx;rcases q2 with⟨rfl,rfl⟩|⟨q3,lb,rfl,q4,q5,-⟩
  .exact absurd RI (OD _)
  rw[<-hy]at e1 lY;rw[e1]at ih;generalize l[i]=y at*;obtain⟨⟨pa,s,data⟩,db⟩:=y;simp only at e1 lY ih;have HV:i*8+8<=(l.flatMap (HS S.D.sz)).length/\((l.flatMap (HS S.D.sz)).drop (i*8)).take 8=[.int .u8 (s.kind:Int),.int .i64 s.sec,UN s.seq,UN s.prev,.int .i64 s.idx,.int .i64 s.len,AN pa,.AE db 0 S.D.sz (Aa+1)]:=DF;have iy:Bk h2 lb (l.flatMap (HS S.D.sz)):=Ao w1 om q4;have kr:=iy.rk;have iS:=Ao w1 om ke;clear q4 iy;refine wk ?_;refine BO L (A0 JY HV rfl) ?_;refine AK ?_ (c:=Fj L);rintro _ rfl;refine wk ?_;refine BO L (wE rfl rfl rfl ZM) ?_;refine wk ?_;refine ih () _ _ ⟨by exact AH,by exact AG⟩ BA
 .rintro _ h2 ⟨w1,w2⟩;rw[NA]at w2;have n2:=w1.n;have l3:=w2.lt;have iS:=Ao w1 om ke;have uu:Bk h2 b6 [AN S.D.nb,AN S.D.P,AN S.D.sz,AN S.D.en]:=Ao w1 om kg;have mp2:=mp.kp w1 om om om om;have aqp:=mp2.lt;have q2:=q.kp w1 (λb hb _ e=>om);have GR:((Af S.D).filter JX).length<=300:=EM (V0 _ _) LA;have hjf:(jps (Af S.D)).length=((Af S.D).filter JX).length:=by unfold jps;rw[DC]
  have ox:∀p∈jps (Af S.D),p.1.Jr/\p.1.seq<9223372036854775808/\p.2.length<=300:=λp hp=>by
   obtain⟨y,hy,rfl⟩:=DK.1 hp;obtain⟨ld,bh⟩:=JZ.1 hy;obtain⟨b,j,-,-,-,g1,-,-,g|⟨-,r,hr,i,hi,-,e⟩⟩:=jq.toJB.ic hz HB ld;.unfold JX at bh;rw[g.1]at bh;cases bh
   .rw[e];exact(jq.ok r hr).jr hz HB hi
  refine AK ?_ (c:=Agq L q2 om om om);rintro lg h3 ⟨w5,w6⟩;have n3:=w6.n;try simp only[Ag]at n3
  refine AK ?_ (c:=Ab5 L w5 om om ox);rintro _ h4 ⟨o,ks,v1,v2,rfl,y1,y2,y3,y4,y6,y5⟩;have n4:=y5.n;try simp only[Ag]at n4
  obtain⟨u1,u2⟩:=jq.used a HB y1 y2;obtain⟨hla,-⟩:=(jq.sF a HB).SN y1 y2;have aiv:=(jq.sF a HB).fol hz.1 y1 y2;rw[hla]at*;rw[aiv]at y3 y6;have hus:∀z∈Dn (nI (HP (jps (Af S.D)) ks)),∃j:Nat,z=(j:Int)/\j<((Af S.D).filter JX).length:=by intro z hz;rw[(Gw _).mem_iff]at hz;obtain⟨j,hj,rfl⟩:=DK.1 hz;exact⟨j,rfl,u1 j hj⟩
  have tx:Av [v1,UN S.last,v2]=true:=by have a1:=y3.plain.2;have a2:A8 v2=true:=(by rcases y4.ex with⟨_,rfl⟩|⟨_,b,rfl,_⟩<;>rfl);exact zU
  refine wk ?_;(apply fD L rfl rfl rfl rfl rfl tx;exact AG;rfl;rfl);refine AK ?_ (c:=O3 L (mp2.kp (B:=λj=>False) za id id id id) (y3.k0 za) y6.1 (λb n c e=>by have:=(e ▸ y3:EL h4 h3.n (.AE b 0 n c) (Cs.flatMap Rc.es)).blt;omega) jq.ap);rintro _ h5 ⟨rfl,w7,a2⟩;have n5:=w7.n;simp only[Ag]at n5;refine AK ?_ (c:=Fj L);rintro _ rfl;rw[Li,<-jq.ZU]at a2;refine AK ?_ (c:=Ko L a2);rintro ev h7 ⟨Dm,d1,d5,d3,d4⟩;have n7:=d4.n;try simp only[Ag]at n7
  have p1:=d3.plain;refine wk ?_;(apply Ut L rfl rfl rfl rfl rfl rfl rfl;exact AG;rfl;intro h9 YT;(repeat(first|(apply B4 rfl rfl;exact XM)|(apply Yg rfl rfl)));(first|(apply eZ;exact By)|(refine Wb L ?_ rfl ?_;exact By));refine Tx L YT ?_);(apply wP L rfl rfl rfl rfl p1.1 p1.2;exact AG;(show 0<5;omega);refine Dl L 1000 rfl ?_);refine wk ?_;have kS:∀h9,Kp (λj=>j=h.n\/j=r1\/j=r2\/j=vb) h2 h9->PL lo h9 S.D.sz lv (Af S.D):=λh9 k9=>q2.kp k9 (λb hb _ e=>om);have Z4:(Bf S.A Dm).length<=950000000:=by unfold Bf;rw[DC];omega
  refine AK ?_ (c:=ul L (lo:=h5.n) (kS _ za) (d3.kS (S:=λj=>j=h.n) za (λb hb e=>om)) LA Z4 (Acc jq a HB hS.2 d1));rintro _ h8 ⟨rfl,w9⟩;have n8:=w9.n;try simp only[Ag]at n8
  have w5':=λh9 (k9:Kp (λj=>j=h.n\/j=r1\/j=r2\/j=vb) h3 h9)=>w5.kp k9 (λb hb _ e=>om);have pL:(Dn (nI (HP (jps (Af S.D)) ks))).length<=950000000:=by rw[E3];unfold nI;rw[DC];exact y6.2
  have fin:∀v2 v3 AA,DN AA h.n v2 (TQ ((Dn (nI (HP (jps (Af S.D)) ks))).map λz=>Kv (Af S.D) S.D.P z.toNat) S.D.nb)->DN AA h.n v3 (UD S.D ((Dn (nI (HP (jps (Af S.D)) ks))).map λz=>Kv (Af S.D) S.D.P z.toNat) S.D.nb)->EL AA h.n ev (Bf S.A Dm)->K0 h AA->rH S Cs h (.BM [.agg [ev,UN S.last,UN (Bn (Af S.D)),v2,v3],Zi]) AA:=by
   intro v2 v3 AA r2 r3 al2 k;have TK:∀b,b∈((Dn (nI (HP (jps (Af S.D)) ks))).map λz=>Kv (Af S.D) S.D.P z.toNat)↔∃r∈Cs,∃i,i<r.n S.D.sz/\∃j,On S b j (r.pg S.D.sz i):=λb=>by rw[<-u2 b,((Gw _).map _).mem_iff];unfold nI;rw[WL];rfl
   obtain⟨f1,f2⟩:=Yx.mk' (D:=S.D) (bs:=(Dn (nI (HP (jps (Af S.D)) ks))).map λz=>Kv (Af S.D) S.D.P z.toNat) λb hb=>by obtain⟨r,-,i,-,j,o⟩:=(TK b).1 hb;exact⟨o.1,nK (CN _) o.2.1⟩
   exact⟨ev,v2,v3,Dm,_,_,rfl,d1,d5,al2,r2,r3,f1,λb=>(f2 b).trans (TK b),k⟩
  have abq:∀y∈(Af S.D).filter JX,y.at_<1000:=λy hy=>by obtain⟨b,j,g1,g2,g3,-⟩:=jq.toJB.ic hz HB (JZ.1 hy).1;have h1:=a.CT.nb;have h2:=a.CT.P;have h3:=a.LB b g1;have:=NB (show b<=44 from om) h2.2;omega
  have y4':=y4;rcases y4.ex with⟨ez,rfl⟩|⟨ez,ub,rfl,_,_⟩;.refine wk ?_;refine Vb L ok dc (last:=S.last) (next:=Bn (Af S.D)) (zs:=Dn (nI (HP (jps (Af S.D)) ks))) (LL:=Af S.D) (sz:=S.D.sz) (es:=Bf S.A Dm) za uc uc eH om ?_ uc h6.1 (w5' _ za) ⟨.inl ⟨ez,rfl⟩⟩ hus pL GR abq G fin (by rw[ez];exact BA);exact(d3.kS (S:=λj=>j=h.n) za (λb hb e=>om)).mono om
  .refine wk ?_;refine Vb L ok dc (last:=S.last) (next:=Bn (Af S.D)) (zs:=Dn (nI (HP (jps (Af S.D)) ks))) (LL:=Af S.D) (sz:=S.D.sz) (es:=Bf S.A Dm) za uc uc eH om ?_ uc h6.1 (w5' _ za) ?_ hus pL GR abq G fin BA;.exact(d3.kS (S:=λj=>j=h.n) za (λb hb e=>om)).mono om
   .exact DN.mono (DN.kq y4' (S:=λj=>j=h.n\/j=r1\/j=r2\/j=vb) za (λb hb e=>om)) om
theorem Ags{d:Nat}(r:IK AD h d S.D)(jq:GI S Hs Cs)(a:BE S)(ED:S.D.off=false)(HB:S.next<950000000)(hS:1<=S.S/\S.S<=12):CL L 101 [.ptr d 0,AN S.S] h λv AA=>rH S Cs h v AA:=by
 have ok:=r.ok;have FT:=a.CT.nb;have hP:=a.CT.P;have LA:(Af S.D).length<=300:=by have:=Kw ok S.D.nb (BD _);show(Gt S.D S.D.nb).length<=300;omega
 have r1d:=r;obtain⟨-,fm,bb,cb,dc⟩:=r;have aE:=dc.dk;have aqm:=aE.lt;refine Ad L X.f101 λQ x cs G=>?_;refine wk ?_;refine Ha L rfl rfl rfl rfl ?_;refine AK ?_ (c:=Df L uc);rintro _ h2 ⟨rfl,w1⟩;have n2:=w1.n;simp only[Ag]at n2;refine AK ?_ (c:=Fj L);rintro _ rfl;refine AK ?_ (c:=adj L (S:=S.S) om om om);rintro _ h3 ⟨m,eg,r2,vb,rfl,mp,w2,m1,m2,m3,m4⟩;have n3:=w2.n;simp only[Ag]at n3 m1 m2 m3 m4;have mlt:=mp.lt;refine AK ?_ (c:=Fj L);rintro _ rfl;refine AK ?_ (c:=Jj L uc);rintro _ rfl;rw[ED];refine AK ?_ (c:=Fj L);rintro _ rfl;refine AK ?_ (c:=Ab3 L (r1d.k0 za) ED);rintro lv h4 ⟨w4,w5⟩;have n4:=w5.n;try simp only[Ag]at n4 w4
 have w4x:=w4.ex;obtain⟨l,VW,q1,q2⟩:=w4x;have lO:(Af S.D).length=l.length:=by rw[<-VW,DC]
 rcases q2 with⟨rfl,rfl⟩|⟨q3,lb,rfl,q4,q5⟩
 all_goals
  refine wk ?_;refine Ace L ok dc jq a HB hS (b6:=h2.n) (m:=m) (r1:=eg) (r2:=r2) (vb:=vb) za uc uc uc om (mp.kp (B:=λj=>j=h.n) za om om om om) om (w4.kp (B:=λj=>j=h.n) za (λb hb _ e=>om)) ⟨om,om,om,om,by exact n4⟩ LA G (by rw[lO];exact BA)
