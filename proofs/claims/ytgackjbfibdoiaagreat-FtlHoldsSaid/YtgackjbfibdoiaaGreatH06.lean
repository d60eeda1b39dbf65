import Derived.Test.YtgackjbfibdoiaaGreatH04
set_option linter.all false
set_option maxRecDepth 100000
set_option maxHeartbeats 4000000
namespace Go.Ev
variable {P0:Program}{E:Env}{F:T DY}{K:HK}(L:Lg P0 E F K)[X:Fx F K]
variable {b i nb p pb s t:Nat}{cb:List AV}{h AA:H}{pe ps:Nat->Nat}
def LG(ps:Nat->Nat)(s:Nat):Nat->Nat
 |0=>0
 |n+1=>LG ps s n+if ps n=s then 1 else 0
theorem Hx(ps:Nat->Nat)(s:Nat):∀n,LG ps s n<=n
 |0=>BD _
 |n+1=>by have:=Hx ps s n;simp only[LG];split<;>omega
theorem aan{ps:Nat->Nat}{s i:Nat}:∀{n},i<n->ps i=s->0<LG ps s n
 |n+1,hi,e=>by
  simp only[LG];by_cases h:i=n;.subst h;rw[AP e];omega
  .have:=aan (ps:=ps) (s:=s) (n:=n) om e;omega
theorem aao(ps:Nat->Nat)(i t s:Nat):∀n,n<=i->LG (AX ps i t) s n=LG ps s n
 |0,_=>rfl
 |n+1,h=>by simp only[LG,aao ps i t s n om,CB ps t (show n≠i from om)]
theorem Di(ps:Nat->Nat)(i t s:Nat):∀n,i<n->LG (AX ps i t) s n+(if ps i=s then 1 else 0)=LG ps s n+(if t=s then 1 else 0)
 |n+1,h=>by
  simp only[LG];by_cases e:i=n;.subst e;rw[aao ps i t s i (BD _),Am];omega
  .have:=Di ps i t s n om;rw[CB ps t (show n≠i from om)];omega
def W9(ps:Nat->Nat)(pb nb:Nat):List AV:=[.AE pb 0 nb (Aa+2),AN (LG ps 0 nb),AN (LG ps 1 nb),AN (LG ps 2 nb),AN (LG ps 3 nb),AN (LG ps 4 nb)]
structure Ge (h:H)(p pb nb:Nat)(ps pe:Nat->Nat)(cb:List AV):Prop where
 pk:Bk h p (W9 ps pb nb)
 bk:Bk h pb cb
 ne:p≠pb
 len:cb.length=nb*2
 cG:0<nb/\nb<=44
 c0:∀i,i<nb->cb[i*2]?=some (AN (pe i))
 c1:∀i,i<nb->cb[i*2+1]?=some (AN (ps i))
 st:∀i,i<nb->1<=ps i/\ps i<=4
 er:∀i,i<nb->pe i<=900000000
theorem Ge.kp{S:Nat->Prop}(k:Kp S h AA)(h1:¬S p)(h2:¬S pb)(q:Ge h p pb nb ps pe cb):Ge AA p pb nb ps pe cb:=⟨Ao k h1 q.pk,Ao k h2 q.bk,q.ne,q.len,q.cG,q.c0,q.c1,q.st,q.er⟩
theorem Ge.k0(k:K0 h AA)(q:Ge h p pb nb ps pe cb):Ge AA p pb nb ps pe cb:=q.kp k id id
theorem Ge.s8(q:Ge h p pb nb ps pe cb)(hi:i<nb)(j:Nat)(hj:j<nb):(cb.set (i*2+1) (AN t))[j*2]?=some (AN (pe j)):=by rw[GH om];exact q.c0 j hj
theorem Ge.s9(q:Ge h p pb nb ps pe cb)(hi:i<nb)(j:Nat)(hj:j<nb):(cb.set (i*2+1) (AN t))[j*2+1]?=some (AN (AX ps i t j)):=by
 have:=q.len;by_cases e:j=i;.subst e;rw[QS om,Am]
 .rw[GH om,CB _ _ e];exact q.c1 j hj
theorem Ir(q:Ge h p pb nb ps pe cb):CL L 140 [.ptr p 0] h λv AA=>v= .bool false/\AA=h:=by have hd:=q.pk;have hn:=q.cG;unfold W9 at hd;refine Aj L X.f140 λQ x cs G=>?_;refine ret X.f140.1 ?_;exact⟨rfl,rfl⟩
theorem Wu(q:Ge h p pb nb ps pe cb){i:Int}:CL L 216 [.ptr p 0,.int .i64 i] h λv AA=>v= .bool (decide (0<=i/\i<nb))/\AA=h:=by
 have hd:=q.pk;unfold W9 at hd;refine Ad L X.f216 λQ x cs G=>?_;refine wk ?_;by_cases hi:0<=i
 .refine wk ?_;by_cases hj:i<nb;.refine ret X.f216.1 ?_;exact⟨by simp[single,hi,hj],rfl⟩
  .refine ret X.f216.1 ?_;exact⟨by simp[single,hi,hj],rfl⟩
 .refine ret X.f216.1 ?_;exact⟨by simp[single,hi],rfl⟩
theorem Qf{n:Nat}(hn:n<=1099511627776):CL L 214 [AN n] h λv AA=>v= .bool true/\AA=h:=by refine Aj L X.f214 λQ x cs G=>?_;refine ret X.f214.1 ?_;exact⟨rfl,rfl⟩
theorem Is(q:Ge h p pb nb ps pe cb)(hi:i<nb):CL L 170 [.ptr p 0,AN i] h λv AA=>v=AN (ps i)/\AA=h:=by have hd:=q.pk;have hb:=q.bk;have hc:=q.c1 i hi;unfold W9 at hd;refine Ad L X.f170 λQ x cs G=>?_;refine AK ?_ (c:=Wu L q);rintro _ rfl;rw[CM (show 0<=(i:Int)/\(i:Int)<nb from om)];refine ret X.f170.1 ?_;exact⟨rfl,rfl⟩
theorem Hf{l:CJ}{x y:O}{o len size:Nat}{k:IntKind}(e:AU l x=some (.ptr b o))(e1:AU l y=some (.int k (i:Int)))(hi:i<len):XV (.eB len size x y) h l (.ptr b (o+i*size)) h:=⟨Yc (Ac e) (Ac e1) hi rfl⟩
theorem No(q:Ge h p pb nb ps pe cb)(hi:i<nb)(ht:1<=t/\t<=4):CL L 217 [.ptr p 0,AN i,AN t] h λv AA=>v= .BM []/\Ge AA p pb nb (AX ps i t) pe (cb.set (i*2+1) (AN t))/\Kp (λj=>j=p\/j=pb) h AA:=by
 have hd:=q.pk;have hb:=q.bk;have hc:=q.c1 i hi;have hl:=q.len;have BZ:=q.ne;have HC:=q.st i hi;have s8:=q.s8 (t:=t) hi;have s9:=q.s9 (t:=t) hi;have FT:=q.cG;have HM:=aan (ps:=ps) (s:=ps i) hi rfl;have e0:=Di ps i t 0 nb hi;have e1:=Di ps i t 1 nb hi;have e2:=Di ps i t 2 nb hi;have e3:=Di ps i t 3 nb hi;have e4:=Di ps i t 4 nb hi;have b1:=Hx ps 1 nb;have b2:=Hx ps 2 nb;have b3:=Hx ps 3 nb;have b4:=Hx ps 4 nb;have BX:i*2+1<cb.length:=om
 have st2:∀j,j<nb->1<=AX ps i t j/\AX ps i t j<=4:=λj hj=>by
  by_cases e:j=i;.subst e;rw[Am];exact ht
  .rw[CB _ _ e];exact q.st j hj
 have TF:=q.er;unfold W9 at hd;have hs:ps i=1\/ps i=2\/ps i=3\/ps i=4:=om
 have htt:t=1\/t=2\/t=3\/t=4:=om
 rcases hs with hs|hs|hs|hs<;>rw[hs]at hc HM e0 e1 e2 e3 e4<;>rcases htt with rfl|rfl|rfl|rfl<;>simp at e0 e1 e2 e3 e4
 all_goals
  refine Bj L X.f217 λQ x cs G=>?_;refine wk ?_;(apply B4 rfl rfl;exact Hf rfl rfl om);refine wk ?_;(apply B4 rfl rfl;exact Hf rfl rfl om);refine wk ?_;(apply B4 rfl rfl;exact Hf rfl rfl om);refine wk ?_;(apply B4 rfl rfl;exact Hf rfl rfl om);refine ret X.f217.1 ?_;refine⟨rfl,⟨R9 ?_ AG,AG,BZ,ud,FT,s8,s9,st2,TF⟩,AH⟩;unfold W9;simp only[Yr,and_true,true_and,eI,AV.int.injEq];omega
theorem yp{p:Prop}(h:p:=by
 by_cases e:j=i
 .subst e;rw[QS om,Am]
 .rw[GH om,CB _ _ e];exact c0 j hj):p:=h
theorem U1{a:Nat}:CL L 225 [.agg [AN a,AN b]] h λv AA=>v= .bool (decide (b=2))/\K0 h AA:=by
 refine Aj L X.f225 λQ x cs G=>?_;by_cases e:b=2;.refine ret X.f225.1 ?_;exact⟨by rw[CM e];rfl,AH⟩
 .refine ret X.f225.1 ?_;exact⟨by rw[CW e];rfl,AH⟩
theorem amh{a:Nat}:CL L 251 [.agg [AN a,AN b]] h λv AA=>v= .bool (decide (b≠4))/\K0 h AA:=by
 refine Aj L X.f251 λQ x cs G=>?_;by_cases e:b=4;.refine ret X.f251.1 ?_;exact⟨by rw[CW (by simpa using e)];rfl,AH⟩
 .refine ret X.f251.1 ?_;exact⟨by rw[CM (by simpa using e)];rfl,AH⟩
theorem af5{a:Nat}(ha:a<1099511627776):CL L 253 [.agg [AN a,AN b]] h λv AA=>v= .bool (decide (b=2\/b=3))/\K0 h AA:=by
 refine Aj L X.f253 λQ x cs G=>?_;refine AK ?_ (c:=U1 L);rintro _ h2 ⟨rfl,k2⟩;by_cases e:b=2;.rw[CM e];refine ret X.f253.1 ?_;exact⟨by rw[CM (.inl e)];rfl,AH⟩
 .rw[CW e];by_cases e2:b=3;.refine ret X.f253.1 ?_;exact⟨by rw[CM (.inr e2)];rfl,AH⟩
  .refine ret X.f253.1 ?_;exact⟨by rw[CW om];rfl,AH⟩
theorem O6{f:Nat}{W:Bool}(q:Ge h p pb nb ps pe cb)(hi:i<nb)(hw:∀h2,CL L f [.agg [AN (pe i),AN (ps i)]] h2 λv AA=>v= .bool W/\K0 h2 AA):CL L 224 [.ptr p 0,AN i,.fn (.func f) [] []] h λv AA=>v=AN (if W=true then 0 else 8)/\K0 h AA:=by
 have hd:=q.pk;have hb:=q.bk;have QM:=q.c0 i hi;have KD:=q.c1 i hi;unfold W9 at hd;refine Bj L X.f224 λQ x cs G=>?_;refine AK ?_ (c:=Ir L q);rintro _ rfl;refine AK ?_ (c:=Wu L q);rintro _ rfl;rw[CM (show 0<=(i:Int)/\(i:Int)<nb from om)];refine AK ?_ (c:=hw _);rintro _ h2 ⟨rfl,k2⟩
 cases W with
 |true=>refine ret X.f224.1 ?_;exact⟨rfl,AH⟩
 |false=>refine ret X.f224.1 ?_;exact⟨rfl,AH⟩
theorem O7(q:Ge h p pb nb ps pe cb)(hi:i<nb)(hs:ps i=2):CL L 182 [.ptr p 0,AN i] h λv AA=>v=Zi/\Ge AA p pb nb (AX ps i 3) pe (cb.set (i*2+1) (AN 3))/\Kp (λj=>j=p\/j=pb) h AA:=by refine Ad L X.f182 λQ x cs G=>?_;refine AK ?_ (c:=O6 L (W:=true) q hi (λh2=>(U1 L).mono λv AA e=>by rw[CM hs]at e;exact e));rintro _ h2 ⟨rfl,k2⟩;rw[AP rfl];refine AK ?_ (c:=No L (t:=3) (q.k0 za) hi om);rintro _ h3 ⟨rfl,w1,w2⟩;refine ret X.f182.1 ?_;exact⟨rfl,w1,Kp.DZ w2 (λ_ _ e=>e) AH⟩
theorem Sr(q:Ge h p pb nb ps pe cb)(hi:i<nb)(hs:ps i≠4):CL L 219 [.ptr p 0,AN i] h λv AA=>v=Zi/\Ge AA p pb nb (AX ps i 4) pe (cb.set (i*2+1) (AN 4))/\Kp (λj=>j=p\/j=pb) h AA:=by refine Ad L X.f219 λQ x cs G=>?_;refine AK ?_ (c:=O6 L (W:=true) q hi (λh2=>(amh L).mono λv AA e=>by rw[CM hs]at e;exact e));rintro _ h2 ⟨rfl,k2⟩;rw[AP rfl];refine AK ?_ (c:=No L (t:=4) (q.k0 za) hi om);rintro _ h3 ⟨rfl,w1,w2⟩;refine ret X.f219.1 ?_;exact⟨rfl,w1,Kp.DZ w2 (λ_ _ e=>e) AH⟩
theorem ago(q:Ge h p pb nb ps pe cb)(hi:i<nb)(hs:ps i=2\/ps i=3)(he:pe i<900000000):CL L 221 [.ptr p 0,AN i] h λv AA=>v=Zi/\(∃RC,Ge AA p pb nb (AX ps i 1) (AX pe i (pe i+1)) RC)/\Kp (λj=>j=p\/j=pb) h AA:=by
 refine Ad L X.f221 λQ x cs G=>?_;refine AK ?_ (c:=O6 L (W:=true) q hi (λh2=>(af5 L om).mono λv AA e=>by rw[CM hs]at e;exact e));rintro _ h2 ⟨rfl,k2⟩;rw[AP rfl];refine AK ?_ (c:=No L (t:=1) (q.k0 za) hi om);rintro _ h3 ⟨rfl,w1,w2⟩;have hd:=w1.pk;have hb:=w1.bk;have QM:=w1.c0 i hi;have hl:=w1.len;have BZ:=w1.ne;have c0:=w1.c0;have c1:=w1.c1;have BX:i*2<(cb.set (i*2+1) (AN 1)).length:=om
 unfold W9 at hd;refine ret X.f221.1 ?_;refine⟨rfl,⟨(cb.set (i*2+1) (AN 1)).set (i*2) (AN (pe i+1)),⟨AG,by exact AG,BZ,ud,q.cG,λj hj=>?_,λj hj=>?_,w1.st,λj hj=>?_⟩⟩,Kp.st (.inr (.inr rfl)) (Kp.DZ w2 (λ_ _ e=>e) AH)⟩;.exact yp
 .rw[GH om];exact c1 j hj
 .by_cases e:j=i;.subst e;rw[Am];omega
  .rw[CB _ _ e];exact w1.er j hj
theorem Afy{e:Nat}(q:Ge h p pb nb ps pe cb)(hi:i<nb)(ht:1<=t/\t<=4)(he:e<=900000000):CL L 171 [.ptr p 0,AN i,AN t,AN e] h λv AA=>v=Zi/\(∃RC,Ge AA p pb nb (AX ps i t) (AX pe i e) RC)/\Kp (λj=>j=p\/j=pb) h AA:=by
 refine Mc L X.f171 λQ x cs G=>?_;refine AK ?_ (c:=Ir L q);rintro _ rfl;refine AK ?_ (c:=Qf L om);rintro _ rfl;refine AK ?_ (c:=Wu L q);rintro _ rfl;rw[CM (show 0<=(i:Int)/\(i:Int)<nb from om)];refine AK ?_ (c:=No L (t:=t) q hi ht);rintro _ h3 ⟨rfl,w1,w2⟩;have hd:=w1.pk;have hb:=w1.bk;have hl:=w1.len;have BZ:=w1.ne;have c0:=w1.c0;have c1:=w1.c1;have BX:i*2<(cb.set (i*2+1) (AN t)).length:=om
 unfold W9 at hd;refine ret X.f171.1 ?_;refine⟨rfl,⟨(cb.set (i*2+1) (AN t)).set (i*2) (AN e),⟨AG,by exact AG,BZ,ud,q.cG,λj hj=>?_,λj hj=>?_,w1.st,λj hj=>?_⟩⟩,Kp.st (.inr (.inr rfl)) (Kp.DZ w2 (λ_ _ e=>e) AH)⟩;.exact yp
 .rw[GH om];exact c1 j hj
 .by_cases e:j=i;.subst e;rw[Am];omega
  .rw[CB _ _ e];exact w1.er j hj
theorem ami(q:Ge h p pb nb ps pe cb):CL L 141 [.AE pb 0 nb (Aa+2)] h λv AA=>∃b,v= .AE b 0 nb (Aa+2)/\Bk AA b cb/\h.n<=b/\K0 h AA:=by have hb:=q.bk;have hl:=q.len;have hn:=q.cG;refine Aj L X.f141 λQ x cs G=>?_;refine wk ?_;refine BO L (rQ (new:=cb) rfl rfl (CG.of (c:=cb) AG om iK) om om) ?_;refine ret X.f141.1 ?_;exact⟨_,rfl,AG,om,AH⟩
theorem Mf(q:Ge h p pb nb ps pe cb):CL L 172 [.ptr p 0,AN s] h λv AA=>∃a b lb,v= .fn (.func 218) [] [.ptr a 0,.ptr b 0]/\Bk AA a [.AE lb 0 nb (Aa+2)]/\Bk AA b [AN s]/\Bk AA lb cb/\h.n<=a/\h.n<=b/\h.n<=lb/\K0 h AA:=by have hd:=q.pk;unfold W9 at hd;refine Ad L X.f172 λQ x cs G=>?_;refine AK ?_ (c:=Ir L (q.k0 za));rintro _ rfl;refine AK ?_ (c:=ami L (q.k0 za));rintro _ h2 ⟨lb,rfl,w1,w2,w3⟩;have n3:=w3.n;simp only[Ag]at w2 n3;refine ret X.f172.1 ?_;exact⟨_,_,lb,rfl,AG,AG,AG,om,om,om,AH⟩
theorem Kq{lp a lb cap:Nat}(hl:cb.length=nb*2)(FT:nb<=44)(QM:∀i,i<nb->cb[i*2]?=some (AN (pe i)))(KD:∀i,i<nb->cb[i*2+1]?=some (AN (ps i)))(I:Nat->H->Prop)(hI:∀i hh,I i hh->Bk hh a [.AE lb 0 nb cap]/\Bk hh b [AN s]/\Bk hh lb cb)(hK:∀i hh AA,I i hh->K0 hh AA->I i AA)(hY:∀i hh,i<nb->ps i=s->I i hh->SX P0 E F K (.yield lp) [AN i,AN (pe i)] hh λu AA=>u= .bool true/\I (i+1) AA)(hN:∀i hh,i<nb->ps i≠s->I i hh->I (i+1) hh)(h0:I 0 h):CL L 218 [.fn (.yield lp) [] [],.ptr a 0,.ptr b 0] h λv AA=>I nb AA:=by
 obtain⟨k1,k2,k3⟩:=hI _ _ h0;refine Bj L X.f218 λQ x cs G=>?_;refine wk ?_;refine Bt L (α:=Unit) (T:=λi _=>[(8,some (AN i)),(7,some (AN nb)),(6,some (.AE lb 0 nb cap)),(2,some (.ptr b 0)),(0,some (.fn (.yield lp) [] []))]) (n:=nb) (R:=λi _ hh=>I i hh) (i0:=0) () BA (hK _ _ _ h0 AH) (CN _) ?_ ?_
 .rintro i _ h2 hi w ih;obtain⟨j1,j2,j3⟩:=hI _ _ w;have c0:=QM i hi;have c1:=KD i hi;by_cases e:ps i=s;.refine wk ?_;refine Jv L rfl rfl rfl rfl rfl (hY i _ hi e (hK i _ _ w za)) ?_;rintro _ h3 ⟨rfl,w3⟩;refine wk ?_;refine ih () _ _ w3 ?_;exact BA
  .refine wk ?_;refine ih () _ _ (hN i _ hi e (hK i _ _ w za)) ?_;exact BA
 .rintro _ h2 w;refine ret X.f218.1 ?_;exact w
theorem rO{p:Prop}(h:p:=by
 refine wk ?_
 refine D8 L (Gk.e CS) G ⟨rfl,?_⟩
 refine⟨AH,CS,(by unfold Wv;exact D5 om),AG,AG,AG,?_,?_⟩
 .rw[e1];exact AG
 .rw[e1];exact AG):p:=h
section
def Db(ps pe:Nat->Nat)(s:Nat):Nat->Int×Nat
 |0=>(-1,0)
 |i+1=>if ps i=s/\((Db ps pe s i).1<0\/pe i<(Db ps pe s i).2)then((i:Int),pe i)else Db ps pe s i
theorem F1(ps pe:Nat->Nat)(s:Nat):∀n,((Db ps pe s n).1= -1/\∀i,i<n->ps i≠s)\/∃i,i<n/\(Db ps pe s n).1=((i:Nat):Int)/\ps i=s
 |0=> .inl ⟨rfl,λi hi=>absurd hi (OD i)⟩
 |n+1=>by
  simp only[Db];by_cases h:ps n=s/\((Db ps pe s n).1<0\/pe n<(Db ps pe s n).2);.rw[AP h];exact .inr ⟨n,NQ n,rfl,h.1⟩
  .rw[AM h];rcases F1 ps pe s n with⟨h1,h2⟩|⟨i,h1,h2,h3⟩
   .refine .inl ⟨h1,λi hi e=>?_⟩;by_cases e2:i=n;.subst e2;exact h ⟨e,.inl om⟩
    .exact h2 i om e
   .exact .inr ⟨i,om,h2,h3⟩
theorem aap(ps pe:Nat->Nat)(s:Nat)(B:Nat):∀n,(∀i,i<n->pe i<=B)->(Db ps pe s n).2<=B
 |0,_=>CN _
 |n+1,h=>by
  simp only[Db];split;.exact h n (NQ n)
  .exact aap ps pe s B n λi hi=>h i om
section
noncomputable def Wv(p s hn a b mk:Nat)(st:LS):DV:= .loop ⟨st,none,264,oB.ntmps,AJ [(11,some (.fn (.func 218) [] [.ptr a 0,.ptr b 0])),(10,some (AN s)),(9,some (.ptr p 0)),(6,some (.ptr (hn+1) 0)),(5,some (.ptr hn 0)),(4,some Zi),(1,some (AN s)),(0,some (.ptr p 0))],[12,13],Ak0,Afj,mk⟩
structure zq (h hh:H)(p s a b lb mk nb:Nat)(ps pe:Nat->Nat)(cb:List AV)(i:Nat):Prop where
 k:K0 h hh
 dk:Gk hh mk (.EQ (some []))
 lp:Gk hh (mk+1) (Wv p s h.n a b mk .ready)
 ka:Bk hh a [.AE lb 0 nb (Aa+2)]
 kb:Bk hh b [AN s]
 kl:Bk hh lb cb
 k5:Bk hh h.n [eI (Db ps pe s i).1]
 k6:Bk hh (h.n+1) [AN ((Db ps pe s i).2)]
theorem ahz(q:Ge h p pb nb ps pe cb)(hs:s<=4):CL L 264 [.ptr p 0,AN s] h λv AA=>v=eI (Db ps pe s nb).1/\K0 h AA:=by
 have hq:=q.cG;refine Ad L X.f264 λQ x cs G=>?_;refine AK ?_ (c:=Mf L (s:=s) (q.k0 za));rintro _ h2 ⟨a,b,lb,rfl,w1,w2,w3,w4,w5,w6,w7⟩;have n5:=w7.n;simp only[Ag]at n5 w4 w5 w6;have la:=w1.lt;have vA:=w2.lt;have lc:=w3.lt;refine wk ?_;refine Ew L (post:=λ_ AA=>zq h AA p s a b lb h2.n nb ps pe cb nb) rfl rfl rfl ?_ ?_
 .refine Ct.A ((Kq L (ps:=ps) (pe:=pe) (cb:=cb) q.len hq.2 q.c0 q.c1 (λi hh=>zq h hh p s a b lb h2.n nb ps pe cb i) (λi hh r=>⟨r.ka,r.kb,r.kl⟩) (λi hh AA r k=>?_) (λi hh hi e r=>?_) (λi hh hi e r=>?_) ⟨AH,CS,CS,AG,AG,AG,AG,AG⟩).mono λv AA p=>p);.exact⟨Kp.EA k r.k,C4 k r.dk,C4 k r.lp,Ab k r.ka,Ab k r.kb,Ab k r.kl,Ab k r.k5,Ab k r.k6⟩
  .obtain⟨r1,r2,r3,r4,r5,r6,r7,r8⟩:=r;have hle:=r3.e;unfold Wv at hle;have g1:=r2.lt;have g2:=r3.lt;have g3:=r4.lt;have g4:=r5.lt;have g5:=r6.lt;have g7:=r7.lt;have g8:=r8.lt;have TF:=aap ps pe s 900000000 i λj hj=>q.er j om;have hei:=q.er i hi;refine Du L (l1:=[(13,some (AN (pe i))),(12,some (AN i)),(11,some (.fn (.func 218) [] [.ptr a 0,.ptr b 0])),(10,some (AN s)),(9,some (.ptr p 0)),(6,some (.ptr (h.n+1) 0)),(5,some (.ptr h.n 0)),(4,some Zi),(1,some (AN s)),(0,some (.ptr p 0))]) hle rfl ?_;intro Q z2 cs G;refine wk ?_;refine Dh L (Gk.e CS) ?_;have VP:=F1 ps pe s i;have e1:Db ps pe s (i+1)=if ps i=s/\((Db ps pe s i).1<0\/pe i<(Db ps pe s i).2)then((i:Int),pe i)else Db ps pe s i:=rfl;generalize hc:Db ps pe s i=ck at*;obtain⟨ck,FN⟩:=ck;simp only at VP r7 r8 TF e1;by_cases dm:ck<0;.rw[AP ⟨e,.inl dm⟩]at e1;exact rO
   .obtain⟨c,rfl⟩:∃c:Nat,ck=(c:Int):=⟨ck.toNat,om⟩;by_cases BX:pe i<FN;.rw[AP ⟨e,.inr BX⟩]at e1;exact rO
    .rw[AM om]at e1;exact rO
  .obtain⟨r1,r2,r3,r4,r5,r6,r7,r8⟩:=r;have e1:Db ps pe s (i+1)=Db ps pe s i:=(by simp only[Db];rw[AM om]);exact⟨r1,r2,r3,r4,r5,r6,by rw[e1];exact r7,by rw[e1];exact r8⟩
 .rintro v h3 ⟨r1,r2,r3,r4,r5,r6,r7,r8⟩;have hle:=r3.e;unfold Wv at hle;have l5:=r2.lt;have l7:=r7.lt;refine Hv L (n:=h3.n) (t:=h3.t) (lh:=[]) hle W1 ?_;refine wk ?_;refine Fd L (todo:=[]) ?_;refine Ex L W1 (Gk.e CS) ?_;refine C1 L X.f264.1 (Fl rfl) G ⟨rfl,AH⟩
theorem Afz(q:Ge h p pb nb ps pe cb):CL L 237 [.ptr p 0] h λv AA=>((Db ps pe 1 nb).1= -1/\(∀i,i<nb->ps i≠1)/\v= .BM [Zi,AN 9]/\K0 h AA)\/∃i,(Db ps pe 1 nb).1=((i:Nat):Int)/\i<nb/\ps i=1/\v= .BM [AN i,Zi]/\Ge AA p pb nb (AX ps i 2) pe (cb.set (i*2+1) (AN 2))/\Kp (λj=>j=p\/j=pb) h AA:=by
 refine Aj L X.f237 λQ x cs G=>?_;refine AK ?_ (c:=Ir L q);rintro _ rfl;refine AK ?_ (c:=ahz L q (s:=1) om);rintro _ h2 ⟨rfl,k2⟩;rcases F1 ps pe 1 nb with⟨h1,VN⟩|⟨i,hi,h1,h3⟩
 .rw[h1];refine ret X.f237.1 ?_;exact .inl ⟨h1,VN,rfl,AH⟩
 .rw[h1];refine AK ?_ (c:=No L (t:=2) (q.k0 za) hi om);rintro _ h4 ⟨rfl,w1,w2⟩;refine ret X.f237.1 ?_;exact .inr ⟨i,h1,hi,h3,rfl,w1,Kp.DZ w2 (λ_ _ e=>e) AH⟩
