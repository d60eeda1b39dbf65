import Derived.KernelRfl
import Derived.Test.YtgackjbfibdoiaaGreatH04
set_option linter.all false
set_option maxRecDepth 100000
set_option maxHeartbeats 4000000
namespace Go.Ev.Xy
def Axq:Nat:=2197175160
def f1(x:Nat):Nat:=if x%2=1 then(x/2)^^^Axq else x/2
def f8(x:Nat):Nat:=f1 (f1 (f1 (f1 (f1 (f1 (f1 (f1 x)))))))
theorem Qe{x:Nat}(h:x<2^32):f1 x<2^32:=by
 unfold f1;split;.exact nL om PI
 .omega
theorem abn{x:Nat}(h:x<2^32):f8 x<2^32:=Qe (Qe (Qe (Qe (Qe (Qe (Qe (Qe h)))))))
def kC(s b:Nat):Nat:=(s>>>8)^^^f8 ((s%256)^^^b)
theorem abc{s b:Nat}(hs:s<2^32)(hb:b<2^8):kC s b<2^32:=by have hx:(s%256)^^^b<256:=nL (n:=8) (UX _ PI) hb;exact nL (by rw[fZ];omega) (abn om)
def AX(s:Nat)(bs:List Nat):Nat:=bs.foldl kC s
theorem aeq:∀(bs:List Nat) (s:Nat),s<2^32->(∀b∈bs,b<2^8)->AX s bs<2^32
 | [],s,h,_=>h
 |b::r,s,hs,h=>by unfold AX;rw[fR];exact aeq r _ (abc hs (h b (DW ..))) λx hx=>h x (Ck _ hx)
end Go.Ev.Xy
namespace Go.Ev
variable {P0:Program}{E:Env}{F:T DY}{K:HK}(L:Lg P0 E F K)[X:Fx F K]
section
variable {b cap o pb s:Nat}
section
open Xy (f8 kC)
def Yn:List AV:=(List.range 256).map λi=> .int .u32 ((f8 i:Nat):Int)
class Tb (P:Program)(E:Env)(F:T DY)(K:HK):Prop where
 ct:∀h,Ct P E F K 308 [.fn (.func 309) [] []] h λv AA=>v= .agg Yn/\AA=h
variable [aq4:Tb P0 E F K]
theorem Aaq{i:Nat}(h:i<256):Yn[i]?=some (.int .u32 ((f8 i:Nat):Int)):=by unfold Yn;rw[GD,Yu h];rfl
section
variable {h:H}
theorem Aar{tb:Nat}(k:Bk h tb Yn)(hs:s<2^32)(hb:b<2^8):CL L 312 [.int .u32 (s:Int),.int .u8 (b:Int),.ptr tb 0] h λv AA=>v= .int .u32 ((kC s b:Nat):Int)/\AA=h:=by
 have hx:(s%256)^^^b<256:=nL (n:=8) (UX _ PI) hb;have hg:=Aaq hx;have hf:f8 ((s%256)^^^b)<2^32:=Xy.abn om;have hs8:s>>>8<2^32:=by rw[fZ];omega
 refine Bj L X.f312 λQ x cs G=>?_;refine wk ?_;refine BO L (zr rfl rfl PI) ?_;refine wk ?_;refine BO L (Wa rfl rfl) ?_;refine wk ?_;refine BO L (wO rfl rfl rfl (UX _ PI) hb hx) ?_;refine wk ?_;refine BO L (Ur rfl rfl hx) ?_;refine wk ?_;refine BO L (wO rfl rfl rfl hs8 hf (nL hs8 hf)) ?_;refine ret X.f312.1 ?_;refine⟨?_,rfl⟩;rfl
theorem ahw{n tb:Nat}{bs:List Nat}(kp:Bk h pb [.AE b o n cap])(kb:BS h b o bs)(hl:bs.length=n)(hn:n<900000000)(kt:Bk h tb Yn)(hs:s<2^32):CL L 311 [.int .u32 (s:Int),.AE pb 0 1 1,.fn (.func 312) [] [.ptr tb 0]] h λv AA=>v= .int .u32 ((Xy.AX s bs:Nat):Int)/\AA=h:=by
 have ha:=kb.all;refine Bj L X.f311 λQ x cs G=>?_;refine wk ?_;refine Bi L ?_;refine wk ?_;refine Bt L (α:=Nat) (T:=λi u=>[(19,some (AN i)),(18,some (AN n)),(17,some (.AE b o n cap)),(2,some (.fn (.func 312) [] [.ptr tb 0])),(0,some (.int .u32 ((u:Nat):Int))),(13,some Zi),(12,some (AN 1))]) (n:=n) (R:=λi u h1=>h1=h/\u=Xy.AX s (bs.take i)/\u<2^32) (i0:=0) s BA ⟨rfl,by simp[Xy.AX],hs⟩ (CN _) ?_ ?_
 .rintro i u h1 hi ⟨rfl,w1,w2⟩ ih;have hb:=ha i om;refine wk ?_;refine BO L (Wg kb rfl om) ?_;refine AK ?_ (c:=Aar L (h:=h1) kt w2 hb);rintro _ rfl;refine wk ?_;refine ih (kC u (bs.getD i 0)) _ _ ⟨rfl,?_,Xy.abc w2 hb⟩ BA;rw[w1,LO];have:bs[i]?=some (bs.getD i 0):=by rw[MZ,DA om];rfl
  rw[this];unfold Xy.AX;rw[jP];rfl
 .rintro u h1 ⟨rfl,w1,w2⟩;refine wk ?_;refine Bs L ?_;refine ret X.f311.1 ?_;rw[w1,<-hl,NA];exact⟨rfl,rfl⟩
theorem agn{n:Nat}{bs:List Nat}(kp:Bk h pb [.AE b o n cap])(kb:BS h b o bs)(hl:bs.length=n)(hn:n<900000000)(hs:s<2^32):CL L 297 [.int .u32 (s:Int),.AE pb 0 1 1] h λv AA=>v= .int .u32 ((Xy.AX s bs:Nat):Int)/\K0 h AA:=by have l2:=kb.ET;refine Ad L X.f297 λQ x cs G=>?_;refine AK ?_ (c:=aq4.ct _);rintro _ rfl;refine AK ?_ (c:=ahw L (bs:=bs) AG EN hl hn (R9 (c:=Yn) rfl AG) hs);rintro _ rfl;refine ret X.f297.1 ?_;exact⟨rfl,AH⟩
def NT(bs:List Nat):Nat:=pw .u32- 1- Xy.AX 4294967295 bs
theorem Nm(bs:List Nat):NT bs<2^32:=by unfold NT;simp only[pw];omega
theorem Aas{n:Nat}{bs:List Nat}(kp:Bk h pb [.AE b o n cap])(kb:BS h b o bs)(hl:bs.length=n)(hn:n<900000000):CL L 268 [.AE pb 0 1 1] h λv AA=>v= .int .u32 ((NT bs:Nat):Int)/\K0 h AA:=by refine Aj L X.f268 λQ x cs G=>?_;refine AK ?_ (c:=agn L kp kb hl hn PI);rintro _ h1 ⟨rfl,hk⟩;refine wk ?_;refine BO L ((⟨Aju rfl (Ac rfl) (by simp only[pw];exact Xy.aeq _ _ PI (λv hv=>by obtain⟨i,hi,e⟩:=ah hv;have:=kb.all i hi;rw[MZ,DA hi]at this;rw[<-e];exact this)) rfl⟩)) ?_;refine ret X.f268.1 ?_;exact⟨rfl,AH⟩
theorem vw{n:Nat}{bs:List Nat}(kb:BS h b o bs)(hl:bs.length=n)(hn:n<900000000):CL L 240 [.AE b o n cap] h λv AA=>v= .int .u32 ((NT bs:Nat):Int)/\K0 h AA:=by have l1:=kb.ET;refine Aj L X.f240 λQ x cs G=>?_;refine AK ?_ (c:=Aas L (bs:=bs) AG EN hl hn);rintro _ h1 ⟨rfl,hk⟩;refine ret X.f240.1 ?_;exact⟨rfl,AH⟩
end
end
end
section
variable [aq4:Tb P0 E F K]
variable {cap db bK gK i k lb lo w:Nat}{data:List Nat}{h:H}{s:Sp}{v:AV}
theorem r5{a b c d e f:Prop}(h:f):a\/b\/c\/d\/e\/f:= .inr (.inr (.inr (.inr (.inr h))))
def A3(s:Sp)(data:List Nat):List Nat:=Bc s++DJ 4 (NT (data++Bc s))
theorem Ak1(s:Sp):(s.seq<1)\/(1<=s.seq/\s.len<1)\/(1<=s.seq/\65535<s.len)\/(1<=s.seq/\1<=s.len/\s.len<=65535/\s.idx<0)\/(1<=s.seq/\1<=s.len/\s.len<=65535/\0<=s.idx/\s.len<=s.idx)\/(1<=s.seq/\1<=s.len/\s.len<=65535/\0<=s.idx/\s.idx<s.len/\s.kind=1/\s.sec<0)\/(1<=s.seq/\1<=s.len/\s.len<=65535/\0<=s.idx/\s.idx<s.len/\s.kind=1/\4294967294<s.sec)\/(1<=s.seq/\1<=s.len/\s.len<=65535/\0<=s.idx/\s.idx<s.len/\s.kind=1/\0<=s.sec/\s.sec<=4294967294/\s.prev≠0)\/(1<=s.seq/\1<=s.len/\s.len<=65535/\0<=s.idx/\s.idx<s.len/\s.kind=1/\0<=s.sec/\s.sec<=4294967294/\s.prev=0/\s.len≠1)\/(1<=s.seq/\1<=s.len/\s.len<=65535/\0<=s.idx/\s.idx<s.len/\s.kind=1/\0<=s.sec/\s.sec<=4294967294/\s.prev=0/\s.len=1)\/(1<=s.seq/\1<=s.len/\s.len<=65535/\0<=s.idx/\s.idx<s.len/\s.kind≠1/\s.kind≠2/\s.kind≠3)\/(1<=s.seq/\1<=s.len/\s.len<=65535/\0<=s.idx/\s.idx<s.len/\s.kind=2/\s.sec≠0)\/(1<=s.seq/\1<=s.len/\s.len<=65535/\0<=s.idx/\s.idx<s.len/\s.kind=2/\s.sec=0/\s.seq<=s.prev)\/(1<=s.seq/\1<=s.len/\s.len<=65535/\0<=s.idx/\s.idx<s.len/\s.kind=2/\s.sec=0/\s.prev<s.seq/\s.seq- s.prev<=s.idx.toNat)\/(1<=s.seq/\1<=s.len/\s.len<=65535/\0<=s.idx/\s.idx<s.len/\s.kind=2/\s.sec=0/\s.prev<s.seq/\s.idx.toNat<s.seq- s.prev)\/(1<=s.seq/\1<=s.len/\s.len<=65535/\0<=s.idx/\s.idx<s.len/\s.kind=3/\s.sec≠0)\/(1<=s.seq/\1<=s.len/\s.len<=65535/\0<=s.idx/\s.idx<s.len/\s.kind=3/\s.sec=0/\s.seq<=s.prev)\/(1<=s.seq/\1<=s.len/\s.len<=65535/\0<=s.idx/\s.idx<s.len/\s.kind=3/\s.sec=0/\s.prev<s.seq/\s.seq- s.prev<=s.idx.toNat)\/(1<=s.seq/\1<=s.len/\s.len<=65535/\0<=s.idx/\s.idx<s.len/\s.kind=3/\s.sec=0/\s.prev<s.seq/\s.idx.toNat<s.seq- s.prev):=by
 by_cases h0:s.seq<1;.exact .inl om
 by_cases h1:s.len<1;.exact .inr (.inl ⟨om,om⟩)
 by_cases h2:65535<s.len;.exact .inr (.inr (.inl ⟨om,om⟩))
 by_cases h3:s.idx<0;.exact .inr (.inr (.inr (.inl om)))
 by_cases h4:s.len<=s.idx;.exact .inr (.inr (.inr (.inr (.inl om))))
 by_cases hk:s.kind=1
 .by_cases h5:s.sec<0;.exact r5 (.inl om)
  by_cases h6:4294967294<s.sec;.exact r5 (.inr (.inl om))
  by_cases h7:s.prev≠0;.exact r5 (.inr (.inr (.inl om)))
  by_cases h8:s.len≠1;.exact r5 (.inr (.inr (.inr (.inl om))))
  exact r5 (.inr (.inr (.inr (.inr (.inl om)))))
 by_cases TJ:s.kind=2
 .by_cases oQ:s.sec≠0;.exact r5 (r5 (.inr (.inl om)))
  by_cases h12:s.seq<=s.prev;.exact r5 (r5 (.inr (.inr (.inl om))))
  by_cases h13:s.seq- s.prev<=s.idx.toNat;.exact r5 (r5 (.inr (.inr (.inr (.inl om)))))
  exact r5 (r5 (.inr (.inr (.inr (.inr (.inl om))))))
 by_cases hk3:s.kind=3
 .by_cases h15:s.sec≠0;.exact r5 (r5 (r5 (.inl om)))
  by_cases h16:s.seq<=s.prev;.exact r5 (r5 (r5 (.inr (.inl om))))
  by_cases h17:s.seq- s.prev<=s.idx.toNat;.exact r5 (r5 (r5 (.inr (.inr (.inl om)))))
  exact r5 (r5 (r5 (.inr (.inr (.inr om)))))
 exact r5 (r5 (.inl om))
theorem Uw(ok:s.Ok):CL L 197 [.agg (NL s)] h λv AA=>v= .bool (decide s.Valid)/\K0 h AA:=by
 have lY:=ok.seq;have hpv:=ok.prev;have hu:0<=s.idx->u64 s.idx=s.idx.toNat\/18446744073709551616<=s.idx:=by unfold u64;omega
 rcases Ak1 s with hc|hc|hc|hc|hc|hc|hc|hc|hc|hc|hc|hc|hc|hc|hc|hc|hc|hc|hc
 all_goals
  refine Aj L X.f197 λQ x cs G=>?_;refine wk ?_;(try(refine BO L (Nh rfl) ?_;refine wk ?_;refine BO L (O0 rfl rfl rfl om ZM) ?_;refine wk ?_));(first
  |(refine ret X.f197.1 ?_;exact⟨by rw[show decide s.Valid=false from CW (by unfold Sp.Valid;omega)];rfl,AH⟩)
  |(refine ret X.f197.1 ?_;exact⟨by rw[show decide s.Valid=true from CM (by unfold Sp.Valid;omega)];rfl,AH⟩))
theorem vx{v n:Nat}(hn:1<=n/\n<=8)(hv:v<256^n)(iD:v<18446744073709551616):CL L 304 [UN v,AN n] h λu AA=>∃b,u= .BM [.AE b 0 n n,Zi]/\Bk AA b (B5 (DJ n v))/\h.n<=b/\K0 h AA:=by
 have hz:=Avz hv
 have loop:∀(Q:Nat->AV->Prop) (x:EW) (cs:FM) (l:CJ),(∀u AA,(∃b,u= .BM [.AE b 0 n n,Zi]/\Bk AA b (B5 (DJ n v))/\h.n<=b/\K0 h AA)->GO P0 E Q (finish u cs AA x))->
   FY (AJ [(29,some Zi),(28,some (AN n)),(6,some (.AE h.n 0 n n)),(0,some (UN v))]) (AJ l)->
   Good P0 E Q ⟨⟨304,oC.ntmps,AJ l,[.code (.loop Afk),.inBlock 1,.code Afl],[],.run,false,none⟩,x::cs,hp (h.n+1) h.t [(h.n,some (cl (rl [Zy] n)))]⟩:=by
  intro Q x cs l G ht
  refine D0 L ht ?_
  rw[Fm]
  refine Bt L (α:=Unit) (T:=λi _=>[(29,some (AN i)),(28,some (AN n)),(6,some (.AE h.n 0 n n)),(0,some (UN v))]) (n:=n)
   (R:=λi _ h1=>Bk h1 h.n (B5 (DJ i v++List.replicate (n- i) 0))/\K0 h h1) (i0:=0) () BA ⟨by rw[DJ,RV,WK];exact AG,AH⟩ (CN _) ?_ ?_
  .rintro i _ h1 hi ⟨w1,w2⟩ ih
   have hd:List.replicate (n- i) 0=0::List.replicate (n- (i+1)) 0:=by rw[show n- i=(n- (i+1))+1 from om];rfl
   rw[hd]at w1
   have p8:i<(B5 (DJ i v++0::List.replicate (n- (i+1)) 0)).length:=by
    rw[F0,DX,FX,Bb];omega
   refine wk ?_
   refine BO L (zr (s:=8*i) rfl rfl (by show 8*i<=64;omega)) ?_
   refine wk ?_
   refine BO L (Wa rfl rfl) ?_
   refine wk ?_
   refine ih () _ _ ⟨?_,AH⟩ BA
   refine R9 ?_ AG
   rw[Aaa _ _ _ _ _ (by rw[Bb]),aae,NP]
   rfl
  .rintro _ h1 ⟨w1,w2⟩
   refine ret X.f304.1 ?_
   rw[Xq,List.replicate_zero,MO]at w1
   exact⟨h.n,rfl,AG,BD _,AH⟩
 by_cases h8:n<8;.refine Ad L X.f304 λQ x cs G=>?_;refine wk ?_;refine BO L (zr (s:=8*n) rfl rfl (by show 8*n<=64;omega)) ?_;rw[hz];refine wk ?_;exact loop Q x cs _ G BA
 .refine Ad L X.f304 λQ x cs G=>?_;refine wk ?_;exact loop Q x cs _ G BA
structure YD (h:H)(lo w:Nat)(bs:List Nat):Prop where
 ex:(bs=[]/\Bk h w [.AS])\/(0<bs.length/\∃b,Bk h w [.AE b 0 bs.length (Aa+1)]/\BS h b 0 bs/\lo<=b/\b≠w)
 lo:lo<=w
theorem YD.k0{AA:H}{bs:List Nat}(k:K0 h AA)(q:YD h lo w bs):YD AA lo w bs:=by
 refine⟨?_,q.lo⟩;rcases q.ex with⟨e,k1⟩|⟨e,b,k1,k2,k3⟩;.exact .inl ⟨e,Ab k k1⟩
 .exact .inr ⟨e,b,Ab k k1,k2.k0 k,k3⟩
theorem ac2{b2 n:Nat}{bs new:List Nat}(q:YD h lo w bs)(k2:BS h b2 0 new)(hn:new.length=n)(h1:0<n)(h2:bs.length+n<100000):CL L 303 [.ptr w 0,.AE b2 0 n cap,Zi] h λv AA=>v=Zi/\YD AA lo w (bs++new)/\Kp (λj=>lo<=j) h AA:=by
 have l2:=k2.ET;have a2:=k2.all;have HX:=q.lo;rcases q.ex with⟨rfl,kw⟩|⟨dr,b,kw,kb,hb,hbw⟩;.have lw:=kw.lt;have f2:BS (hp h.n h.t []) b2 0 new:=k2;refine Bj L X.f303 λQ x cs G=>?_;refine wk ?_;refine BO L (D1 (new:=B5 new) rfl rfl (f2.UT hn) h1 om) ?_;refine ret X.f303.1 ?_;refine⟨rfl,⟨.inr ⟨by rw[RV];omega,h.n,?_,by rw[RV];exact nT om (Ia a2),om,om⟩,HX⟩,AH⟩;rw[RV,hn];exact AG
 .have lw:=kw.lt;have lb:=kb.ET;have a1:=kb.all;have f2:BS (hp h.n h.t []) b2 0 new:=k2;have f1:BS (hp h.n h.t []) b 0 bs:=kb;refine Bj L X.f303 λQ x cs G=>?_;refine wk ?_;refine BO L (D7 (old:=B5 bs) (new:=B5 new) rfl rfl (f1.UT rfl) (f2.UT hn) h1 om (Fc _)) ?_;refine ret X.f303.1 ?_;refine⟨rfl,⟨.inr ⟨by rw[DX];omega,h.n,?_,?_,om,om⟩,HX⟩,AH⟩;.rw[DX,hn];exact AG
  .rw[Kl];exact nT om (Ia (a1.app a2))
theorem Afo{v n:Nat}{bs:List Nat}(q:YD h lo w bs)(hn:1<=n/\n<=8)(hv:v<256^n)(iD:v<18446744073709551616)(h2:bs.length+n<100000):CL L 288 [.ptr w 0,UN v,AN n] h λu AA=>u=Zi/\YD AA lo w (bs++DJ n v)/\Kp (λj=>lo<=j) h AA:=by refine Bj L X.f288 λQ x cs G=>?_;refine AK ?_ (c:=vx L hn hv iD);rintro _ h1 ⟨b,rfl,w1,w2,w3⟩;refine AK ?_ (c:=ac2 L (q.k0 (by exact w3)) (Ng w1 (Fo _ _)) (Bb _ _) hn.1 h2);rintro _ h3 ⟨rfl,w4,w5⟩;refine ret X.f288.1 ?_;exact⟨rfl,w4,Kp.DZ w5 (λ_ _ e=>e) (w3.mono λ_ e=>e.elim)⟩
theorem Ux{n:Nat}{bs:List Nat}(q:YD h lo w bs)(hn:bs.length=n)(h1:0<n/\n<1000):CL L 289 [.ptr w 0] h λv AA=>∃b,v= .AE b 0 n (Aa+1)/\BS AA b 0 bs/\h.n<=b/\K0 h AA:=by
 rcases q.ex with⟨rfl,kw⟩|⟨dr,b,kw,kb,hb,hbw⟩;.exact absurd hn Y1
 .rw[hn]at kw;refine Aj L X.f289 λQ x cs G=>?_;refine AK ?_ (c:=Ip L (yJ kb) hn h1);rintro _ h1 ⟨AR,rfl,w1,w2,w3⟩;simp only[Ag]at w2;refine ret X.f289.1 ?_;exact⟨AR,rfl,w1,w2,AH⟩
def fC(x:Nat×Nat):List AV:=[UN x.1,AN x.2]
def fB(l:List (Nat×Nat)):List Nat:=l.flatMap λx=>DJ x.2 x.1
structure jk (x:Nat×Nat):Prop where
 n:1<=x.2/\x.2<=8
 v:x.1<256^x.2
 v2:x.1<18446744073709551616
theorem vy(l:List (Nat×Nat)):∀x∈l,(fC x).length=2:=λ_ _=>rfl
theorem Afp{l:List (Nat×Nat)}{x:Nat×Nat}(h:l[i]?=some x):fB (l.take (i+1))=fB (l.take i)++DJ x.2 x.1:=by unfold fB;rw[LO,h,OX];simp
theorem xG{l:List (Nat×Nat)}(hl:∀x∈l,jk x):(fB l).length<=8*l.length:=by
 induction l with
 |nil=>exact BD _
 |cons a r ih=>have h1:=(hl a (DW ..)).n;have h2:=ih λx hx=>hl x (Ck _ hx);unfold fB at*;rw[KP,DX,Bb,FX];omega
theorem ahx{x:Nat×Nat}(ok:jk x):CL L 307 [.agg (fC x)] h λu AA=>∃b,u= .BM [.AE b 0 x.2 x.2,Zi]/\Bk AA b (B5 (DJ x.2 x.1))/\h.n<=b/\K0 h AA:=by obtain⟨v,n⟩:=x;unfold fC;refine Aj L X.f307 λQ x cs G=>?_;refine AK ?_ (c:=vx L ok.n ok.v ok.v2);rintro _ h1 ⟨b,rfl,w1,w2,w3⟩;simp only[Ag]at w2;refine ret X.f307.1 ?_;exact⟨b,rfl,AG,om,AH⟩
theorem Afq{l:List (Nat×Nat)}(hb:Bk h lb (l.flatMap fC))(hk:l.length=k)(TI:0<k/\k<1000)(hl:∀x∈l,jk x):CL L 306 [.AE lb 0 k k,.fn (.func 307) [] []] h λu AA=>∃b,u= .BM [.AE b 0 (fB l).length (Aa+1),Zi]/\BS AA b 0 (fB l)/\h.n<=b/\K0 h AA:=by
 have hlen:=B8 l (vy l);refine Ad L X.f306 λQ x cs G=>?_;refine wk ?_;refine Bt L (α:=AV) (T:=λi v=>[(12,some (AN i)),(11,some (AN k)),(10,some (.AE lb 0 k k)),(4,some v),(1,some (.fn (.func 307) [] []))]) (n:=k) (R:=λi v h2=>((i=0/\v= .AS)\/∃b,v= .AE b 0 (fB (l.take i)).length (Aa+1)/\BS h2 b 0 (fB (l.take i))/\h.n<=b)/\Kp (λj=>h.n<=j) h h2) (i0:=0) .AS BA ⟨.inl ⟨rfl,rfl⟩,AH⟩ (CN _) ?_ ?_
 .rintro i v h2 hi ⟨q1,q2⟩ ih;have hx:l[i]?=some l[i]:=DA om;have ES:=hl _ (LC (show i<l.length from om));have DF:=A7 l (vy l) i _ hx;rw[Afp hx]at ih;have abr:=xG (l:=l.take i) λx hx=>hl x (cO hx);rw[IS]at abr;generalize l[i]=x at*;obtain⟨xv,xn⟩:=x;have HV:i*2+2<=(l.flatMap fC).length/\((l.flatMap fC).drop (i*2)).take 2=[UN xv,AN xn]:=DF;have UG:Bk h2 lb (l.flatMap fC):=Ao q2 om hb;have hkn:=ES.n;simp only at hkn;refine wk ?_;refine BO L (A0 UG.rk HV rfl) ?_;refine AK ?_ (c:=ahx L (x:=(xv,xn)) ES);rintro _ h3 ⟨b3,rfl,w1,w2,w3⟩;simp only[Ag]at w2;have n3:=w3.n;simp only[Ag]at n3;have f3:BS (hp h3.n h3.t []) b3 0 (DJ xn xv):=Ng w1 (Fo _ _);have a3:=f3.all;rcases q1 with⟨rfl,rfl⟩|⟨b,rfl,kb,HX⟩
  .refine wk ?_;refine BO L (D1 (new:=B5 (DJ xn xv)) rfl rfl (f3.UT (Bb _ _)) om om) ?_;refine wk ?_;refine ih (.AE h3.n 0 xn (Aa+1)) _ _ ⟨.inr ⟨h3.n,?_,?_,om⟩,AH⟩ ?_;rotate_left;.rw[nO];exact Ia a3
   .exact BA
   .rw[nO];show AV.AE h3.n 0 xn _=_;rw[show(fB []++DJ xn xv).length=xn from Bb _ _]
  .have lbb:=kb.ET;have f1:BS (hp h3.n h3.t []) b 0 (fB (l.take i)):=EN;have a1:=f1.all;refine wk ?_;refine BO L (D7 (old:=B5 (fB (l.take i))) (new:=B5 (DJ xn xv)) rfl rfl (f1.UT rfl) (f3.UT (Bb _ _)) om om (Fc _)) ?_;refine wk ?_;refine ih (.AE h3.n 0 ((fB (l.take i)).length+xn) (Aa+1)) _ _ ⟨.inr ⟨h3.n,?_,?_,om⟩,AH⟩ ?_;rotate_left;.rw[Kl];exact Ia (a1.app a3)
   .exact BA
   .rw[DX,Bb]
 .rintro v h2 ⟨q1,q2⟩;rcases q1 with⟨e,_⟩|⟨b,rfl,kb,HX⟩;.omega
  .rw[<-hk,NA]at*;refine ret X.f306.1 ?_;exact⟨b,rfl,kb,HX,q2.cut (BD _)⟩
theorem Uy{l:List (Nat×Nat)}(hb:Bk h lb (l.flatMap fC))(hk:l.length=k)(TI:0<k/\k<100)(hl:∀x∈l,jk x):CL L 263 [.AE lb 0 k k] h λu AA=>∃b,u= .AE b 0 (fB l).length (Aa+1)/\BS AA b 0 (fB l)/\h.n<=b/\K0 h AA:=by
 have abr:=xG hl;have HM:0<(fB l).length:=by
  cases l with
  |nil=>simp at hk;omega
  |cons a r=>have:=(hl a (DW ..)).n;unfold fB;rw[KP,DX,Bb];omega
 refine Aj L X.f263 λQ x cs G=>?_;refine wk ?_;have q:YD (hp (h.n+1) h.t [(h.n,some (cl [.AS]))]) h.n h.n []:=⟨.inl ⟨rfl,AG⟩,BD _⟩;have aa:CL L 293 [.ptr h.n 0,.AE lb 0 k k] (hp (h.n+1) h.t [(h.n,some (cl [.AS]))]) λv AA=>v=Zi/\YD AA h.n h.n (fB l)/\Kp (λj=>h.n<=j) (hp (h.n+1) h.t [(h.n,some (cl [.AS]))]) AA:=by clear G;refine Ad L X.f293 λQ x cs G=>?_;refine AK ?_ (c:=Afq L (lb:=lb) (l:=l) AG hk om hl);rintro _ h2 ⟨b,rfl,w1,w2,w3⟩;refine AK ?_ (c:=ac2 L (q.k0 (by exact w3)) w1 rfl HM (by rw[VB];omega));rintro _ h3 ⟨rfl,w4,w5⟩;refine ret X.f293.1 ?_;exact⟨rfl,w4,Kp.DZ w5 (λ_ _ e=>e) (w3.mono λ_ e=>e.elim)⟩
 refine AK ?_ (c:=aa);rintro _ h2 ⟨rfl,w1,w2⟩;have n2:=w2.n;simp only[Ag]at n2;refine AK ?_ (c:=Ux L w1 rfl om);rintro _ h3 ⟨b,rfl,w3,w4,w5⟩;refine ret X.f263.1 ?_;refine⟨b,rfl,w3,om,?_⟩;have k2:Kp (λj=>h.n<=j) h h2:=Kp.DZ w2 (λ_ _ e=>e) AH;exact Kp.cut (Kp.EA w5 k2) (BD _)
theorem Afr:DJ 4 1280591427=[67,70,84,76]:=by decide
def ZW(s:Sp):List (Nat×Nat):=[(1280591427,4),(s.kind,1),(0,3),(s.seq,8),(s.prev,8),(s.sec.toNat,4),(s.idx.toNat,4),(s.len.toNat,4)]
structure Sp.Fit (s:Sp):Prop where
 v:s.Valid
 ok:s.Ok
theorem Ak2(q:s.Fit):∀x∈ZW s,jk x:=by
 obtain⟨⟨h1,h2,h3,h4,h5,h6⟩,⟨k1,k2,k3⟩⟩:=q;intro x hx;have h8:(256:Nat)^8=18446744073709551616:=by decide
 have oR:(256:Nat)^4=4294967296:=by decide
 unfold ZW at hx;simp only[DD,List.not_mem_nil,or_false]at hx;rcases hx with rfl|rfl|rfl|rfl|rfl|rfl|rfl|rfl;.exact⟨by simp,by simp[oR],by simp⟩
 .exact⟨by simp,by simpa using k1,by simp only;omega⟩
 .exact⟨by simp,by simp,by simp⟩
 .exact⟨by simp,by simp only[h8];exact k2,k2⟩
 .exact⟨by simp,by simp only[h8];exact k3,k3⟩
 .exact⟨by simp,by simp only[oR];omega,by simp only;omega⟩
 .exact⟨by simp,by simp only[oR];omega,by simp only;omega⟩
 .exact⟨by simp,by simp only[oR];omega,by simp only;omega⟩
theorem Atg(q:s.Fit):fB (ZW s)++List.replicate 24 0=Bc s:=by
 obtain⟨⟨h1,h2,h3,h4,h5,h6⟩,⟨k1,k2,k3⟩⟩:=q;have e1:u64 s.sec=s.sec.toNat:=by unfold u64;omega
 have e2:u64 s.idx=s.idx.toNat:=by unfold u64;omega
 have e3:u64 s.len=s.len.toNat:=by unfold u64;omega
 unfold Bc fB ZW SO;rw[e1,e2,e3];simp only[KP,fO,Afr];simp[DJ,cR k1]
theorem Afs(s:Sp):(fB (ZW s)).length=36:=by unfold fB ZW;simp only[KP,fO,DX,Bb,VB]
theorem Aaw{dn eb en abk:Nat}{ex:List Nat}(kd:BS h db gK data)(hd:data.length=dn)(XA:0<dn/\dn<900)(ke:BS h eb 0 ex)(he:ex.length=en)(YN:en=60)(hc:abk=Aa+1):CL L 194 [.AE db gK dn bK,.AE eb 0 en abk] h λv AA=>v=UN (NT (data++ex))/\K0 h AA:=by subst YN hc;have l1:=kd.ET;have l2:=ke.ET;have a1:=Nm (data++ex);refine Ad L X.f194 λQ x cs G=>?_;refine AK ?_ (c:=Lb L (b1:=db) (o1:=gK) (n1:=dn) (c1:=bK) (b2:=eb) (o2:=0) (n2:=60) (c2:=Aa+1) (YG:=data) (bI:=ex) AG EN EN hd he om om);rintro _ h2 ⟨b,rfl,w1,w2,w3⟩;refine AK ?_ (c:=vw L w1 eF om);rintro _ h3 ⟨rfl,w4⟩;refine ret X.f194.1 ?_;exact⟨rfl,AH⟩
theorem alv{dn:Nat}(q:s.Fit)(kd:BS h db gK data)(hd:data.length=dn)(XA:0<dn/\dn<900):CL L 236 [.agg (NL s),.AE db gK dn bK] h λv AA=>∃b,v= .BM [.AE b 0 64 (Aa+1),Zi]/\BS AA b 0 (A3 s data)/\h.n<=b/\K0 h AA:=by
 have l1:=kd.ET;have hf:=Ak2 q;have hB:=Atg q;have hL:=Afs s;have hv:=q.v;have hk:=q.ok;obtain⟨v1,v2,v3,v4,v5,v6⟩:=hv;obtain⟨k1,k2,k3⟩:=hk;have hc:=Nm (data++Bc s);have e1:u64 s.sec=s.sec.toNat:=by unfold u64;omega
 have e2:u64 s.idx=s.idx.toNat:=by unfold u64;omega
 have e3:u64 s.len=s.len.toNat:=by unfold u64;omega
 refine Ad L X.f236 λQ x cs G=>?_;refine AK ?_ (c:=Uw L q.ok);rintro _ h2 ⟨rfl,w1⟩;rw[CM q.v];have n2:=w1.n;simp only[Ag]at n2;refine wk ?_;refine BO L (Nh rfl) ?_;rw[e1];refine wk ?_;refine BO L (Nh rfl) ?_;rw[e2];refine wk ?_;refine BO L (Nh rfl) ?_;rw[e3];refine AK ?_ (c:=Uy L (k:=8) (l:=ZW s) AG rfl om hf);rintro _ h3 ⟨b3,rfl,w2,w3,w4⟩;have n3:=w4.n;simp only[Ag]at n3 w3;rw[hL];refine wk ?_;have f3:BS (hp h3.n h3.t []) b3 0 (fB (ZW s)):=w2;have a3:=f3.all;refine BO L (wT (zero:=[Zy]) (old:=B5 (fB (ZW s))) rfl rfl om (f3.UT hL) rfl om om om) ?_;have hB2:B5 (fB (ZW s))++rl [Zy] 24=B5 (Bc s):=by rw[Fm,Kl,hB]
 rw[show 60- 36=24 from rfl,hB2];have agz:=aht k1;have ab1:=Cp s;have n4:h.n+1<=h2.n:=n2;refine wk ?_;have f4:BS (hp (h3.n+1) h3.t [(h3.n,some (cl (B5 (Bc s)))),(b3,none)]) h3.n 0 (Bc s):=Ia agz;have k4:BS (hp (h3.n+1) h3.t [(h3.n,some (cl (B5 (Bc s)))),(b3,none)]) db gK data:=rR (nT om (by exact EN));refine AK ?_ (c:=Aaw L k4 hd XA f4 ab1 rfl rfl);rintro _ h5 ⟨rfl,w5⟩;have n5:=w5.n;simp only[Ag]at n5;refine AK ?_ (c:=Uy L (k:=1) (l:=[(NT (data++Bc s),4)]) AG rfl om (λx hx=>by cases hx with|head=>exact⟨by simp,by simpa using hc,by simp only;omega⟩|tail _ h=>cases h));rintro _ h6 ⟨b6,rfl,w6,w7,w8⟩;have n6:=w8.n;simp only[Ag]at n6 w7;have e6:fB [(NT (data++Bc s),4)]=DJ 4 (NT (data++Bc s)):=by unfold fB;simp
 rw[e6]at*;rw[Bb];refine wk ?_;have f6:BS (hp h6.n h6.t []) b6 0 (DJ 4 (NT (data++Bc s))):=w6;refine AK ?_ (c:=Lb L (b1:=h3.n) (o1:=0) (n1:=60) (c1:=Aa+1) (b2:=b6) (o2:=0) (n2:=4) (c2:=Aa+1) (YG:=Bc s) (bI:=DJ 4 (NT (data++Bc s))) AG EN EN ab1 (Bb _ _) om om);rintro _ h7 ⟨ahb,rfl,x1,x2,x3⟩;simp only[Ag]at x2;refine ret X.f236.1 ?_;refine⟨ahb,rfl,x1,om,?_⟩;have k3':Kp (λj=>h.n<=j) h h3:=AH;have k5':Kp (λj=>h.n<=j) h h5:=AH;have k6':Kp (λj=>h.n<=j) h h6:=AH;have qE:Kp (λj=>h.n<=j) h h7:=AH;exact qE.cut (BD _)
theorem Uz{e:Int}:CL L 209 [.bool true,.int .i64 e] h λv AA=>v= .BM []/\AA=h:=by refine Ad L X.f209 λQ x cs G=>?_;refine ret X.f209.1 ?_;exact⟨rfl,rfl⟩
theorem Jj{d fm bb:Nat}{D:Dv}(hd:Bk h d (GJ D fm bb)):CL L 18 [.ptr d 0] h λv AA=>v= .bool (!D.off)/\AA=h:=by refine Aj L X.f18 λQ x cs G=>?_;refine AK ?_ (c:=Eh L hd);rintro _ rfl;have MT:=hd;unfold GJ T2 at MT;refine ret X.f18.1 ?_;exact⟨rfl,rfl⟩
theorem Gi{sz:Nat}(hz:12<=sz/\sz<=8192):CL L 86 [AN sz] h λv AA=>v=AN ((sz- 4)/8)/\AA=h:=by refine Aj L X.f86 λQ x cs G=>?_;refine ret X.f86.1 ?_;exact⟨rfl,rfl⟩
theorem Sk{e:BI}:CL L 201 [.agg (A2 e)] h λv AA=>v= .bool (decide (¬e.Ok))/\K0 h AA:=by
 obtain⟨a,b⟩:=e;have hT:¬(0<=a/\a<=4294967294/\ -1<=b/\b<=4294967294)->decide (¬BI.Ok (a,b))=true:=λq=>CM (by unfold BI.Ok;exact q);have hF:(0<=a/\a<=4294967294/\ -1<=b/\b<=4294967294)->decide (¬BI.Ok (a,b))=false:=λq=>CW (by unfold BI.Ok;exact λr=>r q);by_cases q0:a<0;.rw[hT om];refine Aj L X.f201 λQ x cs G=>?_;refine ret X.f201.1 ?_;exact⟨rfl,AH⟩
 by_cases q1:4294967294<a;.rw[hT om];refine Aj L X.f201 λQ x cs G=>?_;refine ret X.f201.1 ?_;exact⟨rfl,AH⟩
 by_cases q2:b< -1;.rw[hT om];refine Aj L X.f201 λQ x cs G=>?_;refine ret X.f201.1 ?_;exact⟨rfl,AH⟩
 by_cases q3:4294967294<b;.rw[hT om];refine Aj L X.f201 λQ x cs G=>?_;refine ret X.f201.1 ?_;exact⟨rfl,AH⟩
 .rw[hF om];refine Aj L X.f201 λQ x cs G=>?_;refine ret X.f201.1 ?_;exact⟨rfl,AH⟩
theorem A6{e:Int}:CL L 96 [.bool true,.int .i64 e] h λv AA=>v= .BM []/\AA=h:=by refine Ad L X.f96 λQ x cs G=>?_;refine ret X.f96.1 ?_;exact⟨rfl,rfl⟩
theorem Gv{e:Int}:CP L 96 [.bool false,.int .i64 e] h λv AA=>v= .Cm 42 (.int .i64 e)/\AA=h:=by refine Ey L X.f96 λQ x cs G=>?_;refine wk ?_;refine Km L rfl rfl ?_;refine Ax L X.f96.1 ?_;exact G _ _ ⟨rfl,rfl⟩
theorem alw{l:List BI}(q:EL h lo v l)(hlen:l.length<1000)(ES:∀e∈l,e.Ok):CL L 287 [v,.fn (.func 201) [] []] h λu AA=>u= .int .i64 (-1)/\K0 h AA:=by
 rcases q.len with⟨rfl,rfl⟩|⟨HM,b,rfl,hb,-⟩;.refine Ad L X.f287 λQ x cs G=>?_;refine wk ?_;refine Bi L ?_;refine ret X.f287.1 ?_;exact⟨rfl,AH⟩
 .have UK:=Bm l;refine Ad L X.f287 λQ x cs G=>?_;refine wk ?_;refine Bt L (α:=Unit) (T:=λi _=>[(8,some (AN i)),(7,some (AN l.length)),(0,some (.AE b 0 l.length (Aa+2))),(1,some (.fn (.func 201) [] []))]) (n:=l.length) (R:=λi _ h2=>True/\K0 h h2) (i0:=0) () BA ⟨trivial,AH⟩ (CN _) ?_ ?_;.rintro i _ h2 hi ⟨-,k2⟩ ih;have hx:l[i]?=some l[i]:=DA hi;have DF:=A7 l (Io l) i _ hx;have ho:=ES _ (LC hi);have UG:=Ab k2 hb;refine wk ?_;refine BO L (A0 UG.rk DF rfl) ?_;refine AK ?_ (c:=Sk L);rintro _ h3 ⟨rfl,k3⟩;rw[CW (by simpa using ho)];refine wk ?_;exact ih () _ _ ⟨trivial,AH⟩ BA
  .rintro _ h2 ⟨-,k2⟩;refine ret X.f287.1 ?_;exact⟨rfl,k2⟩
theorem Jk{l:List BI}(q:EL h lo v l)(hlen:l.length<1000)(ES:∀e∈l,e.Ok):CL L 256 [v,.fn (.func 201) [] []] h λu AA=>u= .bool false/\K0 h AA:=by refine Ad L X.f256 λQ x cs G=>?_;refine AK ?_ (c:=alw L q hlen ES);rintro _ h2 ⟨rfl,k2⟩;refine ret X.f256.1 ?_;exact⟨rfl,k2⟩
theorem alx{sz:Nat}{ls:List Nat}(hb:Bk h lb (ls.map λn=>AN n))(hk:ls.length=k)(TI:0<k/\k<1000)(hl:∀x∈ls,x<4294967296)(DE:4*k<=sz/\sz<900):CL L 258 [AN sz,.AE lb 0 k cap] h λu AA=>∃b,u= .AE b 0 sz (Aa+1)/\BS AA b 0 (ls.flatMap (DJ 4)++List.replicate (sz- 4*k) 0)/\h.n<=b/\K0 h AA:=by
 have GR:∀r:List Nat,(r.flatMap (DJ 4)).length=4*r.length:=by
  intro r;induction r with
  |nil=>rfl
  |cons a r ih=>rw[KP,DX,Bb,ih,FX];omega
 refine Ad L X.f258 λQ x cs G=>?_;refine wk ?_;refine Bt L (α:=Unit) (T:=λi _=>[(10,some (AN i)),(9,some (AN k)),(8,some (.AE lb 0 k cap)),(5,some (.ptr h.n 0)),(0,some (AN sz)),(1,some (.AE lb 0 k cap))]) (n:=k) (R:=λi _ h2=>YD h2 h.n h.n ((ls.take i).flatMap (DJ 4))/\Kp (λj=>h.n<=j) h h2) (i0:=0) () BA ⟨⟨.inl ⟨by simp,AG⟩,BD _⟩,AH⟩ (CN _) ?_ ?_
 .rintro i _ h2 hi ⟨q1,q2⟩ ih;have hx:ls[i]?=some ls[i]:=DA om;have BX:=hl _ (LC (show i<ls.length from om));have UG:Bk h2 lb (ls.map λn=>AN n):=Ao q2 om hb;have bg:(ls.map λn=>AN n)[i]?=some (AN (ls[i])):=by rw[GD,hx];rfl
  have e1:(ls.take (i+1)).flatMap (DJ 4)=(ls.take i).flatMap (DJ 4)++DJ 4 ls[i]:=by rw[LO,hx,OX];simp
  have hle:=GR (ls.take i);rw[IS]at hle;rw[e1]at ih;generalize ls[i]=v at*;refine AK ?_ (c:=Afo L (v:=v) (n:=4) q1 om om om om);rintro _ h3 ⟨rfl,w1,w2⟩;refine wk ?_;refine ih () _ _ ⟨w1,Kp.DZ w2 (λ_ _ e=>e) q2⟩ BA
 .rintro _ h2 ⟨q1,q2⟩;rw[<-hk,NA]at q1;have hle:=GR ls;refine AK ?_ (c:=Ux L (n:=4*k) q1 om om);rintro _ h3 ⟨b3,rfl,w1,w2,w3⟩;have a3:=w1.all;refine wk ?_;by_cases hz:sz=4*k;.subst hz;rw[Xq];refine BO L (Aoo rfl rfl) ?_;refine ret X.f258.1 ?_;rw[Xq,List.replicate_zero,MO];exact⟨b3,rfl,EN,om,Kp.cut (Kp.EA w3 q2) (BD _)⟩
  .have f3:BS (hp h3.n h3.t []) b3 0 (ls.flatMap (DJ 4)):=w1;refine BO L (wT (zero:=[Zy]) (old:=B5 (ls.flatMap (DJ 4))) rfl rfl om (f3.UT om) rfl om om om) ?_;rw[Fm,Kl];refine ret X.f258.1 ?_;refine⟨h3.n,by rw[show 4*k+(sz- 4*k)=sz from om];rfl,Ia (a3.app (IA.rep om)),om,?_⟩;have k3:Kp (λj=>h.n<=j) h (hp (h3.n+1) h3.t [(h3.n,some (cl (B5 (ls.flatMap (DJ 4)++List.replicate (sz- 4*k) 0)))),(b3,none)]):=AH;exact k3.cut (BD _)
theorem ah4(l:List BI)(a n:Nat):((l.flatMap A2).drop (a*2)).take (n*2)=((l.drop a).take n).flatMap A2:=by
 induction l generalizing a with
 |nil=>simp
 |cons e r ih=>
  cases a with
  |succ a=>rw[KP,show(a+1)*2=a*2+1+1 from om];show((_::_::r.flatMap A2).drop (a*2+1+1)).take _=_;rw[List.drop_succ_cons,List.drop_succ_cons,ih a,List.drop_succ_cons]
  |zero=>
   have h0:=ih 0;rw[jY,LT,LT]at h0 ⊢;clear ih;induction n generalizing e r with
   |zero=>simp
   |succ n XG=>
    rw[cP,KP,KP,show(n+1)*2=n*2+1+1 from om];show(_::_::r.flatMap A2).take (n*2+1+1)=_::_::(r.take n).flatMap A2;rw[cP,cP];congr 2
    cases r with
    |nil=>simp
    |cons e2 r2=>
     have:=XG e2 r2 (by
      have key:∀(q:List BI) (m:Nat),(q.flatMap A2).take (m*2)=(q.take m).flatMap A2:=by
       intro q;induction q with
       |nil=>intro m;simp
       |cons a b ihq=>
        intro m
        cases m with
        |zero=>simp
        |succ m=>rw[cP,KP,KP,show(m+1)*2=m*2+1+1 from om];show(_::_::b.flatMap A2).take (m*2+1+1)=_::_::(b.take m).flatMap A2;rw[cP,cP,ihq m]
      exact key r2 n)
     exact this
def Kr(l:List BI)(n:Nat):List Nat:=n::l.flatMap λe=>[e.1.toNat,(e.2+1).toNat]
theorem Y2(l:List BI)(n:Nat):(Kr l n).length=1+2*l.length:=by
 unfold Kr;rw[FX];have:∀r:List BI,(r.flatMap λe=>[e.1.toNat,(e.2+1).toNat]).length=2*r.length:=by
  intro r;induction r with
  |nil=>rfl
  |cons a r ih=>rw[KP,DX,ih];simp only[FX,VB];omega
 rw[this];omega
theorem amo{l:List BI}{n:Nat}{e:BI}(h:l[i]?=some e):Kr (l.take (i+1)) n=Kr (l.take i) n++[e.1.toNat,(e.2+1).toNat]:=by unfold Kr;rw[LO,h,OX];simp
theorem Aa6(sz:Nat)(l:List BI):(Kr l l.length).flatMap (DJ 4)++List.replicate (sz- 4*(1+2*l.length)) 0=Cg sz l:=by
 unfold Kr Cg;rw[KP,show sz- 4*(1+2*l.length)=sz- 4- 8*l.length from om];congr 2;induction l with
 |nil=>rfl
 |cons e r ih=>rw[KP,KP,OX,ih];simp[Jf]
theorem ah5{sz:Nat}{l:List BI}(q:EL h lo v l)(ES:∀e∈l,e.Ok)(DE:12<=sz/\sz<900)(RH:4+8*l.length<=sz):CL L 228 [AN sz,v] h λu AA=>∃b,u= .BM [.AE b 0 sz (Aa+1),Zi]/\BS AA b 0 (Cg sz l)/\h.n<=b/\K0 h AA:=by
 have hlen:l.length<1000:=om
 have cell:∀(e:BI),e.Ok->∃a b:Nat,e=((a:Int),(b:Int)- 1)/\a<4294967296/\b<4294967296:=by rintro⟨a,b⟩ ⟨h1,h2,h3,h4⟩;simp only at h1 h2 h3 h4;refine⟨a.toNat,(b+1).toNat,?_,om,om⟩;rw[fV];omega
 have JF:∀x∈Kr l l.length,x<4294967296:=by
  intro x hx;unfold Kr at hx;rcases DD.1 hx with rfl|hx;.omega
  .obtain⟨e,he,hx⟩:=List.mem_flatMap.1 hx;obtain⟨a,b,rfl,ha,hb⟩:=cell e (ES e he);simp only[DD,List.not_mem_nil,or_false]at hx;omega
 have GR:=Y2 l l.length
 have fin:∀(Q:Nat->AV->Prop) (x:EW) (cs:FM) (h2:H) (lq:CJ) (fb cap:Nat),(∀u AA,(∃b,u= .BM [.AE b 0 sz (Aa+1),Zi]/\BS AA b 0 (Cg sz l)/\h.n<=b/\K0 h AA)->GO P0 E Q (finish u cs AA x))->
   Bk h2 fb ((Kr l l.length).map λn=>AN n)->Kp (λj=>h.n<=j) h h2->FY (AJ [(42,some (.AE fb 0 (1+2*l.length) cap)),(41,some (AN sz))]) (AJ lq)->
   Good P0 E Q ⟨⟨228,abe.ntmps,AJ lq,[.ops [Cc 43 258 [(.t 41),(.t 42)],Cv 4 43,afr 5 0],.code .ret],[],.run,false,none⟩,x::cs,hp h2.n h2.t []⟩:=by
  intro Q x cs h2 lq fb cap G kb k2 ht
  have n2:=k2.n
  refine D0 L ht ?_
  refine AK ?_ (c:=alx L (sz:=sz) (k:=1+2*l.length) kb GR om JF om)
  rintro _ h3 ⟨b3,rfl,w1,w2,w3⟩
  refine ret X.f228.1 ?_
  rw[Aa6]at w1
  exact⟨b3,rfl,w1,om,Kp.cut (Kp.EA w3 k2) (BD _)⟩
 rcases q.len with⟨rfl,rfl⟩|⟨HM,b,rfl,hb,-⟩;.refine Ad L X.f228 λQ x cs G=>?_;refine AK ?_ (c:=Gi L (sz:=sz) om);rintro _ rfl;refine AK ?_ (c:=Jk L q hlen ES);rintro _ h2 ⟨rfl,k2⟩;refine AK ?_ (c:=Gi L (sz:=sz) om);rintro _ rfl;refine wk ?_;refine Bi L ?_;refine wk ?_;have n2:=k2.n;exact fin Q x cs (hp (h2.n+1) h2.t [(h2.n,some (cl [Zi]))]) _ h2.n 1 G AG AH BA
 .have UK:=Bm l;refine Ad L X.f228 λQ x cs G=>?_;refine AK ?_ (c:=Gi L (sz:=sz) om);rintro _ rfl;refine AK ?_ (c:=Jk L q hlen ES);rintro _ h2 ⟨rfl,k2⟩;refine AK ?_ (c:=Gi L (sz:=sz) om);rintro _ rfl;have n2:=k2.n;refine wk ?_
  refine Bt L (α:=Nat×Nat) (T:=λi s=>[(28,some (AN i)),(27,some (AN l.length)),(26,some (.AE b 0 l.length (Aa+2))),(6,some (.AE s.1 0 (1+2*i) s.2)),(0,some (AN sz))]) (n:=l.length)
   (R:=λi s h3=>Bk h3 s.1 ((Kr (l.take i) l.length).map λn=>AN n)/\h.n<=s.1/\s.2=(if i=0 then 1 else Aa+1)/\Kp (λj=>h.n<=j) h h3) (i0:=0) (h2.n,1) BA ⟨by simp only[Kr,nO,fO,FU,Zb];exact AG,by simp only;omega,rfl,AH⟩ (CN _) ?_ ?_
  .rintro i ⟨fb,cap⟩ h3 hi ⟨q1,q2,q3,q4⟩ ih;simp only at q1 q2 q3;have hx:l[i]?=some l[i]:=DA hi;have DF:=A7 l (Io l) i _ hx;obtain⟨ea,eb,he,gR,TA⟩:=cell _ (ES _ (LC hi));have UG:Bk h3 b (l.flatMap A2):=Ao q4 om hb;have n3:=q4.n;have lf:=q1.lt;have hfi:=Y2 (l.take i) l.length;rw[IS]at hfi;rw[amo hx,he]at ih;rw[he]at DF;have HV:i*2+2<=(l.flatMap A2).length/\((l.flatMap A2).drop (i*2)).take 2=[AN ea,eI ((eb:Int)- 1)]:=DF;have e5:((eb:Int)- 1)+((1:Nat):Int)=(eb:Int):=om;simp only at ih;rw[show((ea:Int)).toNat=ea from FL ea,show((eb:Int)- 1+1).toNat=eb from om]at ih;refine wk ?_;refine BO L (A0 UG.rk HV rfl) ?_;refine wk ?_;rw[e5];have hlf:((Kr (l.take i) l.length).map λn=>AN n).length=1+2*i:=(by rw[DC,hfi];omega);have FO:∀hh:H,Bk hh fb ((Kr (l.take i) l.length).map λn=>AN n)->CG 1 hh (.AE fb 0 (1+2*i) cap) (1+2*i) ((Kr (l.take i) l.length).map λn=>AN n):=λhh k=>CG.of k om iK;by_cases PY:i=0;.rw[AP PY]at q3;subst q3;subst PY;(apply IQ L rfl;exact z9 (old:=(Kr (l.take 0) l.length).map λn=>AN n) (new:=[AN ea,AN eb]) rfl rfl (FO _ uc) (CG.of (c:=[AN ea,AN eb]) AG (BD _) rfl) om PI om;rfl);refine wk ?_;refine ih (h3.n+1+1,Aa+1) _ _ ⟨?_,by simp only;omega,rfl,AH⟩ BA;rw[IG];exact AG
   .rw[AM PY]at q3;subst q3;(apply IQ L rfl;exact D7 (old:=(Kr (l.take i) l.length).map λn=>AN n) (new:=[AN ea,AN eb]) rfl rfl (FO _ uc) (CG.of (c:=[AN ea,AN eb]) AG (BD _) rfl) om om rfl;rfl);refine wk ?_;refine ih (h3.n+1+1,Aa+1) _ _ ⟨?_,by simp only;omega,(by rw[AM om]),AH⟩ ?_;.rw[IG];exact AG
    .rw[show 1+2*(i+1)=1+2*i+2 from om];exact BA
  .rintro⟨fb,cap⟩ h3 ⟨q1,q2,q3,q4⟩;simp only at q1 q2 q3;rw[NA]at q1;have n3:=q4.n;have lf:=q1.lt;refine wk ?_;exact fin Q x cs _ _ fb cap G uc AH BA
variable {b c m o prev size:Nat}{p:Prop}{w y z:O}
theorem zq7(h:p:=by
 refine wk ?_
 have kk:∀u w,Kp (λj=>j=ob) h4 (hp (h4.n+1+1) h4.t [(h4.n+1,some u),(ob,none),(h4.n,some w)]):=λu w=>AH
 refine dW _ _ (h4.n+1) ?_ om AH (λy hy=>?_) ?_ (λy hy c n AR e=>?_) BA
 .rw[OX,KP,fO,MO];exact AG
 .have h6:=(pr.el y hy).k0 k4
  rcases h6.ex with h7|⟨h7,AR,h8,h9,UE⟩
  .exact⟨.inl h7⟩
  .exact⟨.inr ⟨h7,AR,h8,Ao (kk _ _) (by have:=sr y hy _ _ _ h8;omega) h9,UE⟩⟩
 .rcases IP.ex with h7|⟨h7,AR,h8,h9,UE⟩
  .exact⟨.inl h7⟩
  .exact⟨.inr ⟨h7,AR,h8,Ao (kk _ _) om h9,om⟩⟩
 .have:=sr y hy _ _ _ e;omega):p:=h
theorem yr(h:p:=by
 refine wk ?_
 refine dW _ _ (h4.n+1) ?_ om AH (λy hy=>by cases hy) (IP.mono om |>.k0 AH) (λy hy=>by cases hy) BA
 rw[RV,KP,fO,MO];exact AG):p:=h
theorem xH(h:p:=by
 unfold EI
 have:(es.length+EK sz- 1)/EK sz<=es.length+EK sz- 1:=an _ _
 omega):p:=h
theorem xI(h:p:=by
 have:=HT List.length q1
 rw[DC,Ks,DC,ZY]at this;exact this):p:=h
theorem Np{l:CJ}{x:O}{q:Bool}{sh:Sh}{a d:Nat}(e:AU l x=some (UN a))(e1:AU l y=some (UN d))(hr:a+d<18446744073709551616):XV (.bin .add x y q sh) h l (UN (a+d)) h:=by have:=ce (q:=q) (sh:=sh) (h:=h) rfl e e1;rwa[show(a+d)%pw .u64=a+d by simp only[pw];omega]at this
theorem Atq{l:CJ}{x:O}{len a:Nat}{i j k:IntKind}(e:AU l x=some (.AE b o len (Aa+size)))(e1:AU l y=some (.int i (a:Int)))(e2:AU l z=some (.int j (c:Int)))(e3:AU l w=some (.int k (m:Int)))(oW:a<=c)(hc:c<=m)(hm:m<=len)(hl:len<Aa)(BZ:a<m):XV (.XS size x (some y) (some z) (some w)) h l (.AE b (o+a*size) (c- a) (m- a)) h:=by refine⟨?_⟩;simp only[exec,Ak,(QV.gE e1).opt,(QV.gE e2).opt,(QV.gE e3).opt,Ac e,J1,Tr,Ba (show Aa<=Aa+size from om),Q5,Ba hc,Ba hm,MC,Ba oW,Ba (show Nat.succ m<=Aa from om),vo,Jd (show m≠a from om)];rfl
theorem Atr{l:CJ}{x:O}{a:Nat}{i j k:IntKind}(e:AU l x=some .AS)(e1:AU l y=some (.int i (a:Int)))(e2:AU l z=some (.int j (c:Int)))(e3:AU l w=some (.int k (m:Int)))(ha:a=0)(hc:c=0)(hm:m=0):XV (.XS size x (some y) (some z) (some w)) h l .AS h:=by subst ha hc hm;refine⟨?_⟩;simp only[exec,Ak,(QV.gE e1).opt,(QV.gE e2).opt,(QV.gE e3).opt,Ac e];rfl
abbrev LE:=Sp×List BI
def FP(x:LE×AV):List AV:=NL x.1.1++[x.2]
theorem Lc(l:List (LE×AV)):∀x∈l,(FP x).length=7:=λ_ _=>rfl
structure na (h:H)(lo b:Nat)(l:List (LE×AV)):Prop where
 k:Bk h b (l.flatMap FP)
 el:∀x∈l,EL h lo x.2 x.1.2
 lo:lo<=b
 bd:∀x∈l,∀c n AR,x.2= .AE AR 0 n c->AR<b
def EK(sz:Nat):Nat:=(sz- 4)/8
def EI(sz n:Nat):Nat:=max 1 ((n+EK sz- 1)/EK sz)
def Ec(sz:Nat)(es:List BI)(i:Nat):List BI:=(es.drop (EK sz*i)).take (EK sz)
def Dc(k sz first prev:Nat)(es:List BI)(i:Nat):LE:=(⟨k,0,first+i,prev,(i:Int),((EI sz es.length:Nat):Int)⟩,Ec sz es i)
def Ks(k sz first prev:Nat)(es:List BI)(n:Nat):List LE:=(List.range n).map (Dc k sz first prev es)
theorem O8{sz n:Nat}(DE:12<=sz/\sz<900)(hn:n<900000000):CL L 117 [AN sz,AN n] h λv AA=>v=AN (EI sz n)/\AA=h:=by
 have hm:0<(sz- 4)/8:=om
 refine Ad L X.f117 λQ x cs G=>?_;refine AK ?_ (c:=Gi L (sz:=sz) om);rintro _ rfl;refine ret X.f117.1 ?_;exact⟨rfl,rfl⟩
theorem amp{n:Nat}{xs:List BI}(k:CG 2 h (.AE b o n cap) n (xs.flatMap A2))(hn:xs.length=n)(h1:0<n/\n<900000000):CL L 257 [.AE b o n cap] h λv AA=>EL AA h.n v xs/\K0 h AA:=by
 cases k with
 | @AE _ _ _ _ c _ UH hk hx BX=>have kb:Bk h b c:=⟨UH,BX⟩;refine Aj L X.f257 λQ x cs G=>?_;refine wk ?_;refine BO L (rQ (new:=xs.flatMap A2) rfl rfl (CG.of (c:=c) AG hk hx) om om) ?_;refine ret X.f257.1 ?_;exact⟨⟨.inr ⟨Yv.1 om,h.n+1,by rw[hn];rfl,AG,om⟩⟩,AH⟩
theorem aq6:CL L 257 [.AS] h λv AA=>v= .AS/\AA=h:=by refine Aj L X.f257 λQ x cs G=>?_;refine ret X.f257.1 ?_;exact⟨rfl,rfl⟩
include L in
theorem Aa7{sz first:Nat}{es:List BI}{x:EW}{cs:FM}{Q:Nat->AV->Prop}{h0:H}(q:EL h0 0 v es)(DE:12<=sz/\sz<900)(hlen:es.length<1000)(hf:prev<first/\first<1000000000)(G:∀u AA,(∃b l,u= .BM [.AE b 0 l.length (Aa+7),Zi]/\l.map (·.1)=Ks k sz first prev es (EI sz es.length)/\na AA h0.n b l/\K0 h0 AA)->GO P0 E Q (finish u cs AA x)){h1:H}(k1:K0 h0 h1){lq:CJ}(ht:FY (AJ [(54,some Zi),(53,some (AN (EI sz es.length))),(14,some (AN (EK sz))),(13,some .AS),(12,some (AN (EI sz es.length))),(4,some v),(3,some (UN prev)),(2,some (UN first)),(0,some (.int .u8 (k:Int)))]) (AJ lq)):Good P0 E Q ⟨⟨226,dH.ntmps,AJ lq,[.code (.loop Wp),.inBlock 1,.code Wq],[],.run,false,none⟩,x::cs,h1⟩:=by
 have hm:0<EK sz:=by unfold EK;omega
 have bV:EK sz<200:=by unfold EK;omega
 have ZB:EI sz es.length<2000:=by exact xH
 have aiw:0<EI sz es.length:=by unfold EI;omega
 have pE:∀i,i<EI sz es.length->(es=[]/\i=0)\/EK sz*i<es.length:=by
  intro i hi;by_cases h0:es.length=0;.left;have:es=[]:=jJ.1 h0;refine⟨this,?_⟩;unfold EI at hi;rw[h0]at hi;have h2:(0+EK sz- 1)/EK sz=0:=fN om;rw[h2]at hi;omega
  .right;have h2:i<(es.length+EK sz- 1)/EK sz:=(by unfold EI at hi;have h3:1<=(es.length+EK sz- 1)/EK sz:=(Nat.le_div_iff_mul_le hm).2 om;omega);have h4:=(Nat.le_div_iff_mul_le hm).1 (show i+1<=(es.length+EK sz- 1)/EK sz from h2);rw[TX,jZ,WM]at h4;omega
 refine D0 L ht ?_;generalize hN:EI sz es.length=N at*
 refine Bt L (α:=AV×List (LE×AV)) (T:=λi s=>[(54,some (AN i)),(53,some (AN N)),(14,some (AN (EK sz))),(13,some s.1),(12,some (AN N)),(4,some v),(3,some (UN prev)),(2,some (UN first)),(0,some (.int .u8 (k:Int)))]) (n:=N)
  (R:=λi s h3=>s.2.map (·.1)=Ks k sz first prev es i/\((i=0/\s.1= .AS)\/(0<i/\∃b,s.1= .AE b 0 i (Aa+7)/\na h3 h0.n b s.2))/\Kp (λj=>h0.n<=j) h0 h3) (i0:=0) (.AS,[]) BA ⟨rfl,.inl ⟨rfl,rfl⟩,k1.mono λ_ e=>e.elim⟩ (CN _) ?_ ?_
 .rintro i ⟨sv,sl⟩ h3 hi ⟨q1,q2,q3⟩ ih;simp only at q1 q2;have gg:sl.length=i:=by exact xI
  have hrs:Ks k sz first prev es (i+1)=Ks k sz first prev es i++[Dc k sz first prev es i]:=by unfold Ks;rw[WQ,IG];rfl
  have GR:=B8 sl (Lc sl)
  have rest:∀(ev:AV) (h4:H),EL h4 h3.n ev (Ec sz es i)->K0 h3 h4->∀vC,FY (AJ [(83,some ev),(81,some (.agg (NL (Dc k sz first prev es i).1))),(72,some sv),(54,some (AN i)),(53,some (AN N)),(14,some (AN (EK sz))),(12,some (AN N)),(4,some v),(3,some (UN prev)),(2,some (UN first)),(0,some (.int .u8 (k:Int)))]) (AJ vC)->
    Good P0 E Q ⟨⟨226,dH.ntmps,AJ vC,[.ops [Cj 84 (.build [Zy,Zi,Zu,Zu,Zi,Zi,.AS] [(0,6,(.t 81)),(6,1,(.t 83))]),Cj 85 (.bJ 1 [Zy,Zi,Zu,Zu,Zi,Zi,.AS] [(0,7,(.t 84))]),Cj 86 (.append 7 72 (.t 72) (.t 85)),Cv 13 86],.inBlock 2,.code Afi,.inLoop Wp,.inBlock 1,.code Wq],[],.run,false,none⟩,x::cs,hp h4.n h4.t []⟩:=by
   intro ev h4 IP k4 vC pJ
   have LA:=IP.plain.2
   have oe:=IP.plain.1
   have gU:∀c n AR,ev= .AE AR 0 n c->AR<h4.n:=by
    intro c n AR e
    rcases IP.len with⟨_,e2⟩|⟨_,b2,e2,k2,_⟩
    .rw[e2]at e;cases e
    .rw[e2]at e;cases e;exact k2.lt
   have X6:FP (Dc k sz first prev es i,ev)=[.int .u8 (k:Int),Zi,UN (first+i),UN prev,AN i,AN N,ev]:=by
    unfold FP Dc NL;rw[hN];rfl
   refine D0 L pJ ?_
   rw[show NL (Dc k sz first prev es i).1=[.int .u8 (k:Int),Zi,UN (first+i),UN prev,AN i,AN N]by unfold Dc NL;rw[hN];rfl]
   have ab8:Av [.int .u8 (k:Int),Zi,UN (first+i),UN prev,AN i,AN N,ev]=true:=by
    simp only[Av,LA];rfl
   have dW:∀(h5:H) (vD:CJ) (nb:Nat),Bk h5 nb ((sl++[(Dc k sz first prev es i,ev)]).flatMap FP)->h4.n<=nb->Kp (λj=>h0.n<=j) h0 h5->(∀y∈sl,EL h5 h0.n y.2 y.1.2)->EL h5 h0.n ev (Ec sz es i)->(∀y∈sl,∀c n AR,y.2= .AE AR 0 n c->AR<nb)->
     FY (AJ [(13,some (.AE nb 0 (i+1) (Aa+7))),(54,some (AN (i+1))),(53,some (AN N)),(14,some (AN (EK sz))),(12,some (AN N)),(4,some v),(3,some (UN prev)),(2,some (UN first)),(0,some (.int .u8 (k:Int)))]) (AJ vD)->
     Good P0 E Q ⟨⟨226,dH.ntmps,AJ vD,[.inLoop Wp,.inBlock 1,.code Wq],[],.run,false,none⟩,x::cs,h5⟩:=by
    intro h5 vD nb a1 a2 a3 a4 a5 a6 a7
    refine D0 L a7 ?_
    refine ih (.AE nb 0 (i+1) (Aa+7),sl++[(Dc k sz first prev es i,ev)]) _ _ ⟨?_,.inr ⟨cU i,nb,rfl,⟨a1,?_,om,?_⟩⟩,a3⟩ BA
    .rw[hrs,IG,q1];rfl
    .intro y hy
     rcases GU.1 hy with hy|hy
     .exact a4 y hy
     .rw[EV.1 hy];exact a5
    .intro y hy
     rcases GU.1 hy with hy|hy
     .exact a6 y hy
     .rw[EV.1 hy];intro c n AR e;have:=gU c n AR e;omega
   clear ih
   rcases q2 with⟨rfl,rfl⟩|⟨PY,ob,rfl,pr⟩
   .have ba:sl=[]:=jJ.1 gg
    subst ba
    have dV:=IP
    rcases dV.ex with⟨_,rfl⟩|⟨_,kQ,rfl,_,_⟩
    .refine wk ?_
     refine BO L (D1 (new:=FP (Dc k sz first prev es 0,.AS)) rfl rfl (CG.of (c:=FP (Dc k sz first prev es 0,.AS)) pz pc (by rw[X6];rfl)) om om) ?_
     exact yr
    .refine wk ?_
     (apply IQ L rfl;exact D1 (new:=FP (Dc k sz first prev es 0,(.AE kQ 0 (Ec sz es 0).length (Aa+2)))) rfl rfl (CG.of (c:=FP (Dc k sz first prev es 0,(.AE kQ 0 (Ec sz es 0).length (Aa+2)))) pz pc (by rw[X6];rfl)) om om;rfl)
     exact yr
   .have l5:=pr.k.lt
    have k5:Bk h4 ob (sl.flatMap FP):=Ab k4 pr.k
    have HX:=pr.lo
    have sr:=pr.bd
    have dV:=IP
    rcases dV.ex with⟨_,rfl⟩|⟨_,kQ,rfl,_,_⟩
    .refine wk ?_
     refine BO L (D7 (old:=sl.flatMap FP) (new:=FP (Dc k sz first prev es i,.AS)) rfl rfl (CG.of (c:=sl.flatMap FP) AG (by rw[GR,gg];omega) k1c) (CG.of (c:=FP (Dc k sz first prev es i,.AS)) pz pc (by rw[X6];rfl)) om om (by rw[X6];exact ab8)) ?_
     exact zq7
    .refine wk ?_
     (apply IQ L rfl;exact D7 (old:=sl.flatMap FP) (new:=FP (Dc k sz first prev es i,(.AE kQ 0 (Ec sz es i).length (Aa+2)))) rfl rfl (CG.of (c:=sl.flatMap FP) AG (by rw[GR,gg];omega) k1c) (CG.of (c:=FP (Dc k sz first prev es i,(.AE kQ 0 (Ec sz es i).length (Aa+2)))) pz pc (by rw[X6];rfl)) om om (by rw[X6];exact ab8);rfl)
     exact zq7
  have hmi:EK sz*i<=200*2000:=NB om om;rcases q.len with⟨e0,rfl⟩|⟨HM,eb,rfl,tE,-⟩
  .have PY:i=0:=by
    rcases pE i hi with⟨_,e⟩|e;.exact e
    .rw[e0]at e;simp at e
   subst PY;refine wk ?_;refine BO L (Atr rfl rfl rfl rfl om om rfl) ?_;refine wk ?_;refine BO L (Np rfl rfl om) ?_;refine AK ?_ (c:=aq6 L);rintro _ rfl;rw[<-hN]at*;exact rest .AS h3 (by rw[show Ec sz es 0=[]by unfold Ec;rw[e0];simp];exact EL.nil _ _) (Kp.refl _) _ (by unfold Dc NL;exact BA)
  .have BX:EK sz*i<es.length:=by
    rcases pE i hi with⟨e,_⟩|e;.rw[e]at HM;exact absurd HM (jW 0)
    .exact e
   have apy:Bk h3 eb (es.flatMap A2):=Ao q3 (by have:=tE.lt;omega) tE;have MI:=Bm es;refine wk ?_;refine BO L (Atq rfl rfl rfl rfl om om om mD BX) ?_;refine wk ?_;refine BO L (Np rfl rfl om) ?_;refine AK ?_ (c:=amp L (n:=min (EK sz*i+EK sz) es.length- EK sz*i) (xs:=Ec sz es i) (CG.of (c:=es.flatMap A2) AG om (by rw[MD,ah4];unfold Ec;congr 1;rw[List.take_eq_take_iff,SW];omega)) (by unfold Ec;rw[IS,SW];omega) om);rintro ev h4 ⟨w1,w2⟩;rw[<-hN]at*;exact rest ev h4 w1 (by exact w2) _ (by unfold Dc NL;exact BA)
 .rintro⟨sv,sl⟩ h3 ⟨q1,q2,q3⟩;simp only at q1 q2;rcases q2 with⟨e,_⟩|⟨_,b,rfl,pr⟩;.omega
  have gg:sl.length=N:=by exact xI
  refine ret X.f226.1 ?_;exact⟨b,sl,by rw[gg];rfl,q1,⟨pr.k,pr.el,pr.lo,pr.bd⟩,q3.cut (BD _)⟩
theorem yt(h:p:=by
 refine AK ?_ (c:=Jk L q hlen ES)
 rintro _ h2 ⟨rfl,k2⟩
 refine AK ?_ (c:=Gi L (sz:=sz) om)
 rintro _ rfl
 refine wk ?_
 refine Aa7 L q DE hlen hf G (by exact k2) ?_
 exact BA):p:=h
section
section
theorem amq{sz first:Nat}{es:List BI}(q:EL h 0 v es)(ES:∀e∈es,e.Ok)(hk:k=2\/k=3)(DE:12<=sz/\sz<900)(hlen:es.length<1000)(hf:prev<first/\first<1000000000):CL L 226 [.int .u8 (k:Int),AN sz,UN first,UN prev,v] h λu AA=>∃b l,u= .BM [.AE b 0 l.length (Aa+7),Zi]/\l.map (·.1)=Ks k sz first prev es (EI sz es.length)/\na AA h.n b l/\K0 h AA:=by
 have ZB:EI sz es.length<2000:=by
  have hm:0<EK sz:=by unfold EK;omega
  have bV:EK sz<200:=by unfold EK;omega
  exact xH
 have aiw:0<EI sz es.length:=by unfold EI;omega
 rcases q.len with⟨e0,rfl⟩|⟨HM,eb,rfl,tE,-⟩
 .have e00:EI sz 0=EI sz es.length:=by rw[e0];rfl
  rcases hk with rfl|rfl
  all_goals
   refine Sc L X.f226 λQ x cs G=>?_;refine AK ?_ (c:=O8 L (n:=0) DE om);rintro _ rfl;rw[e00];exact yt
 .rcases hk with rfl|rfl
  all_goals
   refine Sc L X.f226 λQ x cs G=>?_;refine AK ?_ (c:=O8 L (n:=es.length) DE om);rintro _ rfl;exact yt
