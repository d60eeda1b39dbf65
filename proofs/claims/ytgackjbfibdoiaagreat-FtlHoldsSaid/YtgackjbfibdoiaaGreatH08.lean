import Derived.Test.YtgackjbfibdoiaaGreatH07
set_option linter.all false
set_option maxRecDepth 100000
set_option maxHeartbeats 4000000
namespace Go.Ev
variable {P0:Program}{E:Env}{F:T DY}{K:HK}(L:Lg P0 E F K)[X:Fx F K][aq4:Tb P0 E F K][U:Yz P0 E F 208]
variable {at_ b b4 b5 c BP cb ck m nt o r rb sb:Nat}{data ex:List Nat}{h:H}{i:Int}{post:OF}{todo:DO}{x0 x1 x2 x3 x4 x5 y0:AV}{z:EW}
theorem Nw{n:Nat}{bs:List Nat}(k:BS h b o bs)(e:bs.length=n)(h1:0<n/\n<1000):CL L 189 [.AE b o n c] h λv AA=>∃r cb,v= .ptr r 0/\Bk AA r [.AE cb 0 n (Aa+1),Zi]/\BS AA cb 0 bs/\h.n<=cb/\h.n<=r/\cb≠r/\K0 h AA:=by refine Aj L X.f189 λQ x cs G=>?_;refine AK ?_ (c:=Ip L EN e h1);rintro _ h2 ⟨cb,rfl,w1,w2,w3⟩;have n2:=w3.n;have l2:=w1.ET;simp only[Ag]at w2 n2;refine ret X.f189.1 ?_;exact⟨h2.n,cb,rfl,AG,EN,om,om,om,AH⟩
theorem Nx:CL L 242 [.ptr r 0] h λv AA=>v= .ptr r 0/\AA=h:=by refine Aj L X.f242 λQ x cs G=>?_;refine ret X.f242.1 ?_;exact⟨rfl,rfl⟩
theorem Y7{n:Nat}(k:Bk h r [.AE cb o n (Aa+1),AN at_])(hm:m<=n)(hn:n<1000)(ha:at_<1000):CL L 243 [.ptr r 0,AN m] h λv AA=>v= .BM [.AE cb o m m,Zi]/\Bk AA r [.AE cb (o+m) (n- m) (Aa+1),AN (at_+m)]/\Kp (λj=>j=r) h AA:=by refine Ad L X.f243 λQ x cs G=>?_;refine wk ?_;(apply Ut L rfl rfl rfl rfl rfl rfl rfl;exact AG;rfl;intro h9 YT;(repeat(first|(apply B4 rfl rfl;exact XM)|(apply Yg rfl rfl)));(first|(apply eZ;exact By)|(refine Wb L ?_ rfl ?_;exact By));refine Tx L YT ?_);refine ret X.f243.1 ?_;exact⟨rfl,AG,AH⟩
theorem adk{n:Nat}{bs:List Nat}{a:Nat}(k:BS h b o ((bs.drop a).take n))(hl:a+n<=bs.length)(hn:1<=n/\n<=8):CL L 193 [.AE b o n c] h λv AA=>v= .BM [UN (EF bs a n),Zi]/\AA=h:=by
 have JF:=k.all;have hkl:((bs.drop a).take n).length=n:=by rw[IS,SW];omega
 have bT:∀i,i<n->((bs.drop a).take n).getD i 0=bs.getD (a+i) 0:=λi hi=>by simp only[MZ];rw[N0 hi,MN]
 have BX:∀i,i<=n->EF bs a i<256^i:=by
  intro i;induction i with
  |zero=>intro _;simp[EF]
  |succ i ih=>intro hi;have h1:=ih om;have h2:=Ez JF i;rw[bT i om]at h2;rw[Nj,Nat.pow_succ];have:bs.getD (a+i) 0*256^i<=255*256^i:=Xt _ om;omega
 refine Aj L X.f193 λQ x cs G=>?_;refine wk ?_;refine Bt L (α:=Nat) (T:=λi u=>[(16,some (AN i)),(15,some (AN n)),(14,some (.AE b o n c)),(2,some (UN u))]) (n:=n) (R:=λi u h1=>h1=h/\u=EF bs a i) (i0:=0) 0 BA ⟨rfl,rfl⟩ (CN _) ?_ ?_
 .rintro i u h1 hi ⟨rfl,w1⟩ ih;have Zx:=BX i om;rw[<-w1]at Zx;have hb:=Ez JF i;rw[bT i hi]at hb;have ab5:=BX (i+1) om;rw[Nj,<-w1]at ab5;have hp:256^(i+1)<=256^8:=Nat.pow_le_pow_right om om;have NJ:(256:Nat)^8=18446744073709551616:=by decide
  have SH:2^(8*i)=256^i:=(Wj i).symm;refine wk ?_;refine BO L (Wg k rfl om) ?_;rw[bT i hi];refine wk ?_;refine BO L (Aoi (s:=8*i) rfl rfl rfl (by show 8*i<=64;omega)) ?_;rw[SH,show(bs.getD (a+i) 0*256^i)%pw .u64=bs.getD (a+i) 0*256^i from cR ZM];have Lt:u |||bs.getD (a+i) 0*256^i=u+bs.getD (a+i) 0*256^i:=by have:=Nat.shiftLeft_add_eq_or_of_lt (i:=8*i) (show u<2^(8*i)by rw[SH];exact Zx) (bs.getD (a+i) 0);rw[Nat.shiftLeft_eq,SH]at this;rw[Nat.or_comm,<-this,Nat.add_comm]
  refine wk ?_;refine BO L (Avw rfl rfl rfl ZM ZM (by rw[Lt];simp only[pw];omega)) ?_;rw[Lt];refine wk ?_;refine ih _ _ _ ⟨rfl,?_⟩ BA;rw[Nj,<-w1]
 .rintro u h1 ⟨rfl,w1⟩;refine ret X.f193.1 ?_;rw[w1];exact⟨rfl,rfl⟩
theorem Abk{n a:Nat}{bs:List Nat}(k:Bk h r [.AE cb o n (Aa+1),AN at_])(kb:BS h cb o ((bs.drop a).take m))(hl:a+m<=bs.length)(hm:m<=n)(XD:1<=m/\m<=8)(hn:n<1000)(ha:at_<1000)(BZ:cb≠r):CL L 267 [.ptr r 0,AN m] h λv AA=>∃b,v= .BM [.AE b 0 1 1,Zi]/\Bk AA b [UN (EF bs a m)]/\h.n<=b/\Bk AA r [.AE cb (o+m) (n- m) (Aa+1),AN (at_+m)]/\Kp (λj=>j=r) h AA:=by refine Ad L X.f267 λQ x cs G=>?_;refine AK ?_ (c:=Y7 L AG hm hn ha);rintro _ h2 ⟨rfl,w1,w2⟩;have n2:=w2.n;simp only[Ag]at n2;refine AK ?_ (c:=adk L EN hl XD);rintro _ rfl;refine ret X.f267.1 ?_;exact⟨h2.n,rfl,AG,om,AG,AH⟩
theorem Abl{n a:Nat}{bs:List Nat}(ks:Bk h sb [AN m])(k:Bk h r [.AE cb o n (Aa+1),AN at_])(kb:BS h cb o ((bs.drop a).take m))(hl:a+m<=bs.length)(hm:m<=n)(XD:1<=m/\m<=8)(hn:n<1000)(ha:at_<1000)(BZ:cb≠r):CL L 266 [.AE sb 0 1 1,.fn (.func 267) [.ptr r 0] []] h λv AA=>∃b,v= .BM [.AE b 0 1 (Aa+1),Zi]/\Bk AA b [UN (EF bs a m)]/\h.n<=b/\Bk AA r [.AE cb (o+m) (n- m) (Aa+1),AN (at_+m)]/\Kp (λj=>j=r) h AA:=by refine Ad L X.f266 λQ x cs G=>?_;refine wk ?_;refine Bi L ?_;refine wk ?_;refine Jv L rfl rfl rfl rfl rfl (Ct.A (Abk L (bs:=bs) (a:=a) k (by exact kb) hl hm XD hn ha BZ)) ?_;rintro _ h2 ⟨b,rfl,w1,w2,w3,w4⟩;have n2:=w4.n;refine wk ?_;(apply IQ L rfl;exact D1 (n2:=1) (new:=[UN (EF bs a m)]) rfl rfl (CG.of (c:=[UN (EF bs a m)]) AG (BD _) rfl) om om;rfl);refine wk ?_;refine Bs L ?_;refine ret X.f266.1 ?_;exact⟨h2.n,rfl,AG,om,AG,AH⟩
theorem am4{n a:Nat}{bs:List Nat}(ks:Bk h sb [AN m])(k:Bk h r [.AE cb o n (Aa+1),AN at_])(kb:BS h cb o ((bs.drop a).take m))(hl:a+m<=bs.length)(hm:m<=n)(XD:1<=m/\m<=8)(hn:n<1000)(ha:at_<1000)(BZ:cb≠r):CL L 239 [.ptr r 0,.AE sb 0 1 1] h λv AA=>∃b,v= .BM [.AE b 0 1 (Aa+1),Zi]/\Bk AA b [UN (EF bs a m)]/\h.n<=b/\Bk AA r [.AE cb (o+m) (n- m) (Aa+1),AN (at_+m)]/\Kp (λj=>j=r) h AA:=by have l3:=kb.ET;refine Ad L X.f239 λQ x cs G=>?_;refine AK ?_ (c:=Nx L);rintro _ rfl;refine AK ?_ (c:=Abl L (a:=a) (bs:=bs) (at_:=at_) (n:=n) AG AG EN hl hm XD hn ha om);rintro _ h2 ⟨b,rfl,w1,w2,w3,w4⟩;have n2:=w4.n;simp only[Ag]at n2 w2;refine ret X.f239.1 ?_;exact⟨b,rfl,AG,om,AG,AH⟩
theorem Ml{n a:Nat}{bs:List Nat}(k:Bk h r [.AE cb o n (Aa+1),AN at_])(kb:BS h cb o ((bs.drop a).take m))(hl:a+m<=bs.length)(hm:m<=n)(XD:1<=m/\m<=8)(hn:n<1000)(ha:at_<1000)(BZ:cb≠r):CL L 191 [.ptr r 0,AN m] h λv AA=>v= .BM [UN (EF bs a m),Zi]/\Bk AA r [.AE cb (o+m) (n- m) (Aa+1),AN (at_+m)]/\Kp (λj=>j=r) h AA:=by have l3:=kb.ET;refine Ad L X.f191 λQ x cs G=>?_;refine AK ?_ (c:=am4 L (a:=a) (bs:=bs) (at_:=at_) (n:=n) (cb:=cb) (o:=o) AG AG EN hl hm XD hn ha BZ);rintro _ h2 ⟨b,rfl,w1,w2,w3,w4⟩;have n2:=w4.n;simp only[Ag]at n2 w2;refine ret X.f191.1 ?_;exact⟨rfl,AG,AH⟩
theorem rE{v0:AV}(k:Bk h r [v0,AN at_]):CL L 196 [.ptr r 0] h λv AA=>v=AN at_/\AA=h:=by refine Aj L X.f196 λQ x cs G=>?_;refine AK ?_ (c:=Nx L);rintro _ rfl;refine ret X.f196.1 ?_;exact⟨rfl,rfl⟩
theorem am5{v:Nat}:CL L 245 [.int .u8 (v:Int)] h λu AA=>u= .bool (decide (v≠0))/\AA=h:=by
 refine Aj L X.f245 λQ x cs G=>?_;refine wk ?_;by_cases hv:v=0;.refine ret X.f245.1 ?_;exact⟨by rw[CW om];rfl,rfl⟩
 .refine ret X.f245.1 ?_;exact⟨by rw[CM om];rfl,rfl⟩
def MB(bs:List Nat)(a n:Nat):Bool:=(List.range n).all λi=>decide (bs.getD (a+i) 0=0)
theorem xK{bs:List Nat}{a n:Nat}(h:∀i,i<n->bs.getD (a+i) 0=0):MB bs a n=true:=by unfold MB;rw[RS];intro i hi;exact CM (h i (KI.1 hi))
theorem Auc{bs:List Nat}{a n i:Nat}(hi:i<n)(h:bs.getD (a+i) 0≠0):MB bs a n=false:=by
 cases hz:MB bs a n with
 |false=>rfl
 |true=>unfold MB at hz;rw[RS]at hz;exact absurd (Xv (hz i (KI.2 hi))) h
theorem am6{n a:Nat}{bs:List Nat}(k:BS h b o ((bs.drop a).take n))(hl:a+n<=bs.length)(hn:n<1000):CL L 270 [.AE b o n c,.fn (.func 245) [] []] h λv AA=>(∃i:Int,v= .int .i64 i/\(0<=i↔MB bs a n=false)/\ -1<=i/\i<1000)/\AA=h:=by
 have hkl:((bs.drop a).take n).length=n:=by rw[IS,SW];omega
 have bT:∀i,i<n->((bs.drop a).take n).getD i 0=bs.getD (a+i) 0:=λi hi=>by simp only[MZ];rw[N0 hi,MN]
 refine Ad L X.f270 λQ x cs G=>?_;refine wk ?_;refine Bt L (α:=Unit) (T:=λi _=>[(8,some (AN i)),(7,some (AN n)),(0,some (.AE b o n c)),(1,some (.fn (.func 245) [] []))]) (n:=n) (R:=λi _ h1=>h1=h/\∀j,j<i->bs.getD (a+j) 0=0) (i0:=0) () BA ⟨rfl,λj hj=>absurd hj (OD j)⟩ (CN _) ?_ ?_
 .rintro i _ h1 hi ⟨rfl,w1⟩ ih;refine wk ?_;refine BO L (Wg k rfl om) ?_;rw[bT i hi];refine AK ?_ (c:=am5 L);rintro _ rfl;by_cases hz:bs.getD (a+i) 0=0
  .rw[CW (show¬bs.getD (a+i) 0≠0 from λq=>q hz)];refine wk ?_;refine ih () _ _ ⟨rfl,λj hj=>?_⟩ BA;by_cases e:j=i;.rw[e];exact hz
   .exact w1 j om
  .rw[CM (show bs.getD (a+i) 0≠0 from hz)];refine ret X.f270.1 ?_;exact⟨⟨i,rfl,by rw[Auc hi hz];simp,om,om⟩,rfl⟩
 .rintro _ h1 ⟨rfl,w1⟩;refine ret X.f270.1 ?_;exact⟨⟨-1,rfl,by rw[xK w1];simp,om,om⟩,rfl⟩
theorem af9{n a:Nat}{bs:List Nat}(k:BS h b o ((bs.drop a).take n))(hl:a+n<=bs.length)(hn:n<1000):CL L 244 [.AE b o n c,.fn (.func 245) [] []] h λv AA=>v= .bool (!MB bs a n)/\AA=h:=by
 refine Ad L X.f244 λQ x cs G=>?_;refine AK ?_ (c:=am6 L (bs:=bs) (a:=a) EN hl hn);rintro _ ⟨i,rfl,w1,w2,w3⟩
 cases hz:MB bs a n with
 |false=>have h0:=w1.2 hz;refine ret X.f244.1 ?_;exact⟨by rw[hz];rfl,rfl⟩
 |true=>
  have h0:¬0<=i:=λq=>by rw[w1.1 q]at hz;cases hz
  refine ret X.f244.1 ?_;exact⟨by rw[hz];rfl,rfl⟩
theorem S4{n a:Nat}{bs:List Nat}(k:Bk h r [.AE cb o n (Aa+1),AN at_])(kb:BS h cb o ((bs.drop a).take m))(hl:a+m<=bs.length)(hm:m<=n)(hn:n<1000)(ha:at_<1000)(BZ:cb≠r):CL L 195 [.ptr r 0,AN m] h λv AA=>v=AN (if MB bs a m=true then 0 else 6)/\(MB bs a m=true->Bk AA r [.AE cb (o+m) (n- m) (Aa+1),AN (at_+m)])/\Kp (λj=>j=r) h AA:=by
 have l3:=kb.ET;refine Ad L X.f195 λQ x cs G=>?_;refine AK ?_ (c:=Nx L);rintro _ rfl;refine AK ?_ (c:=Y7 L (at_:=at_) (n:=n) (cb:=cb) (o:=o) AG hm hn ha);rintro _ h2 ⟨rfl,w1,w2⟩;have n2:=w2.n;simp only[Ag]at n2;refine AK ?_ (c:=af9 L (bs:=bs) (a:=a) EN hl om);rintro _ rfl
 cases hz:MB bs a m with
 |true=>refine ret X.f195.1 ?_;rw[AP hz];exact⟨rfl,λ_=>AG,AH⟩
 |false=>
  refine ret X.f195.1 ?_;rw[AM (by rw[hz];simp)];refine⟨rfl,?_,AH⟩;intro q
  first|(cases q;done)|(rw[hz]at q;cases q)
theorem am8{b1 o1 n1 c1 b2 o2:Nat}(k1:BS h b1 o1 data)(k2:BS h b2 o2 ex)(e1:data.length=n1)(e2:ex.length=64)(h1:0<n1/\n1<1000):CL L 194 [.AE b1 o1 n1 c1,.AE b2 o2 64 (Aa+1)] h λv AA=>v=UN (NT (data++ex.take 60))/\K0 h AA:=by
 have l1:=k1.ET;have l2:=k2.ET;have NV:=Nm (data++ex.take 60);have e3:(ex.take 60).length=60:=by rw[IS];omega
 refine Ad L X.f194 λQ x cs G=>?_;refine AK ?_ (c:=Lb L (YG:=data) (bI:=ex.take 60) AG EN (BS.part (a:=0) (k:=by exact EN) om) e1 e3 h1 om);rintro _ h2 ⟨b,rfl,w1,w2,w3⟩;have n2:=w3.n;have l3:=w1.ET;simp only[Ag]at n2 w2;refine AK ?_ (c:=vw L (bs:=data++ex.take 60) EN eF om);rintro _ h3 ⟨rfl,w4⟩;refine ret X.f194.1 ?_;exact⟨rfl,AH⟩
theorem E4{e:Int}:CL L 188 [.bool true,.int .i64 e] h λv AA=>v= .BM []/\AA=h:=by refine Ad L X.f188 λQ x cs G=>?_;refine ret X.f188.1 ?_;exact⟨rfl,rfl⟩
theorem Ku{e:Int}:CP L 188 [.bool false,.int .i64 e] h λv AA=>v= .Cm 42 (.int .i64 e)/\AA=h:=by refine Ey L X.f188 λQ x cs G=>?_;refine wk ?_;refine Km L rfl rfl ?_;refine Ax L X.f188.1 ?_;exact G _ _ ⟨rfl,rfl⟩
theorem Ny{n a:Nat}{bs:List Nat}(kr:Bk h rb [.ptr r 0])(k:Bk h r [.AE cb o n (Aa+1),AN at_])(kb:BS h cb o ((bs.drop a).take m))(JF:IA bs)(hl:a+m<=bs.length)(hm:m<=n)(XD:1<=m/\m<=4)(hn:n<1000)(ha:at_<1000)(BZ:cb≠r):CL L 190 [AN m,.ptr rb 0] h λv AA=>v=AN (EF bs a m)/\Bk AA r [.AE cb (o+m) (n- m) (Aa+1),AN (at_+m)]/\Kp (λj=>j=r) h AA:=by have BX:=He JF m a;have hp:256^m<=256^4:=Nat.pow_le_pow_right om om;have ab5:EF bs a m<4294967296:=IF BX hp;clear hp BX;refine Ad L X.f190 λQ x cs G=>?_;refine AK ?_ (c:=Ml L (a:=a) (bs:=bs) (at_:=at_) (n:=n) (cb:=cb) (o:=o) AG EN hl hm om hn ha BZ);rintro _ h2 ⟨rfl,w1,w2⟩;refine AK ?_ (c:=E4 L);rintro _ ⟨rfl⟩;refine ret X.f190.1 ?_;exact⟨rfl,AG,AH⟩
theorem adl{n a:Nat}{bs:List Nat}(kr:Bk h rb [.ptr r 0])(k:Bk h r [.AE cb o n (Aa+1),AN at_])(kb:BS h cb o ((bs.drop a).take 8))(hl:a+8<=bs.length)(hm:8<=n)(hn:n<1000)(ha:at_<1000)(BZ:cb≠r):CL L 192 [.ptr rb 0] h λv AA=>v=UN (EF bs a 8)/\Bk AA r [.AE cb (o+8) (n- 8) (Aa+1),AN (at_+8)]/\Kp (λj=>j=r) h AA:=by refine Aj L X.f192 λQ x cs G=>?_;refine AK ?_ (c:=Ml L (a:=a) (m:=8) (bs:=bs) (at_:=at_) (n:=n) (cb:=cb) (o:=o) AG EN hl hm om hn ha BZ);rintro _ h2 ⟨rfl,w1,w2⟩;refine AK ?_ (c:=E4 L);rintro _ ⟨rfl⟩;refine ret X.f192.1 ?_;exact⟨rfl,AG,AH⟩
include L
theorem S6{Q:Nat->AV->Prop}{l:CJ}{cs:FM}{e:Int}(t4:look l 4=some (.ptr b4 0))(t5:look l 5=some (.ptr b5 0))(k4:Bk h b4 [x0,x1,x2,x3,x4,x5])(k5:Bk h b5 [y0])(BZ:b4≠b5)(hG:∀v AA,post v AA->GO P0 E Q (finish v cs AA z))(DL:∀AA,Kp (λj=>j=b4\/j=b5) h AA->post (.BM [.agg (NL sp0),.int .i64 e]) AA):Good P0 E Q ⟨⟨158,nt,AJ l,todo,[.call 187 [.ptr b4 0,.ptr b5 0]],.panicking [(.Cm 42 (.int .i64 e),false)],false,none⟩,z::cs,h⟩:=by refine Co L W1 X.f187.1 rfl rfl rfl ?_;refine Je L rfl ?_;refine wk ?_;(apply Ut L rfl rfl rfl rfl rfl rfl rfl;exact AG;rfl;intro h9 YT;(repeat(first|(apply B4 rfl rfl;exact XM)|(apply Yg rfl rfl)));(first|(apply eZ;exact By)|(refine Wb L ?_ rfl ?_;exact By));refine Tx L YT ?_);refine wk ?_;refine Hc L X.f187.1 rfl ?_;refine C1 L X.f158.1 (K9 t4 (Bk.e AG) rfl (Bw t5 (Bk.e AG) rfl E7)) hG (DL _ AH)
theorem Abn{Q:Nat->AV->Prop}{l:CJ}{cs:FM}(t4:look l 4=some (.ptr b4 0))(t5:look l 5=some (.ptr b5 0))(k4:Bk h b4 [x0,x1,x2,x3,x4,x5])(k5:Bk h b5 [y0])(hG:∀v AA,post v AA->GO P0 E Q (finish v cs AA z))(DL:post (.BM [.agg [x0,x1,x2,x3,x4,x5],y0]) h):Good P0 E Q ⟨⟨158,nt,AJ l,todo,[.call 187 [.ptr b4 0,.ptr b5 0]],.returning,false,none⟩,z::cs,h⟩:=by refine Co L W1 X.f187.1 rfl rfl rfl ?_;refine Dt L rfl ?_;refine wk ?_;refine BO L (Ki (k:=true) rfl rfl) ?_;refine wk ?_;refine Hc L X.f187.1 rfl ?_;refine C1 L X.f158.1 (K9 t4 (Bk.e AG) rfl (Bw t5 (Bk.e AG) rfl E7)) hG DL
def Jn(ex:List Nat):Sp:=⟨ex.getD 4 0,((EF ex 24 4:Nat):Int),EF ex 8 8,EF ex 16 8,((EF ex 28 4:Nat):Int),((EF ex 32 4:Nat):Int)⟩
def Nz(ex data:List Nat):Option Sp:=if EF ex 60 4=NT (data++ex.take 60)/\(Jn ex).Valid/\ex.take 60=Bc (Jn ex)then some (Jn ex)else none
omit L
theorem xL{p:Prop}(h:p:=by
 rw[GD,Yu hi,qv hi,KR,Pe,h i hi]):p:=h
theorem Pc(l:List Nat)(n:Nat)(h:n<=l.length):l.take n=(List.range n).map λi=>l.getD i 0:=by
 apply QT;intro i;by_cases hi:i<n;.rw[N0 hi,GD,Yu hi,DA om];simp[MZ,show i<l.length from om]
 .rw[nA om,OW Y1]
theorem Pe(l:List Nat)(a i:Nat):(l.drop a).getD i 0=l.getD (a+i) 0:=by simp only[MZ,MN]
theorem Xa{bs:List Nat}{a n:Nat}:MB bs a n=true↔∀i,i<n->bs.getD (a+i) 0=0:=by
 constructor;.intro h i hi;unfold MB at h;rw[RS]at h;exact Xv (h i (KI.2 hi))
 .exact xK
theorem Dw(l:List Nat)(a m n:Nat):(l.drop a).take (m+n)=(l.drop a).take m++(l.drop (a+m)).take n:=by rw[List.take_add,List.drop_drop]
theorem am9(ex:List Nat):ex.take 60=ex.take 8++(ex.drop 8).take 8++(ex.drop 16).take 8++(ex.drop 24).take 4++(ex.drop 28).take 4++(ex.drop 32).take 4++(ex.drop 36).take 24:=by have h0:ex.take 60=(ex.drop 0).take (8+52):=rfl;rw[h0,Dw,show(52:Nat)=8+44 from rfl,Dw,show(44:Nat)=8+36 from rfl,Dw,show(36:Nat)=4+32 from rfl,Dw,show(32:Nat)=4+28 from rfl,Dw,show(28:Nat)=4+24 from rfl,Dw];simp only[NP,LT,MD]
theorem S7(ha:IA ex)(hl:ex.length=64):ex.take 60=Bc (Jn ex)↔EF ex 0 4=1280591427/\MB ex 5 3=true/\MB ex 36 24=true:=by
 have u1:u64 (Jn ex).sec=EF ex 24 4:=Wh (Nat.lt_trans (He ha 4 24) PI);have u2:u64 (Jn ex).idx=EF ex 28 4:=Wh (Nat.lt_trans (He ha 4 28) PI);have u3:u64 (Jn ex).len=EF ex 32 4:=Wh (Nat.lt_trans (He ha 4 32) PI);have e1:(Jn ex).seq=EF ex 8 8:=rfl;have e2:(Jn ex).prev=EF ex 16 8:=rfl;have e3:(Jn ex).kind=ex.getD 4 0:=rfl;have key:ex.take 60=Bc (Jn ex)↔ex.take 8=SO (ex.getD 4 0)/\(ex.drop 36).take 24=List.replicate 24 0:=by
  unfold Bc;rw[am9,u1,u2,u3,e1,e2,e3,Gh ha 8 8 om,Gh ha 8 16 om,Gh ha 4 24 om,Gh ha 4 28 om,Gh ha 4 32 om];constructor;.intro h;obtain⟨q1,q2⟩:=fS h iO;obtain⟨q3,-⟩:=fS q1 iO;obtain⟨q4,-⟩:=fS q3 iO;obtain⟨q5,-⟩:=fS q4 iO;obtain⟨q6,-⟩:=fS q5 iO;obtain⟨q7,-⟩:=fS q6 iO;exact⟨q7,q2⟩
  .rintro⟨h1,h2⟩;rw[h1,h2]
 rw[key];have b0:=Ez ha 0;have b1:=Ez ha 1;have b2:=Ez ha 2;have b3:=Ez ha 3;have hm:ex.take 8=SO (ex.getD 4 0)↔EF ex 0 4=1280591427/\MB ex 5 3=true:=by
  rw[Pc ex 8 om,Xa];show[ex.getD 0 0,ex.getD 1 0,ex.getD 2 0,ex.getD 3 0,ex.getD 4 0,ex.getD 5 0,ex.getD 6 0,ex.getD 7 0]=[67,70,84,76,ex.getD 4 0,0,0,0]↔ex.getD 0 0+256*(ex.getD 1 0+256*(ex.getD 2 0+256*(ex.getD 3 0+256*0)))=1280591427/\_;generalize ex.getD 0 0=x0 at*;generalize ex.getD 1 0=x1 at*;generalize ex.getD 2 0=x2 at*;generalize ex.getD 3 0=x3 at*;constructor
  .intro h;simp only[Yr,and_true,true_and]at h;obtain⟨h0,h1,h2,h3,h5,h6,h7⟩:=h;refine⟨om,λi hi=>?_⟩;rcases i with _|_|_|i;.exact h5
   .exact h6
   .exact h7
   .omega
  .rintro⟨h1,h2⟩;have:=h2 0 om;have:=h2 1 om;have:=h2 2 om;simp only[Yr,and_true,true_and];refine⟨om,om,om,om,?_,?_,?_⟩<;>assumption
 have hz:(ex.drop 36).take 24=List.replicate 24 0↔MB ex 36 24=true:=by
  rw[Pc _ 24 pt,Xa];constructor;.intro h i hi;have:=HT (λl=>l[i]?) h;simp only[GD,Yu hi,qv hi,KR,DB,Pe]at this;exact this
  .intro h;apply QT;intro i;by_cases hi:i<24;.exact xL
   .rw[OW Y1,OW Y1]
 rw[hm,hz,and_assoc]
theorem t6(ha:IA ex)(hl:ex.length=64)(h1:EF ex 60 4=NT (data++ex.take 60))(h2:EF ex 0 4=1280591427)(h3:MB ex 5 3=true)(h4:MB ex 36 24=true)(h5:(Jn ex).Valid):Nz ex data=some (Jn ex):=AP ⟨h1,h5,(S7 ha hl).2 ⟨h2,h3,h4⟩⟩
theorem It(ha:IA ex)(hl:ex.length=64)(h:¬(EF ex 60 4=NT (data++ex.take 60)/\EF ex 0 4=1280591427/\MB ex 5 3=true/\MB ex 36 24=true/\(Jn ex).Valid)):Nz ex data=none:=AM λq=>h (let⟨a,b,c⟩:=(S7 ha hl).1 q.2.2;⟨q.1,a,b,c,q.2.1⟩)
def jN(b:List Nat):Nat:=EF b 0 4
def Mm(b:List Nat)(i:Nat):BI:=(((EF b (4+8*i) 4:Nat):Int),((EF b (8+8*i) 4:Nat):Int)- 1)
def Ef(b:List Nat)(n:Nat):List BI:=(List.range n).map (Mm b)
theorem Gx(b:List Nat)(n:Nat):(Ef b n).length=n:=by simp[Ef]
theorem Te(b:List Nat)(n:Nat):Ef b (n+1)=Ef b n++[Mm b n]:=by simp[Ef,WQ]
def fo(b:List Nat):Prop:=jN b<=(b.length- 4)/8/\(∀e∈Ef b (jN b),e.Ok)/\MB b (4+8*jN b) (b.length- (4+8*jN b))=true
instance (b:List Nat):Decidable (fo b):=by unfold fo;infer_instance
def N1(b:List Nat):Option (List BI):=if fo b then some (Ef b (jN b))else none
theorem Agm{b:List Nat}(ha:IA b)(hn:4+8*jN b<=b.length)(ES:∀e∈Ef b (jN b),e.Ok):Cg b.length (Ef b (jN b))=b↔MB b (4+8*jN b) (b.length- (4+8*jN b))=true:=by
 have h1:DJ 4 (Ef b (jN b)).length=(b.drop 0).take 4:=by rw[Gx];exact Gh ha 4 0 om
 have h2:∀n,4+8*n<=b.length->(Ef b n).flatMap Jf=(b.drop 4).take (8*n):=by
  intro n;induction n with
  |zero=>intro _;simp[Ef]
  |succ n ih=>intro hn;rw[Te,OX,ih om];have e1:((EF b (4+8*n) 4:Nat):Int).toNat=EF b (4+8*n) 4:=FL _;have e2:(((EF b (8+8*n) 4:Nat):Int)- 1+1).toNat=EF b (8+8*n) 4:=om;have e3:[Mm b n].flatMap Jf=(b.drop (4+8*n)).take 4++(b.drop (8+8*n)).take 4:=(by simp only[KP,fO,MO,Jf,Mm];rw[e1,e2,Gh ha 4 (4+8*n) om,Gh ha 4 (8+8*n) om]);rw[e3,<-NP];have e4:=Dw b 4 (8*n) 8;have e5:=Dw b (4+8*n) 4 4;rw[show 8*(n+1)=8*n+8 from om,e4,e5,show 4+8*n+4=8+8*n from om,NP]
 unfold Cg;rw[h1,h2 _ hn,Gx];have e6:b=(b.drop 0).take 4++(b.drop 4).take (8*jN b)++b.drop (4+8*jN b):=by rw[LT,NP];conv=>lhs;rw[<-fK 4 b,<-fK (8*jN b) (b.drop 4),List.drop_drop]
 have e7:∀X:List Nat,(b.drop 0).take 4++(b.drop 4).take (8*jN b)++X=b↔X=b.drop (4+8*jN b):=by
  intro X;constructor
  .intro h;conv at h=>rhs;rw[e6]
   exact List.append_cancel_left h
  .rintro rfl;exact e6.symm
 rw[e7,show b.length- 4- 8*jN b=b.length- (4+8*jN b)from om];have e8:(b.drop (4+8*jN b))=(b.drop (4+8*jN b)).take (b.length- (4+8*jN b)):=by rw[LN];rw[SW];exact BD _
 rw[e8,Pc _ _ (by rw[SW];exact BD _),Xa];constructor;.intro h i hi;have:=HT (λl=>l[i]?) h;simp only[GD,Yu hi,qv hi,KR,DB,Pe]at this;exact this.symm
 .intro h;apply QT;intro i;by_cases hi:i<b.length- (4+8*jN b);.exact xL
  .rw[OW Y1,OW Y1]
abbrev Rec:=Nat×Nat×Nat×Nat
def Iu(k:Rec):AV:= .agg [.int .u8 (k.1:Int),UN k.2.1,UN k.2.2.1,AN k.2.2.2]
def zO:Sh:= .agg [(0,0,.QB),(1,0,.QB),(2,0,.QB),(3,0,.QB)]
def Bv(s:Sp):Rec:=(s.kind,s.seq- s.idx.toNat,s.prev,s.len.toNat)
structure Sp.Jr (s:Sp):Prop where
 v:s.Valid
 ok:s.Ok
 k:s.kind=2\/s.kind=3
theorem KE.iz:KE zO Iu:=by
 refine⟨λa b=>?_,λa=>rfl,λa=>?_⟩;.obtain⟨a0,a1,a2,a3⟩:=a;obtain⟨b0,b1,b2,b3⟩:=b;by_cases h0:a0=b0<;>by_cases h1:a1=b1<;>by_cases h2:a2=b2<;>by_cases h3:a3=b3<;>simp[zO,Iu,eqv,Kx,nv,Hl,Br,F4,h0,h1,h2,h3,Int.natCast_inj]
 .obtain⟨a0,a1,a2,a3⟩:=a;show J3 _ _=true;simp[J3,Hl,Br,aaa]
theorem zP{p:Prop}(h:p:=by
 rw[List.findIdx?_eq_some_iff_getElem]at h
 obtain⟨h1,h2,_⟩:=h
 exact⟨L[e],DA h1,by simpa using h2⟩):p:=h
abbrev JP:=Sp×List BI
def De(L:List JP)(k:Rec):Option Nat:=L.findIdx? λp=>decide (Bv p.1=k)
def D9(L:List JP)(k:Rec)(i:Int):Option Nat:=L.findIdx? λp=>decide (Bv p.1=k)&&decide (p.1.idx=i)
theorem N2{α:Type}(f:α->Bool)(L:List α)(p:α):(L++[p]).findIdx? f=match L.findIdx? f with
 |some i=>some i
 |none=>if f p=true then some L.length else none:=by
 rw[List.findIdx?_append]
 cases L.findIdx? f with
 |some i=>rfl
 |none=>
  simp only[Option.none_or,List.findIdx?_cons,List.findIdx?_nil]
  by_cases h:f p=true<;>simp[h]
theorem Fi(L:List JP)(p:JP)(k:Rec):De (L++[p]) k=match De L k with
 |some i=>some i
 |none=>if Bv p.1=k then some L.length else none:=by
 unfold De;rw[N2];simp only[LP]
theorem Iv(L:List JP)(p:JP)(k:Rec)(i:Int):D9 (L++[p]) k i=match D9 L k i with
 |some j=>some j
 |none=>if Bv p.1=k/\p.1.idx=i then some L.length else none:=by
 unfold D9;rw[N2];simp only[KQ,LP]
theorem ana{L:List JP}{k:Rec}(h:De L k=none):D9 L k i=none:=by unfold De at h;unfold D9;rw[nB]at h ⊢;intro x hx;have:=h x hx;simp only[decide_eq_false_iff_not]at this;simp[this]
theorem Tf{L:List JP}{k:Rec}{e:Nat}(h:De L k=some e):∃p,L[e]?=some p/\Bv p.1=k:=by unfold De at h;exact zP
theorem Iw{L:List JP}{k:Rec}{e:Nat}(h:D9 L k i=some e):∃p,L[e]?=some p/\Bv p.1=k/\p.1.idx=i:=by unfold D9 at h;exact zP
structure OK (h:H)(lo:Nat)(M:List (Rec×AV×Nat))(ck:Nat)(P:List JP):Prop where
 ok:EP M ck
 no:∀k,De P k=none->A9 M k=none
 at_:∀k e,De P k=some e->∃a Mi ci,A9 M k=some (.agg [.map a,AN e])/\Mk h a (Mi.map (mE AI)) ci/\EP Mi ci/\lo<=a/\∀i,A9 Mi i=(D9 P k i).map λj=>AN j
 ne:∀k AZ a BC e BG,A9 M k=some (.agg [.map a,e])->A9 M AZ=some (.agg [.map BC,BG])->a=BC->k=AZ
theorem OK.nil(h:H)(lo:Nat):OK h lo [] 0 []:=⟨EP.nil,λ_ _=>rfl,λk e q=>(by cases q),λk AZ a BC e BG q=>(by cases q)⟩
structure ao9 (h:H)(lo:Nat)(v:AV)(L:List JP):Prop where
 ex:∃l:List (JP×AV),l.map (·.1)=L/\(∀x∈l,EL h lo x.2 x.1.2)/\((l=[]/\v= .AS)\/(0<l.length/\∃b,v= .AE b 0 l.length (Aa+7)/\Bk h b (l.flatMap FP)/\lo<=b))
section
variable {α:Type}[DecidableEq α]{sh:Sh}{enc:α->AV}{l:CJ}{x y:O}{zero v:AV}{M:List (α×AV×Nat)}{k:α}
theorem Xd(e:KE sh enc)(hx:AU l x=some (.map r))(hy:AU l y=some (enc k))(hb:Mk h r (M.map (mE enc)) ck)(hg:A9 M k=none):XV (.lookup sh zero x y true) h l (.BM [zero,.bool false]) h:=by have:=Ek (zero:=zero) e hx hy hb;rw[hg]at this;exact this
theorem adv(e:KE sh enc)(hx:AU l x=some (.map r))(hy:AU l y=some (enc k))(hb:Mk h r (M.map (mE enc)) ck)(hg:A9 M k=some v):XV (.lookup sh zero x y true) h l (.BM [v,.bool true]) h:=by have:=Ek (zero:=zero) e hx hy hb;rw[hg]at this;exact this
end
section
variable {AA:H}{lo:Nat}{M:List (Rec×AV×Nat)}{P:List JP}{p:JP}
theorem OK.am7(q:OK h lo M ck P){e j:Nat}(hE:De P (Bv p.1)=some e)(hF:D9 P (Bv p.1) p.1.idx=some j)(JH:∀b es c,lo<=b->Mk h b es c->Mk AA b es c):OK AA lo M ck (P++[p]):=by
 refine⟨q.ok,λk hk=>q.no k ?_,λk BG he=>?_,q.ne⟩
 .rw[Fi]at hk
  cases h1:De P k with
  |none=>rfl
  |some i=>rw[h1]at hk;cases hk
 .have h2:De P k=some BG:=by
   rw[Fi]at he
   cases h1:De P k with
   |some i=>rw[h1]at he;exact he
   |none=>
    rw[h1]at he;by_cases h3:Bv p.1=k;.rw[<-h3,hE]at h1;cases h1
    .simp only[AM h3]at he;cases he
  obtain⟨a,Mi,ci,g1,g2,g3,g4,g5⟩:=q.at_ k BG h2;refine⟨a,Mi,ci,g1,JH _ _ _ g4 g2,g3,g4,λi=>?_⟩;rw[g5,Iv]
  cases h4:D9 P k i with
  |some x=>rfl
  |none=>
   by_cases h5:Bv p.1=k/\p.1.idx=i;.rw[<-h5.1,<-h5.2,hF]at h4;cases h4
   .simp only[AM h5]
theorem OK.add(q:OK h lo M ck P){e a ci BP:Nat}{Mi:OJ}(hE:De P (Bv p.1)=some e)(hF:D9 P (Bv p.1) p.1.idx=none)(hg:A9 M (Bv p.1)=some (.agg [.map a,AN e]))(oi:EP Mi ci)(la:lo<=a)(hf:∀i,A9 Mi i=(D9 P (Bv p.1) i).map λj=>AN j)(ha:Mk AA a ((Dd Mi ci p.1.idx (AN P.length)).map (mE AI)) (LM Mi ci p.1.idx))(JH:∀b es c,lo<=b->b≠a->Mk h b es c->Mk AA b es c):OK AA lo M ck (P++[p]):=by
 refine⟨q.ok,λk hk=>q.no k ?_,λk BG he=>?_,q.ne⟩
 .rw[Fi]at hk
  cases h1:De P k with
  |none=>rfl
  |some i=>rw[h1]at hk;cases hk
 .by_cases h3:Bv p.1=k
  .subst h3;rw[Fi,hE]at he
   cases he;refine⟨a,_,_,hg,ha,oi.set _ _,la,λi=>?_⟩;rw[Bu,Iv,hf];by_cases h5:i=p.1.idx;.rw[AP h5,h5,hF];simp
   .rw[AM h5]
    cases h4:D9 P (Bv p.1) i with
    |some x=>rfl
    |none=>simp[Ne.symm h5]
  .have h2:De P k=some BG:=by
    rw[Fi]at he
    cases h1:De P k with
    |some i=>rw[h1]at he;exact he
    |none=>rw[h1]at he;simp only[AM h3]at he;cases he
   obtain⟨a2,M2,c2,g1,g2,g3,g4,g5⟩:=q.at_ k BG h2;have BZ:a2≠a:=λf=>h3 (q.ne _ _ _ _ _ _ hg g1 f.symm);refine⟨a2,M2,c2,g1,JH _ _ _ g4 BZ g2,g3,g4,λi=>?_⟩;rw[g5,Iv]
   cases h4:D9 P k i with
   |some x=>rfl
   |none=>simp[h3]
theorem OK.new(q:OK h lo M ck P){a BP:Nat}(hE:De P (Bv p.1)=none)(la:lo<=a)(ap0:h.n<=a)(ha:Mk AA a ((Dd [] 0 p.1.idx (AN P.length)).map (mE AI)) (LM ([]:OJ) 0 p.1.idx))(JH:∀b es c,lo<=b->b<h.n->Mk h b es c->Mk AA b es c):OK AA lo (Dd M ck (Bv p.1) (.agg [.map a,AN P.length])) (LM M ck (Bv p.1)) (P++[p]):=by
 have old:∀k e,De P k=some e->k≠Bv p.1:=λk e he f=>by rw[f,hE]at he;cases he
 refine⟨q.ok.set _ _,λk hk=>?_,λk BG he=>?_,λk AZ a1 a2 e1 e2 g1 g2 f=>?_⟩
 .rw[Fi]at hk
  cases h1:De P k with
  |some i=>rw[h1]at hk;cases hk
  |none=>
   rw[h1]at hk;by_cases h3:Bv p.1=k;.simp only[AP h3]at hk;cases hk
   .rw[Bu,AM (Ne.symm h3)];exact q.no k h1
 .rw[Fi]at he
  cases h1:De P k with
  |some i=>
   rw[h1]at he;cases he;obtain⟨a2,M2,c2,g1,g2,g3,g4,g5⟩:=q.at_ k _ h1;refine⟨a2,M2,c2,by rw[Bu,AM (old k _ h1)];exact g1,JH _ _ _ g4 g2.lt g2,g3,g4,λi=>?_⟩;rw[g5,Iv]
   cases h4:D9 P k i with
   |some x=>rfl
   |none=>simp[Ne.symm (old k _ h1)]
  |none=>
   rw[h1]at he;by_cases h3:Bv p.1=k
   .simp only[AP h3]at he;cases he;subst h3;refine⟨a,_,_,by rw[Bu,AP rfl],ha,EP.nil.set _ _,la,λi=>?_⟩;rw[Bu,Iv,ana hE];by_cases h5:i=p.1.idx;.simp[h5]
    .simp[h5,Ne.symm h5,A9]
   .simp only[AM h3]at he;cases he
 .have bd:∀k a e,k≠Bv p.1->A9 M k=some (.agg [.map a,e])->a<h.n:=by
   intro k a0 e0 BZ hg
   cases h1:De P k with
   |none=>rw[q.no k h1]at hg;cases hg
   |some i=>obtain⟨a2,M2,c2,g1,g2,_⟩:=q.at_ k i h1;rw[g1]at hg;cases hg;exact g2.lt
  rw[Bu]at g1 g2;by_cases h1:k=Bv p.1<;>by_cases h2:AZ=Bv p.1;.rw[h1,h2]
  .rw[AP h1]at g1;rw[AM h2]at g2;cases g1;have:=bd _ _ _ h2 g2;omega
  .rw[AM h1]at g1;rw[AP h2]at g2;cases g2;have:=bd _ _ _ h1 g1;omega
  .rw[AM h1]at g1;rw[AM h2]at g2;exact q.ne _ _ _ _ _ _ g1 g2 f
end
theorem aaw{α:Type}[DecidableEq α]:∀{M:List (α×AV×Nat)} {y:α×AV×Nat},(M.map (·.1)).Nodup->y∈M->A9 M y.1=some y.2.1
 | [],y,_,h=>by cases h
 |x::r,y,hn,h=>by
  rw[FU,RU]at hn;unfold A9;rw[ak];rcases DD.1 h with rfl|h;.simp
  .have:y.1≠x.1:=λe=>hn.1 (by rw[<-e];exact RQ h);rw[CW this];exact aaw hn.2 h
def full(P:List JP)(k:Rec):Bool:=(List.range k.2.2.2).all λi=>(D9 P k ((i:Nat):Int)).isSome
variable {B:Rec->Rec->Bool}{P:List JP}{W:Rec->Bool}{b3 cap i j kind:Nat}{is:Bool}{k y:Rec}{p:Prop}{prev:Option Nat}
theorem Ali:∀(n:Nat) (l:List Int),l.Nodup->(∀x∈l,0<=x/\x<(n:Int))->(l.length=n↔∀i,i<n->((i:Nat):Int)∈l):=by
 intro n l hn h;have hle:=Da n l hn h;constructor
 .intro e i hi;refine Classical.byContradiction λZE=>?_;have h2:=Da (n- 1) (l.map λx=>if x=((n- 1:Nat):Int)then((i:Nat):Int)else x) ?_ ?_;.rw[DC]at h2;omega
  .have inj:∀x∈l,∀y∈l,(if x=((n- 1:Nat):Int)then(i:Int)else x)=(if y=((n- 1:Nat):Int)then(i:Int)else y)->x=y:=by
    intro x hx y hy e;by_cases h3:x=((n- 1:Nat):Int)<;>by_cases h4:y=((n- 1:Nat):Int);.rw[h3,h4]
    .rw[AP h3,AM h4]at e;exact absurd (e ▸ hy) ZE
    .rw[AM h3,AP h4]at e;exact absurd (e ▸ hx) ZE
    .rw[AM h3,AM h4]at e;exact e
   clear hle h e;induction l with
   |nil=>exact fT
   |cons a r ih=>rw[RU]at hn;rw[FU,RU];refine⟨λhm=>?_,ih hn.2 (λhh=>ZE (Ck _ hh)) λx hx y hy=>inj x (Ck _ hx) y (Ck _ hy)⟩;obtain⟨b,hb,e2⟩:=DK.1 hm;have:=inj b (Ck _ hb) a (DW ..) e2;exact hn.1 (this ▸ hb)
  .intro x hx;obtain⟨y,hy,rfl⟩:=DK.1 hx;have h5:=h y hy;by_cases h6:y=((n- 1:Nat):Int);.rw[AP h6];have:i≠n- 1:=λe=>ZE (by rw[e,<-h6];exact hy);omega
   .rw[AM h6];omega
 .intro JF;refine Nat.le_antisymm hle ?_;have:∀m,m<=n->∃r:List Int,r.length+m=l.length/\r.Nodup/\∀i,m<=i->i<n->((i:Nat):Int)∈r:=by
   intro m;induction m with
   |zero=>intro _;exact⟨l,rfl,hn,λi _ hi=>JF i hi⟩
   |succ m ih=>intro hm;obtain⟨r,h1,h2,h3⟩:=ih om;have h4:=h3 m (BD _) om;have h5:=List.length_erase_of_mem h4;have h6:0<r.length:=qz h4;exact⟨r.erase (m:Int),om,h2.erase _,λi aG YO=>h2.mem_erase_iff.2 ⟨om,h3 i om YO⟩⟩
  obtain⟨r,h1,_,_⟩:=this n (BD _);omega
theorem aax{α:Type}[DecidableEq α]{M:List (α×AV×Nat)}{k:α}:k∈M.map (·.1)↔(A9 M k).isSome=true:=by
 rw[<-eM,C7];unfold A9
 cases M.find? λx=>decide (k=x.1)<;>simp
theorem wD(hj:∀p∈P,p.1.Jr){Mi:OJ}{ci:Nat}(oi:EP Mi ci)(hf:∀i,A9 Mi i=(D9 P k i).map λj=>AN j):decide (Mi.length=k.2.2.2)=full P k:=by
 have hk:∀i,i∈Mi.map (·.1)↔(D9 P k i).isSome=true:=λi=>by rw[aax,hf];cases D9 P k i<;>simp
 have h1:=Ali k.2.2.2 (Mi.map (·.1)) oi.keys λx hx=>by
  have h2:=(hk x).1 hx
  cases h3:D9 P k x with
  |none=>rw[h3]at h2;cases h2
  |some e=>obtain⟨p,h4,h5,h6⟩:=Iw h3;obtain⟨⟨v1,v2,v3,v4,v5,v6⟩,_,_⟩:=hj p (I4 h4);have h7:p.1.len.toNat=k.2.2.2:=(by rw[<-h5];rfl);omega
 rw[DC]at h1;unfold full;rw[Bool.eq_iff_iff,LP,h1,RS];constructor;.intro h2 i hi;exact(hk _).1 (h2 i (KI.1 hi))
 .intro h2 i hi;exact(hk _).2 (h2 i (KI.2 hi))
theorem OK.Z2{lo:Nat}{M:List (Rec×AV×Nat)}(q:OK h lo M ck P){y:Rec×AV×Nat}(hy:y∈M):∃a Mi ci e,y.2.1= .agg [.map a,AN e]/\A9 M y.1=some (.agg [.map a,AN e])/\De P y.1=some e/\Mk h a (Mi.map (mE AI)) ci/\EP Mi ci/\lo<=a/\∀i,A9 Mi i=(D9 P y.1 i).map λj=>AN j:=by
 have h1:=aaw q.ok.keys hy
 cases h2:De P y.1 with
 |none=>rw[q.no _ h2]at h1;cases h1
 |some e=>obtain⟨a,Mi,ci,g1,g2,g3,g4,g5⟩:=q.at_ _ _ h2;rw[h1]at g1;simp only[DB]at g1;exact⟨a,Mi,ci,e,g1,by rw[h1,g1],rfl,g2,g3,g4,g5⟩
def Cy(P:List JP)(k:Rec):List Nat:=(List.range k.2.2.2).map λi=>(D9 P k ((i:Nat):Int)).getD 0
def Ga(P:List JP)(j:Nat):List BI:=match P[j]? with
 |some p=>p.2
 |none=>[]
def mi(P:List JP)(k:Rec):List BI:=(Cy P k).flatMap (Ga P)
def F5(k:Rec):Nat:=k.2.1+k.2.2.2- 1
def Qj(P:List JP)(a b:Rec):Bool:=decide (b.2.1<a.2.1) || (decide (a.2.1=b.2.1)&&decide ((De P a).getD 0<(De P b).getD 0))
def ON(P:List JP)(k:Rec):Prop:=(De P k).isSome=true
def Eg(P:List JP)(kind:Nat)(prev:Option Nat)(k:Rec):Bool:=decide (k.1=kind)&&full P k&&(match prev with|some n=>decide (k.2.2.1=n)|none=>true)
def WS(P:List JP)(kind:Nat)(prev:Option Nat)(o:Option Rec):Prop:=match o with
 |none=>∀k,ON P k->Eg P kind prev k=false
 |some k=>ON P k/\Eg P kind prev k=true/\∀AZ,ON P AZ->Eg P kind prev AZ=true->AZ=k\/Qj P k AZ=true
theorem WS.uniq{o EG:Option Rec}(h:WS P kind prev o)(AA:WS P kind prev EG):o=EG:=by
 cases o with
 |none=>
  cases EG with
  |none=>rfl
  |some k=>obtain⟨h1,h2,_⟩:=AA;rw[h k h1]at h2;cases h2
 |some k=>
  obtain⟨h1,h2,h3⟩:=h
  cases EG with
  |none=>rw[AA k h1]at h2;cases h2
  |some AZ=>
   obtain⟨g1,g2,g3⟩:=AA;rcases h3 AZ g1 g2 with e|e;.rw[e]
   .rcases g3 k h1 h2 with f|f;.rw[f]
    .unfold Qj at e f;simp only[cT,KQ,LP]at e f;omega
inductive RB (P:List JP):Option Rec->List Rec->Prop where
 |none:RB P none []
 |some {k:Rec} {o:Option Rec} {ks:List Rec} (h:WS P 2 (some (F5 k)) o) (r:RB P o ks):RB P (some k) (k::ks)
theorem RB.uniq{o:Option Rec}{ks eJ:List Rec}(h:RB P o ks):RB P o eJ->ks=eJ:=by
 induction h generalizing eJ with
 |none=>intro AA;cases AA;rfl
 |some h1 r ih=>
  intro AA
  cases AA with
  |some h2 r2=>have:=h1.uniq h2;subst this;rw[ih r2]
def VH(P:List JP)(o:Option Rec):Prop:=∃o1,WS P 3 none o1/\(match o1 with|some k=>o=some k|none=>WS P 2 (some 0) o)
def LZ(P:List JP)(ks:List Rec):List BI:=ks.flatMap (mi P)
def HP(P:List JP)(ks:List Rec):List Nat:=ks.flatMap (Cy P)
def PB(ks:List Rec):Nat:=match ks.getLast? with|some k=>F5 k|none=>0
theorem Ln(P:List JP)(k:Rec):(Cy P k).length=k.2.2.2:=by simp[Cy]
theorem Lo(hf:full P k=true)(hi:i<k.2.2.2):∃j,D9 P k (i:Int)=some j/\(Cy P k)[i]?=some j:=by unfold full at hf;rw[RS]at hf;have h1:=hf i (KI.2 hi);obtain⟨j,hj⟩:=SV.1 h1;exact⟨j,hj,by simp[Cy,hi,hj]⟩
theorem adw{i:Int}(h:D9 P k i=some j):j<P.length:=by obtain⟨p,h1,_⟩:=Iw h;exact(FE.1 h1).1
theorem Pi(hf:full P k=true)(h:(Cy P k)[i]?=some j):i<k.2.2.2/\D9 P k (i:Int)=some j:=by have hi:=(FE.1 h).1;rw[Ln]at hi;obtain⟨JU,h1,h2⟩:=Lo hf hi;rw[h]at h2;cases h2;exact⟨hi,h1⟩
theorem anb(hf:full P k=true)(h:j∈Cy P k):∃i,i<k.2.2.2/\D9 P k ((i:Nat):Int)=some j:=by obtain⟨i,hi⟩:=UZ.1 h;exact⟨i,Pi hf hi⟩
theorem anc(n:Nat)(l:List Nat)(hn:l.Nodup)(h:∀x∈l,x<n):l.length<=n:=by
 have:=Da n (l.map λx=>((x:Nat):Int)) (by
  rw[List.nodup_iff_pairwise_ne]at hn ⊢;exact List.Pairwise.map _ (λa b h e=>h om) hn) λx hx=>by
  obtain⟨y,hy,rfl⟩:=DK.1 hx;have:=h y hy;omega
 rwa[DC]at this
theorem aay(hf:full P k=true):k.2.2.2<=P.length:=by rw[<-Ln P k];refine anc _ _ ((by rw[List.nodup_iff_pairwise_ne,fe];intro i j hi hj hij e;have h1:=Pi hf (DA hi);have h2:=Pi hf (DA hj);rw[e]at h1;obtain⟨p,g1,_,g3⟩:=Iw h1.2;obtain⟨JW,g4,_,g6⟩:=Iw h2.2;rw[g1]at g4;cases g4;omega)) λx hx=>?_;obtain⟨i,_,h⟩:=anb hf hx;exact adw h
theorem Xe(h:ON P k):∃p∈P,Bv p.1=k:=by unfold ON at h;obtain⟨e,he⟩:=SV.1 h;obtain⟨p,h1,h2⟩:=Tf he;exact⟨p,I4 h1,h2⟩
theorem Alj{p:JP}(h:p∈P):ON P (Bv p.1):=by
 unfold ON
 cases he:De P (Bv p.1)with
 |some e=>rfl
 |none=>unfold De at he;rw[nB]at he;have:=he p h;simp at this
theorem Xf(hj:∀p∈P,p.1.Jr)(h:ON P k):1<=k.2.2.2/\k.2.2.1<k.2.1/\k.2.2.2<=65535/\(k.1=2\/k.1=3):=by
 obtain⟨p,hp,rfl⟩:=Xe h;obtain⟨⟨v1,v2,v3,v4,v5,v6⟩,_,hk⟩:=hj p hp;have:p.1.prev<p.1.seq/\p.1.idx.toNat<p.1.seq- p.1.prev:=by
  rcases v6 with q|q;.rcases hk with e|e<;>omega
  .exact q.2.2
 show 1<=p.1.len.toNat/\p.1.prev<p.1.seq- p.1.idx.toNat/\p.1.len.toNat<=65535/\_;exact⟨om,om,om,hk⟩
theorem Alk(hj:∀p∈P,p.1.Jr)(h:D9 P k (i:Int)=some j):∃p,P[j]?=some p/\p∈P/\p.1.seq=k.2.1+i/\Bv p.1=k:=by
 obtain⟨p,h1,h2,h3⟩:=Iw h;have hm:=I4 h1;obtain⟨⟨v1,v2,v3,v4,v5,v6⟩,_,hk⟩:=hj p hm;have h4:p.1.seq- p.1.idx.toNat=k.2.1:=by rw[<-h2];rfl
 have:p.1.prev<p.1.seq/\p.1.idx.toNat<p.1.seq- p.1.prev:=by
  rcases v6 with q|q;.rcases hk with e|e<;>omega
  .exact q.2.2
 exact⟨p,h1,hm,om,h2⟩
theorem Agn(hj:∀p∈P,p.1.Jr)(h:ON P k)(hf:full P k=true){B:Nat}(hs:∀p∈P,p.1.seq<B):k.2.1+k.2.2.2<=B:=by have h1:=Xf hj h;obtain⟨j,h2,_⟩:=Lo hf (show k.2.2.2- 1<k.2.2.2 from om);obtain⟨p,_,h3,h4,_⟩:=Alk hj h2;have:=hs p h3;omega
theorem ane(hj:∀p∈P,p.1.Jr){AZ:Rec}(hk:ON P k)(b:WS P 2 (some (F5 k)) (some AZ)):k.2.1<AZ.2.1/\ON P AZ/\full P AZ=true:=by obtain⟨h1,h2,_⟩:=b;simp only[Eg,KQ,LP]at h2;have h3:=Xf hj h1;have h4:=Xf hj hk;unfold F5 at h2;exact⟨om,h1,h2.1.2⟩
theorem Pj(b:WS P kind prev (some k)):ON P k/\full P k=true:=by obtain⟨h1,h2,_⟩:=b;unfold Eg at h2;simp only[KQ,LP]at h2;exact⟨h1,h2.1.2⟩
theorem aih(s:VH P (some k)):ON P k/\full P k=true:=by
 obtain⟨o1,h1,h2⟩:=s
 cases o1 with
 |some AZ=>cases h2;exact Pj h1
 |none=>exact Pj h2
def eQ(P:List JP)(is:Bool)(o:Rec):Nat:=if is=true then(P.filter λp=>decide (o.2.1<=(Bv p.1).2.1)).length else 0
theorem All(P:List JP)(is:Bool)(o:Rec):eQ P is o<=P.length:=by
 unfold eQ;split;.exact V0 _ _
 .exact CN _
theorem Alm(hj:∀p∈P,p.1.Jr){o EG:Rec}(hk:ON P o)(b:WS P 2 (some (F5 o)) (if is=true then some EG else none)):eQ P is EG<eQ P true o:=by
 obtain⟨p,hp,e⟩:=Xe hk;unfold eQ;rw[AP rfl]
 cases is with
 |false=>rw[AM W0];refine qz (a:=p) (JZ.2 ⟨hp,?_⟩);rw[e];exact CM (BD _)
 |true=>
  rw[AP rfl];rw[AP rfl]at b;have:=ane hj hk b;refine Ws (λx hx=>?_) P p hp (by rw[e];exact CM (BD _)) ?_;.simp only[LP]at hx ⊢;omega
  .rw[e];exact CW om
theorem Abw(P:List JP)(ks:List Rec)(k:Rec):LZ P (ks++[k])=LZ P ks++mi P k:=by simp[LZ]
theorem Abx(P:List JP)(ks:List Rec)(k:Rec):HP P (ks++[k])=HP P ks++Cy P k:=by simp[HP]
theorem Aby(ks:List Rec)(k:Rec):PB (ks++[k])=F5 k:=by simp[PB]
theorem Q3{P:List JP}:∀ks:List Rec,(∀k∈ks,full P k=true)->(HP P ks).length<=ks.length*P.length
 | [],_=>CN _
 |k::ks,h=>by have h1:=Q3 ks λx hx=>h x (Ck _ hx);have h2:=aay (h k (DW ..));rw[<-Ln P k]at h2;unfold HP at h1 ⊢;rw[KP,DX,FX,TX,jZ];omega
theorem N3{P:List JP}{m:Nat}(hm:∀p∈P,p.2.length<=m):∀l:List Nat,(l.flatMap (Ga P)).length<=l.length*m
 | []=>CN _
 |j::l=>by
  have h1:=N3 hm l;have h2:(Ga P j).length<=m:=by
   unfold Ga
   cases h:P[j]? with
   |none=>exact CN _
   |some p=>exact hm p (I4 h)
  rw[KP,DX,FX,TX,jZ];omega
theorem aaz(P:List JP)(ks:List Rec):LZ P ks=(HP P ks).flatMap (Ga P):=by unfold LZ HP mi;rw[List.flatMap_assoc]
section
variable {l:CJ}{x y:O}{a d:Nat}{k:IntKind}{sh:Sh}{q:Bool}
theorem wE(hs:k.signed=false)(e:AU l x=some (.int k (a:Int)))(e1:AU l y=some (.int k (d:Int)))(hr:a+d<pw k):XV (.bin .add x y q sh) h l (.int k ((a+d:Nat):Int)) h:=by have:=ce (h:=h) (sh:=sh) (q:=q) hs e e1;rwa[cR hr]at this
end
theorem Tg:∀l:List BI,Av (l.flatMap A2)=true
 | []=>rfl
 |_::r=>Tg r
theorem rD{l:List BI}(k:Bk h b (l.flatMap A2)):CG 2 h (.AE b 0 l.length cap) l.length (l.flatMap A2):=CG.of k (by rw[Bm];omega) pW
theorem Aui{l:List Int}(k:Bk h b (l.map AI)):CG 1 h (.AE b 0 l.length cap) l.length (l.map AI):=CG.of k W0 iQ
theorem Xg{z:Int}(k:Bk h b [AI z]):CG 1 h (.AE b 0 1 cap) 1 [AI z]:=CG.of k (BD _) rfl
theorem zQ{a d:Nat}(e:a=d):AV.AE b 0 a cap= .AE b 0 d cap:=by rw[e]
theorem nY(h:p:=by
 exact S6 L rfl rfl AG AG om G λh9 k9=>⟨⟨6,rfl,by simp,om⟩,Kp.DZ k9 (λi hi e=>om) AH⟩):p:=h
include L
theorem ang{b1 o1 b2 o2 c2:Nat}(k1:BS h b1 o1 ex)(k2:BS h b2 o2 data)(RJ:ex.length=64)(UK:data.length=m)(hm:0<m/\m<1000):CL L 158 [.AE b1 o1 64 (Aa+1),.AE b2 o2 m c2] h λv AA=>(∃e:Nat,v= .BM [.agg (NL ((Nz ex data).getD sp0)),AN e]/\(e=0↔(Nz ex data).isSome=true)/\e<1000)/\K0 h AA:=by
 have l1:=k1.ET;have l2:=k2.ET;have a1:=k1.all;have a2:=k2.all;have g4:EF ex 4 1<256:=He a1 1 4;refine Ad L X.f158 λQ x cs G=>?_;refine wk ?_;refine Ha L rfl rfl rfl rfl ?_;refine AK ?_ (c:=E4 L);rintro _ rfl;refine AK ?_ (c:=Nw L (bs:=ex) EN RJ om);rintro _ h2 ⟨r,cb,rfl,w1,w2,w3,w4,w5,w6⟩;have n2:=w6.n;have m2:=w2.ET;simp only[Ag]at n2 w3 w4;refine AK ?_ (c:=adk L (n:=4) (a:=60) (bs:=ex) (BS.part (k:=by exact EN) om) om om);rintro _ rfl;refine AK ?_ (c:=am8 L (data:=data) (ex:=ex) EN EN UK RJ hm);rintro _ h3 ⟨rfl,w7⟩;have n3:=w7.n;simp only[Ag]at n3;by_cases hc:EF ex 60 4=NT (data++ex.take 60);rotate_left;.refine wk ?_;refine Eu L rfl rfl rfl rfl rfl (Ku L) ?_;rintro _ _ ⟨rfl,rfl⟩;rw[It a1 RJ (by intro q;exact hc q.1)]at G;exact S6 L rfl rfl AG AG om G λh9 k9=>⟨⟨10,rfl,by simp,om⟩,Kp.DZ k9 (λi hi e=>om) AH⟩
 refine AK ?_ (c:=E4 L);rintro _ rfl;refine AK ?_ (c:=Ny L (a:=0) (m:=4) (bs:=ex) (cb:=cb) (o:=0) (at_:=0) (n:=64) AG AG (BS.part (o:=0) (a:=0) (n:=4) (bs:=ex) (k:=by exact EN) om) a1 om om om om om w5);rintro _ h4 ⟨rfl,w8,w9⟩;have n4:=w9.n;simp only[Ag]at n4;by_cases hg:EF ex 0 4=1280591427;rotate_left;.refine wk ?_;refine Eu L rfl rfl rfl rfl rfl (Ku L) ?_;rintro _ _ ⟨rfl,rfl⟩;rw[It a1 RJ (by intro q;exact hg q.2.1)]at G;exact nY
 refine AK ?_ (c:=E4 L);rintro _ rfl;refine AK ?_ (c:=Ny L (a:=4) (m:=1) (bs:=ex) (cb:=cb) (o:=0+4) (at_:=0+4) (n:=64- 4) AG AG (BS.part (o:=0) (a:=4) (n:=1) (bs:=ex) (k:=by exact EN) om) a1 om om om om om w5);rintro _ h5 ⟨rfl,x1,x2⟩;have n5:=x2.n;simp only[Ag]at n5;refine AK ?_ (c:=S4 L (a:=5) (m:=3) (bs:=ex) (cb:=cb) (o:=0+4+1) (at_:=0+4+1) (n:=64- 4- 1) AG (BS.part (o:=0) (a:=5) (n:=3) (bs:=ex) (k:=by exact EN) om) om om om om w5);rintro _ h6 ⟨rfl,x3,zh6⟩;have nh6:=zh6.n;simp only[Ag]at nh6;by_cases hz:MB ex 5 3=true;rotate_left;.rw[AM hz];refine wk ?_;refine Eu L rfl rfl rfl rfl rfl (Ku L) ?_;rintro _ _ ⟨rfl,rfl⟩;rw[It a1 RJ (by intro q;exact hz q.2.2.1)]at G;exact nY
 rw[AP hz];have x5:=x3 hz;refine AK ?_ (c:=E4 L);rintro _ rfl;refine wk ?_;refine Bi L ?_;refine AK ?_ (c:=rE L (at_:=0+4+1+3) AG);rintro _ rfl;refine AK ?_ (c:=E4 L);rintro _ rfl;refine AK ?_ (c:=adl L (a:=8) (bs:=ex) (cb:=cb) (o:=0+4+1+3) (at_:=0+4+1+3) (n:=64- 4- 1- 3) AG AG (BS.part (o:=0) (a:=8) (n:=8) (bs:=ex) (k:=by exact EN) om) om om om om w5);rintro _ h7 ⟨rfl,xh7,zh7⟩;have nh7:=zh7.n;simp only[Ag]at nh7;refine wk ?_;refine Bs L ?_;refine AK ?_ (c:=rE L (at_:=0+4+1+3+8) AG);rintro _ rfl;refine AK ?_ (c:=E4 L);rintro _ rfl;refine AK ?_ (c:=adl L (a:=16) (bs:=ex) (cb:=cb) (o:=0+4+1+3+8) (at_:=0+4+1+3+8) (n:=64- 4- 1- 3- 8) AG AG (BS.part (o:=0) (a:=16) (n:=8) (bs:=ex) (k:=by exact EN) om) om om om om w5);rintro _ h8 ⟨rfl,xh8,zh8⟩;have nh8:=zh8.n;simp only[Ag]at nh8;refine wk ?_;refine Bs L ?_;refine wk ?_;refine Bi L ?_;refine AK ?_ (c:=Ny L (a:=24) (m:=4) (bs:=ex) (cb:=cb) (o:=0+4+1+3+8+8) (at_:=0+4+1+3+8+8) (n:=64- 4- 1- 3- 8- 8) AG AG (BS.part (o:=0) (a:=24) (n:=4) (bs:=ex) (k:=by exact EN) om) a1 om om om om om w5);rintro _ h9 ⟨rfl,xh9,zh9⟩;have nh9:=zh9.n;simp only[Ag]at nh9;refine wk ?_;refine Bs L ?_;refine AK ?_ (c:=Ny L (a:=28) (m:=4) (bs:=ex) (cb:=cb) (o:=0+4+1+3+8+8+4) (at_:=0+4+1+3+8+8+4) (n:=64- 4- 1- 3- 8- 8- 4) AG AG (BS.part (o:=0) (a:=28) (n:=4) (bs:=ex) (k:=by exact EN) om) a1 om om om om om w5);rintro _ UE ⟨rfl,aqy,ao0⟩;have aj9:=ao0.n;simp only[Ag]at aj9;refine wk ?_;refine Bs L ?_;refine AK ?_ (c:=Ny L (a:=32) (m:=4) (bs:=ex) (cb:=cb) (o:=0+4+1+3+8+8+4+4) (at_:=0+4+1+3+8+8+4+4) (n:=64- 4- 1- 3- 8- 8- 4- 4) AG AG (BS.part (o:=0) (a:=32) (n:=4) (bs:=ex) (k:=by exact EN) om) a1 om om om om om w5);rintro _ oQ ⟨rfl,aqz,ao1⟩;have aka:=ao1.n;simp only[Ag]at aka;refine wk ?_;refine Bs L ?_;refine AK ?_ (c:=rE L (at_:=0+4+1+3+8+8+4+4+4) AG);rintro _ rfl;refine wk ?_;refine Jv L rfl rfl rfl rfl rfl (Ct.A (S4 L (a:=36) (m:=24) (bs:=ex) (r:=r) (cb:=cb) (o:=0+4+1+3+8+8+4+4+4) (at_:=0+4+1+3+8+8+4+4+4) (n:=64- 4- 1- 3- 8- 8- 4- 4- 4) AG (BS.part (o:=0) (a:=36) (n:=24) (bs:=ex) (k:=by exact EN) om) om om om om w5)) ?_;rintro _ h12 ⟨rfl,aq0,ao2⟩;have akb:=ao2.n;simp only[Ag]at akb;by_cases hy:MB ex 36 24=true;rotate_left;.rw[AM hy];refine wk ?_;refine Eu L rfl rfl rfl rfl rfl (Ku L) ?_;rintro _ _ ⟨rfl,rfl⟩;rw[It a1 RJ (by intro q;exact hy q.2.2.2.1)]at G;exact nY
 rw[AP hy];refine AK ?_ (c:=Uw L (s:=Jn ex) ((⟨Ez a1 4,He a1 8 8,He a1 8 16⟩)));rintro _ hl ⟨rfl,zhl⟩;have nhl:=zhl.n;simp only[Ag]at nhl;by_cases hv:(Jn ex).Valid;rotate_left;.rw[CW hv];refine wk ?_;refine Eu L rfl rfl rfl rfl rfl (Ku L) ?_;rintro _ _ ⟨rfl,rfl⟩;rw[It a1 RJ (by intro q;exact hv q.2.2.2.2)]at G;exact nY
 rw[CM hv];refine AK ?_ (c:=E4 L);rintro _ rfl;refine wk ?_;rw[t6 a1 RJ hc hg hz hy hv]at G;refine Fd L (todo:=[]) ?_;exact Abn L rfl rfl AG AG G ⟨⟨0,rfl,by simp,om⟩,AH⟩
theorem Ix{e:Int}:CL L 199 [.bool true,.int .i64 e] h λv AA=>v= .BM []/\AA=h:=by refine Ad L X.f199 λQ x cs G=>?_;refine ret X.f199.1 ?_;exact⟨rfl,rfl⟩
theorem Pk{e:Int}:CP L 199 [.bool false,.int .i64 e] h λv AA=>v= .Cm 42 (.int .i64 e)/\AA=h:=by refine Ey L X.f199 λQ x cs G=>?_;refine wk ?_;refine Km L rfl rfl ?_;refine Ax L X.f199.1 ?_;exact G _ _ ⟨rfl,rfl⟩
theorem gm{n:Nat}:CL L 200 [UN n,Zi] h λv AA=>v=UN n/\AA=h:=by refine Ad L X.f200 λQ x cs G=>?_;refine AK ?_ (c:=Ix L);rintro _ rfl;refine ret X.f200.1 ?_;exact⟨rfl,rfl⟩
theorem Agp{n:Nat}{w:AV}(k:Bk h r [.AE cb o n c,w]):CL L 202 [.ptr r 0] h λv AA=>v=AN n/\AA=h:=by refine Aj L X.f202 λQ x cs G=>?_;refine AK ?_ (c:=Nx L);rintro _ rfl;refine ret X.f202.1 ?_;exact⟨rfl,rfl⟩
def my(cb a sz:Nat):List AV:=[.AE cb a (sz- a) (Aa+1),AN a]
theorem Th{a sz:Nat}{bs:List Nat}(k:Bk h r (my cb a sz))(kb:BS h cb 0 bs)(hl:bs.length=sz)(hs:sz<1000)(ham:a+m<=sz)(hm:1<=m/\m<=8)(BZ:cb≠r):CL L 191 [.ptr r 0,AN m] h λv AA=>v= .BM [UN (EF bs a m),Zi]/\Bk AA r (my cb (a+m) sz)/\Kp (λj=>j=r) h AA:=by have k2:=BS.part (a:=a) (n:=m) kb om;rw[MD]at k2;refine(Ml L (a:=a) (bs:=bs) (at_:=a) (n:=sz- a) (cb:=cb) (o:=a) k k2 om om hm om om BZ).mono λv AA q=>⟨q.1,?_,q.2.2⟩;unfold my;rw[<-Nat.sub_sub];exact q.2.1
omit L in
theorem rV(h:p:=by
 exact agr L rfl rfl AG AG om G λh9 k9=>⟨⟨.AS,6,rfl,EL.nil _ _,by simp,om⟩,Kp.DZ k9 (λi hi e=>om) AH⟩):p:=h
theorem agr{Q:Nat->AV->Prop}{l:CJ}{cs:FM}{b2:Nat}{e:Int}(t2:look l 2=some (.ptr b2 0))(t3:look l 3=some (.ptr b3 0))(k2:Bk h b2 [x0])(k3:Bk h b3 [y0])(BZ:b2≠b3)(hG:∀v AA,post v AA->GO P0 E Q (finish v cs AA z))(DL:∀AA,Kp (λj=>j=b2\/j=b3) h AA->post (.BM [.AS,.int .i64 e]) AA):Good P0 E Q ⟨⟨159,nt,AJ l,todo,[.call 198 [.ptr b2 0,.ptr b3 0]],.panicking [(.Cm 42 (.int .i64 e),false)],false,none⟩,z::cs,h⟩:=by refine Co L W1 X.f198.1 rfl rfl rfl ?_;refine Je L rfl ?_;refine wk ?_;(apply Ut L rfl rfl rfl rfl rfl rfl rfl;exact AG;rfl;intro h9 YT;(repeat(first|(apply B4 rfl rfl;exact XM)|(apply Yg rfl rfl)));(first|(apply eZ;exact By)|(refine Wb L ?_ rfl ?_;exact By));refine Tx L YT ?_);refine wk ?_;refine Hc L X.f198.1 rfl ?_;refine C1 L X.f159.1 (Bw t2 (Bk.e AG) rfl (Bw t3 (Bk.e AG) rfl E7)) hG (DL _ AH)
theorem anh{Q:Nat->AV->Prop}{l:CJ}{cs:FM}{b2:Nat}(t2:look l 2=some (.ptr b2 0))(t3:look l 3=some (.ptr b3 0))(k2:Bk h b2 [x0])(k3:Bk h b3 [y0])(hG:∀v AA,post v AA->GO P0 E Q (finish v cs AA z))(DL:post (.BM [x0,y0]) h):Good P0 E Q ⟨⟨159,nt,AJ l,todo,[.call 198 [.ptr b2 0,.ptr b3 0]],.returning,false,none⟩,z::cs,h⟩:=by refine Co L W1 X.f198.1 rfl rfl rfl ?_;refine Dt L rfl ?_;refine wk ?_;refine BO L (Ki (k:=true) rfl rfl) ?_;refine wk ?_;refine Hc L X.f198.1 rfl ?_;refine C1 L X.f159.1 (Bw t2 (Bk.e AG) rfl (Bw t3 (Bk.e AG) rfl E7)) hG DL
theorem adx{n:Nat}{bs:List Nat}(k:BS h b o bs)(hl:bs.length=n)(hn:12<=n/\n<1000):CL L 159 [.AE b o n c] h λv AA=>(∃(u:AV) (e:Nat),v= .BM [u,AN e]/\EL AA h.n u ((N1 bs).getD [])/\(e=0↔(N1 bs).isSome=true)/\e<1000)/\K0 h AA:=by
 have ha:=k.all;have l1:=k.ET;have apg:jN bs<4294967296:=He ha 4 0;have bad:¬fo bs->N1 bs=none:=λq=>AM q;have aii:fo bs->N1 bs=some (Ef bs (jN bs)):=λq=>AP q;refine Aj L X.f159 λQ x cs G=>?_;refine wk ?_;refine Ha L rfl rfl rfl rfl ?_;refine AK ?_ (c:=Gi L (sz:=n) om);rintro _ rfl;refine AK ?_ (c:=Ix L);rintro _ rfl;refine AK ?_ (c:=Nw L (bs:=bs) EN hl om);rintro _ h2 ⟨r,cb,rfl,w1,w2,w3,w4,w5,w6⟩;have n2:=w6.n;have m2:=w2.ET;simp only[Ag]at n2 w3 w4;have qq:Bk h2 r (my cb 0 n):=w1;refine AK ?_ (c:=Th L (a:=0) (m:=4) (bs:=bs) (sz:=n) (cb:=cb) uc EN hl om om om w5);rintro _ h3 ⟨rfl,w7,w8⟩;have n3:=w8.n;simp only[Ag]at n3;have ah3:EF bs 0 4=jN bs:=rfl;rw[ah3];refine AK ?_ (c:=gm L (n:=jN bs));rintro _ rfl;by_cases hN:(n- 4)/8<jN bs;.refine wk ?_;refine Eu L rfl rfl rfl rfl rfl (Pk L) ?_;rintro _ _ ⟨rfl,rfl⟩;rw[bad (by rintro⟨q,_⟩;rw[hl]at q;omega)]at G;exact rV
 refine AK ?_ (c:=Ix L);rintro _ rfl;refine wk ?_;refine Bt L (α:=AV) (T:=λi v=>[(29,some (AN i)),(28,some (AN (jN bs))),(5,some (.ptr r 0)),(3,some (.ptr (h.n+1) 0)),(2,some (.ptr h.n 0))]) (n:=jN bs) (R:=λi v h4=>EL h4 h3.n v (Ef bs i)/\(∀e∈Ef bs i,e.Ok)/\Bk h4 h.n [v]/\Bk h4 (h.n+1) [Zi]/\Bk h4 r (my cb (4+8*i) n)/\BS h4 cb 0 bs/\h3.n<=h4.n/\K0 h h4) (i0:=0) .AS BA ⟨EL.nil _ _,(by intro e he;cases he),AG,AG,AG,EN,BD _,AH⟩ (CN _) ?_ ?_
 .rintro i v h4 hi ⟨u1,u2,u3,u4,u5,u6,u7,u8⟩ ih;have x1:=He ha 4 (4+8*i);have x2:=He ha 4 (8+8*i);have apl:Mm bs i=(((EF bs (4+8*i) 4:Nat):Int),((EF bs (8+8*i) 4:Nat):Int)- 1):=rfl;rw[Te]at ih;refine AK ?_ (c:=Th L (a:=4+8*i) (m:=4) (bs:=bs) (sz:=n) (cb:=cb) uc EN hl om om om w5);rintro _ h5 ⟨rfl,w9,fG⟩;have n5:=fG.n;simp only[Ag]at n5;refine AK ?_ (c:=gm L);rintro _ rfl;refine wk ?_;rw[show 4+8*i+4=8+8*i from om]at w9;refine AK ?_ (c:=Th L (a:=8+8*i) (m:=4) (bs:=bs) (sz:=n) (cb:=cb) uc EN hl om om om w5);rintro _ h6 ⟨rfl,w11,w12⟩;have n6:=w12.n;simp only[Ag]at n6;refine AK ?_ (c:=gm L);rintro _ rfl;refine AK ?_ (c:=Sk L (e:=Mm bs i));rintro _ h7 ⟨rfl,w13⟩;have n7:=w13.n;simp only[Ag]at n7;by_cases ES:(Mm bs i).Ok;rotate_left;.rw[CM ES];refine wk ?_;refine Eu L rfl rfl rfl rfl rfl (Pk L) ?_;rintro _ _ ⟨rfl,rfl⟩;rw[bad (by rintro⟨_,q,_⟩;exact ES (q _ (RQ (KI.2 hi))))]at G;exact rV
  rw[CW (show¬¬(Mm bs i).Ok from λq=>q ES)];refine AK ?_ (c:=Ix L);rintro _ rfl;have JF:∀e∈Ef bs i++[Mm bs i],e.Ok:=by
   intro e he;rcases GU.1 he with he|he;.exact u2 e he
   .rw[EV.1 he];exact ES
  have u1l:=u1.len;rw[Gx]at u1l;have e8:4+8*(i+1)=8+8*i+4:=om
  rcases u1l with⟨e0,rfl⟩|⟨gn,lb,rfl,g5,g6⟩
  .refine wk ?_;refine BO L (D1 (new:=A2 (Mm bs i)) rfl rfl (CG.of (c:=A2 (Mm bs i)) AG (BD _) rfl) om om) ?_;refine wk ?_;refine ih _ _ _ ⟨?_,JF,AG,AG,?_,EN,by simp only[Ag];omega,AH⟩ BA;.rw[e0,RV];exact EL.app (l:=[]) uc om rfl
   .rw[e8];exact AG
  .have g8:=g5.lt;refine wk ?_;refine BO L (D7 (old:=(Ef bs i).flatMap A2) (new:=A2 (Mm bs i)) rfl rfl (CG.of (c:=(Ef bs i).flatMap A2) AG (by rw[Bm,Gx];omega) (by rw[LT,LN (by rw[Bm,Gx];exact BD _)])) (CG.of (c:=A2 (Mm bs i)) AG (BD _) rfl) om om rfl) ?_;refine wk ?_;refine ih _ _ _ ⟨?_,JF,AG,AG,?_,EN,by simp only[Ag];omega,AH⟩ BA;.exact EL.app (l:=Ef bs i) uc om (Gx _ _)
   .rw[e8];exact AG
 .rintro v h4 ⟨u1,u2,u3,u4,u5,u6,u7,u8⟩;refine AK ?_ (c:=Agp L u5);rintro _ rfl;refine wk ?_;have afh:=BS.part (o:=0) (a:=4+8*jN bs) (n:=n- (4+8*jN bs)) u6 om;rw[MD]at afh;refine AK ?_ (c:=S4 L (a:=4+8*jN bs) (m:=n- (4+8*jN bs)) (bs:=bs) (r:=r) (cb:=cb) (o:=4+8*jN bs) (at_:=4+8*jN bs) (n:=n- (4+8*jN bs)) u5 afh om om om om w5);rintro _ h5 ⟨rfl,w9,fG⟩;have n5:=fG.n;by_cases hz:MB bs (4+8*jN bs) (n- (4+8*jN bs))=true
  .rw[AP hz];rw[aii ⟨by rw[hl];omega,u2,by rw[hl];exact hz⟩]at G;have u9:=u1.kS fG (by intro b hb;omega);rcases u1.ex with⟨e1,rfl⟩|⟨e1,AR,rfl,e2,e3⟩
   all_goals
    refine AK ?_ (c:=Ix L);rintro _ rfl;refine wk ?_;refine Fd L (todo:=[]) ?_;exact anh L rfl rfl AG AG G ⟨⟨_,0,rfl,EL.mono (u9.kS (S:=λj=>j=h.n\/j=h.n+1) AH (by intro b hb;omega)) om,by simp,om⟩,AH⟩
  .rw[AM hz];refine wk ?_;refine Eu L rfl rfl rfl rfl rfl (Pk L) ?_;rintro _ _ ⟨rfl,rfl⟩;rw[bad (by rintro⟨_,_,q⟩;rw[hl]at q;exact hz q)]at G;exact rV
omit L
theorem zR(h:p:=by
 refine Aj L X.f203 λQ x cs G=>?_
 refine wk ?_
 refine BO L (O0 rfl rfl rfl om ZM) ?_
 refine wk ?_
 refine BO L (O0 rfl rfl rfl om ZM) ?_
 refine ret X.f203.1 ?_
 exact⟨rfl,AH⟩):p:=h
section
include L
theorem Alo{s:Sp}(j:s.Jr):CL L 203 [.agg (NL s)] h λv AA=>v= .BM [Iu (Bv s),.bool true]/\K0 h AA:=by
 obtain⟨⟨v1,v2,v3,v4,v5,v6⟩,⟨o1,o2,o3⟩,hk⟩:=j;obtain⟨kind,sec,seq,prev,idx,len⟩:=s;simp only at v1 v2 v3 v4 v5 v6 o1 o2 o3 hk;obtain⟨i,rfl⟩:∃i:Nat,idx=(i:Int):=⟨idx.toNat,om⟩;obtain⟨n,rfl⟩:∃n:Nat,len=(n:Int):=⟨len.toNat,om⟩;obtain⟨rfl,w1,w2⟩:sec=0/\prev<seq/\i<seq- prev:=by
  rcases v6 with q|q;.omega
  .simp only[FL]at q;exact⟨q.2.1,q.2.2.1,q.2.2.2⟩
 rcases hk with rfl|rfl;.show CL L 203 [.agg [.int .u8 ((2:Nat):Int),Zi,UN seq,UN prev,AN i,AN n]] h _;exact zR
 .show CL L 203 [.agg [.int .u8 ((3:Nat):Int),Zi,UN seq,UN prev,AN i,AN n]] h _;exact zR
def il(a e:Nat):AV:= .agg [.map a,AN e]
def PW(W:Rec->Bool)(B:Rec->Rec->Bool)(Y:List Rec)(is:Bool)(out:Rec):Prop:=
 (is=false/\∀y∈Y,W y=false)\/(is=true/\out∈Y/\W out=true/\∀z∈Y,W z=true->z=out\/B out z=true)
omit L
theorem PW.mem{Y jy:List Rec}{out:Rec}(q:PW W B Y is out)(e:∀y,y∈Y↔y∈jy):PW W B jy is out:=by
 rcases q with⟨h1,h2⟩|⟨h1,h2,h3,h4⟩;.exact .inl ⟨h1,λy hy=>h2 y ((e y).2 hy)⟩
 .exact .inr ⟨h1,(e _).1 h2,h3,λz hz=>h4 z ((e z).2 hz)⟩
theorem PW.skip{W:Rec->Bool}{B:Rec->Rec->Bool}{Y:List Rec}{is:Bool}{out y:Rec}(q:PW W B Y is out)(e:W y=false):PW W B (Y++[y]) is out:=by
 rcases q with⟨h1,h2⟩|⟨h1,h2,h3,h4⟩;.exact .inl ⟨h1,λz hz=>(GU.1 hz).elim (h2 z) λf=>by rw[EV.1 f];exact e⟩
 .exact .inr ⟨h1,TY _ h2,h3,λz hz w=>(GU.1 hz).elim (λf=>h4 z f w) λf=>by rw[EV.1 f,e]at w;cases w⟩
theorem PW.first{Y:List Rec}{out:Rec}(q:PW W B Y false out)(e:W y=true):PW W B (Y++[y]) true y:=by
 rcases q with⟨h1,h2⟩|⟨h1,_⟩;.exact .inr ⟨rfl,by simp,e,λz hz w=>(GU.1 hz).elim (λf=>by rw[h2 z f]at w;cases w) λf=> .inl (EV.1 f)⟩
 .cases h1
theorem PW.better{Y:List Rec}{out:Rec}(tr:∀a b c,B a b=true->B b c=true->B a c=true)(q:PW W B Y true out)(e:W y=true)(b:B y out=true):PW W B (Y++[y]) true y:=by
 rcases q with⟨h1,_⟩|⟨h1,h2,h3,h4⟩;.cases h1
 .exact .inr ⟨rfl,by simp,e,λz hz w=>(GU.1 hz).elim (λf=>(h4 z f w).elim (λg=> .inr (by rw[g];exact b)) λg=> .inr (tr _ _ _ b g)) λf=> .inl (EV.1 f)⟩
theorem PW.JH{Y:List Rec}{out:Rec}(q:PW W B Y true out)(fF:y≠out->B y out=true\/B out y=true)(b:B y out=false):PW W B (Y++[y]) true out:=by
 rcases q with⟨h1,_⟩|⟨h1,h2,h3,h4⟩;.cases h1
 .refine .inr ⟨rfl,TY _ h2,h3,λz hz w=>(GU.1 hz).elim (λf=>h4 z f w) λf=>?_⟩;rw[EV.1 f];by_cases e:y=out;.exact .inl e
  .rcases fF e with g|g;.rw[b]at g;cases g
   .exact .inr g
include L
theorem Mn{fw fb:Nat}{dE dD:List AV}{M:List (Rec×AV×Nat)}(q:EP M ck)(k:Mk h r (M.map (mE Iu)) ck)(hv:∀y∈M,∃a e,y.2.1=il a e)(hW:∀y∈M,∀h2,K0 h h2->CL L fw (Iu y.1::y.2.1::dE) h2 λv AA=>v= .bool (W y.1)/\K0 h2 AA)(hB:∀y∈M,∀z∈M,∀h2,K0 h h2->CL L fb (Iu y.1::Iu z.1::dD) h2 λv AA=>v= .bool (B y.1 z.1)/\K0 h2 AA)(tr:∀a b c,B a b=true->B b c=true->B a c=true)(fF:∀y∈M,∀z∈M,y.1≠z.1->B y.1 z.1=true\/B z.1 y.1=true):CL L 207 [.map r,.fn (.func fw) [] dE,.fn (.func fb) [] dD] h λv AA=>∃out is,v= .BM [Iu out,.bool is]/\PW W B (M.map (·.1)) is out/\K0 h AA:=by
 have l1:=k.lt;refine Bj L X.f207 λQ x cs G=>?_;refine wk ?_;refine BO L (We rfl CH) ?_;refine wk ?_;refine Wr L (α:=List (Rec×AV×Nat)×Bool×Rec) (T:=λs=>[(11,some (.ptr (h.n+1) 0)),(7,some (.bool s.2.1)),(6,some (.ptr h.n 0)),(1,some (.fn (.func fw) [] dE)),(2,some (.fn (.func fb) [] dD))]) (mu:=λs=>eR M s.1) (R:=λs hh=>Gk hh (h.n+1) (.MX (some r) ck (s.1.map (·.2.2)) ck)/\(∀y∈s.1,y∈M)/\(s.1.map (·.2.2)).Nodup/\Bk hh h.n [.int .u8 ((s.2.2.1:Nat):Int),UN s.2.2.2.1,UN s.2.2.2.2.1,AN s.2.2.2.2.2]/\PW W B (s.1.map (·.1)) s.2.1 s.2.2/\K0 h hh) ([],false,(0,0,0,0)) BA ⟨CS,(λy hy=>by cases hy),fT,AG,.inl ⟨rfl,λy hy=>by cases hy⟩,AH⟩ ?_;rintro⟨Y,is,out⟩ hh ⟨i1,i2,i3,i4,i5,i6⟩ ih;simp only at i1 i2 i3 i4 i5;have l4:=i1.lt;refine wk ?_;refine Wf L rfl rfl (M:=M) (enc:=Iu) (ck:=ck) (it:=h.n+1) (m:=r) (seen:=Y.map (·.2.2)) CS CH q.lt ?_ ?_;.intro JF;refine ret X.f207.1 ?_;refine⟨out,is,rfl,?_,AH⟩;exact i5.mem λz=>((O4 q i2 i3 JF).map (·.1)).mem_iff
 .intro y hy hn;have XE:=dp hy hn;obtain⟨pa,pe,TM⟩:=hv y hy;have hWy:=hW y hy;rw[TM]at hWy
  have fin:∀(iI:Bool) (eX:Rec) (h9:H) (l9:CJ),PW W B (Y.map (·.1)++[y.1]) iI eX->Gk h9 (h.n+1) (.MX (some r) ck (Y.map (·.2.2)++[y.2.2]) ck)->Bk h9 h.n [.int .u8 (eX.1:Int),UN eX.2.1,UN eX.2.2.1,AN eX.2.2.2]->K0 h h9->
    FY (AJ [(11,some (.ptr (h.n+1) 0)),(7,some (.bool iI)),(6,some (.ptr h.n 0)),(1,some (.fn (.func fw) [] dE)),(2,some (.fn (.func fb) [] dD))]) (AJ l9)->Good P0 E Q ⟨⟨207,o9.ntmps,AJ l9,[.inLoop Afg,.inBlock 0,.code Afh],[],.run,false,none⟩,x::cs,h9⟩:=by
   intro iI eX h9 l9 t1 t2 t3 t4 t5
   refine ih (Y++[y],iI,eX) h9 l9 XE ⟨?_,?_,vz i3 hn,t3,?_,t4⟩ t5
   .rw[IG];exact t2
   .intro z hz
    rcases GU.1 hz with hz|hz
    .exact i2 z hz
    .rw[EV.1 hz];exact hy
   .rw[IG];exact t1
  clear ih;refine wk ?_;refine BO L (acv q rfl CS CH hy) ?_;rw[TM];refine wk ?_;refine Jv L rfl rfl rfl rfl rfl (hWy _ AH).A ?_;rintro _ h3 ⟨rfl,w1⟩;have n3:=w1.n;simp only[Ag]at n3
  cases hw:W y.1 with
  |false=>refine wk ?_;exact fin is out _ _ (i5.skip hw) CS AG AH BA
  |true=>
   cases is with
   |false=>refine wk ?_;exact fin true y.1 _ _ (i5.first hw) CS AG AH BA
   |true=>
    have FO:out∈Y.map (·.1):=by
     rcases i5 with⟨e,_⟩|⟨_,e,_⟩;.cases e
     .exact e
    obtain⟨z,hz,rfl⟩:=DK.1 FO;refine wk ?_;refine Jv L rfl rfl rfl rfl rfl (hB y hy z (i2 z hz) _ AH).A ?_;rintro _ h4 ⟨rfl,w2⟩;have n4:=w2.n;simp only[Ag]at n4
    cases hb:B y.1 z.1 with
    |false=>refine wk ?_;exact fin true z.1 _ _ (i5.JH (λe=>fF y hy z (i2 z hz) e) hb) CS AG AH BA
    |true=>refine wk ?_;exact fin true y.1 _ _ (i5.better tr hw hb) CS AG AH BA
end
variable {ci lo:Nat}
theorem rW(h:p:=by
 refine Bj L X.f206 λQ x cs G=>?_
 refine wk ?_
 refine BO L (Wc rfl CH) ?_
 refine ret X.f206.1 ?_
 exact⟨rfl,AH⟩):p:=h
theorem zS(h:p:=by
 refine Ad L X.f205 λQ x cs G=>?_
 refine wk ?_
 refine BO L (Wc rfl CH) ?_
 refine ret X.f205.1 ?_
 exact⟨rfl,AH⟩):p:=h
section
def gq(E0:Rec->Nat)(a b:Rec):Bool:=decide (b.2.1<a.2.1) || (decide (a.2.1=b.2.1)&&decide (E0 a<E0 b))
theorem Xh{E0:Rec->Nat}(a b c:Rec)(h1:gq E0 a b=true)(h2:gq E0 b c=true):gq E0 a c=true:=by unfold gq at*;simp only[cT,KQ,LP]at*;omega
theorem Ab1{E0:Rec->Nat}(a b:Rec)(h:E0 a≠E0 b):gq E0 a b=true\/gq E0 b a=true:=by unfold gq;simp only[cT,KQ,LP];omega
include L
theorem Alq{a e:Nat}{Mi:OJ}(ka:Mk h a (Mi.map (mE AI)) ci):CL L 205 [Iu k,il a e] h λv AA=>v= .bool (decide (k.1=3)&&decide (Mi.length=k.2.2.2))/\K0 h AA:=by
 obtain⟨k0,k1,k2,k3⟩:=k;by_cases h0:k0=3
 .by_cases h1:Mi.length=k3;.rw[show(decide ((k0,k1,k2,k3).1=3)&&decide (Mi.length=(k0,k1,k2,k3).2.2.2))=true by simp[h0,h1]];exact zS
  .rw[show(decide ((k0,k1,k2,k3).1=3)&&decide (Mi.length=(k0,k1,k2,k3).2.2.2))=false by simp[h0,h1]];exact zS
 .rw[show(decide ((k0,k1,k2,k3).1=3)&&decide (Mi.length=(k0,k1,k2,k3).2.2.2))=false by simp[h0]];refine Ad L X.f205 λQ x cs G=>?_;refine ret X.f205.1 ?_;exact⟨rfl,AH⟩
theorem Alr{a e SN:Nat}{Mi:OJ}{u w:AV}(ka:Mk h a (Mi.map (mE AI)) ci)(kc:Bk h c [u,UN SN,w]):CL L 206 [Iu k,il a e,.ptr c 0] h λv AA=>v= .bool (decide (k.1=2)&&decide (Mi.length=k.2.2.2)&&decide (k.2.2.1=SN))/\K0 h AA:=by
 obtain⟨k0,k1,k2,k3⟩:=k;by_cases h0:k0=2
 .by_cases h1:Mi.length=k3
  .by_cases h2:k2=SN;.rw[show(decide ((k0,k1,k2,k3).1=2)&&decide (Mi.length=(k0,k1,k2,k3).2.2.2)&&decide ((k0,k1,k2,k3).2.2.1=SN))=true by simp[h0,h1,h2]];exact rW
   .rw[show(decide ((k0,k1,k2,k3).1=2)&&decide (Mi.length=(k0,k1,k2,k3).2.2.2)&&decide ((k0,k1,k2,k3).2.2.1=SN))=false by simp[h0,h1,h2]];exact rW
  .rw[show(decide ((k0,k1,k2,k3).1=2)&&decide (Mi.length=(k0,k1,k2,k3).2.2.2)&&decide ((k0,k1,k2,k3).2.2.1=SN))=false by simp[h0,h1]];exact rW
 .rw[show(decide ((k0,k1,k2,k3).1=2)&&decide (Mi.length=(k0,k1,k2,k3).2.2.2)&&decide ((k0,k1,k2,k3).2.2.1=SN))=false by simp[h0]];refine Bj L X.f206 λQ x cs G=>?_;refine ret X.f206.1 ?_;exact⟨rfl,AH⟩
end
theorem zT(h:p:=by
 refine Bj L X.f204 λQ x cs G=>?_
 refine lit ?_
 refine Qt L ?_
 refine WA ?_
 (apply B4 rfl rfl;exact C0 KE.iz rfl rfl CH)
 rw[ha]
 refine WA ?_
 (apply B4 rfl rfl;exact C0 KE.iz rfl rfl CH)
 rw[hb]
 refine ret X.f204.1 ?_
 exact⟨rfl,AH⟩):p:=h
section
section
include L
theorem Als{aa ab ea eb:Nat}{M:List (Rec×AV×Nat)}{a b:Rec}(kb:Bk h rb [.map r])(k:Mk h r (M.map (mE Iu)) ck)(ha:A9 M a=some (il aa ea))(hb:A9 M b=some (il ab eb)):CL L 204 [Iu a,Iu b,.ptr rb 0] h λv AA=>v= .bool (decide (b.2.1<a.2.1) || (decide (a.2.1=b.2.1)&&decide (ea<eb)))/\K0 h AA:=by
 by_cases h0:b.2.1<a.2.1;.rw[show(decide (b.2.1<a.2.1) || (decide (a.2.1=b.2.1)&&decide (ea<eb)))=true by simp[h0]];refine Bj L X.f204 λQ x cs G=>?_;refine ret X.f204.1 ?_;exact⟨rfl,AH⟩
 by_cases h1:a.2.1=b.2.1
 .have e1:(decide (b.2.1<a.2.1) || (decide (a.2.1=b.2.1)&&decide (ea<eb)))=decide (ea<eb):=by simp[h0,h1]
  rw[e1];by_cases h2:ea<eb;.rw[CM h2];exact zT
  .rw[CW h2];exact zT
 .rw[show(decide (b.2.1<a.2.1) || (decide (a.2.1=b.2.1)&&decide (ea<eb)))=false by simp[h0,h1]];refine Bj L X.f204 λQ x cs G=>?_;refine ret X.f204.1 ?_;exact⟨rfl,AH⟩
structure fj (h:H)(lo c:Nat)(v1 v2:AV)(es:List BI)(us:List Int):Prop where
 e:(es=[]/\v1= .AS)\/(0<es.length/\∃b,v1= .AE b 0 es.length (Aa+2)/\Bk h b (es.flatMap A2)/\lo<=b/\b≠c)
 u:(us=[]/\v2= .AS)\/(0<us.length/\∃b,v2= .AE b 0 us.length (Aa+1)/\Bk h b (us.map AI)/\lo<=b/\b≠c)
 d:∀b1 n1 c1 b2 n2 c2,v1= .AE b1 0 n1 c1->v2= .AE b2 0 n2 c2->b1≠b2
omit L
theorem fj.kp{AA:H}{S:Nat->Prop}{v1 v2:AV}{es:List BI}{us:List Int}(q:fj h lo c v1 v2 es us)(k:Kp S h AA)(hs:∀b,lo<=b->b≠c->¬S b):fj AA lo c v1 v2 es us:=by
 refine⟨?_,?_,q.d⟩
 .rcases q.e with e|⟨e1,b,e2,e3,e4,e5⟩;.exact .inl e
  .exact .inr ⟨e1,b,e2,Ao k (hs b e4 e5) e3,e4,e5⟩
 .rcases q.u with e|⟨e1,b,e2,e3,e4,e5⟩;.exact .inl e
  .exact .inr ⟨e1,b,e2,Ao k (hs b e4 e5) e3,e4,e5⟩
def rX(o:Rec):List AV:=[.int .u8 (o.1:Int),UN o.2.1,UN o.2.2.1,AN o.2.2.2]
def nI(l:List Nat):List Int:=l.map λx=>((x:Nat):Int)
theorem Ti{M:List (Rec×AV×Nat)}{out:Rec}(q:OK h lo M ck P)(w:PW (Eg P kind prev) (Qj P) (M.map (·.1)) is out):WS P kind prev (if is=true then some out else none):=by
 have hk:∀k,ON P k->k∈M.map (·.1):=by
  intro k hk;unfold ON at hk
  cases h1:De P k with
  |none=>rw[h1]at hk;cases hk
  |some e=>obtain⟨a,Mi,ci,g1,_⟩:=q.at_ k e h1;rw[aax,g1];rfl
 rcases w with⟨h1,h2⟩|⟨h1,h2,h3,h4⟩;.rw[h1];exact λk kk=>h2 k (hk k kk)
 .rw[h1];refine⟨?_,h3,λk kk w=>h4 k (hk k kk) w⟩;obtain⟨y,hy,rfl⟩:=DK.1 h2;obtain⟨a,Mi,ci,e,g1,g2,g3,_⟩:=q.Z2 hy;unfold ON;rw[g3];rfl
include L
theorem ani{lv:AV}{l:List (JP×AV)}(hj:∀x∈l,x.1.1.Jr)(dg:∀x∈l,EL h lo x.2 x.1.2)(gj:(l=[]/\lv= .AS)\/∃lb,lv= .AE lb 0 l.length (Aa+7)/\Bk h lb (l.flatMap FP))(hlen:l.length<=300)(EJ:∀x∈l,x.1.2.length<=300)(lY:∀x∈l,x.1.1.seq<9223372036854775808):CL L 161 [lv] h λv AA=>∃o ks v1 v2,v= .agg [v1,UN (PB ks),v2]/\VH (l.map (·.1)) o/\RB (l.map (·.1)) o ks/\EL AA h.n v1 (LZ (l.map (·.1)) ks)/\DN AA h.n v2 (Dn (nI (HP (l.map (·.1)) ks)))/\((LZ (l.map (·.1)) ks).length<=950000000/\(HP (l.map (·.1)) ks).length<=950000000)/\K0 h AA:=by
 have ba:∀{i:Nat},i<l.length->∃lb,lv= .AE lb 0 l.length (Aa+7)/\Bk h lb (l.flatMap FP):=λhi=>gj.elim (λe=>absurd hi (by rw[e.1];exact OD _)) id;refine Aj L X.f161 λQ x cs G=>?_
 have main:∀(h0:H) (lq:CJ),Mk h0 (h.n+1) (([]:List (Rec×AV×Nat)).map (mE Iu)) 0->Bk h0 (h.n+2) [.map (h.n+1)]->Bk h0 h.n [.AS,Zu,.AS]->h.n+3<=h0.n->K0 h h0->
   FY (AJ [(22,some Zi),(21,some (AN l.length)),(20,some lv),(3,some (.ptr (h.n+2) 0)),(2,some (.ptr h.n 0)),(0,some lv)]) (AJ lq)->Good P0 E Q ⟨⟨161,Zr.ntmps,AJ lq,[.code Ae7,.inBlock 0,.code Afb,.inScope acy],[],.run,false,none⟩,x::cs,h0⟩:=by
   intro h0 lq m1 m2 m3 m4 m5 ht
   refine Bt L (α:=List (Rec×AV×Nat)×Nat) (T:=λi _=>[(22,some (AN i)),(21,some (AN l.length)),(20,some lv),(3,some (.ptr (h.n+2) 0)),(2,some (.ptr h.n 0)),(0,some lv)]) (n:=l.length)
     (R:=λi s hh=>OK hh (h.n+3) s.1 s.2 ((l.take i).map (·.1))/\Mk hh (h.n+1) (s.1.map (mE Iu)) s.2/\Bk hh (h.n+2) [.map (h.n+1)]/\Bk hh h.n [.AS,Zu,.AS]/\h.n+3<=hh.n/\K0 h hh) (i0:=0) ([],0) ht ⟨OK.nil _ _,m1,m2,m3,m4,m5⟩ (CN _) ?_ ?_
   .rintro i ⟨M,ck⟩ hh hi ⟨q,i2,i3,i4,i5,i6⟩ ih
    simp only at q i2
    obtain⟨lb,rfl,kl⟩:=ba hi
    have l3:=kl.lt
    have hx:l[i]?=some l[i]:=DA hi
    have hm:=LC hi
    have UJ:=hj _ hm
    have MI:=dg _ hm
    have DF:=A7 l (Lc l) i _ hx
    have e1:((l.take (i+1)).map (·.1))=(l.take i).map (·.1)++[l[i].1]:=by rw[LO,hx,IG];rfl
    have e2:((l.take i).map (·.1)).length=i:=by rw[DC,IS];omega
    generalize hP:(l.take i).map (·.1)=P at*
    generalize l[i]=y at*
    obtain⟨⟨s,es⟩,v⟩:=y
    simp only at UJ MI
    have HV:i*7+7<=(l.flatMap FP).length/\((l.flatMap FP).drop (i*7)).take 7=[.int .u8 (s.kind:Int),.int .i64 s.sec,UN s.seq,UN s.prev,.int .i64 s.idx,.int .i64 s.len,v]:=DF
    have k2:Bk hh lb (l.flatMap FP):=Ab i6 kl
    have l6:=i2.lt
    rcases MI.ex with⟨_,rfl⟩|⟨_,eb,rfl,_,_⟩
    all_goals
       refine wk ?_
       refine BO L (A0 k2.rk HV rfl) ?_
       refine AK ?_ (c:=Alo L UJ)
       rintro _ h3 ⟨rfl,w1⟩
       have n3:=w1.n
       simp only[Ag]at n3
       refine wk ?_
       cases hE:De P (Bv s)with
       |none=>
         have hg:=q.no _ hE
         refine BO L (Xd KE.iz rfl rfl CH hg) ?_
         refine wk ?_
         (apply Kk L rfl;exact El (k:=Bv s) KE.iz q.ok rfl rfl rfl CH;rfl)
         refine wk ?_
         refine BO L (Xd (KE.int .i64) (M:=[]) (k:=s.idx) rfl rfl CH rfl) ?_
         refine wk ?_
         (apply Kk L rfl;exact El (M:=[]) (k:=s.idx) (KE.int .i64) EP.nil rfl rfl rfl CH;rfl)
         refine wk ?_
         refine ih (Dd M ck (Bv s) (.agg [.map (h3.n+1+1),AN i]),LM M ck (Bv s)) _ _ ⟨?_,by exact CH,by exact AG,by exact AG,by simp only[Ag];omega,AH⟩ BA
         rw[e1]
         have hv:∀h9,OK h9 (h.n+3) (Dd M ck (Bv s) (.agg [.map (h3.n+1+1),AN P.length])) (LM M ck (Bv s)) (P++[(s,es)])->OK h9 (h.n+3) (Dd M ck (Bv s) (.agg [.map (h3.n+1+1),AN i])) (LM M ck (Bv s)) (P++[(s,es)]):=by
           intro h9 q9;rw[e2]at q9;exact q9
         refine hv _ (OK.new (p:=(s,es)) (BP:=0) q hE om om (by rw[e2];exact CH) (λb es c hb UG dh=>by exact CH))
       |some e=>
         obtain⟨a,Mi,ci,hg,ka,oi,la,hf⟩:=q.at_ _ _ hE
         have lka:=ka.lt
         refine BO L (adv KE.iz rfl rfl CH hg) ?_
         cases hF:D9 P (Bv s) s.idx with
         |none=>
           have tM:A9 Mi s.idx=none:=by rw[hf,hF];rfl
           refine wk ?_
           refine BO L (Xd (KE.int .i64) (M:=Mi) (k:=s.idx) rfl rfl CH tM) ?_
           refine wk ?_
           (apply Kk L rfl;exact El (M:=Mi) (k:=s.idx) (KE.int .i64) oi rfl rfl rfl CH;rfl)
           refine wk ?_
           refine ih (M,ck) _ _ ⟨?_,by exact CH,by exact AG,by exact AG,by simp only[Ag];omega,AH⟩ BA
           rw[e1]
           refine OK.add (p:=(s,es)) (BP:=0) q hE hF hg oi la hf (by rw[e2];exact CH) (λb es c hb BZ dh=>by have:=dh.lt;exact CH)
         |some j=>
           have tM:A9 Mi s.idx=some (AN j):=by rw[hf,hF];rfl
           refine wk ?_
           refine BO L (adv (KE.int .i64) (M:=Mi) (k:=s.idx) rfl rfl CH tM) ?_
           refine wk ?_
           refine ih (M,ck) _ _ ⟨?_,by exact CH,by exact AG,by exact AG,by simp only[Ag];omega,AH⟩ BA
           rw[e1]
           refine OK.am7 (p:=(s,es)) q hE hF (λb es c hb dh=>by have:=dh.lt;exact CH)
   .rintro⟨M,ck⟩ hh ⟨q,i2,i3,i4,i5,i6⟩
    rw[NA]at q
    simp only at q i2
    have lL:∀p∈l.map (·.1),p.1.Jr:=by
       intro p hp
       obtain⟨x,hx,rfl⟩:=DK.1 hp
       exact hj x hx
    have hsP:∀p∈l.map (·.1),p.1.seq<9223372036854775808:=by
       intro p hp
       obtain⟨x,hx,rfl⟩:=DK.1 hp
       exact lY x hx
    have tD:∀p∈l.map (·.1),p.2.length<=300:=by
       intro p hp
       obtain⟨x,hx,rfl⟩:=DK.1 hp
       exact EJ x hx
    have aja:∀j x,l[j]?=some x->Ga (l.map (·.1)) j=x.1.2:=λj x hx=>(by unfold Ga;rw[GD,hx];rfl)
    have hlP:(l.map (·.1)).length=l.length:=DC _
    generalize hP:l.map (·.1)=P at*
    have hv:∀y∈M,∃a e,y.2.1=il a e:=λy hy=>by
       obtain⟨a,Mi,ci,e,g1,_⟩:=q.Z2 hy
       exact⟨a,e,g1⟩
    have fF:∀y∈M,∀z∈M,y.1≠z.1->Qj P y.1 z.1=true\/Qj P z.1 y.1=true:=by
       intro y hy z hz BZ
       obtain⟨a,Mi,ci,e,g1,g2,g3,_⟩:=q.Z2 hy
       obtain⟨BC,Mi',IU,BG,sS,bN,kZ,_⟩:=q.Z2 hz
       refine Ab1 (E0:=λk=>(De P k).getD 0) _ _ ?_
       show(De P y.1).getD 0≠(De P z.1).getD 0
       rw[g3,kZ]
       intro f
       simp only[MC]at f
       subst f
       exact BZ ((by obtain⟨p,h1,h2⟩:=Tf g3;obtain⟨JW,h3,h4⟩:=Tf kZ;rw[h1]at h3;cases h3;rw[<-h2,h4]))
    have hB:∀h1,Kp (λj=>j=h.n) hh h1->∀y∈M,∀z∈M,∀h2,K0 h1 h2->CL L 204 (Iu y.1::Iu z.1::[.ptr (h.n+2) 0]) h2 λv AA=>v= .bool (Qj P y.1 z.1)/\K0 h2 AA:=by
       intro h1 k1 y hy z hz h2 k2
       obtain⟨a,Mi,ci,e,g1,g2,g3,_⟩:=q.Z2 hy
       obtain⟨BC,Mi',IU,BG,sS,bN,kZ,_⟩:=q.Z2 hz
       have kk:Kp (λj=>j=h.n) hh h2:=k1.trans (k2.mono λ_ f=>f.elim)
       refine(Als L (Ao kk om i3) (Nb kk om i2) g2 bN).mono λv AA p=>?_
       have:Qj P y.1 z.1=(decide (z.1.2.1<y.1.2.1) || (decide (y.1.2.1=z.1.2.1)&&decide (e<BG))):=by
         unfold Qj;simp only[g3,kZ,MC]
       rw[this];exact p
    have hW2:∀h1,Kp (λj=>j=h.n) hh h1->∀y∈M,∀h2,K0 h1 h2->CL L 205 (Iu y.1::y.2.1::[]) h2 λv AA=>v= .bool (Eg P 3 none y.1)/\K0 h2 AA:=by
       intro h1 k1 y hy h2 k2
       obtain⟨a,Mi,ci,e,g1,g2,g3,g4,g5,g6,g7⟩:=q.Z2 hy
       have kk:Kp (λj=>j=h.n) hh h2:=k1.trans (k2.mono λ_ f=>f.elim)
       rw[g1,show Eg P 3 none y.1=(decide (y.1.1=3)&&full P y.1)from Bool.and_true _,<-wD lL g5 g7]
       exact Alq L (Nb kk om g4)
    refine AK ?_ (c:=Mn L (W:=Eg P 3 none) (B:=Qj P) (dE:=[]) (dD:=[.ptr (h.n+2) 0]) q.ok eH hv (hW2 _ za) (hB _ za) (Xh (E0:=λk=>(De P k).getD 0)) fF)
    rintro _ h3 ⟨out,is,rfl,w1,w2⟩
    have b1:=Ti q w1
    have hW3:∀h1 SN u w,Kp (λj=>j=h.n) hh h1->Bk h1 h.n [u,UN SN,w]->∀y∈M,∀h2,K0 h1 h2->CL L 206 (Iu y.1::y.2.1::[.ptr h.n 0]) h2 λv AA=>v= .bool (Eg P 2 (some SN) y.1)/\K0 h2 AA:=by
       intro h1 SN u w k1 kc y hy h2 k2
       obtain⟨a,Mi,ci,e,g1,g2,g3,g4,g5,g6,g7⟩:=q.Z2 hy
       have kk:Kp (λj=>j=h.n) hh h2:=k1.trans (k2.mono λ_ f=>f.elim)
       rw[g1,show Eg P 2 (some SN) y.1=(decide (y.1.1=2)&&full P y.1&&decide (y.1.2.2.1=SN))from rfl,<-wD lL g5 g7]
       exact Alr L (Nb kk om g4) (Ab k2 kc)
    have n3:=w2.n
    simp only[Ag]at n3
    have loop:∀(h5:H) (UA:Nat) (eC:Bool) (o5:Rec) (lq:CJ),Kp (λj=>j=h.n) hh h5->Bk h5 h.n [.AS,Zu,.AS]->hh.n<=UA->Bk h5 UA [.int .u8 (o5.1:Int),UN o5.2.1,UN o5.2.2.1,AN o5.2.2.2]->VH P (if eC=true then some o5 else none)->
         FY (AJ [(16,some (.bool eC)),(15,some (.ptr UA 0)),(14,some (.fn (.func 206) [] [.ptr h.n 0])),(12,some (.fn (.func 204) [] [.ptr (h.n+2) 0])),(3,some (.ptr (h.n+2) 0)),(2,some (.ptr h.n 0)),(0,some lv)]) (AJ lq)->
         Good P0 E Q ⟨⟨161,Zr.ntmps,AJ lq,[.code Ae9,.inBlock 2,.code Afa,.inScope acy],[],.run,false,none⟩,x::cs,h5⟩:=by
       intro h5 UA eC o5 lq k5 c5 aql aju HC ht5
       have SK:eC=true->ON P o5/\full P o5=true:=λe=>by rw[AP e]at HC;exact aih HC
       refine Wr L (bd:=Ae8) (α:=List Rec×Bool×Rec×AV×AV) (T:=λs=>[(16,some (.bool s.2.1)),(15,some (.ptr UA 0)),(14,some (.fn (.func 206) [] [.ptr h.n 0])),(12,some (.fn (.func 204) [] [.ptr (h.n+2) 0])),(3,some (.ptr (h.n+2) 0)),(2,some (.ptr h.n 0)),(0,some lv)]) (mu:=λs=>eQ P s.2.1 s.2.2.1)
         (R:=λs h6=>Kp (λj=>j=h.n) hh h6/\fj h6 hh.n UA s.2.2.2.1 s.2.2.2.2 (LZ P s.1) (nI (HP P s.1))/\Bk h6 h.n [s.2.2.2.1,UN (PB s.1),s.2.2.2.2]/\Bk h6 UA (rX s.2.2.1)/\
           (∀tl,RB P (if s.2.1=true then some s.2.2.1 else none) tl->RB P (if eC=true then some o5 else none) (s.1++tl))/\(s.2.1=true->ON P s.2.2.1/\full P s.2.2.1=true)/\s.1.length+eQ P s.2.1 s.2.2.1<=P.length/\∀k∈s.1,full P k=true)
         ([],eC,o5,.AS,.AS) ht5 ⟨k5,⟨.inl ⟨rfl,rfl⟩,.inl ⟨rfl,rfl⟩,λ_ _ _ _ _ _ e=>by cases e⟩,c5,aju,λ_ q=>q,SK,(by simpa using All P eC o5),λk hk=>by cases hk⟩ ?_
       rintro⟨ks,is,o,v1,v2⟩ h6 ⟨j1,j2,j3,j4,j5,j6,ajs,j8⟩ ih
       simp only at j2 j3 j4 j5 j6 ajs j8 ih
       have l6:=j1.n
       cases is with
       |false=>
         have PZ:=j5 [] .none
         rw[MO]at PZ
         obtain⟨g0,bS⟩:=U.g
         have pL:(nI (HP P ks)).length<100000:=by
           have h1:=Q3 ks j8
           have h2:ks.length*P.length<=300*300:=NB om om
           unfold nI;rw[DC];omega
         have hbE:(LZ P ks).length<=950000000/\(HP P ks).length<=950000000:=by
           have h1:=Q3 ks j8
           have h2:ks.length*P.length<=300*300:=NB om om
           have h3:=N3 tD (HP P ks)
           rw[<-aaz]at h3
           omega
         have fin:∀(h9:H) (WH:AV),DN h9 h.n WH (Dn (nI (HP P ks)))->EL h9 h.n v1 (LZ P ks)->K0 h h9->∃o iT aer aes,(AV.agg [v1,UN (PB ks),WH])= .agg [aer,UN (PB iT),aes]/\VH P o/\RB P o iT/\EL h9 h.n aer (LZ P iT)/\DN h9 h.n aes (Dn (nI (HP P iT)))/\((LZ P iT).length<=950000000/\(HP P iT).length<=950000000)/\K0 h h9:=
           λh9 WH q1 q2 q3=>⟨_,ks,v1,WH,rfl,HC,PZ,q2,q1,hbE,q3⟩
         have dT:=j2.d
         have hE:EL h6 h.n v1 (LZ P ks):=by
           rcases j2.e with⟨f1,f2⟩|⟨f1,b1,f2,f3,f4,f5⟩
           .exact⟨.inl ⟨f1,f2⟩⟩
           .exact⟨.inr ⟨Yv.1 f1,b1,f2,f3,om⟩⟩
         rcases j2.e with⟨f1,rfl⟩|⟨f1,b1,rfl,f3,f4,f5⟩<;>rcases j2.u with⟨e1,rfl⟩|⟨e1,b,rfl,e3,e4,e5⟩
         all_goals
           try have gT:=dT _ _ _ _ _ _ rfl rfl
           refine wk ?_
           first
           | refine jf L rfl rfl rfl rfl bS (U.x0 _) ?_
             rintro _ _ ⟨rfl,rfl⟩
             refine ret X.f161.1 ?_
             refine fin _ _ ⟨.inl ⟨by rw[e1];exact List.mergeSort_nil,rfl⟩⟩ ?_ za
           | refine jf L rfl rfl rfl rfl bS (U.x _ _ (nI (HP P ks)) uc e1 pL) ?_
             rintro _ h7 ⟨rfl,w6,w7⟩
             refine ret X.f161.1 ?_
             refine fin _ _ ⟨.inr ⟨by rw[E3];exact e1,b,by rw[E3],by exact AG,om⟩⟩ ?_ za
           first
           |exact⟨.inl ⟨f1,rfl⟩⟩
           |exact⟨.inr ⟨Yv.1 f1,b1,rfl,by exact AG,om⟩⟩
       |true=>
         obtain⟨hk,hf⟩:=j6 rfl
         have ES:=Xf lL hk
         have gZ:=Agn lL hk hf hsP
         have GR:=aay hf
         obtain⟨e0,VT⟩:=SV.1 (show(De P o).isSome=true from hk)
         obtain⟨a,Mi,ci,hg,ka,oi,la,hfm⟩:=q.at_ o e0 VT
         have lka:=ka.lt
         have aph:=Q3 ks j8
         have bU2:ks.length*P.length<=300*300:=NB om om
         refine wk ?_
         refine Bt L (α:=AV×AV) (T:=λi s=>[(89,some (AN i)),(88,some (AN o.2.2.2)),(15,some (.ptr UA 0)),(14,some (.fn (.func 206) [] [.ptr h.n 0])),(12,some (.fn (.func 204) [] [.ptr (h.n+2) 0])),(3,some (.ptr (h.n+2) 0)),(2,some (.ptr h.n 0)),(0,some lv)]) (n:=o.2.2.2)
           (R:=λi s h7=>Kp (λj=>j=h.n) hh h7/\fj h7 hh.n UA s.1 s.2 (LZ P ks++((Cy P o).take i).flatMap (Ga P)) (nI (HP P ks++(Cy P o).take i))/\Bk h7 h.n [s.1,UN (PB ks),s.2]/\Bk h7 UA (rX o)) (i0:=0) (v1,v2) BA ⟨j1,by simp only[nO,fO,MO];exact j2,j3,j4⟩ (CN _) ?_ ?_
         .rintro i ⟨v1,v2⟩ h7 hi ⟨t1,t2,t3,t4⟩ XG
          simp only at t2 t3
          have n7:=t1.n
          have lt4:=t4.lt
          obtain⟨jj,YP,MU⟩:=Lo hf hi
          have YQ:=adw YP
          have tQ:jj<l.length:=om
          obtain⟨lb,rfl,kl⟩:=ba tQ
          have l3:=kl.lt
          have hx:l[jj]?=some l[jj]:=DA tQ
          have hm:=LC tQ
          have MI:=dg _ hm
          have ai4:=EJ _ hm
          have DF:=A7 l (Lc l) jj _ hx
          have ee:=aja jj _ hx
          generalize l[jj]=y at*
          obtain⟨⟨s,es⟩,v⟩:=y
          simp only at MI ee ai4
          have e1:(Cy P o).take (i+1)=(Cy P o).take i++[jj]:=by rw[LO,MU];rfl
          have e2:LZ P ks++((Cy P o).take (i+1)).flatMap (Ga P)=(LZ P ks++((Cy P o).take i).flatMap (Ga P))++es:=by rw[e1,OX,<-NP];simp[ee]
          have e3:nI (HP P ks++(Cy P o).take (i+1))=nI (HP P ks++(Cy P o).take i)++[(jj:Int)]:=by rw[e1];simp[nI]
          have apf:(LZ P ks++((Cy P o).take i).flatMap (Ga P)).length<=2000000000:=by
             have h1:=N3 tD ((Cy P o).take i)
             have h2:=N3 tD (HP P ks)
             rw[<-aaz]at h2
             have h3:((Cy P o).take i).length<=300:=by rw[IS];omega
             rw[DX]
             omega
          have bU3:(nI (HP P ks++(Cy P o).take i)).length<=180000:=by
             unfold nI
             rw[DC,DX,IS];omega
          have pQ:=λ(cM WH:AV) (AA:H) (AT:CJ) (a1:Kp (λj=>j=h.n) hh AA) (a2:fj AA hh.n UA cM WH ((LZ P ks++((Cy P o).take i).flatMap (Ga P))++es) (nI (HP P ks++(Cy P o).take i)++[(jj:Int)])) (a3:Bk AA h.n [cM,UN (PB ks),WH]) (a4:Bk AA UA (rX o))
             (t:FY (AJ [(89,some (AN (i+1))),(88,some (AN o.2.2.2)),(15,some (.ptr UA 0)),(14,some (.fn (.func 206) [] [.ptr h.n 0])),(12,some (.fn (.func 204) [] [.ptr (h.n+2) 0])),(3,some (.ptr (h.n+2) 0)),(2,some (.ptr h.n 0)),(0,some (.AE lb 0 l.length (Aa+7)))]) (AJ AT))=>
             XG (cM,WH) AA AT ⟨a1,by rw[e2,e3];exact a2,a3,a4⟩ t
          clear XG
          generalize LZ P ks++((Cy P o).take i).flatMap (Ga P)=afs at*
          generalize nI (HP P ks++(Cy P o).take i)=af6 at*
          have hv6:(l.flatMap FP)[jj*7+6]?=some v:=by
             have:=HT (λr=>r[6]?) DF.2
             simp only[N0 (show 6<7 from om),MN]at this
             exact this
          have kl8:Bk h7 lb (l.flatMap FP):=Ao t1 om (Ab i6 kl)
          have ui:=Nb t1 om ka
          refine lit ?_
          refine BO L ((by apply V9 rfl;exact AG;rfl)) ?_
          refine BO L (C0 (k:=o) KE.iz rfl rfl CH) ?_
          rw[hg]
          (try rw[MC])
          refine lit ?_
          refine BO L (C0 (KE.int .i64) (M:=Mi) (k:=(i:Int)) rfl rfl CH) ?_
          rw[hfm,YP]
          (try rw[KR,MC])
          rcases MI.len with⟨rfl,rfl⟩|⟨g1,eb,rfl,g3,g4⟩<;>rcases t2.e with⟨rfl,rfl⟩|⟨m1,b1,rfl,m3,m4,m5⟩<;>rcases t2.u with⟨rfl,rfl⟩|⟨u1,b2,rfl,u3,u4,u5⟩
          all_goals
             try rw[MO]at pQ
             try have gk:Bk h7 eb (es.flatMap A2):=Ao t1 (by have:=g3.lt;omega) (Ab i6 g3)
             try have dT:=t2.d _ _ _ _ _ _ rfl rfl
             refine wk ?_
             try(apply H8 L rfl rfl;first|exact D1 (new:=es.flatMap A2) rfl rfl (rD AG) g1 om|exact D7 (old:=afs.flatMap A2) (new:=es.flatMap A2) rfl rfl (rD AG) (rD AG) g1 om (Tg _))
             try refine wk ?_
             first|refine BO L (D1 (new:=[AN jj]) rfl rfl (Xg AG) om om) ?_|refine BO L (D7 (old:=af6.map AI) (new:=[AN jj]) rfl rfl (Aui AG) (Xg AG) om om rfl) ?_
             refine wk ?_
             refine pQ _ _ _ _ za ?_ uc uc BA
             refine⟨?_,.inr ?_,λ_ _ _ _ _ _ p1 p2=>by cases p1<;>cases p2<;>omega⟩
             .first|exact .inl ⟨rfl,rfl⟩|exact .inr ⟨m1,b1,rfl,AG,m4,m5⟩|exact .inr ⟨g1,_,rfl,AG,om,om⟩|exact .inr ⟨by rw[DX];omega,_,zQ DX.symm,(by rw[OX];exact AG),om,om⟩
             .first|exact⟨by simp,_,rfl,AG,om,om⟩|exact⟨by simp,_,zQ (by rw[DX];rfl),mB,om,om⟩
         .rintro⟨v1,v2⟩ h7 ⟨t1,t2,t3,t4⟩
          simp only at t2 t3
          have JG:(Cy P o).take o.2.2.2=Cy P o:=by rw[<-Ln P o,NA]
          rw[JG]at t2
          have n7:=t1.n
          have lt4:=t4.lt
          refine wk ?_
          refine BO L (wE rfl rfl rfl ZM) ?_
          refine wk ?_
          refine BO L (O0 rfl rfl rfl om ZM) ?_
          refine AK ?_ (c:=Mn L (W:=Eg P 2 (some (F5 o))) (B:=Qj P) (dE:=[.ptr h.n 0]) (dD:=[.ptr (h.n+2) 0]) q.ok eH hv (hW3 _ (F5 o) v1 v2 za uc) (hB _ za) (Xh (E0:=λk=>(De P k).getD 0)) fF)
          rintro _ h8 ⟨out,iI,rfl,w3,w4⟩
          have b2:=Ti q w3
          have n8:=w4.n
          simp only[Ag]at n8
          have XE:=Alm lL hk b2
          refine wk ?_
          refine ih (ks++[o],iI,out,v1,v2) _ _ XE ⟨by exact AH,?_,?_,by exact AG,λtl r=>?_,λe=>?_,?_,λk TJ=>?_⟩ BA
          .simp only[Abw,Abx]
           exact t2.kp (S:=λj=>j=h.n\/j=UA) za (λb hb hn=>om)
          .simp only[Aby];exact AG
          .simp only
           rw[NP];exact j5 (o::tl) (by rw[AP rfl];exact .some b2 r)
          .simp only at e
           rw[AP e]at b2;exact Pj b2
          .simp only[DX,FX,VB];omega
          .rcases GU.1 TJ with e|e
           .exact j8 _ e
           .rw[EV.1 e];exact hf
    cases is with
    |true=>
       refine wk ?_
       exact loop _ h3.n true out _ za uc om uc ⟨_,b1,rfl⟩ (by exact BA)
    |false=>
       refine AK ?_ (c:=Mn L (W:=Eg P 2 (some 0)) (B:=Qj P) (dE:=[.ptr h.n 0]) (dD:=[.ptr (h.n+2) 0]) q.ok eH hv (hW3 _ 0 .AS .AS za uc) (hB _ za) (Xh (E0:=λk=>(De P k).getD 0)) fF)
       rintro _ h4 ⟨akx,is2,rfl,w3,w4⟩
       have b2:=Ti q w3
       refine wk ?_
       exact loop _ h3.n is2 akx _ za uc om uc ⟨_,b1,b2⟩ (by exact BA)
 rcases gj with⟨rfl,rfl⟩|⟨lb,rfl,kl⟩
 all_goals
  refine wk ?_;exact main _ _ eH uc uc (BD _) za (by exact BA)
