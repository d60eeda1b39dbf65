import Derived.Test.YtgackjbfibdoiaaGreatH08
import Derived.Test.YtgackjbfibdoiaaGreatH10
set_option linter.all false
set_option maxRecDepth 100000
set_option maxHeartbeats 4000000
namespace Go.Ev
variable {P0:Program}{E:Env}{F:T DY}{K:HK}(L:Lg P0 E F K)[X:Fx F K][aq4:Tb P0 E F K][U:Yz P0 E F 208]
variable {D J:List Int}{S AB S1 S2:Ap}{b c i j k AT lo QA m GF sp z:Nat}{data:List Nat}{h AA:H}{ks:List Rec}{o:WO}{p:Pg}{s:Sp}{v:AV}
structure IL where
 at_:Nat
 s:Sp
 data:List Nat
def F6(D:Dv)(i j:Nat):Option IL:=
 if((D.bl i).pg j).st=2\/((D.bl i).pg j).st=3 then(Nz (((D.bl i).pg j).b.drop D.sz) (((D.bl i).pg j).b.take D.sz)).map λs=>⟨i*D.P+j,s,((D.bl i).pg j).b.take D.sz⟩
 else none
def N5(D:Dv)(i n:Nat):List IL:=(List.range n).filterMap (F6 D i)
def Gt(D:Dv)(n:Nat):List IL:=(List.range n).flatMap λi=>N5 D i (D.bl i).nx
def Af(D:Dv):List IL:=Gt D D.nb
def H2(x:IL):Bool:=decide (x.s.kind=1)
def JX(x:IL):Bool:=!H2 x&&(N1 x.data).isSome
def Tj(x:IL):JP:=(x.s,(N1 x.data).getD [])
def jps(L:List IL):List JP:=(L.filter JX).map Tj
def Bn(L:List IL):Nat:=L.foldl (λm x=>max m (x.s.seq+1)) 1
def Qh(L:List IL)(e:BI):Bool:=match L.find? λx=>decide (((x.at_:Nat):Int)=e.2)with
 |some x=>H2 x&&decide (x.s.sec=e.1)
 |none=>false
def Kv(L:List IL)(P j:Nat):Nat:=match(L.filter JX)[j]? with
 |some x=>x.at_/P
 |none=>0
def HS(sz:Nat)(x:IL×Nat):List AV:=NL x.1.s++[AN x.1.at_,.AE x.2 0 sz (Aa+1)]
structure PL (lo:Nat)(h:H)(sz:Nat)(v:AV)(LL:List IL):Prop where
 ex:∃l:List (IL×Nat),l.map (·.1)=LL/\(∀x∈l,BS h x.2 0 x.1.data/\lo<=x.2/\x.1.data.length=sz)/\((l=[]/\v= .AS)\/(l≠[]/\∃b,v= .AE b 0 l.length (Aa+8)/\Bk h b (l.flatMap (HS sz))/\lo<=b/\∀x∈l,x.2≠b))
theorem PL.nil(lo:Nat)(h:H)(sz:Nat):PL lo h sz .AS []:=⟨[],rfl,λx hx=>(by cases hx),.inl ⟨rfl,rfl⟩⟩
theorem PL.kp{B:Nat->Prop}{sz:Nat}{LL:List IL}(q:PL lo h sz v LL)(k:Kp B h AA)(hs:∀b,lo<=b->b<h.n->¬B b):PL lo AA sz v LL:=by obtain⟨l,h1,h2,h3⟩:=q.ex;refine⟨l,h1,λx hx=>?_,h3.imp id λ⟨h4,b,h5,h6,h7,h8⟩=>⟨h4,b,h5,Ao k (hs b h7 h6.lt) h6,h7,h8⟩⟩;obtain⟨a,b,c⟩:=h2 x hx;exact⟨a.kp k (hs _ b a.ET),b,c⟩
theorem PL.k0{sz:Nat}{LL:List IL}(q:PL lo h sz v LL)(k:K0 h AA):PL lo AA sz v LL:=q.kp k λ_ _ _ f=>f
theorem PL.mono{sz:Nat}{LL:List IL}(q:PL lo h sz v LL)(hl:QA<=lo):PL QA h sz v LL:=by obtain⟨l,h1,h2,h3⟩:=q.ex;exact⟨l,h1,λx hx=>let⟨a,b,c⟩:=h2 x hx;⟨a,EM hl b,c⟩,h3.imp id λ⟨h4,b,h5,h6,h7,h8⟩=>⟨h4,b,h5,h6,EM hl h7,h8⟩⟩
section
variable {l:CJ}{n nt fn bytes d:Nat}{t:T DV}{lh:SA}{x y:O}{gd:Option (Nat×Bool)}{r:List CI}{k:DO}{ds:List HN}{AL:Bool}{ro:Option Nat}{cs:FM}{Q:Nat->AV->Prop}
include L
theorem xP{b2 o2 SF sz db:Nat}{LL:List IL}{z:IL}(hg:HH gd l=some true)(e:AU l x=some v)(q:PL lo (hp n t lh) sz v LL)(HX:lo<=n)(e1:AU l y=some (.AE b2 o2 1 SF))(k2:CG 8 (hp n t lh) (.AE b2 o2 1 SF) 1 (HS sz (z,db)))(hd:BS (hp n t lh) db 0 z.data)(TE:lo<=db)(hz:z.data.length=sz)(hv:∀b m c,v= .AE b 0 m c->db≠b/\QA<=b)(hb:(LL.length+1)*(bytes+1)<=1099511627776)(g:∀AQ AA,PL lo AA sz AQ (LL++[z])->Kp (λj=>QA<=j) (hp n t lh) AA->(∀b m c,AQ= .AE b 0 m c->b=n)->AA.n=n+1->Good P0 E Q ⟨⟨fn,nt,AJ ((d,some AQ)::l),.ops r::k,ds,.run,AL,ro⟩,cs,hp AA.n AA.t []⟩):Good P0 E Q ⟨⟨fn,nt,AJ l,.ops (⟨some d,gd,.append 8 bytes x y⟩::r)::k,ds,.run,AL,ro⟩,cs,hp n t lh⟩:=by
 obtain⟨ll,rfl,q1,q2⟩:=q.ex;have qL:=hd.ET;have VU:∀x∈ll,(HS sz x).length=8:=λ_ _=>rfl;rw[DC]at hb;rcases q2 with⟨rfl,rfl⟩|⟨q3,b,rfl,kb,hl,BZ⟩
 .have kk:Bk (hp (n+1) t ((n,some (cl (HS sz (z,db))))::lh)) n (HS sz (z,db)):=AG;have k0:K0 (hp n t lh) (hp (n+1) t ((n,some (cl (HS sz (z,db))))::lh)):=AH;refine Et L (Az hg) (D1 e e1 k2 om mJ).e (g (.AE n 0 1 (Aa+8)) (hp (n+1) t ((n,some (cl (HS sz (z,db))))::lh)) ⟨[(z,db)],rfl,λy hy=>?_,.inr ⟨by simp,n,rfl,by simpa using kk,HX,λy hy=>?_⟩⟩ AH (λ_ _ _ e=>by cases e;rfl) rfl);.rw[EV.1 hy];exact⟨hd.k0 k0,TE,hz⟩
  .rw[EV.1 hy];show db≠n;simp only[Ag]at qL;omega
 .have Le:b<n:=kb.lt;have kk:Bk (hp (n+1) t ((n,some (cl (ll.flatMap (HS sz)++HS sz (z,db))))::(b,none)::lh)) n (ll.flatMap (HS sz)++HS sz (z,db)):=AG;have k1:Kp (λj=>j=b) (hp n t lh) (hp (n+1) t ((n,some (cl (ll.flatMap (HS sz)++HS sz (z,db))))::(b,none)::lh)):=AH;have GR:=B8 ll VU;refine Et L (Az hg) (D7 e e1 (CG.of (c:=ll.flatMap (HS sz)) kb om iK) k2 om hb rfl).e (g (.AE n 0 (ll.length+1) (Aa+8)) (hp (n+1) t ((n,some (cl (ll.flatMap (HS sz)++HS sz (z,db))))::(b,none)::lh)) ⟨ll++[(z,db)],by simp,λy hy=>?_,.inr ⟨by simp,n,by simp,by rw[OX];simpa using kk,HX,λy hy=>?_⟩⟩ (k1.mono λj e=>by have:=(hv b _ _ rfl).2;omega) (λ_ _ _ e=>by cases e;rfl) rfl)
  .rcases GU.1 hy with hy|hy;.obtain⟨a,c,e⟩:=q1 y hy;exact⟨a.kp k1 (BZ y hy),c,e⟩
   .rw[EV.1 hy];exact⟨hd.kp k1 (hv b _ _ rfl).1,TE,hz⟩
  .rcases GU.1 hy with hy|hy;.have:=(q1 y hy).1.ET;simp only[Ag]at this;omega
   .rw[EV.1 hy];show db≠n;simp only[Ag]at qL;omega
end
theorem Lk:∀(n v:Nat) (p s:List Nat) (a:Nat),v<256^n->a=p.length->EF (p++DJ n v++s) a n=v
 |0,v,p,s,a,h,_=>by simp[EF]at h ⊢;omega
 |n+1,v,p,s,a,h,ha=>by
  subst ha;rw[EF,DJ];have h1:(p++(v%256::DJ n (v/256))++s).getD p.length 0=v%256:=by rw[MZ,NP,OB (BD _),Xq];rfl
  have h2:p++(v%256::DJ n (v/256))++s=(p++[v%256])++DJ n (v/256)++s:=by simp
  rw[h1,h2,Lk n (v/256) (p++[v%256]) s (p.length+1) (by rw[Nat.pow_succ]at h;omega) W0];omega
theorem S8(q:s.Fit):Nz (A3 s data) data=some s:=by
 obtain⟨v,ok⟩:=q;obtain⟨v1,v2,v3,v4,v5,v6⟩:=v;obtain⟨o1,o2,o3⟩:=ok;have e8:(256:Nat)^8=18446744073709551616:=by decide
 have e4:(256:Nat)^4=4294967296:=by decide
 have b1:0<=s.sec/\s.sec<=4294967294:=by rcases v6 with⟨-,a,b,-⟩|⟨-,a,-⟩<;>omega
 have u1:u64 s.sec=s.sec.toNat:=by unfold u64;omega
 have u2:u64 s.idx=s.idx.toNat:=by unfold u64;omega
 have u3:u64 s.len=s.len.toNat:=by unfold u64;omega
 have hcr:NT (data++Bc s)<256^4:=by have:=Nm (data++Bc s);rw[e4];omega
 have ht:(A3 s data).take 60=Bc s:=by unfold A3;rw[<-Cp s,List.take_left]
 have bf:Jn (A3 s data)=s:=by
  have hk:(A3 s data).getD 4 0=s.kind:=rfl;have f:∀(n v a:Nat) (p t:List Nat),A3 s data=p++DJ n v++t->v<256^n->a=p.length->EF (A3 s data) a n=v:=λn v a p t h1 h2 h3=>by rw[h1];exact Lk n v p t a h2 h3
  have f1:=f 8 s.seq 8 (SO s.kind) _ m7 om rfl;have f2:=f 8 s.prev 16 (SO s.kind++DJ 8 s.seq) _ m7 om (by rw[DX,Bb];rfl);have f3:=f 4 (u64 s.sec) 24 (SO s.kind++DJ 8 s.seq++DJ 8 s.prev) _ m7 om uX;have f4:=f 4 (u64 s.idx) 28 (SO s.kind++DJ 8 s.seq++DJ 8 s.prev++DJ 4 (u64 s.sec)) _ m7 om uX;have f5:=f 4 (u64 s.len) 32 (SO s.kind++DJ 8 s.seq++DJ 8 s.prev++DJ 4 (u64 s.sec)++DJ 4 (u64 s.idx)) _ m7 om uX;unfold Jn;rw[hk,f1,f2,f3,f4,f5,u1,u2,u3];obtain⟨k,sec,seq,prev,idx,len⟩:=s;simp only at b1 v2 v4 ⊢;rw[nH b1.1,nH v4,nH om]
 have hc:EF (A3 s data) 60 4=NT (data++(A3 s data).take 60):=by rw[ht];have:=Lk 4 (NT (data++Bc s)) (Bc s) [] 60 hcr (Cp s).symm;rw[MO]at this;exact this
 unfold Nz;rw[bf,ht,AP ⟨by rw[<-ht];exact hc,⟨v1,v2,v3,v4,v5,v6⟩,rfl⟩]
theorem U8{A:DM}(h:OH A D)(hn:∀s p,A s=some p->0<=p):GB (λ_=>none) (Bf A D) (Bf A D).length=A:=by
 have hk:(Bf A D).map (·.1)=D:=by unfold Bf;rw[WL];exact List.map_id D
 obtain⟨h1,h2⟩:=W7 (Bf A D) (λ_=>none) (by rw[hk];exact h.lt.imp λ{a b} h=>om);rw[Li];funext s;by_cases hs:s∈D
 .have:=h2 (s,HF A s) (DK.2 ⟨s,hs,rfl⟩);obtain⟨p,hp⟩:=SV.1 ((h.mem s).1 hs);have ha:HF A s=p:=by unfold HF;rw[hp];rfl
  simp only[ha]at this;rw[this,AP (hn s p hp),hp]
 .rw[h1 s (by rw[hk];exact hs)]
  cases hA:A s with
  |none=>rfl
  |some p=>exact absurd ((h.mem s).2 (by rw[hA];rfl)) hs
theorem Abo(D:Dv)(h:i≠b):(D.erase (b:Int)).1.bl i=D.bl i:=by
 unfold Dv.erase;rw[FL];repeat' split
 all_goals first|rfl|exact CB _ _ h
theorem NS.trans{X Y:Nat->Nat->Pg->Prop}(a:NS S S1 X)(k:IB S1 AB)(hn:S1.D.nb=S.D.nb)(b:NS S1 AB Y):NS S AB λi j p=>X i j p\/Y i j p:=λi j hi h1 h2=>by
 rcases PP j (S1.D.bl i).nx with h|h
 .rw[k.pg i j om h]
  exact(a i j hi h1 h).imp id .inl
 .exact(b i j om h h2).imp id .inr
theorem NS.mono{X Y:Nat->Nat->Pg->Prop}(a:NS S AB X)(h:∀b j p,b<S.D.nb->X b j p->Y b j p):NS S AB Y:=λb j h0 h1 h2=>(a b j h0 h1 h2).imp id (h b j _ h0)
def zz(S AB:Ap)(k:Bool)(all:List Nat)(r:WO)(n b j:Nat)(p:Pg):Prop:=n=b*S.D.P+j/\(r= .done n/\p=⟨2,all⟩\/r= .pow/\cZ all p/\AB.jr (b:Int)=k)
theorem GX.new{k:Bool}{all:List Nat}{r:WO}(h:GX k all S AB r):∀q:BE S,∃n,NS S AB (zz S AB k all r n):=by
 induction h with
 |stop h=>exact λq=>(q.w1 _ _).2.2.2.2
 | @more S AB r h t ih=>
  intro q;have f:=St S k all;obtain⟨a,-,-,-,_,nw⟩:=q.w1 k all;obtain⟨n,ih⟩:=ih a;obtain⟨-,kk,-⟩:=t.inv a;refine⟨n,(nw.trans kk f.nb ih).mono λb j p _ e=>?_⟩;rcases e with⟨-,⟨e,-⟩|⟨e,-⟩⟩|e;.rw[h]at e;cases e
  .rw[h]at e;cases e
  .unfold zz at e;rw[f.P]at e;exact e
theorem Agg(n:Nat)(l:List Nat)(hi:i<l.length):(Qi n l)[i]?=if i<n then l[i]? else some 255:=by
 unfold Qi;split;.rename_i h;rw[QC bm,N0 h]
 .rename_i h;rw[OB bm,List.getElem?_replicate,AP bm]
theorem cZ.dec(h:cZ (data++A3 s data) p)(hd:data.length=z):p.b=data++A3 s data\/Nz (p.b.drop z) (p.b.take z)=none:=by
 obtain⟨-,n,e⟩:=h;have hr:(A3 s data).length=64:=by unfold A3;rw[DX,Bb,Cp]
 have hl:(data++A3 s data).length=z+64:=by rw[DX,hr,hd]
 have ge:∀i,i<z+64->p.b[i]?=if i<n then(data++A3 s data)[i]? else some 255:=λi hi=>by rw[e];exact Agg n _ om
 have LA:p.b.length=z+64:=by rw[e];unfold Qi;rw[DX,IS,VA];omega
 have fin:(∀i,i<z+64->p.b[i]?=(data++A3 s data)[i]?)->p.b=data++A3 s data:=λh=>QT λi=>by
  rcases PP i (z+64)with hi|hi;.exact h i hi
  .rw[OW om,OW om]
 by_cases hn:z+64<=n;.exact .inl (fin λi hi=>by rw[ge i hi,AP om])
 cases hc:Nz (p.b.drop z) (p.b.take z)with
 |none=>exact .inr rfl
 |some EU=>
  left;unfold Nz at hc;split at hc
  .rename_i hq;obtain⟨c1,-,c3⟩:=hq;have h59:p.b[z+59]?=some 0:=(by have h1:((p.b.drop z).take 60)[59]?=some 0:=(by rw[c3];unfold Bc;rw[OB (by simp[SO,Bb])];simp[SO,Bb]);rw[N0 om,MN]at h1;exact h1);have hn2:z+60<=n:=by
    rcases PP (z+59) n with h|h;.omega
    .rw[ge _ om,AM om]at h59;cases h59
   have sY:∀i,i<z+60->p.b[i]?=(data++A3 s data)[i]?:=λi hi=>by rw[ge i om,AP om]
   have t1:p.b.take z=data:=QT λi=>by
    rcases PP i z with hi|hi;.rw[N0 hi,sY i om,QC om]
    .rw[OW bm,OW om]
   have t2:(p.b.drop z).take 60=Bc s:=QT λi=>by
    rcases PP i 60 with hi|hi;.rw[N0 hi,MN,sY _ om,OB om];unfold A3;rw[QC (by rw[Cp];omega)];congr 1;omega
    .rw[OW bm,OW (by rw[Cp];omega)]
   rw[t1,t2]at c1;have e8:NT (data++Bc s)<4294967296:=Nm _;have gd:∀i,i<4->(p.b.drop z).getD (60+i) 0=if z+60+i<n then(DJ 4 (NT (data++Bc s))).getD i 0 else 255:=λi hi=>by
    rw[MZ,MN,ge _ om,show z+(60+i)=z+60+i from om];split;.rw[OB om];unfold A3;rw[OB (by rw[Cp];omega),MZ,Cp,show z+60+i- data.length- 60=i from om]
    .rfl
   generalize oe:NT (data++Bc s)=c at*;have key:∀i,i<4->(p.b.drop z).getD (60+i) 0=(DJ 4 c).getD i 0:=by
    have b0:=gd 0 om;have b1:=gd 1 om;have b2:=gd 2 om;have b3:=gd 3 om;simp only[EF]at c1;simp only[DJ,List.getD_cons_zero,List.getD_cons_succ]at b0 b1 b2 b3;have l0:∀{x y:Nat} {P:Prop} [Decidable P],(x=if P then y else 255)->y<256->x<256:=λh hy=>by rw[h];split<;>omega
    have m0:=l0 b0 om;have m1:=l0 b1 om;have m2:=l0 b2 om;have m3:=l0 b3 om;clear b0 b1 b2 b3;intro i hi;match i,hi with
    |0,_=>show _=c%256;simp only[TV]at *;omega
    |1,_=>show _=c/256%256;simp only[Nat.reduceAdd,TV]at *;omega
    |2,_=>show _=c/256/256%256;simp only[Nat.reduceAdd,TV]at *;omega
    |3,_=>show _=c/256/256/256%256;simp only[Nat.reduceAdd,TV]at *;omega
   refine fin λi hi=>?_;rcases PP i (z+60)with h|h
   .exact sY i h
   .have k:=key (i- z- 60) om;rw[MZ,MZ,MN,show z+(60+(i- z- 60))=i from om]at k;rw[OB om];unfold A3;rw[OB (by rw[Cp];omega),Cp,oe,show i- data.length- 60=i- z- 60 from om];rw[DA (show i<p.b.length from om),DA (show i- z- 60<(DJ 4 c).length by rw[Bb];omega)]at k ⊢;exact HT some k
  .cases hc
def t7(z:Nat)(p:Pg):Prop:=p.st=2\/p.st=3->Nz (p.b.drop z) (p.b.take z)=none
def RZ(sz n:Nat)(p:Pg):Prop:=t7 sz p\/∃(sec:Int) (m:Nat) (data:List Nat),bC (data++A3 (PO sec m) data) p/\data.length=sz/\0<=sec/\sec<1000/\1<=m/\m<n
def QZ(sz:Nat)(x:LE)(p:Pg):Prop:=bC (Cg sz x.2++A3 x.1 (Cg sz x.2)) p
theorem adm(h:p.st≠2/\p.st≠3):t7 z p:=λe=>absurd e om
theorem cZ.two(h:cZ (data++A3 s data) p)(hd:data.length=z):bC (data++A3 s data) p\/t7 z p:=(h.dec hd).imp (λe=>⟨h.1,e⟩) λe _=>e
theorem IM.new{sec:Int}(h:IM sec data S AB o)(q:BE S)(hd:data.length=S.D.sz)(hs:0<=sec/\sec<1000)(h1:1<=S.next):NS S AB λ_ _ p=>RZ S.D.sz (S.next+1) p:=by
 have q1:BE {S with next:=S.next+1}:=q.nw (S.next+1) S.last S.wr (cU _);have key:∀{S1:Ap} {r:WO},GX false (data++A3 (PO sec S.next) data) {S with next:=S.next+1} S1 r->NS {S with next:=S.next+1} S1 λ_ _ p=>RZ S.D.sz (S.next+1) p:=λh=>(h.new q1).elim λ_ h=>h.mono λb j p _ e=>by
  have k:bC (data++A3 (PO sec S.next) data) p->RZ S.D.sz (S.next+1) p:=λe=> .inr ⟨sec,S.next,data,e,hd,hs.1,hs.2,h1,NQ _⟩;rcases e with⟨-,⟨-,e⟩|⟨-,e,-⟩⟩
  .exact k ⟨.inl (by rw[e]),by rw[e]⟩
  .exact(e.two hd).elim k .inl
 cases h with
 |ok h=>have r:=key h;exact r
 |bad h _=>exact key h
theorem RZ.mono{sz n Yh:Nat}(h:n<=Yh):RZ sz n p->RZ sz Yh p:=Or.imp id λ⟨s,m,d,h1,h2,h3,h4,h5,h6⟩=>⟨s,m,d,h1,h2,h3,h4,h5,om⟩
theorem EY.new{l:GV}{es:List BI}(h:EY l S es AB o):∀(q:BE S),1<=S.next->(∀s d,(s,some d)∈l->d.length=S.D.sz/\0<=s/\s<1000)->NS S AB (λ_ _ p=>RZ S.D.sz AB.next p)/\S.next<=AB.next:=by
 induction h with
 |nil=>exact λq _ _=>⟨.refl rfl,BD _⟩
 |put h r ih=>
  intro q h1 hd;obtain⟨d1,d2⟩:=hd _ _ (DW ..);obtain⟨f,-,-,fn⟩:=h.fr q.iw;obtain⟨a,-⟩:=h.inv q;obtain⟨-,kk,-⟩:=r.inv a;obtain⟨i1,i2⟩:=ih a om λs d hm=>by rw[f.sz];exact hd s d (Ck _ hm)
  rw[f.sz]at i1;exact⟨((h.new q d1 d2 h1).trans kk f.nb i1).mono λ_ _ _ _ e=>e.elim (RZ.mono om) id,om⟩
 |bad h _=>intro q h1 hd;obtain⟨d1,d2⟩:=hd _ _ (DW ..);obtain⟨f,-,-,fn⟩:=h.fr q.iw;exact⟨by rw[fn];exact h.new q d1 d2 h1,om⟩
 |trim _ _ ih=>exact λq h1 hd=>ih q h1 λs d hm=>hd s d (Ck _ hm)
 |skip _ _ ih=>exact λq h1 hd=>ih q h1 λs d hm=>hd s d (Ck _ hm)
def je(sz:Nat)(l:List LE)(S AB:Ap)(N:Nat->Prop):Prop:=∀x∈l,∃b j:Nat,b<S.D.nb/\j<(AB.D.bl b).nx/\QZ sz x ((AB.D.bl b).pg j)/\AB.jr (b:Int)=true/\¬N b
theorem LW.new{sz:Nat}{l:List LE}(h:LW sz l S AB o):∀(q:BE S) (hl:∀x∈l,4+8*x.2.length<=sz),∃Ls:List Nat,NS S AB (λb j p=>t7 sz p\/∃(i:Nat) (x:LE),l[i]?=some x/\Ls[i]?=some (b*S.D.P+j)/\QZ sz x p)/\(o≠ .done 0->Ls.length<l.length\/o= .pow/\je sz l S AB λ_=>False)/\(o= .done 0->je sz l S AB λb=>S.ps b=3):=by
 induction h with
 |nil=>exact λq _=>⟨[],.refl rfl,(λh=>absurd rfl h),λ_ x hx=>by cases hx⟩
 | @cons x r S S1 AB p o h t ih=>
  intro q hl;obtain⟨a,k1,-,e⟩:=h.inv q;have f:=h.fr;obtain⟨b,j,e1,e2,e3,e4,e5,e6,e7,e8⟩:=e p rfl;obtain⟨-,kk,-⟩:=t.inv a;obtain⟨Ls,m2,m3,m4⟩:=ih a λy hy=>hl y (Ck _ hy);obtain⟨n,nw⟩:=h.new q;have key:∀N rq:Nat->Prop,¬N b->je sz r S1 AB rq->(∀b,b<S.D.nb->¬rq b->¬N b)->je sz (x::r) S AB N:=λN rq hb hr hN y hy=>by
   rcases DD.1 hy with rfl|hy;.exact⟨b,j,e2,IF e6 (kk.nx b (by rw[f.nb];exact e2)),by rw[kk.pg b j (by rw[f.nb];exact e2) e6,e7];exact⟨.inl rfl,rfl⟩,by rw[kk.PH b (by rw[f.nb];exact e2) om];exact e5,hb⟩
   .obtain⟨b,j,g1,g2,g3,g4,g5⟩:=hr y hy;rw[f.nb]at g1;exact⟨b,j,g1,g2,g3,g4,hN b g1 g5⟩
  refine⟨n::Ls,(nw.trans kk f.nb m2).mono λb j p _ e=>?_,λho=>(m3 ho).imp (λh=>by simp only[FX];omega) λh=>⟨h.1,key _ _ id h.2 λ_ _ _=>id⟩,λho=>key _ _ (λh3=>?_) (m4 ho) λb hb g h3=>g (k1.OA b hb h3)⟩
  .rcases e with⟨e0,⟨-,e⟩|⟨e,-⟩⟩|e|⟨i,y,g1,g2,e⟩;.exact .inr ⟨0,x,rfl,by rw[e0];rfl,by rw[e];exact⟨.inl rfl,rfl⟩⟩
   .cases e
   .exact .inl e
   .rw[f.P]at g2;exact .inr ⟨i+1,y,g1,g2,e⟩
  .have:=k1.OA b e2 h3;omega
 | @bad x r S S1 o h ho=>
  intro q hl;have bX:o≠ .done 0:=λe=>by rcases ho with h|h<;>rw[h]at e<;>cases e
  have he:=Eb (hl x (DW ..));obtain⟨n,nw⟩:=h.new q;have hw:NS S S1 λb j p=>t7 sz p\/n=b*S.D.P+j/\QZ sz x p/\o= .pow/\S1.jr ((b:Nat):Int)=true:=nw.mono λb j p _ e=>by
   rcases e with⟨e0,⟨e,-⟩|⟨e1,e,g⟩⟩;.rcases ho with h|h<;>rw[h]at e<;>cases e
   .exact(e.two he).elim (λe=> .inr ⟨e0,e,e1,g⟩) .inl
  by_cases hx:∃b j:Nat,b<S.D.nb/\j<(S1.D.bl b).nx/\QZ sz x ((S1.D.bl b).pg j)/\o= .pow/\S1.jr (b:Int)=true
  .refine⟨[n],hw.mono λ_ _ p _ e=>e.imp id λe=>⟨0,x,rfl,by rw[e.1];rfl,e.2.1⟩,λ_=>?_,λe=>absurd e bX⟩
   cases r with
   |nil=>obtain⟨b,j,h1,h2,h3,h4,h5⟩:=hx;refine .inr ⟨h4,λy hy=>?_⟩;rw[EV.1 hy];exact⟨b,j,h1,h2,h3,h5,id⟩
   |cons _ _=>exact .inl W0
  .refine⟨[],λb j hb h1 h2=>(hw b j hb h1 h2).imp id λe=>e.imp id λe=>absurd ⟨b,j,hb,h2,e.2⟩ hx,λ_=> .inl (cU _),λe=>absurd e bX⟩
theorem zL{p:Prop}(h:p:=by
 rw[kk.pg b j o1 hj]at o3
 rcases q.pg b j o1 hj with n|⟨CO,h1,FB,h2,h3⟩
 .exact(n.ne o3 (ok.fit hz hn hi) hk (Ci hz.1 i) om).elim
 .have WC:=q.ok CO h1
  obtain⟨e,-⟩:=ok.vM WC hz ⟨hn,om⟩ hi h2 o3 h3
  have:=WC.n;simp only at e;omega):p:=h
section
structure Rc where
 k:Nat
 f:Nat
 p:Nat
 es:List BI
def Rc.n(z:Nat)(r:Rc):Nat:=EI z r.es.length
def Rc.pg(z:Nat)(r:Rc)(i:Nat):LE:=Dc r.k z r.f r.p r.es i
def Rc.l(z:Nat)(r:Rc):Nat:=r.f+r.n z- 1
structure Rc.Ok (m:Nat)(r:Rc):Prop where
 k:r.k=2\/r.k=3
 p:r.p<r.f
 n:r.f<m
 len:r.es.length<=20
 es:∀e∈r.es,e.Ok
theorem Rc.n1(z:Nat)(r:Rc):1<=r.n z:=jU ..
theorem Rc.Ok.mono{r:Rc}(q:r.Ok m)(h:m<=GF):r.Ok GF:=⟨q.k,q.p,IF q.n h,q.len,q.es⟩
theorem Rc.Ok.fit{r:Rc}(q:r.Ok m)(hz:12<=z/\z<=50)(hm:m<950000000)(hi:i<r.n z):(r.pg z i).1.Fit:=by have h:=q.n;have hn:=Qz (sz:=z) (n:=r.es.length) om (by have:=q.len;omega);exact U3 q.k ⟨q.p,om⟩ hi hn.2
theorem QZ.inj{x Cb:LE}(h:QZ z x p)(AA:QZ z Cb p)(q:x.1.Fit)(WC:Cb.1.Fit)(l:4+8*x.2.length<=z)(AT:4+8*Cb.2.length<=z):x.1=Cb.1:=by obtain⟨e1,e2⟩:=fS (h.2.symm.trans AA.2) (by rw[Eb l,Eb AT]);have g:=S8 (data:=Cg z x.2) q;rw[e2,e1,S8 WC]at g;exact(Za g).symm
theorem bC.dec(h:bC (data++A3 s data) p)(hd:data.length=z)(q:s.Fit):Nz (p.b.drop z) (p.b.take z)=some s:=by rw[h.2,<-hd,List.drop_left,List.take_left];exact S8 q
theorem RZ.ne{x:LE}(h:RZ z m p)(AA:QZ z x p)(q:x.1.Fit)(hk:x.1.kind=2\/x.1.kind=3)(l:4+8*x.2.length<=z)(hm:m<950000000):False:=by
 have g:=AA.dec (Eb l) q;rcases h with h|⟨sec,n,d,e,hl,h1,h2,h3,h4⟩;.rw[h AA.1]at g;cases g
 .rw[e.dec hl (Nq om om)]at g;have:=HT Sp.kind (Za g);have:(1:Nat)=x.1.kind:=this;omega
theorem Rc.Ok.vM{FB:Nat}{r CO:Rc}(q:r.Ok m)(WC:CO.Ok GF)(hz:12<=z/\z<=50)(hm:m<950000000/\GF<950000000)(hi:i<r.n z)(PX:FB<CO.n z)(h:QZ z (r.pg z i) p)(AA:QZ z (CO.pg z FB) p):r.f=CO.f/\i=FB:=by have e:=h.inj AA (q.fit hz hm.1 hi) (WC.fit hz hm.2 PX) (Ci hz.1 i) (Ci hz.1 FB);have e1:r.f+i=CO.f+FB:=HT Sp.seq e;have e2:(i:Int)=(FB:Int):=HT Sp.idx e;omega
def On(S:Ap)(b j:Nat)(x:LE):Prop:=b<S.D.nb/\j<(S.D.bl b).nx/\QZ S.D.sz x ((S.D.bl b).pg j)
def Rc.cW(S:Ap)(r:Rc):Prop:=∃i,i<r.n S.D.sz/\∀b j,¬On S b j (r.pg S.D.sz i)
def Rc.OZ(S:Ap)(N:Nat->Prop)(r:Rc):Prop:=∀i,i<r.n S.D.sz->∃b j:Nat,On S b j (r.pg S.D.sz i)/\S.jr (b:Int)=true/\¬N b
def Rc.Uq(S:Ap)(r:Rc):Prop:=∀i,i<r.n S.D.sz->∀b j AR JU,On S b j (r.pg S.D.sz i)->On S AR JU (r.pg S.D.sz i)->b=AR/\j=JU
def Zg(S AB:Ap)(Hs:List Rc):Prop:=AB.D.sz=S.D.sz/\∀r∈Hs,∀i,i<r.n S.D.sz->∀b j,On AB b j (r.pg S.D.sz i)->On S b j (r.pg S.D.sz i)
theorem Zg.abs{Hs:List Rc}(h:Zg S AB Hs){r:Rc}(hr:r∈Hs):r.cW S->r.cW AB:=λ⟨i,hi,g⟩=>by
 rw[Rc.cW,h.1];exact⟨i,hi,λb j o=>g b j (h.2 r hr i hi b j o)⟩
theorem Zg.uq{Hs:List Rc}(h:Zg S AB Hs){r:Rc}(hr:r∈Hs)(g:r.Uq S):r.Uq AB:=by unfold Rc.Uq;rw[h.1];exact λi hi b j AR JU o EG=>g i hi b j AR JU (h.2 r hr i hi b j o) (h.2 r hr i hi AR JU EG)
structure JB (S:Ap)(Hs:List Rc):Prop where
 pg:∀b j,b<S.D.nb->j<(S.D.bl b).nx->RZ S.D.sz S.next ((S.D.bl b).pg j)\/∃r∈Hs,∃i,i<r.n S.D.sz/\QZ S.D.sz (r.pg S.D.sz i) ((S.D.bl b).pg j)
 ok:∀r∈Hs,r.Ok S.next
 inj:∀r∈Hs,∀CO∈Hs,r.f=CO.f->r=CO
theorem JB.ext{Hs X:List Rc}(q:JB S Hs)(a:BE S)(kk:IB S AB)(nb:AB.D.nb=S.D.nb)(sz:AB.D.sz=S.D.sz)(nn:S.next<=AB.next/\AB.next<950000000)(hx:∀r∈X,r.Ok AB.next/\S.next<=r.f)(hX:∀r∈X,∀CO∈X,r=CO)(new:NS S AB λ_ _ p=>RZ S.D.sz AB.next p\/∃r∈X,∃i,i<r.n S.D.sz/\QZ S.D.sz (r.pg S.D.sz i) p):JB AB (X++Hs)/\Zg S AB Hs/\∀(r:Rc) (N:Nat->Prop),r.OZ S N->r.OZ AB N:=by
 have hz:=a.CT.sz;refine⟨⟨λb j hb hj=>?_,λr hr=>?_,λr hr CO HY e=>?_⟩,⟨sz,λr hr i hi b j ⟨o1,o2,o3⟩=>?_⟩,λr N hl i hi=>?_⟩
 .rw[nb]at hb;rw[sz];rcases PP j (S.D.bl b).nx with h|h
  .rw[kk.pg b j hb h];rcases q.pg b j hb h with h|⟨r,h1,h2⟩;.exact .inl (h.mono nn.1)
   .exact .inr ⟨r,Zf _ h1,h2⟩
  .rcases new b j hb h hj with h|h|⟨r,h1,h2⟩;.exact .inl (.inl (adm om))
   .exact .inl h
   .exact .inr ⟨r,TY _ h1,h2⟩
 .rcases GU.1 hr with h|h;.exact(hx r h).1
  .exact(q.ok r h).mono nn.1
 .rcases GU.1 hr with h|h<;>rcases GU.1 HY with AA|AA;.exact hX r h CO AA
  .have:=(hx r h).2;have:=(q.ok CO AA).n;omega
  .have:=(hx CO AA).2;have:=(q.ok r h).n;omega
  .exact q.inj r h CO AA e
 .rw[nb]at o1;rw[sz]at o3;have qr:=q.ok r hr;rcases PP j (S.D.bl b).nx with hj|hj;.exact⟨o1,hj,by rw[<-kk.pg b j o1 hj];exact o3⟩
  .rcases new b j o1 hj o2 with n|n|⟨CO,h1,FB,h2,h3⟩;.rcases o3.1 with e|e<;>omega
   .exact(n.ne o3 (qr.fit hz om hi) qr.k (Ci hz.1 i) nn.2).elim
   .obtain⟨e,-⟩:=qr.vM (hx CO h1).1 hz om hi h2 o3 h3;have:=(hx CO h1).2;have:=qr.n;omega
 .rw[sz]at hi ⊢;obtain⟨b,j,⟨o1,o2,o3⟩,o4,o5⟩:=hl i hi;obtain⟨AR,e1,e2,e3⟩:=a.jr _ o4;have hb:AR=b:=om
  subst hb;exact⟨AR,j,⟨by rw[nb];exact o1,IF o2 (kk.nx AR o1),by rw[kk.pg AR j o1 o2,sz];exact o3⟩,by rw[kk.PH AR o1 om];exact o4,o5⟩
theorem HO.jb{es:List BI}{Hs:List Rc}(h:HO k es S AB o)(q:JB S Hs)(a:BE S)(hk:k=2\/k=3)(hl:S.last<S.next)(hn:S.next+CF S es<950000000)(EJ:es.length<=20/\∀e∈es,e.Ok):JB AB (⟨k,S.next,S.last,es⟩::Hs)/\Zg S AB Hs/\(∀(r:Rc) (N:Nat->Prop),r.OZ S N->r.OZ AB N)/\Rc.Uq AB ⟨k,S.next,S.last,es⟩/\(o≠ .done 0->Rc.cW AB ⟨k,S.next,S.last,es⟩\/o= .pow/\Rc.OZ AB (λ_=>False) ⟨k,S.next,S.last,es⟩)/\(o= .done 0->Rc.OZ AB (λb=>S.ps b=3) ⟨k,S.next,S.last,es⟩/\AB.last=S.next+CF S es- 1)/\AB.next=S.next+CF S es:=by
 have a1:BE {S with next:=S.next+CF S es}:=a.nw (S.next+CF S es) S.last S.wr (EM a.n0 (OC _ _));have hz:=a.CT.sz;have MV:1<=CF S es:=jU ..;have ok:Rc.Ok (S.next+CF S es) ⟨k,S.next,S.last,es⟩:=⟨hk,hl,by simp only;omega,EJ.1,EJ.2⟩;have hL:∀{i:Nat} {x:LE},(Ed k S es)[i]?=some x->i<CF S es/\x=Rc.pg S.D.sz ⟨k,S.next,S.last,es⟩ i:=λ{i x} hx=>by obtain⟨hi,e⟩:=FE.1 hx;unfold Ed Ks at hi e;rw[DC,ZY]at hi;rw[fQ,List.getElem_range]at e;exact⟨hi,e.symm⟩
 have hlen:(Ed k S es).length=CF S es:=by unfold Ed Ks;rw[DC,ZY]
 have RH:∀x∈Ed k S es,4+8*x.2.length<=S.D.sz:=λx hx=>by obtain⟨i,hi⟩:=UZ.1 hx;obtain⟨-,rfl⟩:=hL hi;exact Ci hz.1 i
 have key:∀{S1:Ap} {o:WO},LW S.D.sz (Ed k S es) {S with next:=S.next+CF S es} S1 o->S1.next=S.next+CF S es/\(JB S1 (⟨k,S.next,S.last,es⟩::Hs)/\Zg S S1 Hs/\(∀(r:Rc) (N:Nat->Prop),r.OZ S N->r.OZ S1 N))/\Rc.Uq S1 ⟨k,S.next,S.last,es⟩/\(o≠ .done 0->Rc.cW S1 ⟨k,S.next,S.last,es⟩\/o= .pow/\Rc.OZ S1 (λ_=>False) ⟨k,S.next,S.last,es⟩)/\
   (o= .done 0->Rc.OZ S1 (λb=>S.ps b=3) ⟨k,S.next,S.last,es⟩):=by
  intro S1 o h
  obtain⟨b1,kk,-⟩:=h.inv a1
  have f:=(h.fr a1.iw).1
  have kk:IB S S1:=⟨kk.nx,kk.pg,kk.OA,kk.UR,kk.PH,kk.n1,EM (OC _ _) kk.nt⟩
  obtain⟨Ls,m2,m3,m4⟩:=h.new a1 RH
  have m2:NS S S1 λb j p=>t7 S.D.sz p\/∃(i:Nat) (x:LE),(Ed k S es)[i]?=some x/\Ls[i]?=some (b*S.D.P+j)/\QZ S.D.sz x p:=m2
  have fn:S1.next=S.next+CF S es:=f.next
  have mR:∀N,je S.D.sz (Ed k S es) {S with next:=S.next+CF S es} S1 N->Rc.OZ S1 N ⟨k,S.next,S.last,es⟩:=λN h i hi=>by
   rw[f.sz]at hi ⊢
   have FO:Rc.pg S.D.sz ⟨k,S.next,S.last,es⟩ i∈Ed k S es:=DK.2 ⟨i,KI.2 hi,rfl⟩
   obtain⟨b,j,g1,g2,g3,g4,g5⟩:=h _ FO
   exact⟨b,j,⟨by rw[f.nb];exact g1,g2,by rw[f.sz];exact g3⟩,g4,g5⟩
  have loc:∀i,i<CF S es->∀b j,On S1 b j (Rc.pg S.D.sz ⟨k,S.next,S.last,es⟩ i)->Ls[i]?=some (b*S.D.P+j):=λi hi b j ⟨o1,o2,o3⟩=>by
   rw[f.nb]at o1
   rw[f.sz]at o3
   rcases PP j (S.D.bl b).nx with hj|hj
   .exact zL
   .rcases m2 b j o1 hj o2 with n|n|⟨FB,x,hx,hL',n⟩
    .rcases o3.1 with e|e<;>omega
    .have g:=o3.dec (Eb (Ci hz.1 i)) (ok.fit hz hn hi)
     rw[n o3.1]at g;cases g
    .obtain⟨YO,rfl⟩:=hL hx
     obtain⟨-,e⟩:=ok.vM ok hz ⟨hn,hn⟩ hi YO o3 n
     rw[e];exact hL'
  refine⟨fn,?_,?_,λho=>(m3 ho).imp (λhm=>?_) (And.imp_right (mR _)),λho=>mR _ (m4 ho)⟩
  .refine q.ext (X:=[⟨k,S.next,S.last,es⟩]) a kk f.nb f.sz ⟨om,om⟩ (λr hr=>?_) (λr hr CO HY=>by rw[EV.1 hr,EV.1 HY]) (m2.mono λb j p _ e=>e.imp .inl λ⟨i,x,hx,_,e⟩=>?_)
   .rw[EV.1 hr,fn];exact⟨ok,BD _⟩
   .obtain⟨hi,rfl⟩:=hL hx
    exact⟨_,aq _,i,hi,e⟩
  .unfold Rc.Uq
   rw[f.sz]
   intro i hi b j AR JU o EG
   have e:=(loc i hi b j o).symm.trans (loc i hi AR JU EG)
   have h1:=b1.LB b o.1
   have h2:=b1.LB AR EG.1
   have h3:=o.2.1
   have h4:=EG.2.1
   have fP:S1.D.P=S.D.P:=f.P
   rw[fP]at h1 h2
   exact Id om om (Za e)
  .rw[Rc.cW,f.sz]
   rw[hlen]at hm
   refine⟨Ls.length,hm,λb j o=>?_⟩
   have:=loc _ hm b j o
   rw[OW (BD _)]at this;cases this
 cases h with
 | @ok S1 h=>obtain⟨fn,⟨j1,j2,j3⟩,ju,-,j5⟩:=key h;exact⟨⟨j1.pg,j1.ok,j1.inj⟩,j2,j3,ju,(λho=>absurd rfl ho),(λho=>⟨j5 ho,rfl⟩),fn⟩
 |bad h ho=>obtain⟨fn,⟨j1,j2,j3⟩,ju,j4,-⟩:=key h;exact⟨j1,j2,j3,ju,j4,(λe=>by rcases ho with h|h<;>rw[h]at e<;>cases e),fn⟩
def Rh(z n:Nat):List Rc->Nat->Prop
 | [],m=>m=n
 |r::l,m=>r.k=2/\r.p=n/\Rh z (r.l z) l m
theorem Rh.snoc{z m:Nat}{r:Rc}(hk:r.k=2)(hp:r.p=m):∀{l:List Rc} {n:Nat},Rh z n l m->Rh z n (l++[r]) (r.l z)
 | [],n,h=>⟨hk,hp.trans h,rfl⟩
 |x::l,n,h=>⟨h.1,h.2.1,Rh.snoc hk hp h.2.2⟩
def bB(z:Nat)(Cs:List Rc)(m:Nat):Prop:=Rh z 0 Cs m\/∃c l,Cs=c::l/\c.k=3/\Rh z (c.l z) l m
theorem bB.snoc{z m:Nat}{r:Rc}{l:List Rc}(hk:r.k=2)(hp:r.p=m)(h:bB z l m):bB z (l++[r]) (r.l z):=h.imp (Rh.snoc hk hp) λ⟨c,t,e,hc,hf⟩=>⟨c,t++[r],by rw[e];rfl,hc,hf.snoc hk hp⟩
def Zl(S:Ap)(s p:Int):Prop:=∃(b j n:Nat) (data:List Nat),p=((b*S.D.P+j:Nat):Int)/\b<S.D.nb/\j<S.D.P/\j<(S.D.bl b).nx/\(S.D.bl b).pg j=⟨2,data++A3 (PO s n) data⟩/\data.length=S.D.sz/\1<=n/\n<S.next
theorem Zl.JH{s p:Int}(q:Zl S s p)(k:IB S AB)(sm:Sm S AB):Zl AB s p:=by obtain⟨b,j,n,d,h1,h2,h3,h6,h7,h8,h9,ha⟩:=q;exact⟨b,j,n,d,by rw[sm.P];exact h1,by rw[sm.nb];exact h2,by rw[sm.P];exact h3,IF h6 (k.nx b h2),by rw[k.pg b j h2 h6];exact h7,by rw[sm.sz];exact h8,h9,IF ha k.nt⟩
theorem PU.mp{s p:Int}(q:PU S s data p)(h:data.length=S.D.sz):Zl S s p:=
 let⟨b,j,n,h1,h2,h3,_,_,h6,h7,h8⟩:=q.ex;⟨b,j,n,data,h1,h2,h3,h6,h7,h,h8⟩
def QU(S T:Nat)(A:DM)(l:List BI):Prop:=∀j x,l[j]?=some x->QO S T (GB A l j) x
theorem QU.app{S T:Nat}{A:DM}{l es:List BI}(h:QU S T A l)(h2:QU S T (l.foldl C9 A) es):QU S T A (l++es):=λj x hx=>by
 rcases PP j l.length with hj|hj
 .rw[QC hj]at hx
  have:=h j x hx
  unfold GB at this ⊢
  rwa[qw om]
 .rw[OB hj]at hx
  have:=h2 _ x hx
  unfold GB at this ⊢
  rwa[List.take_append,LN hj,jP]
structure GI (S:Ap)(Hs Cs:List Rc):Prop extends JB S Hs where
 sub:∀r∈Cs,r∈Hs
 live:∀r∈Cs,r.OZ S λ_=>False
 uq:∀r∈Cs,r.Uq S
 rest:∀r∈Hs,r∈Cs\/(∃c,Cs.head?=some c/\c.k=3/\r.f<c.f)\/r.cW S
 Vv:bB S.D.sz Cs S.last
 ZU:S.A=(Cs.flatMap Rc.es).foldl C9 λ_=>none
 ap:QU S.S (S.D.nb*S.D.P) (λ_=>none) (Cs.flatMap Rc.es)
 map:∀s p,S.A s=some p->Zl S s p
def JS(S:Ap):Prop:=∃Hs Cs,GI S Hs Cs
def VG(AB:Ap)(o:WO)(V:Ap->Prop):Prop:=∃DH AT,BE {AB with A:=DH,last:=AT}/\JS {AB with A:=DH,last:=AT}/\AT<AB.next/\(o≠ .pow->DH=AB.A/\AT=AB.last)/\V {AB with A:=DH,last:=AT}
theorem VG.rf{V:Ap->Prop}(a:BE AB)(q:JS AB)(h:AB.last<AB.next)(v:V AB):VG AB o V:=⟨AB.A,AB.last,a,q,h,λ_=>⟨rfl,rfl⟩,v⟩
theorem GI.HG{Hs Cs:List Rc}(q:GI S Hs Cs)(a:BE S)(kk:IB S AB)(sm:Sm S AB)(hA:AB.A=S.A)(hl:AB.last=S.last)(nn:S.next<=AB.next/\AB.next<950000000)(new:NS S AB λ_ _ p=>RZ S.D.sz AB.next p):GI AB Hs Cs:=by obtain⟨j1,j2,j3⟩:=q.toJB.ext (X:=[]) a kk sm.nb sm.sz nn (λ_ h=>by cases h) (λ_ h=>by cases h) (new.mono λ_ _ _ _ h=> .inl h);exact⟨j1,q.sub,λr hr=>j3 r _ (q.live r hr),λr hr=>j2.uq (q.sub r hr) (q.uq r hr),λr hr=>(q.rest r hr).imp id (·.imp id (j2.abs hr)),by rw[sm.sz,hl];exact q.Vv,hA.trans q.ZU,by rw[sm.CZ,sm.nb,sm.P];exact q.ap,λs p h=>(q.map s p (by rw[<-hA];exact h)).JH kk sm⟩
theorem GI.add{Hs Cs:List Rc}{es:List BI}(q:GI S Hs Cs)(j1:JB S1 (⟨2,S.next,S.last,es⟩::Hs))(j2:Zg S S1 Hs)(ju:Rc.Uq S1 ⟨2,S.next,S.last,es⟩)(j3:∀(r:Rc) (N:Nat->Prop),r.OZ S N->r.OZ S1 N)(j4:Rc.OZ S1 (λ_=>False) ⟨2,S.next,S.last,es⟩)(kk:IB S S1)(sm:Sm S S1)(hl:AT=S.next+CF S es- 1)(ok:QU S.S (S.D.nb*S.D.P) S.A es)(hp:∀e∈es,0<=e.2->Zl S e.1 e.2):GI {S1 with A:=GB S.A es es.length,last:=AT} (⟨2,S.next,S.last,es⟩::Hs) (Cs++[⟨2,S.next,S.last,es⟩]):=by
 refine⟨⟨j1.pg,j1.ok,j1.inj⟩,λr hr=>?_,λr hr=>?_,λr hr=>?_,λr hr=>?_,?_,?_,?_,λs p h=>?_⟩
 .rcases GU.1 hr with hr|hr;.exact Ck _ (q.sub r hr)
  .rw[EV.1 hr];exact DW ..
 .rcases GU.1 hr with hr|hr;.exact j3 r _ (q.live r hr)
  .rw[EV.1 hr];exact j4
 .rcases GU.1 hr with hr|hr;.exact j2.uq (q.sub r hr) (q.uq r hr)
  .rw[EV.1 hr];exact ju
 .rcases DD.1 hr with rfl|hr;.exact .inl (Zf _ (aq _))
  .rcases q.rest r hr with h|⟨c,h,h2⟩|h;.exact .inl (TY _ h)
   .exact .inr (.inl ⟨c,by rw[List.head?_append,h];rfl,h2⟩)
   .exact .inr (.inr (j2.abs hr h))
 .show bB S1.D.sz _ AT;rw[sm.sz,hl];exact q.Vv.snoc (r:=⟨2,S.next,S.last,es⟩) rfl rfl
 .show GB S.A es es.length=_;rw[Li,q.ZU,OX,jP];simp
 .show QU S1.S (S1.D.nb*S1.D.P) _ _;rw[sm.CZ,sm.nb,sm.P,OX];exact q.ap.app (by rw[<-q.ZU];simpa using ok)
 .have h:GB S.A es es.length s=some p:=h;have key:Zl S1 s p:=by
   rcases F2 _ s p h with h|⟨j,e,_,e1,e2,e3,e4⟩;.exact(q.map s p h).JH kk sm
   .rw[<-e2,<-e3];exact(hp e (I4 e1) om).JH kk sm
  exact key
theorem HU.pV{es:List BI}{Hs Cs:List Rc}(h:HU es S AB o)(q:GI S Hs Cs)(a:BE S)(hl:S.last<S.next)(hn:S.next+CF S es<950000000)(EJ:es.length<=20/\∀e∈es,e.Ok)(ok:QU S.S (S.D.nb*S.D.P) S.A es)(hp:∀e∈es,0<=e.2->∃data,PU S e.1 data e.2/\data.length=S.D.sz):VG AB o λT=>T.A=AB.A\/o= .pow/\T.A=GB S.A es es.length:=by
 have hg:∀e∈es,0<=e.2->∃data,PU S e.1 data e.2:=λe he h0=>let⟨d,h,_⟩:=hp e he h0;⟨d,h⟩;have hm:∀e∈es,0<=e.2->Zl S e.1 e.2:=λe he h0=>let⟨d,h,AA⟩:=hp e he h0;h.mp AA;obtain⟨ai,kk,-⟩:=h.inv a ok hg
 cases h with
 |nil _=>exact .rf a ⟨_,_,q⟩ hl (.inl rfl)
 | @bad S1 o _ h ho=>
  obtain⟨j1,j2,j3,ju,j4,-,jn⟩:=h.jb q.toJB a (.inl rfl) hl hn EJ;have f:=(h.fr a.iw).1;have bX:o≠ .done 0:=λe=>by rcases ho with h|h<;>rw[h]at e<;>cases e
  have gZ:AB.last=S.last:=by
   cases h with
   |ok _=>exact absurd rfl bX
   |bad h _=>exact(h.fr (a.nw (S.next+CF S es) S.last S.wr (EM a.n0 (OC _ _))).iw).1.last
  have MV:1<=CF S es:=jU ..;rcases j4 bX with g|⟨rfl,g⟩
  .exact .rf ai ⟨_,_,j1,λr hr=>Ck _ (q.sub r hr),λr hr=>j3 r _ (q.live r hr),λr hr=>j2.uq (q.sub r hr) (q.uq r hr),λr hr=>by
    rcases DD.1 hr with rfl|hr;.exact .inr (.inr g)
    .exact(q.rest r hr).imp id (·.imp id (j2.abs hr)),by rw[f.sz,gZ];exact q.Vv,f.A.trans q.ZU,by rw[f.CZ,f.nb,f.P];exact q.ap,λs p h=>(q.map s p (by rw[<-f.A];exact h)).JH kk f.sm⟩ om (.inl rfl)
  .refine⟨_,S.next+CF S es- 1,?_,⟨_,_,q.add j1 j2 ju j3 g kk f.sm rfl ok hm⟩,om,(λh=>absurd rfl h),.inr ⟨rfl,rfl⟩⟩;have:=(ai.app (es:=es) (by rw[f.CZ,f.nb,f.P,f.A];exact ok) λe he h0=>let⟨d,h⟩:=hg e he h0;⟨d,h.JH kk f.P f.nb⟩).nw AB.next (S.next+CF S es- 1) AB.wr ai.n0;rw[f.A]at this;exact this
 | @ok S1 h BZ=>obtain⟨j1,j2,j3,ju,-,j5,jn⟩:=h.jb q.toJB a (.inl rfl) hl hn EJ;obtain⟨-,k1,-⟩:=h.inv a;have f:=(h.fr a.iw).1;have MV:1<=CF S es:=jU ..;obtain⟨g1,g2⟩:=j5 rfl;have:=q.add j1 j2 ju j3 (λi hi=>let⟨b,j,e1,e2,_⟩:=g1 i hi;⟨b,j,e1,e2,id⟩) k1 f.sm g2 ok hm;rw[<-f.A]at this;exact .rf ai ⟨_,_,this⟩ (by show S1.last<S1.next;omega) (.inl rfl)
theorem EY.eok{l:GV}{es:List BI}(h:EY l S es AB o)(q:BE S)(hS:S.S<=12)(hr:∀y∈l,0<=y.1/\y.1<(S.S:Int)):∀e∈es,e.Ok:=λe he=>by
 obtain⟨⟨y,hy,e1⟩,e2⟩:=h.es q e he
 have h1:=hr y hy
 have hP:=q.CT.P
 have hb:=q.CT.nb
 refine⟨om,?_⟩
 rcases e2 with e2|⟨b,j,e2,g1,g2,-⟩
 .omega
 .have:=NB (show b<=44 from om) (show S.D.P<=6 from om)
  omega
theorem LU.mq{l:GV}(h:LU l S AB o)(a:BE S)(bd:Bd S k)(hk:k<900000000)(hS:S.S<=12)(hl:l.length<=12)(hr:∀y∈l,0<=y.1/\y.1<(S.S:Int))(HA:(l.map (·.1)).Nodup)(hd:∀s d,(s,some d)∈l->d.length=S.D.sz/\0<=s/\s<S.S)(q:JS S):VG AB o λT=>(∀s,T.rd s=S.rd s)/\o≠ .done 0\/ng l S T/\(o= .done 0\/o= .pow):=by
 obtain⟨Hs,Cs,q⟩:=q;have h1:1<=S.next:=by have:=bd.last;omega
 have key:∀{S1:Ap} {es:List BI} {o:WO},EY l S es S1 o->GI S1 Hs Cs/\BE S1/\IB S S1/\PT S S1/\Bd S1 (k+100*l.length)/\(∀e∈es,0<=e.2->∃d,(e.1,some d)∈l/\PU S1 e.1 d e.2/\d.length=S1.D.sz)/\es.length<=20/\∀e∈es,e.Ok:=λh=>by obtain⟨b,kk,f,-⟩:=h.inv a;obtain⟨n1,n2⟩:=h.new a h1 λs d hm=>let⟨g1,g2,g3⟩:=hd s d hm;⟨g1,g2,om⟩;have b1:=h.bd a.iw a.CT.nb.2 bd;have:=b1.nx;have hle:=h.len;refine⟨q.HG a kk f.sm f.A f.last ⟨n2,om⟩ n1,b,kk,f,b1,λe he h0=>?_,om,h.eok a hS hr⟩;obtain⟨d,g1,g2⟩:=h.pg a e he h0;exact⟨d,g1,g2,by rw[f.sz];exact(hd _ _ g1).1⟩
 have cm:∀{S1 S2:Ap} {es:List BI} {o:WO},EY l S es S1 (.done 0)->HU es S1 S2 o->VG S2 o λT=>(∀s,T.rd s=S.rd s)/\o≠ .done 0\/ng l S T/\(o= .done 0\/o= .pow):=λ{S1 S2 es o} h c=>by
  obtain⟨j1,b,kk,f,b1,pg,EJ⟩:=key h;have:=Gr (S:=S1) (es:=es) (by rw[f.sz];exact a.CT.sz.1);have:=b1.nx;have ok:QU S1.S (S1.D.nb*S1.D.P) S1.A es:=by unfold QU;rw[f.CZ,f.nb,f.P,f.A];exact h.ok a hr
  obtain⟨DH,AT,t1,t2,t3,t4,t5⟩:=c.pV j1 b b1.last om EJ ok λe he h0=>let⟨d,_,g⟩:=pg e he h0;⟨d,g⟩;obtain⟨-,k2,-,c2,c3⟩:=c.inv b ok λe he h0=>let⟨d,_,g,_⟩:=pg e he h0;⟨d,g⟩;have sm:=c.sm b.iw;have k3:=kk.trans k2 f.nb;have ac7:IB S {S2 with A:=DH,last:=AT}:=⟨k3.nx,k3.pg,k3.OA,k3.UR,k3.PH,k3.n1,k3.nt⟩;have s3:=f.sm.trans sm;have sT:Sm S {S2 with A:=DH,last:=AT}:=⟨s3.nb,s3.P,s3.sz,s3.en,s3.CZ⟩;have fin:DH=GB S1.A es es.length->ng l S {S2 with A:=DH,last:=AT}:=λe=>h.qh a ac7 sT (by show DH=_;rw[e,f.A]) (λe he h0=>by obtain⟨d,g1,g2,-⟩:=pg e he h0;exact⟨d,g1,g2.JH (AB:={S2 with A:=DH,last:=AT}) ⟨k2.nx,k2.pg,k2.OA,k2.UR,k2.PH,k2.n1,k2.nt⟩ sm.P sm.nb⟩) HA λs d hm=>(hd s d hm).1;refine⟨DH,AT,t1,t2,t3,t4,?_⟩;rcases t5 with e|⟨hp,e⟩
  .have e:DH=S2.A:=e;by_cases ho:o= .done 0;.exact .inr ⟨fin (e.trans (c3 ho)),.inl ho⟩
   .exact .inl ⟨λs=>Gq a ac7 ⟨sT.P,sT.sz⟩ (congrFun (e.trans ((c2 ho).trans f.A)) s),ho⟩
  .exact .inr ⟨fin e,.inr hp⟩
 cases h with
 |ok h c=>exact cm h c
 |bad h ho=>obtain⟨j1,b,kk,f,b1,-⟩:=key h;exact .rf b ⟨_,_,j1⟩ b1.last (.inl ⟨λs=>Gq a kk ⟨f.P,f.sz⟩ (by rw[f.A]),λe=>by rcases ho with h|h<;>rw[h]at e<;>cases e⟩)
 |WX h c _=>exact cm h c
theorem FG.new{ps:List Int}{es:List BI}(h:FG (FZ S.A) S ps es S1)(q:BE S)(ok:S.D.Ok)(hS:S.S<=12)(h1:1<=S.next)(hm:∀p∈ps,∃s,S.A s=some p):NS S S1 (λ_ _ p=>RZ S.D.sz S1.next p)/\S.next<=S1.next:=by
 generalize hg:FZ S.A=g at h;induction h with
 |nil=>exact⟨.refl rfl,BD _⟩
 | @snoc S1 S2 ps es p WC r h ih=>
  obtain⟨s,hs⟩:=hm p W0;obtain⟨a,kk,f,-⟩:=r.inv q;obtain⟨i1,i2⟩:=ih (λp hp=>hm p (TY _ hp));obtain⟨-,k2,-⟩:=h.inv a;obtain⟨-,-,-,fn⟩:=h.fr a.iw;obtain⟨r1,r2,-⟩:=q.map s p hs;have:=h.new a ?_ ?_ om;.rw[f.sz]at this;exact⟨(i1.trans k2 f.nb this).mono λ_ _ _ _ e=>e.elim (RZ.mono om) (by rw[fn];exact id),om⟩
  .have:=Sz q kk f hs;unfold Ap.Yk at this;rw[this];have h2:=Mj hs;unfold Ap.Yk at h2;rw[h2,Sy q ok,f.sz]
  .rw[<-hg,Fp hs q.inj];omega
theorem xM(S:Ap)(b:Nat):(∀i,i≠b->(S.BV b).1.D.bl i=S.D.bl i)/\((S.BV b).1.D.bl b=S.D.bl b\/∀j,j<((S.BV b).1.D.bl b).nx->(((S.BV b).1.D.bl b).pg j).st=5)/\(S.BV b).1.last=S.last/\(S.BV b).1.next=S.next:=by
 have hE:((S.D.erase (b:Int)).1.bl b=S.D.bl b\/∀j,j<((S.D.erase (b:Int)).1.bl b).nx->(((S.D.erase (b:Int)).1.bl b).pg j).st=5):=by
  unfold Dv.erase;rw[FL];repeat' split
  all_goals first
   |exact .inl rfl
   |(refine .inr λj hj=>?_;show((AX S.D.bl b _ b).pg j).st=5;rw[Am];rfl)
   |(refine .inr λj hj=>?_;have hj:j<(AX S.D.bl b _ b).nx:=hj;rw[Am]at hj;exact absurd hj (OD j))
 unfold Ap.BV;split;.exact⟨λ_ _=>rfl,.inl rfl,rfl,rfl⟩
 .repeat' split
  all_goals exact⟨λi hi=>Abo _ hi,hE,rfl,rfl⟩
theorem GI.BV{f:Int->Bool}{N:Nat->Prop}{Hs Cs:List Rc}(q:GI S Hs Cs)(hf:∀i:Nat,i≠b->f (i:Int)=S.jr (i:Int))(hN:N b)(hl:∀r∈Cs,r.OZ S N)(hm:∀s p,S.A s=some p->∀j:Nat,j<S.D.P->p≠((b*S.D.P+j:Nat):Int)):GI {(S.BV b).1 with jr:=f} Hs Cs/\∀r∈Cs,r.OZ {(S.BV b).1 with jr:=f} N:=by
 obtain⟨d1,d2,d3,d4⟩:=xM S b;have sm:=Jm S b;have hA:=Aub S b;have old:∀i j,j<((S.BV b).1.D.bl i).nx->((S.BV b).1.D.bl i).pg j=(S.D.bl i).pg j/\j<(S.D.bl i).nx\/(((S.BV b).1.D.bl i).pg j).st=5:=λi j hj=>by
  by_cases e:i=b
  .subst e;rcases d2 with d2|d2;.rw[d2]at hj ⊢;exact .inl ⟨rfl,hj⟩
   .exact .inr (d2 j hj)
  .rw[d1 i e]at hj ⊢;exact .inl ⟨rfl,hj⟩
 have mR:∀r∈Cs,r.OZ {(S.BV b).1 with jr:=f} N:=λr hr i hi=>by
  have hi:i<r.n (S.BV b).1.D.sz:=hi;rw[sm.sz]at hi;obtain⟨AR,j,⟨o1,o2,o3⟩,o4,o5⟩:=hl r hr i hi;have BZ:AR≠b:=λe=>o5 (by rw[e];exact hN);refine⟨AR,j,⟨?_,?_,?_⟩,(hf AR BZ).trans o4,o5⟩;.show AR<(S.BV b).1.D.nb;rw[sm.nb];exact o1
  .show j<((S.BV b).1.D.bl AR).nx;rw[d1 AR BZ];exact o2
  .show QZ (S.BV b).1.D.sz (r.pg (S.BV b).1.D.sz i) (((S.BV b).1.D.bl AR).pg j);rw[d1 AR BZ,sm.sz];exact o3
 have bk:Zg S {(S.BV b).1 with jr:=f} Hs:=⟨sm.sz,λr hr i hi AR j ⟨o1,o2,o3⟩=>by
  have o1:AR<(S.BV b).1.D.nb:=o1;have o2:j<((S.BV b).1.D.bl AR).nx:=o2;have o3:QZ (S.BV b).1.D.sz (r.pg S.D.sz i) (((S.BV b).1.D.bl AR).pg j):=o3;rw[sm.nb]at o1;rw[sm.sz]at o3;rcases old AR j o2 with⟨e,NI⟩|e;.exact⟨o1,NI,by rw[<-e];exact o3⟩
  .rcases o3.1 with g|g<;>omega⟩
 refine⟨⟨⟨λi j hi hj=>?_,?_,q.inj⟩,q.sub,λr hr i hi=>let⟨b,j,e1,e2,_⟩:=mR r hr i hi;⟨b,j,e1,e2,id⟩,λr hr=>bk.uq (q.sub r hr) (q.uq r hr),λr hr=>(q.rest r hr).imp id (Or.imp id (bk.abs hr)),?_,hA.trans q.ZU,?_,λs p h=>?_⟩,mR⟩
 .have hi:i<(S.BV b).1.D.nb:=hi;have hj:j<((S.BV b).1.D.bl i).nx:=hj;rw[sm.nb]at hi;show RZ (S.BV b).1.D.sz (S.BV b).1.next (((S.BV b).1.D.bl i).pg j)\/∃r∈Hs,∃FB,FB<r.n (S.BV b).1.D.sz/\QZ (S.BV b).1.D.sz (r.pg (S.BV b).1.D.sz FB) (((S.BV b).1.D.bl i).pg j);rw[sm.sz,d4];rcases old i j hj with⟨e,NI⟩|e;.rw[e];exact q.pg i j hi NI
  .exact .inl (.inl (adm om))
 .show∀r∈Hs,r.Ok (S.BV b).1.next;rw[d4];exact q.ok
 .show bB (S.BV b).1.D.sz Cs (S.BV b).1.last;rw[sm.sz,d3];exact q.Vv
 .show QU (S.BV b).1.S ((S.BV b).1.D.nb*(S.BV b).1.D.P) _ _;rw[sm.CZ,sm.nb,sm.P];exact q.ap
 .have hs:(S.BV b).1.A s=some p:=h;rw[hA]at hs;obtain⟨i,j,n,d,e1,e2,e3,e4,e5,e6,e7⟩:=q.map s p hs;have BZ:i≠b:=λe=>hm s p hs j e3 (by rw[<-e];exact e1);refine⟨i,j,n,d,?_,?_,?_,?_,?_,?_,e7.1,?_⟩;.show p=((i*(S.BV b).1.D.P+j:Nat):Int);rw[sm.P];exact e1
  .show i<(S.BV b).1.D.nb;rw[sm.nb];exact e2
  .show j<(S.BV b).1.D.P;rw[sm.P];exact e3
  .show j<((S.BV b).1.D.bl i).nx;rw[d1 i BZ];exact e4
  .show((S.BV b).1.D.bl i).pg j=_;rw[d1 i BZ];exact e5
  .show d.length=(S.BV b).1.D.sz;rw[sm.sz];exact e6
  .show n<(S.BV b).1.next;rw[d4];exact e7.2
theorem NE.mq(h:NE b S AB o)(a:BE S)(ok:S.D.Ok)(bd:Bd S k)(hk:k<900000000)(hS:S.S<=12)(hb:b<S.D.nb)(h3:S.ps b=3)(hj:S.jr (b:Int)=false)(q:JS S):VG AB o λT=>∀s,T.rd s=S.rd s:=by
 obtain⟨Hs,Cs,q⟩:=q;obtain⟨fa,-,fb,-,fr⟩:=h.inv a ok bd hb h3 hj;have h1:1<=S.next:=by have:=bd.last;omega
 have hz:=a.CT.sz;have hP:=a.CT.P;have FT:=a.CT.nb;have hlen:=ga (S:=S) (b:=b);have key:∀{S1:Ap} {ps:List Int} {es:List BI},FG (FZ S.A) S ps es S1->(∀p∈ps,p∈S.mv b)->ps.length<=6->GI S1 Hs Cs/\BE S1/\IB S S1/\PT S S1/\Bd S1 (k+600)/\es.length=ps.length:=λm hp hl=>by obtain⟨b1,kk,f,-⟩:=m.inv a;obtain⟨n1,n2⟩:=m.new a ok hS h1 λp h=>FG.hm p (hp p h);obtain⟨bb,EJ⟩:=m.bd a bd;have bb:=bb.mono (show _<=k+600 from om);have:=bb.nx;exact⟨q.HG a kk f.sm f.A f.last ⟨n2,om⟩ n1,b1,kk,f,bb,EJ⟩
 have cm:∀{S1 S2:Ap} {es:List BI} {o:WO},FG (FZ S.A) S (S.mv b) es S1->HU es S1 S2 o->VG S2 o λT=>∀s,T.rd s=S.rd s:=λ{S1 S2 es o} m c=>by
  obtain⟨j1,b1,kk,f,bb,EJ⟩:=key m (λp h=>h) om;obtain⟨-,e2,-⟩:=m.es a FG.hm;have hr:CF S1 es<=es.length+1:=Gr (by rw[f.sz];exact hz.1);have:=bb.nx;have pg:∀e∈es,∃d,PU S1 e.1 d e.2/\d.length=S1.D.sz/\e.Ok:=λe he=>by obtain⟨p,g1,g2,g0,i,j,g3,g4,g5,-⟩:=e2 e he;obtain⟨s,hs⟩:=FG.hm p g1;refine⟨_,by rw[g2];exact g0,by rw[f.sz,Mj hs];exact Sy a ok s,?_⟩;rw[Fp hs a.inj]at g2;obtain⟨r1,r2,-⟩:=a.map s p hs;have:=NB (show i<=44 from om) (show S.D.P<=6 from om);exact⟨om,om⟩
  have ok1:QU S1.S (S1.D.nb*S1.D.P) S1.A es:=by unfold QU;rw[f.CZ,f.nb,f.P,f.A];exact m.ok a
  obtain⟨DH,AT,t1,t2,t3,t4,t5⟩:=c.pV j1 b1 bb.last om ⟨om,λe he=>let⟨_,_,_,h⟩:=pg e he;h⟩ ok1 λe he _=>let⟨d,h,AA,_⟩:=pg e he;⟨d,h,AA⟩;obtain⟨-,k3,s3,-,c2,c3⟩:=m.cm c a ok;obtain⟨-,k2,-⟩:=c.inv b1 ok1 λe he _=>let⟨d,h,_⟩:=pg e he;⟨d,h⟩;have s2:=c.sm b1.iw;refine⟨DH,AT,t1,t2,t3,t4,?_⟩;rcases t5 with e|⟨-,e⟩
  .have e:DH=S2.A:=e;subst e;by_cases ho:o= .done 0;.exact(c3 ho).1
   .exact λs=>Gq a (AB:={S2 with last:=AT}) ⟨k3.nx,k3.pg,k3.OA,k3.UR,k3.PH,k3.n1,k3.nt⟩ ⟨s3.P,s3.sz⟩ (congrFun (c2 ho) s)
  .exact(m.qh (S2:={S2 with A:=DH,last:=AT}) ⟨k2.nx,k2.pg,k2.OA,k2.UR,k2.PH,k2.n1,k2.nt⟩ ⟨s2.nb,s2.P,s2.sz,s2.en,s2.CZ⟩ a ok e).1
 cases h with
 | @bad S1 _ i p es _ m hp h _=>
  obtain⟨j1,b1,kk,f,bb,EJ⟩:=key m (λp h=>cO h) bm;obtain⟨b2,k2,-⟩:=h.inv b1;obtain⟨f2,-,-,fn⟩:=h.fr b1.iw;obtain⟨s,hs⟩:=FG.hm p (I4 hp);obtain⟨r1,r2,-⟩:=a.map s p hs;have gZ:=bb.last;have HB:=bb.nx;refine .rf fa ⟨Hs,Cs,j1.HG b1 k2 f2.sm f2.A f2.last om ?_⟩ fb.last fr;rw[fn];refine h.new b1 ?_ ?_ om;.have:=Sz a kk f hs;unfold Ap.Yk at this;rw[this];have h2:=Mj hs;unfold Ap.Yk at h2;rw[h2,Sy a ok,f.sz]
  .rw[Fp hs a.inj];omega
 |WY m c _=>exact cm m c
 | @ok S1 S2 es m c=>
  obtain⟨DH,AT,t1,⟨Hs,Cs,t2⟩,t3,t4,-⟩:=cm m c;obtain⟨rfl,rfl⟩:=t4 W0;obtain⟨b2,k2,sm,-,-,c3⟩:=m.cm c a ok;obtain⟨-,g2⟩:=c3 rfl;have MU:S2.jr (b:Int)=false:=by rw[k2.PH b hb om];exact hj
  have:=(t2.BV (b:=b) (f:=(S2.BV b).1.jr) (N:=λi=>i=b) (λi _=>by rw[Hz]) rfl (λr hr i hi=>?_) (g2 h3)).1;.exact .rf fa ⟨Hs,Cs,this⟩ fb.last fr
  .obtain⟨AR,j,o1,o2,-⟩:=t2.live r hr i hi;exact⟨AR,j,o1,o2,λe=>by rw[e]at o2;rw[MU]at o2;cases o2⟩
theorem KB.pV{l:List Int}{N:Nat->Prop}{Hs Cs:List Rc}(h:KB l S AB o):∀(a:BE S) (hd:l.Nodup) (hj:∀y∈l,∃b:Nat,y=(b:Int)/\b<S.D.nb/\S.ps b=3/\S.jr (b:Int)=true/\N b) (q:GI S Hs Cs) (hl:∀r∈Cs,r.OZ S N),GI AB Hs Cs:=by
 have hm:∀{S:Ap} {b:Nat},BE S->S.jr (b:Int)=true->∀s p,S.A s=some p->∀j:Nat,j<S.D.P->p≠((b*S.D.P+j:Nat):Int):=λ{S b} a h3 s p h j MU e=>by obtain⟨-,-,i,m,g1,g2,g3,g4,g5,-⟩:=a.map s p h;obtain⟨rfl,-⟩:=Id g3 MU (show i*S.D.P+m=b*S.D.P+j from om);rw[h3]at g5;cases g5
 induction h with
 |nil=>exact λ_ _ _ q _=>q
 | @cons b l S AB o h t ih=>
  intro a hd hj q hl;obtain⟨AR,e,h1,h2,h3,h4⟩:=hj _ (DW ..);have:AR=b:=om
  subst this;obtain⟨q1,-⟩:=a.abl h1 h2 h3;rw[RU]at hd;have XB:∀i:Nat,i≠AR->Be (S.BV AR).1.jr (AR:Int) false (i:Int)=S.jr (i:Int):=λi hi=>by unfold Be;rw[AM om,Hz]
  obtain⟨j1,j2⟩:=q.BV XB h4 hl (hm a h3);refine ih q1 hd.2 (λy hy=>?_) j1 j2;obtain⟨i,e5,g1,g2,g3,g4⟩:=hj y (Ck _ hy);have BZ:i≠AR:=λBG=>by subst BG;rw[e5]at hy;exact hd.1 hy
  exact⟨i,e5,by show i<(S.BV AR).1.D.nb;rw[(Jm S AR).nb];exact g1,by show(S.BV AR).1.ps i=3;rw[W8 S AR i BZ];exact g2,by show Be _ _ _ _=_;rw[XB i BZ];exact g3,g4⟩
 | @bad b l S h=>
  intro a hd hj q hl;obtain⟨AR,e,h1,h2,h3,h4⟩:=hj _ (DW ..);have:AR=b:=om
  subst this;exact(q.BV (f:=(S.BV AR).1.jr) (λi _=>by rw[Hz]) h4 hl (hm a h3)).1
theorem QU.kK{S T:Nat}{A:DM}(h:OH A D)(q:Yy S T A):QU S T (λ_=>none) (Bf A D):=λj x hx=>by
 have ZH:∀e∈Bf A D,A e.1=some e.2:=λe he=>by
  obtain⟨s,hs,rfl⟩:=DK.1 he
  obtain⟨p,hp⟩:=SV.1 ((h.mem s).1 hs)
  show A s=some (HF A s)
  unfold HF;rw[hp];rfl
 have hA:=ZH x (I4 hx)
 obtain⟨r1,r2,r3,r4⟩:=q.rg _ _ hA
 refine⟨⟨r1,r2,om,r4⟩,?_⟩
 rintro⟨s,hs,BZ⟩
 rcases F2 j s x.2 hs with h1|⟨i,e,h1,h2,h3,h4,h5⟩
 .cases h1
 .have:=ZH e (I4 h2)
  rw[h4]at this
  exact BZ (h3.symm.trans (q.inj _ _ _ this hA))
theorem BE.FZ(q:BE S):Yy S.S (S.D.nb*S.D.P) S.A:=by exact yU
theorem HO.fresh{es:List BI}{Hs:List Rc}(h:HO k es S AB o)(q:JB S Hs)(a:BE S)(hk:k=2\/k=3)(hl:S.last<S.next)(hn:S.next+CF S es<950000000)(EJ:es.length<=20/\∀e∈es,e.Ok)(hi:i<CF S es)(ho:On AB b j (Rc.pg S.D.sz ⟨k,S.next,S.last,es⟩ i)):(S.D.bl b).nx<=j:=by
 have hz:=a.CT.sz;have ok:Rc.Ok (S.next+CF S es) ⟨k,S.next,S.last,es⟩:=⟨hk,hl,by have:1<=CF S es:=jU ..;simp only;omega,EJ.1,EJ.2⟩;obtain⟨-,kk,-⟩:=h.inv a;have f:=(h.fr a.iw).1;obtain⟨o1,o2,o3⟩:=ho;rw[f.nb]at o1;rw[f.sz]at o3;rcases PP j (S.D.bl b).nx with hj|hj;.exact zL
 .exact hj
theorem GI.pU{Hs Cs:List Rc}(q:GI S Hs Cs){r:Rc}(hr:r∈Cs)(hi:i<r.n S.D.sz)(ho:On S b j (r.pg S.D.sz i)):S.jr (b:Int)=true:=by obtain⟨AR,JU,EG,k,-⟩:=q.live r hr i hi;obtain⟨rfl,-⟩:=q.uq r hr i hi b j AR JU ho EG;exact k
theorem KB.on{l:List Int}{x:LE}(h:KB l S AB o):On AB i j x->On S i j x:=by
 have key:∀(S:Ap) (b:Nat),On (S.BV b).1 i j x->On S i j x:=λS b ⟨h1,h2,h3⟩=>by
  have sm:=Jm S b;obtain⟨d1,d2,-⟩:=xM S b;rw[sm.nb]at h1;rw[sm.sz]at h3;by_cases e:i=b
  .subst e;rcases d2 with d2|d2;.rw[d2]at h2 h3;exact⟨h1,h2,h3⟩
   .have:=d2 j h2;rcases h3.1 with h|h<;>omega
  .rw[d1 i e]at h2 h3;exact⟨h1,h2,h3⟩
 induction h with
 |nil=>exact id
 |cons h t ih=>exact λho=>key _ _ (ih ho)
 |bad h=>exact λho=>key _ _ ho
def rZ(S T:Ap):Prop:=∃Hs Cs,GI T Hs Cs/\((∀r∈Cs,∀i,i<r.n T.D.sz->∀b j,On T b j (r.pg T.D.sz i)->S.jr ((b:Nat):Int)=true)\/∀r∈Cs,∀i,i<r.n T.D.sz->∀b j,On T b j (r.pg T.D.sz i)->T.jr ((b:Nat):Int)=true/\S.jr ((b:Nat):Int)=false)
theorem QX.mq(h:QX S AB o)(a:BE S)(bd:Bd S k)(hk:k<900000000)(hS:S.S<=12)(q:JS S){l:List Int}(GR:JA S l):VG AB o λT=>(∀s,T.rd s=S.rd s)/\rZ S T:=by
 obtain⟨Hs,Cs,q⟩:=q;obtain⟨fa,-,fb,-,fr⟩:=h.inv a bd hS;obtain⟨qc,kc,sc,cA,cj,cl,-,cb⟩:=a.CY;have b1:=cb k bd;have hn:=b1.nx;have hl:=b1.last;have hz:=a.CT.sz;have oG:S.CY.D=S.D/\S.CY.last=S.last/\S.CY.next=S.next:=by unfold Ap.CY;split<;>exact⟨rfl,rfl,rfl⟩
 have q1:GI S.CY Hs Cs:=q.HG a kc sc cA oG.2.1 ⟨by rw[oG.2.2];exact BD _,om⟩ (.refl oG.1);have nq:∀{D:List Int},OH S.A D->S.CY.next+CF S.CY (Bf S.A D)<950000000/\(Bf S.A D).length<=20/\∀e∈Bf S.A D,e.Ok:=λ{D} hD=>by
  have h1:=hD.len a;have h2:CF S.CY (Bf S.A D)<=(Bf S.A D).length+1:=Gr (by rw[sc.sz];exact hz.1);have h3:(Bf S.A D).length=D.length:=by unfold Bf;rw[DC]
  refine⟨om,om,λe he=>?_⟩;obtain⟨s,hs,rfl⟩:=DK.1 he;obtain⟨p,hp⟩:=SV.1 ((hD.mem s).1 hs);obtain⟨r1,r2,b,i,g1,g2,g3,-⟩:=a.map s p hp;have hP:=a.CT.P;have hb:=a.CT.nb;have:=NB (show b<=44 from om) (show S.D.P<=6 from om);have e2:HF S.A s=p:=by unfold HF;rw[hp];rfl
  show 0<=s/\s<=4294967294/\ -1<=HF S.A s/\HF S.A s<=4294967294;rw[e2];omega
 have new:∀{S1:Ap} {D:List Int} {o:WO} (AT:Nat),OH S.A D->HO 3 (Bf S.A D) S.CY S1 o->Rc.OZ S1 (λ_=>False) ⟨3,S.CY.next,S.CY.last,Bf S.A D⟩->AT=S.CY.next+CF S.CY (Bf S.A D)- 1->GI {S1 with last:=AT} (⟨3,S.CY.next,S.CY.last,Bf S.A D⟩::Hs) [⟨3,S.CY.next,S.CY.last,Bf S.A D⟩]:=by
  intro S1 D o AT hD h g1 g2;obtain⟨c1,c2⟩:=nq hD;obtain⟨j1,-,-,ju,-⟩:=h.jb q1.toJB qc (.inr rfl) hl c1 c2;obtain⟨-,kk,-⟩:=h.inv qc;have f:=(h.fr qc.iw).1;refine⟨⟨j1.pg,j1.ok,j1.inj⟩,λr hr=>by rw[EV.1 hr];exact DW ..,λr hr=>by rw[EV.1 hr];exact g1,λr hr=>by rw[EV.1 hr];exact ju,λr hr=>?_,?_,?_,?_,λs p h=>?_⟩
  .rcases DD.1 hr with rfl|hr;.exact .inl (aq _)
   .exact .inr (.inl ⟨_,rfl,rfl,(q1.ok r hr).n⟩)
  .show bB S1.D.sz _ AT;rw[g2,f.sz];exact .inr ⟨_,[],rfl,rfl,rfl⟩
  .show S1.A=_;rw[f.A,cA];have:=U8 hD λs p h=>by obtain⟨-,-,b,j,e,-⟩:=a.map s p h;omega
   rw[Li]at this;simpa using this.symm
  .show QU S1.S (S1.D.nb*S1.D.P) _ _;rw[f.CZ,f.nb,f.P,sc.CZ,sc.nb,sc.P];simpa using QU.kK hD a.FZ
  .have h:S1.A s=some p:=h;have:Zl S1 s p:=(q1.map s p (by rw[<-f.A];exact h)).JH kk f.sm;exact this
 have onN:∀{S1:Ap} {D:List Int} {o:WO},OH S.A D->HO 3 (Bf S.A D) S.CY S1 o->∀{i b j:Nat},i<Rc.n S1.D.sz ⟨3,S.CY.next,S.CY.last,Bf S.A D⟩->On S1 b j (Rc.pg S1.D.sz ⟨3,S.CY.next,S.CY.last,Bf S.A D⟩ i)->S.jr (b:Int)=false:=by
  intro S1 D o hD h i b j hi ho;obtain⟨c1,c2⟩:=nq hD;have f:=(h.fr qc.iw).1;rw[f.sz]at hi ho;have g:=h.fresh q1.toJB qc (.inr rfl) hl c1 c2 hi ho;refine Yw.2 λe=>?_;obtain⟨AR,e1,e2,e3⟩:=qc.jr (b:Int) (by rw[cj];exact e);have:AR=b:=om
  subst this;have h3:S.CY.ps AR=3:=e3.elim id λh=>om
  have:=h.full qc (GR.eq (HT Dv.CD oG.1)) e2 h3;have:=ho.2.1;omega
 cases h with
 | @bad D _ _ hD h ho=>
  obtain⟨c1,c2⟩:=nq hD;obtain⟨j1,j2,j3,ju,j4,-,jn⟩:=h.jb q1.toJB qc (.inr rfl) hl c1 c2;obtain⟨-,kk,-⟩:=h.inv qc;have f:=(h.fr qc.iw).1;have bX:o≠ .done 0:=λe=>by rcases ho with h|h<;>rw[h]at e<;>cases e
  have gZ:AB.last=S.CY.last:=by
   cases h with
   |ok _=>exact absurd rfl bX
   |bad h _=>exact(h.fr (qc.nw (S.CY.next+CF S.CY (Bf S.A D)) S.CY.last S.CY.wr (EM qc.n0 (OC _ _))).iw).1.last
  rcases j4 bX with g|⟨rfl,g⟩
  .have J:GI AB (⟨3,S.CY.next,S.CY.last,Bf S.A D⟩::Hs) Cs:=by
    refine⟨j1,λr hr=>Ck _ (q1.sub r hr),λr hr=>j3 r _ (q1.live r hr),λr hr=>j2.uq (q1.sub r hr) (q1.uq r hr),λr hr=>?_,by rw[f.sz,gZ];exact q1.Vv,f.A.trans q1.ZU,by rw[f.CZ,f.nb,f.P];exact q1.ap,λs p h=>(q1.map s p (by rw[<-f.A];exact h)).JH kk f.sm⟩;rcases DD.1 hr with rfl|hr;.exact .inr (.inr g)
    .exact(q1.rest r hr).imp id (·.imp id (j2.abs hr))
   refine .rf fa ⟨_,_,J⟩ fb.last ⟨fr,_,_,J,.inl λr hr i hi b j ho=>?_⟩;have hi:i<r.n AB.D.sz:=hi;have ho:On AB b j (r.pg AB.D.sz i):=ho;rw[j2.1]at hi ho;have:=q1.pU hr hi (j2.2 r (q1.sub r hr) i hi b j ho);rw[cj]at this;exact this
  .have MV:1<=CF S.CY (Bf S.A D):=jU ..;refine⟨AB.A,_,fa.nw AB.next (S.CY.next+CF S.CY (Bf S.A D)- 1) AB.wr fa.n0,⟨_,_,new _ hD h g rfl⟩,om,(λh=>absurd rfl h),fr,_,_,new _ hD h g rfl,.inr λr hr i hi b j ho=>?_⟩;refine⟨(new _ hD h g rfl).pU hr hi ho,?_⟩;rw[EV.1 hr]at hi ho;exact onN (S1:=AB) hD h hi ho
 | @run D J S1 _ _ hD h hJ t=>
  obtain⟨c1,c2⟩:=nq hD;obtain⟨-,-,-,-,-,j5,jn⟩:=h.jb q1.toJB qc (.inr rfl) hl c1 c2;obtain⟨b2,-,-,-,-,-,-,hj⟩:=a.kJ bd hS hD h;obtain⟨g1,g2⟩:=j5 rfl;have SI:∀y,S.jr y=true->∃b:Nat,y=(b:Int)/\S.CY.ps b=3:=λy hy=>by obtain⟨b,e1,e2,e3⟩:=qc.jr y (by rw[cj];exact hy);exact⟨b,e1,e3.elim id λe=>om⟩
  have q2:=new _ hD h (λi hi=>let⟨b,j,e1,e2,_⟩:=g1 i hi;⟨b,j,e1,e2,id⟩) g2;have J2:=t.pV (N:=λb=>S.CY.ps b=3) b2 (hJ.lt.imp λ{a b} h=>om) (λy hy=>by have NK:=(hJ.mem y).1 hy;obtain⟨b,e1,e2,e3,e4⟩:=hj y NK;obtain⟨AR,e5,e6⟩:=SI y NK;have:AR=b:=om;subst this;exact⟨AR,e1,e2,e3,e4,e6⟩) q2 λr hr=>by rw[EV.1 hr];exact g1
  refine .rf fa ⟨_,_,J2⟩ fb.last ⟨fr,_,_,J2,.inr λr hr i hi b j ho=>⟨J2.pU hr hi ho,?_⟩⟩;rw[EV.1 hr]at hi ho;have es:AB.D.sz=S1.D.sz:=(QX.run hD h hJ t |>.inv a bd hS).2.1.sz.trans (by rw[(h.fr qc.iw).1.sz,sc.sz]);have hi:i<Rc.n AB.D.sz _:=hi;have ho:On AB b j (Rc.pg AB.D.sz _ i):=ho;rw[es]at hi ho;exact onN hD h hi (t.on ho)
def Rc.id(z:Nat)(r:Rc):Rec:=(r.k,r.f,r.p,r.n z)
theorem N4(z i:Nat)(r:Rc):Bv (r.pg z i).1=r.id z:=by show(r.k,r.f+i- (i:Int).toNat,r.p,((EI z r.es.length:Nat):Int).toNat)=_;rw[FL,FL,Nat.add_sub_cancel];rfl
structure QW (P:List JP)(z m:Nat)(Hs Cs:List Rc):Prop where
 pg:∀x∈P,∃r∈Hs,∃i,i<r.n z/\x=r.pg z i
 ok:∀r∈Hs,r.p<r.f
 inj:∀r∈Hs,∀CO∈Hs,r.f=CO.f->r=CO
 sub:∀r∈Cs,r∈Hs
 live:∀r∈Cs,∀i,i<r.n z->r.pg z i∈P
 rest:∀r∈Hs,r∈Cs\/(∃c,Cs.head?=some c/\c.k=3/\r.f<c.f)\/∃i,i<r.n z/\r.pg z i∉P
 Vv:bB z Cs m
section
variable {P:List JP}{Hs Cs:List Rc}
theorem QW.fst(q:QW P z m Hs Cs){r:Rc}(hr:r∈Hs)(h:D9 P (r.id z) (i:Int)=some j):P[j]?=some (r.pg z i):=by
 obtain⟨x,h1,h2,h3⟩:=Iw h;obtain⟨CO,g1,FB,g2,rfl⟩:=q.pg x (I4 h1);rw[N4]at h2;have e:CO=r:=q.inj CO g1 r hr (HT (·.2.1) h2);subst e;have h3:(FB:Int)=(i:Int):=h3;have:FB=i:=om
 subst this;exact h1
theorem QW.full(q:QW P z m Hs Cs){r:Rc}(hr:r∈Cs):ON P (r.id z)/\full P (r.id z)=true:=by
 refine⟨?_,?_⟩;.have:=Alj (q.live r hr 0 (r.n1 z));rwa[N4]at this
 .unfold Go.Ev.full;rw[RS];intro i hi
  cases h:D9 P (r.id z) (i:Int)with
  |some j=>rfl
  |none=>unfold D9 at h;rw[nB]at h;have:=h _ (q.live r hr i (KI.1 hi));rw[N4]at this;have e:(r.pg z i).1.idx=(i:Int):=rfl;simp[e]at this
theorem QW.of(q:QW P z m Hs Cs){k:Rec}(h1:ON P k)(h2:Go.Ev.full P k=true):∃r∈Hs,k=r.id z/\(r∈Cs\/∃c,Cs.head?=some c/\c.k=3/\r.f<c.f):=by
 obtain⟨x,hx,e⟩:=Xe h1;obtain⟨r,g1,i,g2,rfl⟩:=q.pg x hx;rw[N4]at e;subst e;refine⟨r,g1,rfl,?_⟩;rcases q.rest r g1 with h|h|⟨j,h3,h4⟩;.exact .inl h
 .exact .inr h
 .obtain⟨a,ha,-⟩:=Lo h2 (show j<(r.id z).2.2.2 from h3);exact absurd (I4 (q.fst g1 ha)) h4
theorem Rh.lt{z:Nat}:∀{l:List Rc} {n m:Nat},Rh z n l m->(∀r∈l,r.p<r.f)->n<=m/\∀r∈l,r.k=2/\n<=r.p/\r.p<m
 | [],n,m,h,_=>⟨by have:m=n:=h;omega,λ_ h=>by cases h⟩
 |x::l,n,m,⟨h1,h2,h3⟩,hp=>by
  have hx:=hp x (DW ..);obtain⟨a,b⟩:=Rh.lt h3 λr hr=>hp r (Ck _ hr);have hl:x.f<=x.l z:=by have:=x.n1 z;unfold Rc.l;omega
  refine⟨om,λr hr=>?_⟩;rcases DD.1 hr with rfl|hr;.exact⟨h1,om,om⟩
  .obtain⟨c,d,e⟩:=b r hr;exact⟨c,om,e⟩
theorem QW.run(q:QW P z m Hs Cs):∀{A B:List Rc} {n:Nat},Cs=A++B->Rh z n B m->(∀r∈A,r.p<n)->(∀r∈Hs,(∃c,Cs.head?=some c/\c.k=3/\r.f<c.f)->r.p<n)->WS P 2 (some n) (B.head?.map (Rc.id z))/\RB P (B.head?.map (Rc.id z)) (B.map (Rc.id z))
 |A,[],n,e,h,hA,ho=>by
  refine⟨λk hk=>?_,.none⟩;have h:m=n:=h;rw[MO]at e
  cases hw:Eg P 2 (some n) k with
  |false=>rfl
  |true=>
   simp only[Eg,KQ,LP]at hw;obtain⟨r,g1,rfl,g3⟩:=q.of hk hw.1.2;have hp:r.p=n:=hw.2;rcases g3 with g|g;.have:=hA r (by rw[<-e];exact g);omega
   .have:=ho r g1 g;omega
 |A,x::B,n,e,⟨h1,h2,h3⟩,hA,ho=>by
  have hx:x∈Cs:=by rw[e];simp
  obtain⟨f1,f2⟩:=q.full hx;have ES:=q.ok x (q.sub x hx);have hl:x.f<=x.l z:=by have:=x.n1 z;unfold Rc.l;omega
  have hB:=Rh.lt h3 λr hr=>q.ok r (q.sub r (by rw[e];simp[hr]));obtain⟨r1,r2⟩:=q.run (A:=A++[x]) (B:=B) (n:=x.l z) (by rw[e];simp) h3 (λr hr=>by
   rcases GU.1 hr with hr|hr;.have:=hA r hr;omega
   .rw[EV.1 hr];omega) λr hr hc=>by have:=ho r hr hc;omega
  refine⟨⟨f1,?_,λAZ hk hw=>?_⟩,.some (k:=x.id z) r1 r2⟩;.have e1:(x.id z).1=2:=h1;have e2:(x.id z).2.2.1=n:=h2;simp[Eg,e1,e2,f2]
  .simp only[Eg,KQ,LP]at hw;obtain⟨r,g1,rfl,g3⟩:=q.of hk hw.1.2;have hp:r.p=n:=hw.2;rcases g3 with g|g
   .rw[e]at g;rcases GU.1 g with g|g;.have:=hA r g;omega
    .rcases DD.1 g with rfl|g;.exact .inl rfl
     .have:=(hB.2 r g).2.1;omega
   .have:=ho r g1 g;omega
theorem QW.start(q:QW P z m Hs Cs):VH P (Cs.head?.map (Rc.id z))/\RB P (Cs.head?.map (Rc.id z)) (Cs.map (Rc.id z)):=by
 rcases q.Vv with h|⟨c,l,e,hc,h⟩
 .have hk:∀r∈Cs,r.k=2:=λr hr=>(h.lt (λr hr=>q.ok r (q.sub r hr))).2 r hr |>.1;have no:∀r:Rc,¬∃c,Cs.head?=some c/\c.k=3/\r.f<c.f:=λr ⟨c,h1,h2,_⟩=>by have:=hk c (List.mem_of_mem_head? h1);omega
  obtain⟨a,b⟩:=q.run (A:=[]) (B:=Cs) rfl h (λ_ h=>by cases h) λr _ h=>absurd h (no r);refine⟨⟨none,λk h1=>?_,a⟩,b⟩
  cases hw:Eg P 3 none k with
  |false=>rfl
  |true=>
   simp only[Eg,KQ,LP]at hw;obtain⟨r,g1,rfl,g3⟩:=q.of h1 hw.1.2;have h3:r.k=3:=hw.1.1;rcases g3 with g|g;.have:=hk r g;omega
   .exact absurd g (no r)
 .have bQ:c∈Cs:=by rw[e];simp
  have ES:=q.ok c (q.sub c bQ);have hl:c.f<=c.l z:=by have:=c.n1 z;unfold Rc.l;omega
  have hB:=h.lt λr hr=>q.ok r (q.sub r (by rw[e];simp[hr]));have hd:∀r∈Hs,(∃c,Cs.head?=some c/\c.k=3/\r.f<c.f)->r.f<c.f:=λr _ ⟨BP,h1,_,h3⟩=>by rw[e]at h1;cases h1;exact h3
  obtain⟨a,b⟩:=q.run (A:=[c]) (B:=l) e h (λr hr=>by rw[EV.1 hr];omega) λr hr hx=>by have:=hd r hr hx;have:=q.ok r hr;omega
  obtain⟨f1,f2⟩:=q.full bQ;have hs:WS P 3 none (some (c.id z)):=by
   refine⟨f1,?_,λAZ hk hw=>?_⟩;.have e1:(c.id z).1=3:=hc;simp[Eg,e1,f2]
   .simp only[Eg,KQ,LP]at hw;obtain⟨r,g1,rfl,g3⟩:=q.of hk hw.1.2;have h3:r.k=3:=hw.1.1;rcases g3 with g|g
    .rw[e]at g;rcases DD.1 g with rfl|g;.exact .inl rfl
     .have:=(hB.2 r g).1;omega
    .have:=hd r g1 g;refine .inr ?_;have:(r.id z).2.1<(c.id z).2.1:=this;simp[Qj,this]
  rw[e];exact⟨⟨some (c.id z),hs,rfl⟩,.some a b⟩
theorem anf(z:Nat)(es:List BI)(hz:12<=z):(List.range (EI z es.length)).flatMap (Ec z es)=es:=by
 have hm:1<=EK z:=by unfold EK;omega
 have h:∀n,(List.range n).flatMap (Ec z es)=es.take (EK z*n):=by
  intro n;induction n with
  |zero=>simp
  |succ n ih=>rw[WQ,OX,ih,Zc,List.take_add];simp[Ec]
 rw[h,LN];unfold EI;generalize EK z=k at*;have h1:=jT (es.length+k- 1) k;have h2:=UX (es.length+k- 1) hm;have h3:=RP k (Nat.le_max_right 1 ((es.length+k- 1)/k));omega
theorem aa0{α β:Type}{l:List α}{f g:α->List β}(h:∀x∈l,f x=g x):l.flatMap f=l.flatMap g:=by rw[List.flatMap_def,List.flatMap_def,ar h]
theorem QW.Z2(q:QW P z m Hs Cs)(hz:12<=z):LZ P (Cs.map (Rc.id z))=Cs.flatMap Rc.es:=by
 unfold LZ;rw[List.flatMap_map];refine aa0 λr hr=>?_;obtain⟨-,hf⟩:=q.full hr;unfold mi Cy;rw[List.flatMap_map];have:∀i∈List.range (r.id z).2.2.2,Ga P ((D9 P (r.id z) (i:Int)).getD 0)=Ec z r.es i:=λi hi=>by obtain⟨j,h1,-⟩:=Lo hf (KI.1 hi);rw[h1,MC];unfold Ga;rw[q.fst (q.sub r hr) h1];rfl
 rw[aa0 this];exact anf z r.es hz
theorem VH.uniq{o EG:Option Rec}(h:VH P o)(AA:VH P EG):o=EG:=by
 obtain⟨a,h1,h2⟩:=h;obtain⟨BC,Zx,VN⟩:=AA;have:=h1.uniq Zx;subst this
 cases a with
 |some k=>exact h2.trans VN.symm
 |none=>exact h2.uniq VN
theorem QW.fol(q:QW P z m Hs Cs)(hz:12<=z){o:Option Rec}(h1:VH P o)(h2:RB P o ks):LZ P ks=Cs.flatMap Rc.es:=by obtain⟨a,b⟩:=q.start;have:=h1.uniq a;subst this;rw[h2.uniq b,q.Z2 hz]
end
theorem Rh.PB{z:Nat}:∀{l:List Rc} {n m:Nat},Rh z n l m->m=((l.map (Rc.id z)).getLast?.map F5).getD n
 | [],n,m,h=>h
 | [x],n,m,⟨_,_,h⟩=>h
 |x::y::l,n,m,⟨_,_,h⟩=>by
  have:=Rh.PB h;rw[FU,FU,List.getLast?_cons_cons,<-FU (a:=y)]
  cases hl:((y::l).map (Rc.id z)).getLast? with
  |none=>simp at hl
  |some k=>rw[hl]at this;exact this
section
variable {P:List JP}{Hs Cs:List Rc}
theorem QW.SN(q:QW P z m Hs Cs){o:Option Rec}(h1:VH P o)(h2:RB P o ks):PB ks=m/\(∀j∈HP P ks,∃r∈Cs,∃i,i<r.n z/\P[j]?=some (r.pg z i))/\∀r∈Cs,∀i,i<r.n z->∃j∈HP P ks,P[j]?=some (r.pg z i):=by
 obtain⟨a,b⟩:=q.start;have:=h1.uniq a;subst this;rw[h2.uniq b];have hj:∀r∈Cs,∀i,i<r.n z->∃j,D9 P (r.id z) ((i:Nat):Int)=some j/\P[j]?=some (r.pg z i):=λr hr i hi=>by obtain⟨j,h1,-⟩:=Lo (q.full hr).2 (show i<(r.id z).2.2.2 from hi);exact⟨j,h1,q.fst (q.sub r hr) h1⟩
 refine⟨?_,λj NI=>?_,λr hr i hi=>?_⟩
 .have e:∀ks:List Rec,Go.Ev.PB ks=(ks.getLast?.map F5).getD 0:=λks=>by unfold Go.Ev.PB;cases ks.getLast?<;>rfl
  rw[e];rcases q.Vv with h|⟨c,l,e,-,h⟩;.exact h.PB.symm
  .rw[h.PB,e]
   cases l with
   |nil=>rfl
   |cons y l=>
    rw[FU,FU,List.getLast?_cons_cons]
    cases hl:(y.id z::l.map (Rc.id z)).getLast? with
    |none=>simp at hl
    |some k=>rfl
 .obtain⟨k,hk,MU⟩:=List.mem_flatMap.1 NI;obtain⟨r,hr,rfl⟩:=DK.1 hk;obtain⟨i,hi,rfl⟩:=DK.1 MU;obtain⟨j,h1,h2⟩:=hj r hr i (KI.1 hi);rw[h1];exact⟨r,hr,i,KI.1 hi,h2⟩
 .obtain⟨j,h1,h2⟩:=hj r hr i hi;exact⟨j,List.mem_flatMap.2 ⟨_,RQ hr,DK.2 ⟨i,KI.2 hi,by rw[h1];rfl⟩⟩,h2⟩
end
theorem aa1{es:List BI}(hl:4+8*es.length<=z)(hz:z<=1000)(ES:∀e∈es,e.Ok):N1 (Cg z es)=some es:=by
 have e4:(256:Nat)^4=4294967296:=by decide
 have hn:jN (Cg z es)=es.length:=Lk 4 es.length [] (es.flatMap Jf++List.replicate (z- 4- 8*es.length) 0) 0 om rfl ▸ by unfold jN Cg;simp[NP]
 have hg:∀l:List BI,(l.flatMap Jf).length=8*l.length:=λl=>by
  induction l with
  |nil=>rfl
  |cons e l ih=>rw[KP,DX,ih,FX];unfold Jf;rw[DX,Bb,Bb];omega
 have he:∀i e,es[i]?=some e->Mm (Cg z es) i=e:=λi e h=>by
  obtain⟨hi,h2⟩:=FE.1 h;obtain⟨o1,o2⟩:=ES e (I4 h);have hs:es=es.take i++e::es.drop (i+1):=by rw[<-h2,<-ST hi,fK]
  have hb:Cg z es=(DJ 4 es.length++(es.take i).flatMap Jf)++DJ 4 e.1.toNat++(DJ 4 (e.2+1).toNat++((es.drop (i+1)).flatMap Jf++List.replicate (z- 4- 8*es.length) 0)):=by
   unfold Cg;conv=>lhs;rw[show es.flatMap Jf=(es.take i).flatMap Jf++(Jf e++(es.drop (i+1)).flatMap Jf)by conv=>lhs;rw[hs,OX,KP]]
   unfold Jf;simp only[NP]
  have hp:(DJ 4 es.length++(es.take i).flatMap Jf).length=4+8*i:=by rw[DX,Bb,hg,IS];omega
  have f1:EF (Cg z es) (4+8*i) 4=e.1.toNat:=by rw[hb];exact Lk 4 _ _ _ _ om hp.symm
  have f2:EF (Cg z es) (8+8*i) 4=(e.2+1).toNat:=by rw[hb,<-NP];exact Lk 4 _ _ _ _ om (by rw[DX,hp,Bb];omega)
  unfold Mm;rw[f1,f2];exact Prod.ext (by show(e.1.toNat:Int)=e.1;omega) (by show(((e.2+1).toNat:Nat):Int)- 1=e.2;omega)
 have hE:Ef (Cg z es) es.length=es:=by
  apply QT;intro i;unfold Ef;rw[GD]
  cases h:es[i]? with
  |none=>rw[OW (by rw[ZY];exact List.getElem?_eq_none_iff.1 h)];rfl
  |some e=>rw[Yu (FE.1 h).1,KR,he i e h]
 have hlen:=Eb hl;have hJ:fo (Cg z es):=by refine⟨by rw[hn,hlen];omega,by rw[hn,hE];exact ES,?_⟩;have:=(Agm (b:=Cg z es) (Aac _ _) (by rw[hn,hlen];exact hl) (by rw[hn,hE];exact ES)).1 (by rw[hn,hE,hlen]);exact this
 unfold N1;rw[AP hJ,hn,hE]
theorem mY{D:Dv}{x:IL}:x∈Af D↔∃i j,i<D.nb/\j<(D.bl i).nx/\F6 D i j=some x:=by simp only[Af,Gt,N5,List.mem_flatMap,List.mem_filterMap,KI];exact⟨λ⟨i,h1,j,h2,h3⟩=>⟨i,j,h1,h2,h3⟩,λ⟨i,j,h1,h2,h3⟩=>⟨i,h1,j,h2,h3⟩⟩
theorem Lp{D:Dv}(h:bC (data++A3 s data) ((D.bl i).pg j))(hd:data.length=D.sz)(q:s.Fit):F6 D i j=some ⟨i*D.P+j,s,data⟩:=by unfold F6;rw[AP h.1,h.dec hd q,h.2,<-hd,List.take_left];rfl
theorem Pl:∀(L:List IL) (m n:Nat),m<=n->(∀x∈L,x.s.seq<n)->L.foldl (λm x=>max m (x.s.seq+1)) m<=n/\m<=L.foldl (λm x=>max m (x.s.seq+1)) m/\∀x∈L,x.s.seq<L.foldl (λm x=>max m (x.s.seq+1)) m
 | [],m,n,h,_=>⟨h,BD _,λ_ h=>by cases h⟩
 |x::l,m,n,h,hl=>by
  have h1:=hl x (DW ..);obtain⟨a,b,c⟩:=Pl l (max m (x.s.seq+1)) n om λy hy=>hl y (Ck _ hy);rw[fR];refine⟨a,om,λy hy=>?_⟩;rcases DD.1 hy with rfl|hy
  .omega
  .exact c y hy
section
variable {Hs Cs:List Rc}
theorem JB.ic(q:JB S Hs)(hz:12<=S.D.sz/\S.D.sz<=50)(hn:S.next<950000000){x:IL}(h:x∈Af S.D):∃b j,b<S.D.nb/\j<(S.D.bl b).nx/\x.at_=b*S.D.P+j/\x.s.seq<S.next+100/\x.data.length=S.D.sz/\F6 S.D b j=some x/\((H2 x=true/\x.s.seq<S.next)\/JX x=true/\∃r∈Hs,∃i,i<r.n S.D.sz/\On S b j (r.pg S.D.sz i)/\Tj x=r.pg S.D.sz i):=by
 obtain⟨b,j,h1,h2,h3⟩:=mY.1 h;have h4:=h3;rcases q.pg b j h1 h2 with(h|⟨sec,m,d,e,hl,s1,s2,s3,s4⟩)|⟨r,hr,i,hi,e⟩
 .unfold F6 at h3;split at h3;.rename_i hs;rw[h hs]at h3;cases h3
  .cases h3
 .rw[Lp e hl (Nq om om)]at h3
  cases h3;exact⟨b,j,h1,h2,rfl,by show m<S.next+100;omega,hl,h4,.inl ⟨rfl,s4⟩⟩
 .have ko:=q.ok r hr;have fit:=ko.fit hz hn hi;have hl:=Eb (Ci hz.1 i (es:=r.es));rw[Lp e hl fit]at h3
  cases h3;have hd:N1 (Cg S.D.sz (r.pg S.D.sz i).2)=some (r.pg S.D.sz i).2:=aa1 (Ci hz.1 i) om (Su ko.es i);have hk:H2 ⟨b*S.D.P+j,(r.pg S.D.sz i).1,Cg S.D.sz (r.pg S.D.sz i).2⟩=false:=CW (by show¬r.k=1;have:=ko.k;omega);refine⟨b,j,h1,h2,rfl,?_,hl,h4,.inr ⟨?_,r,hr,i,hi,⟨h1,h2,e⟩,?_⟩⟩;.show r.f+i<S.next+100;have:=ko.n;have h5:=Gm (sz:=S.D.sz) (n:=r.es.length) hz.1;have:=ko.len;have hi:i<EI S.D.sz r.es.length:=hi;omega
  .unfold JX;rw[hk,hd];rfl
  .unfold Tj;rw[hd];rfl
theorem JB.on(q:JB S Hs)(hz:12<=S.D.sz/\S.D.sz<=50)(hn:S.next<950000000){r:Rc}(hr:r∈Hs)(hi:i<r.n S.D.sz)(o:On S b j (r.pg S.D.sz i)):∃x∈Af S.D,x.at_=b*S.D.P+j/\JX x=true/\Tj x=r.pg S.D.sz i:=by have ko:=q.ok r hr;have h:=Lp o.2.2 (Eb (Ci hz.1 i (es:=r.es))) (ko.fit hz hn hi);have hm:=mY.2 ⟨b,j,o.1,o.2.1,h⟩;have hd:N1 (Cg S.D.sz (r.pg S.D.sz i).2)=some (r.pg S.D.sz i).2:=aa1 (Ci hz.1 i) om (Su ko.es i);refine⟨_,hm,rfl,?_,by unfold Tj;rw[hd];rfl⟩;unfold JX;rw[hd,show H2 _=false from CW (by show¬r.k=1;have:=ko.k;omega)];rfl
theorem GI.sF(q:GI S Hs Cs)(a:BE S)(hn:S.next<950000000):QW (jps (Af S.D)) S.D.sz S.last Hs Cs:=by
 have hz:=a.CT.sz;have on:∀{r:Rc},r∈Hs->∀{i b j:Nat},i<r.n S.D.sz->On S b j (r.pg S.D.sz i)->r.pg S.D.sz i∈jps (Af S.D):=λ{r} hr {i b j} hi o=>by obtain⟨x,h1,-,h3,h4⟩:=q.toJB.on hz hn hr hi o;exact DK.2 ⟨x,JZ.2 ⟨h1,h3⟩,h4⟩
 have of:∀x∈jps (Af S.D),∃b j,∃r∈Hs,∃i,i<r.n S.D.sz/\On S b j (r.pg S.D.sz i)/\x=r.pg S.D.sz i:=λx hx=>by
  obtain⟨y,hy,rfl⟩:=DK.1 hx;obtain⟨h1,h2⟩:=JZ.1 hy;obtain⟨b,j,-,-,-,-,-,-,h|⟨-,r,hr,i,hi,o,e⟩⟩:=q.toJB.ic hz hn h1;.unfold JX at h2;rw[h.1]at h2;cases h2
  .exact⟨b,j,r,hr,i,hi,o,e⟩
 refine⟨λx hx=>let⟨b,j,r,hr,i,hi,_,e⟩:=of x hx;⟨r,hr,i,hi,e⟩,λr hr=>(q.ok r hr).p,q.inj,q.sub,λr hr i hi=>?_,λr hr=>(q.rest r hr).imp id (Or.imp id λ⟨i,hi,h⟩=>⟨i,hi,λhx=>?_⟩),q.Vv⟩;.obtain⟨b,j,o,-⟩:=q.live r hr i hi;exact on (q.sub r hr) hi o
 .obtain⟨b,j,CO,-,FB,-,o,e⟩:=of _ hx;exact h b j (by rw[e];exact o)
theorem GI.used(q:GI S Hs Cs)(a:BE S)(hn:S.next<950000000){o:Option Rec}(h1:VH (jps (Af S.D)) o)(h2:RB (jps (Af S.D)) o ks):(∀j∈HP (jps (Af S.D)) ks,j<((Af S.D).filter JX).length)/\∀b,b∈(HP (jps (Af S.D)) ks).map (Kv (Af S.D) S.D.P)↔∃r∈Cs,∃i,i<r.n S.D.sz/\∃j,On S b j (r.pg S.D.sz i):=by
 have hz:=a.CT.sz;obtain⟨-,u1,u2⟩:=(q.sF a hn).SN h1 h2;have key:∀{j:Nat} {r:Rc} {i:Nat},(jps (Af S.D))[j]?=some (r.pg S.D.sz i)->∃b m,Kv (Af S.D) S.D.P j=b/\On S b m (r.pg S.D.sz i):=λ{j r i} h=>by
  unfold jps at h;rw[GD,Xs]at h;obtain⟨x,hx,e⟩:=h;obtain⟨g1,g2⟩:=JZ.1 (I4 hx);obtain⟨b,m,b1,b2,b3,-,-,-,h|⟨-,CO,hr,FB,hi,o,BG⟩⟩:=q.toJB.ic hz hn g1;.unfold JX at g2;rw[h.1]at g2;cases g2
  .have HB:=a.LB b b1;refine⟨b,m,?_,by rw[<-e,BG];exact o⟩;unfold Kv;rw[hx];show x.at_/S.D.P=b;rw[b3];exact(Qg om).1
 refine⟨λj hj=>?_,λb=>⟨λhb=>?_,λ⟨r,hr,i,hi,m,o⟩=>?_⟩⟩;.obtain⟨r,-,i,-,h⟩:=u1 j hj;have:=(FE.1 h).1;unfold jps at this;rw[DC]at this;exact this
 .obtain⟨j,hj,e⟩:=DK.1 hb;obtain⟨r,hr,i,hi,h⟩:=u1 j hj;obtain⟨AR,m,e1,o⟩:=key h;rw[<-e,e1];exact⟨r,hr,i,hi,m,o⟩
 .obtain⟨j,hj,h⟩:=u2 r hr i hi;obtain⟨AR,GF,e1,EG⟩:=key h;obtain⟨rfl,-⟩:=q.uq r hr i hi b m AR GF o EG;exact DK.2 ⟨j,hj,e1⟩
theorem GI.hold(q:GI S Hs Cs)(a:BE S)(hn:S.next<950000000){s p:Int}(hS:S.S<=12)(h:S.A s=some p):Qh (Af S.D) (s,p)=true:=by
 obtain⟨r1,r2,-⟩:=a.map s p h;obtain⟨b,j,n,d,e,h1,h2,h3,h4,h5,h6,h7⟩:=q.map s p h;have hp:=Lp (D:=S.D) (i:=b) (j:=j) (s:=PO s n) (data:=d) (by rw[h4];exact⟨.inl rfl,rfl⟩) h5 (Nq om om);have hm:=mY.2 ⟨b,j,h1,h3,hp⟩;unfold Qh
 cases hf:(Af S.D).find? λx=>decide (((x.at_:Nat):Int)=(s,p).2)with
 |none=>rw[List.find?_eq_none]at hf;exact absurd (CM (show((b*S.D.P+j:Nat):Int)=p from e.symm)) (hf _ hm)
 |some x=>
  have hx:=List.find?_some hf;simp only[LP]at hx;obtain⟨AR,JU,g1,g2,g3,-,-,g4,-⟩:=q.toJB.ic a.CT.sz hn (List.mem_of_find?_eq_some hf);have:=a.LB AR g1;obtain⟨rfl,rfl⟩:=Id (show JU<S.D.P from om) h2 (show AR*S.D.P+JU=b*S.D.P+j from om);rw[hp]at g4
  cases g4;show(H2 _&&decide (s=s))=true;simp[H2,PO]
end
def Dv.up(D:Dv):Dv:={D with cut:= -1,off:=false}
def Ap.up(S:Ap):Ap:={S with D:=S.D.up,down:=false}
def Ap.IJ(D:Dv)(S:Nat)(A:DM)(nx la:Nat)(js ds:List Int):Ap:=⟨D,S,λb=>if((b:Nat):Int)∈js++ds then 3 else 1,λb=>if b<D.nb then(D.bl b).er else 0,A,nx,la,-1,-1,λk=>decide (k∈js),λ_=>false,λ_=>none,false⟩
structure Yx (D:Dv)(js ds:List Int):Prop where
 nd:(js++ds).Nodup
 mem:∀z∈js++ds,∃b:Nat,z=(b:Int)/\b<D.nb
 nx:∀b,b<D.nb->(((b:Nat):Int)∈js++ds↔0<(D.bl b).nx)
theorem BE.up(q:BE S):BE S.up:=⟨⟨q.CT.nb,q.CT.P,q.CT.sz,q.CT.en⟩,rfl,q.n0,⟨λk=>⟨(q.iw.wi k).BT,(q.iw.wi k).lo⟩,q.iw.ne⟩,q.LB,q.RM,q.free,q.jr,q.SM,q.TP,q.map,q.inj⟩
theorem GI.up{Hs Cs:List Rc}(q:GI S Hs Cs):GI S.up Hs Cs:=⟨⟨q.pg,q.ok,q.inj⟩,q.sub,q.live,q.uq,q.rest,q.Vv,q.ZU,q.ap,q.map⟩
section
variable {Hs Cs:List Rc}
theorem GI.seq(q:GI S Hs Cs)(a:BE S)(hn:S.next<950000000):1<=Bn (Af S.D)/\Bn (Af S.D)<=S.next+100/\(∀x∈Af S.D,x.s.seq<Bn (Af S.D))/\(∀b j sec n data,b<S.D.nb->j<(S.D.bl b).nx->bC (data++A3 (PO sec n) data) ((S.D.bl b).pg j)->data.length=S.D.sz->0<=sec->sec<1000->1<=n->n<S.next->n<Bn (Af S.D))/\∀r∈Hs,∀i,i<r.n S.D.sz->∀b j,On S b j (r.pg S.D.sz i)->r.f+i<Bn (Af S.D):=by
 have hz:=a.CT.sz;obtain⟨h1,h2,h3⟩:=Pl (Af S.D) 1 (S.next+100) om λx hx=>by obtain⟨b,j,-,-,-,h,-⟩:=q.toJB.ic hz hn hx;exact h
 refine⟨h2,h1,h3,λb j sec n data g1 g2 g3 g4 g5 g6 g7 g8=>?_,λr hr i hi b j o=>?_⟩;.exact h3 _ (mY.2 ⟨b,j,g1,g2,Lp g3 g4 (Nq om om)⟩)
 .exact h3 _ (mY.2 ⟨b,j,o.1,o.2.1,Lp o.2.2 (Eb (Ci hz.1 i)) ((q.ok r hr).fit hz hn hi)⟩)
theorem GI.last(q:GI S Hs Cs)(a:BE S)(hn:S.next<950000000):S.last<Bn (Af S.D):=by
 obtain⟨h1,-,-,-,h5⟩:=q.seq a hn;have key:∀r∈Cs,F5 (r.id S.D.sz)<Bn (Af S.D):=λr hr=>by have:=r.n1 S.D.sz;obtain⟨b,j,o,-⟩:=q.live r hr (r.n S.D.sz- 1) om;have:=h5 r (q.sub r hr) _ om b j o;show r.f+r.n S.D.sz- 1<_;omega
 have fin:∀(l:List Rc) (n:Nat),(∀r∈l,r∈Cs)->n<Bn (Af S.D)->((l.map (Rc.id S.D.sz)).getLast?.map F5).getD n<Bn (Af S.D):=λl n hl h0=>by
  cases h:(l.map (Rc.id S.D.sz)).getLast? with
  |none=>exact h0
  |some k=>obtain⟨r,hr,rfl⟩:=DK.1 (List.mem_of_getLast? h);exact key r (hl r hr)
 rcases q.Vv with h|⟨c,l,e,-,h⟩;.rw[h.PB];exact fin Cs 0 (λ_ h=>h) h1
 .rw[h.PB];exact fin l _ (λr hr=>by rw[e];exact Ck _ hr) (key c (by rw[e];simp))
theorem GI.bM(q:GI S Hs Cs)(a:BE S)(ED:S.D.off=false)(hn:S.next<950000000)(hS:S.S<=12){js ds:List Int}(f:Yx S.D js ds)(hJ:∀b:Nat,(b:Int)∈js↔∃r∈Cs,∃i,i<r.n S.D.sz/\∃j,On S b j (r.pg S.D.sz i)):BE (Ap.IJ S.D S.S S.A (Bn (Af S.D)) S.last js ds)/\JS (Ap.IJ S.D S.S S.A (Bn (Af S.D)) S.last js ds):=by
 obtain⟨h1,h2,h3,h4,h5⟩:=q.seq a hn;have ps:∀{b:Nat} {v:Nat},(if(b:Int)∈js++ds then 3 else 1)=v->v=3/\(b:Int)∈js++ds\/v=1/\(b:Int)∉js++ds:=λ{b v} h=>by
  split at h;.exact .inl ⟨h.symm,by assumption⟩
  .exact .inr ⟨h.symm,by assumption⟩
 have p3:∀b,b<S.D.nb->0<(S.D.bl b).nx->(Ap.IJ S.D S.S S.A (Bn (Af S.D)) S.last js ds).ps b=3:=λb hb h=>AP ((f.nx b hb).2 h);refine⟨⟨a.CT,ED,h1,⟨λk=>⟨λh=>?_,?_⟩,λk h=>?_⟩,a.LB,λb hb h=>?_,λb hb h=>?_,λk hk=>?_,λh=>?_,λh=>?_,λs p h=>?_,a.inj⟩,?_⟩;.cases k<;>exact absurd h bo
 .cases k<;>(show(-1:Int)<= -1;omega)
 .cases k<;>exact absurd h bo
 .rcases ps h with⟨e,-⟩|⟨e,-⟩<;>omega
 .rcases ps h with⟨e,-⟩|⟨-,e⟩;.omega
  .rw[f.nx b hb]at e;show(S.D.bl b).nx=0;omega
 .have XC:k∈js:=Xv hk;obtain⟨b,rfl,hb⟩:=f.mem k (TY _ XC);exact⟨b,rfl,hb,.inl (AP (TY _ XC))⟩
 .exact absurd h bo
 .exact absurd h bo
 .obtain⟨e1,e2,b,j,g1,g2,g3,g4,g5,g6,g7⟩:=a.map s p h;refine⟨e1,e2,b,j,g1,g2,g3,.inr (p3 b g2 om),?_,g6,g7⟩;refine CW λhm=>?_;obtain⟨r,hr,i,hi,m,o⟩:=(hJ b).1 hm;obtain⟨AR,GF,EG,k,-⟩:=q.live r hr i hi;obtain⟨rfl,-⟩:=q.uq r hr i hi b m AR GF o EG;rw[g5]at k;cases k
 .have hm:∀{r:Rc},r∈Hs->∀{i b j:Nat},i<r.n S.D.sz->On S b j (r.pg S.D.sz i)->r∈Hs.filter λr=> @decide (∃i,i<r.n S.D.sz/\∃b j,On S b j (r.pg S.D.sz i)) (Classical.propDecidable _):=λ{r} hr {i b j} hi o=>JZ.2 ⟨hr,@CM _ (Classical.propDecidable _) ⟨i,hi,b,j,o⟩⟩;have hf:∀{r:Rc},(r∈Hs.filter λr=> @decide (∃i,i<r.n S.D.sz/\∃b j,On S b j (r.pg S.D.sz i)) (Classical.propDecidable _))->r∈Hs/\∃i,i<r.n S.D.sz/\∃b j,On S b j (r.pg S.D.sz i):=λh=>⟨(JZ.1 h).1,@Xv _ (Classical.propDecidable _) (JZ.1 h).2⟩;refine⟨_,Cs,⟨λb j hb hj=>?_,λr hr=>?_,λr hr CO HY e=>q.inj r (hf hr).1 CO (hf HY).1 e⟩,λr hr=>?_,λr hr i hi=>?_,q.uq,λr hr=>q.rest r (hf hr).1,q.Vv,q.ZU,q.ap,λs p h=>?_⟩
  .rcases q.pg b j hb hj with(h|⟨sec,m,d,e,g1,g2,g3,g4,g5⟩)|⟨r,hr,i,hi,e⟩;.exact .inl (.inl h)
   .exact .inl (.inr ⟨sec,m,d,e,g1,g2,g3,g4,h4 b j sec m d hb hj e g1 g2 g3 g4 g5⟩)
   .exact .inr ⟨r,hm hr hi ⟨hb,hj,e⟩,i,hi,e⟩
  .obtain⟨hr,i,hi,b,j,o⟩:=hf hr;have ko:=q.ok r hr;exact⟨ko.k,ko.p,nK (OC _ _) (h5 r hr i hi b j o),ko.len,ko.es⟩
  .obtain⟨b,j,o,-⟩:=q.live r hr 0 (r.n1 _);exact hm (q.sub r hr) (r.n1 _) o
  .obtain⟨b,j,o,-⟩:=q.live r hr i hi;exact⟨b,j,o,CM ((hJ b).2 ⟨r,hr,i,hi,j,o⟩),id⟩
  .obtain⟨r1,r2,-⟩:=a.map s p h;obtain⟨b,j,n,d,e,g1,g2,g3,g4,g5,g6,g7⟩:=q.map s p h;exact⟨b,j,n,d,e,g1,g2,g3,g4,g5,g6,h4 b j s n d g1 g3 (by rw[g4];exact⟨.inl rfl,rfl⟩) g5 r1 om g6 g7⟩
end
def LJ(T:Ap)(n:Nat):Prop:=∃Hs Cs,GI T Hs Cs/\∀L:List Nat,L.Nodup->(∀b∈L,∃r∈Cs,∃i,i<r.n T.D.sz/\∃j,On T b j (r.pg T.D.sz i))->L.length<=n
theorem LJ.mono{T:Ap}{n:Nat}(h:LJ T n)(e:n<=m):LJ T m:=by obtain⟨Hs,Cs,h1,h2⟩:=h;exact⟨Hs,Cs,h1,λL hL hb=>EM (h2 L hL hb) e⟩
theorem Td{f:Nat->Bool}:∀(n:Nat) (L:List Nat),L.Nodup->(∀b∈L,b<n/\f b=true)->L.length<=Cq (λb=>if f b=true then 1 else 0) n
 |0,L,_,h=>by
  cases L with
  |nil=>exact BD _
  |cons a r=>exact absurd (h a (DW ..)).1 (OD _)
 |n+1,L,hn,h=>by
  by_cases hm:n∈L
  .have:=Td (f:=f) n (L.erase n) (hn.erase n) λb hb=>by have h1:=(List.Nodup.mem_erase_iff hn).1 hb;obtain⟨h2,h3⟩:=h b h1.2;exact⟨by have:=h1.1;omega,h3⟩
   rw[List.length_erase_of_mem hm]at this;simp only[Cq];rw[AP (h n hm).2];have:=qz hm;omega
  .have:=Td (f:=f) n L hn λb hb=>by obtain⟨h2,h3⟩:=h b hb;exact⟨by have:b≠n:=λe=>hm (by rw[<-e];exact hb);omega,h3⟩
   simp only[Cq];omega
section
variable {l:List Int}{Y e:Nat}
theorem GI.lj{Hs Cs:List Rc}(q:GI S Hs Cs):LJ S (An KH S):=
 ⟨Hs,Cs,q,λL hL hb=>Td (f:=λb=>S.jr ((b:Nat):Int)) S.D.nb L hL λb hm=>by
  obtain⟨r,hr,i,hi,j,o⟩:=hb b hm
  exact⟨o.1,q.pU hr hi o⟩⟩
theorem xO(z:An KG S=0):An KH S<=An KF S+An IY S:=by
 unfold An;rw[<-Ee];refine Dg λb hb=>?_;unfold GG KH KF IY
 cases S.jr (b:Int)<;>cases S.su (b:Int)<;>simp
theorem JN.lj(g:JN S l sp c e){DH:DM}(j:JS {S with A:=DH,last:=AT}):∃x,x+rem l S.D.n<=sp/\LJ {S with A:=DH,last:=AT} (2*c+1+x):=by obtain⟨x,h1,h2⟩:=g.x;obtain⟨Hs,Cs,j⟩:=j;have h3:=xO g.no;refine⟨x+An IY S,om,j.lj.mono ?_⟩;show An KH S<=_;omega
theorem Q2(q:BE S)(w:Wt)(d:Nat)(hw:∀b s n,n<=S.D.P->w b 3 true s n<=w b 2 true s n+d):An w S.CY<=An w S+d:=by
 unfold Ap.CY;by_cases h:0<=S.log;.rw[AP h];obtain⟨g1,g2⟩:=(q.iw.wi true).BT h;obtain⟨b,hb⟩:=Yt h;have hs:S.BT true=S.log:=rfl;rw[hs,hb]at g1;rw[hs,hb,FL]at g2;have hj:=q.SM h;rw[hb]at hj ⊢;rw[FL];have:=Hh (w:=w) (S:=S) (AB:={S with ps:=AX S.ps b 3,log:= -1}) (i:=b) rfl om λj _ hj=>⟨CB _ _ hj,rfl,rfl,rfl⟩;unfold GG at this;simp only[Am,g2,hj]at this;have:=hw b (S.su (b:Int)) (S.D.bl b).nx (q.LB b om);omega
 .rw[AM h];omega
theorem KB.jrF(h:KB J S AB o):∀y,S.jr y=false->AB.jr y=false:=by
 induction h with
 |nil=>exact λ_ h=>h
 |cons h t ih=>
  intro y hy;refine ih y ?_;simp only[Be];split;.rfl
  .rw[Hz];exact hy
 |bad h=>intro y hy;rw[Hz];exact hy
theorem KB.GS(h:KB J S AB o):∀(hn:J.Nodup) (hj:∀y∈J,∃b:Nat,y=(b:Int)/\b<S.D.nb/\S.ps b=3/\S.jr (b:Int)=true) (hl:JA S l) (hs:KL S) (he:∀i,i<S.D.nb->(S.D.bl i).er<=if((i:Nat):Int)∈J then e else e+1) (ID:e+1<S.D.en),KL AB/\IZ AB (e+1)/\AB.D.CD=S.D.CD/\S.D.n<=AB.D.n/\(o= .done 0->∀y∈J,AB.jr y=false)/\∀(w:Wt) (cc:Nat),(∀b:Nat,(b:Int)∈J->(∀n m,w b 4 false false m<=w b 3 true true n)/\(∀n,w b 1 false false 0<=w b 3 true false n)/\(∀n m,w b 4 false false m<=w b 3 true false n+cc)/\∀s n m,w b 3 true s m<=w b 3 true s n)->An w AB+cc*rem l AB.D.n<=An w S+cc*rem l S.D.n:=by
 induction h with
 |nil=>exact λ_ _ _ hs he _=>⟨hs,λi hi=>by simpa using he i hi,rfl,BD _,(λ_ y hy=>by cases hy),λ_ _ _=>BD _⟩
 | @cons b J S AB o h t ih=>
  intro hn hj hl hs he ID;rw[RU]at hn;obtain⟨AR,e1,hb,h3,dd⟩:=hj _ (DW ..);have:AR=b:=om
  subst this;have hE:IZ S (e+1):=λi hi=>by have:=he i hi;split at this<;>omega
  obtain⟨p,s,m,k,s1,s2,hc⟩:=Pf hb h3 hl hs hE ID;have BZ:∀y∈J,∃i:Nat,y=(i:Int)/\i<S.D.nb/\S.ps i=3/\S.jr (i:Int)=true/\i≠AR:=λy hy=>by obtain⟨i,e5,g1,g2,g3⟩:=hj y (Ck _ hy);exact⟨i,e5,g1,g2,g3,λBG=>by subst BG;rw[e5]at hy;exact hn.1 hy⟩
  obtain⟨a1,a2,a3,a4,a5,a6⟩:=ih hn.2 (λy hy=>by
   obtain⟨i,e5,g1,g2,g3,g4⟩:=BZ y hy;exact⟨i,e5,by show i<(S.BV AR).1.D.nb;rw[k.nb];exact g1,by show(S.BV AR).1.ps i=3;rw[(k.eW i g4).1];exact g2,by show Be (S.BV AR).1.jr _ _ _=true;rw[show Be (S.BV AR).1.jr (AR:Int) false (i:Int)=(S.BV AR).1.jr (i:Int)from AM om,k.jr];exact g3⟩) (hl.eq k.CD) (λy hy=>s1 y hy) (λi hi=>by
    have PX:i<S.D.nb:=(by rw[<-k.nb];exact hi);have h1:=s2 i PX;have h2:=he i PX;show((S.BV AR).1.D.bl i).er<=_;by_cases e:i=AR;.subst e;rw[AP rfl]at h1;rw[AP (DW ..)]at h2;rw[AM hn.1];omega
    .rw[AM e]at h1;by_cases hm:(i:Int)∈J;.rw[AP (Ck _ hm)]at h2;rw[AP hm];omega
     .rw[AM (λh=>(DD.1 h).elim (λh=>e om) hm)]at h2;rw[AM hm];omega) (by
    have:=(Jm S AR).en;show e+1<(S.BV AR).1.D.en;rw[this];exact ID)
  refine⟨a1,a2,a3.trans k.CD,EM k.n a4,λho y hy=>?_,λw cc hw=>?_⟩
  .rcases DD.1 hy with rfl|hy;.exact t.jrF ((AR:Int)) (AP rfl)
   .exact a5 ho y hy
  .have h1:=a6 w cc λb hb=>hw b (Ck _ hb);obtain⟨w1,w2,w3,w4⟩:=hw AR (DW ..);have h2:=k.ams hb h3 w;rw[dd]at h2;have h3:=RP cc (F3 l k.n);have Zx:An w AB+cc*rem l AB.D.n<=An w ((S.BV AR).1.jF AR)+cc*rem l (S.BV AR).1.D.n:=h1;rcases hc with⟨h4,-⟩|⟨h4,rfl,h5⟩
   .rw[h]at h4;cases h4
   .rcases h5 with⟨h5,rfl⟩|⟨h5,⟨rfl,rfl⟩|⟨rfl,h6⟩⟩;.rw[h5]at h2;have:=w1 (S.D.bl AR).nx m;omega
    .rw[h5]at h2;have:=w2 (S.D.bl AR).nx;omega
    .rw[h5]at h2;have:=w3 (S.D.bl AR).nx m;have h7:=RP cc h6;rw[SQ,RW]at h7;omega
 | @bad b J S h=>
  intro hn hj hl hs he ID;obtain⟨AR,e1,hb,h3,dd⟩:=hj _ (DW ..);have:AR=b:=om
  subst this;have hE:IZ S (e+1):=λi hi=>by have:=he i hi;split at this<;>omega
  obtain⟨p,s,m,k,s1,s2,hc⟩:=Pf hb h3 hl hs hE ID;rcases hc with⟨h4,rfl,rfl⟩|⟨h4,-⟩
  .refine⟨s1,λi hi=>?_,k.CD,k.n,(λho=>by cases ho),λw cc hw=>?_⟩
   .have PX:i<S.D.nb:=(by rw[<-k.nb];exact hi);have h1:=s2 i PX;have h2:=he i PX;by_cases e:i=AR;.subst e;rw[AP rfl]at h1;rw[AP (DW ..)]at h2;omega
    .rw[AM e]at h1;split at h2<;>omega
   .obtain⟨w1,w2,w3,w4⟩:=hw AR (DW ..);have h2:=k.sum hb h3 w;rw[dd]at h2;have h3:=RP cc (F3 l k.n);have:=w4 (S.su (AR:Int)) (S.D.bl AR).nx m;omega
  .rw[h]at h4;cases h4
end
section
variable {l:List Int}{Y e:Nat}
theorem BE.ckW(q:BE S)(f:Ts S sp c Y)(g:JN S l sp c e)(hD:OH S.A D)(h:HO 3 (Bf S.A D) S.CY S1 o):JA S1 l/\S.D.n<=S1.D.n/\KL S1/\IZ S1 e/\An KG S1=0/\An IY S1+rem l S1.D.n<=An IY S+rem l S.D.n/\An (D3 S (NO S.D.P)) S1<=(c- 1)*S.D.P/\An (D3 S (QQ S.D.P)) S1+S.D.P*rem l S1.D.n<=S.D.P*rem l S.D.n+(c- 1)*S.D.P/\An (JL S.D.P) S1<=An (JL S.D.P) S/\(rem l S.D.n+c+1<=GK S->o≠ .full):=by
 obtain⟨qc,kc,sc,cA,cj,cl,cd,-⟩:=q.CY;have UI:S.CY.D=S.D/\S.CY.su=S.su:=by unfold Ap.CY;split<;>exact⟨rfl,rfl⟩
 have GR:JA S.CY l:=g.fl.eq (by rw[UI.1]);have w:=h.wk (l:=l) qc GR;have hn:CF S.CY (Bf S.A D)<=(c- 1)*S.D.P:=by unfold CF;rw[UI.1];refine f.hr _ ?_;unfold Bf;rw[DC];exact hD.len q
 have hz:∀w:Wt,An (D3 S w) S.CY<=Cq (λb=>if S.jr ((b:Nat):Int)=true then 0 else GG w S.CY b) S.D.nb:=λw=>by unfold An;rw[UI.1];exact Dg λb _=>by unfold GG D3;exact BD _
 have lk:∀w:Wt,(∀b p s n,w b p false s n=0)->An (D3 S w) S.CY=0:=λw hw=>by
  refine Nat.le_zero.1 (EM (hz w) ?_);rw[Jo (g:=λ_=>0) λb _=>?_,C3];.exact BD _
  .split;.rfl
   .rename_i h;unfold GG;rw[cj,Yw.2 h];exact hw _ _ _ _
 obtain⟨s1,s2⟩:=h.sd qc (e:=e) (λy hy=>by rw[UI.1];exact g.sd y (by rw[<-UI.2];exact hy)) (λb hb=>by rw[UI.1]at hb ⊢;exact g.er b hb);have c1:=Q2 q KG 0 λb s n _=>by simp[KG]
 have c2:=Q2 q IY 0 λb s n _=>by simp[IY]
 have c3:=Q2 q (JL S.D.P) 0 λb s n _=>by simp[JL]
 have c4:=Q2 q (MY S.D.P) S.D.P λb s n _=>by simp[MY]
 have p1:=w.GS KG 0 0 0 (Gs _ _) (Gs _ _);have p2:=w.GS IY 1 0 0 (Q0 _ _) (Q0 _ _);have p3:=w.GS (D3 S (NO S.CY.D.P)) 0 0 1 (Ta (Q1 _).1) (Ta (Q1 _).2);have p4:=(h.GS (l:=l) qc (Ta (S0:=S) (Agj _).2) GR).1;have p5:=(h.GS (l:=l) qc (Xc _).2 GR).1;have z1:=lk (NO S.D.P) λb p s n=>by simp[NO]
 have z2:=lk (QQ S.D.P) λb p s n=>by simp[QQ]
 have TL:=g.no;have VX:=w.n;have fP:=(h.fr qc.iw).1.CD;rw[UI.1]at p1 p2 p3 p4 p5 VX fP;refine⟨g.fl.eq fP,VX,s1,s2,om,om,om,om,om,λhF=>h.TT qc GR ?_⟩;have:=Tc (l:=l) q (n:=c+1) om;have hm:S.D.P*(c+1)=(c- 1)*S.D.P+S.D.P+S.D.P:=by have hc:=f.hc;rw[show c+1=(c- 1)+1+1 from om,Zc,Zc,WM S.D.P (c- 1)]
 rw[UI.1];omega
theorem KB.oo(h:KB J S AB o):o= .done 0\/o= .pow:=by
 induction h with
 |nil=>exact .inl rfl
 |cons _ _ ih=>exact ih
 |bad _=>exact .inr rfl
theorem rZ.lj{T:Ap}{n:Nat}(h:rZ S T)(hn:T.D.nb=S.D.nb)(h1:An KH S<=n)(h2:An (D3 S KH) T<=n):LJ T n:=by
 obtain⟨Hs,Cs,q,h⟩:=h;refine⟨Hs,Cs,q,λL hL hb=>?_⟩;rcases h with h|h;.refine EM (Td (f:=λb=>S.jr ((b:Nat):Int)) S.D.nb L hL λb hm=>?_) h1;obtain⟨r,hr,i,hi,j,o⟩:=hb b hm;exact⟨by rw[<-hn];exact o.1,h r hr i hi b j o⟩
 .refine EM (Td (f:=λb=>T.jr ((b:Nat):Int)&&!S.jr ((b:Nat):Int)) T.D.nb L hL λb hm=>?_) (EM (Dg λb _=>?_) h2);.obtain⟨r,hr,i,hi,j,o⟩:=hb b hm;obtain⟨g1,g2⟩:=h r hr i hi b j o;exact⟨o.1,by rw[g1,g2];rfl⟩
  .unfold GG D3 KH
   cases S.jr (b:Int)<;>cases T.jr (b:Int)<;>simp
theorem QX.step(h:QX S AB o)(f:Ts S sp c Y)(g:JN S l sp c e)(q:BE S)(bd:Bd S k)(hk:k<900000000)(hS:S.S<=12)(j:JS S)(ID:e+1<S.D.en)(hT:c+2<=An KH S)(hF:rem l S.D.n+c+1<=GK S):o≠ .full/\JA AB l/\IZ AB (e+1)/\S.D.n<=AB.D.n/\(o= .done 0->JN AB l sp c (e+1)/\mu AB l c<mu S l c)/\VG AB o λT=>(∀s,T.rd s=S.rd s)/\∃x,x+rem l AB.D.n<=sp/\LJ T (2*c+1+x):=by
 obtain⟨DH,AT,r1,r2,r3,r4,r5,r6⟩:=h.mq q bd hk hS j g.fl;obtain⟨aej,sm,-⟩:=h.inv q bd hS;obtain⟨x,x1,x2⟩:=g.x;have hc:=f.hc;have hP:=q.CT.P.1;have aqt:=xO g.no;have cm:(c- 1)*S.D.P+S.D.P=S.D.P*c:=by rw[WM (c- 1),<-Zc];congr 1;omega
 have lj:∀{r1:Nat},rem l AB.D.n<=r1->r1<=rem l S.D.n->An (D3 S (QQ S.D.P)) AB+S.D.P*r1<=S.D.P*rem l S.D.n+(c- 1)*S.D.P->∃x,x+rem l AB.D.n<=sp/\LJ {AB with A:=DH,last:=AT} (2*c+1+x):=by
  intro r1 h1 h2 h3;refine⟨x+An IY S+(rem l S.D.n- rem l AB.D.n),om,r6.lj sm.nb om ?_⟩;have h4:=(aej.vH S).2;rw[sm.P]at h4;have h5:S.D.P*(An (D3 S KH) AB+r1)<=S.D.P*(rem l S.D.n+c):=by rw[SQ,SQ];omega
  have h6:=nD h5 om;show An (D3 S KH) AB<=_;omega
 cases h with
 |bad hD h ho=>obtain⟨w1,w2,w3,w4,w5,w6,w7,w8,w9,fG⟩:=q.ckW f g hD h;exact⟨fG hF,w1,λb hb=>Nat.le_succ_of_le (w4 b hb),w2,(λe=>by rcases ho with h|h<;>rw[h]at e<;>cases e),DH,AT,r1,r2,r3,r4,r5,lj (BD _) (F3 l w2) w8⟩
 | @run D J S1 _ _ hD h hJ t=>
  obtain⟨w1,w2,w3,w4,w5,w6,w7,w8,w9,fG⟩:=q.ckW f g hD h;obtain⟨a1,-,UU,-,-,-,-,hj⟩:=q.kJ bd hS hD h;obtain⟨e1,e2,e3,e4,e5,e6⟩:=t.GS (l:=l) (e:=e) (hJ.lt.imp λ{a b} h=>om) (λy hy=>hj y ((hJ.mem y).1 hy)) w1 w3 (λi hi=>by have:=w4 i hi;split<;>omega) (by rw[UU.en];exact ID);have hJj:∀b:Nat,((b:Nat):Int)∈J->S.jr ((b:Nat):Int)=true:=λb hb=>(hJ.mem _).1 hb;have n1:=e6 KG 0 λb hb=>by simp[KG]
  have n2:=e6 IY 1 λb hb=>by simp[IY]
  have n3:=e6 (D3 S (NO S.D.P)) 0 λb hb=>by simp[D3,hJj b hb]
  have n4:=e6 (D3 S (QQ S.D.P)) 0 λb hb=>by simp[D3,hJj b hb]
  have n5:=e6 (JL S.D.P) 0 λb hb=>by simp[JL]
  have r0:=F3 l w2;have r0':=F3 l e4;have oo:=t.oo;refine⟨(λe=>by rcases oo with h|h<;>rw[h]at e<;>cases e),w1.eq e3,e2,EM w2 e4,λho=>?_,DH,AT,r1,r2,r3,r4,r5,lj r0' r0 om⟩;have TL:∀b:Nat,S.jr (b:Int)=true->AB.jr (b:Int)=false:=λb hb=>e5 ho _ ((hJ.mem _).2 hb);have eqN:∀w:Wt,(∀b p s n,w b p false s n=0)->An w AB=An (D3 S w) AB:=λw hw=>Jo λb hb=>by
   unfold GG D3;split;.rename_i h;rw[TL b h];exact hw _ _ _ _
   .rfl
  obtain⟨v1,v2⟩:=aej.vH S;rw[sm.P]at v1 v2;rw[<-eqN KF λb p s n=>by simp[KF]]at v1;rw[<-eqN KH λb p s n=>by simp[KH]]at v2;have v3:An KF AB<=c:=nD (show S.D.P*An KF AB<=S.D.P*c from om) om;refine⟨⟨om,e1,w1.eq e3,e2,x,om,om⟩,?_⟩;unfold mu;rw[sm.P,AP hT];by_cases hrr:rem l AB.D.n=rem l S.D.n;.have MV:rem l S1.D.n=rem l S.D.n:=om;rw[MV]at w8;have v4:An KH AB<=c:=nD (show S.D.P*An KH AB<=S.D.P*c from om) om;rw[hrr,AM om];omega
  .have:=RP (2*S.D.P+2) (show rem l AB.D.n+1<=rem l S.D.n from om);rw[SQ,RW]at this;split<;>omega
end
section
variable {T:Ap}{l:List Int}{Y e:Nat}{Hs Cs:List Rc}
theorem Mo(f:Nat->Bool):∀n,((List.range n).filter f).length=Cq (λb=>if f b=true then 1 else 0) n
 |0=>rfl
 |n+1=>by
  rw[WQ,jO,DX,Mo f n];simp only[Cq,RT,List.filter_nil]
  cases f n<;>rfl
theorem Alv{D:Dv}{A:DM}{nx la x:Nat}{js ds:List Int}(hl:∀n,D.CD n=true->((n:Nat):Int)∈l)(he:∀b,b<D.nb->(D.bl b).er<=e)(hx:x+rem l D.n<=sp)(hj:∀L:List Nat,L.Nodup->(∀b∈L,((b:Nat):Int)∈js)->L.length<=2*c+1+x):JN (Ap.IJ D S.S A nx la js ds) l sp c e:=by
 have ps:∀b,(Ap.IJ D S.S A nx la js ds).ps b=3\/(Ap.IJ D S.S A nx la js ds).ps b=1:=λb=>by
  show(if _ then 3 else 1)=3\/(if _ then 3 else 1)=1;split;.exact .inl rfl
  .exact .inr rfl
 have z:∀w:Wt,(∀b p j n,p=3\/p=1->w b p j false n=0)->An w (Ap.IJ D S.S A nx la js ds)=0:=λw hw=>by have e:Cq (GG w (Ap.IJ D S.S A nx la js ds)) D.nb=Cq (λ_=>0) D.nb:=Jo λb _=>hw _ _ _ _ (ps b);rw[C3,Nat.mul_zero]at e;exact e
 refine⟨z _ λb p j n h=>?_,(λy hy=>by cases hy),hl,he,x,?_,?_⟩;.rcases h with rfl|rfl<;>simp[KG]
 .rw[z IY λb p j n h=>by rcases h with rfl|rfl<;>simp[IY]];show 0+x+rem l D.n<=sp;omega
 .have h1:=hj ((List.range D.nb).filter λb=>decide (((b:Nat):Int)∈js)) (jQ.filter _) λb hb=>Xv (JZ.1 hb).2;rw[Mo]at h1;refine EM (Dg λb _=>?_) h1;unfold GG KF;show(if decide (((b:Nat):Int)∈js)=true/\false=false then 1 else 0)<=_;by_cases h:((b:Nat):Int)∈js;.rw[AP ⟨CM h,rfl⟩,AP (CM h)];exact BD _
  .rw[AM (λAA=>h (Xv AA.1))];omega
