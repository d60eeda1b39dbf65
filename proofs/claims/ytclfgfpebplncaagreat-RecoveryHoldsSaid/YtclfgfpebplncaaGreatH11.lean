/- Part of the proof. -/
import Derived.Test.YtclfgfpebplncaaGreatH08
import Derived.Test.YtclfgfpebplncaaGreatH10
set_option linter.unusedVariables false
set_option linter.unusedSectionVars false
set_option linter.unusedSimpArgs false
set_option maxRecDepth 10000
set_option maxHeartbeats 4000000
namespace Go.Ev
variable {S S' S1:Ap}{b i j k lo lo' m m' z:Nat}{data:List Nat}{h h':H}{ks:List Rec}{o:WO}{p:Pg}{s:Sp}{v:AV}
section
variable {P0:Program}{E:Env}{F:T CFn}{K:T (List AV×AV)}(L:Lg P0 E F K)(X:Fx F K)
include L X
structure PgE where
 at_:Nat
 s:Sp
 data:List Nat
def Fq (D:Dv)(i j:Nat):Option PgE:=
 if((D.bl i).pg j).st=2∨((D.bl i).pg j).st=3 then(Mv (((D.bl i).pg j).b.drop D.sz) (((D.bl i).pg j).b.take D.sz)).map fun s=>⟨i*D.P+j,s,((D.bl i).pg j).b.take D.sz⟩
 else none
def M4 (D:Dv)(i n:Nat):List PgE:=(List.range n).filterMap (Fq D i)
def F8 (D:Dv)(n:Nat):List PgE:=(List.range n).flatMap fun i=>M4 D i (D.bl i).nx
def Ae (D:Dv):List PgE:=F8 D D.nb
def Hb (x:PgE):Bool:=decide (x.s.kind=1)
def isJ (x:PgE):Bool:=!Hb x && (Mw x.data).isSome
def R1 (x:PgE):JP:=(x.s,(Mw x.data).getD [])
def jps (L:List PgE):List JP:=(L.filter isJ).map R1
def A4 (L:List PgE):Nat:=L.foldl (fun m x=>max m (x.s.seq+1)) 1
def Pf (L:List PgE)(e:Ent):Bool:=match L.find? fun x=>decide (((x.at_:Nat):Int)=e.2)with
 |some x=>Hb x && decide (x.s.sec=e.1)
 |none=>false
def Jx (L:List PgE)(P j:Nat):Nat:=match(L.filter isJ)[j]? with
 |some x=>x.at_ / P
 |none=>0
def peC (sz:Nat)(x:PgE×Nat):List AV:=spC x.1.s++ [AN x.1.at_,.slc x.2 0 sz (Aa+1)]
structure PL (lo:Nat)(h:H)(sz:Nat)(v:AV)(LL:List PgE):Prop where
 ex: ∃l:List (PgE×Nat),l.map (·.1)=LL∧(∀x∈l,BS h x.2 0 x.1.data∧lo≤x.2∧x.1.data.length=sz)∧((l= []∧v= .nils)∨(l≠[]∧ ∃b,v= .slc b 0 l.length (Aa+8)∧Bk h b (l.flatMap (peC sz))∧lo≤b∧ ∀x∈l,x.2≠b))
omit L X
theorem PL.nil (lo:Nat)(h:H)(sz:Nat):PL lo h sz .nils []:=⟨[],rfl,fun x hx=>(by cases hx),.inl ⟨rfl,rfl⟩⟩
theorem PL.kp {B:Nat→Prop}{sz:Nat}{LL:List PgE}(q:PL lo h sz v LL)(k:Kp B h h')(hs: ∀b,lo≤b→b<h.n→ ¬B b):PL lo h' sz v LL:=by obtain⟨l,h1,h2,h3⟩:=q.ex;refine⟨l,h1,fun x hx=>?_,h3.imp id fun⟨h4,b,h5,h6,h7,h8⟩=>⟨h4,b,h5,Aq k (hs b h7 h6.lt) h6,h7,h8⟩⟩;obtain⟨a,b,c⟩:=h2 x hx;exact⟨a.kp k (hs _ b a.lt_n),b,c⟩
theorem PL.k0 {sz:Nat}{LL:List PgE}(q:PL lo h sz v LL)(k:K0 h h'):PL lo h' sz v LL:=q.kp k fun _ _ _ f=>f
theorem PL.mono {sz:Nat}{LL:List PgE}(q:PL lo h sz v LL)(hl:lo'≤lo):PL lo' h sz v LL:=by obtain⟨l,h1,h2,h3⟩:=q.ex;exact⟨l,h1,fun x hx=>let⟨a,b,c⟩:=h2 x hx;⟨a,Nat.le_trans hl b,c⟩,h3.imp id fun⟨h4,b,h5,h6,h7,h8⟩=>⟨h4,b,h5,h6,Nat.le_trans hl h7,h8⟩⟩
include L X
section
variable {l:List (Nat×Option AV)}{n nt fn bytes d:Nat}{t:T Blk}{lh:List (Nat×Option Blk)}{x y:O}{gd:Option (Nat×Bool)}{r:List CI}{k:List AItem}{ds:List ADef}{dfd:Bool}{ro:Option Nat}{cs:List AFr}{Q:Nat→AV→Prop}
omit X in
theorem Adb {b2 o2 cap2 sz db:Nat}{LL:List PgE}{z:PgE}(hg:gdO gd l=some true)(e:evO l x=some v)(q:PL lo (hp n t lh) sz v LL)(hlo:lo≤n)(e1:evO l y=some (.slc b2 o2 1 cap2))(k2:SlR 8 (hp n t lh) (.slc b2 o2 1 cap2) 1 (peC sz (z,db)))(hd:BS (hp n t lh) db 0 z.data)(hdl:lo≤db)(hz:z.data.length=sz)(hv: ∀b m c,v= .slc b 0 m c→db≠b∧lo'≤b)(hb:(LL.length+1)*(bytes+1)≤1099511627776) (g: ∀v' h',PL lo h' sz v' (LL++ [z])→Kp (fun j=>lo'≤j) (hp n t lh) h'→(∀b m c,v'= .slc b 0 m c→b=n)→h'.n=n+1→Good P0 E Q ⟨⟨fn,nt,tms ((d,some v')::l),.ops r::k,ds,.run,dfd,ro⟩,cs,hp h'.n h'.t []⟩): Good P0 E Q ⟨⟨fn,nt,tms l,.ops (⟨some d,gd,.append 8 bytes x y⟩::r)::k,ds,.run,dfd,ro⟩,cs,hp n t lh⟩:=by
 obtain⟨ll,rfl,q1,q2⟩:=q.ex;have ldb:=hd.lt_n;have hf8: ∀x∈ll,(peC sz x).length=8:=fun _ _=>rfl;rw [List.length_map]at hb;rcases q2 with⟨rfl,rfl⟩|⟨q3,b,rfl,kb,hl,hne⟩
 ·have kk:Bk (hp (n+1) t ((n,some (cl (peC sz (z,db))))::lh)) n (peC sz (z,db)):=lkp;have k0:K0 (hp n t lh) (hp (n+1) t ((n,some (cl (peC sz (z,db))))::lh)):=kps;refine Eg L (Aw hg) (Dr e e1 k2 (by omega) (by simpa using hb)).e (g (.slc n 0 1 (Aa+8)) (hp (n+1) t ((n,some (cl (peC sz (z,db))))::lh)) ⟨[(z,db)],rfl,fun y hy=>?_,.inr ⟨by simp,n,rfl,by simpa using kk,hlo,fun y hy=>?_⟩⟩ kps (fun _ _ _ e=>by cases e;rfl) rfl);·rw [List.mem_singleton.1 hy];exact⟨hd.k0 k0,hdl,hz⟩
  ·rw [List.mem_singleton.1 hy];show db≠n;simp only [Al]at ldb;omega
 ·have hbn:b<n:=kb.lt;have kk:Bk (hp (n+1) t ((n,some (cl (ll.flatMap (peC sz)++peC sz (z,db))))::(b,none)::lh)) n (ll.flatMap (peC sz)++peC sz (z,db)):=lkp;have k1:Kp (fun j=>j=b) (hp n t lh) (hp (n+1) t ((n,some (cl (ll.flatMap (peC sz)++peC sz (z,db))))::(b,none)::lh)):=kps;have hfl:=C8 ll hf8;refine Eg L (Aw hg) (Dq e e1 (SlR.of (c:=ll.flatMap (peC sz)) kb (by omega) (by rw [List.drop_zero,List.take_of_length_le (by omega)])) k2 (by omega) hb rfl).e (g (.slc n 0 (ll.length+1) (Aa+8)) (hp (n+1) t ((n,some (cl (ll.flatMap (peC sz)++peC sz (z,db))))::(b,none)::lh)) ⟨ll++ [(z,db)],by simp,fun y hy=>?_,.inr ⟨by simp,n,by simp,by rw [List.flatMap_append];simpa using kk,hlo,fun y hy=>?_⟩⟩ (k1.mono fun j e=>by have:=(hv b _ _ rfl).2;omega) (fun _ _ _ e=>by cases e;rfl) rfl)
  ·rcases List.mem_append.1 hy with hy|hy;·obtain⟨a,c,e⟩:=q1 y hy;exact⟨a.kp k1 (hne y hy),c,e⟩
   ·rw [List.mem_singleton.1 hy];exact⟨hd.kp k1 (hv b _ _ rfl).1,hdl,hz⟩
  ·rcases List.mem_append.1 hy with hy|hy;·have:=(q1 y hy).1.lt_n;simp only [Al]at this;omega
   ·rw [List.mem_singleton.1 hy];show db≠n;simp only [Al]at ldb;omega
end
omit L X
theorem Ky: ∀(n v:Nat) (p s:List Nat) (a:Nat),v<256 ^ n→a=p.length→leF (p++leb n v++s) a n=v
 |0,v,p,s,a,h,_=>by simp [leF]at h ⊢;omega
 |n+1,v,p,s,a,h,ha=>by
  subst ha;rw [leF,leb];have h1:(p++(v % 256::leb n (v / 256))++s).getD p.length 0=v % 256:=by rw [List.getD_eq_getElem?_getD,List.append_assoc,List.getElem?_append_right (Nat.le_refl _),Nat.sub_self];rfl
  have h2:p++(v % 256::leb n (v / 256))++s=(p++ [v % 256])++leb n (v / 256)++s:=by simp
  rw [h1,h2,Ky n (v / 256) (p++ [v % 256]) s (p.length+1) (by rw [Nat.pow_succ]at h;omega) (by simp)];omega
theorem Sa (q:s.Fit):Mv (Au s data) data=some s:=by
 obtain⟨v,ok⟩:=q;obtain⟨v1,v2,v3,v4,v5,v6⟩:=v;obtain⟨o1,o2,o3⟩:=ok;have e8:(256:Nat) ^ 8=18446744073709551616:=by decide
 have e4:(256:Nat) ^ 4=4294967296:=by decide
 have b1:0≤s.sec∧s.sec≤4294967294:=by rcases v6 with⟨-,a,b,-⟩|⟨-,a,-⟩ <;> omega
 have u1:u64 s.sec=s.sec.toNat:=by unfold u64;omega
 have u2:u64 s.idx=s.idx.toNat:=by unfold u64;omega
 have u3:u64 s.len=s.len.toNat:=by unfold u64;omega
 have hcr:crcB (data++A6 s)<256 ^ 4:=by have:=Mq (data++A6 s);rw [e4];omega
 have ht:(Au s data).take 60=A6 s:=by unfold Au;rw [←B6 s,List.take_left]
 have hsp:Is (Au s data)=s:=by
  have hk:(Au s data).getD 4 0=s.kind:=rfl;have f: ∀(n v a:Nat) (p t:List Nat),Au s data=p++leb n v++t→v<256 ^ n→a=p.length→leF (Au s data) a n=v:=fun n v a p t h1 h2 h3=>by rw [h1];exact Ky n v p t a h2 h3
  have f1:=f 8 s.seq 8 (mag s.kind) _ (by unfold Au A6;simp only [List.append_assoc];rfl) (by omega) rfl;have f2:=f 8 s.prev 16 (mag s.kind++leb 8 s.seq) _ (by unfold Au A6;simp only [List.append_assoc];rfl) (by omega) (by rw [List.length_append,A3];rfl);have f3:=f 4 (u64 s.sec) 24 (mag s.kind++leb 8 s.seq++leb 8 s.prev) _ (by unfold Au A6;simp only [List.append_assoc];rfl) (by omega) (by simp only [List.length_append,A3];rfl);have f4:=f 4 (u64 s.idx) 28 (mag s.kind++leb 8 s.seq++leb 8 s.prev++leb 4 (u64 s.sec)) _ (by unfold Au A6;simp only [List.append_assoc];rfl) (by omega) (by simp only [List.length_append,A3];rfl);have f5:=f 4 (u64 s.len) 32 (mag s.kind++leb 8 s.seq++leb 8 s.prev++leb 4 (u64 s.sec)++leb 4 (u64 s.idx)) _ (by unfold Au A6;simp only [List.append_assoc];rfl) (by omega) (by simp only [List.length_append,A3];rfl);unfold Is;rw [hk,f1,f2,f3,f4,f5,u1,u2,u3];obtain⟨k,sec,seq,prev,idx,len⟩:=s;simp only at b1 v2 v4 ⊢;rw [Int.toNat_of_nonneg b1.1,Int.toNat_of_nonneg v4,Int.toNat_of_nonneg (by omega)]
 have hc:leF (Au s data) 60 4=crcB (data++(Au s data).take 60):=by rw [ht];have:=Ky 4 (crcB (data++A6 s)) (A6 s) [] 60 hcr (B6 s).symm;rw [List.append_nil]at this;exact this
 unfold Mv;rw [hsp,ht,if_pos ⟨by rw [←ht];exact hc,⟨v1,v2,v3,v4,v5,v6⟩,rfl⟩]
theorem Ua {A:Int→Option Int}{D:List Int}(h:DomA A D)(hn: ∀s p,A s=some p→0≤p):stA (fun _=>none) (A8 A D) (A8 A D).length=A:=by
 have hk:(A8 A D).map (·.1)=D:=by unfold A8;rw [List.map_map];exact List.map_id D
 obtain⟨h1,h2⟩:=Vt (A8 A D) (fun _=>none) (by rw [hk];exact h.lt.imp fun {a b} h=>by omega);rw [Kx];funext s;by_cases hs:s∈D
 ·have:=h2 (s,atA A s) (List.mem_map.2 ⟨s,hs,rfl⟩);obtain⟨p,hp⟩:=Option.isSome_iff_exists.1 ((h.mem s).1 hs);have ha:atA A s=p:=by unfold atA;rw [hp];rfl
  simp only [ha]at this;rw [this,if_pos (hn s p hp),hp]
 ·rw [h1 s (by rw [hk];exact hs)]
  cases hA:A s with
  |none=>rfl
  |some p=>exact absurd ((h.mem s).2 (by rw [hA];rfl)) hs
theorem xc (D:Dv)(h:i≠b):(D.erase (b:Int)).1.bl i=D.bl i:=by
 unfold Dv.erase;rw [Int.toNat_natCast];repeat' split
 all_goals first|rfl|exact upd_ne _ _ h
theorem NewP.trans {X Y:Nat→Nat→Pg→Prop}(a:NewP S S1 X)(k:Keep S1 S')(hn:S1.D.nb=S.D.nb)(b:NewP S1 S' Y):NewP S S' fun i j p=>X i j p∨Y i j p:=fun i j hi h1 h2=>by
 rcases Nat.lt_or_ge j (S1.D.bl i).nx with h|h
 ·rw [k.pg i j (by omega) h]
  exact(a i j hi h1 h).imp id .inl
 ·exact(b i j (by omega) h h2).imp id .inr
theorem NewP.mono {X Y:Nat→Nat→Pg→Prop}(a:NewP S S' X)(h: ∀b j p,b<S.D.nb→X b j p→Y b j p):NewP S S' Y:=fun b j h0 h1 h2=>(a b j h0 h1 h2).imp id (h b j _ h0)
include L X
def WrX (S S':Ap)(k:Bool)(all:List Nat)(r:WO)(n b j:Nat)(p:Pg):Prop:=n=b*S.D.P+j∧(r= .done n∧p=⟨2,all⟩∨r= .pow∧PgT all p∧S'.jr (b:Int)=k)
omit L X
theorem WrP.new {k:Bool}{all:List Nat}{r:WO}(h:WrP k all S S' r): ∀q:AInv S,∃n,NewP S S' (WrX S S' k all r n):=by
 induction h with
 |stop h=>exact fun q=>(q.w1 _ _).2.2.2.2
 | @more S S' r h t ih=>
  intro q;have f:=dg S k all;obtain⟨a,-,-,-,_,nw⟩:=q.w1 k all;obtain⟨n,ih⟩:=ih a;obtain⟨-,kk,-⟩:=t.inv a;refine⟨n,(nw.trans kk f.nb ih).mono fun b j p _ e=>?_⟩;rcases e with⟨-,⟨e,-⟩|⟨e,-⟩⟩|e;·rw [h]at e;cases e
  ·rw [h]at e;cases e
  ·unfold WrX at e;rw [f.P]at e;exact e
theorem Abp (n:Nat)(l:List Nat)(hi:i<l.length):(Po n l)[i]?=if i<n then l[i]? else some 255:=by
 unfold Po;split;·rename_i h;rw [List.getElem?_append_left (by rw [List.length_take];omega),List.getElem?_take_of_lt h]
 ·rename_i h;rw [List.getElem?_append_right (by rw [List.length_take];omega),List.getElem?_replicate,if_pos (by rw [List.length_take];omega)]
theorem PgT.dec (h:PgT (data++Au s data) p)(hd:data.length=z):p.b=data++Au s data∨Mv (p.b.drop z) (p.b.take z)=none:=by
 obtain⟨-,n,e⟩:=h;have hr:(Au s data).length=64:=by unfold Au;rw [List.length_append,A3,B6]
 have hl:(data++Au s data).length=z+64:=by rw [List.length_append,hr,hd]
 have ge: ∀i,i<z+64→p.b[i]?=if i<n then(data++Au s data)[i]? else some 255:=fun i hi=>by rw [e];exact Abp n _ (by omega)
 have hpl:p.b.length=z+64:=by rw [e];unfold Po;rw [List.length_append,List.length_take,List.length_replicate];omega
 have fin:(∀i,i<z+64→p.b[i]?=(data++Au s data)[i]?)→p.b=data++Au s data:=fun h=>List.ext_getElem? fun i=>by
  rcases Nat.lt_or_ge i (z+64)with hi|hi;·exact h i hi
  ·rw [List.getElem?_eq_none (by omega),List.getElem?_eq_none (by omega)]
 by_cases hn:z+64≤n;·exact .inl (fin fun i hi=>by rw [ge i hi,if_pos (by omega)])
 cases hc:Mv (p.b.drop z) (p.b.take z)with
 |none=>exact .inr rfl
 |some s'=>
  left;unfold Mv at hc;split at hc
  ·rename_i hq;obtain⟨c1,-,c3⟩:=hq;have h59:p.b[z+59]?=some 0:=(by have h1:((p.b.drop z).take 60)[59]?=some 0:=(by rw [c3];unfold A6;rw [List.getElem?_append_right (by simp [mag,A3])];simp [mag,A3]);rw [List.getElem?_take_of_lt (by omega),List.getElem?_drop]at h1;exact h1);have hn2:z+60≤n:=by
    rcases Nat.lt_or_ge (z+59) n with h|h;·omega
    ·rw [ge _ (by omega),if_neg (by omega)]at h59;cases h59
   have h60: ∀i,i<z+60→p.b[i]?=(data++Au s data)[i]?:=fun i hi=>by rw [ge i (by omega),if_pos (by omega)]
   have t1:p.b.take z=data:=List.ext_getElem? fun i=>by
    rcases Nat.lt_or_ge i z with hi|hi;·rw [List.getElem?_take_of_lt hi,h60 i (by omega),List.getElem?_append_left (by omega)]
    ·rw [List.getElem?_eq_none (by rw [List.length_take];omega),List.getElem?_eq_none (by omega)]
   have t2:(p.b.drop z).take 60=A6 s:=List.ext_getElem? fun i=>by
    rcases Nat.lt_or_ge i 60 with hi|hi;·rw [List.getElem?_take_of_lt hi,List.getElem?_drop,h60 _ (by omega),List.getElem?_append_right (by omega)];unfold Au;rw [List.getElem?_append_left (by rw [B6];omega)];congr 1;omega
    ·rw [List.getElem?_eq_none (by rw [List.length_take];omega),List.getElem?_eq_none (by rw [B6];omega)]
   rw [t1,t2]at c1;have e8:crcB (data++A6 s)<4294967296:=Mq _;have gd: ∀i,i<4→(p.b.drop z).getD (60+i) 0=if z+60+i<n then(leb 4 (crcB (data++A6 s))).getD i 0 else 255:=fun i hi=>by
    rw [List.getD_eq_getElem?_getD,List.getElem?_drop,ge _ (by omega),show z+(60+i)=z+60+i by omega];split;·rw [List.getElem?_append_right (by omega)];unfold Au;rw [List.getElem?_append_right (by rw [B6];omega),List.getD_eq_getElem?_getD,B6,show z+60+i - data.length - 60=i by omega]
    ·rfl
   generalize hcv:crcB (data++A6 s)=c at*;have key: ∀i,i<4→(p.b.drop z).getD (60+i) 0=(leb 4 c).getD i 0:=by
    have b0:=gd 0 (by omega);have b1:=gd 1 (by omega);have b2:=gd 2 (by omega);have b3:=gd 3 (by omega);simp only [leF]at c1;simp only [leb,List.getD_cons_zero,List.getD_cons_succ]at b0 b1 b2 b3;have l0: ∀{x y:Nat} {P:Prop} [Decidable P],(x=if P then y else 255)→y<256→x<256:=fun h hy=>by rw [h];split <;> omega
    have m0:=l0 b0 (by omega);have m1:=l0 b1 (by omega);have m2:=l0 b2 (by omega);have m3:=l0 b3 (by omega);clear b0 b1 b2 b3;intro i hi;match i,hi with
    |0,_=>show _=c % 256;simp only [Nat.add_zero]at *;omega
    |1,_=>show _=c / 256 % 256;simp only [Nat.reduceAdd,Nat.add_zero]at *;omega
    |2,_=>show _=c / 256 / 256 % 256;simp only [Nat.reduceAdd,Nat.add_zero]at *;omega
    |3,_=>show _=c / 256 / 256 / 256 % 256;simp only [Nat.reduceAdd,Nat.add_zero]at *;omega
   refine fin fun i hi=>?_;rcases Nat.lt_or_ge i (z+60)with h|h
   ·exact h60 i h
   ·have k:=key (i - z - 60) (by omega);rw [List.getD_eq_getElem?_getD,List.getD_eq_getElem?_getD,List.getElem?_drop,show z+(60+(i - z - 60))=i by omega]at k;rw [List.getElem?_append_right (by omega)];unfold Au;rw [List.getElem?_append_right (by rw [B6];omega),B6,hcv,show i - data.length - 60=i - z - 60 by omega];rw [List.getElem?_eq_getElem (show i<p.b.length by omega),List.getElem?_eq_getElem (show i - z - 60<(leb 4 c).length by rw [A3];omega)]at k ⊢;exact congrArg some k
  ·cases hc
include L X
def m7 (z:Nat)(p:Pg):Prop:=p.st=2∨p.st=3→Mv (p.b.drop z) (p.b.take z)=none
def DatP (sz n:Nat)(p:Pg):Prop:=m7 sz p∨ ∃(sec:Int) (m:Nat) (data:List Nat),PgB (data++Au (spD sec m) data) p∧data.length=sz∧0≤sec∧sec<1000∧1≤m∧m<n
def JrnP (sz:Nat)(x:JPg)(p:Pg):Prop:=PgB (Cd sz x.2++Au x.1 (Cd sz x.2)) p
omit L X
theorem dj (h:p.st≠2∧p.st≠3):m7 z p:=fun e=>absurd e (by omega)
theorem PgT.two (h:PgT (data++Au s data) p)(hd:data.length=z):PgB (data++Au s data) p∨m7 z p:=(h.dec hd).imp (fun e=>⟨h.1,e⟩) fun e _=>e
theorem StP.new {sec:Int}(h:StP sec data S S' o)(q:AInv S)(hd:data.length=S.D.sz)(hs:0≤sec∧sec<1000)(h1:1≤S.next):NewP S S' fun _ _ p=>DatP S.D.sz (S.next+1) p:=by
 have q1:AInv {S with next:=S.next+1}:=q.nw (S.next+1) S.last S.wr (Nat.succ_pos _);have key: ∀{S1:Ap} {r:WO},WrP false (data++Au (spD sec S.next) data) {S with next:=S.next+1} S1 r→NewP {S with next:=S.next+1} S1 fun _ _ p=>DatP S.D.sz (S.next+1) p:=fun h=>(h.new q1).elim fun _ h=>h.mono fun b j p _ e=>by
  have k:PgB (data++Au (spD sec S.next) data) p→DatP S.D.sz (S.next+1) p:=fun e=> .inr ⟨sec,S.next,data,e,hd,hs.1,hs.2,h1,Nat.lt_succ_self _⟩;rcases e with⟨-,⟨-,e⟩|⟨-,e,-⟩⟩
  ·exact k ⟨.inl (by rw [e]),by rw [e]⟩
  ·exact(e.two hd).elim k .inl
 cases h with
 |ok h=>have r:=key h;exact r
 |bad h _=>exact key h
theorem DatP.mono {sz n n':Nat}(h:n≤n'):DatP sz n p→DatP sz n' p:=Or.imp id fun⟨s,m,d,h1,h2,h3,h4,h5,h6⟩=>⟨s,m,d,h1,h2,h3,h4,h5,by omega⟩
theorem AppP.new {l:List (Int×Option (List Nat))}{es:List Ent}(h:AppP l S es S' o): ∀(q:AInv S),1≤S.next→(∀s d,(s,some d)∈l→d.length=S.D.sz∧0≤s∧s<1000)→NewP S S' (fun _ _ p=>DatP S.D.sz S'.next p)∧S.next≤S'.next:=by
 induction h with
 |nil=>exact fun q _ _=>⟨.refl rfl,Nat.le_refl _⟩
 |put h r ih=>
  intro q h1 hd;obtain⟨d1,d2⟩:=hd _ _ (List.mem_cons_self ..);obtain⟨f,-,-,fn⟩:=h.fr q.iw;obtain⟨a,-⟩:=h.inv q;obtain⟨-,kk,-⟩:=r.inv a;obtain⟨i1,i2⟩:=ih a (by omega) fun s d hm=>by rw [f.sz];exact hd s d (List.mem_cons_of_mem _ hm)
  rw [f.sz]at i1;exact⟨((h.new q d1 d2 h1).trans kk f.nb i1).mono fun _ _ _ _ e=>e.elim (DatP.mono (by omega)) id,by omega⟩
 |bad h _=>intro q h1 hd;obtain⟨d1,d2⟩:=hd _ _ (List.mem_cons_self ..);obtain⟨f,-,-,fn⟩:=h.fr q.iw;exact⟨by rw [fn];exact h.new q d1 d2 h1,by omega⟩
 |trim _ _ ih=>exact fun q h1 hd=>ih q h1 fun s d hm=>hd s d (List.mem_cons_of_mem _ hm)
 |skip _ _ ih=>exact fun q h1 hd=>ih q h1 fun s d hm=>hd s d (List.mem_cons_of_mem _ hm)
include L X
def xd (sz:Nat)(l:List JPg)(S S':Ap)(N:Nat→Prop):Prop:= ∀x∈l,∃b j:Nat,b<S.D.nb∧j<(S'.D.bl b).nx∧JrnP sz x ((S'.D.bl b).pg j)∧S'.jr (b:Int)=true∧ ¬N b
omit L X in
theorem RlP.new {sz:Nat}{l:List JPg}(h:RlP sz l S S' o): ∀(q:AInv S) (hl: ∀x∈l,4+8*x.2.length≤sz),∃Ls:List Nat,NewP S S' (fun b j p=>m7 sz p∨ ∃(i:Nat) (x:JPg),l[i]?=some x∧Ls[i]?=some (b*S.D.P+j)∧JrnP sz x p)∧(o≠ .done 0→Ls.length<l.length∨o= .pow∧xd sz l S S' fun _=>False)∧ (o= .done 0→xd sz l S S' fun b=>S.ps b=3):=by
 induction h with
 |nil=>exact fun q _=>⟨[],.refl rfl,(fun h=>absurd rfl h),fun _ x hx=>by cases hx⟩
 | @cons x r S S1 S' p o h t ih=>
  intro q hl;obtain⟨a,k1,-,e⟩:=h.inv q;have f:=h.fr;obtain⟨b,j,e1,e2,e3,e4,e5,e6,e7,e8⟩:=e p rfl;obtain⟨-,kk,-⟩:=t.inv a;obtain⟨Ls,m2,m3,m4⟩:=ih a fun y hy=>hl y (List.mem_cons_of_mem _ hy);obtain⟨n,nw⟩:=h.new q;have key: ∀N N':Nat→Prop,¬N b→xd sz r S1 S' N'→(∀b,b<S.D.nb→ ¬N' b→ ¬N b)→xd sz (x::r) S S' N:=fun N N' hb hr hN y hy=>by
   rcases List.mem_cons.1 hy with rfl|hy;·exact⟨b,j,e2,Nat.lt_of_lt_of_le e6 (kk.nx b (by rw [f.nb];exact e2)),by rw [kk.pg b j (by rw [f.nb];exact e2) e6,e7];exact⟨.inl rfl,rfl⟩,by rw [kk.jrm b (by rw [f.nb];exact e2) (by omega)];exact e5,hb⟩
   ·obtain⟨b,j,g1,g2,g3,g4,g5⟩:=hr y hy;rw [f.nb]at g1;exact⟨b,j,g1,g2,g3,g4,hN b g1 g5⟩
  refine⟨n::Ls,(nw.trans kk f.nb m2).mono fun b j p _ e=>?_,fun ho=>(m3 ho).imp (fun h=>by simp only [List.length_cons];omega) fun h=>⟨h.1,key _ _ id h.2 fun _ _ _=>id⟩,fun ho=>key _ _ (fun h3=>?_) (m4 ho) fun b hb g h3=>g (k1.ps3 b hb h3)⟩
  ·rcases e with⟨e0,⟨-,e⟩|⟨e,-⟩⟩|e|⟨i,y,g1,g2,e⟩;·exact .inr ⟨0,x,rfl,by rw [e0];rfl,by rw [e];exact⟨.inl rfl,rfl⟩⟩
   ·cases e
   ·exact .inl e
   ·rw [f.P]at g2;exact .inr ⟨i+1,y,g1,g2,e⟩
  ·have:=k1.ps3 b e2 h3;omega
 | @bad x r S S1 o h ho=>
  intro q hl;have hod:o≠ .done 0:=fun e=>by rcases ho with h|h <;> rw [h]at e <;> cases e
  have he:=Dz (hl x (List.mem_cons_self ..));obtain⟨n,nw⟩:=h.new q;have hw:NewP S S1 fun b j p=>m7 sz p∨n=b*S.D.P+j∧JrnP sz x p∧o= .pow∧S1.jr ((b:Nat):Int)=true:=nw.mono fun b j p _ e=>by
   rcases e with⟨e0,⟨e,-⟩|⟨e1,e,g⟩⟩;·rcases ho with h|h <;> rw [h]at e <;> cases e
   ·exact(e.two he).elim (fun e=> .inr ⟨e0,e,e1,g⟩) .inl
  by_cases hx: ∃b j:Nat,b<S.D.nb∧j<(S1.D.bl b).nx∧JrnP sz x ((S1.D.bl b).pg j)∧o= .pow∧S1.jr (b:Int)=true
  ·refine⟨[n],hw.mono fun _ _ p _ e=>e.imp id fun e=>⟨0,x,rfl,by rw [e.1];rfl,e.2.1⟩,fun _=>?_,fun e=>absurd e hod⟩
   cases r with
   |nil=>obtain⟨b,j,h1,h2,h3,h4,h5⟩:=hx;refine .inr ⟨h4,fun y hy=>?_⟩;rw [List.mem_singleton.1 hy];exact⟨b,j,h1,h2,h3,h5,id⟩
   |cons _ _=>exact .inl (by simp)
  ·refine⟨[],fun b j hb h1 h2=>(hw b j hb h1 h2).imp id fun e=>e.imp id fun e=>absurd ⟨b,j,hb,h2,e.2⟩ hx,fun _=> .inl (Nat.succ_pos _),fun e=>absurd e hod⟩
structure Rc where
 k:Nat
 f:Nat
 p:Nat
 es:List Ent
def Rc.n (z:Nat)(r:Rc):Nat:=cntJ z r.es.length
def Rc.pg (z:Nat)(r:Rc)(i:Nat):JPg:=Cy r.k z r.f r.p r.es i
def Rc.l (z:Nat)(r:Rc):Nat:=r.f+r.n z - 1
structure Rc.Ok (m:Nat)(r:Rc):Prop where
 k:r.k=2∨r.k=3
 p:r.p<r.f
 n:r.f<m
 len:r.es.length≤20
 es: ∀e∈r.es,e.Ok
omit L X
theorem Rc.n1 (z:Nat)(r:Rc):1≤r.n z:=Nat.le_max_left ..
theorem Rc.Ok.mono {r:Rc}(q:r.Ok m)(h:m≤m'):r.Ok m':=⟨q.k,q.p,Nat.lt_of_lt_of_le q.n h,q.len,q.es⟩
theorem Rc.Ok.fit {r:Rc}(q:r.Ok m)(hz:12≤z∧z≤30)(hm:m<1000000)(hi:i<r.n z):(r.pg z i).1.Fit:=by have h:=q.n;have hn:=Vo (sz:=z) (n:=r.es.length) (by omega) (by have:=q.len;omega);exact T6 q.k ⟨q.p,by omega⟩ hi hn.2
theorem JrnP.inj {x x':JPg}(h:JrnP z x p)(h':JrnP z x' p)(q:x.1.Fit)(q':x'.1.Fit)(l:4+8*x.2.length≤z)(l':4+8*x'.2.length≤z):x.1=x'.1:=by obtain⟨e1,e2⟩:=List.append_inj (h.2.symm.trans h'.2) (by rw [Dz l,Dz l']);have g:=Sa (data:=Cd z x.2) q;rw [e2,e1,Sa q']at g;exact(Option.some.inj g).symm
theorem PgB.dec (h:PgB (data++Au s data) p)(hd:data.length=z)(q:s.Fit):Mv (p.b.drop z) (p.b.take z)=some s:=by rw [h.2,←hd,List.drop_left,List.take_left];exact Sa q
theorem DatP.ne {x:JPg}(h:DatP z m p)(h':JrnP z x p)(q:x.1.Fit)(hk:x.1.kind=2∨x.1.kind=3)(l:4+8*x.2.length≤z)(hm:m<1000000):False:=by
 have g:=h'.dec (Dz l) q;rcases h with h|⟨sec,n,d,e,hl,h1,h2,h3,h4⟩;·rw [h h'.1]at g;cases g
 ·rw [e.dec hl (Nb (by omega) (by omega))]at g;have:=congrArg Sp.kind (Option.some.inj g);have:(1:Nat)=x.1.kind:=this;omega
theorem Rc.Ok.pg_inj {i':Nat}{r r':Rc}(q:r.Ok m)(q':r'.Ok m')(hz:12≤z∧z≤30)(hm:m<1000000∧m'<1000000)(hi:i<r.n z)(hi':i'<r'.n z)(h:JrnP z (r.pg z i) p)(h':JrnP z (r'.pg z i') p):r.f=r'.f∧i=i':=by have e:=h.inj h' (q.fit hz hm.1 hi) (q'.fit hz hm.2 hi') (Cf hz.1 i) (Cf hz.1 i');have e1:r.f+i=r'.f+i':=congrArg Sp.seq e;have e2:(i:Int)=(i':Int):=congrArg Sp.idx e;omega
include L X
def On (S:Ap)(b j:Nat)(x:JPg):Prop:=b<S.D.nb∧j<(S.D.bl b).nx∧JrnP S.D.sz x ((S.D.bl b).pg j)
def Rc.Abs (S:Ap)(r:Rc):Prop:= ∃i,i<r.n S.D.sz∧ ∀b j,¬On S b j (r.pg S.D.sz i)
def Rc.Liv (S:Ap)(N:Nat→Prop)(r:Rc):Prop:= ∀i,i<r.n S.D.sz→ ∃b j:Nat,On S b j (r.pg S.D.sz i)∧S.jr (b:Int)=true∧ ¬N b
def Rc.Uq (S:Ap)(r:Rc):Prop:= ∀i,i<r.n S.D.sz→ ∀b j b' j',On S b j (r.pg S.D.sz i)→On S b' j' (r.pg S.D.sz i)→b=b'∧j=j'
def Bck (S S':Ap)(Hs:List Rc):Prop:=S'.D.sz=S.D.sz∧ ∀r∈Hs,∀i,i<r.n S.D.sz→ ∀b j,On S' b j (r.pg S.D.sz i)→On S b j (r.pg S.D.sz i)
omit L X in
theorem Bck.abs {Hs:List Rc}(h:Bck S S' Hs){r:Rc}(hr:r∈Hs):r.Abs S→r.Abs S':=fun⟨i,hi,g⟩=>by
 rw [Rc.Abs,h.1];exact⟨i,hi,fun b j o=>g b j (h.2 r hr i hi b j o)⟩
omit L X in
theorem Bck.uq {Hs:List Rc}(h:Bck S S' Hs){r:Rc}(hr:r∈Hs)(g:r.Uq S):r.Uq S':=by unfold Rc.Uq;rw [h.1];exact fun i hi b j b' j' o o'=>g i hi b j b' j' (h.2 r hr i hi b j o) (h.2 r hr i hi b' j' o')
structure JB (S:Ap)(Hs:List Rc):Prop where
 pg: ∀b j,b<S.D.nb→j<(S.D.bl b).nx→DatP S.D.sz S.next ((S.D.bl b).pg j)∨ ∃r∈Hs,∃i,i<r.n S.D.sz∧JrnP S.D.sz (r.pg S.D.sz i) ((S.D.bl b).pg j)
 ok: ∀r∈Hs,r.Ok S.next
 inj: ∀r∈Hs,∀r'∈Hs,r.f=r'.f→r=r'
omit L X in
theorem JB.ext {Hs X:List Rc}(q:JB S Hs)(a:AInv S)(kk:Keep S S')(nb:S'.D.nb=S.D.nb)(sz:S'.D.sz=S.D.sz)(nn:S.next≤S'.next∧S'.next<1000000)(hx: ∀r∈X,r.Ok S'.next∧S.next≤r.f)(hX: ∀r∈X,∀r'∈X,r=r') (new:NewP S S' fun _ _ p=>DatP S.D.sz S'.next p∨ ∃r∈X,∃i,i<r.n S.D.sz∧JrnP S.D.sz (r.pg S.D.sz i) p):JB S' (X++Hs)∧Bck S S' Hs∧ ∀(r:Rc) (N:Nat→Prop),r.Liv S N→r.Liv S' N:=by
 have hz:=a.geo.sz;refine⟨⟨fun b j hb hj=>?_,fun r hr=>?_,fun r hr r' hr' e=>?_⟩,⟨sz,fun r hr i hi b j ⟨o1,o2,o3⟩=>?_⟩,fun r N hl i hi=>?_⟩
 ·rw [nb]at hb;rw [sz];rcases Nat.lt_or_ge j (S.D.bl b).nx with h|h
  ·rw [kk.pg b j hb h];rcases q.pg b j hb h with h|⟨r,h1,h2⟩;·exact .inl (h.mono nn.1)
   ·exact .inr ⟨r,List.mem_append_right _ h1,h2⟩
  ·rcases new b j hb h hj with h|h|⟨r,h1,h2⟩;·exact .inl (.inl (dj (by omega)))
   ·exact .inl h
   ·exact .inr ⟨r,List.mem_append_left _ h1,h2⟩
 ·rcases List.mem_append.1 hr with h|h;·exact(hx r h).1
  ·exact(q.ok r h).mono nn.1
 ·rcases List.mem_append.1 hr with h|h <;> rcases List.mem_append.1 hr' with h'|h';·exact hX r h r' h'
  ·have:=(hx r h).2;have:=(q.ok r' h').n;omega
  ·have:=(hx r' h').2;have:=(q.ok r h).n;omega
  ·exact q.inj r h r' h' e
 ·rw [nb]at o1;rw [sz]at o3;have qr:=q.ok r hr;rcases Nat.lt_or_ge j (S.D.bl b).nx with hj|hj;·exact⟨o1,hj,by rw [←kk.pg b j o1 hj];exact o3⟩
  ·rcases new b j o1 hj o2 with n|n|⟨r',h1,i',h2,h3⟩;·rcases o3.1 with e|e <;> omega
   ·exact(n.ne o3 (qr.fit hz (by omega) hi) qr.k (Cf hz.1 i) nn.2).elim
   ·obtain⟨e,-⟩:=qr.pg_inj (hx r' h1).1 hz (by omega) hi h2 o3 h3;have:=(hx r' h1).2;have:=qr.n;omega
 ·rw [sz]at hi ⊢;obtain⟨b,j,⟨o1,o2,o3⟩,o4,o5⟩:=hl i hi;obtain⟨b',e1,e2,e3⟩:=a.jr _ o4;have hb:b'=b:=by omega
  subst hb;exact⟨b',j,⟨by rw [nb];exact o1,Nat.lt_of_lt_of_le o2 (kk.nx b' o1),by rw [kk.pg b' j o1 o2,sz];exact o3⟩,by rw [kk.jrm b' o1 (by omega)];exact o4,o5⟩
omit L X in
theorem RcP.jb {es:List Ent}{Hs:List Rc}(h:RcP k es S S' o)(q:JB S Hs)(a:AInv S)(hk:k=2∨k=3)(hl:S.last<S.next)(hn:S.next+recN S es<1000000)(hes:es.length≤20∧ ∀e∈es,e.Ok): JB S' (⟨k,S.next,S.last,es⟩::Hs)∧Bck S S' Hs∧(∀(r:Rc) (N:Nat→Prop),r.Liv S N→r.Liv S' N)∧Rc.Uq S' ⟨k,S.next,S.last,es⟩∧(o≠ .done 0→Rc.Abs S' ⟨k,S.next,S.last,es⟩∨o= .pow∧Rc.Liv S' (fun _=>False) ⟨k,S.next,S.last,es⟩)∧(o= .done 0→Rc.Liv S' (fun b=>S.ps b=3) ⟨k,S.next,S.last,es⟩∧S'.last=S.next+recN S es - 1)∧S'.next=S.next+recN S es:=by
 have a1:AInv {S with next:=S.next+recN S es}:=a.nw (S.next+recN S es) S.last S.wr (Nat.le_trans a.n0 (Nat.le_add_right _ _));have hz:=a.geo.sz;have hr1:1≤recN S es:=Nat.le_max_left ..;have ok:Rc.Ok (S.next+recN S es) ⟨k,S.next,S.last,es⟩:=⟨hk,hl,by simp only;omega,hes.1,hes.2⟩;have hL: ∀{i:Nat} {x:JPg},(Ep k S es)[i]?=some x→i<recN S es∧x=Rc.pg S.D.sz ⟨k,S.next,S.last,es⟩ i:=fun {i x} hx=>by obtain⟨hi,e⟩:=List.getElem?_eq_some_iff.1 hx;unfold Ep My at hi e;rw [List.length_map,List.length_range]at hi;rw [List.getElem_map,List.getElem_range]at e;exact⟨hi,e.symm⟩
 have hlen:(Ep k S es).length=recN S es:=by unfold Ep My;rw [List.length_map,List.length_range]
 have hfit: ∀x∈Ep k S es,4+8*x.2.length≤S.D.sz:=fun x hx=>by obtain⟨i,hi⟩:=List.mem_iff_getElem?.1 hx;obtain⟨-,rfl⟩:=hL hi;exact Cf hz.1 i
 have key: ∀{S1:Ap} {o:WO},RlP S.D.sz (Ep k S es) {S with next:=S.next+recN S es} S1 o→S1.next=S.next+recN S es∧(JB S1 (⟨k,S.next,S.last,es⟩::Hs)∧Bck S S1 Hs∧(∀(r:Rc) (N:Nat→Prop),r.Liv S N→r.Liv S1 N))∧Rc.Uq S1 ⟨k,S.next,S.last,es⟩∧(o≠ .done 0→Rc.Abs S1 ⟨k,S.next,S.last,es⟩∨o= .pow∧Rc.Liv S1 (fun _=>False) ⟨k,S.next,S.last,es⟩)∧
   (o= .done 0→Rc.Liv S1 (fun b=>S.ps b=3) ⟨k,S.next,S.last,es⟩):=by
  intro S1 o h
  obtain⟨b1,kk,-⟩:=h.inv a1
  have f:=(h.fr a1.iw).1
  have kk:Keep S S1:=⟨kk.nx,kk.pg,kk.ps3,kk.psm,kk.jrm,kk.n1,Nat.le_trans (Nat.le_add_right _ _) kk.nt⟩
  obtain⟨Ls,m2,m3,m4⟩:=h.new a1 hfit
  have m2:NewP S S1 fun b j p=>m7 S.D.sz p∨ ∃(i:Nat) (x:JPg),(Ep k S es)[i]?=some x∧Ls[i]?=some (b*S.D.P+j)∧JrnP S.D.sz x p:=m2
  have fn:S1.next=S.next+recN S es:=f.next
  have liv: ∀N,xd S.D.sz (Ep k S es) {S with next:=S.next+recN S es} S1 N→Rc.Liv S1 N ⟨k,S.next,S.last,es⟩:=fun N h i hi=>by
   rw [f.sz]at hi ⊢
   have hin:Rc.pg S.D.sz ⟨k,S.next,S.last,es⟩ i∈Ep k S es:=List.mem_map.2 ⟨i,List.mem_range.2 hi,rfl⟩
   obtain⟨b,j,g1,g2,g3,g4,g5⟩:=h _ hin
   exact⟨b,j,⟨by rw [f.nb];exact g1,g2,by rw [f.sz];exact g3⟩,g4,g5⟩
  have loc: ∀i,i<recN S es→ ∀b j,On S1 b j (Rc.pg S.D.sz ⟨k,S.next,S.last,es⟩ i)→Ls[i]?=some (b*S.D.P+j):=fun i hi b j ⟨o1,o2,o3⟩=>by
   rw [f.nb]at o1
   rw [f.sz]at o3
   rcases Nat.lt_or_ge j (S.D.bl b).nx with hj|hj
   ·rw [kk.pg b j o1 hj]at o3
    rcases q.pg b j o1 hj with n|⟨r',h1,i',h2,h3⟩
    ·exact(n.ne o3 (ok.fit hz hn hi) hk (Cf hz.1 i) (by omega)).elim
    ·have q':=q.ok r' h1
     obtain⟨e,-⟩:=ok.pg_inj q' hz ⟨hn,by omega⟩ hi h2 o3 h3
     have:=q'.n;simp only at e;omega
   ·rcases m2 b j o1 hj o2 with n|n|⟨i',x,hx,hL',n⟩
    ·rcases o3.1 with e|e <;> omega
    ·have g:=o3.dec (Dz (Cf hz.1 i)) (ok.fit hz hn hi)
     rw [n o3.1]at g;cases g
    ·obtain⟨hi2,rfl⟩:=hL hx
     obtain⟨-,e⟩:=ok.pg_inj ok hz ⟨hn,hn⟩ hi hi2 o3 n
     rw [e];exact hL'
  refine⟨fn,?_,?_,fun ho=>(m3 ho).imp (fun hm=>?_) (And.imp_right (liv _)),fun ho=>liv _ (m4 ho)⟩
  ·refine q.ext (X:= [⟨k,S.next,S.last,es⟩]) a kk f.nb f.sz ⟨by omega,by omega⟩ (fun r hr=>?_) (fun r hr r' hr'=>by rw [List.mem_singleton.1 hr,List.mem_singleton.1 hr']) (m2.mono fun b j p _ e=>e.imp .inl fun⟨i,x,hx,_,e⟩=>?_)
   ·rw [List.mem_singleton.1 hr,fn];exact⟨ok,Nat.le_refl _⟩
   ·obtain⟨hi,rfl⟩:=hL hx
    exact⟨_,List.mem_singleton_self _,i,hi,e⟩
  ·unfold Rc.Uq
   rw [f.sz]
   intro i hi b j b' j' o o'
   have e:=(loc i hi b j o).symm.trans (loc i hi b' j' o')
   have h1:=b1.nxP b o.1
   have h2:=b1.nxP b' o'.1
   have h3:=o.2.1
   have h4:=o'.2.1
   have fP:S1.D.P=S.D.P:=f.P
   rw [fP]at h1 h2
   exact Hm (by omega) (by omega) (Option.some.inj e)
  ·rw [Rc.Abs,f.sz]
   rw [hlen]at hm
   refine⟨Ls.length,hm,fun b j o=>?_⟩
   have:=loc _ hm b j o
   rw [List.getElem?_eq_none (Nat.le_refl _)]at this;cases this
 cases h with
 | @ok S1 h=>obtain⟨fn,⟨j1,j2,j3⟩,ju,-,j5⟩:=key h;exact⟨⟨j1.pg,j1.ok,j1.inj⟩,j2,j3,ju,(fun ho=>absurd rfl ho),(fun ho=>⟨j5 ho,rfl⟩),fn⟩
 |bad h ho=>obtain⟨fn,⟨j1,j2,j3⟩,ju,j4,-⟩:=key h;exact⟨j1,j2,j3,ju,j4,(fun e=>by rcases ho with h|h <;> rw [h]at e <;> cases e),fn⟩
def Fol (z n:Nat):List Rc→Nat→Prop
 | [],m=>m=n
 |r::l,m=>r.k=2∧r.p=n∧Fol z (r.l z) l m
omit L X in
theorem Fol.snoc {z m:Nat}{r:Rc}(hk:r.k=2)(hp:r.p=m): ∀{l:List Rc} {n:Nat},Fol z n l m→Fol z n (l++ [r]) (r.l z)
 | [],n,h=>⟨hk,hp.trans h,rfl⟩
 |x::l,n,h=>⟨h.1,h.2.1,Fol.snoc hk hp h.2.2⟩
def Lnk (z:Nat)(Cs:List Rc)(m:Nat):Prop:=Fol z 0 Cs m∨ ∃c l,Cs=c::l∧c.k=3∧Fol z (c.l z) l m
omit L X in
theorem Lnk.snoc {z m:Nat}{r:Rc}{l:List Rc}(hk:r.k=2)(hp:r.p=m)(h:Lnk z l m):Lnk z (l++ [r]) (r.l z):= h.imp (Fol.snoc hk hp) fun⟨c,t,e,hc,hf⟩=>⟨c,t++ [r],by rw [e];rfl,hc,hf.snoc hk hp⟩
def MpG (S:Ap)(s p:Int):Prop:= ∃(b j n:Nat) (data:List Nat),p=((b*S.D.P+j:Nat):Int)∧b<S.D.nb∧j<S.D.P∧j<(S.D.bl b).nx∧(S.D.bl b).pg j=⟨2,data++Au (spD s n) data⟩∧data.length=S.D.sz∧1≤n∧n<S.next
omit L X in
theorem MpG.keep {s p:Int}(q:MpG S s p)(k:Keep S S')(sm:Sm S S'):MpG S' s p:=by obtain⟨b,j,n,d,h1,h2,h3,h6,h7,h8,h9,ha⟩:=q;exact⟨b,j,n,d,by rw [sm.P];exact h1,by rw [sm.nb];exact h2,by rw [sm.P];exact h3,Nat.lt_of_lt_of_le h6 (k.nx b h2),by rw [k.pg b j h2 h6];exact h7,by rw [sm.sz];exact h8,h9,Nat.lt_of_lt_of_le ha k.nt⟩
omit L X in
theorem PgOk.mp {s p:Int}(q:PgOk S s data p)(h:data.length=S.D.sz):MpG S s p:=
 let⟨b,j,n,h1,h2,h3,_,_,h6,h7,h8⟩:=q.ex;⟨b,j,n,data,h1,h2,h3,h6,h7,h,h8⟩
def ApE (S T:Nat)(A:Int→Option Int)(l:List Ent):Prop:= ∀j x,l[j]?=some x→okE S T (stA A l j) x
omit L X in
theorem ApE.app {S T:Nat}{A:Int→Option Int}{l es:List Ent}(h:ApE S T A l)(h2:ApE S T (l.foldl C0 A) es):ApE S T A (l++es):=fun j x hx=>by
 rcases Nat.lt_or_ge j l.length with hj|hj
 ·rw [List.getElem?_append_left hj]at hx
  have:=h j x hx
  unfold stA at this ⊢
  rwa [List.take_append_of_le_length (by omega)]
 ·rw [List.getElem?_append_right hj]at hx
  have:=h2 _ x hx
  unfold stA at this ⊢
  rwa [List.take_append,List.take_of_length_le hj,List.foldl_append]
structure Jst (S:Ap)(Hs Cs:List Rc):Prop extends JB S Hs where
 sub: ∀r∈Cs,r∈Hs
 live: ∀r∈Cs,r.Liv S fun _=>False
 uq: ∀r∈Cs,r.Uq S
 rest: ∀r∈Hs,r∈Cs∨(∃c,Cs.head?=some c∧c.k=3∧r.f<c.f)∨r.Abs S
 lnk:Lnk S.D.sz Cs S.last
 sem:S.A=(Cs.flatMap Rc.es).foldl C0 fun _=>none
 ap:ApE S.S (S.D.nb*S.D.P) (fun _=>none) (Cs.flatMap Rc.es)
 map: ∀s p,S.A s=some p→MpG S s p
def JS (S:Ap):Prop:= ∃Hs Cs,Jst S Hs Cs
def Rcv (S':Ap)(o:WO)(V:Ap→Prop):Prop:= ∃A' l',AInv {S' with A:=A',last:=l'}∧JS {S' with A:=A',last:=l'}∧l'<S'.next∧(o≠ .pow→A'=S'.A∧l'=S'.last)∧V {S' with A:=A',last:=l'}
omit L X
theorem Rcv.rf {V:Ap→Prop}(a:AInv S')(q:JS S')(h:S'.last<S'.next)(v:V S'):Rcv S' o V:=⟨S'.A,S'.last,a,q,h,fun _=>⟨rfl,rfl⟩,v⟩
theorem Jst.dat {Hs Cs:List Rc}(q:Jst S Hs Cs)(a:AInv S)(kk:Keep S S')(sm:Sm S S')(hA:S'.A=S.A)(hl:S'.last=S.last)(nn:S.next≤S'.next∧S'.next<1000000)(new:NewP S S' fun _ _ p=>DatP S.D.sz S'.next p):Jst S' Hs Cs:=by obtain⟨j1,j2,j3⟩:=q.toJB.ext (X:= []) a kk sm.nb sm.sz nn (fun _ h=>by cases h) (fun _ h=>by cases h) (new.mono fun _ _ _ _ h=> .inl h);exact⟨j1,q.sub,fun r hr=>j3 r _ (q.live r hr),fun r hr=>j2.uq (q.sub r hr) (q.uq r hr),fun r hr=>(q.rest r hr).imp id (·.imp id (j2.abs hr)),by rw [sm.sz,hl];exact q.lnk,hA.trans q.sem,by rw [sm.secs,sm.nb,sm.P];exact q.ap,fun s p h=>(q.map s p (by rw [←hA];exact h)).keep kk sm⟩
theorem Jst.add {Hs Cs:List Rc}{es:List Ent}{l':Nat}(q:Jst S Hs Cs)(j1:JB S1 (⟨2,S.next,S.last,es⟩::Hs))(j2:Bck S S1 Hs)(ju:Rc.Uq S1 ⟨2,S.next,S.last,es⟩)(j3: ∀(r:Rc) (N:Nat→Prop),r.Liv S N→r.Liv S1 N)(j4:Rc.Liv S1 (fun _=>False) ⟨2,S.next,S.last,es⟩) (kk:Keep S S1) (sm:Sm S S1) (hl:l'=S.next+recN S es - 1) (ok:ApE S.S (S.D.nb*S.D.P) S.A es) (hp: ∀e∈es,0≤e.2→MpG S e.1 e.2):Jst {S1 with A:=stA S.A es es.length,last:=l'} (⟨2,S.next,S.last,es⟩::Hs) (Cs++ [⟨2,S.next,S.last,es⟩]):=by
 refine⟨⟨j1.pg,j1.ok,j1.inj⟩,fun r hr=>?_,fun r hr=>?_,fun r hr=>?_,fun r hr=>?_,?_,?_,?_,fun s p h=>?_⟩
 ·rcases List.mem_append.1 hr with hr|hr;·exact List.mem_cons_of_mem _ (q.sub r hr)
  ·rw [List.mem_singleton.1 hr];exact List.mem_cons_self ..
 ·rcases List.mem_append.1 hr with hr|hr;·exact j3 r _ (q.live r hr)
  ·rw [List.mem_singleton.1 hr];exact j4
 ·rcases List.mem_append.1 hr with hr|hr;·exact j2.uq (q.sub r hr) (q.uq r hr)
  ·rw [List.mem_singleton.1 hr];exact ju
 ·rcases List.mem_cons.1 hr with rfl|hr;·exact .inl (List.mem_append_right _ (List.mem_singleton_self _))
  ·rcases q.rest r hr with h|⟨c,h,h2⟩|h;·exact .inl (List.mem_append_left _ h)
   ·exact .inr (.inl ⟨c,by rw [List.head?_append,h];rfl,h2⟩)
   ·exact .inr (.inr (j2.abs hr h))
 ·show Lnk S1.D.sz _ l';rw [sm.sz,hl];exact q.lnk.snoc (r:=⟨2,S.next,S.last,es⟩) rfl rfl
 ·show stA S.A es es.length=_;rw [Kx,q.sem,List.flatMap_append,List.foldl_append];simp
 ·show ApE S1.S (S1.D.nb*S1.D.P) _ _;rw [sm.secs,sm.nb,sm.P,List.flatMap_append];exact q.ap.app (by rw [←q.sem];simpa using ok)
 ·have h:stA S.A es es.length s=some p:=h;have key:MpG S1 s p:=by
   rcases Gx _ s p h with h|⟨j,e,_,e1,e2,e3,e4⟩;·exact(q.map s p h).keep kk sm
   ·rw [←e2,←e3];exact(hp e (List.mem_of_getElem? e1) (by omega)).keep kk sm
  exact key
theorem CmP.jst {es:List Ent}{Hs Cs:List Rc}(h:CmP es S S' o)(q:Jst S Hs Cs)(a:AInv S)(hl:S.last<S.next)(hn:S.next+recN S es<1000000)(hes:es.length≤20∧ ∀e∈es,e.Ok)(ok:ApE S.S (S.D.nb*S.D.P) S.A es) (hp: ∀e∈es,0≤e.2→ ∃data,PgOk S e.1 data e.2∧data.length=S.D.sz):Rcv S' o fun T=>T.A=S'.A∨o= .pow∧T.A=stA S.A es es.length:=by
 have hg: ∀e∈es,0≤e.2→ ∃data,PgOk S e.1 data e.2:=fun e he h0=>let⟨d,h,_⟩:=hp e he h0;⟨d,h⟩;have hm: ∀e∈es,0≤e.2→MpG S e.1 e.2:=fun e he h0=>let⟨d,h,h'⟩:=hp e he h0;h.mp h';obtain⟨ai,kk,-⟩:=h.inv a ok hg
 cases h with
 |nil _=>exact .rf a ⟨_,_,q⟩ hl (.inl rfl)
 | @bad S1 o h ho=>
  obtain⟨j1,j2,j3,ju,j4,-,jn⟩:=h.jb q.toJB a (.inl rfl) hl hn hes;have f:=(h.fr a.iw).1;have hod:o≠ .done 0:=fun e=>by rcases ho with h|h <;> rw [h]at e <;> cases e
  have hlast:S'.last=S.last:=by
   cases h with
   |ok _=>exact absurd rfl hod
   |bad h _=>exact(h.fr (a.nw (S.next+recN S es) S.last S.wr (Nat.le_trans a.n0 (Nat.le_add_right _ _))).iw).1.last
  have hr1:1≤recN S es:=Nat.le_max_left ..;rcases j4 hod with g|⟨rfl,g⟩
  ·exact .rf ai ⟨_,_,j1,fun r hr=>List.mem_cons_of_mem _ (q.sub r hr),fun r hr=>j3 r _ (q.live r hr),fun r hr=>j2.uq (q.sub r hr) (q.uq r hr),fun r hr=>by
    rcases List.mem_cons.1 hr with rfl|hr;·exact .inr (.inr g)
    ·exact(q.rest r hr).imp id (·.imp id (j2.abs hr)),by rw [f.sz,hlast];exact q.lnk,f.A.trans q.sem,by rw [f.secs,f.nb,f.P];exact q.ap,fun s p h=>(q.map s p (by rw [←f.A];exact h)).keep kk f.sm⟩ (by omega) (.inl rfl)
  ·refine⟨_,S.next+recN S es - 1,?_,⟨_,_,q.add j1 j2 ju j3 g kk f.sm rfl ok hm⟩,by omega,(fun h=>absurd rfl h),.inr ⟨rfl,rfl⟩⟩;have:=(ai.app (es:=es) (by rw [f.secs,f.nb,f.P,f.A];exact ok) fun e he h0=>let⟨d,h⟩:=hg e he h0;⟨d,h.keep kk f.P f.nb⟩).nw S'.next (S.next+recN S es - 1) S'.wr ai.n0;rw [f.A]at this;exact this
 | @ok S1 h hne=>obtain⟨j1,j2,j3,ju,-,j5,jn⟩:=h.jb q.toJB a (.inl rfl) hl hn hes;obtain⟨-,k1,-⟩:=h.inv a;have f:=(h.fr a.iw).1;have hr1:1≤recN S es:=Nat.le_max_left ..;obtain⟨g1,g2⟩:=j5 rfl;have:=q.add j1 j2 ju j3 (fun i hi=>let⟨b,j,e1,e2,_⟩:=g1 i hi;⟨b,j,e1,e2,id⟩) k1 f.sm g2 ok hm;rw [←f.A]at this;exact .rf ai ⟨_,_,this⟩ (by show S1.last<S1.next;omega) (.inl rfl)
theorem AppP.eok {l:List (Int×Option (List Nat))}{es:List Ent}(h:AppP l S es S' o)(q:AInv S)(hS:S.S≤10)(hr: ∀y∈l,0≤y.1∧y.1<(S.S:Int)): ∀e∈es,e.Ok:=fun e he=>by
 obtain⟨⟨y,hy,e1⟩,e2⟩:=h.es q e he
 have h1:=hr y hy
 have hP:=q.geo.P
 have hb:=q.geo.nb
 refine⟨by omega,?_⟩
 rcases e2 with e2|⟨b,j,e2,g1,g2,-⟩
 ·omega
 ·have:=Nat.mul_le_mul (show b≤12 by omega) (show S.D.P≤6 by omega)
  omega
theorem ApdP.rcv {l:List (Int×Option (List Nat))}(h:ApdP l S S' o)(a:AInv S)(bd:Bd S k)(hk:k<100000)(hS:S.S≤10)(hl:l.length≤6)(hr: ∀y∈l,0≤y.1∧y.1<(S.S:Int))(hnd:(l.map (·.1)).Nodup)(hd: ∀s d,(s,some d)∈l→d.length=S.D.sz∧0≤s∧s<S.S)(q:JS S): Rcv S' o fun T=>(∀s,T.rd s=S.rd s)∧o≠ .done 0∨RdG l S T∧(o= .done 0∨o= .pow):=by
 obtain⟨Hs,Cs,q⟩:=q;have h1:1≤S.next:=by have:=bd.last;omega
 have key: ∀{S1:Ap} {es:List Ent} {o:WO},AppP l S es S1 o→Jst S1 Hs Cs∧AInv S1∧Keep S S1∧FrS S S1∧Bd S1 (k+30*l.length)∧(∀e∈es,0≤e.2→ ∃d,(e.1,some d)∈l∧PgOk S1 e.1 d e.2∧d.length=S1.D.sz)∧es.length≤20∧ ∀e∈es,e.Ok:=fun h=>by obtain⟨b,kk,f,-⟩:=h.inv a;obtain⟨n1,n2⟩:=h.new a h1 fun s d hm=>let⟨g1,g2,g3⟩:=hd s d hm;⟨g1,g2,by omega⟩;have b1:=h.bd a.iw a.geo.nb.2 bd;have:=b1.nx;have hle:=h.len;refine⟨q.dat a kk f.sm f.A f.last ⟨n2,by omega⟩ n1,b,kk,f,b1,fun e he h0=>?_,by omega,h.eok a hS hr⟩;obtain⟨d,g1,g2⟩:=h.pg a e he h0;exact⟨d,g1,g2,by rw [f.sz];exact(hd _ _ g1).1⟩
 have cm: ∀{S1 S2:Ap} {es:List Ent} {o:WO},AppP l S es S1 (.done 0)→CmP es S1 S2 o→Rcv S2 o fun T=>(∀s,T.rd s=S.rd s)∧o≠ .done 0∨RdG l S T∧(o= .done 0∨o= .pow):=fun {S1 S2 es o} h c=>by
  obtain⟨j1,b,kk,f,b1,pg,hes⟩:=key h;have:=Iv (S:=S1) (es:=es) (by rw [f.sz];exact a.geo.sz.1);have:=b1.nx;have ok:ApE S1.S (S1.D.nb*S1.D.P) S1.A es:=by unfold ApE;rw [f.secs,f.nb,f.P,f.A];exact h.ok a hr
  obtain⟨A',l',t1,t2,t3,t4,t5⟩:=c.jst j1 b b1.last (by omega) hes ok fun e he h0=>let⟨d,_,g⟩:=pg e he h0;⟨d,g⟩;obtain⟨-,k2,-,c2,c3⟩:=c.inv b ok fun e he h0=>let⟨d,_,g,_⟩:=pg e he h0;⟨d,g⟩;have sm:=c.sm b.iw;have k3:=kk.trans k2 f.nb;have kT:Keep S {S2 with A:=A',last:=l'}:=⟨k3.nx,k3.pg,k3.ps3,k3.psm,k3.jrm,k3.n1,k3.nt⟩;have s3:=f.sm.trans sm;have sT:Sm S {S2 with A:=A',last:=l'}:=⟨s3.nb,s3.P,s3.sz,s3.en,s3.secs⟩;have fin:A'=stA S1.A es es.length→RdG l S {S2 with A:=A',last:=l'}:=fun e=>h.rdA a kT sT (by show A'=_;rw [e,f.A]) (fun e he h0=>by obtain⟨d,g1,g2,-⟩:=pg e he h0;exact⟨d,g1,g2.keep (S':= {S2 with A:=A',last:=l'}) ⟨k2.nx,k2.pg,k2.ps3,k2.psm,k2.jrm,k2.n1,k2.nt⟩ sm.P sm.nb⟩) hnd fun s d hm=>(hd s d hm).1;refine⟨A',l',t1,t2,t3,t4,?_⟩;rcases t5 with e|⟨hp,e⟩
  ·have e:A'=S2.A:=e;by_cases ho:o= .done 0;·exact .inr ⟨fin (e.trans (c3 ho)),.inl ho⟩
   ·exact .inl ⟨fun s=>F9 a kT ⟨sT.P,sT.sz⟩ (congrFun (e.trans ((c2 ho).trans f.A)) s),ho⟩
  ·exact .inr ⟨fin e,.inr hp⟩
 cases h with
 |ok h c=>exact cm h c
 |bad h ho=>obtain⟨j1,b,kk,f,b1,-⟩:=key h;exact .rf b ⟨_,_,j1⟩ b1.last (.inl ⟨fun s=>F9 a kk ⟨f.P,f.sz⟩ (by rw [f.A]),fun e=>by rcases ho with h|h <;> rw [h]at e <;> cases e⟩)
 |bad2 h c _=>exact cm h c
theorem MvS.new {ps:List Int}{es:List Ent}(h:MvS (invA S.A) S ps es S1)(q:AInv S)(ok:S.D.Ok)(hS:S.S≤10)(h1:1≤S.next)(hm: ∀p∈ps,∃s,S.A s=some p):NewP S S1 (fun _ _ p=>DatP S.D.sz S1.next p)∧S.next≤S1.next:=by
 generalize hg:invA S.A=g at h;induction h with
 |nil=>exact⟨.refl rfl,Nat.le_refl _⟩
 | @snoc S1 S2 ps es p q' r h ih=>
  obtain⟨s,hs⟩:=hm p (by simp);obtain⟨a,kk,f,-⟩:=r.inv q;obtain⟨i1,i2⟩:=ih (fun p hp=>hm p (List.mem_append_left _ hp));obtain⟨-,k2,-⟩:=h.inv a;obtain⟨-,-,-,fn⟩:=h.fr a.iw;obtain⟨r1,r2,-⟩:=q.map s p hs;have:=h.new a ?_ ?_ (by omega);·rw [f.sz]at this;exact⟨(i1.trans k2 f.nb this).mono fun _ _ _ _ e=>e.elim (DatP.mono (by omega)) (by rw [fn];exact id),by omega⟩
  ·have:=R8 q kk f hs;unfold Ap.pgD at this;rw [this];have h2:=Lz hs;unfold Ap.pgD at h2;rw [h2,R7 q ok,f.sz]
  ·rw [←hg,E8 hs q.inj];omega
theorem Aok (S:Ap)(b:Nat):(∀i,i≠b→(S.ers b).1.D.bl i=S.D.bl i)∧((S.ers b).1.D.bl b=S.D.bl b∨ ∀j,j<((S.ers b).1.D.bl b).nx→(((S.ers b).1.D.bl b).pg j).st=5)∧(S.ers b).1.last=S.last∧(S.ers b).1.next=S.next:=by
 have hE:((S.D.erase (b:Int)).1.bl b=S.D.bl b∨ ∀j,j<((S.D.erase (b:Int)).1.bl b).nx→(((S.D.erase (b:Int)).1.bl b).pg j).st=5):=by
  unfold Dv.erase;rw [Int.toNat_natCast];repeat' split
  all_goals first
   |exact .inl rfl
   |(refine .inr fun j hj=>?_;show((upd S.D.bl b _ b).pg j).st=5;rw [upd_eq];rfl)
   |(refine .inr fun j hj=>?_;have hj:j<(upd S.D.bl b _ b).nx:=hj;rw [upd_eq]at hj;exact absurd hj (Nat.not_lt_zero j))
 unfold Ap.ers;split;·exact⟨fun _ _=>rfl,.inl rfl,rfl,rfl⟩
 ·repeat' split
  all_goals exact⟨fun i hi=>xc _ hi,hE,rfl,rfl⟩
theorem Jst.ers {f:Int→Bool}{N:Nat→Prop}{Hs Cs:List Rc}(q:Jst S Hs Cs)(hf: ∀i:Nat,i≠b→f (i:Int)=S.jr (i:Int))(hN:N b)(hl: ∀r∈Cs,r.Liv S N)(hm: ∀s p,S.A s=some p→ ∀j:Nat,j<S.D.P→p≠((b*S.D.P+j:Nat):Int)): Jst {(S.ers b).1 with jr:=f} Hs Cs∧ ∀r∈Cs,r.Liv {(S.ers b).1 with jr:=f} N:=by
 obtain⟨d1,d2,d3,d4⟩:=Aok S b;have sm:=R9 S b;have hA:=Aoj S b;have old: ∀i j,j<((S.ers b).1.D.bl i).nx→((S.ers b).1.D.bl i).pg j=(S.D.bl i).pg j∧j<(S.D.bl i).nx∨(((S.ers b).1.D.bl i).pg j).st=5:=fun i j hj=>by
  by_cases e:i=b
  ·subst e;rcases d2 with d2|d2;·rw [d2]at hj ⊢;exact .inl ⟨rfl,hj⟩
   ·exact .inr (d2 j hj)
  ·rw [d1 i e]at hj ⊢;exact .inl ⟨rfl,hj⟩
 have liv: ∀r∈Cs,r.Liv {(S.ers b).1 with jr:=f} N:=fun r hr i hi=>by
  have hi:i<r.n (S.ers b).1.D.sz:=hi;rw [sm.sz]at hi;obtain⟨b',j,⟨o1,o2,o3⟩,o4,o5⟩:=hl r hr i hi;have hne:b'≠b:=fun e=>o5 (by rw [e];exact hN);refine⟨b',j,⟨?_,?_,?_⟩,(hf b' hne).trans o4,o5⟩;·show b'<(S.ers b).1.D.nb;rw [sm.nb];exact o1
  ·show j<((S.ers b).1.D.bl b').nx;rw [d1 b' hne];exact o2
  ·show JrnP (S.ers b).1.D.sz (r.pg (S.ers b).1.D.sz i) (((S.ers b).1.D.bl b').pg j);rw [d1 b' hne,sm.sz];exact o3
 have bk:Bck S {(S.ers b).1 with jr:=f} Hs:=⟨sm.sz,fun r hr i hi b' j ⟨o1,o2,o3⟩=>by
  have o1:b'<(S.ers b).1.D.nb:=o1;have o2:j<((S.ers b).1.D.bl b').nx:=o2;have o3:JrnP (S.ers b).1.D.sz (r.pg S.D.sz i) (((S.ers b).1.D.bl b').pg j):=o3;rw [sm.nb]at o1;rw [sm.sz]at o3;rcases old b' j o2 with⟨e,hj'⟩|e;·exact⟨o1,hj',by rw [←e];exact o3⟩
  ·rcases o3.1 with g|g <;> omega⟩
 refine⟨⟨⟨fun i j hi hj=>?_,?_,q.inj⟩,q.sub,fun r hr i hi=>let⟨b,j,e1,e2,_⟩:=liv r hr i hi;⟨b,j,e1,e2,id⟩,fun r hr=>bk.uq (q.sub r hr) (q.uq r hr),fun r hr=>(q.rest r hr).imp id (Or.imp id (bk.abs hr)),?_,hA.trans q.sem,?_,fun s p h=>?_⟩,liv⟩
 ·have hi:i<(S.ers b).1.D.nb:=hi;have hj:j<((S.ers b).1.D.bl i).nx:=hj;rw [sm.nb]at hi;show DatP (S.ers b).1.D.sz (S.ers b).1.next (((S.ers b).1.D.bl i).pg j)∨ ∃r∈Hs,∃i',i'<r.n (S.ers b).1.D.sz∧JrnP (S.ers b).1.D.sz (r.pg (S.ers b).1.D.sz i') (((S.ers b).1.D.bl i).pg j);rw [sm.sz,d4];rcases old i j hj with⟨e,hj'⟩|e;·rw [e];exact q.pg i j hi hj'
  ·exact .inl (.inl (dj (by omega)))
 ·show∀r∈Hs,r.Ok (S.ers b).1.next;rw [d4];exact q.ok
 ·show Lnk (S.ers b).1.D.sz Cs (S.ers b).1.last;rw [sm.sz,d3];exact q.lnk
 ·show ApE (S.ers b).1.S ((S.ers b).1.D.nb*(S.ers b).1.D.P) _ _;rw [sm.secs,sm.nb,sm.P];exact q.ap
 ·have hs:(S.ers b).1.A s=some p:=h;rw [hA]at hs;obtain⟨i,j,n,d,e1,e2,e3,e4,e5,e6,e7⟩:=q.map s p hs;have hne:i≠b:=fun e=>hm s p hs j e3 (by rw [←e];exact e1);refine⟨i,j,n,d,?_,?_,?_,?_,?_,?_,e7.1,?_⟩;·show p=((i*(S.ers b).1.D.P+j:Nat):Int);rw [sm.P];exact e1
  ·show i<(S.ers b).1.D.nb;rw [sm.nb];exact e2
  ·show j<(S.ers b).1.D.P;rw [sm.P];exact e3
  ·show j<((S.ers b).1.D.bl i).nx;rw [d1 i hne];exact e4
  ·show((S.ers b).1.D.bl i).pg j=_;rw [d1 i hne];exact e5
  ·show d.length=(S.ers b).1.D.sz;rw [sm.sz];exact e6
  ·show n<(S.ers b).1.next;rw [d4];exact e7.2
theorem MovO.rcv (h:MovO b S S' o)(a:AInv S)(ok:S.D.Ok)(bd:Bd S k)(hk:k<100000)(hS:S.S≤10)(hb:b<S.D.nb)(h3:S.ps b=3)(hj:S.jr (b:Int)=false)(q:JS S):Rcv S' o fun T=> ∀s,T.rd s=S.rd s:=by
 obtain⟨Hs,Cs,q⟩:=q;obtain⟨fa,-,fb,-,fr⟩:=h.inv a ok bd hb h3 hj;have h1:1≤S.next:=by have:=bd.last;omega
 have hz:=a.geo.sz;have hP:=a.geo.P;have hnb:=a.geo.nb;have hlen:=Zz (S:=S) (b:=b);have key: ∀{S1:Ap} {ps:List Int} {es:List Ent},MvS (invA S.A) S ps es S1→(∀p∈ps,p∈S.mv b)→ps.length≤6→Jst S1 Hs Cs∧AInv S1∧Keep S S1∧FrS S S1∧Bd S1 (k+180)∧es.length=ps.length:=fun m hp hl=>by obtain⟨b1,kk,f,-⟩:=m.inv a;obtain⟨n1,n2⟩:=m.new a ok hS h1 fun p h=>MvS.hm p (hp p h);obtain⟨bb,hes⟩:=m.bd a bd;have bb:=bb.mono (show _≤k+180 by omega);have:=bb.nx;exact⟨q.dat a kk f.sm f.A f.last ⟨n2,by omega⟩ n1,b1,kk,f,bb,hes⟩
 have cm: ∀{S1 S2:Ap} {es:List Ent} {o:WO},MvS (invA S.A) S (S.mv b) es S1→CmP es S1 S2 o→Rcv S2 o fun T=> ∀s,T.rd s=S.rd s:=fun {S1 S2 es o} m c=>by
  obtain⟨j1,b1,kk,f,bb,hes⟩:=key m (fun p h=>h) (by omega);obtain⟨-,e2,-⟩:=m.es a MvS.hm;have hr:recN S1 es≤es.length+1:=Iv (by rw [f.sz];exact hz.1);have:=bb.nx;have pg: ∀e∈es,∃d,PgOk S1 e.1 d e.2∧d.length=S1.D.sz∧e.Ok:=fun e he=>by obtain⟨p,g1,g2,g0,i,j,g3,g4,g5,-⟩:=e2 e he;obtain⟨s,hs⟩:=MvS.hm p g1;refine⟨_,by rw [g2];exact g0,by rw [f.sz,Lz hs];exact R7 a ok s,?_⟩;rw [E8 hs a.inj]at g2;obtain⟨r1,r2,-⟩:=a.map s p hs;have:=Nat.mul_le_mul (show i≤12 by omega) (show S.D.P≤6 by omega);exact⟨by omega,by omega⟩
  have ok1:ApE S1.S (S1.D.nb*S1.D.P) S1.A es:=by unfold ApE;rw [f.secs,f.nb,f.P,f.A];exact m.ok a
  obtain⟨A',l',t1,t2,t3,t4,t5⟩:=c.jst j1 b1 bb.last (by omega) ⟨by omega,fun e he=>let⟨_,_,_,h⟩:=pg e he;h⟩ ok1 fun e he _=>let⟨d,h,h',_⟩:=pg e he;⟨d,h,h'⟩;obtain⟨-,k3,s3,-,c2,c3⟩:=m.cm c a ok;obtain⟨-,k2,-⟩:=c.inv b1 ok1 fun e he _=>let⟨d,h,_⟩:=pg e he;⟨d,h⟩;have s2:=c.sm b1.iw;refine⟨A',l',t1,t2,t3,t4,?_⟩;rcases t5 with e|⟨-,e⟩
  ·have e:A'=S2.A:=e;subst e;by_cases ho:o= .done 0;·exact(c3 ho).1
   ·exact fun s=>F9 a (S':= {S2 with last:=l'}) ⟨k3.nx,k3.pg,k3.ps3,k3.psm,k3.jrm,k3.n1,k3.nt⟩ ⟨s3.P,s3.sz⟩ (congrFun (c2 ho) s)
  ·exact(m.rdA (S2:= {S2 with A:=A',last:=l'}) ⟨k2.nx,k2.pg,k2.ps3,k2.psm,k2.jrm,k2.n1,k2.nt⟩ ⟨s2.nb,s2.P,s2.sz,s2.en,s2.secs⟩ a ok e).1
 cases h with
 | @bad S1 _ i p es _ m hp h _=>
  obtain⟨j1,b1,kk,f,bb,hes⟩:=key m (fun p h=>List.mem_of_mem_take h) (by rw [List.length_take];omega);obtain⟨b2,k2,-⟩:=h.inv b1;obtain⟨f2,-,-,fn⟩:=h.fr b1.iw;obtain⟨s,hs⟩:=MvS.hm p (List.mem_of_getElem? hp);obtain⟨r1,r2,-⟩:=a.map s p hs;have hlast:=bb.last;have hnx:=bb.nx;refine .rf fa ⟨Hs,Cs,j1.dat b1 k2 f2.sm f2.A f2.last (by omega) ?_⟩ fb.last fr;rw [fn];refine h.new b1 ?_ ?_ (by omega);·have:=R8 a kk f hs;unfold Ap.pgD at this;rw [this];have h2:=Lz hs;unfold Ap.pgD at h2;rw [h2,R7 a ok,f.sz]
  ·rw [E8 hs a.inj];omega
 |badc m c _=>exact cm m c
 | @ok S1 S2 es m c=>
  obtain⟨A',l',t1,⟨Hs,Cs,t2⟩,t3,t4,-⟩:=cm m c;obtain⟨rfl,rfl⟩:=t4 (by simp);obtain⟨b2,k2,sm,-,-,c3⟩:=m.cm c a ok;obtain⟨-,g2⟩:=c3 rfl;have hj2:S2.jr (b:Int)=false:=by rw [k2.jrm b hb (by omega)];exact hj
  have:=(t2.ers (b:=b) (f:=(S2.ers b).1.jr) (N:=fun i=>i=b) (fun i _=>by rw [Kw]) rfl (fun r hr i hi=>?_) (g2 h3)).1;·exact .rf fa ⟨Hs,Cs,this⟩ fb.last fr
  ·obtain⟨b',j,o1,o2,-⟩:=t2.live r hr i hi;exact⟨b',j,o1,o2,fun e=>by rw [e]at o2;rw [hj2]at o2;cases o2⟩
theorem ErP.jst {l:List Int}{N:Nat→Prop}{Hs Cs:List Rc}(h:ErP l S S' o): ∀(a:AInv S) (hd:l.Nodup) (hj: ∀y∈l,∃b:Nat,y=(b:Int)∧b<S.D.nb∧S.ps b=3∧S.jr (b:Int)=true∧N b) (q:Jst S Hs Cs) (hl: ∀r∈Cs,r.Liv S N),Jst S' Hs Cs:=by
 have hm: ∀{S:Ap} {b:Nat},AInv S→S.jr (b:Int)=true→ ∀s p,S.A s=some p→ ∀j:Nat,j<S.D.P→p≠((b*S.D.P+j:Nat):Int):=fun {S b} a h3 s p h j hj2 e=>by obtain⟨-,-,i,m,g1,g2,g3,g4,g5,-⟩:=a.map s p h;obtain⟨rfl,-⟩:=Hm g3 hj2 (show i*S.D.P+m=b*S.D.P+j by omega);rw [h3]at g5;cases g5
 induction h with
 |nil=>exact fun _ _ _ q _=>q
 | @cons b l S S' o h t ih=>
  intro a hd hj q hl;obtain⟨b',e,h1,h2,h3,h4⟩:=hj _ (List.mem_cons_self ..);have:b'=b:=by omega
  subst this;obtain⟨q1,-⟩:=a.ersJ h1 h2 h3;rw [List.nodup_cons]at hd;have hjs: ∀i:Nat,i≠b'→Bh (S.ers b').1.jr (b':Int) false (i:Int)=S.jr (i:Int):=fun i hi=>by unfold Bh;rw [if_neg (by omega),Kw]
  obtain⟨j1,j2⟩:=q.ers hjs h4 hl (hm a h3);refine ih q1 hd.2 (fun y hy=>?_) j1 j2;obtain⟨i,e5,g1,g2,g3,g4⟩:=hj y (List.mem_cons_of_mem _ hy);have hne:i≠b':=fun e'=>by subst e';rw [e5]at hy;exact hd.1 hy
  exact⟨i,e5,by show i<(S.ers b').1.D.nb;rw [(R9 S b').nb];exact g1,by show(S.ers b').1.ps i=3;rw [Vu S b' i hne];exact g2,by show Bh _ _ _ _=_;rw [hjs i hne];exact g3,g4⟩
 | @bad b l S h=>
  intro a hd hj q hl;obtain⟨b',e,h1,h2,h3,h4⟩:=hj _ (List.mem_cons_self ..);have:b'=b:=by omega
  subst this;exact(q.ers (f:=(S.ers b').1.jr) (fun i _=>by rw [Kw]) h4 hl (hm a h3)).1
theorem ApE.dom {S T:Nat}{A:Int→Option Int}{D:List Int}(h:DomA A D)(q:InvA S T A):ApE S T (fun _=>none) (A8 A D):=fun j x hx=>by
 have hx': ∀e∈A8 A D,A e.1=some e.2:=fun e he=>by
  obtain⟨s,hs,rfl⟩:=List.mem_map.1 he
  obtain⟨p,hp⟩:=Option.isSome_iff_exists.1 ((h.mem s).1 hs)
  show A s=some (atA A s)
  unfold atA;rw [hp];rfl
 have hA:=hx' x (List.mem_of_getElem? hx)
 obtain⟨r1,r2,r3,r4⟩:=q.rg _ _ hA
 refine⟨⟨r1,r2,by omega,r4⟩,?_⟩
 rintro⟨s,hs,hne⟩
 rcases Gx j s x.2 hs with h1|⟨i,e,h1,h2,h3,h4,h5⟩
 ·cases h1
 ·have:=hx' e (List.mem_of_getElem? h2)
  rw [h4]at this
  exact hne (h3.symm.trans (q.inj _ _ _ this hA))
theorem AInv.invA (q:AInv S):InvA S.S (S.D.nb*S.D.P) S.A:=by exact Aof
theorem CkO.rcv (h:CkO S S' o)(a:AInv S)(bd:Bd S k)(hk:k<100000)(hS:S.S≤10)(q:JS S):Rcv S' o fun T=> ∀s,T.rd s=S.rd s:=by
 obtain⟨Hs,Cs,q⟩:=q;obtain⟨fa,-,fb,-,fr⟩:=h.inv a bd hS;obtain⟨qc,kc,sc,cA,cj,cl,-,cb⟩:=a.clg;have b1:=cb k bd;have hn:=b1.nx;have hl:=b1.last;have hz:=a.geo.sz;have clgD:S.clg.D=S.D∧S.clg.last=S.last∧S.clg.next=S.next:=by unfold Ap.clg;split <;> exact⟨rfl,rfl,rfl⟩
 have q1:Jst S.clg Hs Cs:=q.dat a kc sc cA clgD.2.1 ⟨by rw [clgD.2.2];exact Nat.le_refl _,by omega⟩ (.refl clgD.1);have bnd: ∀{D:List Int},DomA S.A D→S.clg.next+recN S.clg (A8 S.A D)<1000000∧(A8 S.A D).length≤20∧ ∀e∈A8 S.A D,e.Ok:=fun {D} hD=>by
  have h1:=hD.len a;have h2:recN S.clg (A8 S.A D)≤(A8 S.A D).length+1:=Iv (by rw [sc.sz];exact hz.1);have h3:(A8 S.A D).length=D.length:=by unfold A8;rw [List.length_map]
  refine⟨by omega,by omega,fun e he=>?_⟩;obtain⟨s,hs,rfl⟩:=List.mem_map.1 he;obtain⟨p,hp⟩:=Option.isSome_iff_exists.1 ((hD.mem s).1 hs);obtain⟨r1,r2,b,i,g1,g2,g3,-⟩:=a.map s p hp;have hP:=a.geo.P;have hb:=a.geo.nb;have:=Nat.mul_le_mul (show b≤12 by omega) (show S.D.P≤6 by omega);have e2:atA S.A s=p:=by unfold atA;rw [hp];rfl
  show 0≤s∧s≤4294967294∧ -1≤atA S.A s∧atA S.A s≤4294967294;rw [e2];omega
 have new: ∀{S1:Ap} {D:List Int} {o:WO} (l':Nat),DomA S.A D→RcP 3 (A8 S.A D) S.clg S1 o→Rc.Liv S1 (fun _=>False) ⟨3,S.clg.next,S.clg.last,A8 S.A D⟩→l'=S.clg.next+recN S.clg (A8 S.A D) - 1→Jst {S1 with last:=l'} (⟨3,S.clg.next,S.clg.last,A8 S.A D⟩::Hs) [⟨3,S.clg.next,S.clg.last,A8 S.A D⟩]:=by
  intro S1 D o l' hD h g1 g2;obtain⟨c1,c2⟩:=bnd hD;obtain⟨j1,-,-,ju,-⟩:=h.jb q1.toJB qc (.inr rfl) hl c1 c2;obtain⟨-,kk,-⟩:=h.inv qc;have f:=(h.fr qc.iw).1;refine⟨⟨j1.pg,j1.ok,j1.inj⟩,fun r hr=>by rw [List.mem_singleton.1 hr];exact List.mem_cons_self ..,fun r hr=>by rw [List.mem_singleton.1 hr];exact g1,fun r hr=>by rw [List.mem_singleton.1 hr];exact ju,fun r hr=>?_,?_,?_,?_,fun s p h=>?_⟩
  ·rcases List.mem_cons.1 hr with rfl|hr;·exact .inl (List.mem_singleton_self _)
   ·exact .inr (.inl ⟨_,rfl,rfl,(q1.ok r hr).n⟩)
  ·show Lnk S1.D.sz _ l';rw [g2,f.sz];exact .inr ⟨_,[],rfl,rfl,rfl⟩
  ·show S1.A=_;rw [f.A,cA];have:=Ua hD fun s p h=>by obtain⟨-,-,b,j,e,-⟩:=a.map s p h;omega
   rw [Kx]at this;simpa using this.symm
  ·show ApE S1.S (S1.D.nb*S1.D.P) _ _;rw [f.secs,f.nb,f.P,sc.secs,sc.nb,sc.P];simpa using ApE.dom hD a.invA
  ·have h:S1.A s=some p:=h;have:MpG S1 s p:=(q1.map s p (by rw [←f.A];exact h)).keep kk f.sm;exact this
 cases h with
 | @bad D _ _ hD h ho=>
  obtain⟨c1,c2⟩:=bnd hD;obtain⟨j1,j2,j3,ju,j4,-,jn⟩:=h.jb q1.toJB qc (.inr rfl) hl c1 c2;obtain⟨-,kk,-⟩:=h.inv qc;have f:=(h.fr qc.iw).1;have hod:o≠ .done 0:=fun e=>by rcases ho with h|h <;> rw [h]at e <;> cases e
  have hlast:S'.last=S.clg.last:=by
   cases h with
   |ok _=>exact absurd rfl hod
   |bad h _=>exact(h.fr (qc.nw (S.clg.next+recN S.clg (A8 S.A D)) S.clg.last S.clg.wr (Nat.le_trans qc.n0 (Nat.le_add_right _ _))).iw).1.last
  rcases j4 hod with g|⟨rfl,g⟩
  ·refine .rf fa ⟨_,Cs,j1,fun r hr=>List.mem_cons_of_mem _ (q1.sub r hr),fun r hr=>j3 r _ (q1.live r hr),fun r hr=>j2.uq (q1.sub r hr) (q1.uq r hr),fun r hr=>?_,by rw [f.sz,hlast];exact q1.lnk,f.A.trans q1.sem,by rw [f.secs,f.nb,f.P];exact q1.ap,fun s p h=>(q1.map s p (by rw [←f.A];exact h)).keep kk f.sm⟩ fb.last fr;rcases List.mem_cons.1 hr with rfl|hr;·exact .inr (.inr g)
   ·exact(q1.rest r hr).imp id (·.imp id (j2.abs hr))
  ·have hr1:1≤recN S.clg (A8 S.A D):=Nat.le_max_left ..;exact⟨S'.A,_,fa.nw S'.next (S.clg.next+recN S.clg (A8 S.A D) - 1) S'.wr fa.n0,⟨_,_,new _ hD h g rfl⟩,by omega,(fun h=>absurd rfl h),fr⟩
 | @run D J S1 _ _ hD h hJ t=>
  obtain⟨c1,c2⟩:=bnd hD;obtain⟨-,-,-,-,-,j5,jn⟩:=h.jb q1.toJB qc (.inr rfl) hl c1 c2;obtain⟨b2,-,-,-,-,-,-,hj⟩:=a.ckR bd hS hD h;obtain⟨g1,g2⟩:=j5 rfl;have hps: ∀y,S.jr y=true→ ∃b:Nat,y=(b:Int)∧S.clg.ps b=3:=fun y hy=>by obtain⟨b,e1,e2,e3⟩:=qc.jr y (by rw [cj];exact hy);exact⟨b,e1,e3.elim id fun e=>by omega⟩
  have q2:=new _ hD h (fun i hi=>let⟨b,j,e1,e2,_⟩:=g1 i hi;⟨b,j,e1,e2,id⟩) g2;refine .rf fa ⟨_,_,t.jst (N:=fun b=>S.clg.ps b=3) b2 (hJ.lt.imp fun {a b} h=>by omega) (fun y hy=>?_) q2 fun r hr=>by rw [List.mem_singleton.1 hr];exact g1⟩ fb.last fr;have hy':=(hJ.mem y).1 hy;obtain⟨b,e1,e2,e3,e4⟩:=hj y hy';obtain⟨b',e5,e6⟩:=hps y hy';have:b'=b:=by omega
  subst this;exact⟨b',e1,e2,e3,e4,e6⟩
include L X
def Rc.id (z:Nat)(r:Rc):Rec:=(r.k,r.f,r.p,r.n z)
omit L X in
theorem Nd (z i:Nat)(r:Rc):Bj (r.pg z i).1=r.id z:=by show(r.k,r.f+i - (i:Int).toNat,r.p,((cntJ z r.es.length:Nat):Int).toNat)=_;rw [Int.toNat_natCast,Int.toNat_natCast,Nat.add_sub_cancel];rfl
structure Chn (P:List JP)(z m:Nat)(Hs Cs:List Rc):Prop where
 pg: ∀x∈P,∃r∈Hs,∃i,i<r.n z∧x=r.pg z i
 ok: ∀r∈Hs,r.p<r.f
 inj: ∀r∈Hs,∀r'∈Hs,r.f=r'.f→r=r'
 sub: ∀r∈Cs,r∈Hs
 live: ∀r∈Cs,∀i,i<r.n z→r.pg z i∈P
 rest: ∀r∈Hs,r∈Cs∨(∃c,Cs.head?=some c∧c.k=3∧r.f<c.f)∨ ∃i,i<r.n z∧r.pg z i∉P
 lnk:Lnk z Cs m
section
variable {P:List JP}{Hs Cs:List Rc}
omit L X
theorem Chn.fst (q:Chn P z m Hs Cs){r:Rc}(hr:r∈Hs)(h:Dw P (r.id z) (i:Int)=some j):P[j]?=some (r.pg z i):=by
 obtain⟨x,h1,h2,h3⟩:=H2 h;obtain⟨r',g1,i',g2,rfl⟩:=q.pg x (List.mem_of_getElem? h1);rw [Nd]at h2;have e:r'=r:=q.inj r' g1 r hr (congrArg (·.2.1) h2);subst e;have h3:(i':Int)=(i:Int):=h3;have:i'=i:=by omega
 subst this;exact h1
theorem Chn.full (q:Chn P z m Hs Cs){r:Rc}(hr:r∈Cs):isK P (r.id z)∧full P (r.id z)=true:=by
 refine⟨?_,?_⟩;·have:=Ago (q.live r hr 0 (r.n1 z));rwa [Nd]at this
 ·unfold Go.Ev.full;rw [List.all_eq_true];intro i hi
  cases h:Dw P (r.id z) (i:Int)with
  |some j=>rfl
  |none=>unfold Dw at h;rw [List.findIdx?_eq_none_iff]at h;have:=h _ (q.live r hr i (List.mem_range.1 hi));rw [Nd]at this;have e:(r.pg z i).1.idx=(i:Int):=rfl;simp [e]at this
theorem Chn.of (q:Chn P z m Hs Cs){k:Rec}(h1:isK P k)(h2:Go.Ev.full P k=true): ∃r∈Hs,k=r.id z∧(r∈Cs∨ ∃c,Cs.head?=some c∧c.k=3∧r.f<c.f):=by
 obtain⟨x,hx,e⟩:=Vi h1;obtain⟨r,g1,i,g2,rfl⟩:=q.pg x hx;rw [Nd]at e;subst e;refine⟨r,g1,rfl,?_⟩;rcases q.rest r g1 with h|h|⟨j,h3,h4⟩;·exact .inl h
 ·exact .inr h
 ·obtain⟨a,ha,-⟩:=Km h2 (show j<(r.id z).2.2.2 from h3);exact absurd (List.mem_of_getElem? (q.fst g1 ha)) h4
theorem Fol.lt {z:Nat}: ∀{l:List Rc} {n m:Nat},Fol z n l m→(∀r∈l,r.p<r.f)→n≤m∧ ∀r∈l,r.k=2∧n≤r.p∧r.p<m
 | [],n,m,h,_=>⟨by have:m=n:=h;omega,fun _ h=>by cases h⟩
 |x::l,n,m,⟨h1,h2,h3⟩,hp=>by
  have hx:=hp x (List.mem_cons_self ..);obtain⟨a,b⟩:=Fol.lt h3 fun r hr=>hp r (List.mem_cons_of_mem _ hr);have hl:x.f≤x.l z:=by have:=x.n1 z;unfold Rc.l;omega
  refine⟨by omega,fun r hr=>?_⟩;rcases List.mem_cons.1 hr with rfl|hr;·exact⟨h1,by omega,by omega⟩
  ·obtain⟨c,d,e⟩:=b r hr;exact⟨c,by omega,e⟩
theorem Chn.run (q:Chn P z m Hs Cs): ∀{A B:List Rc} {n:Nat},Cs=A++B→Fol z n B m→(∀r∈A,r.p<n)→(∀r∈Hs,(∃c,Cs.head?=some c∧c.k=3∧r.f<c.f)→r.p<n)→BestP P 2 (some n) (B.head?.map (Rc.id z))∧RunP P (B.head?.map (Rc.id z)) (B.map (Rc.id z))
 |A,[],n,e,h,hA,ho=>by
  refine⟨fun k hk=>?_,.none⟩;have h:m=n:=h;rw [List.append_nil]at e
  cases hw:D3 P 2 (some n) k with
  |false=>rfl
  |true=>
   simp only [D3,Bool.and_eq_true,decide_eq_true_eq]at hw;obtain⟨r,g1,rfl,g3⟩:=q.of hk hw.1.2;have hp:r.p=n:=hw.2;rcases g3 with g|g;·have:=hA r (by rw [←e];exact g);omega
   ·have:=ho r g1 g;omega
 |A,x::B,n,e,⟨h1,h2,h3⟩,hA,ho=>by
  have hx:x∈Cs:=by rw [e];simp
  obtain⟨f1,f2⟩:=q.full hx;have hok:=q.ok x (q.sub x hx);have hl:x.f≤x.l z:=by have:=x.n1 z;unfold Rc.l;omega
  have hB:=Fol.lt h3 fun r hr=>q.ok r (q.sub r (by rw [e];simp [hr]));obtain⟨r1,r2⟩:=q.run (A:=A++ [x]) (B:=B) (n:=x.l z) (by rw [e];simp) h3 (fun r hr=>by
   rcases List.mem_append.1 hr with hr|hr;·have:=hA r hr;omega
   ·rw [List.mem_singleton.1 hr];omega) fun r hr hc=>by have:=ho r hr hc;omega
  refine⟨⟨f1,?_,fun k' hk hw=>?_⟩,.some (k:=x.id z) r1 r2⟩;·have e1:(x.id z).1=2:=h1;have e2:(x.id z).2.2.1=n:=h2;simp [D3,e1,e2,f2]
  ·simp only [D3,Bool.and_eq_true,decide_eq_true_eq]at hw;obtain⟨r,g1,rfl,g3⟩:=q.of hk hw.1.2;have hp:r.p=n:=hw.2;rcases g3 with g|g
   ·rw [e]at g;rcases List.mem_append.1 g with g|g;·have:=hA r g;omega
    ·rcases List.mem_cons.1 g with rfl|g;·exact .inl rfl
     ·have:=(hB.2 r g).2.1;omega
   ·have:=ho r g1 g;omega
theorem Chn.start (q:Chn P z m Hs Cs):StartP P (Cs.head?.map (Rc.id z))∧RunP P (Cs.head?.map (Rc.id z)) (Cs.map (Rc.id z)):=by
 rcases q.lnk with h|⟨c,l,e,hc,h⟩
 ·have hk: ∀r∈Cs,r.k=2:=fun r hr=>(h.lt (fun r hr=>q.ok r (q.sub r hr))).2 r hr |>.1;have no: ∀r:Rc,¬ ∃c,Cs.head?=some c∧c.k=3∧r.f<c.f:=fun r ⟨c,h1,h2,_⟩=>by have:=hk c (List.mem_of_mem_head? h1);omega
  obtain⟨a,b⟩:=q.run (A:= []) (B:=Cs) rfl h (fun _ h=>by cases h) fun r _ h=>absurd h (no r);refine⟨⟨none,fun k h1=>?_,a⟩,b⟩
  cases hw:D3 P 3 none k with
  |false=>rfl
  |true=>
   simp only [D3,Bool.and_eq_true,decide_eq_true_eq]at hw;obtain⟨r,g1,rfl,g3⟩:=q.of h1 hw.1.2;have h3:r.k=3:=hw.1.1;rcases g3 with g|g;·have:=hk r g;omega
   ·exact absurd g (no r)
 ·have hcm:c∈Cs:=by rw [e];simp
  have hok:=q.ok c (q.sub c hcm);have hl:c.f≤c.l z:=by have:=c.n1 z;unfold Rc.l;omega
  have hB:=h.lt fun r hr=>q.ok r (q.sub r (by rw [e];simp [hr]));have hd: ∀r∈Hs,(∃c,Cs.head?=some c∧c.k=3∧r.f<c.f)→r.f<c.f:=fun r _ ⟨c',h1,_,h3⟩=>by rw [e]at h1;cases h1;exact h3
  obtain⟨a,b⟩:=q.run (A:= [c]) (B:=l) e h (fun r hr=>by rw [List.mem_singleton.1 hr];omega) fun r hr hx=>by have:=hd r hr hx;have:=q.ok r hr;omega
  obtain⟨f1,f2⟩:=q.full hcm;have hs:BestP P 3 none (some (c.id z)):=by
   refine⟨f1,?_,fun k' hk hw=>?_⟩;·have e1:(c.id z).1=3:=hc;simp [D3,e1,f2]
   ·simp only [D3,Bool.and_eq_true,decide_eq_true_eq]at hw;obtain⟨r,g1,rfl,g3⟩:=q.of hk hw.1.2;have h3:r.k=3:=hw.1.1;rcases g3 with g|g
    ·rw [e]at g;rcases List.mem_cons.1 g with rfl|g;·exact .inl rfl
     ·have:=(hB.2 r g).1;omega
    ·have:=hd r g1 g;refine .inr ?_;have:(r.id z).2.1<(c.id z).2.1:=this;simp [Pp,this]
  rw [e];exact⟨⟨some (c.id z),hs,rfl⟩,.some a b⟩
theorem m8 (z:Nat)(es:List Ent)(hz:12≤z):(List.range (cntJ z es.length)).flatMap (D1 z es)=es:=by
 have hm:1≤mostJ z:=by unfold mostJ;omega
 have h: ∀n,(List.range n).flatMap (D1 z es)=es.take (mostJ z*n):=by
  intro n;induction n with
  |zero=>simp
  |succ n ih=>rw [List.range_succ,List.flatMap_append,ih,Nat.mul_succ,List.take_add];simp [D1]
 rw [h,List.take_of_length_le];unfold cntJ;generalize mostJ z=k at*;have h1:=Nat.div_add_mod (es.length+k - 1) k;have h2:=Nat.mod_lt (es.length+k - 1) hm;have h3:=Nat.mul_le_mul_left k (Nat.le_max_right 1 ((es.length+k - 1) / k));omega
theorem Xp {α β: Type}{l:List α}{f g:α→List β}(h: ∀x∈l,f x=g x):l.flatMap f=l.flatMap g:=by rw [List.flatMap_def,List.flatMap_def,List.map_congr_left h]
theorem Chn.ent (q:Chn P z m Hs Cs)(hz:12≤z):chE P (Cs.map (Rc.id z))=Cs.flatMap Rc.es:=by
 unfold chE;rw [List.flatMap_map];refine Xp fun r hr=>?_;obtain⟨-,hf⟩:=q.full hr;unfold cq Cp;rw [List.flatMap_map];have: ∀i∈List.range (r.id z).2.2.2,Fz P ((Dw P (r.id z) (i:Int)).getD 0)=D1 z r.es i:=fun i hi=>by obtain⟨j,h1,-⟩:=Km hf (List.mem_range.1 hi);rw [h1,Option.getD_some];unfold Fz;rw [q.fst (q.sub r hr) h1];rfl
 rw [Xp this];exact m8 z r.es hz
theorem StartP.uniq {o o':Option Rec}(h:StartP P o)(h':StartP P o'):o=o':=by
 obtain⟨a,h1,h2⟩:=h;obtain⟨a',h1',h2'⟩:=h';have:=h1.uniq h1';subst this
 cases a with
 |some k=>exact h2.trans h2'.symm
 |none=>exact h2.uniq h2'
theorem Chn.fol (q:Chn P z m Hs Cs)(hz:12≤z){o:Option Rec}(h1:StartP P o)(h2:RunP P o ks):chE P ks=Cs.flatMap Rc.es:=by obtain⟨a,b⟩:=q.start;have:=h1.uniq a;subst this;rw [h2.uniq b,q.ent hz]
end
omit L X in
theorem Fol.chL {z:Nat}: ∀{l:List Rc} {n m:Nat},Fol z n l m→m=((l.map (Rc.id z)).getLast?.map Fp).getD n
 | [],n,m,h=>h
 | [x],n,m,⟨_,_,h⟩=>h
 |x::y::l,n,m,⟨_,_,h⟩=>by
  have:=Fol.chL h;rw [List.map_cons,List.map_cons,List.getLast?_cons_cons,←List.map_cons (a:=y)]
  cases hl:((y::l).map (Rc.id z)).getLast? with
  |none=>simp at hl
  |some k=>rw [hl]at this;exact this
section
variable {P:List JP}{Hs Cs:List Rc}
omit L X in
theorem Chn.lst (q:Chn P z m Hs Cs){o:Option Rec}(h1:StartP P o)(h2:RunP P o ks):chL ks=m∧(∀j∈chU P ks,∃r∈Cs,∃i,i<r.n z∧P[j]?=some (r.pg z i))∧ ∀r∈Cs,∀i,i<r.n z→ ∃j∈chU P ks,P[j]?=some (r.pg z i):=by
 obtain⟨a,b⟩:=q.start;have:=h1.uniq a;subst this;rw [h2.uniq b];have hj: ∀r∈Cs,∀i,i<r.n z→ ∃j,Dw P (r.id z) ((i:Nat):Int)=some j∧P[j]?=some (r.pg z i):=fun r hr i hi=>by obtain⟨j,h1,-⟩:=Km (q.full hr).2 (show i<(r.id z).2.2.2 from hi);exact⟨j,h1,q.fst (q.sub r hr) h1⟩
 refine⟨?_,fun j hj'=>?_,fun r hr i hi=>?_⟩
 ·have e: ∀ks:List Rec,Go.Ev.chL ks=(ks.getLast?.map Fp).getD 0:=fun ks=>by unfold Go.Ev.chL;cases ks.getLast? <;> rfl
  rw [e];rcases q.lnk with h|⟨c,l,e,-,h⟩;·exact h.chL.symm
  ·rw [h.chL,e]
   cases l with
   |nil=>rfl
   |cons y l=>
    rw [List.map_cons,List.map_cons,List.getLast?_cons_cons]
    cases hl:(y.id z::l.map (Rc.id z)).getLast? with
    |none=>simp at hl
    |some k=>rfl
 ·obtain⟨k,hk,hj2⟩:=List.mem_flatMap.1 hj';obtain⟨r,hr,rfl⟩:=List.mem_map.1 hk;obtain⟨i,hi,rfl⟩:=List.mem_map.1 hj2;obtain⟨j,h1,h2⟩:=hj r hr i (List.mem_range.1 hi);rw [h1];exact⟨r,hr,i,List.mem_range.1 hi,h2⟩
 ·obtain⟨j,h1,h2⟩:=hj r hr i hi;exact⟨j,List.mem_flatMap.2 ⟨_,List.mem_map_of_mem hr,List.mem_map.2 ⟨i,List.mem_range.2 hi,by rw [h1];rfl⟩⟩,h2⟩
end
omit L X
theorem Xq {es:List Ent}(hl:4+8*es.length≤z)(hz:z≤1000)(hok: ∀e∈es,e.Ok):Mw (Cd z es)=some es:=by
 have e4:(256:Nat) ^ 4=4294967296:=by decide
 have hn:jN (Cd z es)=es.length:=Ky 4 es.length [] (es.flatMap Ip++List.replicate (z - 4 - 8*es.length) 0) 0 (by omega) rfl ▸ by unfold jN Cd;simp [List.append_assoc]
 have hg: ∀l:List Ent,(l.flatMap Ip).length=8*l.length:=fun l=>by
  induction l with
  |nil=>rfl
  |cons e l ih=>rw [List.flatMap_cons,List.length_append,ih,List.length_cons];unfold Ip;rw [List.length_append,A3,A3];omega
 have he: ∀i e,es[i]?=some e→Lq (Cd z es) i=e:=fun i e h=>by
  obtain⟨hi,h2⟩:=List.getElem?_eq_some_iff.1 h;obtain⟨o1,o2⟩:=hok e (List.mem_of_getElem? h);have hs:es=es.take i++e::es.drop (i+1):=by rw [←h2,←List.drop_eq_getElem_cons hi,List.take_append_drop]
  have hb:Cd z es=(leb 4 es.length++(es.take i).flatMap Ip)++leb 4 e.1.toNat++(leb 4 (e.2+1).toNat++((es.drop (i+1)).flatMap Ip++List.replicate (z - 4 - 8*es.length) 0)):=by
   unfold Cd;conv=>lhs;rw [show es.flatMap Ip=(es.take i).flatMap Ip++(Ip e++(es.drop (i+1)).flatMap Ip) by conv=>lhs;rw [hs,List.flatMap_append,List.flatMap_cons]]
   unfold Ip;simp only [List.append_assoc]
  have hp:(leb 4 es.length++(es.take i).flatMap Ip).length=4+8*i:=by rw [List.length_append,A3,hg,List.length_take];omega
  have f1:leF (Cd z es) (4+8*i) 4=e.1.toNat:=by rw [hb];exact Ky 4 _ _ _ _ (by omega) hp.symm
  have f2:leF (Cd z es) (8+8*i) 4=(e.2+1).toNat:=by rw [hb,←List.append_assoc];exact Ky 4 _ _ _ _ (by omega) (by rw [List.length_append,hp,A3];omega)
  unfold Lq;rw [f1,f2];exact Prod.ext (by show(e.1.toNat:Int)=e.1;omega) (by show(((e.2+1).toNat:Nat):Int) - 1=e.2;omega)
 have hE:D0 (Cd z es) es.length=es:=by
  apply List.ext_getElem?;intro i;unfold D0;rw [List.getElem?_map]
  cases h:es[i]? with
  |none=>rw [List.getElem?_eq_none (by rw [List.length_range];exact List.getElem?_eq_none_iff.1 h)];rfl
  |some e=>rw [List.getElem?_range (List.getElem?_eq_some_iff.1 h).1,Option.map_some,he i e h]
 have hlen:=Dz hl;have hJ:JOk (Cd z es):=by refine⟨by rw [hn,hlen];omega,by rw [hn,hE];exact hok,?_⟩;have:=(Aa1 (b:=Cd z es) (tq _ _) (by rw [hn,hlen];exact hl) (by rw [hn,hE];exact hok)).1 (by rw [hn,hE,hlen]);exact this
 unfold Mw;rw [if_pos hJ,hn,hE]
theorem mem_pages {D:Dv}{x:PgE}:x∈Ae D↔ ∃i j,i<D.nb∧j<(D.bl i).nx∧Fq D i j=some x:=by simp only [Ae,F8,M4,List.mem_flatMap,List.mem_filterMap,List.mem_range];exact⟨fun⟨i,h1,j,h2,h3⟩=>⟨i,j,h1,h2,h3⟩,fun⟨i,j,h1,h2,h3⟩=>⟨i,h1,j,h2,h3⟩⟩
theorem Kz {D:Dv}(h:PgB (data++Au s data) ((D.bl i).pg j))(hd:data.length=D.sz)(q:s.Fit):Fq D i j=some ⟨i*D.P+j,s,data⟩:=by unfold Fq;rw [if_pos h.1,h.dec hd q,h.2,←hd,List.take_left];rfl
theorem Og: ∀(L:List PgE) (m n:Nat),m≤n→(∀x∈L,x.s.seq<n)→L.foldl (fun m x=>max m (x.s.seq+1)) m≤n∧m≤L.foldl (fun m x=>max m (x.s.seq+1)) m∧ ∀x∈L,x.s.seq<L.foldl (fun m x=>max m (x.s.seq+1)) m
 | [],m,n,h,_=>⟨h,Nat.le_refl _,fun _ h=>by cases h⟩
 |x::l,m,n,h,hl=>by
  have h1:=hl x (List.mem_cons_self ..);obtain⟨a,b,c⟩:=Og l (max m (x.s.seq+1)) n (by omega) fun y hy=>hl y (List.mem_cons_of_mem _ hy);rw [List.foldl_cons];refine⟨a,by omega,fun y hy=>?_⟩;rcases List.mem_cons.1 hy with rfl|hy
  ·omega
  ·exact c y hy
include L X
section
variable {Hs Cs:List Rc}
omit L X
theorem JB.page (q:JB S Hs)(hz:12≤S.D.sz∧S.D.sz≤30)(hn:S.next<1000000){x:PgE}(h:x∈Ae S.D): ∃b j,b<S.D.nb∧j<(S.D.bl b).nx∧x.at_=b*S.D.P+j∧x.s.seq<S.next+100∧x.data.length=S.D.sz∧Fq S.D b j=some x∧ ((Hb x=true∧x.s.seq<S.next)∨isJ x=true∧ ∃r∈Hs,∃i,i<r.n S.D.sz∧On S b j (r.pg S.D.sz i)∧R1 x=r.pg S.D.sz i):=by
 obtain⟨b,j,h1,h2,h3⟩:=mem_pages.1 h;have h4:=h3;rcases q.pg b j h1 h2 with(h|⟨sec,m,d,e,hl,s1,s2,s3,s4⟩)|⟨r,hr,i,hi,e⟩
 ·unfold Fq at h3;split at h3;·rename_i hs;rw [h hs]at h3;cases h3
  ·cases h3
 ·rw [Kz e hl (Nb (by omega) (by omega))]at h3
  cases h3;exact⟨b,j,h1,h2,rfl,by show m<S.next+100;omega,hl,h4,.inl ⟨rfl,s4⟩⟩
 ·have ko:=q.ok r hr;have fit:=ko.fit hz hn hi;have hl:=Dz (Cf hz.1 i (es:=r.es));rw [Kz e hl fit]at h3
  cases h3;have hd:Mw (Cd S.D.sz (r.pg S.D.sz i).2)=some (r.pg S.D.sz i).2:=Xq (Cf hz.1 i) (by omega) (R5 ko.es i);have hk:Hb ⟨b*S.D.P+j,(r.pg S.D.sz i).1,Cd S.D.sz (r.pg S.D.sz i).2⟩=false:=decide_eq_false (by show¬r.k=1;have:=ko.k;omega);refine⟨b,j,h1,h2,rfl,?_,hl,h4,.inr ⟨?_,r,hr,i,hi,⟨h1,h2,e⟩,?_⟩⟩;·show r.f+i<S.next+100;have:=ko.n;have h5:=Kt (sz:=S.D.sz) (n:=r.es.length) hz.1;have:=ko.len;have hi:i<cntJ S.D.sz r.es.length:=hi;omega
  ·unfold isJ;rw [hk,hd];rfl
  ·unfold R1;rw [hd];rfl
theorem JB.on (q:JB S Hs)(hz:12≤S.D.sz∧S.D.sz≤30)(hn:S.next<1000000){r:Rc}(hr:r∈Hs)(hi:i<r.n S.D.sz)(o:On S b j (r.pg S.D.sz i)): ∃x∈Ae S.D,x.at_=b*S.D.P+j∧isJ x=true∧R1 x=r.pg S.D.sz i:=by have ko:=q.ok r hr;have h:=Kz o.2.2 (Dz (Cf hz.1 i (es:=r.es))) (ko.fit hz hn hi);have hm:=mem_pages.2 ⟨b,j,o.1,o.2.1,h⟩;have hd:Mw (Cd S.D.sz (r.pg S.D.sz i).2)=some (r.pg S.D.sz i).2:=Xq (Cf hz.1 i) (by omega) (R5 ko.es i);refine⟨_,hm,rfl,?_,by unfold R1;rw [hd];rfl⟩;unfold isJ;rw [hd,show Hb _=false from decide_eq_false (by show¬r.k=1;have:=ko.k;omega)];rfl
theorem Jst.chn (q:Jst S Hs Cs)(a:AInv S)(hn:S.next<1000000):Chn (jps (Ae S.D)) S.D.sz S.last Hs Cs:=by
 have hz:=a.geo.sz;have on: ∀{r:Rc},r∈Hs→ ∀{i b j:Nat},i<r.n S.D.sz→On S b j (r.pg S.D.sz i)→r.pg S.D.sz i∈jps (Ae S.D):=fun {r} hr {i b j} hi o=>by obtain⟨x,h1,-,h3,h4⟩:=q.toJB.on hz hn hr hi o;exact List.mem_map.2 ⟨x,List.mem_filter.2 ⟨h1,h3⟩,h4⟩
 have of: ∀x∈jps (Ae S.D),∃b j,∃r∈Hs,∃i,i<r.n S.D.sz∧On S b j (r.pg S.D.sz i)∧x=r.pg S.D.sz i:=fun x hx=>by
  obtain⟨y,hy,rfl⟩:=List.mem_map.1 hx;obtain⟨h1,h2⟩:=List.mem_filter.1 hy;obtain⟨b,j,-,-,-,-,-,-,h|⟨-,r,hr,i,hi,o,e⟩⟩:=q.toJB.page hz hn h1;·unfold isJ at h2;rw [h.1]at h2;cases h2
  ·exact⟨b,j,r,hr,i,hi,o,e⟩
 refine⟨fun x hx=>let⟨b,j,r,hr,i,hi,_,e⟩:=of x hx;⟨r,hr,i,hi,e⟩,fun r hr=>(q.ok r hr).p,q.inj,q.sub,fun r hr i hi=>?_,fun r hr=>(q.rest r hr).imp id (Or.imp id fun⟨i,hi,h⟩=>⟨i,hi,fun hx=>?_⟩),q.lnk⟩;·obtain⟨b,j,o,-⟩:=q.live r hr i hi;exact on (q.sub r hr) hi o
 ·obtain⟨b,j,r',-,i',-,o,e⟩:=of _ hx;exact h b j (by rw [e];exact o)
theorem Jst.used (q:Jst S Hs Cs)(a:AInv S)(hn:S.next<1000000){o:Option Rec}(h1:StartP (jps (Ae S.D)) o)(h2:RunP (jps (Ae S.D)) o ks):(∀j∈chU (jps (Ae S.D)) ks,j<((Ae S.D).filter isJ).length)∧ ∀b,b∈(chU (jps (Ae S.D)) ks).map (Jx (Ae S.D) S.D.P)↔ ∃r∈Cs,∃i,i<r.n S.D.sz∧ ∃j,On S b j (r.pg S.D.sz i):=by
 have hz:=a.geo.sz;obtain⟨-,u1,u2⟩:=(q.chn a hn).lst h1 h2;have key: ∀{j:Nat} {r:Rc} {i:Nat},(jps (Ae S.D))[j]?=some (r.pg S.D.sz i)→ ∃b m,Jx (Ae S.D) S.D.P j=b∧On S b m (r.pg S.D.sz i):=fun {j r i} h=>by
  unfold jps at h;rw [List.getElem?_map,Option.map_eq_some_iff]at h;obtain⟨x,hx,e⟩:=h;obtain⟨g1,g2⟩:=List.mem_filter.1 (List.mem_of_getElem? hx);obtain⟨b,m,b1,b2,b3,-,-,-,h|⟨-,r',hr,i',hi,o,e'⟩⟩:=q.toJB.page hz hn g1;·unfold isJ at g2;rw [h.1]at g2;cases g2
  ·have hnx:=a.nxP b b1;refine⟨b,m,?_,by rw [←e,e'];exact o⟩;unfold Jx;rw [hx];show x.at_ / S.D.P=b;rw [b3];exact(Pj (by omega)).1
 refine⟨fun j hj=>?_,fun b=>⟨fun hb=>?_,fun⟨r,hr,i,hi,m,o⟩=>?_⟩⟩;·obtain⟨r,-,i,-,h⟩:=u1 j hj;have:=(List.getElem?_eq_some_iff.1 h).1;unfold jps at this;rw [List.length_map]at this;exact this
 ·obtain⟨j,hj,e⟩:=List.mem_map.1 hb;obtain⟨r,hr,i,hi,h⟩:=u1 j hj;obtain⟨b',m,e1,o⟩:=key h;rw [←e,e1];exact⟨r,hr,i,hi,m,o⟩
 ·obtain⟨j,hj,h⟩:=u2 r hr i hi;obtain⟨b',m',e1,o'⟩:=key h;obtain⟨rfl,-⟩:=q.uq r hr i hi b m b' m' o o';exact List.mem_map.2 ⟨j,hj,e1⟩
theorem Jst.hold (q:Jst S Hs Cs)(a:AInv S)(hn:S.next<1000000){s p:Int}(hS:S.S≤10)(h:S.A s=some p):Pf (Ae S.D) (s,p)=true:=by
 obtain⟨r1,r2,-⟩:=a.map s p h;obtain⟨b,j,n,d,e,h1,h2,h3,h4,h5,h6,h7⟩:=q.map s p h;have hp:=Kz (D:=S.D) (i:=b) (j:=j) (s:=spD s n) (data:=d) (by rw [h4];exact⟨.inl rfl,rfl⟩) h5 (Nb (by omega) (by omega));have hm:=mem_pages.2 ⟨b,j,h1,h3,hp⟩;unfold Pf
 cases hf:(Ae S.D).find? fun x=>decide (((x.at_:Nat):Int)=(s,p).2)with
 |none=>rw [List.find?_eq_none]at hf;exact absurd (decide_eq_true (show((b*S.D.P+j:Nat):Int)=p from e.symm)) (hf _ hm)
 |some x=>
  have hx:=List.find?_some hf;simp only [decide_eq_true_eq]at hx;obtain⟨b',j',g1,g2,g3,-,-,g4,-⟩:=q.toJB.page a.geo.sz hn (List.mem_of_find?_eq_some hf);have:=a.nxP b' g1;obtain⟨rfl,rfl⟩:=Hm (show j'<S.D.P by omega) h2 (show b'*S.D.P+j'=b*S.D.P+j by omega);rw [hp]at g4
  cases g4;show(Hb _ && decide (s=s))=true;simp [Hb,spD]
end
def Dv.up (D:Dv):Dv:= {D with cut:= -1,off:=false}
def Ap.up (S:Ap):Ap:= {S with D:=S.D.up,down:=false}
def Ap.ini (D:Dv)(S:Nat)(A:Int→Option Int)(nx la:Nat)(js ds:List Int):Ap:=⟨D,S,fun b=>if((b:Nat):Int)∈js++ds then 3 else 1,fun b=>if b<D.nb then(D.bl b).er else 0,A,nx,la,-1,-1,fun k=>decide (k∈js),fun _=>false,fun _=>none,false⟩
structure Fnd (D:Dv)(js ds:List Int):Prop where
 nd:(js++ds).Nodup
 mem: ∀z∈js++ds,∃b:Nat,z=(b:Int)∧b<D.nb
 nx: ∀b,b<D.nb→(((b:Nat):Int)∈js++ds↔0<(D.bl b).nx)
omit L X in
theorem AInv.up (q:AInv S):AInv S.up:=⟨⟨q.geo.nb,q.geo.P,q.geo.sz,q.geo.en⟩,rfl,q.n0,⟨fun k=>⟨(q.iw.wi k).sel,(q.iw.wi k).lo⟩,q.iw.ne⟩,q.nxP,q.op2,q.free,q.jr,q.jlog,q.jdat,q.map,q.inj⟩
omit L X in
theorem Jst.up {Hs Cs:List Rc}(q:Jst S Hs Cs):Jst S.up Hs Cs:=⟨⟨q.pg,q.ok,q.inj⟩,q.sub,q.live,q.uq,q.rest,q.lnk,q.sem,q.ap,q.map⟩
section
variable {Hs Cs:List Rc}
omit L X in
theorem Jst.seq (q:Jst S Hs Cs)(a:AInv S)(hn:S.next<1000000):1≤A4 (Ae S.D)∧A4 (Ae S.D)≤S.next+100∧(∀x∈Ae S.D,x.s.seq<A4 (Ae S.D))∧ (∀b j sec n data,b<S.D.nb→j<(S.D.bl b).nx→PgB (data++Au (spD sec n) data) ((S.D.bl b).pg j)→data.length=S.D.sz→0≤sec→sec<1000→1≤n→n<S.next→n<A4 (Ae S.D))∧ ∀r∈Hs,∀i,i<r.n S.D.sz→ ∀b j,On S b j (r.pg S.D.sz i)→r.f+i<A4 (Ae S.D):=by
 have hz:=a.geo.sz;obtain⟨h1,h2,h3⟩:=Og (Ae S.D) 1 (S.next+100) (by omega) fun x hx=>by obtain⟨b,j,-,-,-,h,-⟩:=q.toJB.page hz hn hx;exact h
 refine⟨h2,h1,h3,fun b j sec n data g1 g2 g3 g4 g5 g6 g7 g8=>?_,fun r hr i hi b j o=>?_⟩;·exact h3 _ (mem_pages.2 ⟨b,j,g1,g2,Kz g3 g4 (Nb (by omega) (by omega))⟩)
 ·exact h3 _ (mem_pages.2 ⟨b,j,o.1,o.2.1,Kz o.2.2 (Dz (Cf hz.1 i)) ((q.ok r hr).fit hz hn hi)⟩)
omit L X in
theorem Jst.last (q:Jst S Hs Cs)(a:AInv S)(hn:S.next<1000000):S.last<A4 (Ae S.D):=by
 obtain⟨h1,-,-,-,h5⟩:=q.seq a hn;have key: ∀r∈Cs,Fp (r.id S.D.sz)<A4 (Ae S.D):=fun r hr=>by have:=r.n1 S.D.sz;obtain⟨b,j,o,-⟩:=q.live r hr (r.n S.D.sz - 1) (by omega);have:=h5 r (q.sub r hr) _ (by omega) b j o;show r.f+r.n S.D.sz - 1<_;omega
 have fin: ∀(l:List Rc) (n:Nat),(∀r∈l,r∈Cs)→n<A4 (Ae S.D)→((l.map (Rc.id S.D.sz)).getLast?.map Fp).getD n<A4 (Ae S.D):=fun l n hl h0=>by
  cases h:(l.map (Rc.id S.D.sz)).getLast? with
  |none=>exact h0
  |some k=>obtain⟨r,hr,rfl⟩:=List.mem_map.1 (List.mem_of_getLast? h);exact key r (hl r hr)
 rcases q.lnk with h|⟨c,l,e,-,h⟩;·rw [h.chL];exact fin Cs 0 (fun _ h=>h) h1
 ·rw [h.chL];exact fin l _ (fun r hr=>by rw [e];exact List.mem_cons_of_mem _ hr) (key c (by rw [e];simp))
omit L X in
theorem Jst.fnd (q:Jst S Hs Cs)(a:AInv S)(hoff:S.D.off=false)(hn:S.next<1000000)(hS:S.S≤10){js ds:List Int}(f:Fnd S.D js ds)(hJ: ∀b:Nat,(b:Int)∈js↔ ∃r∈Cs,∃i,i<r.n S.D.sz∧ ∃j,On S b j (r.pg S.D.sz i)):AInv (Ap.ini S.D S.S S.A (A4 (Ae S.D)) S.last js ds)∧JS (Ap.ini S.D S.S S.A (A4 (Ae S.D)) S.last js ds):=by
 obtain⟨h1,h2,h3,h4,h5⟩:=q.seq a hn;have ps: ∀{b:Nat} {v:Nat},(if(b:Int)∈js++ds then 3 else 1)=v→v=3∧(b:Int)∈js++ds∨v=1∧(b:Int)∉js++ds:=fun {b v} h=>by
  split at h;·exact .inl ⟨h.symm,by assumption⟩
  ·exact .inr ⟨h.symm,by assumption⟩
 have p3: ∀b,b<S.D.nb→0<(S.D.bl b).nx→(Ap.ini S.D S.S S.A (A4 (Ae S.D)) S.last js ds).ps b=3:=fun b hb h=>if_pos ((f.nx b hb).2 h);refine⟨⟨a.geo,hoff,h1,⟨fun k=>⟨fun h=>?_,?_⟩,fun k h=>?_⟩,a.nxP,fun b hb h=>?_,fun b hb h=>?_,fun k hk=>?_,fun h=>?_,fun h=>?_,fun s p h=>?_,a.inj⟩,?_⟩;·cases k <;> exact absurd h (by show¬(0:Int)≤ -1;omega)
 ·cases k <;> (show(-1:Int)≤ -1;omega)
 ·cases k <;> exact absurd h (by show¬(0:Int)≤ -1;omega)
 ·rcases ps h with⟨e,-⟩|⟨e,-⟩ <;> omega
 ·rcases ps h with⟨e,-⟩|⟨-,e⟩;·omega
  ·rw [f.nx b hb]at e;show(S.D.bl b).nx=0;omega
 ·have hk':k∈js:=of_decide_eq_true hk;obtain⟨b,rfl,hb⟩:=f.mem k (List.mem_append_left _ hk');exact⟨b,rfl,hb,.inl (if_pos (List.mem_append_left _ hk'))⟩
 ·exact absurd h (by show¬(0:Int)≤ -1;omega)
 ·exact absurd h (by show¬(0:Int)≤ -1;omega)
 ·obtain⟨e1,e2,b,j,g1,g2,g3,g4,g5,g6,g7⟩:=a.map s p h;refine⟨e1,e2,b,j,g1,g2,g3,.inr (p3 b g2 (by omega)),?_,g6,g7⟩;refine decide_eq_false fun hm=>?_;obtain⟨r,hr,i,hi,m,o⟩:=(hJ b).1 hm;obtain⟨b',m',o',k,-⟩:=q.live r hr i hi;obtain⟨rfl,-⟩:=q.uq r hr i hi b m b' m' o o';rw [g5]at k;cases k
 ·have hm: ∀{r:Rc},r∈Hs→ ∀{i b j:Nat},i<r.n S.D.sz→On S b j (r.pg S.D.sz i)→r∈Hs.filter fun r=> @decide (∃i,i<r.n S.D.sz∧ ∃b j,On S b j (r.pg S.D.sz i)) (Classical.propDecidable _):=fun {r} hr {i b j} hi o=>List.mem_filter.2 ⟨hr,@decide_eq_true _ (Classical.propDecidable _) ⟨i,hi,b,j,o⟩⟩;have hf: ∀{r:Rc},(r∈Hs.filter fun r=> @decide (∃i,i<r.n S.D.sz∧ ∃b j,On S b j (r.pg S.D.sz i)) (Classical.propDecidable _))→r∈Hs∧ ∃i,i<r.n S.D.sz∧ ∃b j,On S b j (r.pg S.D.sz i):=fun h=>⟨(List.mem_filter.1 h).1,@of_decide_eq_true _ (Classical.propDecidable _) (List.mem_filter.1 h).2⟩;refine⟨_,Cs,⟨fun b j hb hj=>?_,fun r hr=>?_,fun r hr r' hr' e=>q.inj r (hf hr).1 r' (hf hr').1 e⟩,fun r hr=>?_,fun r hr i hi=>?_,q.uq,fun r hr=>q.rest r (hf hr).1,q.lnk,q.sem,q.ap,fun s p h=>?_⟩
  ·rcases q.pg b j hb hj with(h|⟨sec,m,d,e,g1,g2,g3,g4,g5⟩)|⟨r,hr,i,hi,e⟩;·exact .inl (.inl h)
   ·exact .inl (.inr ⟨sec,m,d,e,g1,g2,g3,g4,h4 b j sec m d hb hj e g1 g2 g3 g4 g5⟩)
   ·exact .inr ⟨r,hm hr hi ⟨hb,hj,e⟩,i,hi,e⟩
  ·obtain⟨hr,i,hi,b,j,o⟩:=hf hr;have ko:=q.ok r hr;exact⟨ko.k,ko.p,Nat.lt_of_le_of_lt (Nat.le_add_right _ _) (h5 r hr i hi b j o),ko.len,ko.es⟩
  ·obtain⟨b,j,o,-⟩:=q.live r hr 0 (r.n1 _);exact hm (q.sub r hr) (r.n1 _) o
  ·obtain⟨b,j,o,-⟩:=q.live r hr i hi;exact⟨b,j,o,decide_eq_true ((hJ b).2 ⟨r,hr,i,hi,j,o⟩),id⟩
  ·obtain⟨r1,r2,-⟩:=a.map s p h;obtain⟨b,j,n,d,e,g1,g2,g3,g4,g5,g6,g7⟩:=q.map s p h;exact⟨b,j,n,d,e,g1,g2,g3,g4,g5,g6,h4 b j s n d g1 g3 (by rw [g4];exact⟨.inl rfl,rfl⟩) g5 r1 (by omega) g6 g7⟩
