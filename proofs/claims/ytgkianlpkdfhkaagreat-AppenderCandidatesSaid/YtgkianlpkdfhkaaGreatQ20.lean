/- Part of the proof. -/
import Derived.Test.YtgkianlpkdfhkaaGreatQ19
import Derived.Test.YtgkianlpkdfhkaaGreatQ17
set_option linter.unusedVariables false
set_option linter.unusedSectionVars false
set_option linter.unusedSimpArgs false
set_option maxRecDepth 10000
set_option maxHeartbeats 4000000
namespace Go.Ev
section
variable {P0:Program}{E:Env}{F:T CFn}{K:T (List AV×AV)}(L:Lg P0 E F K)(X:Fx F K)
include L X
omit L X in
theorem AppP.inv {l:List (Int×Option (List Nat))}{S S':Ap}{es:List Ent}{o:WO}(h:AppP l S es S' o)(q:AInv S):AInv S'∧Keep S S'∧FrS S S'∧o≠ .pow∧(o= .full→ ∀i,i<S.D.nb→S'.ps i≠1):=by
 induction h with
 |nil=>exact⟨q,.refl _,.refl _,by simp,fun h=>by cases h⟩
 |put h _ ih=>
  obtain⟨a,b,c,d,-⟩:=h.inv q
  have f:=(h.fr q.iw).1
  obtain⟨a',b',c',d',e'⟩:=ih a
  exact⟨a',b.trans b' f.nb,f.trans c',d',fun hr i hi=>e' hr i (by rw [f.nb];exact hi)⟩
 |bad h ho=>
  obtain⟨a,b,c,d,-⟩:=h.inv q
  exact⟨a,b,(h.fr q.iw).1,c,d⟩
 |trim _ _ ih=>exact ih q
 |skip _ _ ih=>exact ih q
omit L X in
theorem AppP.es {l:List (Int×Option (List Nat))}{S S':Ap}{es:List Ent}{o:WO}(h:AppP l S es S' o)(q:AInv S): ∀e∈es,(∃x∈l,x.1=e.1)∧(e.2= -1∨ ∃b j:Nat,e.2=((b*S.D.P+j:Nat):Int)∧b<S.D.nb∧j<S.D.P∧(S.D.bl b).nx≤j):=by
 induction h with
 |nil=>intro e he;cases he
 |put h _ ih=>
  intro e he
  obtain⟨a,b,-⟩:=h.inv q
  have f:=(h.fr q.iw).1
  rcases List.mem_cons.1 he with rfl|he
  ·obtain⟨-,i,j,e1,e2,e3,e4⟩:=h.pg q
   exact⟨⟨_,List.mem_cons_self ..,rfl⟩,.inr ⟨i,j,by rw [e1],e2,e3,e4⟩⟩
  ·obtain⟨⟨x,hx,e1⟩,e2⟩:=ih a e he
   refine⟨⟨x,List.mem_cons_of_mem _ hx,e1⟩,?_⟩
   rcases e2 with e2|⟨i,j,g1,g2,g3,g4⟩
   ·exact .inl e2
   ·rw [f.nb]at g2
    rw [f.P]at g1 g3
    exact .inr ⟨i,j,g1,g2,g3,Nat.le_trans (b.nx i g2) g4⟩
 |bad h ho=>intro e he;cases he
 |trim _ _ ih=>
  intro e he
  rcases List.mem_cons.1 he with rfl|he
  ·exact⟨⟨_,List.mem_cons_self ..,rfl⟩,.inl rfl⟩
  ·obtain⟨⟨x,hx,e1⟩,e2⟩:=ih q e he
   exact⟨⟨x,List.mem_cons_of_mem _ hx,e1⟩,e2⟩
 |skip _ _ ih=>
  intro e he
  obtain⟨⟨x,hx,e1⟩,e2⟩:=ih q e he
  exact⟨⟨x,List.mem_cons_of_mem _ hx,e1⟩,e2⟩
end
section
variable {P0:Program}{E:Env}{F:T CFn}{K:T (List AV×AV)}(L:Lg P0 E F K)(X:Fx F K)
include L X
omit L X in
theorem J5 {P b j b' j':Nat}(hj:j<P)(hj':j'<P)(h:b*P+j=b'*P+j'):b=b'∧j=j':=by
 rcases Nat.lt_trichotomy b b' with q|q|q
 ·have:=Nat.mul_le_mul_right P (show b+1≤b' from q)
  rw [Nat.succ_mul]at this;omega
 ·subst q;exact⟨rfl,by omega⟩
 ·have:=Nat.mul_le_mul_right P (show b'+1≤b from q)
  rw [Nat.succ_mul]at this;omega
omit L X in
theorem AppP.nd {l:List (Int×Option (List Nat))}{S S':Ap}{es:List Ent}{o:WO}(h:AppP l S es S' o)(q:AInv S):es.Pairwise fun x y=>0≤x.2→x.2≠y.2:=by
 induction h with
 |nil=>exact .nil
 | @put sec data l S S1 S' p es o h r ih=>
  obtain⟨a,b,c,d,e⟩:=h.inv q
  have f:=(h.fr q.iw).1
  obtain⟨i,j,e1,e2,e3,-,-,e6,-,-⟩:=e p rfl
  refine .cons (fun y hy _ e=>?_) (ih a)
  have e:((p:Nat):Int)=y.2:=e
  rcases(r.es a y hy).2 with g|⟨i',j',g1,g2,g3,g4⟩
  ·omega
  ·rw [f.P]at g1 g3
   obtain⟨rfl,rfl⟩:=J5 e3 g3 (show i*S.D.P+j=i'*S.D.P+j' by omega)
   omega
 |bad h ho=>exact .nil
 |trim _ _ ih=>exact .cons (fun y hy h _=>by simp only at h;omega) (ih q)
 |skip _ _ ih=>exact ih q
omit L X in
theorem G8 {A:Int→Option Int}{l:List Ent}: ∀i s p,stA A l i s=some p→A s=some p∨ ∃j e,j<i∧l[j]?=some e∧e.1=s∧e.2=p∧0≤p
 |0,s,p,h=> .inl h
 |i+1,s,p,h=>by
  cases hx:l[i]? with
  |none=>
   have:stA A l (i+1)=stA A l i:=by unfold stA;rw [List.take_add_one,hx];simp
   rw [this]at h
   rcases G8 i s p h with h|⟨j,e,h1,h2⟩
   ·exact .inl h
   ·exact .inr ⟨j,e,by omega,h2⟩
  |some x=>
   rw [Pw hx]at h
   unfold C1 at h
   by_cases e1:s=x.1
   ·rw [if_pos e1]at h
    by_cases e2:0≤x.2
    ·rw [if_pos e2]at h;cases h
     exact .inr ⟨i,x,by omega,hx,e1.symm,rfl,e2⟩
    ·rw [if_neg e2]at h;cases h
   ·rw [if_neg e1]at h
    rcases G8 i s p h with h|⟨j,e,h1,h2⟩
    ·exact .inl h
    ·exact .inr ⟨j,e,by omega,h2⟩
end
section
variable {P0:Program}{E:Env}{F:T CFn}{K:T (List AV×AV)}(L:Lg P0 E F K)(X:Fx F K)
include L X
omit L X in
theorem AppP.ok {l:List (Int×Option (List Nat))}{S S':Ap}{es:List Ent}{o:WO}(h:AppP l S es S' o)(q:AInv S)(hr: ∀y∈l,0≤y.1∧y.1<((S.S:Nat):Int)): ∀j x,es[j]?=some x→okE S.S (S.D.nb*S.D.P) (stA S.A es j) x:=by
 intro j x hx
 have hm:=List.mem_of_getElem? hx
 obtain⟨⟨y,hy,hy1⟩,hp⟩:=h.es q x hm
 have hrg:=hr y hy
 rw [hy1]at hrg
 have hnd:=h.nd q
 refine⟨⟨hrg.1,hrg.2,?_,?_⟩,?_⟩
 ·rcases hp with e|⟨b,k,e,-⟩ <;> omega
 ·rcases hp with e|⟨b,k,e,hb,hk,-⟩
  ·rw [e];omega
  ·rw [e]
   have:=Nat.mul_le_mul_right S.D.P (show b+1≤S.D.nb from hb)
   rw [Nat.succ_mul]at this
   omega
 ·rintro⟨s,hs,hne⟩
  rcases G8 j s x.2 hs with h1|⟨j',e,h1,h2,h3,h4,h5⟩
  ·obtain⟨-,-,i,m,g1,g2,g3,g4,g5,g6,-⟩:=q.map s x.2 h1
   rcases hp with e|⟨b,k,e,hb,hk,hk2⟩
   ·omega
   ·obtain⟨rfl,rfl⟩:=J5 g3 hk (show i*S.D.P+m=b*S.D.P+k by omega)
    omega
  ·obtain⟨l1,l2⟩:=List.getElem?_eq_some_iff.1 h2
   obtain⟨l3,l4⟩:=List.getElem?_eq_some_iff.1 hx
   have:=List.pairwise_iff_getElem.1 hnd j' j l1 l3 h1
   rw [l2,l4]at this
   exact this (by omega) h4
end
section
variable {P0:Program}{E:Env}{F:T CFn}{K:T (List AV×AV)}(L:Lg P0 E F K)(X:Fx F K)
include L X
omit L X in
theorem RlP.inv {sz:Nat}{l:List JPg}{S S':Ap}{o:WO}(h:RlP sz l S S' o)(q:AInv S):AInv S'∧Keep S S'∧o≠ .pow∧(o= .full→ ∀i,i<S.D.nb→S'.ps i≠1):=by
 induction h with
 |nil=>exact⟨q,.refl _,by simp,fun h=>by cases h⟩
 |cons h _ ih=>
  obtain⟨a,b,c,d,-⟩:=h.inv q
  have f:=h.fr
  obtain⟨a',b',c',d'⟩:=ih a
  exact⟨a',b.trans b' f.nb,c',fun hr i hi=>d' hr i (by rw [f.nb];exact hi)⟩
 |bad h ho=>
  obtain⟨a,b,c,d,-⟩:=h.inv q
  exact⟨a,b,c,d⟩
omit L X in
theorem RcP.inv {k:Nat}{es:List Ent}{S S':Ap}{o:WO}(h:RcP k es S S' o)(q:AInv S):AInv S'∧Keep S S'∧o≠ .pow∧(o= .full→ ∀i,i<S.D.nb→S'.ps i≠1):=by
 have q1:AInv {S with next:=S.next+recN S es}:=q.nw (S.next+recN S es) S.last S.wr
 cases h with
 |ok h=>
  obtain⟨a,b,c,d⟩:=h.inv q1
  exact⟨a.nw _ _ _,⟨b.nx,b.pg,b.ps3,b.psm,b.jrm,b.n1⟩,c,fun h=>by cases h⟩
 |bad h _=>
  obtain⟨a,b,c,d⟩:=h.inv q1
  exact⟨a,⟨b.nx,b.pg,b.ps3,b.psm,b.jrm,b.n1⟩,c,d⟩
end
section
variable {P0:Program}{E:Env}{F:T CFn}{K:T (List AV×AV)}(L:Lg P0 E F K)(X:Fx F K)
include L X
omit L X in
theorem AInv.app {S:Ap}{es:List Ent}(q:AInv S)(ok: ∀j x,es[j]?=some x→okE S.S (S.D.nb*S.D.P) (stA S.A es j) x)
  (hp: ∀e∈es,0≤e.2→ ∃data,PgOk S e.1 data e.2):AInv {S with A:=stA S.A es es.length}:=by
 have hinv:InvA S.S (S.D.nb*S.D.P) S.A:=by
  refine⟨fun s p h=>?_,q.inj⟩
  obtain⟨h1,h2,b,j,h3,h4,h5,-⟩:=q.map s p h
  refine⟨h1,h2,by omega,?_⟩
  have:=Nat.mul_le_mul_right S.D.P (show b+1≤S.D.nb from h4)
  rw [Nat.succ_mul]at this
  omega
 have hinv2:=hinv.st es.length (Nat.le_refl _) fun j x _ hx=>ok j x hx
 refine⟨q.geo,q.off,q.cut,q.dn,⟨fun k=>⟨(q.iw.wi k).sel,(q.iw.wi k).lo⟩,q.iw.ne⟩,q.nxP,q.op2,q.free,q.jr,q.jlog,q.jdat,fun s p h=>?_,hinv2.inj⟩
 obtain⟨h1,h2,-,-⟩:=hinv2.rg s p h
 refine⟨h1,h2,?_⟩
 rcases G8 es.length s p h with g|⟨j,e,g1,g2,g3,g4,g5⟩
 ·exact(q.map s p g).2.2
 ·obtain⟨data,hd⟩:=hp e (List.mem_of_getElem? g2) (by omega)
  obtain⟨b,i,n,f1,f2,f3,f4,f5,f6,f7⟩:=hd.ex
  exact⟨b,i,by rw [←g4];exact f1,f2,f3,f4,f5,f6,by rw [f7]⟩
end
section
variable {P0:Program}{E:Env}{F:T CFn}{K:T (List AV×AV)}(L:Lg P0 E F K)(X:Fx F K)
include L X
omit L X in
theorem AppP.pg {l:List (Int×Option (List Nat))}{S S':Ap}{es:List Ent}{o:WO}(h:AppP l S es S' o)(q:AInv S): ∀e∈es,0≤e.2→ ∃data,(e.1,some data)∈l∧PgOk S' e.1 data e.2:=by
 induction h with
 |nil=>intro e he;cases he
 | @put sec data l S S1 S' p es o h r ih=>
  obtain⟨a,b,-⟩:=h.inv q
  obtain⟨-,k',f',-⟩:=r.inv a
  intro e he h0
  rcases List.mem_cons.1 he with rfl|he
  ·obtain⟨g,-⟩:=h.pg q
   exact⟨data,List.mem_cons_self ..,g.keep k' f'.P f'.nb⟩
  ·obtain⟨d,h1,h2⟩:=ih a e he h0
   exact⟨d,List.mem_cons_of_mem _ h1,h2⟩
 |bad h ho=>intro e he;cases he
 |trim _ _ ih=>
  intro e he h0
  rcases List.mem_cons.1 he with rfl|he
  ·simp only at h0;omega
  ·obtain⟨d,h1,h2⟩:=ih q e he h0
   exact⟨d,List.mem_cons_of_mem _ h1,h2⟩
 |skip _ _ ih=>
  intro e he h0
  obtain⟨d,h1,h2⟩:=ih q e he h0
  exact⟨d,List.mem_cons_of_mem _ h1,h2⟩
omit L X in
theorem CmP.inv {es:List Ent}{S S':Ap}{o:WO}(h:CmP es S S' o)(q:AInv S)(ok: ∀j x,es[j]?=some x→okE S.S (S.D.nb*S.D.P) (stA S.A es j) x)(hp: ∀e∈es,0≤e.2→ ∃data,PgOk S e.1 data e.2):
  AInv S'∧Keep S S'∧o≠ .pow∧(o= .full→(∀i,i<S.D.nb→S'.ps i≠1)∧S'.A=S.A)∧(o= .done 0→S'.A=stA S.A es es.length):=by
 cases h with
 |nil h=>subst h;exact⟨q,.refl _,by simp,(fun h=>by cases h),fun _=>rfl⟩
 |ok h hn=>
  obtain⟨a,b,c,d⟩:=h.inv q
  obtain⟨f,-⟩:=h.fr q.iw
  have e:=f.A
  refine⟨a.app (es:=es) ?_ fun x hx h0=>?_,⟨b.nx,b.pg,b.ps3,b.psm,b.jrm,b.n1⟩,by simp,(fun h=>by cases h),fun _=>by show stA _ _ _=_;rw [e]⟩
  ·rw [f.secs,f.nb,f.P,e];exact ok
  ·obtain⟨data,hd⟩:=hp x hx h0
   exact⟨data,hd.keep b f.P f.nb⟩
 |bad h ho=>
  obtain⟨a,b,c,d⟩:=h.inv q
  obtain⟨f,-⟩:=h.fr q.iw
  exact⟨a,b,c,fun hr=>⟨d hr,f.A⟩,fun hr=>by rcases ho with e|e <;> rw [e]at hr <;> cases hr⟩
end
section
variable {P0:Program}{E:Env}{F:T CFn}{K:T (List AV×AV)}(L:Lg P0 E F K)(X:Fx F K)
include L X
omit L X in
theorem ApdP.inv {l:List (Int×Option (List Nat))}{S S':Ap}{o:WO}(h:ApdP l S S' o)(q:AInv S)(hr: ∀y∈l,0≤y.1∧y.1<((S.S:Nat):Int)):
  AInv S'∧Keep S S'∧o≠ .pow∧(o= .full→(∀i,i<S.D.nb→S'.ps i≠1)∧S'.A=S.A)∧
   (o= .done 0→ ∃es S1,AppP l S es S1 (.done 0)∧S'.A=stA S.A es es.length∧ ∀e∈es,0≤e.2→ ∃data,(e.1,some data)∈l∧PgOk S' e.1 data e.2):=by
 have key: ∀{es:List Ent} {S1 S2:Ap} {o:WO},AppP l S es S1 (.done 0)→CmP es S1 S2 o→AInv S2∧Keep S S2∧o≠ .pow∧(o= .full→(∀i,i<S.D.nb→S2.ps i≠1)∧S2.A=S.A)∧
   (o= .done 0→S2.A=stA S.A es es.length∧ ∀e∈es,0≤e.2→ ∃data,(e.1,some data)∈l∧PgOk S2 e.1 data e.2):=by
  intro es S1 S2 o a c
  obtain⟨q1,k1,f1,-,-⟩:=a.inv q
  have hp:=a.pg q
  obtain⟨q2,k2,h2,h3,h4⟩:=c.inv q1 (by rw [f1.secs,f1.nb,f1.P,f1.A];exact a.ok q hr) fun e he h0=>let⟨d,_,h⟩:=hp e he h0;⟨d,h⟩
  obtain⟨⟨g1,g2,-⟩,-⟩:=c.fr q1.iw
  refine⟨q2,k1.trans k2 f1.nb,h2,fun ho=>⟨fun i hi=>(h3 ho).1 i (by rw [f1.nb];exact hi),(h3 ho).2.trans f1.A⟩,fun ho=>⟨by rw [h4 ho,f1.A],fun e he h0=>?_⟩⟩
  obtain⟨d,e1,e2⟩:=hp e he h0
  exact⟨d,e1,e2.keep k2 g2 g1⟩
 cases h with
 |ok a c=>
  obtain⟨h1,h2,h3,h4,h5⟩:=key a c
  exact⟨h1,h2,h3,h4,fun ho=>⟨_,_,a,(h5 ho).1,(h5 ho).2⟩⟩
 |bad a ho=>
  obtain⟨q1,k1,f1,h4,h5⟩:=a.inv q
  exact⟨q1,k1,h4,fun hr=>⟨h5 hr,f1.A⟩,fun hr=>by rcases ho with e|e <;> rw [e]at hr <;> cases hr⟩
 |bad2 a c ho=>
  obtain⟨h1,h2,h3,h4,h5⟩:=key a c
  exact⟨h1,h2,h3,h4,fun hr=>by rcases ho with e|e <;> rw [e]at hr <;> cases hr⟩
end
section
variable {P0:Program}{E:Env}{F:T CFn}{K:T (List AV×AV)}(L:Lg P0 E F K)(X:Fx F K)
include L X
omit L X in
theorem Rj {P b j:Nat}(hj:j<P):(b*P+j) / P=b∧(b*P+j) % P=j:=by
 rw [Nat.add_comm]
 exact⟨by rw [Nat.add_mul_div_right _ _ (by omega),Nat.div_eq_of_lt hj,Nat.zero_add],by rw [Nat.add_mul_mod_self_right,Nat.mod_eq_of_lt hj]⟩
omit L X in
theorem PgOk.rd {S:Ap}{s:Int}{data:List Nat}{p:Int}(q:PgOk S s data p)(h:S.A s=some p)(hd:data.length=S.D.sz):S.rd s=data:=by
 obtain⟨b,j,n,h1,h2,h3,h4,h5,h6,h7⟩:=q.ex
 obtain⟨g1,g2⟩:=Rj (b:=b) h3
 unfold Ap.rd
 rw [h]
 simp only [h1,Int.toNat_natCast,g1,g2,h7]
 rw [←hd,List.take_left']
 rfl
omit L X in
theorem Hv {S S':Ap}(q:AInv S)(k:Keep S S')(g:S'.D.P=S.D.P∧S'.D.sz=S.D.sz){s:Int}(h:S'.A s=S.A s):S'.rd s=S.rd s:=by
 unfold Ap.rd
 rw [h,g.1,g.2]
 cases hs:S.A s with
 |none=>rfl
 |some p=>
  obtain⟨-,-,b,j,h1,h2,h3,h4,h5,h6,h7⟩:=q.map s p hs
  obtain⟨g1,g2⟩:=Rj (b:=b) h3
  simp only [h1,Int.toNat_natCast,g1,g2]
  rw [k.pg b j h2 h6]
end
section
variable {P0:Program}{E:Env}{F:T CFn}{K:T (List AV×AV)}(L:Lg P0 E F K)(X:Fx F K)
include L X
omit L X in
theorem AInv.ers {S:Ap}{b:Nat}(q:AInv S)(hb:b<S.D.nb)(h3:S.ps b=3)(hm: ∀s p,S.A s=some p→ ∀j:Nat,j<S.D.P→p≠((b*S.D.P+j:Nat):Int))(hj:S.jr ((b:Nat):Int)=false):
  AInv (S.ers b).1∧(S.ers b).2= .done 0:=by
 have nb2:((b:Nat):Int)≠S.dat∨S.dat<0:=by
  by_cases h:0≤S.dat
  ·obtain⟨g1,g2⟩:=(q.iw.wi false).sel h
   have g2':S.ps S.dat.toNat=2:=g2
   exact .inl fun e=>by rw [←e,Int.toNat_natCast]at g2';omega
  ·exact .inr (by omega)
 have nb3:((b:Nat):Int)≠S.log∨S.log<0:=by
  by_cases h:0≤S.log
  ·obtain⟨g1,g2⟩:=(q.iw.wi true).sel h
   have g2':S.ps S.log.toNat=2:=g2
   exact .inl fun e=>by rw [←e,Int.toNat_natCast]at g2';omega
  ·exact .inr (by omega)
 have key: ∀(D':Dv) (su:Int→Bool) (wr:Int→Option Nat) (v:Nat) (pe:Nat→Nat),D'.nb=S.D.nb→D'.P=S.D.P→D'.sz=S.D.sz→D'.en=S.D.en→D'.off=false→D'.cut= -1→(∀i,i≠b→D'.bl i=S.D.bl i)→(D'.bl b).nx≤S.D.P→v≠2→(v=1→(D'.bl b).nx=0)→
   AInv {S with D:=D',su:=su,wr:=wr,ps:=upd S.ps b v,pe:=pe}:=by
  intro D' su wr v pe h1 h2 h3' h4 h5 h6 h7 h8 h9 h10
  have ps: ∀i,S.ps i=2→upd S.ps b v i=2:=fun i h=>by rw [upd_ne _ _ (fun e=>by subst e;omega)];exact h
  refine⟨⟨by show 2≤D'.nb∧D'.nb≤12;rw [h1];exact q.geo.nb,by show 2≤D'.P∧D'.P≤6;rw [h2];exact q.geo.P,by show 12≤D'.sz∧D'.sz≤30;rw [h3'];exact q.geo.sz,by show 1≤D'.en∧D'.en≤1000;rw [h4];exact q.geo.en⟩,h5,h6,q.dn,⟨fun k=>⟨fun h=>?_,(q.iw.wi k).lo⟩,q.iw.ne⟩,fun i hi=>?_,fun i hi h=>?_,fun i hi h=>?_,fun y hy=>?_,q.jlog,q.jdat,fun s p h=>?_,q.inj⟩
  ·obtain⟨g1,g2⟩:=(q.iw.wi k).sel h
   exact⟨by show S.sel k<((D'.nb:Nat):Int);rw [h1];exact g1,ps _ g2⟩
  ·show(D'.bl i).nx≤D'.P
   have hi':i<D'.nb:=hi
   rw [h2]
   by_cases e:i=b
   ·subst e;exact h8
   ·rw [h7 i e];exact q.nxP i (by omega)
  ·have hi':i<D'.nb:=hi
   have h':upd S.ps b v i=2:=h
   by_cases e:i=b
   ·subst e;rw [upd_eq]at h';exact absurd h' h9
   ·rw [upd_ne _ _ e]at h';exact q.op2 i (by omega) h'
  ·have hi':i<D'.nb:=hi
   have h':upd S.ps b v i=1:=h
   show(D'.bl i).nx=0
   by_cases e:i=b
   ·subst e;rw [upd_eq]at h';exact h10 h'
   ·rw [upd_ne _ _ e]at h';rw [h7 i e];exact q.free i (by omega) h'
  ·obtain⟨i,e1,e2,e3⟩:=q.jr y hy
   have hib:i≠b:=fun e=>by subst e;have hy':S.jr y=true:=hy;rw [e1,hj]at hy';cases hy'
   refine⟨i,e1,by show i<D'.nb;rw [h1];exact e2,?_⟩
   show upd S.ps b v i=3∨upd S.ps b v i=2∧_
   rw [upd_ne _ _ hib];exact e3
  ·obtain⟨e1,e2,i,j,g1,g2,g3,g4,g5,g6,g7⟩:=q.map s p h
   have hib:i≠b:=fun e=>by subst e;exact hm s p h j g3 g1
   refine⟨e1,e2,i,j,by show p=((i*D'.P+j:Nat):Int);rw [h2];exact g1,by show i<D'.nb;rw [h1];exact g2,by show j<D'.P;rw [h2];exact g3,?_,g5,by show j<(D'.bl i).nx;rw [h7 i hib];exact g6,by show((D'.bl i).pg j).st=2;rw [h7 i hib];exact g7⟩
   show upd S.ps b v i=2∨upd S.ps b v i=3
   rw [upd_ne _ _ hib];exact g4
 have hn: ¬((S.D.n:Int)=S.D.cut):=by rw [q.cut];omega
 unfold Ap.ers
 by_cases hs:S.su ((b:Nat):Int)=true
 ·rw [if_pos hs]
  exact⟨key S.D _ S.wr 4 S.pe rfl rfl rfl rfl q.off q.cut (fun _ _=>rfl) (q.nxP b hb) (by omega) (fun h=>by cases h),rfl⟩
 ·rw [if_neg hs]
  have he:S.D.erase ((b:Nat):Int)=if S.D.en≤(S.D.bl b).er then(S.D,56)else if S.D.flt S.D.n=true then({S.D with bl:=upd S.D.bl b ⟨Di 5,S.D.P,(S.D.bl b).er+1⟩,n:=S.D.n+1},55)else({S.D with bl:=upd S.D.bl b ⟨Di 1,0,(S.D.bl b).er+1⟩,n:=S.D.n+1},0):=by
   unfold Dv.erase
   rw [if_pos ⟨by omega,by omega⟩,if_neg (by rw [q.off];simp),if_neg hn]
   simp only [Int.toNat_natCast]
  rw [he]
  by_cases c1:S.D.en≤(S.D.bl b).er
  ·simp only [if_pos c1]
   exact⟨key S.D S.su _ 4 S.pe rfl rfl rfl rfl q.off q.cut (fun _ _=>rfl) (q.nxP b hb) (by omega) (fun h=>by cases h),rfl⟩
  ·by_cases c2:S.D.flt S.D.n=true
   ·simp only [if_neg c1,if_pos c2]
    exact⟨key {S.D with bl:=upd S.D.bl b ⟨Di 5,S.D.P,(S.D.bl b).er+1⟩,n:=S.D.n+1} S.su _ 4 S.pe rfl rfl rfl rfl q.off q.cut (fun i h=>upd_ne _ _ h) (by show(upd S.D.bl b _ b).nx≤_;rw [upd_eq];exact Nat.le_refl _) (by omega) (fun h=>by cases h),rfl⟩
   ·simp only [if_neg c1,if_neg c2]
    exact⟨key {S.D with bl:=upd S.D.bl b ⟨Di 1,0,(S.D.bl b).er+1⟩,n:=S.D.n+1} S.su _ 1 _ rfl rfl rfl rfl q.off q.cut (fun i h=>upd_ne _ _ h) (by show(upd S.D.bl b _ b).nx≤_;rw [upd_eq];exact Nat.zero_le _) (by omega) (fun _=>by show(upd S.D.bl b _ b).nx=0;rw [upd_eq]),rfl⟩
end
section
variable {P0:Program}{E:Env}{F:T CFn}{K:T (List AV×AV)}(L:Lg P0 E F K)(X:Fx F K)
include L X
omit L X in
theorem AInv.unj {S:Ap}{b:Nat}(q:AInv S)(h3:S.ps b=3):AInv {S with jr:=A1 S.jr ((b:Nat):Int) false}:=by
 have ne: ∀k,0≤S.sel k→S.sel k≠((b:Nat):Int):=fun k h e=>by
  obtain⟨g1,g2⟩:=(q.iw.wi k).sel h
  rw [e,Int.toNat_natCast]at g2;omega
 refine⟨q.geo,q.off,q.cut,q.dn,⟨fun k=>⟨(q.iw.wi k).sel,(q.iw.wi k).lo⟩,q.iw.ne⟩,q.nxP,q.op2,q.free,fun y hy=>?_,fun h=>?_,fun h=>?_,fun s p h=>?_,q.inj⟩
 ·have hy':A1 S.jr ((b:Nat):Int) false y=true:=hy
  unfold A1 at hy'
  split at hy'
  ·cases hy'
  ·exact q.jr y hy'
 ·show A1 S.jr ((b:Nat):Int) false S.log=true
  unfold A1;rw [if_neg (show¬S.log=((b:Nat):Int) from ne true h)];exact q.jlog h
 ·show A1 S.jr ((b:Nat):Int) false S.dat=false
  unfold A1;rw [if_neg (show¬S.dat=((b:Nat):Int) from ne false h)];exact q.jdat h
 ·obtain⟨e1,e2,i,j,g1,g2,g3,g4,g5,g6⟩:=q.map s p h
  refine⟨e1,e2,i,j,g1,g2,g3,g4,?_,g6⟩
  show A1 S.jr ((b:Nat):Int) false ((i:Nat):Int)=false
  unfold A1;split
  ·rfl
  ·exact g5
omit L X in
theorem ye (S:Ap)(b:Nat)(f:Int→Bool):({S with jr:=f}:Ap).ers b=({(S.ers b).1 with jr:=f},(S.ers b).2):=by
 unfold Ap.ers
 by_cases h1:S.su ((b:Nat):Int)=true
 ·rw [if_pos h1,if_pos h1]
 ·rw [if_neg h1,if_neg h1]
  by_cases h2:(S.D.erase ((b:Nat):Int)).2=50
  ·rw [if_pos h2,if_pos h2]
  ·rw [if_neg h2,if_neg h2]
   by_cases h3:(S.D.erase ((b:Nat):Int)).2=0
   ·rw [if_pos h3,if_pos h3]
   ·rw [if_neg h3,if_neg h3]
omit L X in
theorem Ns (S:Ap)(b:Nat):(S.ers b).1.jr=S.jr:=by
 unfold Ap.ers
 split
 ·rfl
 ·split
  ·rfl
  ·split <;> rfl
omit L X in
theorem AInv.ersJ {S:Ap}{b:Nat}(q:AInv S)(hb:b<S.D.nb)(h3:S.ps b=3)(hj:S.jr ((b:Nat):Int)=true):
  AInv {(S.ers b).1 with jr:=A1 (S.ers b).1.jr ((b:Nat):Int) false}∧(S.ers b).2= .done 0:=by
 have q1:=q.unj h3
 have h:=q1.ers (b:=b) hb h3 (fun s p h j hj2 e=>?_) (by show A1 _ _ _ _=_;unfold A1;rw [if_pos rfl])
 ·rw [ye]at h
  rw [Ns]
  exact h
 ·obtain⟨-,-,i,m,g1,g2,g3,g4,g5,-⟩:=q.map s p h
  obtain⟨rfl,-⟩:=J5 g3 hj2 (show i*S.D.P+m=b*S.D.P+j by have e':p=((b*S.D.P+j:Nat):Int):=e;omega)
  rw [hj]at g5;cases g5
end
section
variable {P0:Program}{E:Env}{F:T CFn}{K:T (List AV×AV)}(L:Lg P0 E F K)(X:Fx F K)
include L X
omit L X in
structure Bd (S:Ap)(k:Nat):Prop where
 last:S.last<S.next
 wr: ∀b n,S.wr b=some n→n<S.next
 pe: ∀b,S.pe b≤k
 nx:S.next≤k+1
 dn:S.D.n≤k
omit L X in
theorem Bd.mono {S:Ap}{k k':Nat}(q:Bd S k)(h:k≤k'):Bd S k':=⟨q.last,q.wr,fun b=>Nat.le_trans (q.pe b) h,by have:=q.nx;omega,Nat.le_trans q.dn h⟩
omit L X in
theorem StP.bd {sec:Int}{data:List Nat}{S S':Ap}{o:WO}{k:Nat}(h:StP sec data S S' o)(iw:IW S)(hn:S.D.nb≤12)(q:Bd S k):Bd S' (k+30):=by
 obtain⟨f,-,h1,h2⟩:=h.fr iw
 have l1:=q.last
 have l2:=q.nx
 have l3:=q.dn
 refine⟨by rw [f.last,h2];omega,fun b n e=>?_,fun b=>by rw [f.pe];have:=q.pe b;omega,by rw [h2];omega,by omega⟩
 rw [h2]
 cases h with
 |ok h=>
  have g:=h.fr.wr
  simp only [Gn]at e
  split at e
  ·cases e;omega
  ·rw [g]at e;have:=q.wr b n e;omega
 |bad h _=>have g:=h.fr.wr;rw [g]at e;have:=q.wr b n e;omega
omit L X in
theorem AppP.bd {l:List (Int×Option (List Nat))}{S S':Ap}{es:List Ent}{o:WO}(h:AppP l S es S' o): ∀{k:Nat},IW S→S.D.nb≤12→Bd S k→Bd S' (k+30*l.length):=by
 induction h with
 |nil=>intro k _ _ q;exact q.mono (Nat.le_add_right _ _)
 |put h _ ih=>
  intro k iw hn q
  obtain⟨f,iw1,-⟩:=h.fr iw
  exact(ih iw1 (by rw [f.nb];exact hn) (h.bd iw hn q)).mono (by rw [List.length_cons];omega)
 |bad h _=>intro k iw hn q;exact(h.bd iw hn q).mono (by rw [List.length_cons];omega)
 |trim _ _ ih=>intro k iw hn q;exact(ih iw hn q).mono (by rw [List.length_cons];omega)
 |skip _ _ ih=>intro k iw hn q;exact(ih iw hn q).mono (by rw [List.length_cons];omega)
omit L X in
theorem AppP.len {l:List (Int×Option (List Nat))}{S S':Ap}{es:List Ent}{o:WO}(h:AppP l S es S' o):es.length≤l.length:=by
 induction h with
 |nil=>exact Nat.le_refl _
 |put _ _ ih=>exact Nat.succ_le_succ ih
 |bad _ _=>exact Nat.zero_le _
 |trim _ _ ih=>exact Nat.succ_le_succ ih
 |skip _ _ ih=>exact Nat.le_succ_of_le ih
omit L X in
theorem RcP.bd {t:Nat}{es:List Ent}{S S':Ap}{o:WO}{k:Nat}(h:RcP t es S S' o)(iw:IW S)(hn:S.D.nb≤12)(q:Bd S k):Bd S' (k+30*recN S es):=by
 obtain⟨f,-,h1,h2⟩:=h.fr iw
 have l1:=q.last
 have l2:=q.nx
 have l3:=q.dn
 have hm:(2*S.D.nb+2)*recN S es≤30*recN S es:=Nat.mul_le_mul_right _ (by omega)
 have hl:S'.last<S'.next:=by
  rw [h2]
  cases h with
  |ok h=>simp only;omega
  |bad h _=>have:=(h.fr (S:= {S with next:=S.next+recN S es}) ⟨fun k=>⟨(iw.wi k).sel,(iw.wi k).lo⟩,iw.ne⟩).1.last;rw [this];simp only;omega
 exact⟨hl,fun b n e=>by rw [f.wr]at e;have:=q.wr b n e;omega,fun b=>by rw [f.pe];have:=q.pe b;omega,by omega,by omega⟩
omit L X in
theorem CmP.bd {es:List Ent}{S S':Ap}{o:WO}{k:Nat}(h:CmP es S S' o)(iw:IW S)(hn:S.D.nb≤12)(q:Bd S k):Bd S' (k+30*recN S es):=by
 cases h with
 |nil h=>exact q.mono (Nat.le_add_right _ _)
 |ok h _=>have:=h.bd iw hn q;exact⟨this.last,this.wr,this.pe,this.nx,this.dn⟩
 |bad h _=>exact h.bd iw hn q
omit L X in
theorem Wt {S:Ap}{k:Nat}(b:Nat)(q:Bd S k):Bd (S.ers b).1 (k+1):=by
 have l2:=q.nx
 have l3:=q.dn
 have g:=(S.D.erase_geo ((b:Nat):Int)).2.1
 have hp: ∀i,S.pe i≤k+1:=fun i=>by have:=q.pe i;omega
 have hw: ∀i n,Gn S.wr ((b:Nat):Int) none i=some n→n<S.next:=fun i n e=>by
  simp only [Gn]at e
  split at e
  ·cases e
  ·exact q.wr i n e
 unfold Ap.ers
 split
 ·exact⟨q.last,q.wr,hp,by simp only;omega,by simp only;omega⟩
 ·split
  ·exact⟨q.last,q.wr,hp,by simp only;omega,by simp only;omega⟩
  ·split
   ·refine⟨q.last,hw,fun i=>?_,by simp only;omega,by simp only;omega⟩
    show upd S.pe b (S.pe b+1) i≤k+1
    by_cases e:i=b
    ·subst e;rw [upd_eq];have:=q.pe i;omega
    ·rw [upd_ne _ _ e];exact hp i
   ·exact⟨q.last,hw,hp,by simp only;omega,by simp only;omega⟩
omit L X in
theorem ErP.bd {l:List Int}{S S':Ap}{o:WO}(h:ErP l S S' o): ∀{k:Nat},Bd S k→Bd S' (k+l.length):=by
 induction h with
 |nil=>intro k q;exact q
 | @cons b l S S' o h t ih=>
  intro k q
  have q1:=Wt b q
  exact(ih ⟨q1.last,q1.wr,q1.pe,q1.nx,q1.dn⟩).mono (by rw [List.length_cons];omega)
 | @bad b l S h=>intro k q;exact(Wt b q).mono (by rw [List.length_cons];omega)
omit L X in
theorem Nu {S:Ap}{es:List Ent}(h:12≤S.D.sz):recN S es≤es.length+1:=K2 h
omit L X in
theorem ApdP.bd {l:List (Int×Option (List Nat))}{S S':Ap}{o:WO}{k:Nat}(h:ApdP l S S' o)(q:AInv S)(b:Bd S k)(hl:l.length≤6):Bd S' (k+1000):=by
 have hn:=q.geo.nb.2
 have key: ∀{es:List Ent} {S1 S2:Ap} {o:WO},AppP l S es S1 (.done 0)→CmP es S1 S2 o→Bd S2 (k+1000):=by
  intro es S1 S2 o a c
  obtain⟨q1,k1,f1,-,-⟩:=a.inv q
  have b1:=a.bd q.iw hn b
  have b2:=c.bd q1.iw (by rw [f1.nb];exact hn) b1
  have hr:recN S1 es≤es.length+1:=Nu (by rw [f1.sz];exact q.geo.sz.1)
  have he:=a.len
  exact b2.mono (by omega)
 cases h with
 |ok a c=>exact key a c
 |bad a ho=>exact(a.bd q.iw hn b).mono (by omega)
 |bad2 a c ho=>exact key a c
end
section
variable {P0:Program}{E:Env}{F:T CFn}{K:T (List AV×AV)}(L:Lg P0 E F K)(X:Fx F K)
include L X
omit L X in
structure Sm (S S':Ap):Prop where
 nb:S'.D.nb=S.D.nb
 P:S'.D.P=S.D.P
 sz:S'.D.sz=S.D.sz
 en:S'.D.en=S.D.en
 secs:S'.S=S.S
omit L X in
theorem Sm.trans {S S1 S2:Ap}(a:Sm S S1)(b:Sm S1 S2):Sm S S2:=⟨b.nb.trans a.nb,b.P.trans a.P,b.sz.trans a.sz,b.en.trans a.en,b.secs.trans a.secs⟩
omit L X in
theorem FrS.sm {S S':Ap}(f:FrS S S'):Sm S S':=⟨f.nb,f.P,f.sz,f.en,f.secs⟩
omit L X in
theorem Ss: ∀(es:List Ent) (A:Int→Option Int),(es.map (·.1)).Nodup→(∀s,s∉es.map (·.1)→es.foldl C1 A s=A s)∧ ∀e∈es,es.foldl C1 A e.1=if 0≤e.2 then some e.2 else none
 | [],A,_=>⟨fun _ _=>rfl,fun e he=>by cases he⟩
 |x::r,A,h=>by
  rw [List.map_cons,List.nodup_cons]at h
  obtain⟨h1,h2⟩:=Ss r (C1 A x) h.2
  refine⟨fun s hs=>?_,fun e he=>?_⟩
  ·rw [List.map_cons,List.mem_cons,not_or]at hs
   rw [List.foldl_cons,h1 s hs.2]
   unfold C1;rw [if_neg hs.1]
  ·rw [List.foldl_cons]
   rcases List.mem_cons.1 he with rfl|he
   ·rw [h1 _ h.1];unfold C1;rw [if_pos rfl]
   ·exact h2 e he
omit L X in
theorem St (es:List Ent)(A:Int→Option Int):stA A es es.length=es.foldl C1 A:=by unfold stA;rw [List.take_length]
omit L X in
theorem Wu {S:Ap}(q:AInv S)(ok:S.D.Ok)(s:Int):(S.rd s).length=S.D.sz:=by
 unfold Ap.rd
 cases hs:S.A s with
 |none=>exact List.length_replicate
 |some p=>
  obtain⟨-,-,b,j,h1,h2,h3,h4,h5,h6,h7⟩:=q.map s p hs
  obtain⟨g1,g2⟩:=Rj (b:=b) h3
  have:=((ok.bl b h2).pg j h3).full (.inl h7)
  simp only [h1,Int.toNat_natCast,g1,g2,List.length_take]
  omega
omit L X in
theorem AppP.keys {l:List (Int×Option (List Nat))}{S S':Ap}{es:List Ent}{o:WO}(h:AppP l S es S' o)(q:AInv S)(ho:o= .done 0):
  (es.map (·.1)).Sublist (l.map (·.1))∧(∀s d,(s,some d)∈l→ ∃p:Nat,(s,((p:Nat):Int))∈es)∧(∀s,(s,none)∈l→(s,-1)∈es∨S.A s=none):=by
 induction h with
 |nil=>exact⟨.slnil,(fun s d h=>by cases h),fun s h=>by cases h⟩
 | @put sec data l S S1 S' p es o h r ih=>
  obtain⟨a,-⟩:=h.inv q
  have f:=(h.fr q.iw).1
  obtain⟨h1,h2,h3⟩:=ih a ho
  refine⟨h1.cons_cons _,fun s d hm=>?_,fun s hm=>?_⟩
  ·rcases List.mem_cons.1 hm with e|hm
   ·cases e;exact⟨p,List.mem_cons_self ..⟩
   ·obtain⟨p',h⟩:=h2 s d hm;exact⟨p',List.mem_cons_of_mem _ h⟩
  ·rcases List.mem_cons.1 hm with e|hm
   ·cases e
   ·rcases h3 s hm with h|h
    ·exact .inl (List.mem_cons_of_mem _ h)
    ·exact .inr (by rw [f.A]at h;exact h)
 |bad h ho'=>rcases ho' with e|e <;> rw [e]at ho <;> cases ho
 | @trim sec l S S' es o h r ih=>
  obtain⟨h1,h2,h3⟩:=ih q ho
  refine⟨h1.cons_cons _,fun s d hm=>?_,fun s hm=>?_⟩
  ·rcases List.mem_cons.1 hm with e|hm
   ·cases e
   ·obtain⟨p',h⟩:=h2 s d hm;exact⟨p',List.mem_cons_of_mem _ h⟩
  ·rcases List.mem_cons.1 hm with e|hm
   ·cases e;exact .inl (List.mem_cons_self ..)
   ·rcases h3 s hm with h|h
    ·exact .inl (List.mem_cons_of_mem _ h)
    ·exact .inr h
 | @skip sec l S S' es o h r ih=>
  obtain⟨h1,h2,h3⟩:=ih q ho
  refine⟨h1.cons _,fun s d hm=>?_,fun s hm=>?_⟩
  ·rcases List.mem_cons.1 hm with e|hm
   ·cases e
   ·exact h2 s d hm
  ·rcases List.mem_cons.1 hm with e|hm
   ·cases e;exact .inr h
   ·exact h3 s hm
omit L X in
theorem ApdP.sm {l:List (Int×Option (List Nat))}{S S':Ap}{o:WO}(h:ApdP l S S' o)(q:AInv S):Sm S S':=by
 have key: ∀{es:List Ent} {S1 S2:Ap} {o:WO},AppP l S es S1 (.done 0)→CmP es S1 S2 o→Sm S S2:=by
  intro es S1 S2 o a c
  obtain⟨q1,k1,f1,-,-⟩:=a.inv q
  obtain⟨⟨g1,g2,g3,g4,g5,-⟩,-⟩:=c.fr q1.iw
  exact f1.sm.trans ⟨g1,g2,g3,g4,g5⟩
 cases h with
 |ok a c=>exact key a c
 |bad a ho=>exact(a.inv q).2.2.1.sm
 |bad2 a c ho=>exact key a c
omit L X in
theorem ApdP.rd {l:List (Int×Option (List Nat))}{S S':Ap}(h:ApdP l S S' (.done 0))(q:AInv S)(hr: ∀y∈l,0≤y.1∧y.1<((S.S:Nat):Int))(hnd:(l.map (·.1)).Nodup)(hd: ∀s d,(s,some d)∈l→d.length=S.D.sz):
  (∀s,s∉l.map (·.1)→S'.rd s=S.rd s)∧(∀s d,(s,some d)∈l→S'.rd s=d)∧(∀s,(s,none)∈l→S'.rd s=List.replicate S.D.sz 0):=by
 obtain⟨q',k',-,-,hok⟩:=h.inv q hr
 obtain⟨es,S1,a,hA,hp⟩:=hok rfl
 have sm:=h.sm q
 obtain⟨h1,h2,h3⟩:=a.keys q rfl
 obtain⟨n1,n2⟩:=Ss es S.A (hnd.sublist h1)
 rw [St]at hA
 refine⟨fun s hs=>?_,fun s d hm=>?_,fun s hm=>?_⟩
 ·refine Hv q k' ⟨sm.P,sm.sz⟩ ?_
  rw [hA];exact n1 s fun e=>hs (h1.subset e)
 ·obtain⟨p,he⟩:=h2 s d hm
  obtain⟨d',g1,g2⟩:=hp _ he (by simp only;omega)
  have e:d'=d:=by
   obtain⟨i,hi,ei⟩:=List.getElem_of_mem hm
   obtain⟨j,hj,ej⟩:=List.getElem_of_mem g1
   have:=(List.pairwise_iff_getElem.1 hnd)
   have hij:i=j:=by
    rcases Nat.lt_trichotomy i j with c|c|c
    ·exact absurd (by rw [List.getElem_map,List.getElem_map,ei,ej]) (this i j (by simpa using hi) (by simpa using hj) c)
    ·exact c
    ·exact absurd (by rw [List.getElem_map,List.getElem_map,ei,ej]) (this j i (by simpa using hj) (by simpa using hi) c)
   subst hij
   rw [ei]at ej;cases ej;rfl
  rw [e]at g2
  have hs:S'.A s=some ((p:Nat):Int):=by rw [hA,n2 _ he,if_pos (by simp only;omega)]
  exact g2.rd hs (by rw [sm.sz];exact hd s d hm)
 ·have hs:S'.A s=none:=by
   rw [hA]
   rcases h3 s hm with he|he
   ·rw [n2 _ he,if_neg (by simp)]
   ·by_cases hk:s∈es.map (·.1)
    ·obtain⟨e,e1,e2⟩:=List.mem_map.1 hk
     subst e2
     rw [n2 _ e1]
     by_cases h0:0≤e.2
     ·obtain⟨d',g1,g2⟩:=hp _ e1 h0
      obtain⟨i,hi,ei⟩:=List.getElem_of_mem hm
      obtain⟨j,hj,ej⟩:=List.getElem_of_mem g1
      have:=(List.pairwise_iff_getElem.1 hnd)
      rcases Nat.lt_trichotomy i j with c|c|c
      ·exact absurd (by rw [List.getElem_map,List.getElem_map,ei,ej]) (this i j (by simpa using hi) (by simpa using hj) c)
      ·subst c;rw [ei]at ej;cases ej
      ·exact absurd (by rw [List.getElem_map,List.getElem_map,ei,ej]) (this j i (by simpa using hj) (by simpa using hi) c)
     ·rw [if_neg h0]
    ·rw [n1 s hk,he]
  unfold Ap.rd
  rw [hs]
  simp only [sm.sz]
end
section
variable {P0:Program}{E:Env}{F:T CFn}{K:T (List AV×AV)}(L:Lg P0 E F K)(X:Fx F K)
include L X
omit L X in
theorem Ix {S:Ap}{b:Nat}{p:Int}(h:p∈S.mv b): ∃j s,j<S.D.P∧p=((b*S.D.P+j:Nat):Int)∧S.A s=some p:=by
 unfold Ap.mv Do at h
 rw [List.mem_filter,List.mem_map]at h
 obtain⟨⟨j,h1,h2⟩,h3⟩:=h
 obtain⟨s,h4⟩:=hasP_t.1 h3
 exact⟨j,s,List.mem_range.1 h1,h2.symm,h4⟩
omit L X in
theorem yf {S:Ap}{b j:Nat}{s:Int}(hj:j<S.D.P)(h:S.A s=some ((b*S.D.P+j:Nat):Int)):((b*S.D.P+j:Nat):Int)∈S.mv b:=by
 unfold Ap.mv Do
 rw [List.mem_filter,List.mem_map]
 exact⟨⟨j,List.mem_range.2 hj,rfl⟩,hasP_t.2 ⟨s,h⟩⟩
omit L X in
theorem m9 {S:Ap}{b:Nat}:(S.mv b).length≤S.D.P:=by
 unfold Ap.mv;rw [Jc];exact No _ _
omit L X in
theorem MvS.inv {g:Int→Int}{S S1:Ap}{ps:List Int}{es:List Ent}(h:MvS g S ps es S1)(q:AInv S):AInv S1∧Keep S S1∧FrS S S1:=by
 induction h with
 |nil=>exact⟨q,.refl _,.refl _⟩
 |snoc r h ih=>
  obtain⟨a,b,c⟩:=ih
  obtain⟨a',b',-⟩:=h.inv a
  exact⟨a',b.trans b' c.nb,c.trans (h.fr a.iw).1⟩
omit L X in
theorem MvS.bd {g:Int→Int}{S S1:Ap}{ps:List Int}{es:List Ent}{k:Nat}(h:MvS g S ps es S1)(q:AInv S)(hb:Bd S k):Bd S1 (k+30*ps.length)∧es.length=ps.length:=by
 induction h with
 |nil=>exact⟨hb,rfl⟩
 |snoc r h ih=>
  obtain⟨a,b,c⟩:=r.inv q
  obtain⟨d,e⟩:=ih
  exact⟨(h.bd a.iw a.geo.nb.2 d).mono (by rw [List.length_append,List.length_singleton];omega),by rw [List.length_append,List.length_append,e];rfl⟩
omit L X in
def Ap.pgD (S:Ap)(p:Int):List Nat:=((S.D.bl (p.toNat / S.D.P)).pg (p.toNat % S.D.P)).b.take S.D.sz
omit L X in
theorem L5 {S:Ap}{s p:Int}(h:S.A s=some p):S.pgD p=S.rd s:=by unfold Ap.rd Ap.pgD;rw [h]
omit L X in
theorem P1 {S S1:Ap}{s p:Int}(q:AInv S)(k:Keep S S1)(f:FrS S S1)(h:S.A s=some p):S1.pgD p=S.pgD p:=by
 have:=Hv q k ⟨f.P,f.sz⟩ (s:=s) (by rw [f.A])
 rw [←L5 h,←L5 (S:=S1) (s:=s) (p:=p) (by rw [f.A];exact h)]at this
 exact this
omit L X in
theorem MvS.es {g:Int→Int}{S S1:Ap}{ps:List Int}{es:List Ent}(h:MvS g S ps es S1)(q:AInv S)(hm: ∀p∈ps,∃s,S.A s=some p):
  es.map (·.1)=ps.map g∧(∀e∈es,∃p∈ps,e.1=g p∧PgOk S1 (g p) (S.pgD p) e.2∧ ∃b j:Nat,e.2=((b*S.D.P+j:Nat):Int)∧b<S.D.nb∧j<S.D.P∧(S.D.bl b).nx≤j∧S.ps b≠3)∧es.Pairwise (fun x y=>x.2≠y.2):=by
 induction h with
 |nil=>exact⟨rfl,(fun e he=>by cases he),.nil⟩
 | @snoc S1 S2 ps es p qn r h ih=>
  obtain⟨h1,h2,h3⟩:=ih fun p hp=>hm p (List.mem_append_left _ hp)
  obtain⟨a,b,c⟩:=r.inv q
  obtain⟨a',b',-,-,e'⟩:=h.inv a
  obtain⟨k1,-⟩:=h.pg a
  have f:=(h.fr a.iw).1
  obtain⟨i,j,e1,e2,e3,e4,e5,e6,e7,e8⟩:=e' qn rfl
  obtain⟨s,hs⟩:=hm p (List.mem_append_right _ (List.mem_singleton_self _))
  have hpd:S1.pgD p=S.pgD p:=P1 q b c hs
  rw [c.nb]at e2
  rw [c.P]at e1 e3
  refine⟨by rw [List.map_append,List.map_append,h1];rfl,fun e he=>?_,?_⟩
  ·rcases List.mem_append.1 he with he|he
   ·obtain⟨p',g1,g2,g3,g4⟩:=h2 e he
    exact⟨p',List.mem_append_left _ g1,g2,g3.keep b' f.P f.nb,g4⟩
   ·rw [List.mem_singleton]at he
    subst he
    refine⟨p,List.mem_append_right _ (List.mem_singleton_self _),rfl,by rw [←hpd];exact k1,i,j,by rw [e1],e2,e3,Nat.le_trans (b.nx i e2) e8,fun h3'=>?_⟩
    have:=b'.ps3 i (by rw [c.nb];exact e2) (b.ps3 i e2 h3')
    omega
  ·rw [List.pairwise_append]
   refine⟨h3,List.pairwise_singleton _ _,fun x hx y hy=>?_⟩
   rw [List.mem_singleton]at hy
   subst hy
   obtain⟨p',g1,g2,g3,-⟩:=h2 x hx
   obtain⟨i',j',n,f1,f2,f3,f4,f5,f6,f7⟩:=g3.ex
   intro e
   have e:x.2=((qn:Nat):Int):=e
   rw [c.P]at f1 f3
   obtain⟨rfl,rfl⟩:=J5 e3 f3 (show i*S.D.P+j=i'*S.D.P+j' by omega)
   omega
omit L X in
theorem MvS.ok {S S1:Ap}{b:Nat}{es:List Ent}(h:MvS (B9 S.A) S (S.mv b) es S1)(q:AInv S): ∀j x,es[j]?=some x→okE S.S (S.D.nb*S.D.P) (stA S.A es j) x:=by
 intro j x hx
 obtain⟨-,h2,h3⟩:=h.es q fun p hp=>let⟨_,s,_,_,h⟩:=Ix hp;⟨s,h⟩
 obtain⟨p,g1,g2,g3,b',k,e1,e2,e3,e4,e5⟩:=h2 x (List.mem_of_getElem? hx)
 obtain⟨j0,s,m1,m2,m3⟩:=Ix g1
 rw [Fj m3 q.inj]at g2
 obtain⟨r1,r2,-⟩:=q.map s p m3
 refine⟨⟨by omega,by omega,by omega,?_⟩,?_⟩
 ·rw [e1]
  have:=Nat.mul_le_mul_right S.D.P (show b'+1≤S.D.nb from e2)
  rw [Nat.succ_mul]at this
  omega
 ·rintro⟨s',hs,hne⟩
  rcases G8 j s' x.2 hs with h1|⟨j',e,f1,f2,f3,f4,f5⟩
  ·obtain⟨-,-,i,m,g1,g2,g3,g4,g5,g6,-⟩:=q.map s' x.2 h1
   obtain⟨rfl,rfl⟩:=J5 g3 e3 (show i*S.D.P+m=b'*S.D.P+k by omega)
   omega
  ·obtain⟨l1,l2⟩:=List.getElem?_eq_some_iff.1 f2
   obtain⟨l3,l4⟩:=List.getElem?_eq_some_iff.1 hx
   have:=List.pairwise_iff_getElem.1 h3 j' j l1 l3 f1
   rw [l2,l4]at this
   exact this f4
omit L X in
theorem MvS.mvOk {S S1:Ap}{b i:Nat}{p:Int}{es:List Ent}(h:MvS (B9 S.A) S ((S.mv b).take i) es S1)(q:AInv S)(ok:S.D.Ok)(hS:S.S<1000)(hp:(S.mv b)[i]?=some p):MvOk S b i p S1:=by
 obtain⟨a,k,c⟩:=h.inv q
 obtain⟨j0,s,m1,m2,m3⟩:=Ix (List.mem_of_getElem? hp)
 obtain⟨r1,r2,b',j,g1,g2,g3,g4,g5,g6,g7⟩:=q.map s p m3
 obtain⟨d1,d2⟩:=Rj (b:=b') g3
 have hb:((S.D.bl b').pg j).b.length=S.D.sz+64:=((ok.bl b' g2).pg j g3).full (.inl g7)
 have hk:=k.pg b' j g2 g6
 have hn:=k.nx b' g2
 have hnb:=q.geo.nb
 have hP:=q.geo.P
 have hlt:b'*S.D.P+j<100000:=by
  have:=Nat.mul_le_mul (show b'≤12 by omega) (show S.D.P≤6 by omega)
  omega
 refine⟨⟨_,g1,hlt,?_,?_,?_,?_⟩,?_,a.off⟩
 ·rw [c.P,c.nb,d1];exact g2
 ·rw [c.P,d1,d2];omega
 ·rw [c.P,d1,d2,hk];exact .inl g7
 ·rw [c.P,c.sz,d1,d2,hk,List.length_take];omega
 ·rw [Fj m3 q.inj];omega
omit L X in
theorem na {S:Ap}{b:Nat}(q:AInv S)(hm: ∀s p,S.A s=some p→ ∀j:Nat,j<S.D.P→p≠((b*S.D.P+j:Nat):Int))(s:Int):(S.ers b).1.rd s=S.rd s:=by
 have key: ∀(S':Ap),S'.A=S.A→S'.D.P=S.D.P→S'.D.sz=S.D.sz→(∀i,i≠b→S'.D.bl i=S.D.bl i)→S'.rd s=S.rd s:=by
  intro S' h1 h2 h3 h4
  unfold Ap.rd
  rw [h1,h2,h3]
  cases hs:S.A s with
  |none=>rfl
  |some p=>
   obtain⟨-,-,b',j,g1,g2,g3,-⟩:=q.map s p hs
   obtain⟨d1,d2⟩:=Rj (b:=b') g3
   simp only [g1,Int.toNat_natCast,d1]
   rw [h4 b' fun e=>by subst e;exact hm s p hs j g3 g1]
 have hE: ∀i,i≠b→(S.D.erase ((b:Nat):Int)).1.bl i=S.D.bl i:=by
  intro i hi
  have hi':i≠((b:Nat):Int).toNat:=by rw [Int.toNat_natCast];exact hi
  unfold Dv.erase
  split
  ·split
   ·rfl
   ·split
    ·rfl
    ·split
     ·exact upd_ne _ _ hi'
     ·split
      ·exact upd_ne _ _ hi'
      ·exact upd_ne _ _ hi'
  ·rfl
 obtain⟨⟨e1,e2,e3,e4⟩,-⟩:=S.D.erase_geo ((b:Nat):Int)
 unfold Ap.ers
 split
 ·exact key _ rfl rfl rfl fun _ _=>rfl
 ·split
  ·exact key _ rfl e2 e3 hE
  ·split
   ·exact key _ rfl e2 e3 hE
   ·exact key _ rfl e2 e3 hE
omit L X in
theorem Wv (S:Ap)(b:Nat):Sm S (S.ers b).1:=by
 obtain⟨⟨e1,e2,e3,e4⟩,-⟩:=S.D.erase_geo ((b:Nat):Int)
 unfold Ap.ers
 split
 ·exact⟨rfl,rfl,rfl,rfl,rfl⟩
 ·split
  ·exact⟨e1,e2,e3,e4,rfl⟩
  ·split <;> exact⟨e1,e2,e3,e4,rfl⟩
omit L X in
theorem CmP.sm {es:List Ent}{S S':Ap}{o:WO}(h:CmP es S S' o)(iw:IW S):Sm S S':=by
 obtain⟨⟨g1,g2,g3,g4,g5,-⟩,-⟩:=h.fr iw
 exact⟨g1,g2,g3,g4,g5⟩
omit L X in
theorem MvS.cm {S S1 S2:Ap}{b:Nat}{es:List Ent}{o:WO}(h:MvS (B9 S.A) S (S.mv b) es S1)(c:CmP es S1 S2 o)(q:AInv S)(ok:S.D.Ok):
  AInv S2∧Keep S S2∧Sm S S2∧o≠ .pow∧(o= .full→(∀i,i<S.D.nb→S2.ps i≠1)∧S2.A=S.A)∧
   (o= .done 0→(∀s,S2.rd s=S.rd s)∧(S.ps b=3→ ∀s p,S2.A s=some p→ ∀j:Nat,j<S2.D.P→p≠((b*S2.D.P+j:Nat):Int))):=by
 have hm: ∀p∈S.mv b,∃s,S.A s=some p:=fun p hp=>let⟨_,s,_,_,h⟩:=Ix hp;⟨s,h⟩
 obtain⟨q1,k1,f1⟩:=h.inv q
 obtain⟨e1,e2,e3⟩:=h.es q hm
 have hok:=h.ok q
 obtain⟨q2,k2,c1,c2,c3⟩:=c.inv q1 (by rw [f1.secs,f1.nb,f1.P,f1.A];exact hok) fun e he h0=>let⟨p,_,g2,g3,_⟩:=e2 e he;⟨_,by rw [g2];exact g3⟩
 have sm2:=c.sm q1.iw
 have kk:=k1.trans k2 f1.nb
 refine⟨q2,kk,f1.sm.trans sm2,c1,fun ho=>⟨fun i hi=>(c2 ho).1 i (by rw [f1.nb];exact hi),(c2 ho).2.trans f1.A⟩,fun ho=>?_⟩
 have hA:=c3 ho
 rw [St,f1.A]at hA
 have hnd:(es.map (·.1)).Nodup:=by
  rw [e1]
  unfold Ap.mv Do
  refine List.pairwise_map.2 ?_
  refine List.Pairwise.imp_of_mem (R:=fun x y:Int=>x≠y) (fun {x y} hx hy hne e=>hne ?_) ?_
  ·obtain⟨_,s,_,_,h⟩:=Ix (S:=S) (b:=b) hx
   obtain⟨_,s',_,_,h'⟩:=Ix (S:=S) (b:=b) hy
   rw [Fj h q.inj,Fj h' q.inj]at e
   subst e;rw [h]at h';cases h';rfl
  ·refine List.Pairwise.filter _ ?_
   refine List.pairwise_map.2 (List.Pairwise.imp (R:=fun x y:Nat=>x≠y) ?_ List.nodup_range)
   intro x y hne e
   have e2:((b*S.D.P+x:Nat):Int)=((b*S.D.P+y:Nat):Int):=e
   exact hne (by omega)
 obtain⟨n1,n2⟩:=Ss es S.A hnd
 refine⟨fun s=>?_,fun hb3 s p hs j hj hp=>?_⟩
 ·by_cases hk:s∈es.map (·.1)
  ·obtain⟨e,g1,g2⟩:=List.mem_map.1 hk
   obtain⟨p,p1,p2,p3,b',j,p4,-⟩:=e2 e g1
   obtain⟨j0,s',m1,m2,m3⟩:=Ix p1
   rw [Fj m3 q.inj]at p2 p3
   have es':s'=s:=by omega
   subst es'
   have hs2:S2.A s'=some e.2:=by rw [hA,p2.symm,n2 e g1,if_pos (by omega)]
   rw [(p3.keep k2 sm2.P sm2.nb).rd hs2 (by rw [sm2.sz,f1.sz,L5 m3];exact Wu q ok s'),L5 m3]
  ·exact Hv q kk ⟨by rw [sm2.P,f1.P],by rw [sm2.sz,f1.sz]⟩ (by rw [hA];exact n1 s hk)
 ·rw [sm2.P,f1.P]at hj hp
  by_cases hk:s∈es.map (·.1)
  ·obtain⟨e,g1,g2⟩:=List.mem_map.1 hk
   obtain⟨p',p1,p2,p3,b',j',p4,p5,p6,p7,p8⟩:=e2 e g1
   have hs2:S2.A s=some e.2:=by rw [hA,g2.symm,n2 e g1,if_pos (by omega)]
   rw [hs2]at hs
   cases hs
   obtain⟨rfl,rfl⟩:=J5 p6 hj (show b'*S.D.P+j'=b*S.D.P+j by omega)
   exact p8 hb3
  ·have hs0:S.A s=some p:=by rw [←n1 s hk,←hA];exact hs
   subst hp
   have hin:=yf hj hs0
   have:s∈es.map (·.1):=by
    rw [e1]
    exact List.mem_map.2 ⟨_,hin,Fj hs0 q.inj⟩
   exact hk this
omit L X in
theorem MovO.inv {S S':Ap}{b:Nat}{o:WO}{k:Nat}(h:MovO b S S' o)(q:AInv S)(ok:S.D.Ok)(bd:Bd S k)(hb:b<S.D.nb)(h3:S.ps b=3)(hj:S.jr ((b:Nat):Int)=false):
  AInv S'∧Sm S S'∧Bd S' (k+1000)∧o≠ .pow∧(o= .full→ ∀i,i<S.D.nb→S'.ps i≠1)∧ ∀s,S'.rd s=S.rd s:=by
 have hP:=q.geo.P
 have hsz:=q.geo.sz
 have hnb:=q.geo.nb
 have hl:=m9 (S:=S) (b:=b)
 cases h with
 | @bad S1 _ i p es _ m hp h ho=>
  obtain⟨q1,k1,f1⟩:=m.inv q
  obtain⟨b1,-⟩:=m.bd q bd
  obtain⟨q2,k2,c2,d2,-⟩:=h.inv q1
  have f2:=(h.fr q1.iw).1
  have b2:=h.bd q1.iw (by rw [f1.nb];exact hnb.2) b1
  have hlt:((S.mv b).take i).length≤6:=by rw [List.length_take];omega
  exact⟨q2,(f1.trans f2).sm,b2.mono (by omega),c2,fun hr i hi=>d2 hr i (by rw [f1.nb];exact hi),fun s=>Hv q (k1.trans k2 f1.nb) ⟨by rw [f2.P,f1.P],by rw [f2.sz,f1.sz]⟩ (by rw [f2.A,f1.A])⟩
 | @badc S1 _ es _ m c ho=>
  obtain⟨q2,k2,sm,c1,c2,-⟩:=m.cm c q ok
  obtain⟨q1,k1,f1⟩:=m.inv q
  obtain⟨b1,hes⟩:=m.bd q bd
  have b2:=c.bd q1.iw (by rw [f1.nb];exact hnb.2) b1
  have hr:recN S1 es≤es.length+1:=Nu (by rw [f1.sz];exact hsz.1)
  have hof:o= .full:=by rcases ho with e|e;exact e;exact absurd e c1
  exact⟨q2,sm,b2.mono (by omega),c1,fun hr=>(c2 hr).1,fun s=>Hv q k2 ⟨sm.P,sm.sz⟩ (by rw [(c2 hof).2])⟩
 | @ok S1 S2 es m c=>
  obtain⟨q2,k2,sm,c1,-,c3⟩:=m.cm c q ok
  obtain⟨q1,k1,f1⟩:=m.inv q
  obtain⟨b1,hes⟩:=m.bd q bd
  have b2:=c.bd q1.iw (by rw [f1.nb];exact hnb.2) b1
  have hr:recN S1 es≤es.length+1:=Nu (by rw [f1.sz];exact hsz.1)
  obtain⟨g1,g2⟩:=c3 rfl
  obtain⟨q3,ho⟩:=q2.ers (b:=b) (by rw [sm.nb];exact hb) (k2.ps3 b hb h3) (g2 h3) (by rw [k2.jrm b hb (by omega)];exact hj)
  rw [ho]
  exact⟨q3,sm.trans (Wv _ _),(Wt b b2).mono (by omega),by simp,(fun h=>by cases h),fun s=>(na q2 (g2 h3) s).trans (g1 s)⟩
omit L X in
theorem AInv.mvH {S:Ap}{k:Nat}(q:AInv S)(ok:S.D.Ok)(hS:S.S<1000)(bd:Bd S k)(hk:k<100000): ∀b:Nat,b<S.D.nb→S.ps b=3→(S.mv b).length≤6∧S.pe b<100000∧
   (∀i es S1 p,MvS (B9 S.A) S ((S.mv b).take i) es S1→(S.mv b)[i]?=some p→MvOk S b i p S1)∧
   (∀es S1,MvS (B9 S.A) S (S.mv b) es S1→ ∀j y,es[j]?=some y→okE S.S (S.D.nb*S.D.P) (stA S.A es j) y)∧
   (∀es S1 S2,MvS (B9 S.A) S (S.mv b) es S1→CmP es S1 S2 (.done 0)→S2.ps b=3):=by
 intro b hb h3
 have hP:=q.geo.P
 have hl:=m9 (S:=S) (b:=b)
 have:=bd.pe b
 exact⟨by omega,by omega,fun i es S1 p h hp=>h.mvOk q ok hS hp,fun es S1 h=>h.ok q,fun es S1 S2 h c=>(h.cm c q ok).2.1.ps3 b hb h3⟩
end
section
variable {P0:Program}{E:Env}{F:T CFn}{K:T (List AV×AV)}(L:Lg P0 E F K)(X:Fx F K)
include L X
omit L X in
theorem AInv.clg {S:Ap}(q:AInv S):AInv S.clg∧Keep S S.clg∧Sm S S.clg∧S.clg.A=S.A∧S.clg.jr=S.jr∧S.clg.log<0∧ ∀k,Bd S k→Bd S.clg k:=by
 unfold Ap.clg
 by_cases hl:0≤S.log
 ·rw [if_pos hl]
  obtain⟨b,hb⟩:=Int.eq_ofNat_of_zero_le hl
  have g2:S.ps S.log.toNat=2:=((q.iw.wi true).sel hl).2
  have hdl:0≤S.dat→S.dat≠S.log:=q.iw.ne false
  have iwc:IW {S with ps:=upd S.ps S.log.toNat 3,log:= -1}:=by
   refine⟨fun k=>?_,fun k hk=>?_⟩
   ·cases k with
    |true=>exact⟨fun h=>by simp only [Ap.sel]at h;simp at h,by simp [Ap.sel]⟩
    |false=>
     have w:=q.iw.wi false
     refine⟨fun h=>?_,w.lo⟩
     obtain⟨h1,h2⟩:=w.sel h
     refine⟨h1,?_⟩
     have:=hdl h
     have hd:0≤S.dat:=h
     show upd S.ps S.log.toNat 3 S.dat.toNat=2
     rw [upd_ne _ _ (by omega)];exact h2
   ·cases k with
    |true=>simp [Ap.sel]at hk
    |false=>have hd:0≤S.dat:=hk;show S.dat≠ -1;omega
  obtain⟨a,c⟩:=q.close (k:=true) hl iwc
  exact⟨a,c,⟨rfl,rfl,rfl,rfl,rfl⟩,rfl,rfl,by simp,fun k bd=>⟨bd.last,bd.wr,bd.pe,bd.nx,bd.dn⟩⟩
 ·rw [if_neg hl]
  exact⟨q,.refl _,⟨rfl,rfl,rfl,rfl,rfl⟩,rfl,rfl,by omega,fun k bd=>bd⟩
omit L X in
theorem FrR.sm {S S':Ap}(f:FrR S S'):Sm S S':=⟨f.nb,f.P,f.sz,f.en,f.secs⟩
omit L X in
theorem nf (S:Ap)(b i:Nat)(h:i≠b):(S.ers b).1.ps i=S.ps i:=by
 unfold Ap.ers
 split
 ·exact upd_ne _ _ h
 ·split
  ·rfl
  ·split <;> exact upd_ne _ _ h
omit L X in
theorem ErP.inv {l:List Int}{S S':Ap}{o:WO}(h:ErP l S S' o)(q:AInv S)(hl:l.Nodup)(hj: ∀y∈l,∃b:Nat,y=((b:Nat):Int)∧b<S.D.nb∧S.ps b=3∧S.jr ((b:Nat):Int)=true):
  AInv S'∧Sm S S'∧o= .done 0∧(∀s,S'.rd s=S.rd s)∧(∀i:Nat,((i:Nat):Int)∉l→S'.ps i=S.ps i∧S'.jr ((i:Nat):Int)=S.jr ((i:Nat):Int)):=by
 induction h with
 |nil=>exact⟨q,⟨rfl,rfl,rfl,rfl,rfl⟩,rfl,fun _=>rfl,fun _ _=>⟨rfl,rfl⟩⟩
 | @cons b l S S' o h t ih=>
  obtain⟨b',e,h1,h2,h3⟩:=hj _ (List.mem_cons_self ..)
  have:b'=b:=by omega
  subst this
  obtain⟨q1,-⟩:=q.ersJ h1 h2 h3
  have sm:=Wv S b'
  rw [List.nodup_cons]at hl
  have hm: ∀s p,S.A s=some p→ ∀j:Nat,j<S.D.P→p≠((b'*S.D.P+j:Nat):Int):=fun s p h j hj2 e=>by
   obtain⟨-,-,i,m,g1,g2,g3,g4,g5,-⟩:=q.map s p h
   obtain⟨rfl,-⟩:=J5 g3 hj2 (show i*S.D.P+m=b'*S.D.P+j by omega)
   rw [h3]at g5;cases g5
  have hjs: ∀i:Nat,i≠b'→A1 (S.ers b').1.jr ((b':Nat):Int) false ((i:Nat):Int)=S.jr ((i:Nat):Int):=fun i hi=>by
   unfold A1;rw [if_neg (by omega),Ns]
  obtain⟨a1,a2,a3,a4,a5⟩:=ih q1 hl.2 fun y hy=>by
   obtain⟨i,e5,g1,g2,g3⟩:=hj y (List.mem_cons_of_mem _ hy)
   have hne:i≠b':=fun e'=>by subst e';rw [e5]at hy;exact hl.1 hy
   exact⟨i,e5,by show i<(S.ers b').1.D.nb;rw [sm.nb];exact g1,by show(S.ers b').1.ps i=3;rw [nf S b' i hne];exact g2,by show A1 _ _ _ _=_;rw [hjs i hne];exact g3⟩
  refine⟨a1,sm.trans ⟨a2.nb,a2.P,a2.sz,a2.en,a2.secs⟩,a3,fun s=>(a4 s).trans (na q hm s),fun i hi=>?_⟩
  rw [List.mem_cons,not_or]at hi
  have hne:i≠b':=fun e'=>hi.1 (by rw [e'])
  obtain⟨c1,c2⟩:=a5 i hi.2
  exact⟨c1.trans (nf S b' i hne),c2.trans (hjs i hne)⟩
 | @bad b l S h=>
  obtain⟨b',e,h1,h2,h3⟩:=hj _ (List.mem_cons_self ..)
  have:b'=b:=by omega
  subst this
  obtain⟨-,hd⟩:=q.ersJ h1 h2 h3
  rw [hd]at h;cases h
omit L X in
theorem DomA.len {S:Ap}(q:AInv S){D:List Int}(h:DomA S.A D):D.length≤S.S:=by
 refine Dk S.S D (h.lt.imp fun {a b} h=>by omega) fun x hx=>?_
 have h1:=(h.mem x).1 hx
 obtain⟨p,hp⟩:=Option.isSome_iff_exists.1 h1
 obtain⟨g1,g2,-⟩:=q.map x p hp
 exact⟨g1,g2⟩
omit L X in
theorem DomB.len {S:Ap}(q:AInv S){J:List Int}(h:DomB S.jr J):J.length≤S.D.nb:=by
 refine Dk S.D.nb J (h.lt.imp fun {a b} h=>by omega) fun x hx=>?_
 obtain⟨b,e1,e2,-⟩:=q.jr x ((h.mem x).1 hx)
 omega
omit L X in
theorem AInv.ckR {S S1:Ap}{D:List Int}{o:WO}{k:Nat}(q:AInv S)(bd:Bd S k)(hS:S.S≤10)(hD:DomA S.A D)(h:RcP 3 (B0 S.A D) S.clg S1 o):
  AInv S1∧Keep S S1∧Sm S S1∧S1.A=S.A∧Bd S1 (k+400)∧o≠ .pow∧(o= .full→ ∀i,i<S.D.nb→S1.ps i≠1)∧(∀s,S1.rd s=S.rd s)∧
   ∀y,S.jr y=true→ ∃b:Nat,y=((b:Nat):Int)∧b<S1.D.nb∧S1.ps b=3∧S1.jr ((b:Nat):Int)=true:=by
 obtain⟨qc,kc,sc,cA,cj,cl,cb⟩:=q.clg
 have hD':=hD.len q
 obtain⟨q1,k1,c1,d1⟩:=h.inv qc
 obtain⟨f,-⟩:=h.fr qc.iw
 have b1:=h.bd qc.iw (by rw [sc.nb];exact q.geo.nb.2) (cb k bd)
 have hr:recN S.clg (B0 S.A D)≤(B0 S.A D).length+1:=Nu (by rw [sc.sz];exact q.geo.sz.1)
 have hel:(B0 S.A D).length=D.length:=by unfold B0;rw [List.length_map]
 have sm:=sc.trans f.sm
 have kk:=kc.trans k1 sc.nb
 refine⟨q1,kk,sm,f.A.trans cA,b1.mono (by omega),c1,fun ho i hi=>d1 ho i (by rw [sc.nb];exact hi),fun s=>Hv q kk ⟨sm.P,sm.sz⟩ (by rw [f.A,cA]),fun y hy=>?_⟩
 obtain⟨b,e1,e2,e3⟩:=qc.jr y (by rw [cj];exact hy)
 have e2':b<S.D.nb:=by rw [sc.nb]at e2;exact e2
 have h3:S.clg.ps b=3:=by
  rcases e3 with e3|⟨-,e4⟩
  ·exact e3
  ·omega
 refine⟨b,e1,by rw [sm.nb];exact e2',k1.ps3 b e2 h3,?_⟩
 rw [k1.jrm b e2 (by omega),cj,←e1];exact hy
omit L X in
theorem CkO.inv {S S':Ap}{o:WO}{k:Nat}(h:CkO S S' o)(q:AInv S)(bd:Bd S k)(hS:S.S≤10):
  AInv S'∧Sm S S'∧Bd S' (k+1000)∧o≠ .pow∧(o= .full→ ∀i,i<S.D.nb→S'.ps i≠1)∧ ∀s,S'.rd s=S.rd s:=by
 cases h with
 |bad hD h ho=>
  obtain⟨a,b,c,d,e,f,g,i,-⟩:=q.ckR bd hS hD h
  exact⟨a,c,e.mono (by omega),f,g,i⟩
 | @run D J S1 S' o hD h hJ e=>
  obtain⟨a,b,c,d,e1,f,g,i,j⟩:=q.ckR bd hS hD h
  obtain⟨a1,a2,a3,a4,-⟩:=e.inv a (hJ.lt.imp fun {a b} h=>by omega) fun y hy=>j y ((hJ.mem y).1 hy)
  have b1:=e.bd e1
  have hl:=hJ.len q
  have hnb:=q.geo.nb
  refine⟨a1,c.trans a2,b1.mono (by omega),by rw [a3];simp,(fun ho=>by rw [a3]at ho;cases ho),fun s=>(a4 s).trans (i s)⟩
omit L X in
theorem sr {J:List Int}(h:J.Pairwise (· < ·)){i:Nat}{y:Int}(hy:J[i]?=some y):y∉J.take i:=by
 intro hm
 obtain⟨j,hj,e⟩:=List.getElem_of_mem hm
 rw [List.length_take]at hj
 rw [List.getElem_take]at e
 obtain⟨l1,l2⟩:=List.getElem?_eq_some_iff.1 hy
 have:=List.pairwise_iff_getElem.1 h j i (by omega) l1 (by omega)
 omega
omit L X in
theorem AInv.ckH {S:Ap}{k:Nat}(q:AInv S)(bd:Bd S k)(hS:S.S≤10)(hk:k<50000):
  ∀D J S1 i Si,DomA S.A D→RcP 3 (B0 S.A D) S.clg S1 (.done 0)→DomB S.jr J→ErP (J.take i) S1 Si (.done 0)→ ∀y,J[i]?=some y→ ∃b:Nat,y=((b:Nat):Int)∧b<Si.D.nb∧(Si.ps b=2∨Si.ps b=3)∧Si.pe b<100000∧Si.D.n+1<100000:=by
 intro D J S1 i Si hD h hJ e y hy
 obtain⟨a,b,c,d,e1,f,g,ii,j⟩:=q.ckR bd hS hD h
 have hnd:J.Nodup:=hJ.lt.imp fun {a b} h=>by omega
 obtain⟨a1,a2,a3,a4,a5⟩:=e.inv a (hnd.sublist (List.take_sublist _ _)) fun y hy=>j y ((hJ.mem y).1 (List.mem_of_mem_take hy))
 have b1:=e.bd e1
 have hl:=hJ.len q
 have hnb:=q.geo.nb
 have hlt:(J.take i).length≤12:=by rw [List.length_take];omega
 obtain⟨x,x1,x2,x3,x4⟩:=j y ((hJ.mem y).1 (List.mem_of_getElem? hy))
 obtain⟨y1,y2⟩:=a5 x (by rw [←x1];exact sr hJ.lt hy)
 have h1:=b1.pe x
 have h2:=b1.dn
 exact⟨x,x1,by rw [a2.nb];exact x2,.inr (by rw [y1];exact x3),by omega,by omega⟩
end
section
variable {P0:Program}{E:Env}{F:T CFn}{K:T (List AV×AV)}(L:Lg P0 E F K)(X:Fx F K)
include L X
section
variable {h:H}
theorem bq {p pb nb:Nat}{ps pe:Nat→Nat}{cb:List AV}(q:PoC h p pb nb ps pe cb):Ct P0 E F K 46 [.ptr p 0,AI ((1:Nat):Int)] h fun v h'=>v=AI ((cntS ps 1 nb:Nat):Int)∧h'=h:=by
 have hd:=q.pk
 unfold pcC at hd
 refine Ad L X.f46 X.k46 rfl rfl fun Q x cs G=>?_
 refine wk ?_
 refine cal (c:=Iu L X q) (g:=?_)
 rintro _ rfl
 refine wk ?_
 (apply st1 L rfl;exact F4 (i:=1) rfl rfl (by omega);rfl)
 refine wk ?_
 refine ret X.f46 ?_
 exact⟨rfl,rfl⟩
end
section
variable {h:H}{κ: Nat→Nat}{I:Ai}{S:Ap}
theorem ng {c:Nat}(r:ApR κ h I S)(kc:Bk h c [AI ((0:Nat):Int)])(hc:200≤κ c):Ct P0 E F K 45 [.ptr I.s 0,.ptr c 0] h fun v h'=>Kp (fun j=>j=c) h h'∧Bk h' c [AI ((frees S:Nat):Int)]:=by
 have sk:=r.sk
 have ls:=sk.lt
 have lc:=kc.lt
 have hcol:=r.col
 obtain⟨cbl,po⟩:=r.po
 unfold apC at sk
 refine Ad L X.f45 X.k45 rfl rfl fun Q x cs G=>?_
 refine wk ?_
 refine cal (c:=bq L X po) (g:=?_)
 rintro _ rfl
 refine wk ?_
 refine ret X.f45 ?_
 exact⟨kps,lkp⟩
theorem Su {ab:Nat}(r:ApR κ h I S)(ka:Bk h ab [.ptr I.s 0]):
  Ct P0 E F K 14 [.ptr ab 0] h (fun v h'=> ∃κ',v=AI ((frees S:Nat):Int)∧ApR κ' h' I S∧AChg κ h κ' h'):=by
 have lk:=ka.lt
 refine Al L X.f14 X.k14 rfl rfl fun Q x cs G=>?_
 refine wk ?_
 have k1:K0 h (hp (h.n+1) h.t [(h.n,some (cl [AI ((0:Nat):Int)]))]):=kps
 have hc1: ∀b,b<h.n→Dd κ h.n b=κ b:=fun b hb=>C7 hb
 have r1:ApR (Dd κ h.n) (hp (h.n+1) h.t [(h.n,some (cl [AI ((0:Nat):Int)]))]) I S:=r.k0 k1 hc1
 have a1:AChg κ h (Dd κ h.n) (hp (h.n+1) h.t [(h.n,some (cl [AI ((0:Nat):Int)]))]):=AChg.k0 k1 hc1
 have kc1:Bk (hp (h.n+1) h.t [(h.n,some (cl [AI ((0:Nat):Int)]))]) h.n [AI ((0:Nat):Int)]:=lkp
 have hn1:(hp (h.n+1) h.t [(h.n,some (cl [AI ((0:Nat):Int)]))]).n=h.n+1:=rfl
 have cl1: ∀κ2 h2,K0 (hp (h.n+1) h.t [(h.n,some (cl [AI ((0:Nat):Int)]))]) h2→(hp (h.n+1) h.t [(h.n,some (cl [AI ((0:Nat):Int)]))]).n<h2.n→(∀b,b<(hp (h.n+1) h.t [(h.n,some (cl [AI ((0:Nat):Int)]))]).n→κ2 b=Dd κ h.n b)→ApR κ2 h2 I S→CtX P0 E F K 45 (.ptr I.s 0:: [.ptr h.n 0]) h2
   (fun v h'=> ∃κ' S',ApR κ' h' I S'∧AChX (fun j=>j=h.n) κ2 h2 κ' h'∧(S'=S∧Bk h' h.n [AI ((frees S:Nat):Int)]))
   (fun v h'=> ∃κ' S' e,v= .ifc 44 (AI e)∧ApR κ' h' I S'∧AChX (fun j=>j=h.n) κ2 h2 κ' h'∧False):=by
  intro κ2 h2 k2 n2 c2 r2
  rw [hn1]at n2 c2
  have hk1:κ2 h.n=200:=(c2 _ (by omega)).trans (Be (Nat.le_refl _))
  refine((ng L X r2 (Ag k2 kc1) (by omega)).mono ?_).X
  rintro v h' ⟨q1,q2⟩
  exact⟨ext κ2 h2.n,S,r2.own q1 (fun j _ e=>by subst e;omega) fun b hb=>Af hb,⟨q1.mono fun b e=> .inr e,fun b hb=>Af hb⟩,rfl,q2⟩
 refine cal (c:=Ei L X r1 (Ag k1 ka) (fun b e=>by subst e;exact Nat.lt_succ_self _) cl1) (g:=?_)
 rintro v h2 ⟨κ',S',h1,r',a',k',hv⟩
 rw [hn1]at k'
 rcases hv with⟨rfl,u,rfl,q1⟩|⟨e,rfl,q⟩
 ·have a2:AChg κ h κ' h2:=a'.own a1 fun b e=>by subst e;exact Nat.le_refl _
  have q1':Bk h2 h.n [AI ((frees S':Nat):Int)]:=As k' (by omega) q1
  have lq:=q1'.lt
  have hk1:κ' h.n=200:=(a'.col _ (by rw [hn1];omega)).trans (Be (Nat.le_refl _))
  refine wk ?_
  refine ret X.f14 ?_
  refine⟨κ',rfl,r'.out (B:=fun j=>j=h.n) ?_ (fun b _ e=>by subst e;omega),AChg.own (B:=fun j=>j=h.n) a2 ?_ (fun b e=>by subst e;exact Nat.le_refl _) fun _ _=>rfl⟩
  ·exact kps
  ·exact kps
 ·exact q.elim
omit L X in
theorem Sv {S:Ap}(h: ∀i,i<S.D.nb→S.ps i≠1):frees S=0:=by
 unfold frees
 generalize S.D.nb=n at h
 induction n with
 |zero=>rfl
 |succ n ih=>simp only [cntS];rw [ih fun i hi=>h i (by omega),if_neg (h n (Nat.lt_succ_self n))]
end
end
section
variable {P0:Program}{E:Env}{F:T CFn}{K:T (List AV×AV)}(L:Lg P0 E F K)(X:Fx F K)
include L X
section
variable {k:IntKind}{l:List (Nat×Option AV)}{h:H}{x y:O}{q:Bool}{sh:Sh}
omit L X in
theorem yg {a:Int}{d:Nat}(e:evO l x=some (.int k a))(e1:evO l y=some (.int k ((d:Nat):Int)))(hd:0<d):XV (.bin .rem x y q sh) h l (.int k (Int.tmod a ((d:Nat):Int))) h:=by
 refine⟨?_⟩
 have h0:iEq ((d:Nat):Int) (Int.ofNat 0)=false:=by
  rw [Ey];exact decide_eq_false (by show((d:Nat):Int)≠0;omega)
 simp only [exec,Ae,Ab e,Ab e1,F5,Dq,Bc,h0,vo]
end
omit L X in
theorem bt (bs:List Nat)(m y:Nat):(B5 bs).set m (.int .u8 ((y:Nat):Int))=B5 (bs.set m y):=by unfold B5;rw [List.map_set]
omit L X in
theorem AllB.set {bs:List Nat}(h:AllB bs){m y:Nat}(hy:y<256):AllB (bs.set m y):=by
 intro i hi
 rw [List.length_set]at hi
 rw [List.getD_eq_getElem?_getD,List.getElem?_set]
 split
 ·split
  ·exact hy
  ·simp
 ·rw [←List.getD_eq_getElem?_getD];exact h i hi
structure GrR (h:H)(lo:Nat)(v:AV)(sz:Nat)(l:List GW)(δ: Nat→List Nat):Prop where
 ex:(l= []∧v= .nils)∨(0<l.length∧ ∃gb:Nat,v= .slc gb 0 l.length (Aa+2)∧Bk h gb (l.flatMap (gwC sz))∧lo≤gb∧ ∀(i:Nat) (s:Int) (b o c:Nat),l[i]?=some (s,some (b,o,c))→BS h b o (δ b)∧(δ b).length=sz∧lo≤b∧o=0∧c=sz∧b≠gb)
omit L X in
theorem GrR.k0 {h h':H}{lo sz:Nat}{v:AV}{l:List GW}{δ: Nat→List Nat}(q:GrR h lo v sz l δ)(k:K0 h h'):GrR h' lo v sz l δ:= by
 rcases q.ex with h1|⟨h1,gb,h2,h3,h4,h5⟩
 ·exact⟨.inl h1⟩
 ·exact⟨.inr ⟨h1,gb,h2,Ag k h3,h4,fun i s b o c e=>let⟨g1,g2,g3,g4⟩:=h5 i s b o c e;⟨g1.k0 k,g2,g3,g4⟩⟩⟩
omit L X in
theorem Rl {sz:Nat}(l:List GW):(l.flatMap (gwC sz)).length=l.length*2:=Db l (Je l)
omit L X in
theorem GrR.app {h:H}{lo sz N n:Nat}{l:List GW}{δ: Nat→List Nat}{x:GW}(hb:Bk h N (l.flatMap (gwC sz)++gwC sz x))(hN:lo≤N)(hn:l.length=n)(hr: ∀(i:Nat) (s:Int) (b o c:Nat),l[i]?=some (s,some (b,o,c))→BS h b o (δ b)∧(δ b).length=sz∧lo≤b∧o=0∧c=sz∧b≠N)
  (hx: ∀(s:Int) (b o c:Nat),x=(s,some (b,o,c))→BS h b o (δ b)∧(δ b).length=sz∧lo≤b∧o=0∧c=sz∧b≠N):GrR h lo (.slc N 0 (n+1) (Aa+2)) sz (l++ [x]) δ:= by
 refine⟨.inr ⟨by simp,N,by simp [hn],by rw [List.flatMap_append];simpa using hb,hN,fun i s b o c e=>?_⟩⟩
 by_cases hi:i<l.length
 ·rw [List.getElem?_append_left hi]at e;exact hr i s b o c e
 ·rw [List.getElem?_append_right (by omega)]at e
  have hi0:i - l.length=0:=by
   have:=(List.getElem?_eq_some_iff.1 e).1
   simp at this;omega
  rw [hi0]at e
  simp at e
  exact hx s b o c e
section
variable {h:H}
theorem P2 {sv:AV}{n sz i N:Nat}{s:Int}{v:AV}{l:List GW}{δ: Nat→List Nat}{h0 h:H}{w:Option (Nat×Nat×Nat)}{Q:Nat→AV→Prop}{cs:List AFr}{k:List AItem}{lq:List (Nat×Option AV)}(hi:i<6)
  (q1:GrR h h0.n v sz l δ) (hl:l.length=i) (kN:Bk h N [AI s,gwV sz w]) (hN:h0.n≤N) (hne: ∀gb n c,v= .slc gb 0 n c→gb≠N) (hw: ∀b o c,w=some (b,o,c)→BS h b o (δ b)∧(δ b).length=sz∧h0.n≤b∧o=0∧c=sz∧ ∀gb n c,v= .slc gb 0 n c→b≠gb) (k0:K0 h0 h)
  (ht:TSub (tms [(58,some (.slc N 0 1 1)),(56,some v),(8,some (AI ((i:Nat):Int))),(2,some (AI ((n:Nat):Int))),(1,some sv),(0,some (AI ((sz:Nat):Int)))]) (tms lq))
  (G: ∀v' h' l',GrR h' h0.n v' sz (l++ [(s,w)]) δ→K0 h0 h'→TSub (tms [(8,some (AI ((i+1:Nat):Int))),(7,some v'),(2,some (AI ((n:Nat):Int))),(1,some sv),(0,some (AI ((sz:Nat):Int)))]) (tms l')→
   Good P0 E Q ⟨⟨37,cf37.ntmps,tms l',.inLoop c37_30::k,[],.run,false,none⟩,cs,h'⟩):
  Good P0 E Q ⟨⟨37,cf37.ntmps,tms lq,.ops [Cj 59 (.append 2 32 (.t 56) (.t 58)),Cv 7 59]:: .inBlock 1:: .code c37_28:: .inLoop c37_30::k,[],.run,false,none⟩,cs,hp h.n h.t []⟩:=by
 refine E0 L ht ?_
 have n0:=k0.n
 have lN:=kN.lt
 have hpl:Ar [AI s,gwV sz w]=true:=by cases w <;> rfl
 rcases q1.ex with⟨rfl,rfl⟩|⟨h1,gb,rfl,h3,h4,h5⟩
 ·have:i=0:=by simpa using hl.symm
  subst this
  (apply st1 L rfl;exact F0 (new:= [AI s,gwV sz w]) rfl rfl (SlR.of (c:= [AI s,gwV sz w]) lkp (Nat.le_refl _) rfl) (by omega) (by omega);rfl)
  refine wk ?_
  have kk:K0 h (hp (h.n+1) h.t [(h.n,some (cl [AI s,gwV sz w]))]):=kps
  refine G _ _ _ (GrR.app (N:=h.n) (n:=0) (l:= []) lkp (by omega) rfl (fun i s b o c e=>by simp at e) fun s' b o c e=>?_) kps tsb
  cases e
  obtain⟨g1,g2,g3,g4,g5,g6⟩:=hw b o c rfl
  have:=g1.lt_n
  exact⟨g1.k0 kk,g2,g3,g4,g5,by omega⟩
 ·have l3:=h3.lt
  have hgN:=hne gb _ _ rfl
  rw [hl]at h1
  subst hl
  (apply st1 L rfl;exact Fz (old:=l.flatMap (gwC sz)) (new:= [AI s,gwV sz w]) rfl rfl (SlR.of (c:=l.flatMap (gwC sz)) lkp (by rw [Rl];omega) (by rw [List.drop_zero,List.take_of_length_le (by rw [Rl];omega)])) (SlR.of (c:= [AI s,gwV sz w]) lkp (Nat.le_refl _) rfl) (by omega) (by omega) hpl;rfl)
  refine wk ?_
  have kk:Kp (fun j=>j=gb) h (hp (h.n+1) h.t [(h.n,some (cl (l.flatMap (gwC sz)++ [AI s,gwV sz w]))),(gb,none)]):=kps
  refine G _ _ _ (GrR.app (N:=h.n) (x:=(s,w)) lkp (by omega) rfl (fun j s b o c e=>?_) fun s' b o c e=>?_) kps tsb
  ·obtain⟨g1,g2,g3,g4,g5,g6⟩:=h5 j s b o c e
   have:=g1.lt_n
   exact⟨T4 kk g6 g1,g2,g3,g4,g5,by omega⟩
  ·cases e
   obtain⟨g1,g2,g3,g4,g5,g6⟩:=hw b o c rfl
   have:=g1.lt_n
   exact⟨T4 kk (g6 _ _ _ rfl) g1,g2,g3,g4,g5,by omega⟩
omit L X in
theorem GrR.upd {h:H}{lo sz D:Nat}{v:AV}{l:List GW}{δ: Nat→List Nat}{bs:List Nat}(q:GrR h lo v sz l δ)(hD:h.n≤D):GrR h lo v sz l (upd δ D bs):=by
 rcases q.ex with h1|⟨h1,gb,h2,h3,h4,h5⟩
 ·exact⟨.inl h1⟩
 ·refine⟨.inr ⟨h1,gb,h2,h3,h4,fun i s b o c e=>?_⟩⟩
  obtain⟨g1,g2⟩:=h5 i s b o c e
  have:=g1.lt_n
  rw [upd_ne _ _ (by omega)]
  exact⟨g1,g2⟩
theorem Uu {sv:AV}{n sz i N D:Nat}{s:Int}{v:AV}{l:List GW}{δ: Nat→List Nat}{h0 h2 h:H}{bs0:List Nat}{Q:Nat→AV→Prop}{cs:List AFr}{k:List AItem}{lq:List (Nat×Option AV)}(hi:i<6)(hn:n<100000)
  (q1:GrR h2 h0.n v sz l δ) (k2:K0 h2 h) (hl:l.length=i) (kN:Bk h N [AI s,.slc D 0 sz sz]) (hN:h2.n≤N) (hDN:D≠N) (kD:Bk h D (B5 bs0)) (hD:h2.n≤D) (hb:bs0.length=sz) (ha:AllB bs0) (hsz:sz<1000) (k0:K0 h0 h)
  (hvb: ∀gb n c,v= .slc gb 0 n c→gb<h2.n) (k02:K0 h0 h2)
  (ht:TSub (tms [(10,some (AI ((0:Nat):Int))),(9,some (.ptr N 0)),(8,some (AI ((i:Nat):Int))),(7,some v),(2,some (AI ((n:Nat):Int))),(1,some sv),(0,some (AI ((sz:Nat):Int)))]) (tms lq))
  (G: ∀δ' w v' h' l',GrR h' h0.n v' sz (l++ [(s,w)]) δ'→K0 h0 h'→TSub (tms [(8,some (AI ((i+1:Nat):Int))),(7,some v'),(2,some (AI ((n:Nat):Int))),(1,some sv),(0,some (AI ((sz:Nat):Int)))]) (tms l')→
   Good P0 E Q ⟨⟨37,cf37.ntmps,tms l',.inLoop c37_30::k,[],.run,false,none⟩,cs,h'⟩):
  Good P0 E Q ⟨⟨37,cf37.ntmps,tms lq,.code c37_18:: .inBlock 2:: .code c37_24:: .inBlock 1:: .code c37_28:: .inLoop c37_30::k,[],.run,false,none⟩,cs,hp h.n h.t []⟩:=by
 have n0:=k0.n
 have n02:=k02.n
 have n2:=k2.n
 refine Co L (α:= List Nat) (T:=fun j _=> [(10,some (AI ((j:Nat):Int))),(9,some (.ptr N 0)),(8,some (AI ((i:Nat):Int))),(7,some v),(2,some (AI ((n:Nat):Int))),(1,some sv),(0,some (AI ((sz:Nat):Int)))]) (n:=sz)
  (R:=fun j bs hh=>Bk hh D (B5 bs)∧bs.length=sz∧AllB bs∧Kp (fun j=>j=D) h hh) (i0:=0) bs0 ht ⟨kD,hb,ha,Kp.refl _⟩ (Nat.zero_le _) ?_ ?_
 ·rintro j bs hh hj ⟨r1,r2,r3,r4⟩ ih
  have r5:Bk hh N [AI s,.slc D 0 sz sz]:=As r4 (by omega) kN
  have l1:=r1.lt
  have l5:=r5.lt
  refine wk ?_
  (apply st1 L rfl;exact Sd rfl rfl;rfl)
  refine wk ?_
  (apply qt L rfl rfl rfl rfl rfl;exact lkp;(rw [F3];omega);rfl)
  refine wk ?_
  refine ih (bs.set j ((n+7*i+3*j) % pw .u8)) _ _ ⟨?_,by rw [List.length_set];exact r2,r3.set (Nat.mod_lt _ (by decide)),kps⟩ tsb
  rw [←bt]
  exact lkp
 ·rintro bs hh ⟨r1,r2,r3,r4⟩
  have r5:Bk hh N [AI s,.slc D 0 sz sz]:=As r4 (by omega) kN
  have l1:=r1.lt
  have l5:=r5.lt
  refine wk ?_
  have kk:K0 h2 hh:=⟨Nat.le_trans n2 r4.n,fun b hb _=>(r4.old b (by omega) (by omega)).trans (k2.old b hb id)⟩
  have n4:=r4.n
  have ke:K0 hh (hp (hh.n+1) hh.t [(hh.n,some (cl [AI s,.slc D 0 sz sz]))]):=kps
  refine P2 L X (δ:= upd δ D bs) (w:=some (D,0,sz)) (N:=hh.n) (h:=hp (hh.n+1) hh.t [(hh.n,some (cl [AI s,.slc D 0 sz sz]))]) hi (((q1.upd hD).k0 kk).k0 ke) hl (by exact lkp) (by omega) (fun gb n c e=>by have:=hvb gb n c e;omega) (fun b o c e=>?_) ⟨by simp only [Am];omega,fun b hb _=>(ke.old b (by omega) id).trans ((kk.old b (by omega) id).trans (k02.old b hb id))⟩ ?_ (fun v' h' l' g1 g2 g3=>G _ _ v' h' l' g1 g2 g3)
  ·cases e
   rw [upd_eq]
   exact⟨(Mv r1 r3).k0 ke,r2,by omega,rfl,rfl,fun gb n c e=>by have:=hvb gb n c e;omega⟩
  ·exact tsb
omit L X in
theorem GrR.vlt {h:H}{lo sz:Nat}{v:AV}{l:List GW}{δ: Nat→List Nat}(q:GrR h lo v sz l δ): ∀gb n c,v= .slc gb 0 n c→gb<h.n:=by
 rintro gb n c rfl
 rcases q.ex with⟨_,e⟩|⟨_,gb',e,h3,_⟩
 ·cases e
 ·cases e;exact h3.lt
theorem bu {κ: Nat→Nat}{sv:AV}{secs:List Int}{n sz:Nat}(q:IntsR κ h sv secs)(hsz:12≤sz∧sz≤30)(hl:secs.length≤6)(hn:n<100000):
  Ct P0 E F K 37 [AI ((sz:Nat):Int),sv,AI ((n:Nat):Int)] h fun v h'=> ∃l δ,GrR h' h.n v sz l δ∧l.map (·.1)=secs∧K0 h h':=by
 rcases q.ex with⟨rfl,rfl⟩|⟨rfl,a,rfl⟩|⟨b,cap,rfl,hb,-⟩
 ·refine Bz L X.f37 X.k37 rfl rfl fun Q x cs G=>?_
  refine wk ?_
  refine A2 L ?_
  refine wk ?_
  refine ret X.f37 ?_
  exact⟨[],fun _=> [],⟨.inl ⟨rfl,rfl⟩⟩,rfl,kps⟩
 ·refine Bz L X.f37 X.k37 rfl rfl fun Q x cs G=>?_
  refine wk ?_
  refine A2 L ?_
  refine wk ?_
  refine ret X.f37 ?_
  exact⟨[],fun _=> [],⟨.inl ⟨rfl,rfl⟩⟩,rfl,kps⟩
 ·have lb:=hb.lt
  refine Bz L X.f37 X.k37 rfl rfl fun Q x cs G=>?_
  refine wk ?_
  refine Co L (α:= List GW×(Nat→List Nat)×AV) (T:=fun i a=> [(8,some (AI ((i:Nat):Int))),(7,some a.2.2),(2,some (AI ((n:Nat):Int))),(1,some (.slc b 0 secs.length cap)),(0,some (AI ((sz:Nat):Int)))]) (n:=secs.length)
   (R:=fun i a h2=>GrR h2 h.n a.2.2 sz a.1 a.2.1∧a.1.map (·.1)=secs.take i∧K0 h h2) (i0:=0) ([],fun _=> [],.nils) tsb ⟨⟨.inl ⟨rfl,rfl⟩⟩,rfl,kps⟩ (Nat.zero_le _) ?_ ?_
  ·rintro i ⟨l,δ,v⟩ h2 hi ⟨q1,q2,k2⟩ ih
   simp only at q1 q2
   have n2:=k2.n
   have hk:=Pi k2 hb
   have hvb:=q1.vlt
   have hpv:A9 v=some [v]∧Dr v=true:=by rcases q1.ex with⟨_,rfl⟩|⟨_,gb,rfl,_⟩ <;> exact⟨rfl,rfl⟩
   have hlen:l.length=i:=by have:=congrArg List.length q2;rw [List.length_map,List.length_take]at this;omega
   have hx:(secs.map eI)[i]?=some (eI secs[i]):=by rw [List.getElem?_map,List.getElem?_eq_getElem hi];rfl
   have hnx:secs.take (i+1)=secs.take i++ [secs[i]]:=by rw [List.take_add_one,List.getElem?_eq_getElem hi];rfl
   generalize secs[i]=s at*
   (try refine B6 L 1000 rfl ?_);(repeat(first|(apply st1 L rfl;exact⟨O5 rfl⟩;rfl)|(apply st1 L rfl;exact T0 rfl rfl rfl;rfl)|(apply st1 L rfl;exact O9 rfl rfl (by omega);rfl)|(apply st1 L rfl;exact Gz rfl rfl (by omega);rfl)|(apply st1 L rfl;exact Ii rfl rfl (by omega);rfl)))
   (apply st1 L rfl;exact Fd rfl lkr hx;rfl)
   refine wk ?_
   have fin: ∀δ' w v' h' l',GrR h' h.n v' sz (l++ [(s,w)]) δ'→K0 h h'→TSub (tms [(8,some (AI ((i+1:Nat):Int))),(7,some v'),(2,some (AI ((n:Nat):Int))),(1,some (.slc b 0 secs.length cap)),(0,some (AI ((sz:Nat):Int)))]) (tms l')→_:=
    fun δ' w v' h' l' g1 g2 g3=>ih (l++ [(s,w)],δ',v') h' l' ⟨g1,by rw [List.map_append,q2,hnx];rfl,g2⟩ g3
   have fill: ∀lq,TSub (tms [(10,some (AI ((0:Nat):Int))),(9,some (.ptr h2.n 0)),(8,some (AI ((i:Nat):Int))),(7,some v),(2,some (AI ((n:Nat):Int))),(1,some (.slc b 0 secs.length cap)),(0,some (AI ((sz:Nat):Int)))]) (tms lq)→
     Good P0 E Q ⟨⟨37,cf37.ntmps,tms lq,[.code c37_18,.inBlock 2,.code c37_24,.inBlock 1,.code c37_28,.inLoop c37_30,.inBlock 0,.code c37_35],[],.run,false,none⟩,x::cs,hp (h2.n+1+1) h2.t [(h2.n,some (cl [AI s,.slc (h2.n+1) 0 sz sz])),(h2.n+1,some (cl (rl [.int .u8 ((0:Nat):Int)] sz))),(h2.n,some (cl [AI s,.nils])),(h2.n,some (cl [AI ((0:Nat):Int),.nils]))]⟩:=by
    intro lq ht
    refine Uu L X (δ:= δ) (h2:=h2) (h:=hp (h2.n+1+1) h2.t [(h2.n,some (cl [AI s,.slc (h2.n+1) 0 sz sz])),(h2.n+1,some (cl (rl [.int .u8 ((0:Nat):Int)] sz))),(h2.n,some (cl [AI s,.nils])),(h2.n,some (cl [AI ((0:Nat):Int),.nils]))]) (N:=h2.n) (D:=h2.n+1) (bs0:=List.replicate sz 0) (by omega) hn q1 kps hlen (by exact lkp) (by omega) (by omega) (by rw [←Fc];exact lkp) (by omega) List.length_replicate (AllB.rep (by omega)) (by omega) (by exact kps) hvb k2 ht fin
   by_cases h2':i % 2=0
   ·refine wk ?_
    rw [Nat.zero_max]
    refine fill _ ?_
    exact tsb
   ·refine wk ?_
    (apply st1 L rfl;exact Fd rfl lkr hx;rfl)
    (apply st1 L rfl;exact yg (d:=5) rfl rfl (by omega);rfl)
    by_cases h5:Int.tmod s ((5:Nat):Int)=((0:Nat):Int)
    ·(apply st1 L rfl;exact iy rfl rfl (by first|exact h5|exact fun e=>e h5);rfl)
     refine wk ?_
     refine P2 L X (δ:= δ) (w:=none) (N:=h2.n+1) (h:=hp (h2.n+1+1) h2.t [(h2.n+1,some (cl [AI s,.nils])),(h2.n,some (cl [AI s,.nils])),(h2.n,some (cl [AI ((0:Nat):Int),.nils]))]) (by omega) (q1.k0 (by exact kps)) hlen (by exact lkp) (by omega) (fun gb n c e=>by have:=hvb gb n c e;omega) (fun b o c e=>by cases e) (by exact kps) ?_ (fun v' h' l' g1 g2 g3=>fin δ none v' h' l' g1 g2 g3)
     exact tsb
    ·(apply st1 L rfl;exact iv rfl rfl (by first|exact h5|exact fun e=>e h5);rfl)
     refine wk ?_
     rw [Nat.zero_max]
     refine fill _ ?_
     exact tsb
  ·rintro⟨l,δ,v⟩ h2 ⟨q1,q2,k2⟩
   simp only at q1 q2
   refine wk ?_
   refine ret X.f37 ?_
   exact⟨l,δ,q1,by rw [q2,List.take_length],by exact k2⟩
end
end
end Go.Ev
