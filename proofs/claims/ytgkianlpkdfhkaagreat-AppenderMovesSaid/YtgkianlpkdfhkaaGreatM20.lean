/- Part of the proof. -/
import Derived.Test.YtgkianlpkdfhkaaGreatM19
import Derived.Test.YtgkianlpkdfhkaaGreatM10
import Derived.Test.YtgkianlpkdfhkaaGreatM16
set_option linter.unusedVariables false
set_option linter.unusedSectionVars false
set_option linter.unusedSimpArgs false
set_option maxRecDepth 10000
set_option maxHeartbeats 4000000
namespace Go.Ev
section
variable {P0:Program}{E:Env}{F:T CFn}{K:T (List AV×AV)}(L:Lg P0 E F K)(X:Fx F K)
include L X
omit L X in
theorem Hj {S:Ap}{b:Nat}{p:Int}(h:p∈S.mv b): ∃j s,j<S.D.P∧p=((b*S.D.P+j:Nat):Int)∧S.A s=some p:=by
 unfold Ap.mv Do at h
 rw [List.mem_filter,List.mem_map]at h
 obtain⟨⟨j,h1,h2⟩,h3⟩:=h
 obtain⟨s,h4⟩:=hasP_t.1 h3
 exact⟨j,s,List.mem_range.1 h1,h2.symm,h4⟩
omit L X in
theorem ji {S:Ap}{b j:Nat}{s:Int}(hj:j<S.D.P)(h:S.A s=some ((b*S.D.P+j:Nat):Int)):((b*S.D.P+j:Nat):Int)∈S.mv b:=by
 unfold Ap.mv Do
 rw [List.mem_filter,List.mem_map]
 exact⟨⟨j,List.mem_range.2 hj,rfl⟩,hasP_t.2 ⟨s,h⟩⟩
omit L X in
theorem jj {S:Ap}{b:Nat}:(S.mv b).length≤S.D.P:=by
 unfold Ap.mv;rw [Gr];exact M8 _ _
omit L X in
theorem MvS.inv {g:Int→Int}{S S1:Ap}{ps:List Int}{es:List Ent}(h:MvS g S ps es S1)(q:AInv S):AInv S1∧Keep S S1∧FrS S S1:=by
 induction h with
 |nil=>exact⟨q,.refl _,.refl _⟩
 |snoc r h ih=>
  obtain⟨a,b,c⟩:=ih
  obtain⟨a',b',-⟩:=h.inv a
  exact⟨a',b.trans b' c.nb,c.trans (h.fr a.iw).1⟩
omit L X in
theorem MvS.bd {g:Int→Int}{S S1:Ap}{ps:List Int}{es:List Ent}{k:Nat}(h:MvS g S ps es S1)(q:AInv S)(hb:Bd S k):Bd S1 (k+30*ps.length)∧es.length=ps.length:=by
 induction h with
 |nil=>exact⟨hb,rfl⟩
 |snoc r h ih=>
  obtain⟨a,b,c⟩:=r.inv q
  obtain⟨d,e⟩:=ih
  exact⟨(h.bd a.iw a.geo.nb.2 d).mono (by rw [List.length_append,List.length_singleton];omega),by rw [List.length_append,List.length_append,e];rfl⟩
omit L X in
def Ap.pgD (S:Ap)(p:Int):List Nat:=((S.D.bl (p.toNat / S.D.P)).pg (p.toNat % S.D.P)).b.take S.D.sz
omit L X in
theorem Ru {S:Ap}{s p:Int}(h:S.A s=some p):S.pgD p=S.rd s:=by unfold Ap.rd Ap.pgD;rw [h]
omit L X in
theorem jk {S S1:Ap}{s p:Int}(q:AInv S)(k:Keep S S1)(f:FrS S S1)(h:S.A s=some p):S1.pgD p=S.pgD p:=by
 have:=Hi q k ⟨f.P,f.sz⟩ (s:=s) (by rw [f.A])
 rw [←Ru h,←Ru (S:=S1) (s:=s) (p:=p) (by rw [f.A];exact h)]at this
 exact this
omit L X in
theorem MvS.es {g:Int→Int}{S S1:Ap}{ps:List Int}{es:List Ent}(h:MvS g S ps es S1)(q:AInv S)(hm: ∀p∈ps,∃s,S.A s=some p):
  es.map (·.1)=ps.map g∧(∀e∈es,∃p∈ps,e.1=g p∧PgOk S1 (g p) (S.pgD p) e.2∧ ∃b j:Nat,e.2=((b*S.D.P+j:Nat):Int)∧b<S.D.nb∧j<S.D.P∧(S.D.bl b).nx≤j∧S.ps b≠3)∧es.Pairwise (fun x y=>x.2≠y.2):=by
 induction h with
 |nil=>exact⟨rfl,(fun e he=>by cases he),.nil⟩
 | @snoc S1 S2 ps es p qn r h ih=>
  obtain⟨h1,h2,h3⟩:=ih fun p hp=>hm p (List.mem_append_left _ hp)
  obtain⟨a,b,c⟩:=r.inv q
  obtain⟨a',b',-,-,e'⟩:=h.inv a
  obtain⟨k1,-⟩:=h.pg a
  have f:=(h.fr a.iw).1
  obtain⟨i,j,e1,e2,e3,e4,e5,e6,e7,e8⟩:=e' qn rfl
  obtain⟨s,hs⟩:=hm p (List.mem_append_right _ (List.mem_singleton_self _))
  have hpd:S1.pgD p=S.pgD p:=jk q b c hs
  rw [c.nb]at e2
  rw [c.P]at e1 e3
  refine⟨by rw [List.map_append,List.map_append,h1];rfl,fun e he=>?_,?_⟩
  ·rcases List.mem_append.1 he with he|he
   ·obtain⟨p',g1,g2,g3,g4⟩:=h2 e he
    exact⟨p',List.mem_append_left _ g1,g2,g3.keep b' f.P f.nb,g4⟩
   ·rw [List.mem_singleton]at he
    subst he
    refine⟨p,List.mem_append_right _ (List.mem_singleton_self _),rfl,by rw [←hpd];exact k1,i,j,by rw [e1],e2,e3,Nat.le_trans (b.nx i e2) e8,fun h3'=>?_⟩
    have:=b'.ps3 i (by rw [c.nb];exact e2) (b.ps3 i e2 h3')
    omega
  ·rw [List.pairwise_append]
   refine⟨h3,List.pairwise_singleton _ _,fun x hx y hy=>?_⟩
   rw [List.mem_singleton]at hy
   subst hy
   obtain⟨p',g1,g2,g3,-⟩:=h2 x hx
   obtain⟨i',j',n,f1,f2,f3,f4,f5,f6,f7⟩:=g3.ex
   intro e
   have e:x.2=((qn:Nat):Int):=e
   rw [c.P]at f1 f3
   obtain⟨rfl,rfl⟩:=Ij e3 f3 (show i*S.D.P+j=i'*S.D.P+j' by omega)
   omega
omit L X in
theorem MvS.ok {S S1:Ap}{b:Nat}{es:List Ent}(h:MvS (B7 S.A) S (S.mv b) es S1)(q:AInv S): ∀j x,es[j]?=some x→okE S.S (S.D.nb*S.D.P) (stA S.A es j) x:=by
 intro j x hx
 obtain⟨-,h2,h3⟩:=h.es q fun p hp=>let⟨_,s,_,_,h⟩:=Hj hp;⟨s,h⟩
 obtain⟨p,g1,g2,g3,b',k,e1,e2,e3,e4,e5⟩:=h2 x (List.mem_of_getElem? hx)
 obtain⟨j0,s,m1,m2,m3⟩:=Hj g1
 rw [Hf m3 q.inj]at g2
 obtain⟨r1,r2,-⟩:=q.map s p m3
 refine⟨⟨by omega,by omega,by omega,?_⟩,?_⟩
 ·rw [e1]
  have:=Nat.mul_le_mul_right S.D.P (show b'+1≤S.D.nb from e2)
  rw [Nat.succ_mul]at this
  omega
 ·rintro⟨s',hs,hne⟩
  rcases Gv j s' x.2 hs with h1|⟨j',e,f1,f2,f3,f4,f5⟩
  ·obtain⟨-,-,i,m,g1,g2,g3,g4,g5,g6,-⟩:=q.map s' x.2 h1
   obtain⟨rfl,rfl⟩:=Ij g3 e3 (show i*S.D.P+m=b'*S.D.P+k by omega)
   omega
  ·obtain⟨l1,l2⟩:=List.getElem?_eq_some_iff.1 f2
   obtain⟨l3,l4⟩:=List.getElem?_eq_some_iff.1 hx
   have:=List.pairwise_iff_getElem.1 h3 j' j l1 l3 f1
   rw [l2,l4]at this
   exact this f4
omit L X in
theorem MvS.mvOk {S S1:Ap}{b i:Nat}{p:Int}{es:List Ent}(h:MvS (B7 S.A) S ((S.mv b).take i) es S1)(q:AInv S)(ok:S.D.Ok)(hS:S.S<1000)(hp:(S.mv b)[i]?=some p):MvOk S b i p S1:=by
 obtain⟨a,k,c⟩:=h.inv q
 obtain⟨j0,s,m1,m2,m3⟩:=Hj (List.mem_of_getElem? hp)
 obtain⟨r1,r2,b',j,g1,g2,g3,g4,g5,g6,g7⟩:=q.map s p m3
 obtain⟨d1,d2⟩:=O1 (b:=b') g3
 have hb:((S.D.bl b').pg j).b.length=S.D.sz+64:=((ok.bl b' g2).pg j g3).full (.inl g7)
 have hk:=k.pg b' j g2 g6
 have hn:=k.nx b' g2
 have hnb:=q.geo.nb
 have hP:=q.geo.P
 have hlt:b'*S.D.P+j<100000:=by
  have:=Nat.mul_le_mul (show b'≤12 by omega) (show S.D.P≤6 by omega)
  omega
 refine⟨⟨_,g1,hlt,?_,?_,?_,?_⟩,?_,a.off⟩
 ·rw [c.P,c.nb,d1];exact g2
 ·rw [c.P,d1,d2];omega
 ·rw [c.P,d1,d2,hk];exact .inl g7
 ·rw [c.P,c.sz,d1,d2,hk,List.length_take];omega
 ·rw [Hf m3 q.inj];omega
omit L X in
theorem jl {S:Ap}{b:Nat}(q:AInv S)(hm: ∀s p,S.A s=some p→ ∀j:Nat,j<S.D.P→p≠((b*S.D.P+j:Nat):Int))(s:Int):(S.ers b).1.rd s=S.rd s:=by
 have key: ∀(S':Ap),S'.A=S.A→S'.D.P=S.D.P→S'.D.sz=S.D.sz→(∀i,i≠b→S'.D.bl i=S.D.bl i)→S'.rd s=S.rd s:=by
  intro S' h1 h2 h3 h4
  unfold Ap.rd
  rw [h1,h2,h3]
  cases hs:S.A s with
  |none=>rfl
  |some p=>
   obtain⟨-,-,b',j,g1,g2,g3,-⟩:=q.map s p hs
   obtain⟨d1,d2⟩:=O1 (b:=b') g3
   simp only [g1,Int.toNat_natCast,d1]
   rw [h4 b' fun e=>by subst e;exact hm s p hs j g3 g1]
 have hE: ∀i,i≠b→(S.D.erase ((b:Nat):Int)).1.bl i=S.D.bl i:=by
  intro i hi
  have hi':i≠((b:Nat):Int).toNat:=by rw [Int.toNat_natCast];exact hi
  unfold Dv.erase
  split
  ·split
   ·rfl
   ·split
    ·rfl
    ·split
     ·exact upd_ne _ _ hi'
     ·split
      ·exact upd_ne _ _ hi'
      ·exact upd_ne _ _ hi'
  ·rfl
 obtain⟨⟨e1,e2,e3,e4⟩,-⟩:=S.D.erase_geo ((b:Nat):Int)
 unfold Ap.ers
 split
 ·exact key _ rfl rfl rfl fun _ _=>rfl
 ·split
  ·exact key _ rfl e2 e3 hE
  ·split
   ·exact key _ rfl e2 e3 hE
   ·exact key _ rfl e2 e3 hE
omit L X in
theorem Rv (S:Ap)(b:Nat):Sm S (S.ers b).1:=by
 obtain⟨⟨e1,e2,e3,e4⟩,-⟩:=S.D.erase_geo ((b:Nat):Int)
 unfold Ap.ers
 split
 ·exact⟨rfl,rfl,rfl,rfl,rfl⟩
 ·split
  ·exact⟨e1,e2,e3,e4,rfl⟩
  ·split <;> exact⟨e1,e2,e3,e4,rfl⟩
omit L X in
theorem CmP.sm {es:List Ent}{S S':Ap}{o:WO}(h:CmP es S S' o)(iw:IW S):Sm S S':=by
 obtain⟨⟨g1,g2,g3,g4,g5,-⟩,-⟩:=h.fr iw
 exact⟨g1,g2,g3,g4,g5⟩
omit L X in
theorem MvS.cm {S S1 S2:Ap}{b:Nat}{es:List Ent}{o:WO}(h:MvS (B7 S.A) S (S.mv b) es S1)(c:CmP es S1 S2 o)(q:AInv S)(ok:S.D.Ok):
  AInv S2∧Keep S S2∧Sm S S2∧o≠ .pow∧(o= .full→(∀i,i<S.D.nb→S2.ps i≠1)∧S2.A=S.A)∧
   (o= .done 0→(∀s,S2.rd s=S.rd s)∧(S.ps b=3→ ∀s p,S2.A s=some p→ ∀j:Nat,j<S2.D.P→p≠((b*S2.D.P+j:Nat):Int))):=by
 have hm: ∀p∈S.mv b,∃s,S.A s=some p:=fun p hp=>let⟨_,s,_,_,h⟩:=Hj hp;⟨s,h⟩
 obtain⟨q1,k1,f1⟩:=h.inv q
 obtain⟨e1,e2,e3⟩:=h.es q hm
 have hok:=h.ok q
 obtain⟨q2,k2,c1,c2,c3⟩:=c.inv q1 (by rw [f1.secs,f1.nb,f1.P,f1.A];exact hok) fun e he h0=>let⟨p,_,g2,g3,_⟩:=e2 e he;⟨_,by rw [g2];exact g3⟩
 have sm2:=c.sm q1.iw
 have kk:=k1.trans k2 f1.nb
 refine⟨q2,kk,f1.sm.trans sm2,c1,fun ho=>⟨fun i hi=>(c2 ho).1 i (by rw [f1.nb];exact hi),(c2 ho).2.trans f1.A⟩,fun ho=>?_⟩
 have hA:=c3 ho
 rw [W9,f1.A]at hA
 have hnd:(es.map (·.1)).Nodup:=by
  rw [e1]
  unfold Ap.mv Do
  refine List.pairwise_map.2 ?_
  refine List.Pairwise.imp_of_mem (R:=fun x y:Int=>x≠y) (fun {x y} hx hy hne e=>hne ?_) ?_
  ·obtain⟨_,s,_,_,h⟩:=Hj (S:=S) (b:=b) hx
   obtain⟨_,s',_,_,h'⟩:=Hj (S:=S) (b:=b) hy
   rw [Hf h q.inj,Hf h' q.inj]at e
   subst e;rw [h]at h';cases h';rfl
  ·refine List.Pairwise.filter _ ?_
   refine List.pairwise_map.2 (List.Pairwise.imp (R:=fun x y:Nat=>x≠y) ?_ List.nodup_range)
   intro x y hne e
   have e2:((b*S.D.P+x:Nat):Int)=((b*S.D.P+y:Nat):Int):=e
   exact hne (by omega)
 obtain⟨n1,n2⟩:=Vu es S.A hnd
 refine⟨fun s=>?_,fun hb3 s p hs j hj hp=>?_⟩
 ·by_cases hk:s∈es.map (·.1)
  ·obtain⟨e,g1,g2⟩:=List.mem_map.1 hk
   obtain⟨p,p1,p2,p3,b',j,p4,-⟩:=e2 e g1
   obtain⟨j0,s',m1,m2,m3⟩:=Hj p1
   rw [Hf m3 q.inj]at p2 p3
   have es':s'=s:=by omega
   subst es'
   have hs2:S2.A s'=some e.2:=by rw [hA,p2.symm,n2 e g1,if_pos (by omega)]
   rw [(p3.keep k2 sm2.P sm2.nb).rd hs2 (by rw [sm2.sz,f1.sz,Ru m3];exact jh q ok s'),Ru m3]
  ·exact Hi q kk ⟨by rw [sm2.P,f1.P],by rw [sm2.sz,f1.sz]⟩ (by rw [hA];exact n1 s hk)
 ·rw [sm2.P,f1.P]at hj hp
  by_cases hk:s∈es.map (·.1)
  ·obtain⟨e,g1,g2⟩:=List.mem_map.1 hk
   obtain⟨p',p1,p2,p3,b',j',p4,p5,p6,p7,p8⟩:=e2 e g1
   have hs2:S2.A s=some e.2:=by rw [hA,g2.symm,n2 e g1,if_pos (by omega)]
   rw [hs2]at hs
   cases hs
   obtain⟨rfl,rfl⟩:=Ij p6 hj (show b'*S.D.P+j'=b*S.D.P+j by omega)
   exact p8 hb3
  ·have hs0:S.A s=some p:=by rw [←n1 s hk,←hA];exact hs
   subst hp
   have hin:=ji hj hs0
   have:s∈es.map (·.1):=by
    rw [e1]
    exact List.mem_map.2 ⟨_,hin,Hf hs0 q.inj⟩
   exact hk this
omit L X in
theorem MovO.inv {S S':Ap}{b:Nat}{o:WO}{k:Nat}(h:MovO b S S' o)(q:AInv S)(ok:S.D.Ok)(bd:Bd S k)(hb:b<S.D.nb)(h3:S.ps b=3)(hj:S.jr ((b:Nat):Int)=false):
  AInv S'∧Sm S S'∧Bd S' (k+1000)∧o≠ .pow∧(o= .full→ ∀i,i<S.D.nb→S'.ps i≠1)∧ ∀s,S'.rd s=S.rd s:=by
 have hP:=q.geo.P
 have hsz:=q.geo.sz
 have hnb:=q.geo.nb
 have hl:=jj (S:=S) (b:=b)
 cases h with
 | @bad S1 _ i p es _ m hp h ho=>
  obtain⟨q1,k1,f1⟩:=m.inv q
  obtain⟨b1,-⟩:=m.bd q bd
  obtain⟨q2,k2,c2,d2,-⟩:=h.inv q1
  have f2:=(h.fr q1.iw).1
  have b2:=h.bd q1.iw (by rw [f1.nb];exact hnb.2) b1
  have hlt:((S.mv b).take i).length≤6:=by rw [List.length_take];omega
  exact⟨q2,(f1.trans f2).sm,b2.mono (by omega),c2,fun hr i hi=>d2 hr i (by rw [f1.nb];exact hi),fun s=>Hi q (k1.trans k2 f1.nb) ⟨by rw [f2.P,f1.P],by rw [f2.sz,f1.sz]⟩ (by rw [f2.A,f1.A])⟩
 | @badc S1 _ es _ m c ho=>
  obtain⟨q2,k2,sm,c1,c2,-⟩:=m.cm c q ok
  obtain⟨q1,k1,f1⟩:=m.inv q
  obtain⟨b1,hes⟩:=m.bd q bd
  have b2:=c.bd q1.iw (by rw [f1.nb];exact hnb.2) b1
  have hr:recN S1 es≤es.length+1:=Nb (by rw [f1.sz];exact hsz.1)
  have hof:o= .full:=by rcases ho with e|e;exact e;exact absurd e c1
  exact⟨q2,sm,b2.mono (by omega),c1,fun hr=>(c2 hr).1,fun s=>Hi q k2 ⟨sm.P,sm.sz⟩ (by rw [(c2 hof).2])⟩
 | @ok S1 S2 es m c=>
  obtain⟨q2,k2,sm,c1,-,c3⟩:=m.cm c q ok
  obtain⟨q1,k1,f1⟩:=m.inv q
  obtain⟨b1,hes⟩:=m.bd q bd
  have b2:=c.bd q1.iw (by rw [f1.nb];exact hnb.2) b1
  have hr:recN S1 es≤es.length+1:=Nb (by rw [f1.sz];exact hsz.1)
  obtain⟨g1,g2⟩:=c3 rfl
  obtain⟨q3,ho⟩:=q2.ers (b:=b) (by rw [sm.nb];exact hb) (k2.ps3 b hb h3) (g2 h3) (by rw [k2.jrm b hb (by omega)];exact hj)
  rw [ho]
  exact⟨q3,sm.trans (Rv _ _),(Vt b b2).mono (by omega),by simp,(fun h=>by cases h),fun s=>(jl q2 (g2 h3) s).trans (g1 s)⟩
omit L X in
theorem AInv.mvH {S:Ap}{k:Nat}(q:AInv S)(ok:S.D.Ok)(hS:S.S<1000)(bd:Bd S k)(hk:k<100000): ∀b:Nat,b<S.D.nb→S.ps b=3→(S.mv b).length≤6∧S.pe b<100000∧
   (∀i es S1 p,MvS (B7 S.A) S ((S.mv b).take i) es S1→(S.mv b)[i]?=some p→MvOk S b i p S1)∧
   (∀es S1,MvS (B7 S.A) S (S.mv b) es S1→ ∀j y,es[j]?=some y→okE S.S (S.D.nb*S.D.P) (stA S.A es j) y)∧
   (∀es S1 S2,MvS (B7 S.A) S (S.mv b) es S1→CmP es S1 S2 (.done 0)→S2.ps b=3):=by
 intro b hb h3
 have hP:=q.geo.P
 have hl:=jj (S:=S) (b:=b)
 have:=bd.pe b
 exact⟨by omega,by omega,fun i es S1 p h hp=>h.mvOk q ok hS hp,fun es S1 h=>h.ok q,fun es S1 S2 h c=>(h.cm c q ok).2.1.ps3 b hb h3⟩
end
section
variable {P0:Program}{E:Env}{F:T CFn}{K:T (List AV×AV)}(L:Lg P0 E F K)(X:Fx F K)
include L X
omit L X in
theorem AInv.clg {S:Ap}(q:AInv S):AInv S.clg∧Keep S S.clg∧Sm S S.clg∧S.clg.A=S.A∧S.clg.jr=S.jr∧S.clg.log<0∧ ∀k,Bd S k→Bd S.clg k:=by
 unfold Ap.clg
 by_cases hl:0≤S.log
 ·rw [if_pos hl]
  obtain⟨b,hb⟩:=Int.eq_ofNat_of_zero_le hl
  have g2:S.ps S.log.toNat=2:=((q.iw.wi true).sel hl).2
  have hdl:0≤S.dat→S.dat≠S.log:=q.iw.ne false
  have iwc:IW {S with ps:=upd S.ps S.log.toNat 3,log:= -1}:=by
   refine⟨fun k=>?_,fun k hk=>?_⟩
   ·cases k with
    |true=>exact⟨fun h=>by simp only [Ap.sel]at h;simp at h,by simp [Ap.sel]⟩
    |false=>
     have w:=q.iw.wi false
     refine⟨fun h=>?_,w.lo⟩
     obtain⟨h1,h2⟩:=w.sel h
     refine⟨h1,?_⟩
     have:=hdl h
     have hd:0≤S.dat:=h
     show upd S.ps S.log.toNat 3 S.dat.toNat=2
     rw [upd_ne _ _ (by omega)];exact h2
   ·cases k with
    |true=>simp [Ap.sel]at hk
    |false=>have hd:0≤S.dat:=hk;show S.dat≠ -1;omega
  obtain⟨a,c⟩:=q.close (k:=true) hl iwc
  exact⟨a,c,⟨rfl,rfl,rfl,rfl,rfl⟩,rfl,rfl,by simp,fun k bd=>⟨bd.last,bd.wr,bd.pe,bd.nx,bd.dn⟩⟩
 ·rw [if_neg hl]
  exact⟨q,.refl _,⟨rfl,rfl,rfl,rfl,rfl⟩,rfl,rfl,by omega,fun k bd=>bd⟩
omit L X in
theorem FrR.sm {S S':Ap}(f:FrR S S'):Sm S S':=⟨f.nb,f.P,f.sz,f.en,f.secs⟩
omit L X in
theorem Vv (S:Ap)(b i:Nat)(h:i≠b):(S.ers b).1.ps i=S.ps i:=by
 unfold Ap.ers
 split
 ·exact upd_ne _ _ h
 ·split
  ·rfl
  ·split <;> exact upd_ne _ _ h
omit L X in
theorem zm (S:Ap)(b:Nat):(S.ers b).1.A=S.A:=by
 unfold Ap.ers
 split
 ·rfl
 ·split
  ·rfl
  ·split <;> rfl
omit L X in
theorem ErP.inv {l:List Int}{S S':Ap}{o:WO}(h:ErP l S S' o)(q:AInv S)(hl:l.Nodup)(hj: ∀y∈l,∃b:Nat,y=((b:Nat):Int)∧b<S.D.nb∧S.ps b=3∧S.jr ((b:Nat):Int)=true):
  AInv S'∧Sm S S'∧o= .done 0∧(∀s,S'.rd s=S.rd s)∧(∀i:Nat,((i:Nat):Int)∉l→S'.ps i=S.ps i∧S'.jr ((i:Nat):Int)=S.jr ((i:Nat):Int)):=by
 induction h with
 |nil=>exact⟨q,⟨rfl,rfl,rfl,rfl,rfl⟩,rfl,fun _=>rfl,fun _ _=>⟨rfl,rfl⟩⟩
 | @cons b l S S' o h t ih=>
  obtain⟨b',e,h1,h2,h3⟩:=hj _ (List.mem_cons_self ..)
  have:b'=b:=by omega
  subst this
  obtain⟨q1,-⟩:=q.ersJ h1 h2 h3
  have sm:=Rv S b'
  rw [List.nodup_cons]at hl
  have hm: ∀s p,S.A s=some p→ ∀j:Nat,j<S.D.P→p≠((b'*S.D.P+j:Nat):Int):=fun s p h j hj2 e=>by
   obtain⟨-,-,i,m,g1,g2,g3,g4,g5,-⟩:=q.map s p h
   obtain⟨rfl,-⟩:=Ij g3 hj2 (show i*S.D.P+m=b'*S.D.P+j by omega)
   rw [h3]at g5;cases g5
  have hjs: ∀i:Nat,i≠b'→Bb (S.ers b').1.jr ((b':Nat):Int) false ((i:Nat):Int)=S.jr ((i:Nat):Int):=fun i hi=>by
   unfold Bb;rw [if_neg (by omega),Rt]
  obtain⟨a1,a2,a3,a4,a5⟩:=ih q1 hl.2 fun y hy=>by
   obtain⟨i,e5,g1,g2,g3⟩:=hj y (List.mem_cons_of_mem _ hy)
   have hne:i≠b':=fun e'=>by subst e';rw [e5]at hy;exact hl.1 hy
   exact⟨i,e5,by show i<(S.ers b').1.D.nb;rw [sm.nb];exact g1,by show(S.ers b').1.ps i=3;rw [Vv S b' i hne];exact g2,by show Bb _ _ _ _=_;rw [hjs i hne];exact g3⟩
  refine⟨a1,sm.trans ⟨a2.nb,a2.P,a2.sz,a2.en,a2.secs⟩,a3,fun s=>(a4 s).trans (jl q hm s),fun i hi=>?_⟩
  rw [List.mem_cons,not_or]at hi
  have hne:i≠b':=fun e'=>hi.1 (by rw [e'])
  obtain⟨c1,c2⟩:=a5 i hi.2
  exact⟨c1.trans (Vv S b' i hne),c2.trans (hjs i hne)⟩
 | @bad b l S h=>
  obtain⟨b',e,h1,h2,h3⟩:=hj _ (List.mem_cons_self ..)
  have:b'=b:=by omega
  subst this
  obtain⟨-,hd⟩:=q.ersJ h1 h2 h3
  rw [hd]at h;cases h
omit L X in
theorem DomA.len {S:Ap}(q:AInv S){D:List Int}(h:DomA S.A D):D.length≤S.S:=by
 refine Fp S.S D (h.lt.imp fun {a b} h=>by omega) fun x hx=>?_
 have h1:=(h.mem x).1 hx
 obtain⟨p,hp⟩:=Option.isSome_iff_exists.1 h1
 obtain⟨g1,g2,-⟩:=q.map x p hp
 exact⟨g1,g2⟩
omit L X in
theorem DomB.len {S:Ap}(q:AInv S){J:List Int}(h:DomB S.jr J):J.length≤S.D.nb:=by
 refine Fp S.D.nb J (h.lt.imp fun {a b} h=>by omega) fun x hx=>?_
 obtain⟨b,e1,e2,-⟩:=q.jr x ((h.mem x).1 hx)
 omega
omit L X in
theorem AInv.ckR {S S1:Ap}{D:List Int}{o:WO}{k:Nat}(q:AInv S)(bd:Bd S k)(hS:S.S≤10)(hD:DomA S.A D)(h:RcP 3 (B4 S.A D) S.clg S1 o):
  AInv S1∧Keep S S1∧Sm S S1∧S1.A=S.A∧Bd S1 (k+400)∧o≠ .pow∧(o= .full→ ∀i,i<S.D.nb→S1.ps i≠1)∧(∀s,S1.rd s=S.rd s)∧
   ∀y,S.jr y=true→ ∃b:Nat,y=((b:Nat):Int)∧b<S1.D.nb∧S1.ps b=3∧S1.jr ((b:Nat):Int)=true:=by
 obtain⟨qc,kc,sc,cA,cj,cl,cb⟩:=q.clg
 have hD':=hD.len q
 obtain⟨q1,k1,c1,d1⟩:=h.inv qc
 obtain⟨f,-⟩:=h.fr qc.iw
 have b1:=h.bd qc.iw (by rw [sc.nb];exact q.geo.nb.2) (cb k bd)
 have hr:recN S.clg (B4 S.A D)≤(B4 S.A D).length+1:=Nb (by rw [sc.sz];exact q.geo.sz.1)
 have hel:(B4 S.A D).length=D.length:=by unfold B4;rw [List.length_map]
 have sm:=sc.trans f.sm
 have kk:=kc.trans k1 sc.nb
 refine⟨q1,kk,sm,f.A.trans cA,b1.mono (by omega),c1,fun ho i hi=>d1 ho i (by rw [sc.nb];exact hi),fun s=>Hi q kk ⟨sm.P,sm.sz⟩ (by rw [f.A,cA]),fun y hy=>?_⟩
 obtain⟨b,e1,e2,e3⟩:=qc.jr y (by rw [cj];exact hy)
 have e2':b<S.D.nb:=by rw [sc.nb]at e2;exact e2
 have h3:S.clg.ps b=3:=by
  rcases e3 with e3|⟨-,e4⟩
  ·exact e3
  ·omega
 refine⟨b,e1,by rw [sm.nb];exact e2',k1.ps3 b e2 h3,?_⟩
 rw [k1.jrm b e2 (by omega),cj,←e1];exact hy
omit L X in
theorem CkO.inv {S S':Ap}{o:WO}{k:Nat}(h:CkO S S' o)(q:AInv S)(bd:Bd S k)(hS:S.S≤10):
  AInv S'∧Sm S S'∧Bd S' (k+1000)∧o≠ .pow∧(o= .full→ ∀i,i<S.D.nb→S'.ps i≠1)∧ ∀s,S'.rd s=S.rd s:=by
 cases h with
 |bad hD h ho=>
  obtain⟨a,b,c,d,e,f,g,i,-⟩:=q.ckR bd hS hD h
  exact⟨a,c,e.mono (by omega),f,g,i⟩
 | @run D J S1 S' o hD h hJ e=>
  obtain⟨a,b,c,d,e1,f,g,i,j⟩:=q.ckR bd hS hD h
  obtain⟨a1,a2,a3,a4,-⟩:=e.inv a (hJ.lt.imp fun {a b} h=>by omega) fun y hy=>j y ((hJ.mem y).1 hy)
  have b1:=e.bd e1
  have hl:=hJ.len q
  have hnb:=q.geo.nb
  refine⟨a1,c.trans a2,b1.mono (by omega),by rw [a3];simp,(fun ho=>by rw [a3]at ho;cases ho),fun s=>(a4 s).trans (i s)⟩
omit L X in
theorem py {J:List Int}(h:J.Pairwise (· < ·)){i:Nat}{y:Int}(hy:J[i]?=some y):y∉J.take i:=by
 intro hm
 obtain⟨j,hj,e⟩:=List.getElem_of_mem hm
 rw [List.length_take]at hj
 rw [List.getElem_take]at e
 obtain⟨l1,l2⟩:=List.getElem?_eq_some_iff.1 hy
 have:=List.pairwise_iff_getElem.1 h j i (by omega) l1 (by omega)
 omega
omit L X in
theorem AInv.ckH {S:Ap}{k:Nat}(q:AInv S)(bd:Bd S k)(hS:S.S≤10)(hk:k<50000):
  ∀D J S1 i Si,DomA S.A D→RcP 3 (B4 S.A D) S.clg S1 (.done 0)→DomB S.jr J→ErP (J.take i) S1 Si (.done 0)→ ∀y,J[i]?=some y→ ∃b:Nat,y=((b:Nat):Int)∧b<Si.D.nb∧(Si.ps b=2∨Si.ps b=3)∧Si.pe b<100000∧Si.D.n+1<100000:=by
 intro D J S1 i Si hD h hJ e y hy
 obtain⟨a,b,c,d,e1,f,g,ii,j⟩:=q.ckR bd hS hD h
 have hnd:J.Nodup:=hJ.lt.imp fun {a b} h=>by omega
 obtain⟨a1,a2,a3,a4,a5⟩:=e.inv a (hnd.sublist (List.take_sublist _ _)) fun y hy=>j y ((hJ.mem y).1 (List.mem_of_mem_take hy))
 have b1:=e.bd e1
 have hl:=hJ.len q
 have hnb:=q.geo.nb
 have hlt:(J.take i).length≤12:=by rw [List.length_take];omega
 obtain⟨x,x1,x2,x3,x4⟩:=j y ((hJ.mem y).1 (List.mem_of_getElem? hy))
 obtain⟨y1,y2⟩:=a5 x (by rw [←x1];exact py hJ.lt hy)
 have h1:=b1.pe x
 have h2:=b1.dn
 exact⟨x,x1,by rw [a2.nb];exact x2,.inr (by rw [y1];exact x3),by omega,by omega⟩
end
section
variable {P0:Program}{E:Env}{F:T CFn}{K:T (List AV×AV)}(L:Lg P0 E F K)(X:Fx F K)(Y:FxM F K)
include L X Y
section
variable {h:H}{κ: Nat→Nat}{I:Ai}{S:Ap}
theorem Zj {ab:Nat}(r:ApR κ h I S)(ka:Bk h ab [.ptr I.s 0]):Ct P0 E F K 19 [.ptr ab 0] h fun v h'=>v= .ptr I.d 0∧h'=h:=by
 have sk:=r.sk
 unfold apC at sk
 refine Am L Y.f19 Y.k19 rfl rfl fun Q x cs G=>?_
 refine wk ?_
 refine ret Y.f19 ?_
 exact⟨rfl,rfl⟩
theorem jm {d i:Nat}{D:Dv}(r:DevR κ h d D)(hi:i<D.nb):Ct P0 E F K 20 [.ptr d 0,AI ((i:Nat):Int)] h fun v h'=>v=AI (((D.bl i).nx:Nat):Int)∧h'=h:=by
 obtain⟨-,fm,bb,cb,q⟩:=r
 obtain⟨pn,c,q1⟩:=q.rows i hi
 exact Iw L X q.dk q.bk hi q1.c1
theorem Tr {c:Nat}(U:SortOk P0 E F 129)(r:ApR κ h I S)(kc:Bk h c [.nils])(hc:200≤κ c):
  Ct P0 E F K 55 [.ptr I.s 0,.ptr c 0] h fun v h'=>Kp (fun j=>j=c) h h'∧ ∃w D,Bk h' c [w]∧DomA S.A D∧D.length≤1000∧EL h' h.n w (B4 S.A D):=by
 have sk:=r.sk
 have ls:=sk.lt
 have lc:=kc.lt
 have hcol:=r.col
 unfold apC at sk
 refine Ae L X.f55 X.k55 rfl rfl fun Q x cs G=>?_
 refine wk ?_
 refine cal (c:=If L X U r.mp) (g:=?_)
 rintro _ h2 ⟨D,d1,d2,d3,k2⟩
 have n2:=k2.n
 obtain⟨p1,p2⟩:=d3.plain
 generalize hv:B4 S.A D=es at*
 refine wk ?_
 (apply oc L rfl rfl rfl p1 p2;exact lkp;(show 0<1;omega);rfl)
 refine wk ?_
 refine ret X.f55 ?_
 refine⟨kps,_,D,lkp,d1,d2,?_⟩
 rw [hv]
 exact d3.kS (S:=fun j=>j=c) kps fun b hb e=>by omega
theorem Vw {ab:Nat}(U:SortOk P0 E F 129)(r:ApR κ h I S)(ka:Bk h ab [.ptr I.s 0]):
  Ct P0 E F K 18 [.ptr ab 0] h (fun v h'=> ∃κ' D,DomA S.A D∧D.length≤1000∧EL h' h.n v (B4 S.A D)∧(∀b n c,v= .slc b 0 n c→κ' b=0)∧ApR κ' h' I S∧AChg κ h κ' h'):=by
 have lk:=ka.lt
 refine Am L X.f18 X.k18 rfl rfl fun Q x cs G=>?_
 refine wk ?_
 have k1:K0 h (hp (h.n+1) h.t [(h.n,some (cl [.nils]))]):=kps
 have hc1: ∀b,b<h.n→Ii κ h.n b=κ b:=fun b hb=>E4 hb
 have r1:ApR (Ii κ h.n) (hp (h.n+1) h.t [(h.n,some (cl [.nils]))]) I S:=r.k0 k1 hc1
 have a1:AChg κ h (Ii κ h.n) (hp (h.n+1) h.t [(h.n,some (cl [.nils]))]):=AChg.k0 k1 hc1
 have kc1:Bk (hp (h.n+1) h.t [(h.n,some (cl [.nils]))]) h.n [.nils]:=lkp
 have hn1:(hp (h.n+1) h.t [(h.n,some (cl [.nils]))]).n=h.n+1:=rfl
 have cl1: ∀κ2 h2,K0 (hp (h.n+1) h.t [(h.n,some (cl [.nils]))]) h2→(hp (h.n+1) h.t [(h.n,some (cl [.nils]))]).n<h2.n→(∀b,b<(hp (h.n+1) h.t [(h.n,some (cl [.nils]))]).n→κ2 b=Ii κ h.n b)→ApR κ2 h2 I S→CtX P0 E F K 55 (.ptr I.s 0:: [.ptr h.n 0]) h2
   (fun v h'=> ∃κ' S',ApR κ' h' I S'∧AChX (fun j=>j=h.n) κ2 h2 κ' h'∧(S'=S∧ ∃w D,Bk h' h.n [w]∧DomA S.A D∧D.length≤1000∧EL h' (h.n+2) w (B4 S.A D)∧ ∀b n c,w= .slc b 0 n c→κ' b=0))
   (fun v h'=> ∃κ' S' e,v= .ifc 44 (AI e)∧ApR κ' h' I S'∧AChX (fun j=>j=h.n) κ2 h2 κ' h'∧False):=by
  intro κ2 h2 k2 n2 c2 r2
  rw [hn1]at n2 c2
  have hk1:κ2 h.n=200:=(c2 _ (by omega)).trans (Dz (Nat.le_refl _))
  refine((Tr L X Y U r2 (Ah k2 kc1) (by omega)).mono ?_).X
  rintro v h' ⟨q1,w,D,q2,d1,d2,d3⟩
  refine⟨ext κ2 h2.n,S,r2.own q1 (fun j _ e=>by subst e;omega) fun b hb=>Af hb,⟨q1.mono fun b e=> .inr e,fun b hb=>Af hb⟩,rfl,w,D,q2,d1,d2,d3.mono (by omega),?_⟩
  rintro b n c rfl
  exact Bs d3.blt.2
 refine cal (c:=E3 L X r1 (Ah k1 ka) (fun b e=>by subst e;exact Nat.lt_succ_self _) cl1) (g:=?_)
 rintro v h2 ⟨κ',S',h1,r',a',k',hv⟩
 rw [hn1]at k'
 rcases hv with⟨rfl,u,rfl,w,D,q1,d1,d2,q2,q3⟩|⟨e,rfl,q⟩
 ·have a2:AChg κ h κ' h2:=a'.own a1 fun b e=>by subst e;exact Nat.le_refl _
  have q1':Bk h2 h.n [w]:=As k' (by omega) q1
  have q2':EL h2 (h.n+2) w (B4 S'.A D):=q2.kS k' fun b hb e=>by omega
  have lq:=q1'.lt
  have hk1:κ' h.n=200:=(a'.col _ (by rw [hn1];omega)).trans (Dz (Nat.le_refl _))
  obtain⟨p1,p2⟩:=q2'.plain
  refine wk ?_
  (apply oc L rfl rfl rfl p1 p2;exact lkp;(show 0<1;omega);rfl)
  refine wk ?_
  refine ret X.f18 ?_
  refine⟨κ',D,d1,d2,(q2'.kS (S:=fun j=>j=h.n) ?_ fun b hb e=>by omega).mono (by omega),q3,r'.out (B:=fun j=>j=h.n) ?_ (fun b _ e=>by subst e;omega),AChg.own (B:=fun j=>j=h.n) a2 ?_ (fun b e=>by subst e;exact Nat.le_refl _) fun _ _=>rfl⟩
  ·exact kps
  ·exact kps
  ·exact kps
 ·exact q.elim
end
end
section
variable {P0:Program}{E:Env}{F:T CFn}{K:T (List AV×AV)}(L:Lg P0 E F K)(X:Fx F K)
include L X
section
variable {h:H}
theorem Zk {p pb nb:Nat}{ps pe:Nat→Nat}{cb:List AV}(q:PoC h p pb nb ps pe cb):Ct P0 E F K 46 [.ptr p 0,AI ((1:Nat):Int)] h fun v h'=>v=AI ((cntS ps 1 nb:Nat):Int)∧h'=h:=by
 have hd:=q.pk
 unfold pcC at hd
 refine Ae L X.f46 X.k46 rfl rfl fun Q x cs G=>?_
 refine wk ?_
 refine cal (c:=Kj L X q) (g:=?_)
 rintro _ rfl
 refine wk ?_
 (apply st1 L rfl;exact Gs (i:=1) rfl rfl (by omega);rfl)
 refine wk ?_
 refine ret X.f46 ?_
 exact⟨rfl,rfl⟩
end
section
variable {h:H}{κ: Nat→Nat}{I:Ai}{S:Ap}
theorem jn {c:Nat}(r:ApR κ h I S)(kc:Bk h c [AI ((0:Nat):Int)])(hc:200≤κ c):Ct P0 E F K 45 [.ptr I.s 0,.ptr c 0] h fun v h'=>Kp (fun j=>j=c) h h'∧Bk h' c [AI ((frees S:Nat):Int)]:=by
 have sk:=r.sk
 have ls:=sk.lt
 have lc:=kc.lt
 have hcol:=r.col
 obtain⟨cbl,po⟩:=r.po
 unfold apC at sk
 refine Ae L X.f45 X.k45 rfl rfl fun Q x cs G=>?_
 refine wk ?_
 refine cal (c:=Zk L X po) (g:=?_)
 rintro _ rfl
 refine wk ?_
 refine ret X.f45 ?_
 exact⟨kps,lkp⟩
theorem Nd {ab:Nat}(r:ApR κ h I S)(ka:Bk h ab [.ptr I.s 0]):
  Ct P0 E F K 14 [.ptr ab 0] h (fun v h'=> ∃κ',v=AI ((frees S:Nat):Int)∧ApR κ' h' I S∧AChg κ h κ' h'):=by
 have lk:=ka.lt
 refine Am L X.f14 X.k14 rfl rfl fun Q x cs G=>?_
 refine wk ?_
 have k1:K0 h (hp (h.n+1) h.t [(h.n,some (cl [AI ((0:Nat):Int)]))]):=kps
 have hc1: ∀b,b<h.n→Ii κ h.n b=κ b:=fun b hb=>E4 hb
 have r1:ApR (Ii κ h.n) (hp (h.n+1) h.t [(h.n,some (cl [AI ((0:Nat):Int)]))]) I S:=r.k0 k1 hc1
 have a1:AChg κ h (Ii κ h.n) (hp (h.n+1) h.t [(h.n,some (cl [AI ((0:Nat):Int)]))]):=AChg.k0 k1 hc1
 have kc1:Bk (hp (h.n+1) h.t [(h.n,some (cl [AI ((0:Nat):Int)]))]) h.n [AI ((0:Nat):Int)]:=lkp
 have hn1:(hp (h.n+1) h.t [(h.n,some (cl [AI ((0:Nat):Int)]))]).n=h.n+1:=rfl
 have cl1: ∀κ2 h2,K0 (hp (h.n+1) h.t [(h.n,some (cl [AI ((0:Nat):Int)]))]) h2→(hp (h.n+1) h.t [(h.n,some (cl [AI ((0:Nat):Int)]))]).n<h2.n→(∀b,b<(hp (h.n+1) h.t [(h.n,some (cl [AI ((0:Nat):Int)]))]).n→κ2 b=Ii κ h.n b)→ApR κ2 h2 I S→CtX P0 E F K 45 (.ptr I.s 0:: [.ptr h.n 0]) h2
   (fun v h'=> ∃κ' S',ApR κ' h' I S'∧AChX (fun j=>j=h.n) κ2 h2 κ' h'∧(S'=S∧Bk h' h.n [AI ((frees S:Nat):Int)]))
   (fun v h'=> ∃κ' S' e,v= .ifc 44 (AI e)∧ApR κ' h' I S'∧AChX (fun j=>j=h.n) κ2 h2 κ' h'∧False):=by
  intro κ2 h2 k2 n2 c2 r2
  rw [hn1]at n2 c2
  have hk1:κ2 h.n=200:=(c2 _ (by omega)).trans (Dz (Nat.le_refl _))
  refine((jn L X r2 (Ah k2 kc1) (by omega)).mono ?_).X
  rintro v h' ⟨q1,q2⟩
  exact⟨ext κ2 h2.n,S,r2.own q1 (fun j _ e=>by subst e;omega) fun b hb=>Af hb,⟨q1.mono fun b e=> .inr e,fun b hb=>Af hb⟩,rfl,q2⟩
 refine cal (c:=E3 L X r1 (Ah k1 ka) (fun b e=>by subst e;exact Nat.lt_succ_self _) cl1) (g:=?_)
 rintro v h2 ⟨κ',S',h1,r',a',k',hv⟩
 rw [hn1]at k'
 rcases hv with⟨rfl,u,rfl,q1⟩|⟨e,rfl,q⟩
 ·have a2:AChg κ h κ' h2:=a'.own a1 fun b e=>by subst e;exact Nat.le_refl _
  have q1':Bk h2 h.n [AI ((frees S':Nat):Int)]:=As k' (by omega) q1
  have lq:=q1'.lt
  have hk1:κ' h.n=200:=(a'.col _ (by rw [hn1];omega)).trans (Dz (Nat.le_refl _))
  refine wk ?_
  refine ret X.f14 ?_
  refine⟨κ',rfl,r'.out (B:=fun j=>j=h.n) ?_ (fun b _ e=>by subst e;omega),AChg.own (B:=fun j=>j=h.n) a2 ?_ (fun b e=>by subst e;exact Nat.le_refl _) fun _ _=>rfl⟩
  ·exact kps
  ·exact kps
 ·exact q.elim
omit L X in
theorem Rw {S:Ap}(h: ∀i,i<S.D.nb→S.ps i≠1):frees S=0:=by
 unfold frees
 generalize S.D.nb=n at h
 induction n with
 |zero=>rfl
 |succ n ih=>simp only [cntS];rw [ih fun i hi=>h i (by omega),if_neg (h n (Nat.lt_succ_self n))]
end
end
section
variable {P0:Program}{E:Env}{F:T CFn}{K:T (List AV×AV)}(L:Lg P0 E F K)(X:Fx F K)
include L X
section
variable {k:IntKind}{l:List (Nat×Option AV)}{h:H}{x y:O}{q:Bool}{sh:Sh}
omit L X in
theorem vx {a:Int}{d:Nat}(e:evO l x=some (.int k a))(e1:evO l y=some (.int k ((d:Nat):Int)))(hd:0<d):XV (.bin .rem x y q sh) h l (.int k (Int.tmod a ((d:Nat):Int))) h:=by
 refine⟨?_⟩
 have h0:iEq ((d:Nat):Int) (Int.ofNat 0)=false:=by
  rw [D5];exact decide_eq_false (by show((d:Nat):Int)≠0;omega)
 simp only [exec,Ad,Ab e,Ab e1,Fs,D1,A8,h0,vo]
end
omit L X in
theorem Zl (bs:List Nat)(m y:Nat):(Bm bs).set m (.int .u8 ((y:Nat):Int))=Bm (bs.set m y):=by unfold Bm;rw [List.map_set]
omit L X in
theorem AllB.set {bs:List Nat}(h:AllB bs){m y:Nat}(hy:y<256):AllB (bs.set m y):=by
 intro i hi
 rw [List.length_set]at hi
 rw [List.getD_eq_getElem?_getD,List.getElem?_set]
 split
 ·split
  ·exact hy
  ·simp
 ·rw [←List.getD_eq_getElem?_getD];exact h i hi
structure GrR (h:H)(lo:Nat)(v:AV)(sz:Nat)(l:List GW)(δ: Nat→List Nat):Prop where
 ex:(l= []∧v= .nils)∨(0<l.length∧ ∃gb:Nat,v= .slc gb 0 l.length (Aa+2)∧Bk h gb (l.flatMap (gwC sz))∧lo≤gb∧ ∀(i:Nat) (s:Int) (b o c:Nat),l[i]?=some (s,some (b,o,c))→BS h b o (δ b)∧(δ b).length=sz∧lo≤b∧o=0∧c=sz∧b≠gb)
omit L X in
theorem GrR.k0 {h h':H}{lo sz:Nat}{v:AV}{l:List GW}{δ: Nat→List Nat}(q:GrR h lo v sz l δ)(k:K0 h h'):GrR h' lo v sz l δ:= by
 rcases q.ex with h1|⟨h1,gb,h2,h3,h4,h5⟩
 ·exact⟨.inl h1⟩
 ·exact⟨.inr ⟨h1,gb,h2,Ah k h3,h4,fun i s b o c e=>let⟨g1,g2,g3,g4⟩:=h5 i s b o c e;⟨g1.k0 k,g2,g3,g4⟩⟩⟩
omit L X in
theorem Qp {sz:Nat}(l:List GW):(l.flatMap (gwC sz)).length=l.length*2:=Dh l (I1 l)
omit L X in
theorem GrR.app {h:H}{lo sz N n:Nat}{l:List GW}{δ: Nat→List Nat}{x:GW}(hb:Bk h N (l.flatMap (gwC sz)++gwC sz x))(hN:lo≤N)(hn:l.length=n)(hr: ∀(i:Nat) (s:Int) (b o c:Nat),l[i]?=some (s,some (b,o,c))→BS h b o (δ b)∧(δ b).length=sz∧lo≤b∧o=0∧c=sz∧b≠N)
  (hx: ∀(s:Int) (b o c:Nat),x=(s,some (b,o,c))→BS h b o (δ b)∧(δ b).length=sz∧lo≤b∧o=0∧c=sz∧b≠N):GrR h lo (.slc N 0 (n+1) (Aa+2)) sz (l++ [x]) δ:= by
 refine⟨.inr ⟨by simp,N,by simp [hn],by rw [List.flatMap_append];simpa using hb,hN,fun i s b o c e=>?_⟩⟩
 by_cases hi:i<l.length
 ·rw [List.getElem?_append_left hi]at e;exact hr i s b o c e
 ·rw [List.getElem?_append_right (by omega)]at e
  have hi0:i - l.length=0:=by
   have:=(List.getElem?_eq_some_iff.1 e).1
   simp at this;omega
  rw [hi0]at e
  simp at e
  exact hx s b o c e
section
variable {h:H}
theorem O2 {sv:AV}{n sz i N:Nat}{s:Int}{v:AV}{l:List GW}{δ: Nat→List Nat}{h0 h:H}{w:Option (Nat×Nat×Nat)}{Q:Nat→AV→Prop}{cs:List AFr}{k:List AItem}{lq:List (Nat×Option AV)}(hi:i<6)
  (q1:GrR h h0.n v sz l δ) (hl:l.length=i) (kN:Bk h N [AI s,gwV sz w]) (hN:h0.n≤N) (hne: ∀gb n c,v= .slc gb 0 n c→gb≠N) (hw: ∀b o c,w=some (b,o,c)→BS h b o (δ b)∧(δ b).length=sz∧h0.n≤b∧o=0∧c=sz∧ ∀gb n c,v= .slc gb 0 n c→b≠gb) (k0:K0 h0 h)
  (ht:TSub (tms [(58,some (.slc N 0 1 1)),(56,some v),(8,some (AI ((i:Nat):Int))),(2,some (AI ((n:Nat):Int))),(1,some sv),(0,some (AI ((sz:Nat):Int)))]) (tms lq))
  (G: ∀v' h' l',GrR h' h0.n v' sz (l++ [(s,w)]) δ→K0 h0 h'→TSub (tms [(8,some (AI ((i+1:Nat):Int))),(7,some v'),(2,some (AI ((n:Nat):Int))),(1,some sv),(0,some (AI ((sz:Nat):Int)))]) (tms l')→
   Good P0 E Q ⟨⟨37,cf37.ntmps,tms l',.inLoop c37_30::k,[],.run,false,none⟩,cs,h'⟩):
  Good P0 E Q ⟨⟨37,cf37.ntmps,tms lq,.ops [Cj 59 (.append 2 32 (.t 56) (.t 58)),Cv 7 59]:: .inBlock 1:: .code c37_28:: .inLoop c37_30::k,[],.run,false,none⟩,cs,hp h.n h.t []⟩:=by
 refine En L ht ?_
 have n0:=k0.n
 have lN:=kN.lt
 have hpl:Ar [AI s,gwV sz w]=true:=by cases w <;> rfl
 rcases q1.ex with⟨rfl,rfl⟩|⟨h1,gb,rfl,h3,h4,h5⟩
 ·have:i=0:=by simpa using hl.symm
  subst this
  (apply st1 L rfl;exact Ft (new:= [AI s,gwV sz w]) rfl rfl (SlR.of (c:= [AI s,gwV sz w]) lkp (Nat.le_refl _) rfl) (by omega) (by omega);rfl)
  refine wk ?_
  have kk:K0 h (hp (h.n+1) h.t [(h.n,some (cl [AI s,gwV sz w]))]):=kps
  refine G _ _ _ (GrR.app (N:=h.n) (n:=0) (l:= []) lkp (by omega) rfl (fun i s b o c e=>by simp at e) fun s' b o c e=>?_) kps tsb
  cases e
  obtain⟨g1,g2,g3,g4,g5,g6⟩:=hw b o c rfl
  have:=g1.lt_n
  exact⟨g1.k0 kk,g2,g3,g4,g5,by omega⟩
 ·have l3:=h3.lt
  have hgN:=hne gb _ _ rfl
  rw [hl]at h1
  subst hl
  (apply st1 L rfl;exact Fi (old:=l.flatMap (gwC sz)) (new:= [AI s,gwV sz w]) rfl rfl (SlR.of (c:=l.flatMap (gwC sz)) lkp (by rw [Qp];omega) (by rw [List.drop_zero,List.take_of_length_le (by rw [Qp];omega)])) (SlR.of (c:= [AI s,gwV sz w]) lkp (Nat.le_refl _) rfl) (by omega) (by omega) hpl;rfl)
  refine wk ?_
  have kk:Kp (fun j=>j=gb) h (hp (h.n+1) h.t [(h.n,some (cl (l.flatMap (gwC sz)++ [AI s,gwV sz w]))),(gb,none)]):=kps
  refine G _ _ _ (GrR.app (N:=h.n) (x:=(s,w)) lkp (by omega) rfl (fun j s b o c e=>?_) fun s' b o c e=>?_) kps tsb
  ·obtain⟨g1,g2,g3,g4,g5,g6⟩:=h5 j s b o c e
   have:=g1.lt_n
   exact⟨Rj kk g6 g1,g2,g3,g4,g5,by omega⟩
  ·cases e
   obtain⟨g1,g2,g3,g4,g5,g6⟩:=hw b o c rfl
   have:=g1.lt_n
   exact⟨Rj kk (g6 _ _ _ rfl) g1,g2,g3,g4,g5,by omega⟩
omit L X in
theorem GrR.upd {h:H}{lo sz D:Nat}{v:AV}{l:List GW}{δ: Nat→List Nat}{bs:List Nat}(q:GrR h lo v sz l δ)(hD:h.n≤D):GrR h lo v sz l (upd δ D bs):=by
 rcases q.ex with h1|⟨h1,gb,h2,h3,h4,h5⟩
 ·exact⟨.inl h1⟩
 ·refine⟨.inr ⟨h1,gb,h2,h3,h4,fun i s b o c e=>?_⟩⟩
  obtain⟨g1,g2⟩:=h5 i s b o c e
  have:=g1.lt_n
  rw [upd_ne _ _ (by omega)]
  exact⟨g1,g2⟩
theorem Ts {sv:AV}{n sz i N D:Nat}{s:Int}{v:AV}{l:List GW}{δ: Nat→List Nat}{h0 h2 h:H}{bs0:List Nat}{Q:Nat→AV→Prop}{cs:List AFr}{k:List AItem}{lq:List (Nat×Option AV)}(hi:i<6)(hn:n<100000)
  (q1:GrR h2 h0.n v sz l δ) (k2:K0 h2 h) (hl:l.length=i) (kN:Bk h N [AI s,.slc D 0 sz sz]) (hN:h2.n≤N) (hDN:D≠N) (kD:Bk h D (Bm bs0)) (hD:h2.n≤D) (hb:bs0.length=sz) (ha:AllB bs0) (hsz:sz<1000) (k0:K0 h0 h)
  (hvb: ∀gb n c,v= .slc gb 0 n c→gb<h2.n) (k02:K0 h0 h2)
  (ht:TSub (tms [(10,some (AI ((0:Nat):Int))),(9,some (.ptr N 0)),(8,some (AI ((i:Nat):Int))),(7,some v),(2,some (AI ((n:Nat):Int))),(1,some sv),(0,some (AI ((sz:Nat):Int)))]) (tms lq))
  (G: ∀δ' w v' h' l',GrR h' h0.n v' sz (l++ [(s,w)]) δ'→K0 h0 h'→TSub (tms [(8,some (AI ((i+1:Nat):Int))),(7,some v'),(2,some (AI ((n:Nat):Int))),(1,some sv),(0,some (AI ((sz:Nat):Int)))]) (tms l')→
   Good P0 E Q ⟨⟨37,cf37.ntmps,tms l',.inLoop c37_30::k,[],.run,false,none⟩,cs,h'⟩):
  Good P0 E Q ⟨⟨37,cf37.ntmps,tms lq,.code c37_18:: .inBlock 2:: .code c37_24:: .inBlock 1:: .code c37_28:: .inLoop c37_30::k,[],.run,false,none⟩,cs,hp h.n h.t []⟩:=by
 have n0:=k0.n
 have n02:=k02.n
 have n2:=k2.n
 refine Co L (α:= List Nat) (T:=fun j _=> [(10,some (AI ((j:Nat):Int))),(9,some (.ptr N 0)),(8,some (AI ((i:Nat):Int))),(7,some v),(2,some (AI ((n:Nat):Int))),(1,some sv),(0,some (AI ((sz:Nat):Int)))]) (n:=sz)
  (R:=fun j bs hh=>Bk hh D (Bm bs)∧bs.length=sz∧AllB bs∧Kp (fun j=>j=D) h hh) (i0:=0) bs0 ht ⟨kD,hb,ha,Kp.refl _⟩ (Nat.zero_le _) ?_ ?_
 ·rintro j bs hh hj ⟨r1,r2,r3,r4⟩ ih
  have r5:Bk hh N [AI s,.slc D 0 sz sz]:=As r4 (by omega) kN
  have l1:=r1.lt
  have l5:=r5.lt
  refine wk ?_
  (apply st1 L rfl;exact Rh rfl rfl;rfl)
  refine wk ?_
  (apply oc L rfl rfl rfl rfl rfl;exact lkp;(rw [Fo];omega);rfl)
  refine wk ?_
  refine ih (bs.set j ((n+7*i+3*j) % pw .u8)) _ _ ⟨?_,by rw [List.length_set];exact r2,r3.set (Nat.mod_lt _ (by decide)),kps⟩ tsb
  rw [←Zl]
  exact lkp
 ·rintro bs hh ⟨r1,r2,r3,r4⟩
  have r5:Bk hh N [AI s,.slc D 0 sz sz]:=As r4 (by omega) kN
  have l1:=r1.lt
  have l5:=r5.lt
  refine wk ?_
  have kk:K0 h2 hh:=⟨Nat.le_trans n2 r4.n,fun b hb _=>(r4.old b (by omega) (by omega)).trans (k2.old b hb id)⟩
  have n4:=r4.n
  have ke:K0 hh (hp (hh.n+1) hh.t [(hh.n,some (cl [AI s,.slc D 0 sz sz]))]):=kps
  refine O2 L X (δ:= upd δ D bs) (w:=some (D,0,sz)) (N:=hh.n) (h:=hp (hh.n+1) hh.t [(hh.n,some (cl [AI s,.slc D 0 sz sz]))]) hi (((q1.upd hD).k0 kk).k0 ke) hl (by exact lkp) (by omega) (fun gb n c e=>by have:=hvb gb n c e;omega) (fun b o c e=>?_) ⟨by simp only [Al];omega,fun b hb _=>(ke.old b (by omega) id).trans ((kk.old b (by omega) id).trans (k02.old b hb id))⟩ ?_ (fun v' h' l' g1 g2 g3=>G _ _ v' h' l' g1 g2 g3)
  ·cases e
   rw [upd_eq]
   exact⟨(Ke r1 r3).k0 ke,r2,by omega,rfl,rfl,fun gb n c e=>by have:=hvb gb n c e;omega⟩
  ·exact tsb
omit L X in
theorem GrR.vlt {h:H}{lo sz:Nat}{v:AV}{l:List GW}{δ: Nat→List Nat}(q:GrR h lo v sz l δ): ∀gb n c,v= .slc gb 0 n c→gb<h.n:=by
 rintro gb n c rfl
 rcases q.ex with⟨_,e⟩|⟨_,gb',e,h3,_⟩
 ·cases e
 ·cases e;exact h3.lt
theorem Zm {κ: Nat→Nat}{sv:AV}{secs:List Int}{n sz:Nat}(q:IntsR κ h sv secs)(hsz:12≤sz∧sz≤30)(hl:secs.length≤6)(hn:n<100000):
  Ct P0 E F K 37 [AI ((sz:Nat):Int),sv,AI ((n:Nat):Int)] h fun v h'=> ∃l δ,GrR h' h.n v sz l δ∧l.map (·.1)=secs∧K0 h h':=by
 rcases q.ex with⟨rfl,rfl⟩|⟨rfl,a,rfl⟩|⟨b,cap,rfl,hb,-⟩
 ·refine B3 L X.f37 X.k37 rfl rfl fun Q x cs G=>?_
  refine wk ?_
  refine A9 L ?_
  refine wk ?_
  refine ret X.f37 ?_
  exact⟨[],fun _=> [],⟨.inl ⟨rfl,rfl⟩⟩,rfl,kps⟩
 ·refine B3 L X.f37 X.k37 rfl rfl fun Q x cs G=>?_
  refine wk ?_
  refine A9 L ?_
  refine wk ?_
  refine ret X.f37 ?_
  exact⟨[],fun _=> [],⟨.inl ⟨rfl,rfl⟩⟩,rfl,kps⟩
 ·have lb:=hb.lt
  refine B3 L X.f37 X.k37 rfl rfl fun Q x cs G=>?_
  refine wk ?_
  refine Co L (α:= List GW×(Nat→List Nat)×AV) (T:=fun i a=> [(8,some (AI ((i:Nat):Int))),(7,some a.2.2),(2,some (AI ((n:Nat):Int))),(1,some (.slc b 0 secs.length cap)),(0,some (AI ((sz:Nat):Int)))]) (n:=secs.length)
   (R:=fun i a h2=>GrR h2 h.n a.2.2 sz a.1 a.2.1∧a.1.map (·.1)=secs.take i∧K0 h h2) (i0:=0) ([],fun _=> [],.nils) tsb ⟨⟨.inl ⟨rfl,rfl⟩⟩,rfl,kps⟩ (Nat.zero_le _) ?_ ?_
  ·rintro i ⟨l,δ,v⟩ h2 hi ⟨q1,q2,k2⟩ ih
   simp only at q1 q2
   have n2:=k2.n
   have hk:=Sw k2 hb
   have hvb:=q1.vlt
   have hpv:A5 v=some [v]∧Dq v=true:=by rcases q1.ex with⟨_,rfl⟩|⟨_,gb,rfl,_⟩ <;> exact⟨rfl,rfl⟩
   have hlen:l.length=i:=by have:=congrArg List.length q2;rw [List.length_map,List.length_take]at this;omega
   have hx:(secs.map eI)[i]?=some (eI secs[i]):=by rw [List.getElem?_map,List.getElem?_eq_getElem hi];rfl
   have hnx:secs.take (i+1)=secs.take i++ [secs[i]]:=by rw [List.take_add_one,List.getElem?_eq_getElem hi];rfl
   generalize secs[i]=s at*
   (try refine B6 L 1000 rfl ?_);(repeat(first|(apply st1 L rfl;exact⟨P9 rfl⟩;rfl)|(apply st1 L rfl;exact Wm rfl rfl rfl;rfl)|(apply st1 L rfl;exact Rf rfl rfl (by omega);rfl)|(apply st1 L rfl;exact Iv rfl rfl (by omega);rfl)|(apply st1 L rfl;exact Kb rfl rfl (by omega);rfl)))
   (apply st1 L rfl;exact F2 rfl lkr hx;rfl)
   refine wk ?_
   have fin: ∀δ' w v' h' l',GrR h' h.n v' sz (l++ [(s,w)]) δ'→K0 h h'→TSub (tms [(8,some (AI ((i+1:Nat):Int))),(7,some v'),(2,some (AI ((n:Nat):Int))),(1,some (.slc b 0 secs.length cap)),(0,some (AI ((sz:Nat):Int)))]) (tms l')→_:=
    fun δ' w v' h' l' g1 g2 g3=>ih (l++ [(s,w)],δ',v') h' l' ⟨g1,by rw [List.map_append,q2,hnx];rfl,g2⟩ g3
   have fill: ∀lq,TSub (tms [(10,some (AI ((0:Nat):Int))),(9,some (.ptr h2.n 0)),(8,some (AI ((i:Nat):Int))),(7,some v),(2,some (AI ((n:Nat):Int))),(1,some (.slc b 0 secs.length cap)),(0,some (AI ((sz:Nat):Int)))]) (tms lq)→
     Good P0 E Q ⟨⟨37,cf37.ntmps,tms lq,[.code c37_18,.inBlock 2,.code c37_24,.inBlock 1,.code c37_28,.inLoop c37_30,.inBlock 0,.code c37_35],[],.run,false,none⟩,x::cs,hp (h2.n+1+1) h2.t [(h2.n,some (cl [AI s,.slc (h2.n+1) 0 sz sz])),(h2.n+1,some (cl (rl [.int .u8 ((0:Nat):Int)] sz))),(h2.n,some (cl [AI s,.nils])),(h2.n,some (cl [AI ((0:Nat):Int),.nils]))]⟩:=by
    intro lq ht
    refine Ts L X (δ:= δ) (h2:=h2) (h:=hp (h2.n+1+1) h2.t [(h2.n,some (cl [AI s,.slc (h2.n+1) 0 sz sz])),(h2.n+1,some (cl (rl [.int .u8 ((0:Nat):Int)] sz))),(h2.n,some (cl [AI s,.nils])),(h2.n,some (cl [AI ((0:Nat):Int),.nils]))]) (N:=h2.n) (D:=h2.n+1) (bs0:=List.replicate sz 0) (by omega) hn q1 kps hlen (by exact lkp) (by omega) (by omega) (by rw [←D9];exact lkp) (by omega) List.length_replicate (AllB.rep (by omega)) (by omega) (by exact kps) hvb k2 ht fin
   by_cases h2':i % 2=0
   ·refine wk ?_
    rw [Nat.zero_max]
    refine fill _ ?_
    exact tsb
   ·refine wk ?_
    (apply st1 L rfl;exact F2 rfl lkr hx;rfl)
    (apply st1 L rfl;exact vx (d:=5) rfl rfl (by omega);rfl)
    by_cases h5:Int.tmod s ((5:Nat):Int)=((0:Nat):Int)
    ·(apply st1 L rfl;exact ep rfl rfl (by first|exact h5|exact fun e=>e h5);rfl)
     refine wk ?_
     refine O2 L X (δ:= δ) (w:=none) (N:=h2.n+1) (h:=hp (h2.n+1+1) h2.t [(h2.n+1,some (cl [AI s,.nils])),(h2.n,some (cl [AI s,.nils])),(h2.n,some (cl [AI ((0:Nat):Int),.nils]))]) (by omega) (q1.k0 (by exact kps)) hlen (by exact lkp) (by omega) (fun gb n c e=>by have:=hvb gb n c e;omega) (fun b o c e=>by cases e) (by exact kps) ?_ (fun v' h' l' g1 g2 g3=>fin δ none v' h' l' g1 g2 g3)
     exact tsb
    ·(apply st1 L rfl;exact eg rfl rfl (by first|exact h5|exact fun e=>e h5);rfl)
     refine wk ?_
     rw [Nat.zero_max]
     refine fill _ ?_
     exact tsb
  ·rintro⟨l,δ,v⟩ h2 ⟨q1,q2,k2⟩
   simp only at q1 q2
   refine wk ?_
   refine ret X.f37 ?_
   exact⟨l,δ,q1,by rw [q2,List.take_length],by exact k2⟩
end
end
section
variable {P0:Program}{E:Env}{F:T CFn}{K:T (List AV×AV)}(L:Lg P0 E F K)(X:Fx F K)
include L X
omit L X in
theorem Xa {l:List GW}{sz i:Nat}{x:GW}(hx:l[i]?=some x):(l.flatMap (gwC sz))[i*2+0]?=some (AI x.1)∧(l.flatMap (gwC sz))[i*2+1]?=some (gwV sz x.2):=by
 refine⟨?_,?_⟩
 ·rw [Cw l (I1 l) i 0 x hx (by omega)];rfl
 ·rw [Cw l (I1 l) i 1 x hx (by omega)];rfl
section
variable {h:H}
theorem Zn {U:Nat→Prop}{lo' sz:Nat}{dv v:AV}{Z:List (List Nat)}{l:List GW}{δ: Nat→List Nat}(q:DkR h U dv sz Z)(hL:0<Z.length∧Z.length≤10)(g:GrR h lo' v sz l δ)(hl:l.length≤6)(hsz:12≤sz∧sz≤30):
  Ct P0 E F K 38 [.agg [AI ((sz:Nat):Int),dv],v] h fun u h'=>u=AI ((De Z.length false (l.map (·.1)):Nat):Int)∧K0 h h':=by
 rcases q.ex with⟨rfl,rfl⟩|⟨-,lb,rows,rfl,-⟩
 ·exact absurd hL.1 (Nat.lt_irrefl _)
 rcases g.ex with⟨rfl,rfl⟩|⟨h1,gb,rfl,kb,h4,h5⟩
 ·refine Ae L X.f38 X.k38 rfl rfl fun Q x cs G=>?_
  refine wk ?_
  refine ret X.f38 ?_
  exact⟨rfl,kps⟩
 ·have lgb:=kb.lt
  refine Ae L X.f38 X.k38 rfl rfl fun Q x cs G=>?_
  refine wk ?_
  refine Co L (α:= Unit) (T:=fun i _=> [(5,some (AI ((i:Nat):Int))),(2,some (.ptr h.n 0)),(1,some (.slc gb 0 l.length (Aa+2)))]) (n:=l.length)
   (R:=fun i _ h2=>((l.map (·.1)).take i).Nodup∧Bk h2 h.n [AI ((sz:Nat):Int),.slc lb 0 Z.length (Aa+1)]∧K0 h h2) (i0:=0) () tsb ⟨by simp,lkp,kps⟩ (Nat.zero_le _) ?_ ?_
  ·rintro i _ h2 hi ⟨r1,r2,r3⟩ ih
   have hx:l[i]?=some l[i]:=List.getElem?_eq_getElem hi
   obtain⟨x1,x2⟩:=Xa (sz:=sz) hx
   have htk:(l.map (·.1)).take (i+1)=(l.map (·.1)).take i++ [l[i].1]:=by
    rw [List.take_add_one,List.getElem?_map,hx];rfl
   generalize hxe:l[i]=xx at*
   obtain⟨s,w⟩:=xx
   simp only at x1 x2 htk
   have lr:=r2.lt
   have kb2:=Ah r3 kb
   have rest: ∀lq,TSub (tms [(6,some (AI ((0:Nat):Int))),(5,some (AI ((i:Nat):Int))),(2,some (.ptr h.n 0)),(1,some (.slc gb 0 l.length (Aa+2)))]) (tms lq)→
     Good P0 E Q ⟨⟨38,cf38.ntmps,tms lq,[.code c38_28,.inBlock 2,.inBlock 1,.code c38_33,.inLoop c38_35,.inBlock 0,.code c38_57],[],.run,false,none⟩,x::cs,hp h2.n h2.t []⟩:=by
    intro lq ht
    refine Co L (α:= Unit) (T:=fun j _=> [(6,some (AI ((j:Nat):Int))),(5,some (AI ((i:Nat):Int))),(2,some (.ptr h.n 0)),(1,some (.slc gb 0 l.length (Aa+2)))]) (n:=i)
     (R:=fun j _ h3=>s∉(l.map (·.1)).take j∧K0 h2 h3) (i0:=0) () ht ⟨by simp,Kp.refl _⟩ (Nat.zero_le _) ?_ ?_
    ·rintro j _ h3 hj ⟨t1,t2⟩ ih2
     have hy:l[j]?=some l[j]:=List.getElem?_eq_getElem (by omega)
     obtain⟨y1,y2⟩:=Xa (sz:=sz) hy
     have htj:(l.map (·.1)).take (j+1)=(l.map (·.1)).take j++ [l[j].1]:=by
      rw [List.take_add_one,List.getElem?_map,hy];rfl
     have hin:l[j].1∈(l.map (·.1)).take i:=by
      rw [List.mem_take_iff_getElem]
      exact⟨j,by rw [List.length_map];omega,by rw [List.getElem_map]⟩
     generalize hye:l[j]=yy at*
     obtain⟨s',w'⟩:=yy
     simp only at y1 y2 htj hin
     have kb3:=Ah t2 kb2
     by_cases e:s'=s
     ·subst e
      refine wk ?_
      refine ret X.f38 ?_
      refine⟨?_,by exact Kp.tr0 (by exact kps) r3⟩
      have nn: ¬(l.map (·.1)).Nodup:=fun nn=>by
       have h1:=nn.sublist (List.take_sublist (i+1) _)
       rw [htk,List.nodup_append]at h1
       exact h1.2.2 s' hin s' (List.mem_singleton_self _) rfl
      unfold De
      rw [if_pos (.inr nn)];rfl
     ·refine wk ?_
      refine ih2 () _ _ ⟨?_,by exact kps⟩ tsb
      rw [htj];simp [t1,Ne.symm e]
    ·rintro _ h3 ⟨t1,t2⟩
     refine wk ?_
     refine ih () _ _ ⟨?_,?_,?_⟩ tsb
     ·rw [htk];exact Jp r1 t1
     ·exact Ah t2 r2
     ·exact Kp.tr0 t2 r3
   cases w with
   |none=>
    simp only [gwV]at x2
    refine wk ?_
    refine rest _ ?_
    exact tsb
   |some w=>
    simp only [gwV]at x2
    refine wk ?_
    refine rest _ ?_
    exact tsb
  ·rintro _ h2 ⟨r1,r2,r3⟩
   rw [show l.length=(l.map (·.1)).length from(List.length_map _).symm,List.take_length]at r1
   refine wk ?_
   refine Co L (α:= Unit) (T:=fun i _=> [(7,some (AI ((i:Nat):Int))),(2,some (.ptr h.n 0)),(1,some (.slc gb 0 l.length (Aa+2)))]) (n:=l.length)
    (R:=fun i _ h3=>(∀s∈(l.map (·.1)).take i,0≤s∧s<((Z.length:Nat):Int))∧K0 h2 h3) (i0:=0) () tsb ⟨by simp,Kp.refl _⟩ (Nat.zero_le _) ?_ ?_
   ·rintro i _ h3 hi ⟨t1,t2⟩ ih
    have hx:l[i]?=some l[i]:=List.getElem?_eq_getElem hi
    obtain⟨x1,x2⟩:=Xa (sz:=sz) hx
    have htk:(l.map (·.1)).take (i+1)=(l.map (·.1)).take i++ [l[i].1]:=by
     rw [List.take_add_one,List.getElem?_map,hx];rfl
    have hin:l[i].1∈l.map (·.1):=List.mem_map.2 ⟨l[i],List.getElem_mem hi,rfl⟩
    generalize hxe:l[i]=xx at*
    obtain⟨s,w⟩:=xx
    simp only at x1 x2 htk hin
    have r2':=Ah t2 r2
    have kb3:=Ah t2 (Ah r3 kb)
    have bad: ¬(0≤s∧s<((Z.length:Nat):Int))→De Z.length false (l.map (·.1))=3:=fun hb=>by
     unfold De
     rw [if_neg (by
                         rintro(e|e);· rw [e]at hin;cases hin
                         · exact e r1),if_pos ⟨s,hin,by omega⟩]
    by_cases c1:s<0
    ·refine wk ?_
     refine ret X.f38 ?_
     exact⟨by rw [bad (by omega)];rfl,Kp.tr0 (by exact kps) r3⟩
    ·by_cases c2:s<((Z.length:Nat):Int)
     ·refine wk ?_
      refine ih () _ _ ⟨?_,by exact kps⟩ tsb
      rw [htk]
      intro s' hs'
      rcases List.mem_append.1 hs' with h|h
      ·exact t1 s' h
      ·rw [List.mem_singleton]at h;subst h;omega
     ·refine wk ?_
      refine ret X.f38 ?_
      exact⟨by rw [bad (by omega)];rfl,Kp.tr0 (by exact kps) r3⟩
   ·rintro _ h3 ⟨t1,t2⟩
    rw [show l.length=(l.map (·.1)).length from(List.length_map _).symm,List.take_length]at t1
    refine wk ?_
    refine ret X.f38 ?_
    refine⟨?_,Kp.tr0 (by exact kps) r3⟩
    unfold De
    rw [if_neg (by
                       rintro(e|e);· have:=congrArg List.length e;rw [List.length_map]at this;simp only [List.length_nil]at this;omega
                       · exact e r1),if_neg (by rintro⟨s,hs,h⟩;have:=t1 s hs;omega),if_neg (by simp)]
    rfl
end
end
section
variable {P0:Program}{E:Env}{F:T CFn}{K:T (List AV×AV)}(L:Lg P0 E F K)(X:Fx F K)
include L X
omit L X in
theorem jo {c:List AV}{o:Nat}(h:o≤c.length):Eu [] c o=c:=by
 apply List.ext_getElem?
 intro i
 rw [Ef [] c o i (by simpa using h),if_neg (by simp only [List.length_nil];omega)]
omit L X in
theorem Zo {xs c:List AV}(h:xs.length=c.length):Eu xs c 0=xs:=by
 apply List.ext_getElem?
 intro i
 rw [Ef xs c 0 i (by omega)]
 by_cases hi:i<xs.length
 ·rw [if_pos ⟨Nat.zero_le _,by omega⟩];rfl
 ·rw [if_neg (by omega),List.getElem?_eq_none (by omega),List.getElem?_eq_none (by omega)]
section
variable {Q:Nat→AV→Prop}
variable {fn nt:Nat}{l l':List (Nat×Option AV)}{k td':List AItem}{ds:List ADef}{dfd:Bool}{ro:Option Nat}{cs:List AFr}{gd:Option (Nat×Bool)}{r:List CI}
variable {n b o:Nat}{t:T Blk}{lh:List (Nat×Option Blk)}{x y:O}{c:List AV}
theorem jp {d size dn dcap:Nat}(hg:gdO gd l=some true)(e:evO l x=some (.slc b o dn dcap))(e1:evO l y=some .nils)(hb:Bk (hp n t lh) b c)(ho:o≤c.length)
  (ha:adv 1000 (.ops r::k) ((d,some (.int .i64 ((0:Nat):Int)))::l)=(td',l')) (g:Good P0 E Q ⟨⟨fn,nt,tms l',td',ds,.run,dfd,ro⟩,cs,hp n t ((b,some (cl c))::lh)⟩):
  Good P0 E Q ⟨⟨fn,nt,tms l,.ops (⟨some d,gd,.copy size x y⟩::r)::k,ds,.run,dfd,ro⟩,cs,hp n t lh⟩:=by
 obtain⟨h',q1,q2⟩:=J8 (n:=n) (t:=t) (lh:=lh) (lv:= []) rfl hb.e (by simpa using ho) (jo ho)
 have hx:exec (.copy size x y) (hp n t lh) (tms l)= .val (.int .i64 ((0:Nat):Int)) h':=by
  have hm:I9 0 dn=0:=by rw [Jw];exact Nat.zero_min _
  have hce:cellsOf size 0 (hp n t lh) .nils=some []:=by cases size <;> rfl
  simp only [exec,Ad,Ab e,Ab e1,lenV,hm,hce,q1]
  rfl
 exact J5 L (Av hg) hx (O9 L q2 (B6 L 1000 ha g))
end
def apW (sz:Nat)(δ: Nat→List Nat)(Z:List (List Nat))(l:List GW):List (List Nat):=l.foldl (fun Z x=>Z.set x.1.toNat ((x.2.map fun q=>δ q.1).getD (List.replicate sz 0))) Z
omit L X in
theorem I4 {sz:Nat}{δ: Nat→List Nat}: ∀(l:List GW) (Z:List (List Nat)),(apW sz δ Z l).length=Z.length
 | [],Z=>rfl
 |x::r,Z=>by show(apW sz δ (Z.set _ _) r).length=_;rw [I4 r,List.length_set]
omit L X in
theorem jq {sz:Nat}{δ: Nat→List Nat}{l:List GW}{x:GW}{Z:List (List Nat)}:apW sz δ Z (l++ [x])=(apW sz δ Z l).set x.1.toNat ((x.2.map fun q=>δ q.1).getD (List.replicate sz 0)):=by unfold apW;rw [List.foldl_append];rfl
structure DkS (h:H)(U:Nat→Prop)(lb sz:Nat)(Z:List (List Nat))(rows:List Nat):Prop where
 k:Bk h lb (rows.map fun b=>AV.slc b 0 sz sz)
 len:rows.length=Z.length
 r: ∀(i b:Nat) (d:List Nat),rows[i]?=some b→Z[i]?=some d→BS h b 0 d∧d.length=sz∧U b∧b≠lb
omit L X in
theorem DkS.dk {h:H}{U V:Nat→Prop}{lb sz:Nat}{Z:List (List Nat)}{rows:List Nat}(q:DkS h U lb sz Z rows)(hz:0<Z.length)(hl:V lb)(hu: ∀b,U b→V b):DkR h V (.slc lb 0 Z.length (Aa+1)) sz Z:=
 ⟨.inr ⟨hz,lb,rows,rfl,q.k,hl,q.len,fun i b d e1 e2=>let⟨g1,g2,g3,g4⟩:=q.r i b d e1 e2;⟨g1,g2,hu b g3,g4⟩⟩⟩
omit L X in
theorem DkS.kp {h h':H}{U B:Nat→Prop}{lb sz:Nat}{Z:List (List Nat)}{rows:List Nat}(q:DkS h U lb sz Z rows)(k:Kp B h h')(h1: ¬B lb)(hu: ∀b,U b→ ¬B b):DkS h' U lb sz Z rows:=
 ⟨As k h1 q.k,q.len,fun i b d e1 e2=>let⟨g1,g2,g3,g4⟩:=q.r i b d e1 e2;⟨Rj k (hu b g3) g1,g2,g3,g4⟩⟩
omit L X in
theorem DkS.set {h h':H}{U:Nat→Prop}{lb sz N j:Nat}{Z:List (List Nat)}{rows:List Nat}{d:List Nat}(q:DkS h U lb sz Z rows)(hk:Bk h' lb ((rows.map fun b=>AV.slc b 0 sz sz).set j (.slc N 0 sz sz)))(k:Kp (fun i=>i=lb) h h')(hd:BS h' N 0 d)(hl:d.length=sz)(hN:U N∧N≠lb):DkS h' U lb sz (Z.set j d) (rows.set j N):=by
 refine⟨by rw [List.map_set];exact hk,by rw [List.length_set,List.length_set,q.len],fun i b d' e1 e2=>?_⟩
 rw [List.getElem?_set]at e1 e2
 by_cases e:j=i
 ·rw [if_pos e]at e1 e2
  split at e1
  ·cases e1
   split at e2
   ·cases e2;exact⟨hd,hl,hN⟩
   ·cases e2
  ·cases e1
 ·rw [if_neg e]at e1 e2
  obtain⟨g1,g2,g3,g4⟩:=q.r i b d' e1 e2
  exact⟨Rj k g4 g1,g2,g3,g4⟩
section
variable {h:H}
theorem Zp {V:Nat→Prop}{lo sz:Nat}{dv v:AV}{Z:List (List Nat)}{l:List GW}{δ: Nat→List Nat}(q:DkR h V dv sz Z)(hlo: ∀b,h.n≤b→V b)(hL:0<Z.length∧Z.length≤10)(g:GrR h lo v sz l δ)(hl:l.length≤6)(hsz:12≤sz∧sz≤30)(hr: ∀x∈l,0≤x.1∧x.1<((Z.length:Nat):Int)):
  Ct P0 E F K 39 [.agg [AI ((sz:Nat):Int),dv],v] h fun u h'=> ∃dv',u= .agg [AI ((sz:Nat):Int),dv']∧DkR h' V dv' sz (apW sz δ Z l)∧K0 h h':=by
 rcases q.ex with⟨rfl,rfl⟩|⟨-,lb,rows,rfl,q1,q2,q3,q4⟩
 ·exact absurd hL.1 (Nat.lt_irrefl _)
 have l1:=q1.lt
 refine Ae L X.f39 X.k39 rfl rfl fun Q x cs G=>?_
 refine wk ?_
 (apply st1 L rfl;exact uy (new:=rows.map fun b=>AV.slc b 0 sz sz) rfl rfl (SlR.of (c:=rows.map fun b=>AV.slc b 0 sz sz) lkp (by rw [I2];omega) (by rw [List.drop_zero,List.take_of_length_le (by rw [I2];omega)])) (by omega) (by omega);rfl)
 refine wk ?_
 have kk:K0 h (hp (h.n+1+1+1+1) h.t [(h.n,some (cl [AI ((sz:Nat):Int),.slc (h.n+1+1+1) 0 Z.length (Aa+1)])),(h.n+1+1+1,some (cl (rows.map fun b=>AV.slc b 0 sz sz))),(h.n+1+1,some (cl [])),(h.n+1,some (cl [AI ((0:Nat):Int),.nils])),(h.n,some (cl [AI ((sz:Nat):Int),.slc lb 0 Z.length (Aa+1)]))]):=kps
 have n9:=kk.n
 have S0:DkS (hp (h.n+1+1+1+1) h.t [(h.n,some (cl [AI ((sz:Nat):Int),.slc (h.n+1+1+1) 0 Z.length (Aa+1)])),(h.n+1+1+1,some (cl (rows.map fun b=>AV.slc b 0 sz sz))),(h.n+1+1,some (cl [])),(h.n+1,some (cl [AI ((0:Nat):Int),.nils])),(h.n,some (cl [AI ((sz:Nat):Int),.slc lb 0 Z.length (Aa+1)]))]) (fun b=>V b∧b≠h.n∧b≠h.n+1) (h.n+1+1+1) sz Z rows:=
  ⟨lkp,q3,fun i b d e1 e2=>let⟨g1,g2,g3,_⟩:=q4 i b d e1 e2;⟨g1.k0 kk,g2,⟨g3,by have:=g1.lt_n;omega,by have:=g1.lt_n;omega⟩,by have:=g1.lt_n;omega⟩⟩
 rcases g.ex with⟨rfl,rfl⟩|⟨h1,gb,rfl,kb,h4,h5⟩
 ·refine A9 L ?_
  refine wk ?_
  refine ret X.f39 ?_
  refine⟨_,rfl,(S0.kp (B:=fun j=>j=h.n+1) ?_ (by omega) fun b e=>by omega).dk hL.1 (hlo _ (by omega)) fun b e=>e.1,kps⟩
  exact kps
 ·have lgb:=kb.lt
  refine Co L (α:= List Nat) (T:=fun i _=> [(5,some (AI ((i:Nat):Int))),(4,some (.ptr (h.n+1) 0)),(2,some (.ptr h.n 0)),(1,some (.slc gb 0 l.length (Aa+2)))]) (n:=l.length)
   (R:=fun i rz h2=>DkS h2 (fun b=>V b∧b≠h.n∧b≠h.n+1) (h.n+1+1+1) sz (apW sz δ Z (l.take i)) rz∧Bk h2 h.n [AI ((sz:Nat):Int),.slc (h.n+1+1+1) 0 Z.length (Aa+1)]∧Bk h2 (h.n+1) [AI ((0:Nat):Int),.nils]∧K0 h h2) (i0:=0) rows tsb ⟨S0,lkp,lkp,kps⟩ (Nat.zero_le _) ?_ ?_
  ·rintro i rz h2 hi ⟨r1,r2,r3,r4⟩ ih
   have hx:l[i]?=some l[i]:=List.getElem?_eq_getElem hi
   obtain⟨x1,x2⟩:=Xa (sz:=sz) hx
   have htk:l.take (i+1)=l.take i++ [l[i]]:=by rw [List.take_add_one,hx];rfl
   obtain⟨s1,s2⟩:=hr _ (List.getElem_mem hi)
   generalize hxe:l[i]=xx at*
   obtain⟨s,w⟩:=xx
   simp only at x1 x2 s1 s2
   obtain⟨j,rfl⟩:=Int.eq_ofNat_of_zero_le s1
   have lr2:=r2.lt
   have lr3:=r3.lt
   have lk1:=r1.k.lt
   have n4:=r4.n
   have kb2:=Ah r4 kb
   have r1k:=r1.k
   have hap:apW sz δ Z (l.take (i+1))=(apW sz δ Z (l.take i)).set j ((w.map fun q=>δ q.1).getD (List.replicate sz 0)):=by rw [htk,jq];rfl
   have hln:=r1.len
   rw [I4]at hln
   cases w with
   |none=>
    simp only [gwV]at x2
    refine wk ?_
    refine jp L X (b:=h2.n) (o:=0) (c:=rl [.int .u8 ((0:Nat):Int)] sz) rfl rfl rfl (by exact lkp) (Nat.zero_le _) rfl ?_
    refine wk ?_
    (apply ff L rfl rfl rfl rfl rfl rfl;exact lkp;(rw [I2];omega);refine B6 L 1000 rfl ?_)
    refine wk ?_
    refine ih (rz.set j h2.n) _ _ ⟨?_,by exact lkp,by exact lkp,kps⟩ tsb
    rw [hap]
    refine r1.set (h:=h2) (d:=List.replicate sz 0) (by exact lkp) kps (Ke ?_ (AllB.rep (by omega))) List.length_replicate ⟨⟨hlo _ (by omega),by omega,by omega⟩,by omega⟩
    rw [←D9]
    exact lkp
   |some w=>
    obtain⟨b,o,c⟩:=w
    simp only [gwV]at x2
    obtain⟨g1,g2,g3,rfl,rfl,g6⟩:=h5 i _ b o c hx
    have lb1:=g1.lt_n
    refine wk ?_
    refine oq L (lv:=Bm (δ b)) (cs1:=Bm (δ b)) rfl rfl rfl (BS.slr (by exact lkb) g2) lkp (by omega) (D7 _) (by rw [Fo,g2,D9,Fo,List.length_replicate];omega) (by rw [Fo];omega) (Zo (by rw [Fo,g2,D9,Fo,List.length_replicate])) rfl ?_
    refine wk ?_
    (apply ff L rfl rfl rfl rfl rfl rfl;exact lkp;(rw [I2];omega);refine B6 L 1000 rfl ?_)
    refine wk ?_
    refine ih (rz.set j h2.n) _ _ ⟨?_,by exact lkp,by exact lkp,kps⟩ tsb
    rw [hap]
    refine r1.set (h:=h2) (d:=δ b) (by exact lkp) kps (Ke ?_ g1.all) g2 ⟨⟨hlo _ (by omega),by omega,by omega⟩,by omega⟩
    exact lkp
  ·rintro rz h2 ⟨r1,r2,r3,r4⟩
   rw [List.take_length]at r1
   have lr2:=r2.lt
   have lr3:=r3.lt
   refine wk ?_
   refine ret X.f39 ?_
   have fin:=DkS.dk (V:=V) (r1.kp (h':=hp h2.n h2.t [(h.n+1,some (cl [AI ((sz:Nat):Int),.slc (h.n+1+1+1) 0 Z.length (Aa+1)]))]) (B:=fun j=>j=h.n+1) kps (by omega) fun b e=>by omega) (by rw [I4];exact hL.1) (hlo _ (by omega)) fun b e=>e.1
   rw [I4]at fin
   exact⟨_,rfl,fin,kps⟩
end
end
section
variable {P0:Program}{E:Env}{F:T CFn}{K:T (List AV×AV)}(L:Lg P0 E F K)(X:Fx F K)
include L X
structure Pl (S:Ap)(k:Nat)(Z:List (List Nat)):Prop where
 inv:AInv S
 bd:Bd S k
 len:Z.length=S.S
 rd: ∀(i:Nat) (d:List Nat),Z[i]?=some d→S.rd ((i:Nat):Int)=d
section
variable {h:H}
theorem Gc {e:Int}:Ct P0 E F K 17 [AI e] h fun v h'=>v=AI e∧h'=h:=by
 refine Am L X.f17 X.k17 rfl rfl fun Q x cs G=>?_
 refine wk ?_
 refine ret X.f17 ?_
 exact⟨rfl,rfl⟩
end
section
variable {l:List (Nat×Option AV)}{h:H}{x y:O}{q:Bool}
omit L X in
theorem zn {a d:List Nat}(e:evO l x=some (.str a))(e1:evO l y=some (.str d))(hd:a=d):XV (.bin .eql x y q .pstr) h l (.bool true) h:=by
 refine⟨?_⟩
 simp only [exec,Ad,Ab e,Ab e1,Fs,Pc,Ip]
 subst hd
 simp [vo]
end
omit L X in
theorem AChg.bk {κ κ':Nat→Nat}{h h':H}{b:Nat}{c:List AV}(q:AChg κ h κ' h')(k:Bk h b c)(hc:κ b=0):Bk h' b c∧κ' b=0:=⟨As q.k (by omega) k,(q.col b k.lt).trans hc⟩
section
variable {h:H}{κ: Nat→Nat}{I:Ai}{S:Ap}
theorem Il {ab e:Nat}(r:ApR κ h I S)(ka:Bk h ab [.ptr I.s 0])(he:e=0∨e=7∧frees S=0):
  Ct P0 E F K 16 [.ptr ab 0,AI ((e:Nat):Int)] h (fun v h'=> ∃κ',v= .bool true∧ApR κ' h' I S∧AChg κ h κ' h'):=by
 rcases he with rfl|⟨rfl,hf⟩
 ·refine Ae L X.f16 X.k16 rfl rfl fun Q x cs G=>?_
  refine wk ?_
  refine cal (c:=Gc L X) (g:=?_)
  rintro _ rfl
  refine wk ?_
  refine ret X.f16 ?_
  exact⟨κ,rfl,r,AChg.refl _ _⟩
 ·refine Ae L X.f16 X.k16 rfl rfl fun Q x cs G=>?_
  refine wk ?_
  refine cal (c:=Gc L X) (g:=?_)
  rintro _ rfl
  refine wk ?_
  refine cal (c:=Nd L X r ka) (g:=?_)
  rintro _ h2 ⟨κ',rfl,r',a'⟩
  rw [hf]
  refine wk ?_
  refine ret X.f16 ?_
  exact⟨κ',rfl,r',a'⟩
theorem jt {ab b:Nat}{s:Int}{c:Nat}(r:ApR κ h I S)(ka:Bk h ab [.ptr I.s 0])(q:AInv S)(hs:0≤s∧s<S.S)(kb:BS h b 0 (S.rd s))(hb:κ b=0):
  Ct P0 E F K 34 [.ptr ab 0,AI s,.slc b 0 S.D.sz c] h (fun v h'=> ∃κ',v= .bool true∧ApR κ' h' I S∧AChg κ h κ' h'):=by
 have hl:=jh q r.dv.ok s
 refine B3 L X.f34 X.k34 rfl rfl fun Q x cs G=>?_
 refine wk ?_
 refine cal (c:=pt L X r ka hs q.dn q.off q.rdOk) (g:=?_)
 rintro _ h2 ⟨κ',b2,c2,rfl,k2,c0,-,r',a'⟩
 obtain⟨kb2,-⟩:=a'.bs kb hb
 refine wk ?_
 refine cal (c:=Gc L X) (g:=?_)
 rintro _ rfl
 refine wk ?_
 (apply st1 L rfl;exact rp rfl (by exact lkb) hl;rfl)
 (apply st1 L rfl;exact rp rfl (by exact lkb) hl;rfl)
 (apply st1 L rfl;exact zn rfl rfl rfl;rfl)
 refine wk ?_
 refine ret X.f34 ?_
 exact⟨κ',rfl,r',a'⟩
theorem Tt {ab k:Nat}{dv:AV}{Z:List (List Nat)}(r:ApR κ h I S)(ka:Bk h ab [.ptr I.s 0])(hka:κ ab=0)(p:Pl S k Z)(q:DkR h (fun b=>κ b=0) dv S.D.sz Z)(hZ:0<Z.length∧Z.length≤10):
  Ct P0 E F K 12 [.ptr ab 0,.agg [AI ((S.D.sz:Nat):Int),dv]] h (fun v h'=> ∃κ',v= .bool true∧ApR κ' h' I S∧AChg κ h κ' h'):=by
 rcases q.ex with⟨rfl,rfl⟩|⟨-,lb,rows,rfl,q1,q2,q3,q4⟩
 ·exact absurd hZ.1 (Nat.lt_irrefl _)
 have l1:=q1.lt
 have lk:=ka.lt
 have hcl:κ lb=0:=q2
 refine Ae L X.f12 X.k12 rfl rfl fun Q x cs G=>?_
 refine wk ?_
 have k1:K0 h (hp (h.n+1) h.t [(h.n,some (cl [AI ((S.D.sz:Nat):Int),.slc lb 0 Z.length (Aa+1)]))]):=kps
 refine Co L (α:= Nat→Nat) (T:=fun i _=> [(5,some (AI ((i:Nat):Int))),(3,some (.ptr h.n 0)),(0,some (.ptr ab 0))]) (n:=Z.length)
  (R:=fun i κi h2=>ApR κi h2 I S∧AChg κ h κi h2∧Bk h2 h.n [AI ((S.D.sz:Nat):Int),.slc lb 0 Z.length (Aa+1)]∧κi h.n=0) (i0:=0) (ext κ h.n) tsb ⟨r.k0 k1 fun b hb=>Af hb,AChg.k0 k1 fun b hb=>Af hb,lkp,Bs (Nat.le_refl _)⟩ (Nat.zero_le _) ?_ ?_
 ·rintro i κi h2 hi ⟨r2,a2,k2,c2⟩ ih
  have l2:=k2.lt
  obtain⟨kl,cl2⟩:=a2.bk q1 hcl
  have hx:rows[i]?=some rows[i]:=List.getElem?_eq_getElem (by omega)
  have hz:Z[i]?=some Z[i]:=List.getElem?_eq_getElem hi
  obtain⟨g1,g2,g3,g4⟩:=q4 i _ _ hx hz
  have hrd:=p.rd i _ hz
  have hrow:(rows.map fun b=>AV.slc b 0 S.D.sz S.D.sz)[i]?=some (.slc rows[i] 0 S.D.sz S.D.sz):=by rw [List.getElem?_map,hx];rfl
  generalize rows[i]=b at*
  rw [←hrd]at g1
  obtain⟨kb,cb⟩:=a2.bs g1 g3
  obtain⟨ka2,-⟩:=a2.bk ka hka
  have hlS:=p.len
  refine wk ?_
  refine cal (c:=jt L X r2 ka2 p.inv ⟨by omega,by omega⟩ kb cb) (g:=?_)
  rintro _ h3 ⟨κ3,rfl,r3,a3⟩
  obtain⟨k3,c3⟩:=a3.bk k2 c2
  refine wk ?_
  refine ih κ3 _ _ ⟨r3,a2.trans a3,k3,c3⟩ ?_
  exact tsb
 ·rintro κi h2 ⟨r2,a2,k2,c2⟩
  have hlS:=p.len
  obtain⟨ka2,cc2⟩:=a2.bk ka hka
  refine wk ?_
  refine cal (c:=Tp (s:= -1) L X r2 ka2 (by omega)) (g:=?_)
  rintro _ h3 ⟨κ3,rfl,r3,a3⟩
  obtain⟨k3,c3⟩:=a3.bk k2 c2
  obtain⟨ka3,cc3⟩:=a3.bk ka2 cc2
  refine wk ?_
  refine cal (c:=Tp L X r3 ka3 (by omega)) (g:=?_)
  rintro _ h4 ⟨κ4,rfl,r4,a4⟩
  refine wk ?_
  refine ret X.f12 ?_
  exact⟨κ4,rfl,r4,(a2.trans a3).trans a4⟩
end
end
section
variable {P0:Program}{E:Env}{F:T CFn}{K:T (List AV×AV)}(L:Lg P0 E F K)(X:Fx F K)
include L X
omit L X in
theorem AChg.fw {κ κ':Nat→Nat}{h h':H}(q:AChg κ h κ' h'):Fw κ h κ' h':=⟨q.k.n,fun b hb hc=>q.k.old b hb (by omega),q.col⟩
omit L X in
theorem AChg.b2 {κ κ':Nat→Nat}{h h':H}{b:Nat}{c:List AV}(q:AChg κ h κ' h')(k:Bk h b c)(hc:κ b=200):Bk h' b c∧κ' b=200:=⟨As q.k (by omega) k,(q.col b k.lt).trans hc⟩
omit L X in
theorem AChg.dk {κ κ':Nat→Nat}{h h':H}{sz:Nat}{v:AV}{Z:List (List Nat)}(a:AChg κ h κ' h')(q:DkR h (fun b=>κ b=0) v sz Z):DkR h' (fun b=>κ' b=0) v sz Z:=
 ((q.mono fun b hb u=>⟨hb,u⟩:DkR h (fun b=>b<h.n∧κ b=0) v sz Z).kp a.k fun b e _ u=>by omega).mono fun b _ u=>(a.col b u.1).trans u.2
omit L X in
theorem Xb {sz:Nat}{δ: Nat→List Nat}: ∀(l:List GW) (Z:List (List Nat)),(l.map (·.1)).Nodup→(∀x∈l,0≤x.1∧x.1<((Z.length:Nat):Int))→
  (∀i:Nat,((i:Nat):Int)∉l.map (·.1)→(apW sz δ Z l)[i]?=Z[i]?)∧ ∀x∈l,(apW sz δ Z l)[x.1.toNat]?=some ((x.2.map fun q=>δ q.1).getD (List.replicate sz 0))
 | [],Z,_,_=>⟨fun _ _=>rfl,fun x hx=>by cases hx⟩
 |y::r,Z,hn,hr=>by
  rw [List.map_cons,List.nodup_cons]at hn
  obtain⟨h1,h2⟩:=Xb r (Z.set y.1.toNat ((y.2.map fun q=>δ q.1).getD (List.replicate sz 0))) hn.2 fun x hx=>by rw [List.length_set];exact hr x (List.mem_cons_of_mem _ hx)
  obtain⟨y1,y2⟩:=hr y (List.mem_cons_self ..)
  refine⟨fun i hi=>?_,fun x hx=>?_⟩
  ·rw [List.map_cons,List.mem_cons,not_or]at hi
   show(apW sz δ (Z.set y.1.toNat _) r)[i]?=_
   rw [h1 i hi.2,List.getElem?_set_ne (fun e=>hi.1 (by omega))]
  ·rcases List.mem_cons.1 hx with rfl|hx
   ·show(apW sz δ (Z.set x.1.toNat _) r)[x.1.toNat]?=_
    rw [h1 _ (fun e=>hn.1 (by rw [Int.toNat_of_nonneg y1]at e;exact e)),List.getElem?_set_self (by omega)]
   ·exact h2 x hx
omit L X in
theorem Xc {S:Nat}{d:Bool}{l:List Int}(h:De S d l=0):l.Nodup∧l≠[]:=by
 unfold De at h
 by_cases e:l= []∨ ¬l.Nodup
 ·rw [if_pos e]at h;cases h
 ·exact⟨Decidable.byContradiction fun q=>e (.inr q),fun q=>e (.inl q)⟩
omit L X in
theorem Sm.D {S S':Ap}(s:Sm S S'):S'.D.sz=S.D.sz:=s.sz
omit L X in
theorem pz {δ: Nat→List Nat}{l:List GW}{s:Int}{d:Option (List Nat)}(h:(s,d)∈gpl δ l): ∃x∈l,x.1=s∧d=x.2.map fun q=>δ q.1:=by
 obtain⟨x,h1,h2⟩:=List.mem_map.1 h
 cases h2
 exact⟨x,h1,rfl,rfl⟩
omit L X in
theorem Ks (δ: Nat→List Nat)(l:List GW):(gpl δ l).map (·.1)=l.map (·.1):=by unfold gpl;rw [List.map_map];rfl
omit L X in
theorem Pl.append {S S':Ap}{k:Nat}{Z:List (List Nat)}{l:List GW}{δ: Nat→List Nat}{o:WO}(p:Pl S k Z)(hl:l.length≤6)(hd: ∀(i:Nat) (s:Int) (b o c:Nat),l[i]?=some (s,some (b,o,c))→(δ b).length=S.D.sz)(hc:De S.S S.down (l.map (·.1))=0)(a:ApdP (gpl δ l) S S' o):
  Sm S S'∧(o= .done 0→Pl S' (k+1000) (apW S.D.sz δ Z l))∧(o≠ .done 0→o= .full∧frees S'=0∧Pl S' (k+1000) Z):=by
 have hr: ∀y∈gpl δ l,0≤y.1∧y.1<((S.S:Nat):Int):=fun y hy=>Kn hc y.1 (by rw [←Ks δ l];exact List.mem_map.2 ⟨y,hy,rfl⟩)
 have hn:((gpl δ l).map (·.1)).Nodup:=by rw [Ks];exact(Xc hc).1
 have hrl: ∀x∈l,0≤x.1∧x.1<((Z.length:Nat):Int):=fun x hx=>by rw [p.len];exact Kn hc x.1 (List.mem_map.2 ⟨x,hx,rfl⟩)
 obtain⟨q',k',h1,h2,-⟩:=a.inv p.inv hr
 have sm:=a.sm p.inv
 have bd:=a.bd p.inv p.bd (by unfold gpl;rw [List.length_map];exact hl)
 refine⟨sm,fun ho=>?_,fun ho=>?_⟩
 ·subst ho
  have hdl: ∀s d,(s,some d)∈gpl δ l→d.length=S.D.sz:=fun s d hm=>by
   obtain⟨x,x1,x2,x3⟩:=pz hm
   obtain⟨i,hi,ei⟩:=List.getElem_of_mem x1
   obtain⟨s',w⟩:=x
   cases w with
   |none=>cases x3
   |some w=>
    obtain⟨b,o,c⟩:=w
    cases x3
    exact hd i s' b o c (by rw [List.getElem?_eq_getElem hi,ei])
  obtain⟨r1,r2,r3⟩:=a.rd p.inv hr hn hdl
  obtain⟨g1,g2⟩:=Xb (sz:=S.D.sz) (δ:= δ) l Z (Xc hc).1 hrl
  refine⟨q',bd,by rw [I4,p.len,sm.secs],fun i d hi=>?_⟩
  by_cases hk:((i:Nat):Int)∈l.map (·.1)
  ·obtain⟨x,x1,x2⟩:=List.mem_map.1 hk
   have h3:=g2 x x1
   rw [x2,Int.toNat_natCast,hi]at h3
   cases h3
   obtain⟨s',w⟩:=x
   simp only at x2
   subst x2
   cases w with
   |none=>exact r3 _ (List.mem_map.2 ⟨_,x1,rfl⟩)
   |some w=>exact r2 _ _ (List.mem_map.2 ⟨_,x1,rfl⟩)
  ·rw [g1 i hk]at hi
   rw [r1 _ (by rw [Ks];exact hk)]
   exact p.rd i d hi
 ·have hof:o= .full:=by
   cases a with
   |ok _ _=>exact absurd rfl ho
   |bad _ h=>rcases h with e|e;exact e;exact absurd e h1
   |bad2 _ _ h=>rcases h with e|e;exact e;exact absurd e h1
  obtain⟨f1,f2⟩:=h2 hof
  refine⟨hof,Rw fun i hi=>f1 i (by rw [←sm.nb];exact hi),q',bd,by rw [p.len,sm.secs],fun i d hi=>?_⟩
  rw [Hi p.inv k' ⟨sm.P,sm.sz⟩ (by rw [f2])]
  exact p.rd i d hi
omit L X in
theorem Pl.same {S S':Ap}{k k':Nat}{Z:List (List Nat)}(p:Pl S k Z)(q:AInv S')(s:Sm S S')(b:Bd S' k')(h: ∀s,S'.rd s=S.rd s):Pl S' k' Z:=
 ⟨q,b,by rw [p.len,s.secs],fun i d hi=>by rw [h];exact p.rd i d hi⟩
omit L X in
theorem Pl.mono {S:Ap}{k k':Nat}{Z:List (List Nat)}(p:Pl S k Z)(h:k≤k'):Pl S k' Z:=⟨p.inv,p.bd.mono h,p.len,p.rd⟩
end
end Go.Ev
