/- Part of the proof. -/
import Derived.Test.YtgkianlpkdfhkaaGreatQ20
import Derived.Test.YtgkianlpkdfhkaaGreatQ21
set_option linter.unusedVariables false
set_option linter.unusedSectionVars false
set_option linter.unusedSimpArgs false
set_option maxRecDepth 10000
set_option maxHeartbeats 4000000
namespace Go.Ev
section
variable {P0:Program}{E:Env}{F:T CFn}{K:T (List AV×AV)}(L:Lg P0 E F K)(X:Fx F K)
include L X
omit L X in
def PgV (sz n:Nat)(p:Pg):Prop:= ∃(sec:Int) (data:List Nat),p=⟨2,data++An (spD sec n) data⟩∧data.length=sz∧0≤sec∧sec<1000
structure EvB (sz:Nat)(x:Bl)(w:Option Nat):Prop where
 pg: ∀j,j<x.nx→(x.pg j).st=4∨ ∃n w0,PgV sz n (x.pg j)∧1≤n∧w=some w0∧n≤w0
 mx: ∀w0,w=some w0→ ∃j,j<x.nx∧PgV sz w0 (x.pg j)
structure Evi (S:Ap):Prop where
 bl: ∀b:Nat,b<S.D.nb→S.jr ((b:Nat):Int)=false→S.ps b≠4→EvB S.D.sz (S.D.bl b) (S.wr ((b:Nat):Int))
 su: ∀k,S.su k=true→ ∃b:Nat,k=((b:Nat):Int)∧b<S.D.nb∧S.ps b=3
omit L X in
theorem Evi.blk {S S':Ap}(e:Evi S)(b:Nat)(h1:S'.D.nb=S.D.nb)(h2:S'.D.sz=S.D.sz)(hi: ∀i:Nat,i≠b→S'.D.bl i=S.D.bl i∧S'.wr ((i:Nat):Int)=S.wr ((i:Nat):Int)∧S'.jr ((i:Nat):Int)=S.jr ((i:Nat):Int)∧(S.ps i=4→S'.ps i=4))
  (hb:b<S.D.nb→S'.jr ((b:Nat):Int)=false→S'.ps b≠4→EvB S.D.sz (S'.D.bl b) (S'.wr ((b:Nat):Int)))
  (hsu: ∀k,S'.su k=true→ ∃b:Nat,k=((b:Nat):Int)∧b<S.D.nb∧S'.ps b=3):Evi S':=by
 refine⟨fun i hin hj hp=>?_,by rw [h1];exact hsu⟩
 rw [h1]at hin
 rw [h2]
 by_cases ei:i=b
 ·subst ei;exact hb hin hj hp
 ·obtain⟨a1,a2,a3,a4⟩:=hi i ei
  rw [a1,a2]
  rw [a3]at hj
  exact e.bl i hin hj fun h=>hp (a4 h)
omit L X in
theorem Evi.pool {S S':Ap}(e:Evi S)(h1:S'.D=S.D)(h2:S'.wr=S.wr)(h3:S'.jr=S.jr)(h4:S'.su=S.su)(h5: ∀i,S.ps i=4→S'.ps i=4)(h6: ∀i,S.ps i=3→S'.ps i=3):Evi S':=
 ⟨by rw [h1,h2,h3];exact fun b hb hj hp=>e.bl b hb hj fun h=>hp (h5 b h),by rw [h1,h4];exact fun k hk=>let⟨b,a1,a2,a3⟩:=e.su k hk;⟨b,a1,a2,h6 b a3⟩⟩
omit L X in
theorem Evi.cls {S:Ap}(e:Evi S)(q:AInv S)(k:Bool):Evi (S.cls k):=by
 unfold Ap.cls
 split
 ·rename_i hc
  obtain⟨w1,w2⟩:=(q.iw.wi k).sel hc.1
  have h4: ∀i,S.ps i=4→upd S.ps (S.sel k).toNat 3 i=4:=fun i h=>by rw [upd_ne _ _ (fun x=>by subst x;omega)];exact h
  have h3: ∀i,S.ps i=3→upd S.ps (S.sel k).toNat 3 i=3:=fun i h=>by rw [upd_ne _ _ (fun x=>by subst x;omega)];exact h
  refine e.pool ?_ ?_ ?_ ?_ ?_ ?_ <;> cases k <;> first|rfl|exact h4|exact h3
 ·exact e
omit L X in
theorem Evi.opn {S S2:Ap}{k:Bool}(e:Evi S)(q:AInv S)(h:S.opn k=some S2):Evi S2:=by
 unfold Ap.opn at h
 split at h
 ·split at h
  ·cases h
  ·rename_i hcold
   rcases Ex S.ps S.pe 1 S.D.nb with⟨h1,-⟩|⟨c,hc,h1,h2⟩
   ·rw [h1]at hcold;omega
   ·rw [h1,Int.toNat_natCast]at h
    cases h
    have h4: ∀i,S.ps i=4→upd S.ps c 2 i=4:=fun i h=>by rw [upd_ne _ _ (fun x=>by subst x;omega)];exact h
    have h3: ∀i,S.ps i=3→upd S.ps c 2 i=3:=fun i h=>by rw [upd_ne _ _ (fun x=>by subst x;omega)];exact h
    cases k with
    |false=>exact e.pool rfl rfl rfl rfl h4 h3
    |true=>
     refine e.blk c rfl rfl (fun i hi=>⟨rfl,rfl,?_,h4 i⟩) (fun _ hj=>?_) fun k hk=>?_
     ·exact if_neg (by omega)
     ·have hj':A1 S.jr ((c:Nat):Int) true ((c:Nat):Int)=false:=hj
      unfold A1 at hj'
      rw [if_pos rfl]at hj'
      cases hj'
     ·obtain⟨b,a1,a2,a3⟩:=e.su k hk
      exact⟨b,a1,a2,h3 b a3⟩
 ·cases h;exact e
omit L X in
theorem Evi.wr {S:Ap}{b:Nat}{all:List Nat}(e:Evi S)(q:AInv S)(hb:b<S.D.nb)(hp:S.ps b=2)(hx:(S.D.bl b).nx<S.D.P):
  (S.jr ((b:Nat):Int)=true∨S.D.flt S.D.n=true→Evi {S with D:=S.D.wr b all})∧
  (S.D.flt S.D.n=false→ ∀n,PgV S.D.sz n ⟨2,all⟩→1≤n→(∀b w,S.wr b=some w→w≤n)→Evi {S with D:=S.D.wr b all,wr:=Gn S.wr ((b:Nat):Int) (some n)}):=by
 have hpw:=(Dv.prog_ok (all:=all) q.off q.cut hb hx).2.2
 have hbl: ∀i,i≠b→(S.D.wr b all).bl i=S.D.bl i:=fun i h=>upd_ne _ _ h
 have hbb:(S.D.wr b all).bl b=⟨upd (S.D.bl b).pg (S.D.bl b).nx (S.D.pgW all),(S.D.bl b).nx+1,(S.D.bl b).er⟩:=upd_eq _ _ _
 have old: ∀j,j<(S.D.bl b).nx→((S.D.wr b all).bl b).pg j=(S.D.bl b).pg j:=fun j hj=>by rw [hbb];exact upd_ne _ _ (by omega)
 have new:((S.D.wr b all).bl b).pg (S.D.bl b).nx=S.D.pgW all:=by rw [hbb];exact upd_eq _ _ _
 have hnx:((S.D.wr b all).bl b).nx=(S.D.bl b).nx+1:=by rw [hbb]
 refine⟨fun h=>?_,fun hf n hv h1 hw=>?_⟩
 ·refine e.blk b rfl rfl (fun i hi=>⟨hbl i hi,rfl,rfl,id⟩) (fun _ hj _=>?_) e.su
  have hj':S.jr ((b:Nat):Int)=false:=hj
  have hf:S.D.flt S.D.n=true:=by rcases h with h|h;rw [hj']at h;cases h;exact h
  obtain⟨e1,e2⟩:=e.bl b hb hj' (by omega)
  rw [if_pos hf]at hpw
  refine⟨fun j hj=>?_,fun w0 hw0=>?_⟩
  ·have hj2:j<((S.D.wr b all).bl b).nx:=hj
   rw [hnx]at hj2
   show(((S.D.wr b all).bl b).pg j).st=4∨ ∃n w0,PgV S.D.sz n (((S.D.wr b all).bl b).pg j)∧_
   rcases Nat.lt_or_ge j (S.D.bl b).nx with h|h
   ·rw [old j h];exact e1 j h
   ·have:j=(S.D.bl b).nx:=by omega
    subst this
    rw [new,hpw];exact .inl rfl
  ·obtain⟨j,g1,g2⟩:=e2 w0 hw0
   refine⟨j,?_,?_⟩
   ·show j<((S.D.wr b all).bl b).nx;rw [hnx];omega
   ·show PgV S.D.sz w0 (((S.D.wr b all).bl b).pg j);rw [old j g1];exact g2
 ·rw [if_neg (by rw [hf];simp)]at hpw
  refine e.blk b rfl rfl (fun i hi=>⟨hbl i hi,if_neg (by omega),rfl,id⟩) (fun _ hj _=>?_) e.su
  have hj':S.jr ((b:Nat):Int)=false:=hj
  obtain⟨e1,e2⟩:=e.bl b hb hj' (by omega)
  have hww:Gn S.wr ((b:Nat):Int) (some n) ((b:Nat):Int)=some n:=if_pos rfl
  show EvB S.D.sz ((S.D.wr b all).bl b) (Gn S.wr ((b:Nat):Int) (some n) ((b:Nat):Int))
  rw [hww]
  refine⟨fun j hj2=>?_,fun w0 hw0=>?_⟩
  ·rw [hnx]at hj2
   rcases Nat.lt_or_ge j (S.D.bl b).nx with h|h
   ·rw [old j h]
    rcases e1 j h with h|⟨m,w0,a1,a2,a3,a4⟩
    ·exact .inl h
    ·exact .inr ⟨m,n,a1,a2,rfl,Nat.le_trans a4 (hw _ _ a3)⟩
   ·have:j=(S.D.bl b).nx:=by omega
    subst this
    rw [new,hpw];exact .inr ⟨n,n,hv,h1,rfl,Nat.le_refl _⟩
  ·cases hw0
   exact⟨(S.D.bl b).nx,by rw [hnx];omega,by rw [new,hpw];exact hv⟩
omit L X in
theorem Evi.w1 {S:Ap}(e:Evi S)(q:AInv S)(k:Bool)(all:List Nat):(k=true∨(∀p,(S.w1 k all).2≠ .done p)→Evi (S.w1 k all).1)∧
  (k=false→ ∀p n,(S.w1 k all).2= .done p→PgV S.D.sz n ⟨2,all⟩→1≤n→(∀b w,S.wr b=some w→w≤n)→Evi {(S.w1 k all).1 with wr:=Gn S.wr ((p / S.D.P:Nat):Int) (some n)}):=by
 have q1:=(q.cls k).1
 have e1:=e.cls q k
 have hn1:(S.cls k).D=S.D:=um S k
 cases ho:(S.cls k).opn k with
 |none=>
  have hw:S.w1 k all=(S.cls k,.full):=by unfold Ap.w1;rw [ho]
  rw [hw]
  exact⟨fun _=>e1,fun _ p n h=>by cases h⟩
 |some S2=>
  obtain⟨q2,k2,hj2⟩:=q1.opn ho
  have e2:=e1.opn q1 ho
  have hx:=q.nx_lt ho
  obtain⟨-,hD2,hs0,-⟩:=q1.iw.opn ho
  obtain⟨g1,g2⟩:=(q2.iw.wi k).sel hs0
  obtain⟨b,hb⟩:=Int.eq_ofNat_of_zero_le hs0
  have hsame:S2.D=S.D:=hD2.trans hn1
  rw [hb,Int.toNat_natCast]at hx g2
  rw [hb]at hj2
  have hbn:b<S2.D.nb:=by omega
  obtain⟨f1,f2,f3⟩:=Dv.prog_ok (all:=all) q2.off q2.cut hbn hx
  have hwr:S2.wr=S.wr:=((Wi S k).trans (mm ho)).wr
  obtain⟨v1,v2⟩:=e2.wr (all:=all) q2 hbn g2 hx
  by_cases hfl:S2.D.flt S2.D.n=true
  ·have hw:S.w1 k all=(({S2 with D:=S2.D.wr b all,su:=A1 S2.su ((b:Nat):Int) true,ps:=upd S2.ps b 3}:Ap).put k (-1),.again):=by
    unfold Ap.w1
    rw [ho]
    simp only [hb,f1,if_pos hfl,Int.toNat_natCast]
    rfl
   rw [hw]
   refine⟨fun _=>?_,fun _ p n h=>by cases h⟩
   have v:=v1 (.inr hfl)
   have hps: ∀i,i≠b→upd S2.ps b 3 i=S2.ps i:=fun i h=>upd_ne _ _ h
   have r:Evi ({S2 with D:=S2.D.wr b all,su:=A1 S2.su ((b:Nat):Int) true,ps:=upd S2.ps b 3}:Ap):=by
    refine v.blk b rfl rfl (fun i hi=>⟨rfl,rfl,rfl,fun h=>(hps i hi).trans h⟩) (fun h hj _=>v.bl b h hj (by show S2.ps b≠4;omega)) fun y hy=>?_
    have hy':A1 S2.su ((b:Nat):Int) true y=true:=hy
    unfold A1 at hy'
    split at hy'
    ·rename_i ey
     exact⟨b,ey,hbn,upd_eq _ _ _⟩
    ·obtain⟨i,a1,a2,a3⟩:=e2.su y hy'
     exact⟨i,a1,a2,(hps i (fun x=>by subst x;omega)).trans a3⟩
   cases k <;> exact r.pool rfl rfl rfl rfl (fun _ h=>h) fun _ h=>h
  ·have hw:S.w1 k all=({S2 with D:=S2.D.wr b all},.done (b*S2.D.P+(S2.D.bl b).nx)):=by
    unfold Ap.w1
    rw [ho]
    simp only [hb,f1,if_neg hfl,Int.toNat_natCast]
    rfl
   rw [hw]
   refine⟨fun h=>?_,fun hk p n h hv h1 hle=>?_⟩
   ·rcases h with h|h
    ·exact v1 (.inl (hj2.trans h))
    ·exact absurd rfl (h _)
   ·cases h
    rw [show(b*S2.D.P+(S2.D.bl b).nx) / S.D.P=b by rw [←hsame];exact(Rj hx).1,←hwr]
    exact v2 (by simpa using hfl) n (by rw [hsame];exact hv) h1 (by rw [hwr];exact hle)
omit L X in
theorem WrP.ev {k:Bool}{all:List Nat}{S S':Ap}{r:WO}(h:WrP k all S S' r): ∀(q:AInv S) (e:Evi S),(k=true∨(∀p,r≠ .done p)→Evi S')∧
  (k=false→ ∀p n,r= .done p→PgV S.D.sz n ⟨2,all⟩→1≤n→(∀b w,S.wr b=some w→w≤n)→Evi {S' with wr:=Gn S.wr ((p / S.D.P:Nat):Int) (some n)}):=by
 induction h with
 |stop h=>exact fun q e=>e.w1 q k all
 | @more S S' r h _ ih=>
  intro q e
  have f:=X7 S k all
  have:=ih (q.w1 k all).1 ((e.w1 q k all).1 (.inr fun p hp=>by rw [h]at hp;cases hp))
  rw [f.sz,f.wr,f.P]at this
  exact this
end
section
variable {P0:Program}{E:Env}{F:T CFn}{K:T (List AV×AV)}(L:Lg P0 E F K)(X:Fx F K)
include L X
omit L X in
theorem StP.ev {sec:Int}{data:List Nat}{S S':Ap}{o:WO}{k:Nat}(h:StP sec data S S' o)(q:AInv S)(e:Evi S)(bd:Bd S k)(hd:data.length=S.D.sz)(hs:0≤sec∧sec<1000):Evi S':=by
 have q1:AInv {S with next:=S.next+1}:=q.nw (S.next+1) S.last S.wr
 have e1:Evi {S with next:=S.next+1}:=e.pool rfl rfl rfl rfl (fun _ h=>h) fun _ h=>h
 have hl:=bd.last
 cases h with
 | @ok S1 p h=>
  have f:=h.fr
  have:=(h.ev q1 e1).2 rfl p S.next rfl ⟨sec,data,rfl,hd,hs.1,hs.2⟩ (by omega) fun b w hw=>Nat.le_of_lt (bd.wr b w hw)
  rw [f.wr,f.P]
  exact this
 |bad h hr=>exact(h.ev q1 e1).1 (.inr fun p hp=>by rcases hr with e|e <;> rw [e]at hp <;> cases hp)
omit L X in
theorem AppP.ev {l:List (Int×Option (List Nat))}{S S':Ap}{es:List Ent}{o:WO}(h:AppP l S es S' o): ∀{k:Nat},AInv S→Evi S→Bd S k→(∀s d,(s,some d)∈l→d.length=S.D.sz∧0≤s∧s<1000)→Evi S':=by
 induction h with
 |nil=>intro k _ e _ _;exact e
 |put h _ ih=>
  intro k q e bd hd
  obtain⟨h1,h2⟩:=hd _ _ (List.mem_cons_self ..)
  obtain⟨a,-⟩:=h.inv q
  obtain⟨f,-⟩:=h.fr q.iw
  exact ih a (h.ev q e bd h1 h2) (h.bd q.iw q.geo.nb.2 bd) fun s d hm=>by rw [f.sz];exact hd s d (List.mem_cons_of_mem _ hm)
 |bad h _=>
  intro k q e bd hd
  obtain⟨h1,h2⟩:=hd _ _ (List.mem_cons_self ..)
  exact h.ev q e bd h1 h2
 |trim _ _ ih=>intro k q e bd hd;exact ih q e bd fun s d hm=>hd s d (List.mem_cons_of_mem _ hm)
 |skip _ _ ih=>intro k q e bd hd;exact ih q e bd fun s d hm=>hd s d (List.mem_cons_of_mem _ hm)
omit L X in
theorem RlP.ev {sz:Nat}{l:List JPg}{S S':Ap}{o:WO}(h:RlP sz l S S' o):AInv S→Evi S→Evi S':=by
 induction h with
 |nil=>intro _ e;exact e
 |cons h _ ih=>intro q e;exact ih (h.inv q).1 ((h.ev q e).1 (.inl rfl))
 |bad h _=>intro q e;exact(h.ev q e).1 (.inl rfl)
omit L X in
theorem RcP.ev {k:Nat}{es:List Ent}{S S':Ap}{o:WO}(h:RcP k es S S' o)(q:AInv S)(e:Evi S):Evi S':=by
 have q1:AInv {S with next:=S.next+recN S es}:=q.nw (S.next+recN S es) S.last S.wr
 have e1:Evi {S with next:=S.next+recN S es}:=e.pool rfl rfl rfl rfl (fun _ h=>h) fun _ h=>h
 cases h with
 |ok h=>exact(h.ev q1 e1).pool rfl rfl rfl rfl (fun _ h=>h) fun _ h=>h
 |bad h _=>exact h.ev q1 e1
omit L X in
theorem CmP.ev {es:List Ent}{S S':Ap}{o:WO}(h:CmP es S S' o)(q:AInv S)(e:Evi S):Evi S':=by
 cases h with
 |nil _=>exact e
 |ok h _=>exact(h.ev q e).pool rfl rfl rfl rfl (fun _ h=>h) fun _ h=>h
 |bad h _=>exact h.ev q e
omit L X in
theorem ApdP.ev {l:List (Int×Option (List Nat))}{S S':Ap}{o:WO}{k:Nat}(h:ApdP l S S' o)(q:AInv S)(e:Evi S)(bd:Bd S k)(hd: ∀s d,(s,some d)∈l→d.length=S.D.sz∧0≤s∧s<1000):Evi S':=by
 cases h with
 |ok a c=>exact c.ev (a.inv q).1 (a.ev q e bd hd)
 |bad a _=>exact a.ev q e bd hd
 |bad2 a c _=>exact c.ev (a.inv q).1 (a.ev q e bd hd)
omit L X in
theorem Uy (D:Dv){b i:Nat}(h:i≠b):(D.erase ((b:Nat):Int)).1.bl i=D.bl i:=by
 unfold Dv.erase
 rw [Int.toNat_natCast]
 repeat' split
 all_goals first|rfl|exact upd_ne _ _ h
omit L X in
theorem ta (D:Dv){b:Nat}(h:(D.erase ((b:Nat):Int)).2=0):((D.erase ((b:Nat):Int)).1.bl b).nx=0:=by
 unfold Dv.erase at h ⊢
 rw [Int.toNat_natCast]at*
 repeat' split at h
 all_goals first|(cases h;done)|skip
 rename_i h1 h2 h3 h4 h5
 rw [if_pos h1,if_neg h2,if_neg h3,if_neg h4,if_neg h5]
 show(upd D.bl b _ b).nx=0
 rw [upd_eq]
omit L X in
theorem Evi.ers {S:Ap}{b:Nat}{f:Int→Bool}(e:Evi S)(h:(S.ers b).2≠ .pow)(hf: ∀i:Nat,i≠b→f ((i:Nat):Int)=S.jr ((i:Nat):Int)):Evi {(S.ers b).1 with jr:=f}:=by
 have sm:=Wv S b
 unfold Ap.ers at h sm ⊢
 have h4: ∀(v i:Nat),i≠b→S.ps i=4→upd S.ps b v i=4:=fun v i hi h=>by rw [upd_ne _ _ hi];exact h
 have h3: ∀(v i:Nat),i≠b→S.ps i=3→upd S.ps b v i=3:=fun v i hi h=>by rw [upd_ne _ _ hi];exact h
 by_cases hs:S.su ((b:Nat):Int)=true
 ·rw [if_pos hs]at h sm ⊢
  refine e.blk b rfl rfl (fun i hi=>⟨rfl,rfl,hf i hi,h4 4 i hi⟩) (fun _ _ hp=>absurd (upd_eq _ _ _) hp) fun y hy=>?_
  have hy':A1 S.su ((b:Nat):Int) false y=true:=hy
  unfold A1 at hy'
  split at hy'
  ·cases hy'
  ·rename_i hne
   obtain⟨i,a1,a2,a3⟩:=e.su y hy'
   exact⟨i,a1,a2,h3 4 i (fun x=>hne (by rw [a1,x])) a3⟩
 ·rw [if_neg hs]at h sm ⊢
  have su: ∀(v:Nat) (y:Int),S.su y=true→ ∃i:Nat,y=((i:Nat):Int)∧i<S.D.nb∧upd S.ps b v i=3:=fun v y hy=>by
   obtain⟨i,a1,a2,a3⟩:=e.su y hy
   exact⟨i,a1,a2,h3 v i (fun x=>hs (by rw [←x,←a1];exact hy)) a3⟩
  have nw: ∀i:Nat,i≠b→Gn S.wr ((b:Nat):Int) none ((i:Nat):Int)=S.wr ((i:Nat):Int):=fun i hi=>if_neg (by omega)
  by_cases h50:(S.D.erase ((b:Nat):Int)).2=50
  ·rw [if_pos h50]at h;exact absurd rfl h
  ·rw [if_neg h50]at h sm ⊢
   by_cases h0:(S.D.erase ((b:Nat):Int)).2=0
   ·rw [if_pos h0]at h sm ⊢
    refine e.blk b sm.nb sm.sz (fun i hi=>⟨Uy _ hi,nw i hi,hf i hi,h4 1 i hi⟩) (fun _ _ _=>⟨fun j hj=>?_,fun w0 hw=>?_⟩) (su 1)
    ·have hj':j<((S.D.erase ((b:Nat):Int)).1.bl b).nx:=hj
     rw [ta _ h0]at hj';exact absurd hj' (Nat.not_lt_zero j)
    ·have hw':Gn S.wr ((b:Nat):Int) none ((b:Nat):Int)=some w0:=hw
     unfold Gn at hw'
     rw [if_pos rfl]at hw';cases hw'
   ·rw [if_neg h0]at h sm ⊢
    exact e.blk b sm.nb sm.sz (fun i hi=>⟨Uy _ hi,nw i hi,hf i hi,h4 4 i hi⟩) (fun _ _ hp=>absurd (upd_eq _ _ _) hp) (su 4)
omit L X in
theorem ErP.ev {l:List Int}{S S':Ap}{o:WO}(h:ErP l S S' o):o≠ .pow→Evi S→Evi S':=by
 induction h with
 |nil=>intro _ e;exact e
 | @cons b l S S' o h t ih=>
  intro ho e
  refine ih ho (e.ers (by rw [h];simp) fun i hi=>?_)
  unfold A1;rw [if_neg (by omega),Ns]
 |bad h=>intro ho _;exact absurd rfl ho
omit L X in
theorem Evi.clg {S:Ap}(e:Evi S)(q:AInv S):Evi S.clg:=by
 unfold Ap.clg
 split
 ·rename_i hl
  have g2:S.ps S.log.toNat=2:=((q.iw.wi true).sel hl).2
  exact e.pool rfl rfl rfl rfl (fun i h=>by show upd S.ps S.log.toNat 3 i=4;rw [upd_ne _ _ (fun x=>by subst x;omega)];exact h) fun i h=>by show upd S.ps S.log.toNat 3 i=3;rw [upd_ne _ _ (fun x=>by subst x;omega)];exact h
 ·exact e
omit L X in
theorem CkO.ev {S S':Ap}{o:WO}{k:Nat}(h:CkO S S' o)(q:AInv S)(e:Evi S)(bd:Bd S k)(hS:S.S≤10):Evi S':=by
 have ho:=(h.inv q bd hS).2.2.2.1
 have ec:=e.clg q
 have qc:=q.clg.1
 cases h with
 |bad hD h _=>exact h.ev qc ec
 |run hD h hJ t=>exact t.ev ho (h.ev qc ec)
omit L X in
theorem MvS.ev {S S1:Ap}{ps:List Int}{es:List Ent}{k:Nat}(h:MvS (B9 S.A) S ps es S1)(q:AInv S)(ok:S.D.Ok)(hS:S.S≤10)(e:Evi S)(bd:Bd S k)(hm: ∀p∈ps,∃s,S.A s=some p):Evi S1:=by
 generalize hg:B9 S.A=g at h
 induction h with
 |nil=>exact e
 | @snoc S1 S2 ps es p q' r h ih=>
  obtain⟨s,hs⟩:=hm p (by simp)
  obtain⟨a,kk,f⟩:=r.inv q
  obtain⟨b,-⟩:=r.bd q bd
  refine h.ev a (ih (fun p hp=>hm p (List.mem_append_left _ hp))) b ?_ ?_
  ·have:=P1 q kk f hs
   unfold Ap.pgD at this
   rw [this]
   have h2:=L5 hs
   unfold Ap.pgD at h2
   rw [h2,Wu q ok,f.sz]
  ·obtain⟨r1,r2,-⟩:=q.map s p hs
   rw [←hg,Fj hs q.inj]
   omega
omit L X in
theorem MovO.ev {S S':Ap}{b:Nat}{o:WO}{k:Nat}(h:MovO b S S' o)(q:AInv S)(ok:S.D.Ok)(hS:S.S≤10)(e:Evi S)(bd:Bd S k)(hb:b<S.D.nb)(h3:S.ps b=3)(hj:S.jr ((b:Nat):Int)=false):Evi S':=by
 have ho:=(h.inv q ok bd hb h3 hj).2.2.2.1
 have hm: ∀p∈S.mv b,∃s,S.A s=some p:=fun p hp=>let⟨_,s,_,_,h⟩:=Ix hp;⟨s,h⟩
 cases h with
 | @bad S1 _ i p es _ m hp h _=>
  obtain⟨a,kk,f⟩:=m.inv q
  obtain⟨b1,-⟩:=m.bd q bd
  have e1:=m.ev q ok hS e bd fun p hp=>hm p (List.mem_of_mem_take hp)
  obtain⟨s,hs⟩:=hm p (List.mem_of_getElem? hp)
  refine h.ev a e1 b1 ?_ ?_
  ·have:=P1 q kk f hs
   unfold Ap.pgD at this
   rw [this]
   have h2:=L5 hs
   unfold Ap.pgD at h2
   rw [h2,Wu q ok,f.sz]
  ·obtain⟨r1,r2,-⟩:=q.map s p hs
   rw [Fj hs q.inj]
   omega
 |badc m c _=>exact c.ev (m.inv q).1 (m.ev q ok hS e bd hm)
 |ok m c=>
  have e2:=c.ev (m.inv q).1 (m.ev q ok hS e bd hm)
  have:=e2.ers (b:=b) (f:=((_:Ap).ers b).1.jr) ho fun i hi=>by rw [Ns]
  exact this
end
section
variable {P0:Program}{E:Env}{F:T CFn}{K:T (List AV×AV)}(L:Lg P0 E F K)(X:Fx F K)
include L X
omit L X in
theorem ny:Pres Evi:=
 ⟨fun a q bd hS hd e=>a.ev q e bd fun s d hm=>let⟨h1,h2,h3⟩:=hd s d hm;⟨h1,h2,by omega⟩,fun m q ok bd hS hb h3 hj e=>m.ev q ok hS e bd hb h3 hj,fun m q bd hS e=>m.ev q e bd hS⟩
omit L X in
theorem Evi.new (D:Dv)(S:Nat)(h: ∀b,(D.bl b).nx=0):Evi (Ap.new D S):=
 ⟨fun b _ _ _=>⟨fun j hj=>by have hj':j<(D.bl b).nx:=hj;rw [h]at hj';exact absurd hj' (Nat.not_lt_zero j),fun w0 hw=>by cases hw⟩,fun k hk=>by cases hk⟩
end
section
variable {P0:Program}{E:Env}{F:T CFn}{K:T (List AV×AV)}(L:Lg P0 E F K)(X:Fx F K)(Y:FxC F K)
include L X Y
omit L X Y in
theorem Sy: ∀(n v:Nat) (p s:List Nat) (a:Nat),v<256 ^ n→a=p.length→leF (p++leb n v++s) a n=v
 |0,v,p,s,a,h,_=>by simp [leF]at h ⊢;omega
 |n+1,v,p,s,a,h,ha=>by
  subst ha
  rw [leF,leb]
  have h1:(p++(v % 256::leb n (v / 256))++s).getD p.length 0=v % 256:=by
   rw [List.getD_eq_getElem?_getD,List.append_assoc,List.getElem?_append_right (Nat.le_refl _),Nat.sub_self];rfl
  have h2:p++(v % 256::leb n (v / 256))++s=(p++ [v % 256])++leb n (v / 256)++s:=by simp
  rw [h1,h2,Sy n (v / 256) (p++ [v % 256]) s (p.length+1) (by rw [Nat.pow_succ]at h;omega) (by simp)]
  omega
omit L X Y in
theorem P4 {s:Sp}{data:List Nat}(q:s.Fit):V4 (An s data) data=some s:=by
 obtain⟨v,ok⟩:=q
 obtain⟨v1,v2,v3,v4,v5,v6⟩:=v
 obtain⟨o1,o2,o3⟩:=ok
 have e8:(256:Nat) ^ 8=18446744073709551616:=by decide
 have e4:(256:Nat) ^ 4=4294967296:=by decide
 have b1:0≤s.sec∧s.sec≤4294967294:=by rcases v6 with⟨-,a,b,-⟩|⟨-,a,-⟩ <;> omega
 have u1:u64 s.sec=s.sec.toNat:=by unfold u64;omega
 have u2:u64 s.idx=s.idx.toNat:=by unfold u64;omega
 have u3:u64 s.len=s.len.toNat:=by unfold u64;omega
 have hcr:crcB (data++A4 s)<256 ^ 4:=by have:=Nn (data++A4 s);rw [e4];omega
 have ht:(An s data).take 60=A4 s:=by unfold An;rw [←Ec s,List.take_left]
 have hsp:Ht (An s data)=s:=by
  have hk:(An s data).getD 4 0=s.kind:=rfl
  have f: ∀(n v a:Nat) (p t:List Nat),An s data=p++leb n v++t→v<256 ^ n→a=p.length→leF (An s data) a n=v:=fun n v a p t h1 h2 h3=>by rw [h1];exact Sy n v p t a h2 h3
  have f1:=f 8 s.seq 8 (mag s.kind) _ (by unfold An A4;simp only [List.append_assoc];rfl) (by omega) rfl
  have f2:=f 8 s.prev 16 (mag s.kind++leb 8 s.seq) _ (by unfold An A4;simp only [List.append_assoc];rfl) (by omega) (by rw [List.length_append,A5];rfl)
  have f3:=f 4 (u64 s.sec) 24 (mag s.kind++leb 8 s.seq++leb 8 s.prev) _ (by unfold An A4;simp only [List.append_assoc];rfl) (by omega) (by simp only [List.length_append,A5];rfl)
  have f4:=f 4 (u64 s.idx) 28 (mag s.kind++leb 8 s.seq++leb 8 s.prev++leb 4 (u64 s.sec)) _ (by unfold An A4;simp only [List.append_assoc];rfl) (by omega) (by simp only [List.length_append,A5];rfl)
  have f5:=f 4 (u64 s.len) 32 (mag s.kind++leb 8 s.seq++leb 8 s.prev++leb 4 (u64 s.sec)++leb 4 (u64 s.idx)) _ (by unfold An A4;simp only [List.append_assoc];rfl) (by omega) (by simp only [List.length_append,A5];rfl)
  unfold Ht
  rw [hk,f1,f2,f3,f4,f5,u1,u2,u3]
  obtain⟨k,sec,seq,prev,idx,len⟩:=s
  simp only at b1 v2 v4 ⊢
  rw [Int.toNat_of_nonneg b1.1,Int.toNat_of_nonneg v4,Int.toNat_of_nonneg (by omega)]
 have hc:leF (An s data) 60 4=crcB (data++(An s data).take 60):=by
  rw [ht]
  have:=Sy 4 (crcB (data++A4 s)) (A4 s) [] 60 hcr (Ec s).symm
  rw [List.append_nil]at this
  exact this
 unfold V4
 rw [hsp,ht,if_pos ⟨by rw [←ht];exact hc,⟨v1,v2,v3,v4,v5,v6⟩,rfl⟩]
omit L X Y in
theorem PgV.inj {sz n n':Nat}{p:Pg}(a:PgV sz n p)(b:PgV sz n' p)(h1:1≤n∧n<1000000000)(h2:1≤n'∧n'<1000000000):n=n':=by
 obtain⟨s,d,e,hl,r⟩:=a
 obtain⟨s',d',e',hl',r'⟩:=b
 rw [e]at e'
 have e2:d++An (spD s n) d=d'++An (spD s' n') d':=congrArg Pg.b e'
 obtain⟨rfl,e3⟩:=List.append_inj e2 (by omega)
 have g1:=P4 (data:=d) (Nr (sec:=s) (n:=n) (by omega) h1)
 have g2:=P4 (data:=d) (Nr (sec:=s') (n:=n') (by omega) h2)
 rw [e3,g2]at g1
 cases g1;rfl
omit L X Y in
theorem ce {A:Int→Option Int}{D:List Int}(h:DomA A D)(hn: ∀s p,A s=some p→0≤p):stA (fun _=>none) (B0 A D) (B0 A D).length=A:=by
 have hk:(B0 A D).map (·.1)=D:=by unfold B0;rw [List.map_map];exact List.map_id D
 obtain⟨h1,h2⟩:=Ss (B0 A D) (fun _=>none) (by rw [hk];exact h.lt.imp fun {a b} h=>by omega)
 rw [St]
 funext s
 by_cases hs:s∈D
 ·have:=h2 (s,atA A s) (List.mem_map.2 ⟨s,hs,rfl⟩)
  obtain⟨p,hp⟩:=Option.isSome_iff_exists.1 ((h.mem s).1 hs)
  have ha:atA A s=p:=by unfold atA;rw [hp];rfl
  simp only [ha]at this
  rw [this,if_pos (hn s p hp),hp]
 ·rw [h1 s (by rw [hk];exact hs)]
  cases hA:A s with
  |none=>rfl
  |some p=>exact absurd ((h.mem s).2 (by rw [hA];rfl)) hs
omit L X Y in
theorem te {S:Ap}(q:AInv S){D:List Int}(h:DomA S.A D): ∀j x,(B0 S.A D)[j]?=some x→okE S.S (S.D.nb*S.D.P) (stA (fun _=>none) (B0 S.A D) j) x:=by
 intro j x hx
 have mem: ∀y∈B0 S.A D,S.A y.1=some y.2:=fun y hy=>by
  obtain⟨s,hs,rfl⟩:=List.mem_map.1 hy
  obtain⟨p,hp⟩:=Option.isSome_iff_exists.1 ((h.mem s).1 hs)
  show S.A s=some (atA S.A s)
  unfold atA;rw [hp];rfl
 have hm:=mem x (List.mem_of_getElem? hx)
 obtain⟨r1,r2,b,i,g1,g2,g3,-⟩:=q.map x.1 x.2 hm
 have hb:b*S.D.P+i<S.D.nb*S.D.P:=by
  have:=Nat.mul_le_mul_right S.D.P (show b+1≤S.D.nb from g2)
  rw [Nat.succ_mul]at this
  omega
 refine⟨⟨r1,r2,by omega,by omega⟩,?_⟩
 rintro⟨s,hs,hne⟩
 rcases G8 j s x.2 hs with h1|⟨j',e,h1,h2,h3,h4,h5⟩
 ·cases h1
 ·have:=mem e (List.mem_of_getElem? h2)
  rw [h3,h4]at this
  exact hne (q.inj _ _ _ this hm)
omit L X Y in
theorem L6 (ps:Nat→Nat)(s:Nat): ∀n,∃l:List Int,l.length=cntS ps s n∧l.Nodup∧ ∀x∈l,∃b:Nat,x=((b:Nat):Int)∧b<n∧ps b=s
 |0=>⟨[],rfl,.nil,fun x hx=>by cases hx⟩
 |n+1=>by
  obtain⟨l,h1,h2,h3⟩:=L6 ps s n
  simp only [cntS]
  by_cases h:ps n=s
  ·rw [if_pos h]
   refine⟨((n:Nat):Int)::l,by rw [List.length_cons,h1],List.nodup_cons.2 ⟨fun hm=>?_,h2⟩,fun x hx=>?_⟩
   ·obtain⟨b,e,hb,-⟩:=h3 _ hm;omega
   ·rcases List.mem_cons.1 hx with rfl|hx
    ·exact⟨n,rfl,by omega,h⟩
    ·obtain⟨b,e,hb,hp⟩:=h3 x hx;exact⟨b,e,by omega,hp⟩
  ·rw [if_neg h]
   exact⟨l,by rw [h1];rfl,h2,fun x hx=>let⟨b,e,hb,hp⟩:=h3 x hx;⟨b,e,by omega,hp⟩⟩
omit L X Y in
theorem Sz (S:Ap): ∀n,(S.cds n).Pairwise (· < ·)
 |0=> .nil
 |n+1=>by
  have ih:=Sz S n
  simp only [Ap.cds]
  split
  ·rw [List.pairwise_append]
   refine⟨ih,List.pairwise_singleton _ _,fun a ha b hb=>?_⟩
   rw [List.mem_singleton]at hb
   have:=((Ek (S:=S) n).1 ha).1
   omega
  ·exact ih
omit L X Y in
theorem cf (S:Ap): ∀n,((S.cds n).map fun b:Nat=>((b:Nat):Int)).Nodup:=fun n=>by
 refine List.Pairwise.map _ (fun a b h=>?_) (Sz S n)
 intro e;omega
omit L X Y in
theorem oa {S:Ap}(q:AInv S){n:Nat}(h:sx S.jr n):(S.cds S.D.nb).length+frees S+n≤S.D.nb:=by
 obtain⟨l1,a1,a2,a3⟩:=h
 obtain⟨l2,b1,b2,b3⟩:=L6 S.ps 1 S.D.nb
 have:=Dk S.D.nb ((S.cds S.D.nb).map (fun b:Nat=>((b:Nat):Int))++(l2++l1)) ?_ ?_
 ·simp only [List.length_append,List.length_map]at this
  unfold frees
  omega
 ·refine List.nodup_append.2 ⟨cf S _,List.nodup_append.2 ⟨b2,a2,?_⟩,?_⟩
  ·rintro x hx y hy rfl
   obtain⟨b,e,hb,hp⟩:=b3 x hx
   obtain⟨i,e1,-,e3⟩:=q.jr x (a3 x hy)
   have:i=b:=by omega
   subst this;omega
  ·rintro x hx y hy rfl
   obtain⟨c,hc,rfl⟩:=List.mem_map.1 hx
   obtain⟨c1,c2,c3⟩:=(Ek S.D.nb).1 hc
   rcases List.mem_append.1 hy with hy|hy
   ·obtain⟨b,e,hb,hp⟩:=b3 _ hy
    have:c=b:=by omega
    subst this;omega
   ·rw [a3 _ hy]at c3;cases c3
 ·intro x hx
  rcases List.mem_append.1 hx with hx|hx
  ·obtain⟨c,hc,rfl⟩:=List.mem_map.1 hx
   obtain⟨c1,-⟩:=(Ek S.D.nb).1 hc
   omega
  ·rcases List.mem_append.1 hx with hx|hx
   ·obtain⟨b,e,hb,hp⟩:=b3 _ hx;omega
   ·obtain⟨i,e1,e2,-⟩:=q.jr x (a3 x hx);omega
omit L X Y in
theorem Yj {S:Ap}(e:Evi S){n:Nat}(h:sy S n):n≤S.D.nb:=by
 obtain⟨m,rfl,l1,a1,a2,a3⟩:=h
 obtain⟨l2,b1,b2,b3⟩:=L6 S.ps 4 S.D.nb
 have:=Dk S.D.nb (l2++l1) ?_ ?_
 ·simp only [List.length_append]at this
  omega
 ·refine List.nodup_append.2 ⟨b2,a2,?_⟩
  rintro x hx y hy rfl
  obtain⟨b,e1,hb,hp⟩:=b3 x hx
  obtain⟨i,e2,-,e3⟩:=e.su x (a3 x hy)
  have:i=b:=by omega
  subst this;omega
 ·intro x hx
  rcases List.mem_append.1 hx with hx|hx
  ·obtain⟨b,e,hb,hp⟩:=b3 _ hx;omega
  ·obtain⟨i,e1,e2,-⟩:=e.su x (a3 x hx);omega
end
section
variable {P0:Program}{E:Env}{F:T CFn}{K:T (List AV×AV)}(L:Lg P0 E F K)(X:Fx F K)(Y:FxC F K)
include L X Y
section
variable {h:H}
theorem Wy:Ct P0 E F K 24 [.nils,.nils] h fun v h'=>(∃e:Nat,v= .tup [.agg (spC sp0),.int .i64 ((e:Nat):Int)]∧0<e∧e<1000)∧K0 h h':=by
 refine Ad L X.f24 X.k24 rfl rfl fun Q x cs G=>?_
 refine wk ?_
 refine Ip L rfl rfl rfl rfl ?_
 refine wk ?_
 refine Et L rfl rfl rfl rfl rfl (G3 L X) ?_
 rintro _ _ ⟨rfl,rfl⟩
 exact Ed L X rfl rfl lkp lkp (by omega) G fun h9 k9=>⟨⟨2,rfl,by omega,by omega⟩,Kp.trS k9 (fun i hi e=>by omega) kps⟩
theorem oc {κ: Nat→Nat}{d i j:Nat}{D:Dv}(r:DevR κ h d D)(hi:i<D.nb)(hj:j<D.P)(hoff:D.off=false)(he:((D.bl i).pg j).st≠2∧((D.bl i).pg j).st≠3):
  Ct P0 E F K 23 [.ptr d 0,.int .i64 ((i:Nat):Int),.int .i64 ((j:Nat):Int)] h fun v h'=>(∃e:Nat,v= .tup [.nils,.nils,.int .i64 ((e:Nat):Int)]∧0<e∧e<1000)∧K0 h h':=by
 obtain⟨ok,fm,bb,cb,q⟩:=r
 have hd:=q.dk
 have hbk:=q.bk
 obtain⟨pn,c,hr⟩:=q.rows i hi
 have hst:=((ok.bl i hi).pg j hj).st
 have hP:=ok.g.P
 have hpk:=hr.row.k
 have hc0:=hr.c0
 have hc0':cb[i*3+0]?=some (.slc pn 0 D.P D.P):=hc0
 have hp1:=(hr.row.pg j hj).st
 refine Bz L X.f23 X.k23 rfl rfl fun Q x cs G=>?_
 refine wk ?_
 refine cal (c:=Fg L X hd) (g:=?_)
 rintro _ rfl
 refine wk ?_
 refine cal (c:=Hs L X hd) (g:=?_)
 rintro _ rfl
 rw [decide_eq_true (show(0≤(i:Int)∧(i:Int)<D.nb)∧0≤(j:Int)∧(j:Int)<D.P by omega)]
 obtain⟨s2,s3⟩:=he
 have hp0:=(hr.row.pg j hj).none s2 s3
 unfold dvC dvL at hd
 rw [hoff]at hd
 refine wk ?_
 by_cases s1:((D.bl i).pg j).st=1
 ·refine wk ?_
  refine ret X.f23 ?_
  exact⟨⟨52,rfl,by omega,by omega⟩,kps⟩
 by_cases s4:((D.bl i).pg j).st=4
 ·refine wk ?_
  refine ret X.f23 ?_
  exact⟨⟨53,rfl,by omega,by omega⟩,kps⟩
 ·refine wk ?_
  refine ret X.f23 ?_
  exact⟨⟨53,rfl,by omega,by omega⟩,kps⟩
end
end
section
variable {P0:Program}{E:Env}{F:T CFn}{K:T (List AV×AV)}(L:Lg P0 E F K)(X:Fx F K)
include L X
abbrev Act:=(Int×Int×List Int)×AV
def acC (x:Act):List AV:= [AI x.1.1,AI x.1.2.1,x.2]
omit L X in
theorem Nv (l:List Act): ∀x∈l,(acC x).length=3:=fun _ _=>rfl
structure AcR (κ: Nat→Nat)(h:H)(v:AV)(l:List Act):Prop where
 el: ∀x∈l,IntsR κ h x.2 x.1.2.2
 ex:(l= []∧v= .nils)∨(l= []∧ ∃a,v= .opq (.slice (some a) 0 0))∨ ∃b cap,v= .slc b 0 l.length cap∧Rk h b (l.flatMap acC)∧κ b=0
omit L X in
theorem AcR.fw {κ κ':Nat→Nat}{h h':H}{v:AV}{l:List Act}(q:AcR κ h v l)(f:Fw κ h κ' h'):AcR κ' h' v l:=by
 refine⟨fun x hx=>(q.el x hx).fw f,?_⟩
 rcases q.ex with h1|h1|⟨b,cap,h1,h2,h3⟩
 ·exact .inl h1
 ·exact .inr (.inl h1)
 ·exact .inr (.inr ⟨b,cap,h1,f.rk h2 h3,(f.col b h2.lt).trans h3⟩)
def tf (g0 g1 g2 g3:Int):List AV:= [AI g0,AI g1,AI g2,AI g3]
def Rm (g0 g1 g2 g3 S:Int):Prop:=2≤g0∧g0≤12∧2≤g1∧g1≤5∧12≤g2∧g2≤30∧1≤g3∧g3≤1000∧1≤S∧S≤10
section
variable {h:H}
theorem Rn {g0 g1 g2 g3 S:Int}(hs:Rm g0 g1 g2 g3 S):Ct P0 E F K 7 [.agg (tf g0 g1 g2 g3),AI S] h fun u h'=>u= .bool true∧K0 h h':=by
 obtain⟨h0,h1,h2,h3,h4,h5,h6,h7,h8,h9⟩:=hs
 refine Ad L X.f7 X.k7 rfl rfl fun Q x cs G=>?_
 refine wk ?_
 refine ret X.f7 ?_
 exact⟨rfl,kps⟩
theorem cg {g0 g1 g2 g3 S:Int}(hs: ¬Rm g0 g1 g2 g3 S):Ct P0 E F K 7 [.agg (tf g0 g1 g2 g3),AI S] h fun u h'=>u= .bool false∧K0 h h':=by
 unfold Rm at hs
 by_cases h0:2≤g0
 rotate_left
 ·refine Ad L X.f7 X.k7 rfl rfl fun Q x cs G=>?_
  refine wk ?_
  refine ret X.f7 ?_
  exact⟨rfl,kps⟩
 by_cases h1:g0≤12
 rotate_left
 ·refine Ad L X.f7 X.k7 rfl rfl fun Q x cs G=>?_
  refine wk ?_
  refine ret X.f7 ?_
  exact⟨rfl,kps⟩
 by_cases h2:2≤g1
 rotate_left
 ·refine Ad L X.f7 X.k7 rfl rfl fun Q x cs G=>?_
  refine wk ?_
  refine ret X.f7 ?_
  exact⟨rfl,kps⟩
 by_cases h3:g1≤5
 rotate_left
 ·refine Ad L X.f7 X.k7 rfl rfl fun Q x cs G=>?_
  refine wk ?_
  refine ret X.f7 ?_
  exact⟨rfl,kps⟩
 by_cases h4:12≤g2
 rotate_left
 ·refine Ad L X.f7 X.k7 rfl rfl fun Q x cs G=>?_
  refine wk ?_
  refine ret X.f7 ?_
  exact⟨rfl,kps⟩
 by_cases h5:g2≤30
 rotate_left
 ·refine Ad L X.f7 X.k7 rfl rfl fun Q x cs G=>?_
  refine wk ?_
  refine ret X.f7 ?_
  exact⟨rfl,kps⟩
 by_cases h6:1≤g3
 rotate_left
 ·refine Ad L X.f7 X.k7 rfl rfl fun Q x cs G=>?_
  refine wk ?_
  refine ret X.f7 ?_
  exact⟨rfl,kps⟩
 by_cases h7:g3≤1000
 rotate_left
 ·refine Ad L X.f7 X.k7 rfl rfl fun Q x cs G=>?_
  refine wk ?_
  refine ret X.f7 ?_
  exact⟨rfl,kps⟩
 by_cases h8:1≤S
 rotate_left
 ·refine Ad L X.f7 X.k7 rfl rfl fun Q x cs G=>?_
  refine wk ?_
  refine ret X.f7 ?_
  exact⟨rfl,kps⟩
 have h9: ¬S≤10:=fun h9=>hs ⟨h0,h1,h2,h3,h4,h5,h6,h7,h8,h9⟩
 refine Ad L X.f7 X.k7 rfl rfl fun Q x cs G=>?_
 refine wk ?_
 refine ret X.f7 ?_
 exact⟨rfl,kps⟩
def Few (l:List Act):Prop:=l.length≤40∧ ∀x∈l,x.1.2.2.length≤6
theorem yi {κ: Nat→Nat}{v:AV}{l:List Act}(k:AcR κ h v l):Ct P0 E F K 8 [v,AI ((40:Nat):Int)] h fun u h'=> ∃b:Bool,u= .bool b∧(b=true↔Few l)∧K0 h h':=by
 rcases k.ex with⟨rfl,rfl⟩|⟨rfl,a,rfl⟩|⟨b,cap,rfl,hb,hc⟩
 ·refine Ad L X.f8 X.k8 rfl rfl fun Q x cs G=>?_
  refine wk ?_
  refine A2 L ?_
  refine wk ?_
  refine ret X.f8 ?_
  exact⟨true,rfl,⟨fun _=>⟨by simp,fun x hx=>by cases hx⟩,fun _=>rfl⟩,kps⟩
 ·refine Ad L X.f8 X.k8 rfl rfl fun Q x cs G=>?_
  refine wk ?_
  refine A2 L ?_
  refine wk ?_
  refine ret X.f8 ?_
  exact⟨true,rfl,⟨fun _=>⟨by simp,fun x hx=>by cases hx⟩,fun _=>rfl⟩,kps⟩
 ·have lb:=hb.lt
  by_cases hm:40<l.length
  ·refine Ad L X.f8 X.k8 rfl rfl fun Q x cs G=>?_
   refine wk ?_
   refine ret X.f8 ?_
   exact⟨false,rfl,⟨(fun e=>by cases e),fun e=>absurd e.1 (by omega)⟩,kps⟩
  ·refine Ad L X.f8 X.k8 rfl rfl fun Q x cs G=>?_
   refine wk ?_
   refine Co L (α:= Unit) (T:=fun i _=> [(5,some (AI ((i:Nat):Int))),(0,some (.slc b 0 l.length cap))]) (n:=l.length)
    (R:=fun i _ h2=>(∀x∈l.take i,x.1.2.2.length≤6)∧K0 h h2) (i0:=0) () tsb ⟨by simp,kps⟩ (Nat.zero_le _) ?_ ?_
   ·rintro i _ h2 hi ⟨w1,w2⟩ ih
    have hx:l[i]?=some l[i]:=List.getElem?_eq_getElem hi
    have htk:l.take (i+1)=l.take i++ [l[i]]:=by rw [List.take_add_one,hx];rfl
    have hk:=Pi w2 hb
    have hin:=List.getElem_mem hi
    have key:(l.flatMap acC)[i*3+2]?=some l[i].2:=by rw [B8 l (Nv l) i 2 _ hx (by omega)];rfl
    have hq:=k.el _ hin
    generalize l[i]=y at*
    obtain⟨⟨yw,yb,ys⟩,yv⟩:=y
    simp only at hq key
    have ok:ys.length≤6→ ∀x∈l.take (i+1),x.1.2.2.length≤6:=fun h6 x hx=>by
     rw [htk]at hx
     rcases List.mem_append.1 hx with h|h
     ·exact w1 x h
     ·rw [List.mem_singleton]at h;subst h;exact h6
    rcases hq.ex with⟨rfl,rfl⟩|⟨rfl,a,rfl⟩|⟨c,cp,rfl,-,-⟩
    ·refine wk ?_
     (apply st1 L rfl;exact Fd rfl lkr key;rfl)
     refine wk ?_
     refine ih () _ _ ⟨ok (by simp),by exact kps⟩ ?_
     exact tsb
    ·refine wk ?_
     (apply st1 L rfl;exact Fd rfl lkr key;rfl)
     refine wk ?_
     refine ih () _ _ ⟨ok (by simp),by exact kps⟩ ?_
     exact tsb
    ·by_cases h6:ys.length≤6
     ·refine wk ?_
      (apply st1 L rfl;exact Fd rfl lkr key;rfl)
      refine wk ?_
      refine ih () _ _ ⟨ok h6,by exact kps⟩ ?_
      exact tsb
     ·refine wk ?_
      (apply st1 L rfl;exact Fd rfl lkr key;rfl)
      refine wk ?_
      refine ret X.f8 ?_
      exact⟨false,rfl,⟨(fun e=>by cases e),fun e=>absurd (e.2 _ hin) h6⟩,kps⟩
   ·rintro _ h2 ⟨w1,w2⟩
    rw [List.take_length]at w1
    refine wk ?_
    refine ret X.f8 ?_
    exact⟨true,rfl,⟨fun _=>⟨by omega,w1⟩,fun _=>rfl⟩,by exact kps⟩
end
end
section
variable {P0:Program}{E:Env}{F:T CFn}{K:T (List AV×AV)}(L:Lg P0 E F K)(X:Fx F K)
include L X
omit L X in
theorem Pl.new {nb P sz en S:Nat}{flt:Nat→Bool}(h0:2≤nb∧nb≤12)(h1:2≤P∧P≤6)(h2:12≤sz∧sz≤30)(h3:1≤en∧en≤1000):Pl (Ap.new (Dv.new nb P sz en flt) S) 0 (List.replicate S (List.replicate sz 0)):=by
 have hsel: ∀k,(Ap.new (Dv.new nb P sz en flt) S).sel k= -1:=fun k=>by cases k <;> rfl
 refine⟨⟨⟨h0,h1,h2,h3⟩,rfl,rfl,rfl,⟨fun k=>⟨fun h=>?_,?_⟩,fun k h=>?_⟩,fun b _=>Nat.zero_le _,fun b _ h=>?_,fun b _ _=>rfl,fun y h=>?_,fun h=>?_,fun h=>?_,fun s p h=>?_,fun s s' p h=>?_⟩,⟨?_,fun b n h=>?_,fun b=>Nat.le_refl _,Nat.le_refl _,Nat.le_refl _⟩,List.length_replicate,fun i d hi=>?_⟩
 ·rw [hsel]at h;omega
 ·rw [hsel];omega
 ·rw [hsel]at h;omega
 ·have h:(1:Nat)=2:=h;omega
 ·have h:false=true:=h;cases h
 ·have h:(0:Int)≤ -1:=h;omega
 ·have h:(0:Int)≤ -1:=h;omega
 ·have h:(none:Option Int)=some p:=h;cases h
 ·have h:(none:Option Int)=some p:=h;cases h
 ·show 0<1;omega
 ·have h:(none:Option Nat)=some n:=h;cases h
 ·rw [List.getElem?_replicate]at hi
  split at hi
  ·cases hi;rfl
  ·cases hi
section
variable {h:H}
theorem Wz {κ: Nat→Nat}{g0 g1 g2 g3 S:Nat}{v:AV}{fl:List Int}(hs:Rm ((g0:Nat):Int) ((g1:Nat):Int) ((g2:Nat):Int) ((g3:Nat):Int) ((S:Nat):Int))(qf:IntsR κ h v fl)(hf: ∀x∈fl,0≤x)(hfn:fl.length<1000):
  Ct P0 E F K 10 [.agg (Jk g0 g1 g2 g3),AI ((S:Nat):Int),v] h fun u h'=> ∃ab I κ' dv,u= .tup [.ptr ab 0,.agg [AI ((g2:Nat):Int),dv],.bool true]∧ApR κ' h' I (Ap.new (Dv.new g0 g1 g2 g3 (M9 fl)) S)∧Bk h' ab [.ptr I.s 0]∧κ' ab=0∧DkR h' (fun b=>κ' b=0) dv g2 (List.replicate S (List.replicate g2 0))∧K0 h h'∧ ∀b,b<h.n→κ' b=κ b:=by
 obtain⟨h0,h1,h2,h3,h4,h5,h6,h7,h8,h9⟩:=hs
 unfold Jk
 refine Bz L X.f10 X.k10 rfl rfl fun Q x cs G=>?_
 refine wk ?_
 have kk:K0 h (hp (h.n+1+1) h.t [(h.n+1,some (cl [AI ((0:Nat):Int),.nils])),(h.n,some (cl (Jk g0 g1 g2 g3)))]):=kps
 have qf1:IntsR (Dd κ h.n) (hp (h.n+1+1) h.t [(h.n+1,some (cl [AI ((0:Nat):Int),.nils])),(h.n,some (cl (Jk g0 g1 g2 g3)))]) v fl:=qf.fw ⟨kk.n,fun b hb _=>kk.old b hb id,fun b hb=>C7 hb⟩
 refine cal (c:=xo (g0:=g0) (g1:=g1) (g2:=g2) (g3:=g3) L X (by omega) (by omega) (by omega) (by omega) qf1 hf hfn) (g:=?_)
 rintro _ h2' ⟨d,κ2,rfl,k2,r2,c2⟩
 have n2:=k2.n
 simp only [Am]at n2 c2
 refine wk ?_
 refine cal (c:=sq L X r2 (S:=S) (by omega) rfl (fun _ _=>rfl) (fun _ _=>Nat.zero_le _)) (g:=?_)
 rintro _ h3' ⟨ab,I,κ3,rfl,ka,ca,rfl,r3,k3,c3⟩
 have n3:=k3.n
 refine wk ?_
 refine cal (c:=si (sz:=g2) (S:=S) L X (by omega) (by omega)) (g:=?_)
 rintro _ h4' ⟨dv,rfl,q4,k4⟩
 have n4:=k4.n
 refine wk ?_
 refine cal (c:=Eg L X) (g:=?_)
 rintro _ rfl
 refine wk ?_
 refine cal (c:=Eg L X) (g:=?_)
 rintro _ rfl
 refine wk ?_
 have hp9:=q4.plain (z:=((g2:Nat):Int))
 (apply stS L rfl rfl rfl rfl rfl hp9;exact lkp;rfl;rfl)
 refine wk ?_
 refine Aab L X.f10 (uc rfl (Km rfl (Bk.e lkp) rfl (C0 rfl))) G ?_
 have c9:κ3 (h.n+1)=200:=(c3 _ (by omega)).trans ((c2 _ (by omega)).trans (Be (by omega)))
 have lka:=ka.lt
 have nab:ab≠h.n+1:=fun e=>by rw [e,c9]at ca;omega
 refine⟨ab,I,ext κ3 h3'.n,dv,rfl,(r3.k0 k4 fun b hb=>Af hb).out (B:=fun j=>j=h.n+1) ?_ (fun b _ e=>by subst e;rw [Af (by omega),c9];exact Nat.le_refl _),by exact lkp,(Af lka).trans ca,(q4.kp (B:=fun j=>j=h.n+1) ?_ fun b e _ u=>by have u9:h3'.n≤b:=u;omega).mono fun b _ u=>B4 u,kps,fun b hb=>(Af (by omega)).trans ((c3 b (by omega)).trans ((c2 b (by omega)).trans (C7 hb)))⟩
 ·exact kps
 ·exact kps
end
end
section
variable {P0:Program}{E:Env}{F:T CFn}{K:T (List AV×AV)}(L:Lg P0 E F K)(X:Fx F K)
include L X
structure Wk (P:Program)(E:Env)(F:T CFn)(K:T (List AV×AV)):Prop where
 ct: ∀h,Ct P E F K 9 [] h fun v h'=>v= .bool true∧h'=h
section
variable {h:H}{κ: Nat→Nat}
end
section
variable {h:H}{κ: Nat→Nat}
end
section
variable {h:H}{κ: Nat→Nat}
end
end
section
variable {P0:Program}{E:Env}{F:T CFn}{K:T (List AV×AV)}(L:Lg P0 E F K)(X:Fx F K)(Y:FxC F K)
include L X Y
omit L X Y in
theorem AChg.mp {κ κ':Nat→Nat}{h h':H}{S nb P m r1 r2 vb:Nat}{A:Int→Option Int}(a:AChg κ h κ' h')(q:MpR S nb P h m r1 r2 vb A)(c:κ m=200∧κ r1=200∧κ r2=200∧κ vb=200):MpR S nb P h' m r1 r2 vb A∧(κ' m=200∧κ' r1=200∧κ' r2=200∧κ' vb=200):=by
 obtain⟨l1,l2,l3,l4⟩:=q.lt
 exact⟨q.kp a.k (by omega) (by omega) (by omega) (by omega),by rw [a.col _ l1,a.col _ l2,a.col _ l3,a.col _ l4];exact c⟩
section
variable {h:H}{κ: Nat→Nat}{I:Ai}{S:Ap}
theorem Ro {ab b3 k g2 g3 n:Nat}{cv:AV}{Z:List (List Nat)}(W:Wk P0 E F K)(r:ApR κ h I S)(ka:Bk h ab [.ptr I.s 0])(ca:κ ab=0)(p:PlG Evi S k Z)(k3:Bk h b3 (Jk S.D.nb S.D.P g2 g3))(c3:κ b3=0)
  (hn:n=(S.cds S.D.nb).length) (hcv:cv= .nils∧n=0∨ ∃cb,cv= .slc cb 0 n (Aa+4))
  {lq:List (Nat×Option AV)} (ht:TSub (tms [(211,some (.ptr ab 0)),(210,some (AI ((S.D.nb - n:Nat):Int))),(209,some (AI ((n:Nat):Int))),(208,some cv),(207,some (AI ((S.D.nb:Nat):Int))),(206,some (.ptr b3 (0+0))),(16,some cv),(10,some (.ptr ab 0)),(4,some (.ptr b3 0))]) (tms lq)):
  Good P0 E (fun fn u=>fn=5∧u= .bool true) ⟨⟨5,cf5.ntmps,tms lq,[.drawn ⟨⟨Cc 212 14 [.t 211],[211]⟩,[⟨Cb 213 .sub 210 212,[210,212]⟩,⟨Cv 25 213,[213]⟩],[⟨Cf 206 4 0,[4]⟩,⟨Cl 207 206,[206]⟩,⟨Cv 208 16,[16]⟩,⟨Cj 209 (.lenS (.t 208)),[208]⟩,⟨Cb 210 .sub 207 209,[207,209]⟩]⟩ [],.code c5_93],[],.run,false,none⟩,[],hp h.n h.t []⟩:=by
 refine E0 L ht ?_
 have l3:=k3.lt
 have hnb:=p.inv.geo.nb
 have hlc:=Jh S S.D.nb
 have hsu: ∀k,S.su k=true→0≤k∧k<S.D.nb:=fun y hy=>let⟨b,e1,e2,_⟩:=p.ev.su y hy;⟨by omega,by omega⟩
 have hfr:=Gh S.ps 1 S.D.nb
 have hfr':frees S≤S.D.nb:=hfr
 rcases hcv with⟨rfl,rfl⟩|⟨cb,rfl⟩
 all_goals
  refine cal (c:=Su L X r ka) (g:=?_)
  rintro _ h1 ⟨κ1,rfl,r1,a1⟩
  obtain⟨ka1,ca1⟩:=a1.bk ka ca
  obtain⟨k31,c31⟩:=a1.bk k3 c3
  have l3:=k31.lt
  refine wk ?_
  refine cal (c:=s8 L X Y r1 ka1) (g:=?_)
  rintro _ h2 ⟨κ2,nj,rfl,hj,r2,a2⟩
  have hrest:=oa p.inv hj
  obtain⟨ka2,ca2⟩:=a2.bk ka1 ca1
  obtain⟨k32,c32⟩:=a2.bk k31 c31
  have l3:=k32.lt
  refine wk ?_
  refine cal (c:=Su L X r2 ka2) (g:=?_)
  rintro _ h3 ⟨κ3,rfl,r3,a3⟩
  obtain⟨ka3,ca3⟩:=a3.bk ka2 ca2
  obtain⟨k33,c33⟩:=a3.bk k32 c32
  have l3:=k33.lt
  refine wk ?_
  refine cal (c:=nv L X Y r3 ka3 hsu) (g:=?_)
  rintro _ h4 ⟨κ4,n4,rfl,hb4,r4,a4⟩
  have hb4':=Yj p.ev hb4
  obtain⟨ka4,ca4⟩:=a4.bk ka3 ca3
  obtain⟨k34,c34⟩:=a4.bk k33 c33
  have l3:=k34.lt
  refine wk ?_
  refine cal (c:=nv L X Y r4 ka4 hsu) (g:=?_)
  rintro _ h5 ⟨κ5,n5,rfl,hb5,r5,a5⟩
  have hb5':=Yj p.ev hb5
  obtain⟨k35,c35⟩:=a5.bk k34 c34
  have l3:=k35.lt
  refine wk ?_
  refine cal (c:=W.ct _) (g:=?_)
  try rintro _ _ ⟨rfl,rfl⟩
  try rintro _ rfl
  refine wk ?_
  refine D0 L (todo:= []) ?_
  exact T5 L Y.f5 (C0 rfl) ⟨rfl,rfl⟩
end
end
section
variable {P0:Program}{E:Env}{F:T CFn}{K:T (List AV×AV)}(L:Lg P0 E F K)(X:Fx F K)(Y:FxC F K)
include L X Y
omit L X Y in
theorem od (s:Sp)(data:List Nat):(An s data).length=64:=by unfold An;rw [List.length_append,Ec,A5]
section
variable {h:H}{κ: Nat→Nat}{I:Ai}{S:Ap}
theorem W2 {ab b3 cb k g2 g3 m r1 r2 vb:Nat}{Z:List (List Nat)}(T:Tb P0 E F K)(W:Wk P0 E F K)(r:ApR κ h I S)(ka:Bk h ab [.ptr I.s 0])(ca:κ ab=0)(p:PlG Evi S k Z)(hk:k≤100000)(k3:Bk h b3 (Jk S.D.nb S.D.P g2 g3))(c3:κ b3=0)
  (kcb:Bk h cb ((S.cds S.D.nb).flatMap (cdC S))) (ccb:κ cb=0) (mp:MpR S.S S.D.nb S.D.P h m r1 r2 vb S.A) (cm:κ m=200∧κ r1=200∧κ r2=200∧κ vb=200)
  {lq:List (Nat×Option AV)} (ht:TSub (tms [(17,some (AI ((0:Nat):Int))),(16,some (.slc cb 0 (S.cds S.D.nb).length (Aa+4))),(14,some (.ptr m 0)),(10,some (.ptr ab 0)),(4,some (.ptr b3 0))]) (tms lq)):
  Good P0 E (fun fn u=>fn=5∧u= .bool true) ⟨⟨5,cf5.ntmps,tms lq,[.code c5_88,.inBlock 4,.code c5_94],[],.run,false,none⟩,[],hp h.n h.t []⟩:=by
 have hlc:=Jh S S.D.nb
 have hnb:=p.inv.geo.nb
 have hP:=p.inv.geo.P
 have hsz:=p.inv.geo.sz
 have hnx:=p.bd.nx
 refine Co L (α:= Nat→Nat) (T:=fun i _=> [(17,some (AI ((i:Nat):Int))),(16,some (.slc cb 0 (S.cds S.D.nb).length (Aa+4))),(14,some (.ptr m 0)),(10,some (.ptr ab 0)),(4,some (.ptr b3 0))]) (n:=(S.cds S.D.nb).length)
  (R:=fun i a hh=>ApR a hh I S∧AChg κ h a hh) (i0:=0) κ ht ⟨r,AChg.refl _ _⟩ (Nat.zero_le _) ?_ ?_
 ·rintro i κ1 h1 hi ⟨r1,a1⟩ ih
  obtain⟨ka1,ca1⟩:=a1.bk ka ca
  obtain⟨kcb1,ccb1⟩:=a1.bk kcb ccb
  obtain⟨k31,c31⟩:=a1.bk k3 c3
  obtain⟨mp1,cm1⟩:=a1.mp mp cm
  have hx:(S.cds S.D.nb)[i]?=some (S.cds S.D.nb)[i]:=List.getElem?_eq_getElem hi
  have hin:=(Ek (S:=S) S.D.nb).1 (List.getElem_mem hi)
  have hf0:((S.cds S.D.nb).flatMap (cdC S))[i*4+0]?=some (AI (((S.cds S.D.nb)[i]:Nat):Int)):=by rw [B8 _ (Ej S _) i 0 _ hx (by omega)];rfl
  have hf1:((S.cds S.D.nb).flatMap (cdC S))[i*4+1]?=some (AI ((valA S.A S.D.P (S.cds S.D.nb)[i]:Nat):Int)):=by rw [B8 _ (Ej S _) i 1 _ hx (by omega)];rfl
  have hf2:((S.cds S.D.nb).flatMap (cdC S))[i*4+2]?=some (AI ((S.D.P:Nat):Int)):=by rw [B8 _ (Ej S _) i 2 _ hx (by omega)];rfl
  have hf3:((S.cds S.D.nb).flatMap (cdC S))[i*4+3]?=some (AI ((S.age (S.cds S.D.nb)[i]:Nat):Int)):=by rw [B8 _ (Ej S _) i 3 _ hx (by omega)];rfl
  have hprev:0<i→ ∃c,((S.cds S.D.nb).flatMap (cdC S))[(i - 1)*4+0]?=some (AI ((c:Nat):Int))∧c<(S.cds S.D.nb)[i]:=fun h0=>by
   have hx1:(S.cds S.D.nb)[i - 1]?=some (S.cds S.D.nb)[i - 1]:=List.getElem?_eq_getElem (by omega)
   refine⟨(S.cds S.D.nb)[i - 1],by rw [B8 _ (Ej S _) (i - 1) 0 _ hx1 (by omega)];rfl,?_⟩
   exact List.pairwise_iff_getElem.1 (Sz S S.D.nb) (i - 1) i (by omega) hi (by omega)
  generalize (S.cds S.D.nb)[i]=b at*
  obtain⟨ev1,ev2⟩:=p.ev.bl b hin.1 hin.2.2 (by omega)
  have hwn: ∀w0,S.wr ((b:Nat):Int)=some w0→w0<S.next:=fun w0 h=>p.bd.wr _ _ h
  have hlcl:((S.cds S.D.nb).flatMap (cdC S)).length=(S.cds S.D.nb).length*4:=Db _ (Ej S _)
  have l3:=k31.lt
  have lcb:=kcb1.lt
  refine wk ?_
  refine Co L (α:= Nat) (T:=fun j last=> [(19,some (AI ((j:Nat):Int))),(18,some (.int .u64 ((last:Nat):Int))),(17,some (AI ((i:Nat):Int))),(16,some (.slc cb 0 (S.cds S.D.nb).length (Aa+4))),(14,some (.ptr m 0)),(10,some (.ptr ab 0)),(4,some (.ptr b3 0))]) (n:=S.D.P)
   (R:=fun j last hh=>K0 h1 hh∧last≤(S.wr ((b:Nat):Int)).getD 0∧ ∀j',j'<j→j'<(S.D.bl b).nx→ ∀n,1≤n→n<S.next→PgV S.D.sz n ((S.D.bl b).pg j')→n≤last) (i0:=0) 0 tsb ⟨Kp.refl _,Nat.zero_le _,fun j' hj'=>absurd hj' (Nat.not_lt_zero j')⟩ (Nat.zero_le _) ?_ ?_
  ·rintro j last hh hj ⟨t1,t2,t3⟩ ih2
   have r':ApR κ1 hh I S:=r1.k0 t1 fun _ _=>rfl
   have ka':=Ag t1 ka1
   have kcb':=Ag t1 kcb1
   have k3':=Ag t1 k31
   have l3:=k3'.lt
   have lcb:=kcb'.lt
   have lka:=ka'.lt
   by_cases hs:((S.D.bl b).pg j).st=2∧j<(S.D.bl b).nx
   ·obtain⟨hs2,hjx⟩:=hs
    obtain⟨n,w0,hv,n1,hw,hle⟩: ∃n w0,PgV S.D.sz n ((S.D.bl b).pg j)∧1≤n∧S.wr ((b:Nat):Int)=some w0∧n≤w0:=by
     rcases ev1 j hjx with e|e
     ·omega
     ·exact e
    have hwn':=hwn w0 hw
    obtain⟨sec,data,hpe,hdl,s0,s1⟩:=hv
    have hb:((S.D.bl b).pg j).b=data++An (spD sec n) data:=by rw [hpe]
    refine wk ?_
    refine cal (c:=P3 L X Y r' ka') (g:=?_)
    rintro _ rfl
    refine wk ?_
    refine cal (c:=Ub L X r'.dv hin.1 hjx p.inv.off (.inl hs2)) (g:=?_)
    rintro _ h2 ⟨b1,b2,rfl,w1,w2,w3,w4,w5⟩
    rw [hb,←hdl,List.take_left]at w1
    rw [hb,←hdl,List.drop_left]at w2
    have n2:=w5.n
    have m1:=w1.lt_n
    have m2:=w2.lt_n
    refine wk ?_
    refine cal (c:=Z5 L X T w2 w1 (od _ _) hdl (by omega)) (g:=?_)
    rintro _ h4 ⟨⟨e,rfl,he0,he1⟩,w6⟩
    have hdr:=P4 (data:=data) (Nr (sec:=sec) (n:=n) (by omega) (by omega))
    have hsc:spC ((V4 (An (spD sec n) data) data).getD sp0)= [.int .u8 ((1:Nat):Int),.int .i64 sec,.int .u64 ((n:Nat):Int),.int .u64 ((0:Nat):Int),.int .i64 0,.int .i64 1]:=by rw [hdr];rfl
    rw [hsc]
    rw [hdr]at he0
    have e0:e=0:=he0.2 rfl
    subst e0
    have n4:=w6.n
    refine wk ?_
    refine cal (c:=Eg L X) (g:=?_)
    rintro _ rfl
    refine wk ?_
    refine cal (c:=Eg L X) (g:=?_)
    rintro _ rfl
    refine wk ?_
    refine ih2 (max last n) _ _ ⟨?_,?_,?_⟩ ?_
    ·exact Kp.tr0 (Kp.tr0 (Kp.tr0 (by exact kps) w6) w5) t1
    ·rw [hw];show max last n≤w0;rw [hw]at t2;have t2':last≤w0:=t2;omega
    ·intro j' hj' hjx' n' n1' n2' hv'
     rcases Nat.lt_or_ge j' j with h|h
     ·have:=t3 j' h hjx' n' n1' n2' hv';omega
     ·have:j'=j:=by omega
      subst this
      have:=PgV.inj hv' ⟨sec,data,hpe,hdl,s0,s1⟩ (by omega) (by omega)
      omega
    ·exact tsb
   ·have hne:((S.D.bl b).pg j).st≠2∧((S.D.bl b).pg j).st≠3:=by
     by_cases hjx:j<(S.D.bl b).nx
     ·rcases ev1 j hjx with e|⟨n,w0,⟨sec,data,hpe,-⟩,-⟩
      ·omega
      ·exact absurd ⟨by rw [hpe],hjx⟩ hs
     ·have:=(r'.dv.ok.bl b hin.1).hi j (by omega) hj
      omega
    refine wk ?_
    refine cal (c:=P3 L X Y r' ka') (g:=?_)
    rintro _ rfl
    refine wk ?_
    refine cal (c:=oc L X Y r'.dv hin.1 hj p.inv.off hne) (g:=?_)
    rintro _ h2 ⟨⟨e,rfl,he1,he2⟩,w5⟩
    have n2:=w5.n
    refine wk ?_
    refine cal (c:=Wy L X Y) (g:=?_)
    rintro _ h4 ⟨⟨e2,rfl,he3,he4⟩,w6⟩
    have n4:=w6.n
    refine wk ?_
    refine cal (c:=Eg L X) (g:=?_)
    rintro _ rfl
    refine wk ?_
    refine cal (c:=Eg L X) (g:=?_)
    rintro _ rfl
    refine wk ?_
    refine ih2 last _ _ ⟨?_,t2,?_⟩ ?_
    ·exact Kp.tr0 (Kp.tr0 (Kp.tr0 (by exact kps) w6) w5) t1
    ·intro j' hj' hjx' n' n1' n2' hv'
     rcases Nat.lt_or_ge j' j with h|h
     ·exact t3 j' h hjx' n' n1' n2' hv'
     ·have:j'=j:=by omega
      subst this
      obtain⟨sec,data,hpe,-⟩:=hv'
      exact absurd ⟨by rw [hpe],hjx'⟩ hs
    ·exact tsb
  ·rintro last hh ⟨t1,t2,t3⟩
   have hlast:last=(S.wr ((b:Nat):Int)).getD 0:=by
    cases hw:S.wr ((b:Nat):Int)with
    |none=>rw [hw]at t2;exact Nat.le_zero.1 t2
    |some w0=>
     rw [hw]at t2
     have t2':last≤w0:=t2
     obtain⟨j,j1,j2⟩:=ev2 w0 hw
     obtain⟨n,w1,a1,a2,a3,a4⟩: ∃n w1,PgV S.D.sz n ((S.D.bl b).pg j)∧1≤n∧S.wr ((b:Nat):Int)=some w1∧n≤w1:=by
      rcases ev1 j j1 with e|e
      ·obtain⟨sec,data,hpe,-⟩:=j2
       rw [hpe]at e;cases e
      ·exact e
     have hj:=(r1.dv.ok.bl b hin.1).nx
     have g1:=t3 j (by omega) j1 n a2 (by have:=hwn w1 a3;omega) a1
     have h1:=hwn w0 hw
     by_cases z:w0=0
     ·show last=w0;omega
     ·have:=PgV.inj a1 j2 (by have:=hwn w1 a3;omega) (by omega)
      show last=w0
      omega
   have hage:S.age b=S.next - last:=by unfold Ap.age;rw [←hlast];omega
   have hln:last≤S.next:=by
    rw [hlast]
    cases hw:S.wr ((b:Nat):Int)with
    |none=>exact Nat.zero_le _
    |some w0=>exact Nat.le_of_lt (hwn w0 hw)
   rw [hage]at hf3
   have r':ApR κ1 hh I S:=r1.k0 t1 fun _ _=>rfl
   have ka':=Ag t1 ka1
   have kcb':=Ag t1 kcb1
   have k3':=Ag t1 k31
   have mp':=mp1.k0 t1
   have a':AChg κ h κ1 hh:=a1.trans (AChg.k0 t1 fun _ _=>rfl)
   have l3:=k3'.lt
   have lcb:=kcb'.lt
   rcases Nat.eq_zero_or_pos i with rfl|hip
   ·refine wk ?_
    refine cal (c:=G5 L X mp' hin.1) (g:=?_)
    rintro _ rfl
    refine wk ?_
    refine cal (c:=Ux L X Y r' ka') (g:=?_)
    rintro _ h3 ⟨κ3,n3,rfl,rfl,r3,a3⟩
    obtain⟨kcb3,ccb3⟩:=a3.bk kcb' ccb1
    have lcb:=kcb3.lt
    (apply Cp rfl rfl;exact Pa rfl rfl rfl hln (by show S.next<18446744073709551616;omega))
    refine wk ?_
    refine ih κ3 _ _ ⟨r3,a'.trans a3⟩ ?_
    exact tsb
   ·obtain⟨c,hc0,hcb⟩:=hprev hip
    refine wk ?_
    refine cal (c:=G5 L X mp' hin.1) (g:=?_)
    rintro _ rfl
    refine wk ?_
    refine cal (c:=Ux L X Y r' ka') (g:=?_)
    rintro _ h3 ⟨κ3,n3,rfl,rfl,r3,a3⟩
    obtain⟨kcb3,ccb3⟩:=a3.bk kcb' ccb1
    have lcb:=kcb3.lt
    (apply Cp rfl rfl;exact Pa rfl rfl rfl hln (by show S.next<18446744073709551616;omega))
    refine wk ?_
    refine ih κ3 _ _ ⟨r3,a'.trans a3⟩ ?_
    exact tsb
 ·rintro κ1 h1 ⟨r1,a1⟩
  obtain⟨ka1,ca1⟩:=a1.bk ka ca
  obtain⟨k31,c31⟩:=a1.bk k3 c3
  refine wk ?_
  refine Ro L X Y (h:=h1) W r1 ka1 ca1 p k31 c31 rfl (.inr ⟨cb,rfl⟩) ?_
  exact tsb
end
end
section
variable {P0:Program}{E:Env}{F:T CFn}{K:T (List AV×AV)}(L:Lg P0 E F K)(X:Fx F K)(Y:FxC F K)
include L X Y
section
variable {h:H}{κ: Nat→Nat}
theorem W3 {I:Ai}{S0:Ap}{ab b3 b8 g2 g3:Nat}{dv lv:AV}{al:List Act}{Z0:List (List Nat)}(T:Tb P0 E F K)(U:SortOk P0 E F 129)(W:Wk P0 E F K)(r:ApR κ h I S0)(ka:Bk h ab [.ptr I.s 0])(ca:κ ab=0)(q:DkR h (fun b=>κ b=0) dv S0.D.sz Z0)(ql:AcR κ h lv al)(hF:Few al)(p:PlG Evi S0 0 Z0)(hZ:0<Z0.length∧Z0.length≤10)
  (k3:Bk h b3 (Jk S0.D.nb S0.D.P g2 g3)) (c3:κ b3=0) (k8:Bk h b8 [AI ((S0.D.sz:Nat):Int),dv]) (c8:κ b8=200)
  {lq:List (Nat×Option AV)} (ht:TSub (tms [(13,some (AI ((0:Nat):Int))),(11,some (.ptr b8 0)),(10,some (.ptr ab 0)),(4,some (.ptr b3 0)),(3,some lv),(1,some (AI ((S0.S:Nat):Int)))]) (tms lq)):
  Good P0 E (fun fn u=>fn=5∧u= .bool true) ⟨⟨5,cf5.ntmps,tms lq,[.code c5_43,.inBlock 2,.code c5_98],[],.run,false,none⟩,[],hp h.n h.t []⟩:=by
 refine Co L (α:= Ap×List (List Nat)×(Nat→Nat)×AV) (T:=fun i _=> [(13,some (AI ((i:Nat):Int))),(11,some (.ptr b8 0)),(10,some (.ptr ab 0)),(4,some (.ptr b3 0)),(3,some lv),(1,some (AI ((S0.S:Nat):Int)))]) (n:=al.length)
  (R:=fun i a hh=>(ApR a.2.2.1 hh I a.1∧Bk hh ab [.ptr I.s 0]∧a.2.2.1 ab=0∧DkR hh (fun b=>a.2.2.1 b=0) a.2.2.2 S0.D.sz a.2.1∧AcR a.2.2.1 hh lv al)∧(Bk hh b3 (Jk S0.D.nb S0.D.P g2 g3)∧a.2.2.1 b3=0∧Bk hh b8 [AI ((S0.D.sz:Nat):Int),a.2.2.2]∧a.2.2.1 b8=200)∧PlG Evi a.1 (1000*i) a.2.1∧Sm S0 a.1) (i0:=0) (S0,Z0,κ,dv) ht
  ⟨⟨r,ka,ca,q,ql⟩,⟨k3,c3,k8,c8⟩,p,rfl,rfl,rfl,rfl,rfl⟩ (Nat.zero_le _) ?_ ?_
 ·rintro i ⟨S,Z,κ1,dv1⟩ h1 hi ⟨⟨r1,ka1,ca1,q1,ql1⟩,⟨k31,c31,k81,c81⟩,p1,sm1⟩ ih
  simp only at r1 ka1 ca1 q1 ql1 k31 c31 k81 c81 p1 sm1
  have l3:=k31.lt
  have l8:=k81.lt
  have lka:=ka1.lt
  have k31':=k31
  rw [←sm1.nb]at k31'
  rw [←sm1.sz]at k81 q1
  have hZ1:0<Z.length∧Z.length≤10:=by rw [p1.len,sm1.secs,←p.len];exact hZ
  rcases q1.ex with⟨rfl,-⟩|⟨-,lb,rows,rfl,-⟩
  ·exact absurd hZ1.1 (Nat.lt_irrefl _)
  have hx:al[i]?=some al[i]:=List.getElem?_eq_getElem hi
  have hin:=List.getElem_mem hi
  have hdt:=Ff al (Nv al) i _ hx
  have hel:=ql1.el _ hin
  have hsl:=hF.2 _ hin
  have hi40:=hF.1
  rcases ql1.ex with⟨e,-⟩|⟨e,-⟩|⟨lvb,lvc,rfl,klv,clv⟩
  ·subst e;exact absurd hi (Nat.not_lt_zero i)
  ·subst e;exact absurd hi (Nat.not_lt_zero i)
  generalize al[i]=y at*
  obtain⟨⟨yw,yb,ys⟩,yv⟩:=y
  simp only at hel hsl
  have hdt:i*3+3≤(al.flatMap acC).length∧((al.flatMap acC).drop (i*3)).take 3= [AI yw,AI yb,yv]:=hdt
  have w0:AS κ1 h1 I S ab (.slc lb 0 Z.length (Aa+1)) S.D.sz Z yv ys:=⟨r1,ka1,ca1,q1,hel⟩
  refine wk ?_
  (apply Cp rfl rfl;exact Bs (by exact lkr) hdt rfl)
  refine wk ?_
  refine cal (c:=sw L X T U w0 p1 hZ1 (by omega) hsl (by omega) (by rw [sm1.secs,←p.len];omega)) (g:=?_)
  rintro _ h3 ⟨S',Z',κ',dv',rfl,w',p',sm',a'⟩
  have n3:=a'.k.n
  obtain⟨k83,c83⟩:=a'.b2 k81 c81
  obtain⟨k33,c33⟩:=a'.bk k31 c31
  have ql3:=ql1.fw a'.fw
  have hZ':0<Z'.length∧Z'.length≤10:=by rw [p'.len,sm'.secs,←p1.len];exact hZ1
  rcases w'.q.ex with⟨rfl,-⟩|⟨-,lb',rows',rfl,-⟩
  ·exact absurd hZ'.1 (Nat.lt_irrefl _)
  have l83:=k83.lt
  refine wk ?_
  (apply Mw L rfl rfl rfl rfl rfl rfl rfl;exact lkp;rfl;intro h9 hs9;(repeat(first|(apply Cp rfl rfl;exact opv)|(apply Se rfl rfl)));(first|(apply p_0;exact chk)|(refine Pc L ?_ rfl ?_;exact chk));refine M8 L hs9 ?_)
  refine wk ?_
  have kO:Kp (fun j=>j=b8) h3 (hp h3.n h3.t [(b8,some (cl [AI ((S.D.sz:Nat):Int),.slc lb' 0 Z'.length (Aa+1)]))]):=kps
  have w3:=w'.own kO fun b _ e=>by subst e;exact c83
  have k85:Bk (hp h3.n h3.t [(b8,some (cl [AI ((S.D.sz:Nat):Int),.slc lb' 0 Z'.length (Aa+1)]))]) b8 [AI ((S.D.sz:Nat):Int),.slc lb' 0 Z'.length (Aa+1)]:=lkp
  have q5:=w3.q
  have e9:=sm1.sz
  have nb38: ¬b3=b8:=fun e=>by rw [e]at c33;omega
  refine ih (S',Z',κ',.slc lb' 0 Z'.length (Aa+1)) _ _ ⟨⟨w3.r,w3.ka,w3.ca,by rw [←e9];exact q5,ql3.fw (kO.fw fun b hb e=>by subst e;omega)⟩,⟨As kO nb38 k33,c33,by rw [←e9];exact k85,c83⟩,p'.mono (by omega),sm1.trans sm'⟩ ?_
  exact tsb
 ·rintro⟨S,Z,κ1,dv1⟩ h1 ⟨⟨r1,ka1,ca1,q1,ql1⟩,⟨k31,c31,k81,c81⟩,p1,sm1⟩
  simp only at r1 ka1 ca1 q1 ql1 k31 c31 k81 c81 p1 sm1
  rw [←sm1.nb,←sm1.P]at k31
  rw [←sm1.sz]at k81 q1
  have hZ1:0<Z.length∧Z.length≤10:=by rw [p1.len,sm1.secs,←p.len];exact hZ
  have hi40:=hF.1
  have hSS:S.S=S0.S:=sm1.secs
  have hS0:1≤S.S∧S.S≤10:=by rw [←p1.len];omega
  have hPP:=p1.inv.geo.P
  have hnb:=p1.inv.geo.nb
  have hnb0:=sm1.nb
  have hP0:=sm1.P
  have hq0:=ql1.ex
  rw [←hSS]
  rcases hq0 with⟨e,rfl⟩|⟨e,a,rfl⟩|⟨lvb,lvc,rfl,-,-⟩
  all_goals
   (try(have hz:al.length=0:=by rw [e];rfl))
   have l3:=k31.lt
   refine wk ?_
   refine cal (c:=Yc L X (S:=S.S) (nb:=S.D.nb) (P:=S.D.P) (by omega) (by omega) (by omega)) (g:=?_)
   rintro _ h2 ⟨m,r1',r2',vb,rfl,mp2,k2,g1',g2',g3',g4'⟩
   have a2:AChg κ1 h1 (Dd κ1 h1.n) h2:=AChg.k0 k2 fun b hb=>C7 hb
   have r2:ApR (Dd κ1 h1.n) h2 I S:=r1.k0 k2 fun b hb=>C7 hb
   have cm2:Dd κ1 h1.n m=200∧Dd κ1 h1.n r1'=200∧Dd κ1 h1.n r2'=200∧Dd κ1 h1.n vb=200:=⟨Be g1',Be g2',Be g3',Be g4'⟩
   obtain⟨ka2,ca2⟩:=a2.bk ka1 ca1
   obtain⟨k32,c32⟩:=a2.bk k31 c31
   have ml2:=mp2.lt
   refine wk ?_
   refine cal (c:=Eg L X) (g:=?_)
   rintro _ rfl
   refine wk ?_
   refine cal (c:=Uw L X Y U r2 ka2) (g:=?_)
   rintro ev h3 ⟨κ3,D,d1,d2,d3,dc,r3,a3⟩
   obtain⟨mp3,cm3⟩:=a3.mp mp2 cm2
   obtain⟨ka3,ca3⟩:=a3.bk ka2 ca2
   obtain⟨k33,c33⟩:=a3.bk k32 c32
   have hDl:=DomA.len p1.inv d1
   have hel:(B0 S.A D).length=D.length:=by unfold B0;rw [List.length_map]
   refine wk ?_
   refine cal (c:=Ly L X mp3 d3 (by omega) ⟨ml2.2.1,ml2.2.2.1,ml2.2.2.2,ml2.1⟩ (te p1.inv d1)) (g:=?_)
   rintro _ h4 ⟨rfl,k4,mp4⟩
   rw [ce d1 fun s pg hpg=>let⟨_,_,b,j,hp,_⟩:=p1.inv.map s pg hpg;(by omega)]at mp4
   have l33:=k33.lt
   have l34:=ka3.lt
   have r4:ApR κ3 h4 I S:=r3.out k4 fun b _ e=>by rcases e with rfl|rfl|rfl <;> omega
   have ka4:Bk h4 ab [.ptr I.s 0]:=As k4 (by rintro(rfl|rfl|rfl) <;> omega) ka3
   have k34:=As k4 (by rintro(rfl|rfl|rfl) <;> omega) k33
   refine wk ?_
   refine cal (c:=Eg L X) (g:=?_)
   rintro _ rfl
   refine wk ?_
   refine cal (c:=Yb L X r4 ka4 (fun b n e=>Nat.le_of_lt (p1.bd.wr b n e)) (by have:=p1.bd.nx;omega)) (g:=?_)
   rintro _ h5 ⟨κ5,cd,cc,r5,a5⟩
   obtain⟨ka5,ca5⟩:=a5.bk ka4 ca3
   obtain⟨k35,c35⟩:=a5.bk k34 c33
   obtain⟨mp5,cm5⟩:=a5.mp mp4 cm3
   have l3:=k35.lt
   rcases cd.ex with⟨e0,rfl⟩|⟨g1,cb,rfl,kcb,-⟩
   ·have hz0:(S.cds S.D.nb).length=0:=by rw [e0];rfl
    refine wk ?_
    refine A2 L ?_
    refine wk ?_
    refine Ro L X Y (h:=h5) (n:=0) W r5 ka5 ca5 p1 k35 c35 hz0.symm (.inl ⟨rfl,rfl⟩) ?_
    exact tsb
   ·refine wk ?_
    refine W2 L X Y (h:=h5) T W r5 ka5 ca5 p1 (by omega) k35 c35 kcb (cc cb _ _ rfl) mp5 cm5 ?_
    exact tsb
end
end
section
variable {P0:Program}{E:Env}{F:T CFn}{K:T (List AV×AV)}(L:Lg P0 E F K)(X:Fx F K)(Y:FxC F K)
include L X Y
section
variable {h:H}{κ: Nat→Nat}
theorem Iy {b4 n0 n1 n2 n3 nS:Nat}{fv lv:AV}{fl:List Int}{al:List Act}(T:Tb P0 E F K)(U:SortOk P0 E F 129)(W:Wk P0 E F K)(hs:Rm ((n0:Nat):Int) ((n1:Nat):Int) ((n2:Nat):Int) ((n3:Nat):Int) ((nS:Nat):Int))(qf:IntsR κ h fv fl)(t1: ∀x∈fl,0≤x)(hfl:fl.length≤10)(ql:AcR κ h lv al)(hF:Few al)(kb:Bk h b4 (Jk n0 n1 n2 n3))(cb:κ b4=0)
  {lq:List (Nat×Option AV)} (ht:TSub (tms [(56,some fv),(55,some (AI ((nS:Nat):Int))),(54,some (.agg (Jk n0 n1 n2 n3))),(4,some (.ptr b4 0)),(3,some lv),(1,some (AI ((nS:Nat):Int)))]) (tms lq)):
  Good P0 E (fun fn u=>fn=5∧u= .bool true) ⟨⟨5,cf5.ntmps,tms lq,[.ops [Cc 57 10 [.t 54,.t 55,.t 56],Cv 53 57,Ce 58 53 0,Ce 59 53 1,Ce 60 53 2,Cj 11 (.alloc [.int .i64 ((0:Nat):Int),.nils]),Cv 10 58,Cs 2 11 59,Cv 12 60],.code c5_100],[],.run,false,none⟩,[],hp h.n h.t []⟩:=by
 refine E0 L ht ?_
 have hs':=hs
 obtain⟨i0,i1,i2,i3,i4,i5,i6,i7,i8,i9⟩:=hs'
 refine cal (c:=Wz L X hs qf t1 (by omega)) (g:=?_)
 rintro _ h4 ⟨ab,I,κ4,dv,rfl,r4,ka4,ca4,q4,k4,c4⟩
 have m4:=k4.n
 have kb4:=Ag k4 kb
 have lb4:=kb.lt
 have lkb4:=kb4.lt
 have lka4:=ka4.lt
 have cb4:κ4 b4=0:=(c4 _ lb4).trans cb
 rcases q4.ex with⟨e,-⟩|⟨-,lb,rows,rfl,-⟩
 ·have:=congrArg List.length e;rw [List.length_replicate,List.length_nil]at this;omega
 refine wk ?_
 have k0:K0 h4 (hp (h4.n+1) h4.t [(h4.n,some (cl [AI ((n2:Nat):Int),.slc lb 0 (List.replicate nS (List.replicate n2 0)).length (Aa+1)])),(h4.n,some (cl [AI ((0:Nat):Int),.nils]))]):=kps
 have hc: ∀b,b<h4.n→upd κ4 h4.n 200 b=κ4 b:=fun b hb=>upd_ne _ _ (by omega)
 have ql4:AcR κ4 h4 lv al:=ql.fw ⟨k4.n,fun b hb _=>k4.old b hb id,c4⟩
 refine W3 L X Y (κ:= upd κ4 h4.n 200) (S0:=Ap.new (Dv.new n0 n1 n2 n3 (M9 fl)) nS) (Z0:=List.replicate nS (List.replicate n2 0)) (h:=hp (h4.n+1) h4.t [(h4.n,some (cl [AI ((n2:Nat):Int),.slc lb 0 (List.replicate nS (List.replicate n2 0)).length (Aa+1)])),(h4.n,some (cl [AI ((0:Nat):Int),.nils]))]) (I:=I) (ab:=ab) (b3:=b4) (b8:=h4.n) (g2:=n2) (g3:=n3) (lv:=lv) (al:=al) T U W (r4.k0 k0 hc) (by exact lkp) ((hc ab ka4.lt).trans ca4) (((q4.mono fun b hb u=>⟨hb,u⟩:DkR h4 (fun b=>b<h4.n∧κ4 b=0) _ n2 _).k0 k0).mono fun b _ u=>(hc b u.1).trans u.2) (ql4.fw ⟨k0.n,fun b hb _=>k0.old b hb id,hc⟩) hF ⟨Pl.new (by omega) (by omega) (by omega) (by omega),Evi.new _ _ fun _=>rfl,ny,by show nS≤10;omega⟩ (by rw [List.length_replicate];omega) (by exact lkp) ((hc b4 (by omega)).trans cb4) (by exact lkp) (upd_eq _ _ _) ?_
 exact tsb
theorem co {g0 g1 g2 g3 S:Int}{fv lv:AV}{fl:List Int}{al:List Act}(T:Tb P0 E F K)(U:SortOk P0 E F 129)(W:Wk P0 E F K)(qf:IntsR κ h fv fl)(ql:AcR κ h lv al):
  Good P0 E (fun fn u=>fn=5∧u= .bool true) ⟨⟨5,cf5.ntmps,tms [(3,some lv),(2,some fv),(1,some (AI S)),(0,some (.agg (tf g0 g1 g2 g3)))],[.code cf5.body],[],.run,false,none⟩,[],hp h.n h.t []⟩:=by
 by_cases hs:Rm g0 g1 g2 g3 S
 rotate_left
 ·refine wk ?_
  refine cal (c:=cg L X hs) (g:=?_)
  rintro _ h1 ⟨rfl,k1⟩
  refine wk ?_
  refine cal (c:=W.ct _) (g:=?_)
  try rintro _ _ ⟨rfl,rfl⟩
  try rintro _ rfl
  refine wk ?_
  refine D0 L (todo:= []) ?_
  exact T5 L Y.f5 (C0 rfl) ⟨rfl,rfl⟩
 have hs':=hs
 obtain⟨i0,i1,i2,i3,i4,i5,i6,i7,i8,i9⟩:=hs'
 obtain⟨n0,rfl⟩: ∃n:Nat,g0=n:=⟨g0.toNat,by omega⟩
 obtain⟨n1,rfl⟩: ∃n:Nat,g1=n:=⟨g1.toNat,by omega⟩
 obtain⟨n2,rfl⟩: ∃n:Nat,g2=n:=⟨g2.toNat,by omega⟩
 obtain⟨n3,rfl⟩: ∃n:Nat,g3=n:=⟨g3.toNat,by omega⟩
 obtain⟨nS,rfl⟩: ∃n:Nat,S=n:=⟨S.toNat,by omega⟩
 by_cases hfl:fl.length≤10
 rotate_left
 ·rcases qf.ex with⟨e,-⟩|⟨e,-⟩|⟨cb,cp,rfl,-,-⟩
  ·rw [e]at hfl;simp at hfl
  ·rw [e]at hfl;simp at hfl
  refine wk ?_
  refine cal (c:=Rn L X hs) (g:=?_)
  rintro _ h1 ⟨rfl,k1⟩
  refine wk ?_
  refine cal (c:=W.ct _) (g:=?_)
  try rintro _ _ ⟨rfl,rfl⟩
  try rintro _ rfl
  refine wk ?_
  refine D0 L (todo:= []) ?_
  exact T5 L Y.f5 (C0 rfl) ⟨rfl,rfl⟩
 have fwd: ∀{h1:H},K0 h h1→Fw κ h (ext κ h.n) h1:=fun k=>⟨k.n,fun b hb _=>k.old b hb id,fun b hb=>Af hb⟩
 have qfe:=qf.ex
 rcases qfe with⟨hfe,rfl⟩|⟨hfe,fa,rfl⟩|⟨fcb,fcc,rfl,kcf,-⟩
 all_goals
  (try(have hz:fl.length=0:=by rw [hfe];rfl))
  refine wk ?_
  refine cal (c:=Rn L X hs) (g:=?_)
  rintro _ h1 ⟨rfl,k1⟩
  have m1:=k1.n
  simp only [Am]at m1
  have kk1:K0 h h1:=Kp.tr0 k1 (by exact kps)
  have kb:Bk h1 h.n (Jk n0 n1 n2 n3):=Ag k1 (by exact lkp)
  have lb:=kb.lt
  refine wk ?_
  have fct:=yi L X (ql.fw (fwd kk1))
  (refine uh L rfl rfl rfl rfl fct ?_)
  rintro _ h2 ⟨b,rfl,hb,k2⟩
  have m2:=k2.n
  have kk2:K0 h h2:=Kp.tr0 k2 kk1
  have kb2:=Ag k2 kb
  cases b with
  |false=>
   refine wk ?_
   refine cal (c:=W.ct _) (g:=?_)
   try rintro _ _ ⟨rfl,rfl⟩
   try rintro _ rfl
   refine wk ?_
   refine D0 L (todo:= []) ?_
   exact T5 L Y.f5 (C0 rfl) ⟨rfl,rfl⟩
  |true=>?_
 ·have hF:=hb.1 rfl
  refine wk ?_
  refine A2 L ?_
  refine wk ?_
  refine Iy L X Y (κ:= ext κ h.n) (h:=h2) T U W hs (qf.fw (fwd kk2)) (by rw [hfe];intro x hx;cases hx) hfl (ql.fw (fwd kk2)) hF kb2 (B4 (Nat.le_refl _)) ?_
  exact tsb
 ·have hF:=hb.1 rfl
  refine wk ?_
  refine A2 L ?_
  refine wk ?_
  refine Iy L X Y (κ:= ext κ h.n) (h:=h2) T U W hs (qf.fw (fwd kk2)) (by rw [hfe];intro x hx;cases hx) hfl (ql.fw (fwd kk2)) hF kb2 (B4 (Nat.le_refl _)) ?_
  exact tsb
 ·have hF:=hb.1 rfl
  refine wk ?_
  refine Co L (α:= Unit) (T:=fun i _=> [(9,some (AI ((i:Nat):Int))),(4,some (.ptr h.n 0)),(3,some lv),(2,some (.slc fcb 0 fl.length fcc)),(1,some (AI ((nS:Nat):Int)))]) (n:=fl.length)
   (R:=fun i _ h3=>(∀x∈fl.take i,0≤x)∧K0 h2 h3) (i0:=0) () tsb ⟨by simp,Kp.refl _⟩ (Nat.zero_le _) ?_ ?_
  ·rintro i _ h3 hi ⟨t1,t2⟩ ih
   have hx:(fl.map eI)[i]?=some (eI fl[i]):=by rw [List.getElem?_map,List.getElem?_eq_getElem hi];rfl
   have htk:fl.take (i+1)=fl.take i++ [fl[i]]:=by rw [List.take_add_one,List.getElem?_eq_getElem hi];rfl
   have kc3:=Pi t2 (Pi kk2 kcf)
   generalize fl[i]=y at*
   (try refine B6 L 1000 rfl ?_);(repeat(first|(apply st1 L rfl;exact⟨O5 rfl⟩;rfl)|(apply st1 L rfl;exact T0 rfl rfl rfl;rfl)|(apply st1 L rfl;exact O9 rfl rfl (by omega);rfl)|(apply st1 L rfl;exact Gz rfl rfl (by omega);rfl)|(apply st1 L rfl;exact Ii rfl rfl (by omega);rfl)))
   (apply st1 L rfl;exact Fd rfl lkr hx;rfl)
   by_cases hy:y<0
   ·refine wk ?_
    refine cal (c:=W.ct _) (g:=?_)
    try rintro _ _ ⟨rfl,rfl⟩
    try rintro _ rfl
    refine wk ?_
    refine D0 L (todo:= []) ?_
    exact T5 L Y.f5 (C0 rfl) ⟨rfl,rfl⟩
   ·refine wk ?_
    refine ih () _ _ ⟨?_,by exact t2⟩ ?_
    ·rw [htk]
     intro z hz
     rcases List.mem_append.1 hz with h|h
     ·exact t1 z h
     ·rw [List.mem_singleton]at h;omega
    ·exact tsb
  ·rintro _ h3 ⟨t1,t2⟩
   rw [List.take_length]at t1
   have kk3:K0 h h3:=Kp.tr0 t2 kk2
   have kb3:=Ag t2 kb2
   refine wk ?_
   refine Iy L X Y (κ:= ext κ h.n) (h:=h3) T U W hs (qf.fw (fwd kk3)) t1 hfl (ql.fw (fwd kk3)) hF kb3 (B4 (Nat.le_refl _)) ?_
   exact tsb
end
end
end Go.Ev
