/- Part of the proof. -/
import Derived.Test.YtgkianlpkdfhkaaGreatQ04
import Derived.AtR
import Derived.Defers
import Derived.RangeFuncIn
import Derived.Below
set_option linter.unusedVariables false
set_option linter.unusedSimpArgs false
set_option linter.unusedSectionVars false
namespace Go.Ev
theorem On (tm:T AV)(t:Nat): ∀l:List Nat,T.get (only tm l) t=if t∈l then T.get tm t else none
 | []=>by simp [only,T.get_leaf]
 |x::l=>by
  simp only [only]
  cases hx:T.get tm x with
  |none=>
   simp only []
   rw [On tm t l]
   by_cases e:t=x
   ·subst e;simp [hx]
   ·simp [e]
  |some v=>
   simp only []
   rw [T.get_set,On tm t l]
   by_cases e:t=x
   ·subst e;simp [hx]
   ·simp [e]
theorem Oo {tm tm':T AV}: ∀{l:List Nat},(∀t∈l,T.get tm t=T.get tm' t)→only tm l=only tm' l
 | [],_=>rfl
 |x::l,h=>by
  simp only [only]
  rw [h x (List.mem_cons_self ..),Oo (l:=l) fun t ht=>h t (List.mem_cons_of_mem _ ht)]
theorem Xh {φ: Phi}{nt:Nat}{tm:T AV}{l:List Nat}{tmps:Array Value}(hs:tmps.size=nt)(h: ∀t∈l,∀v,T.get tm t=some v→VR φ v (tmps.getD t undef)):TR φ nt (only tm l) tmps:=by
 refine⟨hs,fun t v hv=>?_⟩
 rw [On]at hv
 by_cases e:t∈l
 ·rw [if_pos e]at hv;exact h t e v hv
 ·rw [if_neg e]at hv;cases hv
theorem o9 {f g:AFn}(h:oj f g=true):f=g:=by
 cases f <;> cases g <;> simp [oj]at h
 subst h;rfl
theorem Id {f:AV→AV→Bool}(hf: ∀x y,f x y=true→x=y): ∀{l l':List AV},Gt f l l'=true→l=l'
 | [],[],_=>rfl
 | [],_::_,h=>by simp [Gt]at h
 |_::_,[],h=>by simp [Gt]at h
 |a::l,b::l',h=>by
  simp only [Gt]at h
  split at h
  ·rename_i hb;rw [hf _ _ hb,Id hf h]
  ·cases h
theorem ve {u w:Value}(h:vEq u w=true):u=w:=by
 unfold vEq at h
 split at h
 ·rename_i a n c
  split at h
  ·rename_i a' n' c'
   split at h
   ·rename_i h1 h2 h3 h4
    obtain⟨b,o,s⟩:=a
    obtain⟨b',o',s'⟩:=a'
    simp only at h h1 h2
    rw [Aj h1,Aj h2,Aj h3,Aj h4]
    cases s with
    |none=>cases s' with
     |none=>rfl
     |some _=>cases h
    |some t=>cases s' with
     |none=>cases h
     |some t'=>rw [Aj h]
   ·cases h
  ·cases h
 ·cases h
theorem Ni: ∀(d:Nat) (x y:AV),E9 d x y=true→x=y
 |0,_,_,h=>by simp [E9]at h
 |d+1,x,y,h=>by
  have ih:=Ni d
  cases x <;> cases y <;> simp only [E9]at h <;> first
   |(cases h;done)
   |rfl
   |(rw [U3]at h;rw [of_decide_eq_true h])
   |(split at h;{rename_i hk;rw [Ey]at h;rw [A6 hk,of_decide_eq_true h]};{cases h})
   |(rw [Kb]at h;rw [of_decide_eq_true h])
   |(split at h;{rename_i hk;rw [Aj hk,Aj h]};{cases h})
   |(split at h;{rename_i h1 h2 h3 h4;rw [Aj h1,Aj h2,Aj h3,Aj h4]};{cases h})
   |(rw [Aj h])
   |(split at h;{rename_i h1 h2 h3;rw [o9 h1,Id ih h2,Id ih h3]};{cases h})
   |(split at h;{rename_i h1;rw [Aj h1,ih _ _ h]};{cases h})
   |(rw [Id ih h])
   |(rw [ve h])
def Hh (tm:T AV)(d:Option Nat)(v:AV):Prop:= ∀t,d=some t→T.get tm t=some v
theorem Xi {tm:T AV}{d:Option Nat}{v:AV}(h:holds tm d v=true):Hh tm d v:=by
 intro t e
 subst e
 simp only [holds]at h
 split at h
 ·rename_i u hu;rw [hu,Ni _ _ _ h]
 ·cases h
section
variable {E:Env}{nt:Nat}{Rg:Reg}
def PF (E:Env)(nt:Nat)(Rg:Reg)(tm:T AV)(h:H)(j:Nat):Prop:=
 (wanted (only tm (nm' Rg j)) (ci' E nt Rg j).guard=some false∧Hh tm (ci' E nt Rg j).dst (.tup []))∨
 (wanted (only tm (nm' Rg j)) (ci' E nt Rg j).guard=some true∧ ∃v h1,exec (ci' E nt Rg j).op h (only tm (nm' Rg j))= .val v h1∧Hh tm (ci' E nt Rg j).dst v)
def PM (E:Env)(nt:Nat)(Rg:Reg)(tm:T AV)(h:H)(o:Option Nat)(j:Nat):Prop:=
 (o=none∧wanted (only tm (nm' Rg j)) (ci' E nt Rg j).guard=some false∧Hh tm (ci' E nt Rg j).dst (.tup []))∨
 (∃b blk h0 v,o=some b∧wanted (only tm (nm' Rg j)) (ci' E nt Rg j).guard=some true∧exec (ci' E nt Rg j).op h0 (only tm (nm' Rg j))= .val v (H.new h0 blk)∧h0.n=b∧
  Hh tm (ci' E nt Rg j).dst v∧H.get h b=some blk)
theorem To {tm:T AV}{h:H}{j:Nat}(hc:check (Gr (rw' E nt Rg j)) tm h=true):PF E nt Rg tm h j:=by
 unfold check at hc
 change (match wanted (only tm (nm' Rg j)) (ci' E nt Rg j).guard with
  |some false=>holds tm (ci' E nt Rg j).dst (.tup [])
  |none=>false
  |some true=>match exec (ci' E nt Rg j).op h (only tm (nm' Rg j))with
   | .val v _=>holds tm (ci' E nt Rg j).dst v
   |_=>false)=true at hc
 split at hc
 ·rename_i hw;exact .inl ⟨hw,Xi hc⟩
 ·cases hc
 ·rename_i hw
  split at hc
  ·rename_i v h1 hx;exact .inr ⟨hw,v,h1,hx,Xi hc⟩
  ·cases hc
theorem Jt {tm:T AV}{h:H}: ∀{l:List DI},checks l tm h=true→ ∀i∈l,check i tm h=true
 | [],_,i,hi=>by cases hi
 |a::l,hc,i,hi=>by
  simp only [checks]at hc
  split at hc
  ·rename_i ha
   rcases List.mem_cons.1 hi with e|hi
   ·subst e;exact ha
   ·exact Jt hc i hi
  ·cases hc
structure Ran (E:Env)(nt:Nat)(Rg:Reg)(js:List Nat)(tm:T AV)(h:H)(tm':T AV)(h':H)(bn:Nat→Option Nat):Prop where
 tm: ∀t,(∀j∈js,(ci' E nt Rg j).dst≠some t)→T.get tm' t=T.get tm t
 n:h.n≤h'.n
 blk: ∀b,b<h.n→H.get h' b=H.get h b
 same:(∀j∈js,cl' E nt Rg j≠2)→h'=h
 rng: ∀j b,bn j=some b→h.n≤b∧b<h'.n
 inj: ∀i j b,bn i=some b→bn j=some b→i=j
 mem: ∀j b,bn j=some b→j∈js
 mks: ∀j∈js,cl' E nt Rg j=2→PM E nt Rg tm' h' (bn j) j
 pf: ∀j∈js,cl' E nt Rg j≠2→(cl' E nt Rg j=0∨ ∀i∈js,cl' E nt Rg i≠2)→PF E nt Rg tm' h' j
theorem Ln {c:COp}(h:cls c≠3):cls c=0∨cls c=1∨cls c=2:=by
 have:=uy c;omega
theorem Nj (tm:T AV)(d:Option Nat)(v:AV)(t:Nat):T.get (put tm d v) t=if d=some t then some v else T.get tm t:=by
 cases d with
 |none=>simp [put]
 |some d=>
  simp only [put,T.get_set,Option.some.injEq]
  by_cases e:t=d
  ·subst e;simp
  ·rw [if_neg e,if_neg (fun h=>e h.symm)]
theorem Qu (hreg:E4 (Au E nt Rg)=true){q:Nat}: ∀(js:List Nat) (tm:T AV) (h:H) (tm':T AV) (h':H),Gs (js.map fun j=>Gr (rw' E nt Rg j)) tm h=some (tm',h')→
  js.Pairwise (· < ·)→(∀j∈js,j<Rg.ops.size∧cl' E nt Rg j≠3∧cn' E nt Rg j=q)→ ∃bn,Ran E nt Rg js tm h tm' h' bn
 | [],tm,h,tm',h',hx,_,_=>by
  simp only [List.map_nil,Gs,Option.some.injEq,Prod.mk.injEq]at hx
  obtain⟨rfl,rfl⟩:=hx
  exact⟨fun _=>none,fun _ _=>rfl,Nat.le_refl _,fun _ _=>rfl,fun _=>rfl,fun _ _ h=>(by cases h),fun _ _ _ h=>(by cases h),fun _ _ h=>(by cases h),fun j hj=>(by cases hj),fun j hj=>(by cases hj)⟩
 |j::js,tm,h,tm',h',hx,hp,hjs=>by
  obtain⟨hp1,hp2⟩:=List.pairwise_cons.1 hp
  obtain⟨hj,hcj,hqj⟩:=hjs j (List.mem_cons_self ..)
  have hjs': ∀i∈js,i<Rg.ops.size∧cl' E nt Rg i≠3∧cn' E nt Rg i=q:=fun i hi=>hjs i (List.mem_cons_of_mem _ hi)
  rw [List.map_cons]at hx
  simp only [Gs]at hx
  change (match wanted (only tm (nm' Rg j)) (ci' E nt Rg j).guard with
   |some true=>match exec (ci' E nt Rg j).op h (only tm (nm' Rg j))with
    | .val v h1=>Gs (js.map fun j=>Gr (rw' E nt Rg j)) (put tm (ci' E nt Rg j).dst v) h1
    |_=>none
   |some false=>Gs (js.map fun j=>Gr (rw' E nt Rg j)) (put tm (ci' E nt Rg j).dst (.tup [])) h
   |none=>none)=some (tm',h')at hx
  have key: ∀(v:AV) (h1:H),Gs (js.map fun j=>Gr (rw' E nt Rg j)) (put tm (ci' E nt Rg j).dst v) h1=some (tm',h')→
    ∃bn,Ran E nt Rg js (put tm (ci' E nt Rg j).dst v) h1 tm' h' bn∧only tm' (nm' Rg j)=only tm (nm' Rg j)∧Hh tm' (ci' E nt Rg j).dst v∧(∀b,bn j≠some b)∧
     (∀t,(∀i∈j::js,(ci' E nt Rg i).dst≠some t)→T.get tm' t=T.get tm t):=by
   intro v h1 hx
   obtain⟨bn,R⟩:=Qu hreg js _ h1 tm' h' hx hp2 hjs'
   refine⟨bn,R,Oo fun t ht=>?_,fun t ht=>?_,fun b hb=>?_,fun t ht=>?_⟩
   ·rw [R.tm t,Nj,if_neg]
    ·intro hd;exact(Gx hreg hj hj hcj hd).1 rfl ht
    ·intro i hi hd
     obtain⟨hi1,hi2,hiq⟩:=hjs' i hi
     have hlt:=hp1 i hi
     have:=((Gx hreg hi1 hj hi2 hd).2 (by omega)).2 ht
     have:=uz hreg hi1 hi2 hj hcj (hqj.trans hiq.symm) this
     omega
   ·rw [R.tm t,Nj,if_pos ht]
    intro i hi hd
    obtain⟨hi1,hi2,hiq⟩:=hjs' i hi
    have hlt:=hp1 i hi
    exact((Gx hreg hj hi1 hcj ht).2 (by omega)).1 hd
   ·have:=hp1 j (R.mem _ _ hb);omega
   ·rw [R.tm t fun i hi=>ht i (List.mem_cons_of_mem _ hi),Nj,if_neg (ht j (List.mem_cons_self ..))]
  split at hx
  ·rename_i hw
   split at hx
   ·rename_i v h1 hex
    obtain⟨bn,R,e1,e2,e3,e4⟩:=key v h1 hx
    rcases Ln hcj with h0|h0|h0
    ·
     have hk:=Js (.inl h0) hex
     subst hk
     refine⟨bn,e4,R.n,R.blk,fun hn=>R.same fun i hi=>hn i (List.mem_cons_of_mem _ hi),R.rng,R.inj,fun i b hb=>List.mem_cons_of_mem _ (R.mem i b hb),?_,?_⟩
     ·intro i hi h2
      rcases List.mem_cons.1 hi with e|hi
      ·subst e;have:cl' E nt Rg i=0:=h0;omega
      ·exact R.mks i hi h2
     ·intro i hi h2 h3
      rcases List.mem_cons.1 hi with e|hi
      ·subst e
       exact .inr ⟨by rw [e1];exact hw,v,h',by rw [e1];exact Y8 h0 hex h',e2⟩
      ·exact R.pf i hi h2 (h3.imp id fun h3 i hi=>h3 i (List.mem_cons_of_mem _ hi))
    ·have hk:=Js (.inr h0) hex
     subst hk
     refine⟨bn,e4,R.n,R.blk,fun hn=>R.same fun i hi=>hn i (List.mem_cons_of_mem _ hi),R.rng,R.inj,fun i b hb=>List.mem_cons_of_mem _ (R.mem i b hb),?_,?_⟩
     ·intro i hi h2
      rcases List.mem_cons.1 hi with e|hi
      ·subst e;have:cl' E nt Rg i=1:=h0;omega
      ·exact R.mks i hi h2
     ·intro i hi h2 h3
      rcases List.mem_cons.1 hi with e|hi
      ·subst e
       rcases h3 with h3|h3
       ·have:cl' E nt Rg i=1:=h0;omega
       ·have hs:=R.same fun i hi=>h3 i (List.mem_cons_of_mem _ hi)
        subst hs
        exact .inr ⟨by rw [e1];exact hw,v,_,by rw [e1];exact hex,e2⟩
      ·exact R.pf i hi h2 (h3.imp id fun h3 i hi=>h3 i (List.mem_cons_of_mem _ hi))
    ·obtain⟨blk,hk⟩:=o6 h0 hex
     subst hk
     have hn1:(H.new h blk).n=h.n+1:=rfl
     have hRn:=R.n
     refine⟨fun i=>if i=j then some h.n else bn i,e4,by omega,?_,?_,?_,?_,?_,?_,?_⟩
     ·intro b hb
      rw [R.blk b (by omega),H.get_new,if_neg (by omega)]
     ·intro hn;exact absurd h0 (hn j (List.mem_cons_self ..))
     ·intro i b hb
      by_cases e:i=j
      ·simp only [e,if_true,Option.some.injEq]at hb;omega
      ·simp only [e,if_false]at hb;have:=R.rng i b hb;omega
     ·intro i i' b hb hb'
      by_cases e:i=j
      ·by_cases e':i'=j
       ·rw [e,e']
       ·simp only [e,if_true,Option.some.injEq]at hb
        simp only [e',if_false]at hb'
        have:=R.rng i' b hb';omega
      ·by_cases e':i'=j
       ·simp only [e',if_true,Option.some.injEq]at hb'
        simp only [e,if_false]at hb
        have:=R.rng i b hb;omega
       ·simp only [e,if_false]at hb
        simp only [e',if_false]at hb'
        exact R.inj i i' b hb hb'
     ·intro i b hb
      by_cases e:i=j
      ·subst e;exact List.mem_cons_self ..
      ·simp only [e,if_false]at hb;exact List.mem_cons_of_mem _ (R.mem i b hb)
     ·intro i hi h2
      rcases List.mem_cons.1 hi with e|hi
      ·subst e
       refine .inr ⟨h.n,blk,h,v,by simp,by rw [e1];exact hw,by rw [e1];exact hex,rfl,e2,?_⟩
       rw [R.blk h.n (by omega),H.get_new,if_pos rfl]
      ·have hne:i≠j:=by have:=hp1 i hi;omega
       simp only [hne,if_false]
       exact R.mks i hi h2
     ·intro i hi h2 h3
      rcases List.mem_cons.1 hi with e|hi
      ·subst e;exact absurd h0 h2
      ·exact R.pf i hi h2 (h3.imp id fun h3 i hi=>h3 i (List.mem_cons_of_mem _ hi))
   ·cases hx
  ·rename_i hw
   obtain⟨bn,R,e1,e2,e3,e4⟩:=key (.tup []) h hx
   refine⟨bn,e4,R.n,R.blk,?_,R.rng,R.inj,fun i b hb=>List.mem_cons_of_mem _ (R.mem i b hb),?_,?_⟩
   ·intro hn;exact R.same fun i hi=>hn i (List.mem_cons_of_mem _ hi)
   ·intro i hi h2
    rcases List.mem_cons.1 hi with e|hi
    ·subst e
     refine .inl ⟨?_,by rw [e1];exact hw,e2⟩
     cases hb:bn i with
     |none=>rfl
     |some b=>exact absurd hb (e3 b)
    ·exact R.mks i hi h2
   ·intro i hi h2 h3
    rcases List.mem_cons.1 hi with e|hi
    ·subst e;exact .inl ⟨by rw [e1];exact hw,e2⟩
    ·exact R.pf i hi h2 (h3.imp id fun h3 i hi=>h3 i (List.mem_cons_of_mem _ hi))
  ·cases hx
def pc (E:Env)(nt:Nat)(Rg:Reg)(k j:Nat):Prop:=cl' E nt Rg j≠3∧cn' E nt Rg j≤k
structure DS (E:Env)(nt:Nat)(Rg:Reg)(k:Nat)(D td:List Nat):Prop where
 reg:E4 (Au E nt Rg)=true
 ext:Ext Rg.ops.size (bb Rg) D td
 cl: ∀j∈D,∀i,tb (bb Rg j) i=true→i∈D
 lo: ∀m e,m<k→(es' E nt Rg)[m]?=some e→e.j∈D
 hi: ∀m e,k≤m→(es' E nt Rg)[m]?=some e→e.j∉D
structure TRd (E:Env)(φ: Phi)(nt:Nat)(Rg:Reg)(k:Nat)(td:List Nat)(tm:T AV)(tmps:Array Value):Prop where
 size:tmps.size=nt
 val: ∀t v,T.get tm t=some v→(∀j∈td,pc E nt Rg k j→(ci' E nt Rg j).dst≠some t)→VR φ v (tmps.getD t undef)
theorem TRd.mono {φ φ':Phi}(hp:Phi.le φ φ'){k:Nat}{td:List Nat}{tm:T AV}{tmps:Array Value}(h:TRd E φ nt Rg k td tm tmps):TRd E φ' nt Rg k td tm tmps:=
 ⟨h.size,fun t v ht hj=>(h.val t v ht hj).mono hp⟩
section
variable {k:Nat}{D td:List Nat}{j:Nat}
theorem DS.head (hs:DS E nt Rg k D (j::td)):j<Rg.ops.size∧j∉D∧(∀i,tb (bb Rg j) i=true→i∈D)∧Ext Rg.ops.size (bb Rg) (j::D) td:=by
 cases hs.ext with
 |cons h1 h2 h3 h4=>exact⟨h1,h2,h3,h4⟩
theorem DS.pend (hs:DS E nt Rg k D (j::td))(hc:cl' E nt Rg j≠3):pc E nt Rg k j:=by
 obtain⟨h1,h2,h3,h4⟩:=hs.head
 refine⟨hc,?_⟩
 cases Nat.lt_or_ge k (cn' E nt Rg j)with
 |inr h=>exact h
 |inl h=>
  exfalso
  have hlt:k<(es' E nt Rg).length:=Nat.lt_of_lt_of_le h (yz j)
  have he:(es' E nt Rg)[k]?=some ((es' E nt Rg)[k]):=List.getElem?_eq_getElem hlt
  exact hs.hi k _ (Nat.le_refl _) he (h3 _ (Om hs.reg h1 hc h he))
theorem DS.eff (hs:DS E nt Rg k D (j::td))(hc:cl' E nt Rg j=3): ∃e,(es' E nt Rg)[k]?=some e∧e.j=j:=by
 obtain⟨h1,h2,h3,h4⟩:=hs.head
 have hm:rw' E nt Rg j∈es' E nt Rg:=mem_es.2 ⟨j,h1,rfl,hc⟩
 obtain⟨m,hm⟩:=List.mem_iff_getElem?.1 hm
 have hkm:m=k:=by
  rcases Nat.lt_trichotomy m k with h|h|h
  ·exact absurd (hs.lo m _ h hm) h2
  ·exact h
  ·exfalso
   have hlt:k<(es' E nt Rg).length:=Nat.lt_trans h (List.getElem?_eq_some_iff.1 hm).1
   have he:(es' E nt Rg)[k]?=some ((es' E nt Rg)[k]):=List.getElem?_eq_getElem hlt
   exact hs.hi k _ (Nat.le_refl _) he (h3 _ (Qr hs.reg h he hm))
 subst hkm
 exact⟨_,hm,rfl⟩
theorem DS.next (hs:DS E nt Rg k D (j::td))(hc:cl' E nt Rg j≠3):DS E nt Rg k (j::D) td:=by
 obtain⟨h1,h2,h3,h4⟩:=hs.head
 refine⟨hs.reg,h4,?_,?_,?_⟩
 ·intro i hi m hm
  rcases List.mem_cons.1 hi with e|hi
  ·exact List.mem_cons_of_mem _ (h3 m (e ▸ hm))
  ·exact List.mem_cons_of_mem _ (hs.cl i hi m hm)
 ·intro m e hm he;exact List.mem_cons_of_mem _ (hs.lo m e hm he)
 ·intro m e hm he hd
  rcases List.mem_cons.1 hd with e'|hd
  ·exact hc (e' ▸ (Hf he).2.2.1)
  ·exact hs.hi m e hm he hd
theorem DS.nextE (hs:DS E nt Rg k D (j::td))(hc:cl' E nt Rg j=3):DS E nt Rg (k+1) (j::D) td:=by
 obtain⟨h1,h2,h3,h4⟩:=hs.head
 obtain⟨e,he,hej⟩:=hs.eff hc
 refine⟨hs.reg,h4,?_,?_,?_⟩
 ·intro i hi m hm
  rcases List.mem_cons.1 hi with e|hi
  ·exact List.mem_cons_of_mem _ (h3 m (e ▸ hm))
  ·exact List.mem_cons_of_mem _ (hs.cl i hi m hm)
 ·intro m f hm hf
  by_cases e':m=k
  ·subst e';rw [he]at hf;cases hf;rw [hej];exact List.mem_cons_self ..
  ·exact List.mem_cons_of_mem _ (hs.lo m f (by omega) hf)
 ·intro m f hm hf hd
  rcases List.mem_cons.1 hd with e'|hd
  ·have hb:=Qr hs.reg (by omega:k<m) he hf
   have:=o7 hs.reg (Hf hf).1
   rw [e',←hej]at hb
   rw [e',←hej]at this
   rw [this]at hb;cases hb
  ·exact hs.hi m f (by omega) hf hd
theorem DS.fin (hs:DS E nt Rg k D []):(es' E nt Rg).length≤k:=by
 cases Nat.lt_or_ge k (es' E nt Rg).length with
 |inr h=>exact h
 |inl h=>
  exfalso
  have he:(es' E nt Rg)[k]?=some ((es' E nt Rg)[k]):=List.getElem?_eq_getElem h
  have:=hs.hi k _ (Nat.le_refl _) he
  cases hs.ext with
  |nil hall=>exact this (hall _ (Hf he).1)
theorem DS.names (hs:DS E nt Rg k D (j::td)){φ: Phi}{tm:T AV}{tmps:Array Value}(ht:TRd E φ nt Rg k (j::td) tm tmps): ∀t∈nm' Rg j,∀v,T.get tm t=some v→VR φ v (tmps.getD t undef):=by
 obtain⟨h1,h2,h3,h4⟩:=hs.head
 intro t ht' v hv
 refine ht.val t v hv fun i hi hp hd=>?_
 by_cases e:i=j
 ·subst e;exact(Gx hs.reg h1 h1 hp.1 hd).1 rfl ht'
 ·have hi':i∈td:=by rcases List.mem_cons.1 hi with h|h;exact absurd h e;exact h
  obtain⟨g1,g2⟩:=h4.apart i hi'
  have:=((Gx hs.reg g2 h1 hp.1 hd).2 (fun e'=>e e'.symm)).2 ht'
  exact g1 (List.mem_cons_of_mem _ (h3 _ this))
end
end
inductive CR (φ: Phi):List (AV×Bool)→List PanicEntry→Prop where
 |nil:CR φ [] []
 |cons {v:AV} {v':Value} {b:Bool} {l:List (AV×Bool)} {l':List PanicEntry} (h:VR φ v v') (hs:CR φ l l'):CR φ ((v,b)::l) ({v:=v',recovered:=b}::l')
theorem CR.mono {φ φ':Phi}(hp:Phi.le φ φ'){l:List (AV×Bool)}{l':List PanicEntry}(h:CR φ l l'):CR φ' l l':=by
 induction h with
 |nil=>exact .nil
 |cons h _ ih=>exact .cons (h.mono hp) ih
theorem CR.append {φ: Phi}{a b:List (AV×Bool)}{a' b':List PanicEntry}(h:CR φ a a')(k:CR φ b b'):CR φ (a++b) (a'++b'):=by
 induction h with
 |nil=>exact k
 |cons h _ ih=>exact .cons h ih
inductive MR (φ: Phi):AMode→FrameMode→Prop where
 |run:MR φ .run .run
 |returning:MR φ .returning .returning
 |panicking {l:List (AV×Bool)} {l':List PanicEntry} (h:CR φ l l'):MR φ (.panicking l) (.panicking l')
theorem MR.mono {φ φ':Phi}(hp:Phi.le φ φ'){m:AMode}{m':FrameMode}(h:MR φ m m'):MR φ' m m':=by
 cases h with
 |run=>exact .run
 |returning=>exact .returning
 |panicking h=>exact .panicking (h.mono hp)
inductive IR (E:Env)(φ: Phi)(nt:Nat):AItem→Item→Prop where
 |code (c:Code):IR E φ nt (.code (A3 E nt c)) (.code c)
 |inBlock (id:Nat):IR E φ nt (.inBlock id) (.inBlock id)
 |inLoop (c:Code):IR E φ nt (.inLoop (A3 E nt c)) (.inLoop c)
 |inScope (c:Code):IR E φ nt (.inScope (A3 E nt c)) (.inScope c)
 |ops (ops:Array Oper) (td:List Nat):IR E φ nt (.ops (td.map (Bj E nt ops))) (.inRegion ops td)
 |inRF {l:Nat} {lo:Loc} (h:φ l=some lo):IR E φ nt (.inRF l) (.inRangeFunc lo.cb)
 |endRF {l:Nat} {lo:Loc} (h:φ l=some lo):IR E φ nt (.endRF l) (.endRangeFunc lo.cb)
 |beginRound:IR E φ nt .beginRound .beginRound
inductive IRs (E:Env)(φ: Phi)(nt:Nat):List AItem→List Item→Prop where
 |nil:IRs E φ nt [] []
 |cons {i:AItem} {i':Item} {l:List AItem} {l':List Item} (h:IR E φ nt i i') (hs:IRs E φ nt l l'):IRs E φ nt (i::l) (i'::l')
theorem IR.mono {E:Env}{φ φ':Phi}(hp:Phi.le φ φ'){nt:Nat}{i:AItem}{i':Item}(h:IR E φ nt i i'):IR E φ' nt i i':=by
 cases h with
 |code c=>exact .code c
 |inBlock id=>exact .inBlock id
 |inLoop c=>exact .inLoop c
 |inScope c=>exact .inScope c
 |ops o td=>exact .ops o td
 |inRF h=>exact .inRF (hp _ _ h)
 |endRF h=>exact .endRF (hp _ _ h)
 |beginRound=>exact .beginRound
theorem IRs.mono {E:Env}{φ φ':Phi}(hp:Phi.le φ φ'){nt:Nat}{i:List AItem}{i':List Item}(h:IRs E φ nt i i'):IRs E φ' nt i i':=by
 induction h with
 |nil=>exact .nil
 |cons h _ ih=>exact .cons (h.mono hp) ih
inductive TD (E:Env)(φ: Phi)(nt:Nat)(tm:T AV):List AItem→Array Value→List Item→Prop where
 |plain {todo:List AItem} {tmps:Array Value} {todo':List Item} (ht:TR φ nt tm tmps) (hi:IRs E φ nt todo todo'):TD E φ nt tm todo tmps todo'
 |gone {tmps:Array Value} {todo':List Item} (ht:TR φ nt tm tmps):TD E φ nt tm [.gone] tmps todo'
 |drawn {Rg:Reg} {k:Nat} {D td:List Nat} {e:Row} {p:Ph} {l:List Ph} {todo:List AItem} {tmps:Array Value} {todo':List Item} (hs:DS E nt Rg k D (e.j::td)) (he:(es' E nt Rg)[k]?=some e)
   (hp:Ba (ne' E nt Rg) (es' E nt Rg) ((es' E nt Rg).drop k) k=p::l) (ht:TRd E φ nt Rg k (e.j::td) tm tmps) (hi:IRs E φ nt todo todo'):TD E φ nt tm (.drawn p l::todo) tmps (.inRegion Rg.ops (e.j::td)::todo')
theorem TD.mono {E:Env}{φ φ':Phi}(hp:Phi.le φ φ'){nt:Nat}{tm:T AV}{todo:List AItem}{tmps:Array Value}{todo':List Item}(h:TD E φ nt tm todo tmps todo'):TD E φ' nt tm todo tmps todo':=by
 cases h with
 |plain ht hi=>exact .plain (ht.mono hp) (hi.mono hp)
 |drawn hs he hq ht hi=>exact .drawn hs he hq (ht.mono hp) (hi.mono hp)
 |gone ht=>exact .gone (ht.mono hp)
def isD (l:List AItem):Bool:=match l with| .drawn _ _::_=>true|_=>false
theorem IRs.noD {E:Env}{φ: Phi}{nt:Nat}{i:List AItem}{i':List Item}(h:IRs E φ nt i i'):isD i=false:=by
 cases h with
 |nil=>rfl
 |cons h _=>cases h <;> rfl
def C5 (d:Bool):CallKind:=match d with|true=> .deferred|false=> .normal
structure FR (E:Env)(φ: Phi)(x:AFr)(fr:Frame):Prop where
 fn:fr.fn=x.fn
 kind:fr.kind=C5 x.dfd
 ro:OptR φ x.ro fr.roundOf
 defers:DRs φ x.defers fr.defers
 mode:MR φ x.mode fr.mode
 body:TD E φ x.nt x.tm x.todo fr.tmps fr.todo
 dr:isD x.todo=true→x.mode= .run
theorem FR.mono {E:Env}{φ φ':Phi}(hp:Phi.le φ φ'){x:AFr}{fr:Frame}(h:FR E φ x fr):FR E φ' x fr:=
 ⟨h.fn,h.kind,h.ro.mono hp,h.defers.mono hp,h.mode.mono hp,h.body.mono hp,h.dr⟩
inductive FRs (E:Env)(φ: Phi):List AFr→List Frame→Prop where
 |nil:FRs E φ [] []
 |cons {x:AFr} {fr:Frame} {l:List AFr} {l':List Frame} (h:FR E φ x fr) (hs:FRs E φ l l'):FRs E φ (x::l) (fr::l')
theorem FRs.mono {E:Env}{φ φ':Phi}(hp:Phi.le φ φ'){l:List AFr}{l':List Frame}(h:FRs E φ l l'):FRs E φ' l l':=by
 induction h with
 |nil=>exact .nil
 |cons h _ ih=>exact .cons (h.mono hp) ih
structure HW (E:Env)(w0:World)(φ: Phi)(h:H)(w:World):Prop where
 hr:HR E w0.heap φ h w.heap
 like:Like w0 w
theorem HW.to {E:Env}{w0:World}{φ φ':Phi}{h h':H}{w w':World}(k:HW E w0 φ h w)(hr:HR E w0.heap φ' h' w'.heap)(hl:Like w w'):HW E w0 φ' h' w':=⟨hr,k.like.trans hl⟩
structure At (E:Env)(w0:World)(cs0:List Frame)(c:Conf)(m:Machine):Prop where
 ex: ∃φ fr cs w,m=lone fr (cs++cs0) w∧FR E φ c.fr fr∧FRs E φ c.cs cs∧HW E w0 φ c.h w
def Goes (P:Program)(E:Env)(w0:World)(cs0:List Frame)(o:Out)(m:Machine):Prop:=
 match o with
 | .one c=> ∃m',Steps P m m'∧At E w0 cs0 c m'
 | .many l=> ∃c∈l,∃m',Steps P m m'∧At E w0 cs0 c m'
 | .done fn v h=> ∃fr w φ v',Steps P m (lone fr cs0 w)∧fr.fn=fn∧fr.leaving P w (.returned v')∧VR φ v v'∧HW E w0 φ h w
 | .fail=>True
theorem Ie (E:Env)(nt:Nat)(l:Nat): ∀(c:Code),Ev.findLabel (A3 E nt c) l=(Go.findLabel c l).map (A3 E nt)
 | .seq a b=>by
  simp only [A3,Ev.findLabel,Go.findLabel]
  rw [Ie E nt l a,Ie E nt l b]
  cases Go.findLabel a l with
  |some r=>rfl
  |none=>rfl
 | .label l'=>by
  simp only [A3,Ev.findLabel,Go.findLabel]
  by_cases h:l'=l
  ·subst h
   have:Nat.beq l' l'=true:=Nat.beq_refl l'
   rw [this];simp [A3]
  ·have:Nat.beq l' l=false:=by cases hb:Nat.beq l' l with|false=>rfl|true=>exact absurd (Aj hb) h
   rw [this];simp [h]
 | .region id ops d=>by
  simp only [A3,D6,Go.findLabel,Option.map_none]
  repeat' split
  all_goals rfl
 | .rangeFunc f ps a b=>by
  simp only [A3,Go.findLabel,Option.map_none]
  repeat' split
  all_goals rfl
 | .skip=>rfl
 | .cond _ _ _=>rfl
 | .block _ _=>rfl
 | .loop _=>rfl
 | .exit _=>rfl
 | .scope _=>rfl
 | .goto _=>rfl
 | .ret=>rfl
 | .refuse _=>rfl
theorem fo {E:Env}{φ: Phi}{nt id:Nat}{k:List AItem}{k':List Item}(h:IRs E φ nt k k'):
  (Ev.exitTo id k=none→Go.exitTo id k'=none)∧(∀r,Ev.exitTo id k=some r→ ∃r',Go.exitTo id k'=some r'∧IRs E φ nt r r'):=by
 induction h with
 |nil=>exact⟨fun _=>rfl,fun r h=>by simp [Ev.exitTo]at h⟩
 |cons h hs ih=>
  cases h with
  |inBlock id'=>
   simp only [Ev.exitTo,Go.exitTo]
   by_cases he:id'=id
   ·subst he
    have:Nat.beq id' id'=true:=Nat.beq_refl id'
    rw [this]
    exact⟨fun h=>(by cases h),fun r h=>by simp only [Option.some.injEq]at h;subst h;exact⟨_,by simp,hs⟩⟩
   ·have hb:Nat.beq id' id=false:=by cases hb:Nat.beq id' id with|false=>rfl|true=>exact absurd (Aj hb) he
    rw [hb]
    have:(id' == id)=false:=by simp [he]
    simp only [this,Bool.false_eq_true,if_false]
    exact ih
  |_=>exact ih
theorem fq {E:Env}{φ: Phi}{nt l:Nat}{k:List AItem}{k':List Item}(h:IRs E φ nt k k'):
  (Ev.gotoIn l k=none→Go.gotoIn l k'=none)∧(∀r,Ev.gotoIn l k=some r→ ∃r',Go.gotoIn l k'=some r'∧IRs E φ nt r r'):=by
 induction h with
 |nil=>exact⟨fun _=>rfl,fun r h=>by simp [Ev.gotoIn]at h⟩
 |cons h hs ih=>
  cases h with
  |inScope c=>
   simp only [Ev.gotoIn,Go.gotoIn,Ie]
   cases Go.findLabel c l with
   |none=>simpa using ih
   |some r=>
    simp only [Option.map_some]
    exact⟨fun h=>(by cases h),fun q h=>by simp only [Option.some.injEq]at h;subst h;exact⟨_,rfl,.cons (.code _) (.cons (.inScope _) hs)⟩⟩
  |_=>exact ih
section
variable {P:Program}{E:Env}{w0:World}{φ: Phi}{h:H}{w:World}{tm:T AV}{nt:Nat}
theorem TR.put' {a:Act}(h:TR φ nt tm a.tmps){d:Option Nat}(hd:Mc nt d=true){v:AV}{v':Value}(hv:VR φ v v'):TR φ nt (Ev.put tm d v) (a.put d v').tmps:=by
 have:=h.put hd hv
 cases d with
 |none=>exact this
 |some d=>exact this
theorem Dw {a:Act}(h:TR φ nt tm a.tmps){ops:Array Oper}{o:Oper}{g:Option (Nat×Bool)}(hg:J8 ops o.guard=some g){q:Bool}(hw:Ev.wanted tm g=some q):
  Region.wanted o (yielded ops a.tmps)=q:=by
 unfold J8 at hg
 unfold Region.wanted
 cases hgd:o.guard with
 |none=>
  rw [hgd]at hg;simp only [Option.some.injEq]at hg;subst hg
  simp only [Ev.wanted,Option.some.injEq]at hw;exact hw
 |some p=>
  obtain⟨j,b⟩:=p
  rw [hgd]at hg
  simp only at hg ⊢
  split at hg
  ·rename_i d hd
   simp only [Option.some.injEq]at hg;subst hg
   simp only [Ev.wanted]at hw
   have hy:yielded ops a.tmps j=match a.tmps[d]? with|some (.bool c)=>some c|_=>none:=by
    unfold yielded;rw [hd];rfl
   rw [hy]
   split at hw
   ·rename_i c hc
    simp only [Option.some.injEq]at hw;subst hw
    have:=(h.val d _ hc).bool_inv
    rw [Array.getD_eq_getD_getElem?]at this
    cases ht:a.tmps[d]? with
    |none=>rw [ht]at this;simp [undef]at this
    |some u=>
     rw [ht]at this;simp at this;subst this
     cases b <;> cases c <;> rfl
   ·rename_i hc
    simp only [Option.some.injEq]at hw;subst hw
    obtain⟨c,e1,_⟩:=(h.val d _ hc).tup_inv
    rw [Array.getD_eq_getD_getElem?]at e1
    cases ht:a.tmps[d]? with
    |none=>rfl
    |some u=>rw [ht]at e1;simp at e1;subst e1;rfl
   ·cases hw
  ·cases hg
theorem If (E:Env)(nt:Nat)(ops:Array Oper)(j:Nat):
  (Bj E nt ops j=⟨none,none,.bad⟩)∨(∃o,ops[j]?=some o∧(Bj E nt ops j).dst=o.dst∧Mc nt o.dst=true∧J8 ops o.guard=some (Bj E nt ops j).guard∧(Bj E nt ops j).op=Ak E o.op):=by
 unfold Bj
 cases ho:ops[j]? with
 |none=>exact .inl rfl
 |some o=>
  simp only
  unfold J9
  cases h1:Mc nt o.dst with
  |false=>exact .inl rfl
  |true=>
   cases h2:J8 ops o.guard with
   |none=>exact .inl rfl
   |some g=>exact .inr ⟨o,rfl,rfl,h1,h2,rfl⟩
variable {b:Frame}{cs:List Frame}{k:List Item}{ops:Array Oper}
theorem Gy {a:Act}{j:Nat}{rest:List Nat}{o:Oper}{v:Value}{w':World}(ho:ops[j]?=some o)(hw:Region.wanted o (yielded ops a.tmps)=true)(hd: ∀c,o.op≠ .defer c)
  (hx:(execOp a.eval o).run P w= .ok (.value v) w'∨((execOp a.eval o).run P w= .ok .skip w'∧v=undef)):
  Go.step P (lone (b.atR a (.inRegion ops (j::rest)::k)) cs w)= .next (lone (b.atR (a.put o.dst v) (.inRegion ops rest::k)) cs w'):=by
 have hf:=Frame.finish_atR b a ops j rest k v
 rw [ho]at hf
 simp only [Option.bind_some]at hf
 rw [←hf]
 apply step_lone_go
 rw [stepGR_op ho hw,Oper.semAt_eq _ _ _ hd]
 rcases hx with hx|⟨hx,rfl⟩
 ·simp [stepG.apply,Sem.runT_eq,hx]
 ·simp [stepG.apply,Sem.runT_eq,hx]
def R2 (E:Env)(nt:Nat)(ops:Array Oper)(w0:World)(r:OR)(φ: Phi)(a:Act)(td:List Nat)(w:World):Prop:=
 match r with
 | .fin tm h=>td= []∧TR φ nt tm a.tmps∧HW E w0 φ h w
 | .at_ i l tm h x=> ∃j rest o,td=j::rest∧ops[j]?=some o∧i=Bj E nt ops j∧l=rest.map (Bj E nt ops)∧i.dst=o.dst∧Mc nt o.dst=true∧
   Region.wanted o (yielded ops a.tmps)=true∧exec (Ak E o.op) h tm=x∧(¬VF x)∧TR φ nt tm a.tmps∧HW E w0 φ h w
 | .fail=>True
theorem Nk (hE:EnvOk P E): ∀(td:List Nat) (tm:T AV) (h:H) (φ: Phi) (a:Act) (w:World),TR φ nt tm a.tmps→HW E w0 φ h w→
  ∃φ' a' td' w',Phi.le φ φ'∧a'.defers=a.defers∧
   (C8 (td.map (Bj E nt ops)) tm h≠ .fail→Steps P (lone (b.atR a (.inRegion ops td::k)) cs w) (lone (b.atR a' (.inRegion ops td'::k)) cs w'))∧
   R2 E nt ops w0 (C8 (td.map (Bj E nt ops)) tm h) φ' a' td' w'
 | [],tm,h,φ,a,w,ht,hr=>⟨φ,a,[],w,.refl _,rfl,fun _=> .refl _ _,rfl,ht,hr⟩
 |j::td,tm,h,φ,a,w,ht,hr=>by
  rw [List.map_cons]
  generalize hi:Bj E nt ops j=i
  have hfail: ∀{r:OR},C8 (i::td.map (Bj E nt ops)) tm h= .fail→ ∃φ' a' td' w',Phi.le φ φ'∧a'.defers=a.defers∧
   (C8 (i::td.map (Bj E nt ops)) tm h≠ .fail→Steps P (lone (b.atR a (.inRegion ops (j::td)::k)) cs w) (lone (b.atR a' (.inRegion ops td'::k)) cs w'))∧
   R2 E nt ops w0 (C8 (i::td.map (Bj E nt ops)) tm h) φ' a' td' w':=by
   intro r e
   exact⟨φ,a,[],w,.refl _,rfl,fun hn=>absurd e hn,by rw [e];trivial⟩
  rcases If E nt ops j with hbad|⟨o,ho,h1,h2,h3,h4⟩
  ·rw [hi]at hbad
   exact hfail (r:= .fail) (by rw [hbad];rfl)
  rw [hi]at h1 h3 h4
  cases hw:Ev.wanted tm i.guard with
  |none=>exact hfail (r:= .fail) (by simp only [C8,hw])
  |some q=>
   have hwc:=Dw ht h3 hw
   cases q with
   |false=>
    have e:C8 (i::td.map (Bj E nt ops)) tm h=C8 (td.map (Bj E nt ops)) (Ev.put tm i.dst (.tup [])) h:=by simp only [C8,hw]
    have hstep:=stepR_op_skip (P:=P) (b:=b) (a:=a) (k:=k) (cs:=cs) (w:=w) (ops:=ops) (i:=j) (rest:=td) (by rw [ho];simpa using hwc)
    rw [ho]at hstep
    simp only [Option.bind_some]at hstep
    obtain⟨φ',a',td',w',g1,g2,g3,g4⟩:=Nk hE td (Ev.put tm i.dst (.tup [])) h φ (a.put o.dst undef) w (by rw [h1];exact ht.put' h2 (.tup .nil)) hr
    exact⟨φ',a',td',w',g1,by rw [g2];cases o.dst <;> rfl,fun hn=> .head hstep (g3 (by rw [e]at hn;exact hn)),by rw [e];exact g4⟩
   |true=>
    have hat: ∀x,exec i.op h tm=x→ ¬VF x→ ∃φ' a' td' w',Phi.le φ φ'∧a'.defers=a.defers∧
      (OR.at_ i (td.map (Bj E nt ops)) tm h x≠ .fail→Steps P (lone (b.atR a (.inRegion ops (j::td)::k)) cs w) (lone (b.atR a' (.inRegion ops td'::k)) cs w'))∧
      R2 E nt ops w0 (OR.at_ i (td.map (Bj E nt ops)) tm h x) φ' a' td' w':=by
     intro x hx hv
     exact⟨φ,a,j::td,w,.refl _,rfl,fun _=> .refl _ _,j,td,o,rfl,ho,hi.symm,rfl,h1,h2,hwc,by rw [←h4];exact hx,hv,ht,hr⟩
    cases hx:exec i.op h tm with
    |fail=>exact hfail (r:= .fail) (by simp only [C8,hw,hx])
    |val v h'=>
     rw [h4]at hx
     have hsim:=Nh hr.hr ht.rho hE hx
     obtain⟨φ1,v',w1,⟨s1,_⟩,s2,s3,s4,s5⟩:=hsim
     have s4:=hr.to s4 s5
     have hnd: ∀c,o.op≠ .defer c:=by
      intro c e
      rw [e]at hx
      simp only [Ak]at hx
      split at hx
      ·simp only [exec]at hx;split at hx <;> cases hx
      ·simp [exec]at hx
     have hstep:=Gy (b:=b) (cs:=cs) (k:=k) (rest:=td) ho hwc hnd s2
     have e:C8 (i::td.map (Bj E nt ops)) tm h=C8 (td.map (Bj E nt ops)) (Ev.put tm i.dst v) h':=by rw [←h4]at hx;simp only [C8,hw,hx]
     obtain⟨φ',a',td',w',g1,g2,g3,g4⟩:=Nk hE td (Ev.put tm i.dst v) h' φ1 (a.put o.dst v') w1 (by rw [h1];exact(ht.mono s1).put' h2 s3) s4
     exact⟨φ',a',td',w',s1.trans g1,by rw [g2];cases o.dst <;> rfl,fun hn=> .head hstep (g3 (by rw [e]at hn;exact hn)),by rw [e];exact g4⟩
    |call f args=>
     have e:C8 (i::td.map (Bj E nt ops)) tm h= .at_ i (td.map (Bj E nt ops)) tm h (.call f args):=by simp only [C8,hw,hx]
     rw [e];exact hat _ hx (by rintro(⟨_,_,e⟩|e) <;> cases e)
    |dfr f args=>
     have e:C8 (i::td.map (Bj E nt ops)) tm h= .at_ i (td.map (Bj E nt ops)) tm h (.dfr f args):=by simp only [C8,hw,hx]
     rw [e];exact hat _ hx (by rintro(⟨_,_,e⟩|e) <;> cases e)
    |pan v=>
     have e:C8 (i::td.map (Bj E nt ops)) tm h= .at_ i (td.map (Bj E nt ops)) tm h (.pan v):=by simp only [C8,hw,hx]
     rw [e];exact hat _ hx (by rintro(⟨_,_,e⟩|e) <;> cases e)
    |recover=>
     have e:C8 (i::td.map (Bj E nt ops)) tm h= .at_ i (td.map (Bj E nt ops)) tm h .recover:=by simp only [C8,hw,hx]
     rw [e];exact hat _ hx (by rintro(⟨_,_,e⟩|e) <;> cases e)
    |next ws=>
     have e:C8 (i::td.map (Bj E nt ops)) tm h= .at_ i (td.map (Bj E nt ops)) tm h (.next ws):=by simp only [C8,hw,hx]
     rw [e];exact hat _ hx (by rintro(⟨_,_,e⟩|e) <;> cases e)
end
section
variable {P:Program}{E:Env}{F:T CFn}{w0:World}{φ: Phi}{h:H}{w:World}{cs0:List Frame}
theorem Goes.steps {o:Out}{m m1:Machine}(hs:Steps P m m1)(hg:Goes P E w0 cs0 o m1):Goes P E w0 cs0 o m:=by
 cases o with
 |one c=>obtain⟨m',a,b⟩:=hg;exact⟨m',hs.trans a,b⟩
 |many l=>obtain⟨c,hc,m',a,b⟩:=hg;exact⟨c,hc,m',hs.trans a,b⟩
 |done fn v h=>obtain⟨fr,w,φ,v',a,b⟩:=hg;exact⟨fr,w,φ,v',hs.trans a,b⟩
 |fail=>trivial
structure BR' (φ: Phi)(fn:Nat)(dfd:Bool)(ro:Option Nat)(b:Frame):Prop where
 fn:b.fn=fn
 kind:b.kind=C5 dfd
 ro:OptR φ ro b.roundOf
theorem BR'.mono {φ φ':Phi}(hp:Phi.le φ φ'){fn:Nat}{dfd:Bool}{ro:Option Nat}{b:Frame}(h:BR' φ fn dfd ro b):BR' φ' fn dfd ro b:=⟨h.fn,h.kind,h.ro.mono hp⟩
theorem BR'.FR {fn nt:Nat}{dfd:Bool}{ro:Option Nat}{b:Frame}(h:BR' φ fn dfd ro b){tm:T AV}{a:Act}{ds:List ADef}{todo:List AItem}{todo':List Item}
  (ht:TR φ nt tm a.tmps) (hd:DRs φ ds a.defers) (hi:IRs E φ nt todo todo'):Ev.FR E φ ⟨fn,nt,tm,todo,ds,.run,dfd,ro⟩ (b.atR a todo'):=
 ⟨h.fn,h.kind,h.ro,hd,.run,.plain ht hi,fun h=>absurd (hi.noD.symm.trans h) (by decide)⟩
end
theorem HR.grow {E:Env}{w0:Array Obj}{φ: Phi}{h h':H}{m:Array Obj}(hr:HR E w0 φ h m)(hn:h.n≤h'.n)(hb: ∀b,b<h.n→H.get h' b=H.get h b):HR E w0 φ h' m:=by
 have ex: ∀{b:Nat} {l:Loc} {x:Blk},φ b=some l→H.get h' b=some x→H.get h b=some x:=fun hφ hx=>by rw [hb _ (hr.bound _ _ hφ)]at hx;exact hx
 exact⟨fun b l hφ=> Nat.lt_of_lt_of_le (hr.bound b l hφ) hn,hr.cbound,fun b l x hφ hx=>hr.blk b l x hφ (ex hφ hx),fun b b' l l' x x' h1 h2 h3 h4=>hr.inj b b' l l' x x' h1 h2 (ex h1 h3) (ex h2 h4),
  fun b l x hφ hx=>hr.own b l x hφ (ex hφ hx),hr.old,hr.size⟩
section
variable {P:Program}{E:Env}{w0:World}{nt:Nat}{Rg:Reg}{k:Nat}{φ: Phi}{tm:T AV}{h:H}{bn:Nat→Option Nat}{D td:List Nat}{w:World}{j:Nat}
structure Pd (E:Env)(w0:World)(nt:Nat)(Rg:Reg)(k:Nat)(φ: Phi)(tm:T AV)(h:H)(bn:Nat→Option Nat)(D td:List Nat)(tmps:Array Value)(m:World):Prop where
 hr:HW E w0 φ h m
 ds:DS E nt Rg k D td
 tr:TRd E φ nt Rg k td tm tmps
 pf: ∀j∈td,pc E nt Rg k j→cl' E nt Rg j≠2→PF E nt Rg tm h j
 pm: ∀j∈td,pc E nt Rg k j→cl' E nt Rg j=2→PM E nt Rg tm h (bn j) j∧ ∀b,bn j=some b→φ b=none∧b<h.n
 inj: ∀i j b,bn i=some b→bn j=some b→i=j
theorem TRd.step {a:Act}(ht:TRd E φ nt Rg k (j::td) tm a.tmps){d:Option Nat}(hd:Mc nt d=true)(hj:(ci' E nt Rg j).dst=d){u:AV}{v':Value}(hh:Hh tm d u)(hv:VR φ u v'):
  TRd E φ nt Rg k td tm (a.put d v').tmps:=by
 have hsz:(a.put d v').tmps.size=a.tmps.size:=by cases d <;> simp [Act.put]
 refine⟨by rw [hsz];exact ht.size,fun t v hg hp=>?_⟩
 by_cases e:d=some t
 ·subst e
  have hlt:t<a.tmps.size:=by rw [ht.size];exact Ah hd
  rw [hh t rfl]at hg;cases hg
  show VR φ _ ((a.tmps.setIfInBounds t v').getD t undef)
  rw [H7 _ _ _ _ _ hlt,if_pos rfl];exact hv
 ·have hold:(a.put d v').tmps.getD t undef=a.tmps.getD t undef:=by
   cases d with
   |none=>rfl
   |some d=>
    have hlt:d<a.tmps.size:=by rw [ht.size];exact Ah hd
    show((a.tmps.setIfInBounds d v').getD t undef)=_
    rw [H7 _ _ _ _ _ hlt,if_neg (fun e'=>e (by rw [e']))]
  rw [hold]
  refine ht.val t v hg fun i hi hpi=>?_
  rcases List.mem_cons.1 hi with e'|hi
  ·subst e';rw [hj];exact e
  ·exact hp i hi hpi
variable {b:Frame}{cs:List Frame}{k':List Item}
theorem Vn (hE:EnvOk P E){a:Act}(hp:Pd E w0 nt Rg k φ tm h bn D (j::td) a.tmps w)(hc:cl' E nt Rg j≠3):
  ∃φ' a' w',Go.step P (lone (b.atR a (.inRegion Rg.ops (j::td)::k')) cs w)= .next (lone (b.atR a' (.inRegion Rg.ops td::k')) cs w')∧Phi.le φ φ'∧a'.defers=a.defers∧
   Pd E w0 nt Rg k φ' tm h bn (j::D) td a'.tmps w':=by
 obtain⟨g1,g2,g3,g4⟩:=hp.ds.head
 have hpe:=hp.ds.pend hc
 have hT:TR φ nt (only tm (nm' Rg j)) a.tmps:=Xh hp.tr.size (hp.ds.names hp.tr)
 rcases If E nt Rg.ops j with hbad|⟨o,ho,h1,h2,h3,h4⟩
 ·exfalso;apply hc;unfold cl';rw [hbad];rfl
 have hds:=hp.ds.next hc
 have hnt: ∀i∈td,i≠j:=fun i hi e=>(g4.apart i hi).1 (e ▸ List.mem_cons_self ..)
 have hdef: ∀v,(a.put o.dst v).defers=a.defers:=by intro v;cases o.dst <;> rfl
 have fin: ∀(φ':Phi) (u:AV) (v':Value) (w':World),Phi.le φ φ'→HW E w0 φ' h w'→Hh tm (ci' E nt Rg j).dst u→VR φ' u v'→(∀i∈td,∀b,bn i=some b→φ b=none→b<h.n→φ' b=none)→
   Go.step P (lone (b.atR a (.inRegion Rg.ops (j::td)::k')) cs w)= .next (lone (b.atR (a.put o.dst v') (.inRegion Rg.ops td::k')) cs w')→
   ∃φ' a' w',Go.step P (lone (b.atR a (.inRegion Rg.ops (j::td)::k')) cs w)= .next (lone (b.atR a' (.inRegion Rg.ops td::k')) cs w')∧Phi.le φ φ'∧a'.defers=a.defers∧
    Pd E w0 nt Rg k φ' tm h bn (j::D) td a'.tmps w':=by
  intro φ' u v' w' hle hr' hh hv hno hstep
  refine⟨φ',a.put o.dst v',w',hstep,hle,hdef v',hr',hds,(hp.tr.mono hle).step h2 h1 (by rw [←h1];exact hh) hv,?_,?_,hp.inj⟩
  ·exact fun i hi=>hp.pf i (List.mem_cons_of_mem _ hi)
  ·intro i hi hpi h2
   obtain⟨q1,q2⟩:=hp.pm i (List.mem_cons_of_mem _ hi) hpi h2
   exact⟨q1,fun b hb=>⟨hno i hi b hb (q2 b hb).1 (q2 b hb).2,(q2 b hb).2⟩⟩
 have hnd: ∀c,o.op≠ .defer c:=by
  intro c e
  apply hc
  unfold cl'
  rw [h4,e]
  simp only [Ak]
  split <;> rfl
 have skip:wanted (only tm (nm' Rg j)) (ci' E nt Rg j).guard=some false→Hh tm (ci' E nt Rg j).dst (.tup [])→
   ∃φ' a' w',Go.step P (lone (b.atR a (.inRegion Rg.ops (j::td)::k')) cs w)= .next (lone (b.atR a' (.inRegion Rg.ops td::k')) cs w')∧Phi.le φ φ'∧a'.defers=a.defers∧
    Pd E w0 nt Rg k φ' tm h bn (j::D) td a'.tmps w':=by
  intro hw hh
  have hwc:=Dw hT h3 hw
  have hstep:=stepR_op_skip (P:=P) (b:=b) (a:=a) (k:=k') (cs:=cs) (w:=w) (ops:=Rg.ops) (i:=j) (rest:=td) (by rw [ho];simpa using hwc)
  rw [ho]at hstep
  simp only [Option.bind_some]at hstep
  exact fin φ (.tup []) undef w (.refl _) hp.hr hh (.tup .nil) (fun _ _ _ _ h _=>h) hstep
 by_cases hm:cl' E nt Rg j=2
 ·obtain⟨q1,q2⟩:=hp.pm j (List.mem_cons_self ..) hpe hm
  rcases q1 with⟨_,hw,hh⟩|⟨bk,blk,h0,v,e1,hw,hx,e2,hh,hg⟩
  ·exact skip hw hh
  ·have hwc:=Dw hT h3 hw
   have hx':exec (Ak E o.op) h0 (only tm (nm' Rg j))= .val v (H.new h0 blk):=by rw [←h4];exact hx
   have hcl:cls (Ak E o.op)=2:=by rw [←h4];exact hm
   obtain⟨v',ob,l,blk',s1,s2,s3,s4,s5⟩:=ux (w:=w) hT.rho hE hcl hx'
   have hbk:blk'=blk:=by
    have:H.get (H.new h0 blk) h0.n=H.get (H.new h0 blk') h0.n:=by rw [s2]
    rw [H.get_new,if_pos rfl,H.get_new,if_pos rfl]at this
    cases this;rfl
   subst hbk
   subst e2
   obtain⟨q3,q4⟩:=q2 _ e1
   obtain⟨s6,s7⟩:=s5 _ (Phi.le_upd l q3) (Phi.upd_same _ _ _)
   have hr':=hp.hr.hr.alloc (l:=l) s3 q3 (Nat.le_refl _) q4 hg (fun _ _ _=>rfl) s7 s4
   have hstep:=Gy (b:=b) (cs:=cs) (k:=k') (rest:=td) (P:=P) ho hwc hnd (.inl s1)
   refine fin (φ.upd h0.n l) v v' (w.alloc ob) (Phi.le_upd l q3) (hp.hr.to (w':=w.alloc ob) hr' ⟨rfl,rfl,rfl⟩) hh s6 ?_ hstep
   intro i hi bi hbi hni _
   rw [Phi.upd_ne _ _ (fun e=>hnt i hi (hp.inj i j bi hbi (by rw [e1,e])))];exact hni
 ·have hpf:=hp.pf j (List.mem_cons_self ..) hpe hm
  rcases hpf with⟨hw,hh⟩|⟨hw,v,h1',hx,hh⟩
  ·exact skip hw hh
  ·have hwc:=Dw hT h3 hw
   have hc01:cls (ci' E nt Rg j).op=0∨cls (ci' E nt Rg j).op=1:=by
    rcases Ln hc with h|h|h
    ·exact .inl h
    ·exact .inr h
    ·exact absurd h hm
   have hk:=Js hc01 hx
   subst hk
   have hx':exec (Ak E o.op) h1' (only tm (nm' Rg j))= .val v h1':=by rw [←h4];exact hx
   have hsim:=Nh hp.hr.hr hT.rho hE hx'
   obtain⟨φ1,v',w1,⟨s1,s1'⟩,s2,s3,s4,s5⟩:=hsim
   have hstep:=Gy (b:=b) (cs:=cs) (k:=k') (rest:=td) ho hwc hnd s2
   refine fin φ1 v v' w1 s1 (hp.hr.to s4 s5) hh s3 ?_ hstep
   intro i hi bi hbi hni hlt
   rw [s1' bi (by omega)];exact hni
theorem Tp (hE:EnvOk P E): ∀(td D:List Nat) (φ: Phi) (a:Act) (w:World),Pd E w0 nt Rg k φ tm h bn D td a.tmps w→
  ∃φ' a' w' D' td',Steps P (lone (b.atR a (.inRegion Rg.ops td::k')) cs w) (lone (b.atR a' (.inRegion Rg.ops td'::k')) cs w')∧Phi.le φ φ'∧a'.defers=a.defers∧Pd E w0 nt Rg k φ' tm h bn D' td' a'.tmps w'∧
   (td'= []∨ ∃j r,td'=j::r∧cl' E nt Rg j=3)
 | [],D,φ,a,w,hp=>⟨φ,a,w,D,[],.refl _ _,.refl _,rfl,hp,.inl rfl⟩
 |j::td,D,φ,a,w,hp=>by
  by_cases hc:cl' E nt Rg j=3
  ·exact⟨φ,a,w,D,j::td,.refl _ _,.refl _,rfl,hp,.inr ⟨j,td,rfl,hc⟩⟩
  ·obtain⟨φ1,a1,w1,s1,s2,s3,s4⟩:=Vn (b:=b) (cs:=cs) (k':=k') hE hp hc
   obtain⟨φ',a',w',D',td',g1,g2,g3,g4,g5⟩:=Tp hE td (j::D) φ1 a1 w1 s4
   exact⟨φ',a',w',D',td',.head s1 g1,s2.trans g2,by rw [g3,s3],g4,g5⟩
end
section
variable {P:Program}{E:Env}{w0:World}{nt:Nat}{Rg:Reg}{φ: Phi}{tm:T AV}{h:H}{D td:List Nat}{w:World}{cs0:List Frame}
variable {b:Frame}{a:Act}{fn:Nat}{dfd:Bool}{ro:Option Nat}{ds:List ADef}{kk:List AItem}{kk':List Item}{xs:List AFr}{cs:List Frame}
theorem vf (k:Nat):(E3 (ne' E nt Rg) (es' E nt Rg) k).map Gr=((List.range Rg.ops.size).filter fun j=>!(Nat.beq (cl' E nt Rg j) 3) && Nat.beq (cn' E nt Rg j) k).map fun j=>Gr (rw' E nt Rg j):=by
 unfold E3 ne' Dh Au
 rw [List.filter_map,List.filter_map,List.map_map,List.filter_filter]
 congr 1
 refine List.filter_congr fun j _=>?_
 simp only [Function.comp]
 rw [Bool.and_comm]
 rfl
theorem mem_pre {k j:Nat}:j∈((List.range Rg.ops.size).filter fun j=>!(Nat.beq (cl' E nt Rg j) 3) && Nat.beq (cn' E nt Rg j) k)↔j<Rg.ops.size∧cl' E nt Rg j≠3∧cn' E nt Rg j=k:=by
 rw [List.mem_filter,List.mem_range,Bool.and_eq_true]
 constructor
 ·rintro⟨h1,h2,h3⟩
  refine⟨h1,fun e=>?_,Aj h3⟩
  rw [e]at h2;simp at h2
 ·rintro⟨h1,h2,h3⟩
  refine⟨h1,?_,by rw [h3];exact Nat.beq_refl _⟩
  cases hb:Nat.beq (cl' E nt Rg j) 3 with
  |false=>rfl
  |true=>exact absurd (Aj hb) h2
theorem Zb {k:Nat}(hm:Md (E3 (ne' E nt Rg) (es' E nt Rg) k)=false){j:Nat}(hj:j<Rg.ops.size)(hc:cl' E nt Rg j≠3)(hk:cn' E nt Rg j=k):cl' E nt Rg j≠2:=by
 intro h2
 unfold Md at hm
 rw [List.any_eq_false]at hm
 have:rw' E nt Rg j∈E3 (ne' E nt Rg) (es' E nt Rg) k:=by
  unfold E3
  rw [List.mem_filter]
  refine⟨mem_ne.2 ⟨j,hj,rfl,hc⟩,?_⟩
  show Nat.beq (cn' E nt Rg j) k=true
  rw [hk];exact Nat.beq_refl _
 have h3:=hm _ this
 apply h3
 show Nat.beq (cl' E nt Rg j) 2=true
 rw [h2];rfl
theorem Oq (hE:EnvOk P E){k:Nat}{pre chk:List DI}{l:List Ph}(hr:HW E w0 φ h w)(hb:BR' φ fn dfd ro b)(hd:DRs φ ds a.defers)(hk:IRs E φ nt kk kk')(hfs:FRs E φ xs cs)
  (hs:DS E nt Rg k D td) (hsz:a.tmps.size=nt)
  (ht: ∀t v,T.get tm t=some v→(∀j∈td,cl' E nt Rg j≠3→cn' E nt Rg j<k→(ci' E nt Rg j).dst≠some t)→VR φ v (a.tmps.getD t undef))
  (hnew: ∀j,j<Rg.ops.size→cl' E nt Rg j≠3→cn' E nt Rg j=k→j∉D) (hmk: ∀j∈td,cl' E nt Rg j=2→ ¬(cn' E nt Rg j<k))
  (hpre:pre=(E3 (ne' E nt Rg) (es' E nt Rg) k).map Gr)
  (hchk: ∀j∈td,cl' E nt Rg j≠3→cl' E nt Rg j≠2→(cn' E nt Rg j<k∨(cn' E nt Rg j=k∧cl' E nt Rg j=1∧Md (E3 (ne' E nt Rg) (es' E nt Rg) k)=true))→Gr (rw' E nt Rg j)∈chk)
  (hl:l=Ba (ne' E nt Rg) (es' E nt Rg) ((es' E nt Rg).drop k) k):
  Goes P E w0 cs0 (Ds pre chk l kk fn nt tm ds dfd ro xs h) (lone (b.atR a (.inRegion Rg.ops td::kk')) (cs++cs0) w):=by
 unfold Ds
 cases hpu:Gs pre tm h with
 |none=>exact trivial
 |some q=>
  obtain⟨tm',h'⟩:=q
  simp only
  cases hck:checks chk tm' h' with
  |false=>exact trivial
  |true=>
   simp only
   rw [hpre,vf]at hpu
   obtain⟨bn,R⟩:=Qu hs.reg _ _ _ _ _ hpu (List.Pairwise.filter _ List.pairwise_lt_range) (fun j hj=>⟨(mem_pre.1 hj).1,(mem_pre.1 hj).2.1,(mem_pre.1 hj).2.2⟩)
   have htd: ∀j,j<Rg.ops.size→cl' E nt Rg j≠3→cn' E nt Rg j=k→j∈td:=fun j h1 h2 h3=>(hs.ext.all j h1).resolve_left (hnew j h1 h2 h3)
   have hP:Pd E w0 nt Rg k φ tm' h' bn D td a.tmps w:=by
    refine⟨⟨hr.hr.grow R.n R.blk,hr.like⟩,hs,⟨hsz,fun t v hg hp=>?_⟩,?_,?_,R.inj⟩
    ·have e:T.get tm' t=T.get tm t:=R.tm t fun j hj=>by
      obtain⟨q1,q2,q3⟩:=mem_pre.1 hj
      exact hp j (htd j q1 q2 q3) ⟨q2,by omega⟩
     exact ht t v (e ▸ hg) fun j hj h1 h2=>hp j hj ⟨h1,by omega⟩
    ·intro j hj hpj h2
     obtain⟨p1,p2⟩:=hpj
     have hjs:=(hs.ext.apart j hj).2
     by_cases hlt:cn' E nt Rg j<k
     ·exact To (Jt hck _ (hchk j hj p1 h2 (.inl hlt)))
     ·have hkj:cn' E nt Rg j=k:=by omega
      have hmem:=mem_pre.2 ⟨hjs,p1,hkj⟩
      rcases Ln p1 with h0|h0|h0
      ·exact R.pf j hmem h2 (.inl h0)
      ·cases hm:Md (E3 (ne' E nt Rg) (es' E nt Rg) k)with
       |true=>exact To (Jt hck _ (hchk j hj p1 h2 (.inr ⟨hkj,h0,hm⟩)))
       |false=>
        refine R.pf j hmem h2 (.inr fun i hi=>?_)
        obtain⟨q1,q2,q3⟩:=mem_pre.1 hi
        exact Zb hm q1 q2 q3
      ·exact absurd h0 h2
    ·intro j hj hpj h2
     obtain⟨p1,p2⟩:=hpj
     have hjs:=(hs.ext.apart j hj).2
     have hkj:cn' E nt Rg j=k:=by have:=hmk j hj h2;omega
     refine⟨R.mks j (mem_pre.2 ⟨hjs,p1,hkj⟩) h2,fun b hb=>?_⟩
     obtain⟨r1,r2⟩:=R.rng j b hb
     refine⟨?_,r2⟩
     cases hφ: φ b with
     |none=>rfl
     |some lo=>have:=hr.hr.bound b lo hφ;omega
   obtain⟨φ',a',w',D',td',g1,g2,g3,g4,g5⟩:=Tp (b:=b) (cs:=cs++cs0) (k':=kk') hE td D φ a w hP
   refine .steps g1 ?_
   have hd':DRs φ' ds a'.defers:=by rw [g3];exact hd.mono g2
   rcases g5 with rfl|⟨j,r,rfl,hcj⟩
   ·have hlen:=g4.ds.fin
    rw [List.drop_eq_nil_of_le hlen]at hl
    simp only [Ba]at hl
    subst hl
    have hT:TR φ' nt tm' a'.tmps:=⟨g4.tr.size,fun t v hg=>g4.tr.val t v hg fun j hj=>by cases hj⟩
    exact⟨_,.one stepR_region_end,φ',_,cs,w',rfl,(hb.mono g2).FR hT hd' (hk.mono g2),hfs.mono g2,g4.hr⟩
   ·obtain⟨e,he,hej⟩:=g4.ds.eff hcj
    have hlt:k<(es' E nt Rg).length:=(List.getElem?_eq_some_iff.1 he).1
    have hdrop:(es' E nt Rg).drop k=e::(es' E nt Rg).drop (k+1):=by
     rw [List.drop_eq_getElem_cons hlt]
     have:=(List.getElem?_eq_some_iff.1 he).2
     rw [this]
    rw [hdrop]at hl
    simp only [Ba]at hl
    subst hl
    subst hej
    refine⟨_,.refl _ _,φ',_,cs,w',rfl,?_,hfs.mono g2,g4.hr⟩
    refine⟨(hb.mono g2).fn,(hb.mono g2).kind,(hb.mono g2).ro,hd',.run,?_,fun _=>rfl⟩
    refine .drawn g4.ds he ?_ g4.tr (hk.mono g2)
    rw [hdrop];rfl
theorem Xj {k j:Nat}{e:Row}(hj:j<Rg.ops.size)(hc:cl' E nt Rg j≠3)(h2:cl' E nt Rg j≠2)
  (h:(cn' E nt Rg j≤k∧tb e.bits j=false)∨(cn' E nt Rg j=k+1∧cl' E nt Rg j=1∧Md (E3 (ne' E nt Rg) (es' E nt Rg) (k+1))=true)):
  Gr (rw' E nt Rg j)∈(W7 (ne' E nt Rg) (es' E nt Rg) e k).map Gr:=by
 refine List.mem_map.2 ⟨_,?_,rfl⟩
 unfold W7
 rw [List.mem_filter]
 refine⟨mem_ne.2 ⟨j,hj,rfl,hc⟩,?_⟩
 have hb:Nat.beq (Lb (rw' E nt Rg j)) 2=false:=by
  cases hb:Nat.beq (Lb (rw' E nt Rg j)) 2 with
  |false=>rfl
  |true=>exact absurd (Aj hb) h2
 rw [hb]
 simp only
 have hcn:cnt (es' E nt Rg) (rw' E nt Rg j)=cn' E nt Rg j:=rfl
 rw [hcn]
 rcases h with⟨h1,h3⟩|⟨h1,h3,h4⟩
 ·have:Nat.ble (cn' E nt Rg j) k=true:=by rw [Nat.ble_eq];exact h1
  rw [this]
  simp only
  show(!tb e.bits j)=true
  rw [h3];rfl
 ·have:Nat.ble (cn' E nt Rg j) k=false:=by
   cases hb:Nat.ble (cn' E nt Rg j) k with
   |false=>rfl
   |true=>have:=Ah hb;omega
  rw [this]
  have hcl:Lb (rw' E nt Rg j)=1:=h3
  simp only [h1,hcl,Nat.succ_eq_add_one,h4,Bool.and_true]
  rw [show Nat.beq (k+1) (k+1)=true from Nat.beq_refl _];rfl
theorem Ot (hE:EnvOk P E){k:Nat}{e:Row}{p:Ph}{l:List Ph}{o:Oper}{v:AV}{v':Value}(hr:HW E w0 φ h w)(hb:BR' φ fn dfd ro b)(hd:DRs φ ds a.defers)(hk:IRs E φ nt kk kk')(hfs:FRs E φ xs cs)
  (hs:DS E nt Rg k D (e.j::td)) (he:(es' E nt Rg)[k]?=some e) (hp:Ba (ne' E nt Rg) (es' E nt Rg) ((es' E nt Rg).drop k) k=p::l) (ht:TRd E φ nt Rg k (e.j::td) tm a.tmps)
  (h1:(Bj E nt Rg.ops e.j).dst=o.dst) (h2:Mc nt o.dst=true) (hv:VR φ v v'):
  Goes P E w0 cs0 (Ds p.pre p.chk l kk fn nt (put tm o.dst v) ds dfd ro xs h) (lone (b.atR (a.put o.dst v') (.inRegion Rg.ops td::kk')) (cs++cs0) w):=by
 obtain⟨e1,e2,e3,e4⟩:=Hf he
 obtain⟨g1,g2,g3,g4⟩:=hs.head
 have hlt:k<(es' E nt Rg).length:=(List.getElem?_eq_some_iff.1 he).1
 have hdrop:(es' E nt Rg).drop k=e::(es' E nt Rg).drop (k+1):=by
  rw [List.drop_eq_getElem_cons hlt]
  have:=(List.getElem?_eq_some_iff.1 he).2
  rw [this]
 rw [hdrop]at hp
 simp only [Ba,List.cons.injEq]at hp
 obtain⟨rfl,rfl⟩:=hp
 have hdf:(a.put o.dst v').defers=a.defers:=by cases o.dst <;> rfl
 have hsz:(a.put o.dst v').tmps.size=a.tmps.size:=by cases o.dst <;> simp [Act.put]
 refine Oq (a:=a.put o.dst v') (k:=k+1) hE hr hb (by rw [hdf];exact hd) hk hfs (hs.nextE e3) (by rw [hsz];exact ht.size) ?_ ?_ ?_ rfl ?_ rfl
 ·intro t u hg hpd
  rw [Nj]at hg
  by_cases e':o.dst=some t
  ·rw [if_pos e']at hg;cases hg
   rw [e']at h2 ⊢
   have hlt:t<a.tmps.size:=by rw [ht.size];exact Ah h2
   show VR φ v ((a.tmps.setIfInBounds t v').getD t undef)
   rw [H7 _ _ _ _ _ hlt,if_pos rfl];exact hv
  ·rw [if_neg e']at hg
   have hold:(a.put o.dst v').tmps.getD t undef=a.tmps.getD t undef:=by
    cases hdst:o.dst with
    |none=>rfl
    |some d=>
     rw [hdst]at h2 e'
     have hlt:d<a.tmps.size:=by rw [ht.size];exact Ah h2
     show((a.tmps.setIfInBounds d v').getD t undef)=_
     rw [H7 _ _ _ _ _ hlt,if_neg (fun e''=>e' (by rw [e'']))]
   rw [hold]
   refine ht.val t u hg fun j hj hpj=>?_
   rcases List.mem_cons.1 hj with e''|hj
   ·rw [e'']at hpj;exact absurd e3 hpj.1
   ·exact hpd j hj hpj.1 (by have:=hpj.2;omega)
 ·intro j hj hc hcn hd
  rcases List.mem_cons.1 hd with e'|hd
  ·rw [e']at hc;exact hc e3
  ·exact g2 (hs.cl j hd _ (Om hs.reg hj hc (by omega:k<cn' E nt Rg j) he))
 ·intro j hj hc hcn
  obtain⟨q1,q2⟩:=g4.apart j hj
  exact q1 (List.mem_cons_of_mem _ (g3 j (Qp hs.reg q2 hc (by omega) he)))
 ·intro j hj hc hc2 hor
  obtain⟨q1,q2⟩:=g4.apart j hj
  refine Xj q2 hc hc2 ?_
  rcases hor with h3|h3
  ·refine .inl ⟨by omega,?_⟩
   cases hb:tb e.bits j with
   |false=>rfl
   |true=>rw [e4]at hb;exact absurd (List.mem_cons_of_mem _ (g3 j hb)) q1
  ·exact .inr h3
end
section
variable {P:Program}{E:Env}{F:T CFn}{w0:World}{φ: Phi}{h:H}{w:World}{cs0:List Frame}
def Fa (c:Frame):Frame:=
 match c.mode with
 | .panicking ({recovered:=true,..}::older)=>
  match older.dropWhile (!·.goexit)with
  | []=> {c with mode:= .returning}
  |rest=> {c with mode:= .panicking rest}
 |_=>c
theorem CR.noExit {l:List (AV×Bool)}{l':List PanicEntry}(h:CR φ l l'):l'.dropWhile (!·.goexit)= []:=by
 induction h with
 |nil=>rfl
 |cons _ _ ih=>rw [List.dropWhile_cons];simpa using ih
theorem Zc {x:AFr}{fr:Frame}(hf:FR E φ x fr):FR E φ {x with mode:=Ev.settle x.mode} (Fa fr):=by
 obtain⟨fn,tmps,todo,defers,mode,kind,ro⟩:=fr
 obtain⟨xfn,xnt,xtm,xtodo,xdefers,xmode,xdfd,xro⟩:=x
 obtain⟨h1,h2,h3,h4,h5,h6,h7⟩:=hf
 simp only at h1 h2 h3 h4 h5 h6 h7
 cases h5 with
 |run=>exact⟨h1,h2,h3,h4,.run,h6,fun _=>rfl⟩
 |returning=>exact⟨h1,h2,h3,h4,.returning,h6,h7⟩
 |panicking hc=>
  cases hc with
  |nil=>exact⟨h1,h2,h3,h4,.panicking .nil,h6,h7⟩
  | @cons v v' b l l' hv hs=>
   cases b with
   |false=>exact⟨h1,h2,h3,h4,.panicking (.cons hv hs),h6,h7⟩
   |true=>
    have:=hs.noExit
    refine⟨?_,?_,?_,?_,?_,?_,fun h=>(by cases h7 h)⟩ <;> simp only [Fa,this,Ev.settle] <;> first|assumption|exact .returning
theorem Ju {x:AFr}{xs:List AFr}{fr:Frame}{cs:List Frame}{v:AV}{v':Value}{m:Machine}(hr:HW E w0 φ h w)(hf:FR E φ x fr)(hfs:FRs E φ xs cs)(hv:VR φ v v')
  (hE:EnvOk P E) (hm:Steps P m (lone (fr.finish v') (cs++cs0) w)):Goes P E w0 cs0 (finish v xs h x) m:=by
 obtain⟨fn,tmps,todo,defers,mode,kind,ro⟩:=fr
 obtain⟨xfn,xnt,xtm,xtodo,xdefers,xmode,xdfd,xro⟩:=x
 obtain⟨h1,h2,h3,h4,h5,h6,h7⟩:=hf
 simp only at h1 h2 h3 h4 h5 h6 h7
 cases h5 with
 |returning=>exact trivial
 |panicking _=>exact trivial
 |run=>
  cases h6 with
  |plain ht hi=>
   cases hi with
   |nil=>exact trivial
   | @cons _ _ kx kx' hi hk=>
    cases hi with
    |ops ops td=>
     cases td with
     |nil=>exact trivial
     |cons j rest=>
      simp only [finish,List.map_cons]
      rcases If E xnt ops j with hbad|⟨o,ho,q1,q2,q3,q4⟩
      ·rw [hbad];exact trivial
      ·generalize hci:Bj E xnt ops j=i at q1 q3 q4
       obtain⟨dst,g,op⟩:=i
       simp only at q1
       subst q1
       have hgo:Goes P E w0 cs0 (.one ⟨⟨xfn,xnt,Ev.put xtm o.dst v,.ops (rest.map (Bj E xnt ops))::kx,xdefers,.run,xdfd,xro⟩,xs,h⟩) m:=by
        refine⟨_,hm,φ,_,cs,w,rfl,⟨?_,?_,?_,?_,?_,?_,?_⟩,hfs,hr⟩
        ·exact h1
        ·exact h2
        ·exact h3
        ·exact h4
        ·exact .run
        ·simp only [Frame.finish,ho,Option.bind_some]
         have hp:=TR.put' (a:=⟨tmps,defers⟩) ht q2 hv
         refine .plain ?_ (.cons (.ops ops rest) hk)
         cases hdst:o.dst with
         |none=>rw [hdst]at hp;exact hp
         |some d=>rw [hdst]at hp;exact hp
        ·exact fun h=>by cases h
       cases op <;> first|exact trivial|exact hgo
    |inRF hl=>
     refine⟨_,hm,φ,_,cs,w,rfl,⟨h1,h2,h3,h4,.run,?_,fun h=>by cases h⟩,hfs,hr⟩
     exact .plain ht (.cons (.endRF hl) hk)
    |_=>exact trivial
  |gone ht=>exact trivial
  | @drawn Rg k D td e p l kx _ kx' hs he hp ht hi=>
   obtain⟨⟨⟨dst,g,op⟩,nms⟩,pre,chk⟩:=p
   simp only [finish]
   have hp0:=hp
   have hlt:k<(es' E xnt Rg).length:=(List.getElem?_eq_some_iff.1 he).1
   have hdrop:(es' E xnt Rg).drop k=e::(es' E xnt Rg).drop (k+1):=by
    rw [List.drop_eq_getElem_cons hlt]
    have:=(List.getElem?_eq_some_iff.1 he).2
    rw [this]
   rw [hdrop]at hp
   simp only [Ba,List.cons.injEq,Ph.mk.injEq]at hp
   obtain⟨⟨hed,hpre,hchk⟩,hl⟩:=hp
   have hci:Bj E xnt Rg.ops e.j=⟨dst,g,op⟩:=by
    have h1:e.d=⟨Bj E xnt Rg.ops e.j,Nb Rg.ops e.j⟩:=by have:=(Hf he).2.1;rw [this];rfl
    rw [h1]at hed
    exact congrArg DI.ci hed
   rcases If E xnt Rg.ops e.j with hbad|⟨o,ho,q1,q2,q3,q4⟩
   ·rw [hci]at hbad;cases hbad;exact trivial
   ·have hdo:dst=o.dst:=by rw [hci]at q1;exact q1
    subst hdo
    have hgo:Goes P E w0 cs0 (Ds pre chk l kx xfn xnt (put xtm o.dst v) xdefers xdfd xro xs h) m:=by
     refine .steps hm ?_
     have hb:BR' φ xfn xdfd xro (⟨fn,tmps,.inRegion Rg.ops (e.j::td)::kx',defers,.run,kind,ro⟩:Frame):=⟨h1,h2,h3⟩
     have:=Ot (a:=⟨tmps,defers⟩) (b:=⟨fn,tmps,.inRegion Rg.ops (e.j::td)::kx',defers,.run,kind,ro⟩) (P:=P) (cs0:=cs0) hE hr hb h4 hi hfs hs he hp0 ht (o:=o) (by rw [hci]) q2 hv
     have hf:((⟨fn,tmps,.inRegion Rg.ops (e.j::td)::kx',defers,.run,kind,ro⟩:Frame).finish v')=(⟨fn,tmps,.inRegion Rg.ops (e.j::td)::kx',defers,.run,kind,ro⟩:Frame).atR ((⟨tmps,defers⟩:Act).put o.dst v') (.inRegion Rg.ops td::kx'):=by
      simp only [Frame.finish,ho,Option.bind_some]
      cases o.dst <;> rfl
     rw [hf];exact this
    cases op <;> first|exact trivial|exact hgo
def Jm (dfd:Bool)(v:Value)(c:Frame):Frame:=match dfd with|true=>Fa c|false=>c.finish v
theorem Ou (hE:EnvOk P E){xs:List AFr}{cs:List Frame}{v:AV}{v':Value}{m:Machine}{dfd:Bool}(hr:HW E w0 φ h w)(hfs:FRs E φ xs cs)(hv:VR φ v v')
  (hm: ∀c rest,cs++cs0=c::rest→Go.step P m= .next (lone (Jm dfd v' c) rest w)):Goes P E w0 cs0 (N0 dfd v xs h) m:=by
 cases hfs with
 |nil=>exact trivial
 | @cons x fr xs cs hf hfs=>
  have hm:=hm fr (cs++cs0) rfl
  cases dfd with
  |true=>
   have:=Zc hf
   exact⟨_,.one hm,φ,_,cs,w,rfl,this,hfs,hr⟩
  |false=>exact Ju hr hf hfs hv hE (.one hm)
end
section
variable {P:Program}{E:Env}{F:T CFn}{w0:World}{φ: Phi}{h:H}{w:World}{cs0:List Frame}
theorem ft {args:List AV}{args':Array Value}{n:Nat}(ha:VRs φ args args'.toList)(hn:args.length≤n):
  TR φ n (ofL 0 .leaf args) (args'++Array.replicate (n - args'.size) undef):=by
 have hlen:=ha.length
 simp only [Array.length_toList]at hlen
 refine⟨by simp;omega,fun t v ht=>?_⟩
 rw [I3]at ht
 by_cases hlt:t<args.length
 ·rw [if_pos (by omega),Nat.sub_zero]at ht
  obtain⟨v',h1,h2⟩:=ha.get ht
  rw [Array.getElem?_toList]at h1
  rw [Array.getD_eq_getD_getElem?,Array.getElem?_append_left (by omega),h1]
  exact h2
 ·rw [if_neg (by omega)]at ht
  cases ht
theorem Ov (hT:TabOk P E F){f:Nat}{g:CFn}{args:List AV}{args':Array Value}{dfd:Bool}(hg:T.get F f=some g)(ha:VRs φ args args'.toList)(hn:args.length≤g.ntmps):
  FR E φ ⟨f,g.ntmps,ofL 0 .leaf args,[.code g.body],[],.run,dfd,none⟩ (Frame.enter P f args' (C5 dfd)):=by
 obtain⟨fn,c,h1,h2,h3,rfl⟩:=hT.fn f g hg
 refine⟨rfl,rfl,.none,.nil,.run,?_,fun h=>(by cases h)⟩
 simp only [Frame.enter,h1,Option.map_some,Option.getD_some,Option.bind_some,h3]
 exact .plain (ft ha hn) (.cons (.code c) .nil)
theorem Mr {n:Nat}: ∀{ps:List Nat} {args:List AV} {args':List Value} {tm tm':T AV} {tmps:Array Value},Cr ps args tm=some tm'→VRs φ args args'→TR φ n tm tmps→(∀p∈ps,p<n)→
  ps.length=args'.length∧TR φ n tm' ((ps.zip args').foldl (fun(tmps:Array Value) (x:Nat×Value)=>tmps.setIfInBounds x.1 x.2) tmps)
 | [],[],_,tm,tm',tmps,h,ha,ht,_=>by cases ha;simp only [Cr,Option.some.injEq]at h;subst h;exact⟨rfl,ht⟩
 |p::ps,a::as,_,tm,tm',tmps,h,ha,ht,hp=>by
  cases ha with
  |cons hv hs=>
   simp only [Cr]at h
   have:=ht.put (d:=some p) (by show Nat.ble (p+1) n=true;rw [Nat.ble_eq];exact hp p (List.mem_cons_self ..)) hv
   obtain⟨q1,q2⟩:=Mr h hs this (fun q hq=>hp q (List.mem_cons_of_mem _ hq))
   exact⟨by simp [q1],by simpa using q2⟩
 | [],_::_,_,tm,tm',tmps,h,ha,ht,_=>by simp [Cr]at h
 |_::_,[],_,tm,tm',tmps,h,ha,ht,_=>by simp [Cr]at h
theorem HW.loop_at (hr:HW E w0 φ h w){r:Nat}{l:Loc}{x:ALoop}(hφ: φ r=some l)(hb:H.get h r=some (.loop x)): ∃x',w.heap[l.cb]?=some (.loop x')∧LR E φ x x':=by
 obtain⟨o,h1,h2⟩:=hr.hr.blk _ _ _ hφ hb
 cases h2 with
 |loop h=>exact⟨_,h1,h⟩
theorem Er {l:Nat}{x:Loop}(hb:w.heap[l]?=some (.loop x)):(Instr.getLoop l).run P w= .ok x w:=by simp [Instr.getLoop,getObj,Sem.run,hb]
theorem fu {r:Nat}{l:Loc}{x:ALoop}{x':Loop}{tm:T AV}{args:List AV}{args':Array Value}{dfd:Bool}(hφ: φ r=some l)(hl:LR E φ x x')(ha:VRs φ args args'.toList)(hs:Cr x.params args x.tmps=some tm):
  args'.size=x'.params.size∧FR E φ ⟨x.fn,x.nt,tm,[.code x.assign,.beginRound,.code x.body],[],.run,dfd,some r⟩
   (Frame.round l.cb x'.fn ((x'.params.zip args').foldl (fun tmps (t,a)=>tmps.setIfInBounds t a) x'.tmps) x'.assign x'.body (C5 dfd)):=by
 obtain⟨q1,q2⟩:=Mr hs ha hl.tmps hl.plt
 rw [hl.params]at q1 q2
 refine⟨by simpa using q1.symm,hl.fn,rfl,.some hφ,.nil,.run,.plain ?_ ?_,fun h=>(by cases h)⟩
 ·have e:((x'.params.zip args').foldl (fun(tmps:Array Value) (x:Nat×Value)=>tmps.setIfInBounds x.1 x.2) x'.tmps)=((x'.params.toList.zip args'.toList).foldl (fun(tmps:Array Value) (x:Nat×Value)=>tmps.setIfInBounds x.1 x.2) x'.tmps):=by
   rw [←Array.foldl_toList,Array.toList_zip]
  show TR φ x.nt tm ((x'.params.zip args').foldl (fun(tmps:Array Value) (x:Nat×Value)=>tmps.setIfInBounds x.1 x.2) x'.tmps)
  rw [e];exact q2
 ·rw [hl.assign,hl.body]
  exact .cons (.code _) (.cons .beginRound (.cons (.code _) .nil))
def Kg (P:Program)(dfd:Bool)(r:Result Next)(fr:Frame)(cs:List Frame)(m:Machine):Prop:=
 (∀f args w',r= .ok (.enter f args) w'→Go.step P m= .next (lone (Frame.enter P f args (C5 dfd)) (fr::cs) w'))∧
 (∀l f tmps assign body w',r= .ok (.round l f tmps assign body) w'→Go.step P m= .next (lone (Frame.round l f tmps assign body (C5 dfd)) (fr::cs) w'))
structure MemOk (P:Program)(K:T (List AV×AV)):Prop where
 ok: ∀f args v,T.get K f=some (args,v)→ ∀(φ: Phi) (args':Array Value) (w:World),VRs φ args args'.toList→
  Calls P f args' w fun e w'=> ∃v',e= .returned v'∧(∀φ,VR φ v v')∧RowKit.Below w.heap.size w w'
theorem HW.ext {w':World}(hw:HW E w0 φ h w)(hb:RowKit.Below w.heap.size w w'):HW E w0 φ h w':=by
 have hr:=hw.hr
 have hs:=hb.size
 have he:=hb.block
 refine hw.to ?_ ⟨hb.os,hb.tape,hb.output⟩
 refine⟨hr.bound,fun b l hφ=> Nat.lt_of_lt_of_le (hr.cbound b l hφ) hs,fun b l x hφ hx=>?_,hr.inj,hr.own,fun c hc=>?_,Nat.le_trans hr.size hs⟩
 ·obtain⟨o,h1,h2⟩:=hr.blk b l x hφ hx
  exact⟨o,by rw [he _ (hr.cbound b l hφ)];exact h1,h2⟩
 ·rw [he c (Nat.lt_of_lt_of_le hc hr.size)];exact hr.old c hc
theorem fz {K:T (List AV×AV)}{f:Nat}{args:List AV}{v:AV}(h:memo K f args=some v):T.get K f=some (args,v):=by
 unfold memo at h
 split at h
 ·cases h
 ·rename_i p hp
  split at h
  ·rename_i ha
   cases h
   have:=Id (Ni 20) ha
   rw [hp,←this]
  ·cases h
theorem Hi {K:T (List AV×AV)}(hE:EnvOk P E)(hT:TabOk P E F)(hK:MemOk P K){f:AFn}{args:List AV}{dfd:Bool}{x:AFr}{xs:List AFr}{fr:Frame}{cs:List Frame}{r:Result Next}{m:Machine}
  (hr:HW E w0 φ h w) (hf:FR E φ x fr) (hfs:FRs E φ xs cs) (hc:R1 P E φ f args r w) (hm:Kg P dfd r fr (cs++cs0) m):
  Goes P E w0 cs0 (Br F K f args dfd x xs h) m:=by
 cases f with
 |func f=>
  simp only [Br]
  cases hg:T.get F f with
  |none=>exact trivial
  |some g=>
   simp only
   obtain⟨args',h1,h2⟩:=hc
   obtain⟨fn,c,q1,q2,q3,q4⟩:=hT.fn f g hg
   have hen:=hm.1 _ _ _ (h2 fn q1 q2 (by rw [q3];rfl))
   cases hmm:S8 dfd K f args with
   |some v=>
    simp only
    cases dfd with
    |true=>cases hmm
    |false=>
     obtain⟨e,w',fr',⟨v',rfl,k1,k2⟩,k4,k5,k6⟩:=hK.ok _ _ _ (fz hmm) φ args' w h1 (fr::(cs++cs0))
     exact Ju (hr.ext k2) hf hfs (k1 φ) hE (.head hen (Steps.trans k4 (.one (step_leave_returned k6))))
   |none=>
    simp only
    cases hn:Nat.ble args.length g.ntmps with
    |false=>exact trivial
    |true=>exact⟨_,.one hen,φ,_,fr::cs,w,rfl,Ov hT hg h1 (Ah hn),.cons hf hfs,hr⟩
 |yield l=>
  simp only [Br]
  cases hg:H.get h l with
  |none=>exact trivial
  |some bl=>
   cases bl with
   |loop y=>
    simp only
    cases hs:Cr y.params args y.tmps with
    |none=>exact trivial
    |some tm=>
     obtain⟨lo,args',h1,h2,h3⟩:=hc
     obtain⟨y',g1,g2⟩:=hr.loop_at h1 hg
     obtain⟨q1,q2⟩:=fu (dfd:=dfd) h1 g2 h2 hs
     have hrun:r= .ok (.round lo.cb y'.fn ((y'.params.zip args').foldl (fun tmps (t,a)=>tmps.setIfInBounds t a) y'.tmps) y'.assign y'.body) w:=by
      rw [h3]
      simp only [Instr.yield,Sem.run_bind,Er g1,Result.andThen_ok,q1,ne_eq,not_true_eq_false,if_false]
      rfl
     have:=hm.2 _ _ _ _ _ _ hrun
     exact⟨_,.one this,φ,_,fr::cs,w,rfl,q2,.cons hf hfs,hr⟩
   |_=>exact trivial
end
end Go.Ev
