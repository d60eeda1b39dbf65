/- Part of the proof. -/
import Derived.Test.YtclfgfpebplncaaGreatT15
import Derived.Test.YtclfgfpebplncaaGreatT13
import Derived.Test.YtclfgfpebplncaaGreatT09
import Derived.Test.YtclfgfpebplncaaGreatT14
set_option linter.unusedVariables false
set_option linter.unusedSectionVars false
set_option linter.unusedSimpArgs false
set_option maxRecDepth 10000
set_option maxHeartbeats 4000000
namespace Go.Ev
def L4 (x:PgE):JP:=(x.s,(B2 x.data).getD [])
def jps (L:List PgE):List JP:=(L.filter isJ).map L4
theorem Xx {ex data:List Nat}{s:Sp}(h:Jn ex data=some s):s.Valid:=by
 unfold Jn at h
 split at h
 ·rename_i q
  cases h;exact q.2.1
 ·cases h
structure PgE.In (D:Dv)(x:PgE):Prop where
 v:x.s.Valid
 len:x.data.length=D.sz
 lt:x.at_<D.nb*D.P
theorem G7 {D:Dv}(ok:D.Ok){x:PgE}(h:x∈Ab D):x.In D:=by
 unfold Ab C3 at h
 obtain⟨i,hi,h⟩:=List.mem_flatMap.1 h
 unfold Ej at h
 obtain⟨j,hj,h⟩:=List.mem_filterMap.1 h
 rw [List.mem_range]at hi hj
 unfold Ed at h
 split at h
 ·cases h
 ·split at h
  ·rename_i hst
   rw [Option.map_eq_some_iff]at h
   obtain⟨s,h1,rfl⟩:=h
   have h2:=((ok.bl i hi).pg j hj).full hst
   have h3:(i+1)*D.P≤D.nb*D.P:=Nat.mul_le_mul_right _ hi
   rw [Nat.add_mul]at h3
   refine⟨Xx h1,?_,?_⟩
   ·show(List.take _ _).length=_
    rw [List.length_take];omega
   ·show i*D.P+j<_
    omega
  ·cases h
theorem C8 {D:Dv}(ok:D.Ok):(Ab D).length≤36:=by
 have h1:=G5 D D.nb
 have h2:=ok.g.nb
 have h3:=ok.g.P
 have:D.nb*D.P≤6*6:=Nat.mul_le_mul h2.2 h3.2
 unfold Ab;omega
def c8 (L:List PgE):Prop:= ∃x∈L,9223372036854775808≤x.s.seq
theorem yc {x:PgE}(h:isJ x=true)(v:x.s.Valid)(hb:x.s.seq<9223372036854775808):x.s.Jr:=by
 unfold isJ Bm at h
 simp only [Bool.and_eq_true,Bool.not_eq_true',decide_eq_false_iff_not]at h
 obtain⟨v1,v2,v3,v4,v5,v6⟩:=v
 have hk:x.s.kind=2∨x.s.kind=3:=by
  rcases v6 with q|q
  ·exact absurd q.1 h.1
  ·exact q.1
 have hp:x.s.prev<x.s.seq:=by
  rcases v6 with q|q
  ·exact absurd q.1 h.1
  ·exact q.2.2.1
 exact⟨⟨v1,v2,v3,v4,v5,v6⟩,⟨by omega,by omega,by omega⟩,hk⟩
theorem my {b:List Nat}{n:Nat}(hn:b.length=n)(h30:n≤30):((B2 b).getD []).length≤3:=by
 unfold B2
 split
 ·rename_i q
  rw [Option.getD_some,Bw]
  have:=q.1
  omega
 ·exact Nat.zero_le _
theorem Zd {D:Dv}(ok:D.Ok)(hb: ¬c8 (Ab D)): ∀p∈jps (Ab D),p.1.Jr∧p.1.seq<9223372036854775808∧p.2.length≤3:=by
 intro p hp
 obtain⟨x,hx,rfl⟩:=List.mem_map.1 hp
 obtain⟨h1,h2⟩:=List.mem_filter.1 hx
 have h3:=G7 ok h1
 have h4:x.s.seq<9223372036854775808:=Nat.lt_of_not_le fun f=>hb ⟨x,h1,f⟩
 have h5:=ok.g.sz
 exact⟨yc h2 h3.v h4,h4,my h3.len h5.2⟩
theorem Ze {D:Dv}(ok:D.Ok):(jps (Ab D)).length≤36:=by
 unfold jps
 rw [List.length_map]
 exact Nat.le_trans (List.length_filter_le _ _) (C8 ok)
def Eu (L:List PgE):Nat:=L.foldl (fun m x=>max m (x.s.seq+1)) 1
theorem N8 {L:List PgE}{i:Nat}{x:PgE}(h:L[i]?=some x):Eu (L.take (i+1))=max (Eu (L.take i)) (x.s.seq+1):=by
 unfold Eu;rw [List.take_add_one,h,List.foldl_append];rfl
theorem Sv: ∀(L:List PgE),(∀x∈L,x.s.seq<9223372036854775808)→Eu L≤9223372036854775808:=by
 intro L h
 unfold Eu
 have: ∀(L:List PgE) (m:Nat),m≤9223372036854775808→(∀x∈L,x.s.seq<9223372036854775808)→L.foldl (fun m x=>max m (x.s.seq+1)) m≤9223372036854775808:=by
  intro L
  induction L with
  |nil=>intro m hm _;exact hm
  |cons x r ih=>
   intro m hm h
   rw [List.foldl_cons]
   have:=h x (List.mem_cons_self ..)
   exact ih _ (by omega) fun y hy=>h y (List.mem_cons_of_mem _ hy)
 exact this L 1 (by omega) h
theorem T9 {P:List JP}{k:Rec}(hf:full P k=true){j:Nat}(h:j∈Al P k): ∃p,P[j]?=some p∧Ak p.1=k:=by
 obtain⟨i,_,h1⟩:=Sr hf h
 obtain⟨p,h2,h3,_⟩:=Hv h1
 exact⟨p,h2,h3⟩
theorem de {P:List JP}(hj: ∀p∈P,p.1.Jr){o:Option Rec}{ks:List Rec}(r:RunP P o ks):(∀k,o=some k→isK P k∧full P k=true)→(∀k∈ks,full P k=true)∧(∀k0,o=some k0→ ∀k∈ks,k0.2.1≤k.2.1)∧(chU P ks).Nodup:=by
 induction r with
 |none=>intro _;exact⟨fun k h=>(by cases h),fun _ _ k h=>(by cases h),List.nodup_nil⟩
 | @some k o ks h r ih=>
  intro hk
  obtain⟨k1,k2⟩:=hk k rfl
  have ih':=ih fun k' e=>by subst e;exact Hw h
  obtain⟨i1,i2,i3⟩:=ih'
  have lt: ∀k'∈ks,k.2.1<k'.2.1:=by
   intro k' hk'
   cases o with
   |none=>cases r;cases hk'
   |some o=>
    have:=i2 o rfl k' hk'
    have:=Su hj k1 h
    omega
  refine⟨fun k' h'=>?_,fun k0 e k' h'=>?_,?_⟩
  ·rcases List.mem_cons.1 h' with rfl|h'
   ·exact k2
   ·exact i1 k' h'
  ·cases e
   rcases List.mem_cons.1 h' with rfl|h'
   ·exact Nat.le_refl _
   ·have:=lt k' h';omega
  ·show(List.flatMap (Al P) (k::ks)).Nodup
   rw [List.flatMap_cons,List.nodup_append]
   refine⟨N7 k2,i3,fun a ha b hb e=>?_⟩
   subst e
   obtain⟨k',h1,h2⟩:=List.mem_flatMap.1 hb
   obtain⟨p,g1,g2⟩:=T9 k2 ha
   obtain⟨p',g3,g4⟩:=T9 (i1 k' h1) h2
   rw [g1]at g3;cases g3
   have:=lt k' h1
   rw [←g2,g4]at this
   omega
theorem K4 {P:List JP}(hj: ∀p∈P,p.1.Jr){o:Option Rec}{ks:List Rec}(s:StartP P o)(r:RunP P o ks):(∀k∈ks,full P k=true)∧(chU P ks).Nodup∧(∀j∈chU P ks,j<P.length)∧(chU P ks).length≤P.length:=by
 obtain⟨h1,_,h2⟩:=de hj r fun k e=>by subst e;exact K3 s
 have h3: ∀j∈chU P ks,j<P.length:=by
  intro j hj2
  obtain⟨k,g1,g2⟩:=List.mem_flatMap.1 hj2
  obtain⟨p,g3,_⟩:=T9 (h1 k g1) g2
  exact(List.getElem?_eq_some_iff.1 g3).1
 exact⟨h1,h2,h3,Ss _ _ h2 h3⟩
theorem mz {P:List JP}{m:Nat}(hm: ∀p∈P,p.2.length≤m)(ks:List Rec):(chE P ks).length≤(chU P ks).length*m:=by
 rw [Q2];exact Hx hm _
theorem StartP.uniq {P:List JP}{o o':Option Rec}(h:StartP P o)(h':StartP P o'):o=o':=by
 obtain⟨o1,h1,h2⟩:=h
 obtain⟨o2,h3,h4⟩:=h'
 have:=h1.uniq h3
 subst this
 cases o1 with
 |some k=>rw [h2,h4]
 |none=>exact h2.uniq h4
def Bz (L:List PgE)(e:Ent):Bool:=match L.find? fun x=>decide (((x.at_:Nat):Int)=e.2)with
 |some x=>Bm x && decide (x.s.sec=e.1)
 |none=>false
def Sw (L:List PgE)(P:Nat)(us:List Nat):List Nat:=us.map fun j=>match(L.filter isJ)[j]? with
 |some x=>x.at_ / P
 |none=>0
def jrn (D:Dv)(bs:List Nat)(n:Nat):List Int:=((List.range n).filter fun b=>decide (b∈bs)).map fun b=>((b:Nat):Int)
def drt (D:Dv)(bs:List Nat)(n:Nat):List Int:=((List.range n).filter fun b=>!decide (b∈bs) && decide (0<(D.bl b).nx)).map fun b=>((b:Nat):Int)
structure FoundD where
 es:List Ent
 last:Nat
 next:Nat
 js:List Int
 ds:List Int
def f0:FoundD:=⟨[],0,0,[],[]⟩
theorem DomA.uniq {A:Int→Option Int}{D D':List Int}(h:DomA A D)(h':DomA A D'):D=D':=by
 have h1:D.Perm D':=(List.perm_ext_iff_of_nodup (h.lt.imp fun q=>by omega) (h'.lt.imp fun q=>by omega)).2 fun s=>by rw [h.mem,h'.mem]
 exact h1.eq_of_pairwise (fun a b _ _ q1 q2=>by omega) h.lt h'.lt
def A0:Int→Option Int:=fun _=>none
def AE (es:List Ent):Int→Option Int:=stA A0 es es.length
def df (S T:Nat)(es:List Ent):Prop:= ∀j x,es[j]?=some x→okE S T (stA A0 es j) x
def uu (D:Dv)(S:Int)(es:List Ent):Prop:=df S.toNat (D.nb*D.P) es∧ ∀s p,AE es s=some p→Bz (Ab D) (s,p)=true
def na (D:Dv)(S:Int)(ks:List Rec)(e:Nat)(f:FoundD):Prop:=
 (¬uu D S (chE (jps (Ab D)) ks)∧e=6∧f=f0)∨
 (uu D S (chE (jps (Ab D)) ks)∧e=0∧ ∃Dm,DomA (AE (chE (jps (Ab D)) ks)) Dm∧f=⟨F6 (AE (chE (jps (Ab D)) ks)) Dm,chL ks,Eu (Ab D),jrn D (Sw (Ab D) D.P (chU (jps (Ab D)) ks)) D.nb,drt D (Sw (Ab D) D.P (chU (jps (Ab D)) ks)) D.nb⟩)
def ScanR (D:Dv)(S:Int)(e:Nat)(f:FoundD):Prop:=
 (S<1∧e=2∧f=f0)∨(1≤S∧D.off=true∧e=50∧f=f0)∨(1≤S∧D.off=false∧c8 (Ab D)∧e=6∧f=f0)∨
 (1≤S∧D.off=false∧ ¬c8 (Ab D)∧ ∃o ks,StartP (jps (Ab D)) o∧RunP (jps (Ab D)) o ks∧na D S ks e f)
theorem ScanR.uniq {D:Dv}{S:Int}{e e':Nat}{f f':FoundD}(h:ScanR D S e f)(h':ScanR D S e' f'):e=e'∧f=f':=by
 rcases h with⟨a,rfl,rfl⟩|⟨a,b,rfl,rfl⟩|⟨a,b,c,rfl,rfl⟩|⟨a,b,c,o,ks,hs,hr,g⟩ <;> rcases h' with⟨a',rfl,rfl⟩|⟨a',b',rfl,rfl⟩|⟨a',b',c',rfl,rfl⟩|⟨a',b',c',o',ks',hs',hr',g'⟩
 all_goals first
  |exact⟨rfl,rfl⟩
  |(exfalso;omega)
  |exact absurd c c'
  |exact absurd c' c
  |(rw [b]at b';cases b';done)
  |skip
 have e1:=StartP.uniq hs hs'
 subst e1
 have e2:=RunP.uniq hr hr'
 subst e2
 rcases g with⟨g1,rfl,rfl⟩|⟨g1,rfl,Dm,g3,rfl⟩ <;> rcases g' with⟨g1',rfl,rfl⟩|⟨g1',rfl,Dm',g3',rfl⟩
 ·exact⟨rfl,rfl⟩
 ·exact absurd g1' g1
 ·exact absurd g1 g1'
 ·rw [g3.uniq g3'];exact⟨rfl,rfl⟩
structure FdR (h:H)(lo:Nat)(v:AV)(f:FoundD):Prop where
 ex: ∃v1 v2 v3,v= .agg [v1,.int .u64 ((f.last:Nat):Int),.int .u64 ((f.next:Nat):Int),v2,v3]∧EL h lo v1 f.es∧RowN h lo v2 f.js∧RowN h lo v3 f.ds
section
variable {l:List (Nat×Option AV)}{h:H}{x y z:O}{b o sl cap b2 o2 cap2 size bytes a len:Nat}{j:IntKind}
theorem Abu {c:List AV}(e:evO l x=some (.slc b o sl cap))(e1:evO l y=some (.slc b2 o2 0 cap2))(k2:Bk h b2 c)(ho:o2≤c.length):XV (.append size bytes x y) h l (.slc b o sl cap) h:=by
 have k3:SlR size h (.slc b2 o2 0 cap2) 0 []:=SlR.of k2 (by rw [Nat.zero_mul];exact ho) (by rw [Nat.zero_mul,List.take_zero])
 refine⟨?_⟩
 simp only [exec,Ag,Ad e,Ad e1,k3.lenV,k3.cells]
 rfl
theorem C9 (e:evO l x=some .nils)(e2:evO l z=some (.int j ((0:Nat):Int))):XV (.sliceS size x (some z) none none) h l .nils h:=by
 refine⟨?_⟩
 have g1:C4 (tms l) none=some none:=rfl
 simp only [exec,Ag,g1,(BndR.att e2).opt,Ad e]
 rfl
theorem Cu (e:evO l x=some (.slc b o len (Ac+2)))(e1:evO l y=some (.int j ((a:Nat):Int)))(hal:a≤len):XV (.sliceS 2 x (some y) none none) h l (.slc b (o+a*2) (len - a) (Ac+2)) h:=
 rh (h:=h) (a:=a) (c:=len) e (.att e1) .no rfl rfl hal (Nat.le_refl _)
end
structure RepL (A:Int→Option Int)(ls:List Ent):Prop where
 lt:ls.Pairwise fun a b=>a.1<b.1
 mem: ∀s p,(s,p)∈ls↔A s=some p
theorem RepL.nil:RepL A0 []:=⟨List.Pairwise.nil,fun s p=>by simp [A0]⟩
theorem RepL.dom {A:Int→Option Int}{ls:List Ent}(q:RepL A ls): ∃Dm,DomA A Dm∧ls=F6 A Dm:=by
 refine⟨ls.map (·.1),⟨List.Pairwise.map _ (fun a b h=>h) q.lt,fun s=>?_⟩,?_⟩
 ·constructor
  ·intro h
   obtain⟨⟨s',p⟩,h1,rfl⟩:=List.mem_map.1 h
   rw [(q.mem s' p).1 h1];rfl
  ·intro h
   obtain⟨p,hp⟩:=Option.isSome_iff_exists.1 h
   exact List.mem_map.2 ⟨(s,p),(q.mem s p).2 hp,rfl⟩
 ·unfold F6
  rw [List.map_map]
  conv=>lhs;rw [←List.map_id ls]
  refine List.map_congr_left fun e he=>?_
  obtain⟨s,p⟩:=e
  have:=(q.mem s p).1 he
  show(s,p)=(s,atA A s)
  unfold atA
  rw [this];rfl
def N9 (ls:List Ent)(p:Int):Option Ent:=ls.find? fun e=>decide (e.2=p)
theorem RepL.busy {A:Int→Option Int}{ls:List Ent}(q:RepL A ls)(inj: ∀s s' p,A s=some p→A s'=some p→s=s'){x:Ent}:Sk A x↔ ∃e,N9 ls x.2=some e∧e.1≠x.1:=by
 unfold N9
 constructor
 ·rintro⟨s,h1,h2⟩
  have hm:=(q.mem s x.2).2 h1
  cases hf:ls.find? fun e=>decide (e.2=x.2)with
  |none=>
   rw [List.find?_eq_none]at hf
   have:=hf _ hm
   simp at this
  |some e=>
   refine⟨e,rfl,?_⟩
   have h3:=List.mem_of_find?_eq_some hf
   have h4:=List.find?_some hf
   simp only [decide_eq_true_eq]at h4
   obtain⟨s',p⟩:=e
   simp only at h4
   subst h4
   have:=inj _ _ _ ((q.mem s' x.2).1 h3) h1
   intro e;exact h2 (by rw [←this];exact e)
 ·rintro⟨⟨s,p⟩,hf,h2⟩
  have h3:=List.mem_of_find?_eq_some hf
  have h4:=List.find?_some hf
  simp only [decide_eq_true_eq]at h4
  subst h4
  exact⟨s,(q.mem s x.2).1 h3,h2⟩
def L5 (ls:List Ent)(s:Int):List Ent:=ls.filter fun e=>decide (e.1≠s)
theorem RepL.del {A:Int→Option Int}{ls:List Ent}(q:RepL A ls)(s0:Int):RepL (E4 A s0) (L5 ls s0):=by
 refine⟨q.lt.filter _,fun s p=>?_⟩
 unfold L5 E4
 rw [List.mem_filter,q.mem]
 by_cases e:s=s0 <;> simp [e]
def I2 (ls:List Ent)(s:Int):Nat:=(ls.takeWhile fun e=>decide (e.1<s)).length
theorem Zf (ls:List Ent)(s:Int):I2 ls s≤ls.length:=by
 unfold I2;exact(List.takeWhile_sublist _).length_le
theorem Zg {ls:List Ent}{s:Int}{i:Nat}(h:i<I2 ls s): ∃e,ls[i]?=some e∧e.1<s:=by
 induction ls generalizing i with
 |nil=>exact absurd h (Nat.not_lt_zero _)
 |cons a r ih=>
  unfold I2 at h ih
  rw [List.takeWhile_cons]at h
  by_cases e:a.1<s
  ·rw [if_pos (by simpa using e),List.length_cons]at h
   cases i with
   |zero=>exact⟨a,rfl,e⟩
   |succ i=>exact ih (by omega)
  ·rw [if_neg (by simpa using e)]at h
   exact absurd h (Nat.not_lt_zero _)
theorem Zh {ls:List Ent}{s:Int}{e:Ent}(h:ls[I2 ls s]?=some e):s≤e.1:=by
 induction ls with
 |nil=>cases h
 |cons a r ih=>
  unfold I2 at h ih
  rw [List.takeWhile_cons]at h
  by_cases q:a.1<s
  ·rw [if_pos (by simpa using q),List.length_cons,List.getElem?_cons_succ]at h
   exact ih h
  ·rw [if_neg (by simpa using q)]at h
   cases h;omega
def Of (ls:List Ent)(x:Ent):List Ent:=ls.take (I2 ls x.1)++ [x]++ls.drop (I2 ls x.1)
theorem nc {ls:List Ent}{x y:Ent}:y∈Of ls x↔y=x∨y∈ls:=by
 unfold Of
 simp only [List.mem_append,List.mem_singleton]
 have:y∈ls↔y∈ls.take (I2 ls x.1)∨y∈ls.drop (I2 ls x.1):=by rw [←List.mem_append,List.take_append_drop]
 rw [this]
 constructor
 ·rintro((h|h)|h)
  ·exact .inr (.inl h)
  ·exact .inl h
  ·exact .inr (.inr h)
 ·rintro(h|h|h)
  ·exact .inl (.inr h)
  ·exact .inl (.inl h)
  ·exact .inr h
theorem RepL.ins {A:Int→Option Int}{ls:List Ent}{x:Ent}(q:RepL (E4 A x.1) ls)(hx:0≤x.2):RepL (Em A x) (Of ls x):=by
 have hne: ∀e∈ls,e.1≠x.1:=by
  rintro⟨s,p⟩ he e
  have:=(q.mem s p).1 he
  unfold E4 at this
  rw [if_pos e]at this;cases this
 have h1: ∀e∈ls.take (I2 ls x.1),e.1<x.1:=by
  intro e he
  obtain⟨i,hi,rfl⟩:=List.getElem_of_mem he
  rw [List.length_take]at hi
  obtain⟨e',h2,h3⟩:=Zg (ls:=ls) (s:=x.1) (i:=i) (by omega)
  rw [List.getElem_take]
  have:=(List.getElem?_eq_some_iff.1 h2).2
  rw [this];exact h3
 have h2: ∀e∈ls.drop (I2 ls x.1),x.1<e.1:=by
  intro e he
  have hm:=List.mem_of_mem_drop he
  have h3:=hne e hm
  have h4:x.1≤e.1:=by
   obtain⟨i,hi,rfl⟩:=List.getElem_of_mem he
   rw [List.length_drop]at hi
   rw [List.getElem_drop]
   have hp:I2 ls x.1<ls.length:=by omega
   have h5:=Zh (ls:=ls) (s:=x.1) (List.getElem?_eq_getElem hp)
   by_cases hi0:i=0
   ·subst hi0;exact h5
   ·have:=(List.pairwise_iff_getElem.1 q.lt) (I2 ls x.1) (I2 ls x.1+i) hp (by omega) (by omega)
    omega
  omega
 refine⟨?_,fun s p=>?_⟩
 ·unfold Of
  rw [List.append_assoc,List.pairwise_append]
  refine⟨q.lt.sublist (List.take_sublist _ _),?_,fun a ha b hb=>?_⟩
  ·rw [List.singleton_append,List.pairwise_cons]
   exact⟨h2,q.lt.sublist (List.drop_sublist _ _)⟩
  ·rw [List.singleton_append]at hb
   have:=h1 a ha
   rcases List.mem_cons.1 hb with rfl|hb
   ·exact this
   ·have:=h2 b hb;omega
 ·rw [nc,q.mem]
  unfold E4 Em
  obtain⟨x1,x2⟩:=x
  simp only at*
  by_cases e:s=x1
  ·rw [if_pos e,if_pos e,if_pos hx]
   simp [e,eq_comm]
  ·rw [if_neg e,if_neg e]
   simp [e]
theorem Q3 (ls:List Ent)(x:Ent):(Of ls x).length=ls.length+1:=by
 unfold Of
 rw [List.length_append,List.length_append,List.length_take,List.length_drop]
 have:=Zf ls x.1
 simp only [List.length_cons,List.length_nil];omega
section
variable {l:List (Nat×Option AV)}{h:H}{x y:O}{b o sl cap b2 o2 n2 cap2 size bytes:Nat}
theorem Zj {c:List AV}(e:evO l x=some (.slc b o sl cap))(e1:evO l y=some (.slc b2 o2 n2 cap2))(hn:n2=0)(k2:Bk h b2 c)(ho:o2≤c.length):XV (.append size bytes x y) h l (.slc b o sl cap) h:=by
 subst hn;exact Abu e e1 k2 ho
end
theorem Sx: ∀(ls:List Ent) (k:Nat),(ls.flatMap An).take (k*2)=(ls.take k).flatMap An
 | [],k=>by simp
 |e::r,0=>by simp
 |e::r,k+1=>by
  have ih:=Sx r k
  show(AI e.1::AI e.2::r.flatMap An).take ((k+1)*2)=_
  rw [show(k+1)*2=k*2+1+1 by omega,List.take_succ_cons,List.take_succ_cons,ih];rfl
theorem Sy: ∀(ls:List Ent) (k:Nat),(ls.flatMap An).drop (k*2)=(ls.drop k).flatMap An
 | [],k=>by simp
 |e::r,0=>by simp
 |e::r,k+1=>by
  have ih:=Sy r k
  show(AI e.1::AI e.2::r.flatMap An).drop ((k+1)*2)=_
  rw [show(k+1)*2=k*2+1+1 by omega,List.drop_succ_cons,List.drop_succ_cons,ih];rfl
theorem Ua {h:H}{b cap k:Nat}{ls:List Ent}(q:Bk h b (ls.flatMap An))(hk:k≤ls.length):SlR 2 h (.slc b 0 k cap) k ((ls.take k).flatMap An):=
 SlR.of q (by rw [A2];omega) (by rw [List.drop_zero,Sx])
theorem Ub {h:H}{b cap k:Nat}{ls:List Ent}(q:Bk h b (ls.flatMap An))(hk:k≤ls.length):SlR 2 h (.slc b (0+k*2) (ls.length - k) cap) (ls.length - k) ((ls.drop k).flatMap An):=
 SlR.of q (by rw [A2];omega) (by rw [Nat.zero_add,Sy,List.take_of_length_le];rw [A2,List.length_drop];exact Nat.le_refl _)
theorem ng {l:List (Nat×Option AV)}{x:O}{b o:Nat}{v:AV}{c:List AV}{h' h9:H}(e:evO l x=some (.ptr b o))(hs:HSub h' h9)(hb:Bk h' b c)(hv:c[o]?=some v):XV (.load1 x) h9 l v h9:=by
 obtain⟨y,g1,g2⟩:=hs.blk b _ hb.e
 have ho:=(List.getElem?_eq_some_iff.1 hv).1
 generalize hc:(cl c)=cc at g2
 cases g2 with
 |same=>rw [←hc]at g1;exact⟨Yp (Ad e) g1 hv⟩
 |cells hn hg=>
  rename_i ro n' n c' c2
  simp only [cl,Blk.cells.injEq]at hc
  obtain⟨rfl,rfl,rfl⟩:=hc
  refine⟨?_⟩
  have h1:Nat.ble (Nat.succ o) n=true:=by rw [Nat.ble_eq];omega
  have h2:=hg o v (by omega) (by rw [G9];exact hv)
  simp only [exec,Ag,Ad e,g1,h1,h2]
  rfl
section
variable {P0:Program}{E:Env}{F:T CFn}{K:T (List AV×AV)}(L:Lg P0 E F K)(X:Fx F K)
include L X
omit L X in
theorem ni {g0 g1 g2 g3:Int}{l:List (St×AV)}(h: ¬(2≤g0∧g0≤6∧2≤g1∧g1≤6∧12≤g2∧g2≤30∧1≤g3∧g3≤1000∧l.length≤30)):(g0<2)∨(2≤g0∧6<g0)∨(2≤g0∧g0≤6∧g1<2)∨(2≤g0∧g0≤6∧2≤g1∧6<g1)∨(2≤g0∧g0≤6∧2≤g1∧g1≤6∧g2<12)∨(2≤g0∧g0≤6∧2≤g1∧g1≤6∧12≤g2∧30<g2)∨(2≤g0∧g0≤6∧2≤g1∧g1≤6∧12≤g2∧g2≤30∧g3<1)∨(2≤g0∧g0≤6∧2≤g1∧g1≤6∧12≤g2∧g2≤30∧1≤g3∧1000<g3)∨(2≤g0∧g0≤6∧2≤g1∧g1≤6∧12≤g2∧g2≤30∧1≤g3∧g3≤1000∧30<l.length):=by
 by_cases h0:g0<2
 ·exact .inl (by omega)
 by_cases h1:6<g0
 ·exact .inr (.inl ⟨by omega,by omega⟩)
 by_cases h2:g1<2
 ·exact .inr (.inr (.inl ⟨by omega,by omega,by omega⟩))
 by_cases h3:6<g1
 ·exact .inr (.inr (.inr (.inl ⟨by omega,by omega,by omega,by omega⟩)))
 by_cases h4:g2<12
 ·exact .inr (.inr (.inr (.inr (.inl ⟨by omega,by omega,by omega,by omega,by omega⟩))))
 by_cases h5:30<g2
 ·exact .inr (.inr (.inr (.inr (.inr (.inl ⟨by omega,by omega,by omega,by omega,by omega,by omega⟩)))))
 by_cases h6:g3<1
 ·exact .inr (.inr (.inr (.inr (.inr (.inr (.inl ⟨by omega,by omega,by omega,by omega,by omega,by omega,by omega⟩))))))
 by_cases h7:1000<g3
 ·exact .inr (.inr (.inr (.inr (.inr (.inr (.inr (.inl ⟨by omega,by omega,by omega,by omega,by omega,by omega,by omega,by omega⟩)))))))
 exact .inr (.inr (.inr (.inr (.inr (.inr (.inr (.inr (⟨by omega,by omega,by omega,by omega,by omega,by omega,by omega,by omega,by omega⟩))))))))
section
variable {h:H}
theorem sw {κ: Nat→Nat}{g0 g1 g2 g3:Int}{v:AV}{l:List (St×AV)}(k:StR κ h v l)(hn: ¬(2≤g0∧g0≤6∧2≤g1∧g1≤6∧12≤g2∧g2≤30∧1≤g3∧g3≤1000∧l.length≤30)):Ct P0 E F K 6 [.agg (rz g0 g1 g2 g3),v] h fun u h'=>u= .bool false∧K0 h h':=by
 rcases k.ex with⟨rfl,rfl⟩|⟨b,cap,rfl,h1,h2⟩
 ·rcases ni hn with hc|hc|hc|hc|hc|hc|hc|hc|hc
  all_goals
   try simp only [List.length_nil]at hc
   refine Af L X.f6 X.k6 rfl rfl fun Q x cs G=>?_
   refine wk ?_
   refine ret X.f6 ?_
   exact⟨rfl,kps⟩
 ·rcases ni hn with hc|hc|hc|hc|hc|hc|hc|hc|hc
  all_goals
   refine Af L X.f6 X.k6 rfl rfl fun Q x cs G=>?_
   refine wk ?_
   refine ret X.f6 ?_
   exact⟨rfl,kps⟩
theorem sx {κ: Nat→Nat}{g0 g1 g2 g3:Int}{v:AV}{l:List (St×AV)}(k:StR κ h v l)(hn:2≤g0∧g0≤6∧2≤g1∧g1≤6∧12≤g2∧g2≤30∧1≤g3∧g3≤1000∧l.length≤30):Ct P0 E F K 6 [.agg (rz g0 g1 g2 g3),v] h fun u h'=>u= .bool (decide (∀x∈l,x.1.ents.length≤4))∧K0 h h':=by
 have hel:=k.el
 rcases k.ex with⟨rfl,rfl⟩|⟨b,cap,rfl,h1,h2⟩
 ·refine Af L X.f6 X.k6 rfl rfl fun Q x cs G=>?_
  refine wk ?_
  refine A4 L ?_
  refine wk ?_
  refine ret X.f6 ?_
  exact⟨by simp [single],kps⟩
 ·have l1:=h1.lt
  refine Af L X.f6 X.k6 rfl rfl fun Q x cs G=>?_
  refine wk ?_
  refine Bb L (α:= Unit) (T:=fun i _=> [(5,some (.int .i64 ((i:Nat):Int))),(1,some (.slc b 0 l.length cap))]) (n:=l.length)
   (R:=fun i _ h3=>K0 h h3∧ ∀j x,j<i→l[j]?=some x→x.1.ents.length≤4) (i0:=0) () tsb ⟨kps,fun j x hj=>absurd hj (Nat.not_lt_zero j)⟩ (Nat.zero_le _) ?_ ?_
  ·rintro i _ h3 hi ⟨w1,w2⟩ ih
   have hx:l[i]?=some l[i]:=List.getElem?_eq_getElem hi
   have hk:=jx w1 h1
   have key: ∀ev,l[i].2=ev→(l.flatMap stC)[i*12+11]?=some ev:=fun ev he=>by rw [Dd l (Ow l) i 11 _ hx (by omega),←he];rfl
   rcases(hel _ (List.getElem_mem hi)).1.ex with⟨e1,e2⟩|⟨e1,_,e2⟩|⟨eb,ec,e2,e3⟩
   ·refine wk ?_
    (apply st1 L rfl;exact F4 rfl lkr (key _ e2);rfl)
    refine wk ?_
    refine ih () _ _ ⟨w1,fun j x hj hx2=>?_⟩ tsb
    by_cases e:j=i
    ·subst e
     rw [hx]at hx2
     cases hx2
     rw [e1];simp
    ·exact w2 j x (by omega) hx2
   ·refine wk ?_
    (apply st1 L rfl;exact F4 rfl lkr (key _ e2);rfl)
    refine wk ?_
    refine ih () _ _ ⟨w1,fun j x hj hx2=>?_⟩ tsb
    by_cases e:j=i
    ·subst e
     rw [hx]at hx2
     cases hx2
     rw [e1];simp
    ·exact w2 j x (by omega) hx2
   ·by_cases h4:l[i].1.ents.length≤4
    ·refine wk ?_
     (apply st1 L rfl;exact F4 rfl lkr (key _ e2);rfl)
     refine wk ?_
     refine ih () _ _ ⟨w1,fun j x hj hx2=>?_⟩ tsb
     by_cases e:j=i
     ·subst e
      rw [hx]at hx2
      cases hx2
      exact h4
     ·exact w2 j x (by omega) hx2
    ·refine wk ?_
     (apply st1 L rfl;exact F4 rfl lkr (key _ e2);rfl)
     refine wk ?_
     refine ret X.f6 ?_
     exact⟨by rw [decide_eq_false (fun q=>h4 (q _ (List.getElem_mem hi)))];rfl,w1⟩
  ·rintro _ h3 ⟨w1,w2⟩
   refine wk ?_
   refine ret X.f6 ?_
   exact⟨by rw [decide_eq_true (fun x hx=>by obtain⟨j,hj,e⟩:=List.getElem_of_mem hx;exact w2 j x hj (by rw [List.getElem?_eq_getElem hj,e]))];rfl,kps⟩
end
end
section
variable {P0:Program}{E:Env}{F:T CFn}{K:T (List AV×AV)}(L:Lg P0 E F K)(X:Fx F K)
include L X
section
variable {h:H}
theorem Xy {e:Int}:Ct P0 E F K 19 [.int .i64 e] h fun v h'=>v= .int .i64 e∧h'=h:=by
 refine Ao L X.f19 X.k19 rfl rfl fun Q x cs G=>?_
 refine wk ?_
 refine ret X.f19 ?_
 exact⟨rfl,rfl⟩
theorem dg {n v:Nat}(hn:0<n∧n<1000)(hv:v<256):Ct P0 E F K 34 [.int .i64 ((n:Nat):Int),.int .u8 ((v:Nat):Int)] h fun u h'=> ∃b,u= .slc b 0 n n∧Bk h' b (Ax (List.replicate n v))∧h.n≤b∧K0 h h':=by
 refine Af L X.f34 X.k34 rfl rfl fun Q x cs G=>?_
 have e:max 0 n=n:=by omega
 refine wk ?_
 rw [e]
 refine Bb L (α:= Unit) (T:=fun i _=> [(6,some (.int .i64 ((i:Nat):Int))),(5,some (.slc h.n 0 n n)),(1,some (.int .u8 ((v:Nat):Int)))]) (n:=n)
  (R:=fun i _ h1=>Bk h1 h.n (Ax (List.replicate i v++List.replicate (n - i) 0))∧K0 h h1) (i0:=0) () tsb ⟨by rw [show Ax (List.replicate 0 v++List.replicate (n - 0) 0)=rl [.int .u8 ((0:Nat):Int)] n by rw [Yu];simp];exact lkp,kps⟩ (Nat.zero_le _) ?_ ?_
 ·rintro i _ h1 hi ⟨w1,w2⟩ ih
  have hd:List.replicate (n - i) 0=0::List.replicate (n - (i+1)) 0:=by rw [show n - i=(n - (i+1))+1 by omega];rfl
  rw [hd]at w1
  have hlen:i<(Ax (List.replicate i v++0::List.replicate (n - (i+1)) 0)).length:=by
   rw [Jl,List.length_append,List.length_replicate,List.length_cons];omega
  refine wk ?_
  refine ih () _ _ ⟨?_,kps⟩ tsb
  refine N4 ?_ lkp
  rw [Qk _ _ _ _ _ (by rw [List.length_replicate]),List.replicate_succ']
  simp
 ·rintro _ h1 ⟨w1,w2⟩
  refine wk ?_
  refine ret X.f34 ?_
  rw [Nat.sub_self,List.replicate_zero,List.append_nil]at w1
  exact⟨h.n,rfl,lkp,Nat.le_refl _,kps⟩
theorem Bs {sz:Nat}(hz:12≤sz∧sz≤8192):Ct P0 E F K 97 [.int .i64 ((sz:Nat):Int)] h fun v h'=>v= .int .i64 (((sz - 4) / 8:Nat):Int)∧h'=h:=by
 refine Ao L X.f97 X.k97 rfl rfl fun Q x cs G=>?_
 refine wk ?_
 refine ret X.f97 ?_
 exact⟨rfl,rfl⟩
theorem L6 {b at_ v cap len:Nat}{a l0 c:List Nat}(k:Bk h b (Ax (a++l0++c)))(ha:a.length=at_)(hl:l0.length=4)(hv:v<9223372036854775808)(hlen:(a++l0++c).length=len)(hle:len<10000):
  Ct P0 E F K 99 [.slc b 0 len cap,.int .i64 ((at_:Nat):Int),.int .i64 ((v:Nat):Int)] h fun u h'=>Bk h' b (Ax (a++leb 4 v++c))∧Kp (fun j=>j=b) h h':=by
 have l1:=k.lt
 rw [List.length_append,List.length_append]at hlen
 refine A6 L X.f99 X.k99 rfl rfl fun Q x cs G=>?_
 refine wk ?_
 refine Bb L (α:= Nat) (T:=fun i u=> [(6,some (.int .i64 ((i:Nat):Int))),(0,some (.slc b 0 len cap)),(1,some (.int .i64 ((at_:Nat):Int))),(2,some (.int .i64 ((u:Nat):Int)))]) (n:=4)
  (R:=fun i u h1=>Bk h1 b (Ax (a++leb i v++(l0.drop i++c)))∧u=v >>> (8*i)∧Kp (fun j=>j=b) h h1) (i0:=0) v tsb ⟨?_,rfl,kps⟩ (Nat.zero_le _) ?_ ?_
 ·rw [leb,List.append_nil,List.drop_zero,←List.append_assoc];exact lkp
 ·rintro i u h1 hi ⟨w1,w3,w2⟩ ih
  have hd:l0.drop i=l0[i]::l0.drop (i+1):=List.drop_eq_getElem_cons (by omega)
  rw [hd,List.cons_append]at w1
  have hlen2:at_+i<(Ax (a++leb i v++l0[i]::(l0.drop (i+1)++c))).length:=by
   rw [Jl,List.length_append,List.length_append,List.length_cons,Do];omega
  have hu:u≤v:=by rw [w3,Nat.shiftRight_eq_div_pow];exact Nat.div_le_self _ _
  refine wk ?_
  refine ih (u / 256) _ _ ⟨?_,?_,kps⟩ tsb
  ·refine N4 ?_ lkp
   rw [Qk _ _ _ _ _ (by rw [List.length_append,Do];omega),Qj,←w3,List.append_assoc a,List.append_assoc a,List.append_assoc (leb i v)]
   rfl
  ·rw [w3,Nat.shiftRight_eq_div_pow,Nat.shiftRight_eq_div_pow,←Qi,←Qi,Nat.pow_succ,Nat.div_div_eq_div_mul]
 ·rintro u h1 ⟨w1,w3,w2⟩
  refine wk ?_
  refine ret X.f99 ?_
  refine⟨?_,kps⟩
  rw [←hl,List.drop_length,List.nil_append]at w1
  rw [←hl]
  exact lkp
theorem Hy {κ: Nat→Nat}{v:AV}{l:List Ent}(k:EntR κ h v l)(hl:l.length<100000):Ct P0 E F K 98 [v] h fun u h'=>u= .bool (decide (∀e∈l,e.Ok))∧h'=h:=by
 rcases k.ex with⟨rfl,rfl⟩|⟨rfl,_,rfl⟩|⟨b,cap,rfl,h1,h2⟩
 ·refine Ao L X.f98 X.k98 rfl rfl fun Q x cs G=>?_
  refine wk ?_
  refine A4 L ?_
  refine wk ?_
  refine ret X.f98 ?_
  exact⟨by simp [single],rfl⟩
 ·refine Ao L X.f98 X.k98 rfl rfl fun Q x cs G=>?_
  refine wk ?_
  refine A4 L ?_
  refine wk ?_
  refine ret X.f98 ?_
  exact⟨by simp [single],rfl⟩
 ·have l1:=h1.lt
  refine Ao L X.f98 X.k98 rfl rfl fun Q x cs G=>?_
  refine wk ?_
  refine Bb L (α:= Unit) (T:=fun i _=> [(3,some (.int .i64 ((i:Nat):Int))),(0,some (.slc b 0 l.length cap))]) (n:=l.length)
   (R:=fun i _ h3=>h3=h∧ ∀j x,j<i→l[j]?=some x→x.Ok) (i0:=0) () tsb ⟨rfl,fun j x hj=>absurd hj (Nat.not_lt_zero j)⟩ (Nat.zero_le _) ?_ ?_
  ·rintro i _ h3 hi ⟨rfl,w2⟩ ih
   have hx:l[i]?=some l[i]:=List.getElem?_eq_getElem hi
   have c0:=Dd l (B4 l) i 0 _ hx (by omega)
   have c1:=Dd l (B4 l) i 1 _ hx (by omega)
   have bad: ¬l[i].Ok→decide (∀e∈l,e.Ok)=false:=fun hn=>decide_eq_false fun q=>hn (q _ (List.getElem_mem hi))
   generalize he:l[i]=e at*
   obtain⟨e0,e1⟩:=e
   have c0':(l.flatMap An)[i*2+0]?=some (.int .i64 e0):=c0
   have c1':(l.flatMap An)[i*2+1]?=some (.int .i64 e1):=c1
   clear c0 c1
   have m0: ∀{lq:List (Nat×Option AV)} {y:O},evO lq y=some (.ptr b (i*2+0))→XV (.load1 y) (hp h3.n h3.t []) lq (.int .i64 e0) (hp h3.n h3.t []):=fun q=>F4 q lkr c0'
   have m1: ∀{lq:List (Nat×Option AV)} {y:O},evO lq y=some (.ptr b (i*2+1))→XV (.load1 y) (hp h3.n h3.t []) lq (.int .i64 e1) (hp h3.n h3.t []):=fun q=>F4 q lkr c1'
   clear c0' c1'
   by_cases q0:e0<0
   ·refine wk ?_
    (apply st1 L rfl;exact m0 rfl;rfl)
    refine wk ?_
    refine ret X.f98 ?_
    exact⟨by rw [bad (by unfold Ent.Ok;simp only [];omega)];rfl,rfl⟩
   by_cases q1:4294967294<e0
   ·refine wk ?_
    (apply st1 L rfl;exact m0 rfl;rfl)
    refine wk ?_
    (apply st1 L rfl;exact m0 rfl;rfl)
    refine wk ?_
    refine ret X.f98 ?_
    exact⟨by rw [bad (by unfold Ent.Ok;simp only [];omega)];rfl,rfl⟩
   by_cases q2:e1< -1
   ·refine wk ?_
    (apply st1 L rfl;exact m0 rfl;rfl)
    refine wk ?_
    (apply st1 L rfl;exact m0 rfl;rfl)
    refine wk ?_
    (apply st1 L rfl;exact m1 rfl;rfl)
    refine wk ?_
    refine ret X.f98 ?_
    exact⟨by rw [bad (by unfold Ent.Ok;simp only [];omega)];rfl,rfl⟩
   by_cases q3:4294967294<e1
   ·refine wk ?_
    (apply st1 L rfl;exact m0 rfl;rfl)
    refine wk ?_
    (apply st1 L rfl;exact m0 rfl;rfl)
    refine wk ?_
    (apply st1 L rfl;exact m1 rfl;rfl)
    refine wk ?_
    (apply st1 L rfl;exact m1 rfl;rfl)
    refine wk ?_
    refine ret X.f98 ?_
    exact⟨by rw [bad (by unfold Ent.Ok;simp only [];omega)];rfl,rfl⟩
   ·refine wk ?_
    (apply st1 L rfl;exact m0 rfl;rfl)
    refine wk ?_
    (apply st1 L rfl;exact m0 rfl;rfl)
    refine wk ?_
    (apply st1 L rfl;exact m1 rfl;rfl)
    refine wk ?_
    (apply st1 L rfl;exact m1 rfl;rfl)
    refine wk ?_
    refine ih () _ _ ⟨rfl,fun j x hj hx2=>?_⟩ tsb
    by_cases e:j=i
    ·subst e
     rw [hx]at hx2
     cases hx2
     unfold Ent.Ok;simp only [];omega
    ·exact w2 j x (by omega) hx2
  ·rintro _ h3 ⟨rfl,w2⟩
   refine wk ?_
   refine ret X.f98 ?_
   exact⟨by rw [decide_eq_true (fun x hx=>by obtain⟨j,hj,e⟩:=List.getElem_of_mem hx;exact w2 j x hj (by rw [List.getElem?_eq_getElem hj,e]))];rfl,rfl⟩
theorem Q4 {κ: Nat→Nat}{v:AV}{l:List Ent}{sz:Nat}(k:EntR κ h v l)(hl:l.length<100000)(hz:12≤sz∧sz<1000):
  Ct P0 E F K 37 [.int .i64 ((sz:Nat):Int),v] h fun u h'=>(∃bv,u= .tup [bv,.int .i64 ((encE sz l:Nat):Int)]∧(encE sz l=0→ ∃b,bv= .slc b 0 sz sz∧Bk h' b (Ax (K1 sz l))∧h.n≤b))∧K0 h h':=by
 by_cases hr: ∀e∈l,e.Ok
 rotate_left
 ·have e0:encE sz l=2:=if_neg hr
  have hlen: ∃m:AV,True:=⟨.nilp,trivial⟩
  refine Af L X.f37 X.k37 rfl rfl fun Q x cs G=>?_
  refine wk ?_
  refine cal (c:=Bs L X (sz:=sz) (by omega)) (g:=?_)
  rintro _ rfl
  refine wk ?_
  refine cal (c:=Hy L X (κ:= κ) (l:=l) k hl) (g:=?_)
  rintro _ rfl
  rw [decide_eq_false hr]
  refine wk ?_
  refine ret X.f37 ?_
  exact⟨⟨.nils,by rw [e0];rfl,fun q=>by omega⟩,kps⟩
 ·by_cases hc:(sz - 4) / 8<l.length
  ·have e0:encE sz l=5:=by unfold encE;rw [if_pos hr,if_pos hc]
   rcases k.ex with⟨rfl,rfl⟩|⟨rfl,_,rfl⟩|⟨eb,cap,rfl,h1,h2⟩
   ·exact absurd hc (by simp)
   ·exact absurd hc (by simp)
   refine Af L X.f37 X.k37 rfl rfl fun Q x cs G=>?_
   refine wk ?_
   refine cal (c:=Bs L X (sz:=sz) (by omega)) (g:=?_)
   rintro _ rfl
   refine wk ?_
   refine cal (c:=Hy L X (κ:= κ) (l:=l) k hl) (g:=?_)
   rintro _ rfl
   rw [decide_eq_true hr]
   refine wk ?_
   refine cal (c:=Bs L X (sz:=sz) (by omega)) (g:=?_)
   rintro _ rfl
   refine wk ?_
   refine ret X.f37 ?_
   exact⟨⟨.nils,by rw [e0];rfl,fun q=>by omega⟩,kps⟩
  ·have e0:encE sz l=0:=by unfold encE;rw [if_pos hr,if_neg hc]
   have hcap:4+8*l.length≤sz:=by omega
   have e1:rl [.int .u8 ((0:Nat):Int)] sz=Ax ([]++List.replicate 4 0++List.replicate (sz - 4) 0):=by
    rw [Yu,List.nil_append,List.replicate_append_replicate,show 4+(sz - 4)=sz by omega]
   have hl5:([]++List.replicate 4 0++List.replicate (sz - 4) 0).length=sz:=by simp;omega
   rcases k.ex with⟨rfl,rfl⟩|⟨rfl,_,rfl⟩|⟨eb,cap,rfl,h1,h2⟩
   ·refine Af L X.f37 X.k37 rfl rfl fun Q x cs G=>?_
    refine wk ?_
    refine cal (c:=Bs L X (sz:=sz) (by omega)) (g:=?_)
    rintro _ rfl
    refine wk ?_
    refine cal (c:=Hy L X (κ:= κ) (l:= []) k hl) (g:=?_)
    rintro _ rfl
    rw [decide_eq_true hr]
    refine wk ?_
    refine cal (c:=Bs L X (sz:=sz) (by omega)) (g:=?_)
    rintro _ rfl
    refine wk ?_
    rw [e1]
    refine cal (c:=L6 L X (len:=sz) (at_:=0) (v:=0) (a:= []) (l0:=List.replicate 4 0) (c:=List.replicate (sz - 4) 0) lkp rfl rfl (by omega) hl5 (by omega)) (g:=?_)
    rintro _ h3 ⟨w1,w2⟩
    refine wk ?_
    refine A4 L ?_
    refine wk ?_
    refine ret X.f37 ?_
    refine⟨⟨_,by rw [e0];rfl,fun _=>⟨h.n,rfl,?_,Nat.le_refl _⟩⟩,kps⟩
    have e3:K1 sz []= []++leb 4 0++List.replicate (sz - 4) 0:=by simp [K1]
    rw [e3];exact lkp
   ·refine Af L X.f37 X.k37 rfl rfl fun Q x cs G=>?_
    refine wk ?_
    refine cal (c:=Bs L X (sz:=sz) (by omega)) (g:=?_)
    rintro _ rfl
    refine wk ?_
    refine cal (c:=Hy L X (κ:= κ) (l:= []) k hl) (g:=?_)
    rintro _ rfl
    rw [decide_eq_true hr]
    refine wk ?_
    refine cal (c:=Bs L X (sz:=sz) (by omega)) (g:=?_)
    rintro _ rfl
    refine wk ?_
    rw [e1]
    refine cal (c:=L6 L X (len:=sz) (at_:=0) (v:=0) (a:= []) (l0:=List.replicate 4 0) (c:=List.replicate (sz - 4) 0) lkp rfl rfl (by omega) hl5 (by omega)) (g:=?_)
    rintro _ h3 ⟨w1,w2⟩
    refine wk ?_
    refine A4 L ?_
    refine wk ?_
    refine ret X.f37 ?_
    refine⟨⟨_,by rw [e0];rfl,fun _=>⟨h.n,rfl,?_,Nat.le_refl _⟩⟩,kps⟩
    have e3:K1 sz []= []++leb 4 0++List.replicate (sz - 4) 0:=by simp [K1]
    rw [e3];exact lkp
   ·have l1:=h1.lt
    refine Af L X.f37 X.k37 rfl rfl fun Q x cs G=>?_
    refine wk ?_
    refine cal (c:=Bs L X (sz:=sz) (by omega)) (g:=?_)
    rintro _ rfl
    refine wk ?_
    refine cal (c:=Hy L X (κ:= κ) (l:=l) k hl) (g:=?_)
    rintro _ rfl
    rw [decide_eq_true hr]
    refine wk ?_
    refine cal (c:=Bs L X (sz:=sz) (by omega)) (g:=?_)
    rintro _ rfl
    refine wk ?_
    rw [e1]
    refine cal (c:=L6 L X (len:=sz) (at_:=0) (v:=l.length) (a:= []) (l0:=List.replicate 4 0) (c:=List.replicate (sz - 4) 0) lkp rfl rfl (by omega) hl5 (by omega)) (g:=?_)
    rintro _ h3 ⟨w1,w2⟩
    refine wk ?_
    refine Bb L (α:= Unit) (T:=fun i _=> [(7,some (.int .i64 ((i:Nat):Int))),(6,some (.slc h.n 0 sz sz)),(1,some (.slc eb 0 l.length cap))]) (n:=l.length)
     (R:=fun i _ h4=>Bk h4 h.n (Ax (leb 4 l.length++(l.take i).flatMap Ke++List.replicate (sz - 4 - 8*i) 0))∧K0 h h4) (i0:=0) () tsb ⟨by rw [List.take_zero,List.flatMap_nil,List.append_nil];exact lkp,kps⟩ (Nat.zero_le _) ?_ ?_
    ·rintro i _ h4 hi ⟨u1,u2⟩ ih
     have m1:=u1.lt
     have hx:l[i]?=some l[i]:=List.getElem?_eq_getElem hi
     have c0:=Dd l (B4 l) i 0 _ hx (by omega)
     have c1:=Dd l (B4 l) i 1 _ hx (by omega)
     have hok:=hr _ (List.getElem_mem hi)
     have hsn:=Xo l i _ hx
     generalize he:l[i]=e at*
     obtain⟨e0,e1⟩:=e
     unfold Ent.Ok at hok
     simp only []at hok hsn
     obtain⟨n0,rfl⟩: ∃n0:Nat,e0=n0:=⟨e0.toNat,by omega⟩
     obtain⟨n1,rfl⟩: ∃n1:Nat,e1=(n1:Int) - 1:=⟨(e1+1).toNat,by omega⟩
     have hk:=jx u2 h1
     have m0: ∀{hq:H} {lq:List (Nat×Option AV)} {y:O},Rk hq eb (l.flatMap An)→evO lq y=some (.ptr eb (i*2+0))→XV (.load1 y) hq lq (.int .i64 ((n0:Nat):Int)) hq:=fun kk q=>F4 q kk c0
     have m1': ∀{hq:H} {lq:List (Nat×Option AV)} {y:O},Rk hq eb (l.flatMap An)→evO lq y=some (.ptr eb (i*2+1))→XV (.load1 y) hq lq (.int .i64 (((n1:Nat):Int) - 1)) hq:=fun kk q=>F4 q kk c1
     clear c0 c1
     have w3:Bk h4 h.n (Ax ((leb 4 l.length++(l.take i).flatMap Ke)++List.replicate 4 0++List.replicate (sz - 4 - 8*i - 4) 0)):=by
      rw [List.append_assoc _ (List.replicate 4 0),List.replicate_append_replicate,show 4+(sz - 4 - 8*i - 4)=sz - 4 - 8*i by omega];exact u1
     have la:(leb 4 l.length++(l.take i).flatMap Ke).length=4+8*i:=by rw [List.length_append,Do,M4,List.length_take];omega
     refine wk ?_
     (apply st1 L rfl;exact m0 lkr rfl;rfl)
     refine wk ?_
     refine cal (c:=L6 L X (len:=sz) (at_:=4+8*i) (v:=n0) (a:=leb 4 l.length++(l.take i).flatMap Ke) (l0:=List.replicate 4 0) (c:=List.replicate (sz - 4 - 8*i - 4) 0) lkp la rfl (by omega) (by rw [List.length_append,List.length_append,la];simp;omega) (by omega)) (g:=?_)
     rintro _ h5 ⟨w4,w5⟩
     have n5:=w5.n
     try simp only [Ah]at n5
     have w6:Bk h5 h.n (Ax ((leb 4 l.length++(l.take i).flatMap Ke++leb 4 n0)++List.replicate 4 0++List.replicate (sz - 4 - 8*(i+1)) 0)):=by
      rw [List.append_assoc _ (List.replicate 4 0),List.replicate_append_replicate,show 4+(sz - 4 - 8*(i+1))=sz - 4 - 8*i - 4 by omega];exact w4
     have hk2:Rk h5 eb (l.flatMap An):=Aa0 w5 (by omega) hk
     refine wk ?_
     (apply st1 L rfl;exact m1' lkr rfl;rfl)
     refine wk ?_
     rw [show((n1:Nat):Int) - 1+((1:Nat):Int)=((n1:Nat):Int) by omega]
     refine cal (c:=L6 L X (len:=sz) (at_:=8+8*i) (v:=n1) (a:=leb 4 l.length++(l.take i).flatMap Ke++leb 4 n0) (l0:=List.replicate 4 0) (c:=List.replicate (sz - 4 - 8*(i+1)) 0) lkp (by rw [List.length_append,la,Do];omega) rfl (by omega) (by rw [List.length_append,List.length_append,List.length_append,la,Do];simp;omega) (by omega)) (g:=?_)
     rintro _ h6 ⟨w7,w8⟩
     refine wk ?_
     refine ih () _ _ ⟨?_,kps⟩ tsb
     rw [hsn,Int.toNat_natCast,show((n1:Nat):Int) - 1+1=((n1:Nat):Int) by omega,Int.toNat_natCast]
     simp only [←List.append_assoc]
     exact w7
    ·rintro _ h4 ⟨u1,u2⟩
     refine wk ?_
     refine ret X.f37 ?_
     refine⟨⟨_,by rw [e0];rfl,fun _=>⟨h.n,rfl,?_,Nat.le_refl _⟩⟩,kps⟩
     rw [List.take_length]at u1
     unfold K1
     exact lkp
end
end
section
variable {P0:Program}{E:Env}{F:T CFn}{K:T (List AV×AV)}(L:Lg P0 E F K)(X:Fx F K)
include L X
section
variable {h:H}
theorem Zk {b o n c:Nat}{bs:List Nat}(k:BS h b o bs)(hl:bs.length=n)(hn:12≤n∧n<1000):
  Ct P0 E F K 63 [.slc b o n c] h fun v h'=>(∃(u:AV) (e:Nat),v= .tup [u,.int .i64 ((e:Nat):Int)]∧EL h' h.n u ((B2 bs).getD [])∧(e=0↔(B2 bs).isSome=true)∧e<1000)∧K0 h h':=by
 have ha:=k.all
 have l1:=k.lt_n
 have bN:jN bs<4294967296:=Dc ha 4 0
 have bad: ¬JOk bs→B2 bs=none:=fun q=>if_neg q
 have good:JOk bs→B2 bs=some (Cp bs (jN bs)):=fun q=>if_pos q
 refine Ao L X.f63 X.k63 rfl rfl fun Q x cs G=>?_
 refine wk ?_
 refine cal (c:=Bs L X (sz:=n) (by omega)) (g:=?_)
 rintro _ rfl
 refine wk ?_
 refine cal (c:=T4 L X (a:=0) k hl (by omega) (by omega)) (g:=?_)
 rintro _ rfl
 refine wk ?_
 refine cal (c:=Bs L X (sz:=n) (by omega)) (g:=?_)
 rintro _ rfl
 have eN:leF bs 0 4=jN bs:=rfl
 rw [eN]
 by_cases hN:(n - 4) / 8<jN bs
 ·refine wk ?_
  refine ret X.f63 ?_
  rw [bad (by rintro⟨q,_⟩;rw [hl]at q;omega)]
  exact⟨⟨.nils,6,rfl,EL.nil _ _,by simp,by omega⟩,kps⟩
 refine wk ?_
 refine Bb L (α:= AV) (T:=fun i v=> [(6,some (.int .i64 ((i:Nat):Int))),(5,some v),(4,some (.int .i64 ((jN bs:Nat):Int))),(0,some (.slc b o n c))]) (n:=jN bs)
  (R:=fun i v h2=>EL h2 h.n v (Cp bs i)∧K0 h h2) (i0:=0) .nils tsb ⟨EL.nil _ _,kps⟩ (Nat.zero_le _) ?_ ?_
 ·rintro i v h2 hi ⟨w1,w2⟩ ih
  have k2:=k.k0 w2
  have n2:=w2.n
  have x1:=Dc ha 4 (4+8*i)
  have x2:=Dc ha 4 (8+8*i)
  have eE:I0 bs i=(((leF bs (4+8*i) 4:Nat):Int),((leF bs (8+8*i) 4:Nat):Int) - 1):=rfl
  have w1l:=w1.len
  rw [Bw]at w1l
  rw [K2]at ih
  refine wk ?_
  refine cal (c:=T4 L X (a:=4+8*i) k2 hl (by omega) (by omega)) (g:=?_)
  rintro _ rfl
  refine wk ?_
  refine cal (c:=T4 L X (a:=8+8*i) k2 hl (by omega) (by omega)) (g:=?_)
  rintro _ rfl
  rcases w1l with⟨e0,rfl⟩|⟨gn,lb,rfl,g5,g6⟩
  ·refine wk ?_
   (apply st1 L rfl;exact D8 (new:=An (I0 bs i)) rfl rfl (SlR.of (c:=An (I0 bs i)) lkp (Nat.le_refl _) rfl) (by omega) (by omega);rfl)
   refine wk ?_
   refine ih _ _ _ ⟨?_,kps⟩ tsb
   rw [e0,List.nil_append]
   exact EL.app (l:= []) (by exact lkp) (by omega) rfl
  ·have g8:=g5.lt
   refine wk ?_
   (apply st1 L rfl;exact C2 (old:=(Cp bs i).flatMap An) (new:=An (I0 bs i)) rfl rfl (SlR.of (c:=(Cp bs i).flatMap An) lkp (by rw [A2,Bw];omega) (by rw [List.drop_zero,List.take_of_length_le (by rw [A2,Bw];exact Nat.le_refl _)])) (SlR.of (c:=An (I0 bs i)) lkp (Nat.le_refl _) rfl) (by omega) (by omega) rfl;rfl)
   refine wk ?_
   refine ih _ _ _ ⟨?_,kps⟩ tsb
   exact EL.app (l:=Cp bs i) (by exact lkp) (by omega) (Bw _ _)
 ·rintro v h2 ⟨w1,w2⟩
  have k2:=k.k0 w2
  have n2:=w2.n
  refine wk ?_
  refine cal (c:=Q4 L X (κ:= fun _=>0) (w1.entR fun _ _=>rfl) (by rw [Bw];omega) (sz:=n) (by omega)) (g:=?_)
  rintro _ h3 ⟨⟨bv,rfl,w3⟩,w4⟩
  have n4:=w4.n
  by_cases hok: ∀e∈Cp bs (jN bs),e.Ok
  ·have eE:encE n (Cp bs (jN bs))=0:=by unfold encE;rw [if_pos hok,Bw,if_neg hN]
   obtain⟨rb,rfl,w5,w6⟩:=w3 eE
   rw [eE]
   have hel:(K1 n (Cp bs (jN bs))).length=n:=by rw [←hl];exact Vr (by rw [Bw];omega)
   refine wk ?_
   (apply st1 L rfl;exact Si rfl (Sd w5 (Vq _ _)) hel;rfl)
   refine wk ?_
   (apply st1 L rfl;exact Si rfl (by exact lkb) hl;rfl)
   refine wk ?_
   (apply st1 L rfl;exact uq rfl rfl;rfl)
   have hz:=se ha (by rw [hl];omega) hok
   rw [hl]at hz
   by_cases hc:K1 n (Cp bs (jN bs))=bs
   ·rw [decide_eq_false (show¬K1 n (Cp bs (jN bs))≠bs from fun q=>q hc)]
    refine wk ?_
    refine ret X.f63 ?_
    rw [good ⟨by rw [hl];omega,hok,by rw [hl];exact hz.1 hc⟩]
    exact⟨⟨v,0,rfl,w1.k0 kps,by simp,by omega⟩,kps⟩
   ·rw [decide_eq_true (show K1 n (Cp bs (jN bs))≠bs from hc)]
    refine wk ?_
    refine ret X.f63 ?_
    rw [bad (by rintro⟨_,_,q⟩;rw [hl]at q;exact hc (hz.2 q))]
    exact⟨⟨.nils,6,rfl,EL.nil _ _,by simp,by omega⟩,kps⟩
  ·have eE:encE n (Cp bs (jN bs))=2:=if_neg hok
   rw [eE]
   refine wk ?_
   refine ret X.f63 ?_
   rw [bad (by rintro⟨_,q,_⟩;exact hok q)]
   exact⟨⟨.nils,6,rfl,EL.nil _ _,by simp,by omega⟩,kps⟩
end
end
section
variable {P0:Program}{E:Env}{F:T CFn}{K:T (List AV×AV)}(L:Lg P0 E F K)(X:Fx F K)
include L X
section
variable {h:H}
theorem Jt {Q:Nat→AV→Prop}{nt:Nat}{l:List (Nat×Option AV)}{todo:List AItem}{z:AFr}{cs:List AFr}{b2 b3:Nat}{e:Int}{x0 y0:AV}{post:AV→H→Prop}(t2:look l 2=some (.ptr b2 0))(t3:look l 3=some (.ptr b3 0))
  (k2:Bk h b2 [x0]) (k3:Bk h b3 [y0]) (hne:b2≠b3) (hG: ∀v h',post v h'→GO P0 E Q (finish v cs h' z))
  (hp1: ∀h',Kp (fun j=>j=b2∨j=b3) h h'→post (.tup [.nils,.int .i64 e]) h'):
  Good P0 E Q ⟨⟨110,nt,tms l,todo,[.call 161 [.ptr b2 0,.ptr b3 0]],.panicking [(.ifc 34 (.int .i64 e),false)],false,none⟩,z::cs,h⟩:=by
 have l2:=k2.lt
 have l3:=k3.lt
 refine Db L (by intro q;cases q) X.f161 rfl rfl rfl ?_
 refine Ii L rfl ?_
 refine wk ?_
 (apply Qh L rfl rfl rfl rfl rfl rfl rfl;exact lkp;rfl;intro h9 hs9;(repeat(first|(apply Au rfl rfl;exact opv)|(apply Kv rfl rfl)));(first|(apply p_0;exact chk)|(refine Tr L ?_ rfl ?_;exact chk));refine Od L hs9 ?_)
 refine wk ?_
 refine Ij L X.f161 rfl ?_
 refine Gr L X.f110 (Dn t2 (Bk.e lkp) rfl (Dn t3 (Bk.e lkp) rfl Ix)) hG (hp1 _ kps)
theorem dh {Q:Nat→AV→Prop}{nt:Nat}{l:List (Nat×Option AV)}{todo:List AItem}{z:AFr}{cs:List AFr}{b2 b3:Nat}{x0 y0:AV}{post:AV→H→Prop}(t2:look l 2=some (.ptr b2 0))(t3:look l 3=some (.ptr b3 0))
  (k2:Bk h b2 [x0]) (k3:Bk h b3 [y0]) (hG: ∀v h',post v h'→GO P0 E Q (finish v cs h' z))
  (hp1:post (.tup [x0,y0]) h):
  Good P0 E Q ⟨⟨110,nt,tms l,todo,[.call 161 [.ptr b2 0,.ptr b3 0]],.returning,false,none⟩,z::cs,h⟩:=by
 refine Db L (by intro q;cases q) X.f161 rfl rfl rfl ?_
 refine Fm L rfl ?_
 refine wk ?_
 (apply st1 L rfl;exact My (k:=true) rfl rfl;rfl)
 refine wk ?_
 refine Ij L X.f161 rfl ?_
 refine Gr L X.f110 (Dn t2 (Bk.e lkp) rfl (Dn t3 (Bk.e lkp) rfl Ix)) hG hp1
theorem Zl {b o n c:Nat}{bs:List Nat}(k:BS h b o bs)(hl:bs.length=n)(hn:12≤n∧n<1000):
  Ct P0 E F K 110 [.slc b o n c] h fun v h'=>(∃(u:AV) (e:Nat),v= .tup [u,.int .i64 ((e:Nat):Int)]∧EL h' h.n u ((B2 bs).getD [])∧(e=0↔(B2 bs).isSome=true)∧e<1000)∧K0 h h':=by
 have ha:=k.all
 have l1:=k.lt_n
 have bN:jN bs<4294967296:=Dc ha 4 0
 have bad: ¬JOk bs→B2 bs=none:=fun q=>if_neg q
 have good:JOk bs→B2 bs=some (Cp bs (jN bs)):=fun q=>if_pos q
 refine Ao L X.f110 X.k110 rfl rfl fun Q x cs G=>?_
 refine wk ?_
 refine Jk L rfl rfl rfl rfl ?_
 refine wk ?_
 refine cal (c:=sf L X (sz:=n) (by omega)) (g:=?_)
 rintro _ rfl
 refine wk ?_
 refine cal (c:=Hr L X) (g:=?_)
 rintro _ rfl
 refine wk ?_
 refine cal (c:=Lv L X (bs:=bs) lkb hl (by omega)) (g:=?_)
 rintro _ h2 ⟨r,cb,rfl,w1,w2,w3,w4,w5,w6⟩
 have n2:=w6.n
 have m1:=w1.lt
 have m2:=w2.lt_n
 simp only [Ah]at n2 w3 w4
 have w1':Bk h2 r (rdC cb 0 n):=w1
 refine wk ?_
 refine cal (c:=Qv L X (a:=0) (m:=4) (bs:=bs) (sz:=n) (cb:=cb) (by exact lkp) lkb hl (by omega) (by omega) (by omega) w5) (g:=?_)
 rintro _ h3 ⟨rfl,w7,w8⟩
 have n3:=w8.n
 simp only [Ah]at n3
 have eN:leF bs 0 4=jN bs:=rfl
 rw [eN]
 refine wk ?_
 refine cal (c:=Xq L X (n:=jN bs)) (g:=?_)
 rintro _ rfl
 by_cases hN:(n - 4) / 8<jN bs
 ·refine wk ?_
  refine Ex L rfl rfl rfl rfl rfl (Na L X) ?_
  rintro _ _ ⟨rfl,rfl⟩
  rw [bad (by rintro⟨q,_⟩;rw [hl]at q;omega)]at G
  exact Jt L X rfl rfl lkp lkp (by omega) G fun h9 k9=>⟨⟨.nils,6,rfl,EL.nil _ _,by simp,by omega⟩,Kp.trS k9 (fun i hi e=>by omega) kps⟩
 refine wk ?_
 refine cal (c:=Hr L X) (g:=?_)
 rintro _ rfl
 refine wk ?_
 refine Bb L (α:= AV) (T:=fun i v=> [(29,some (.int .i64 ((i:Nat):Int))),(28,some (.int .i64 ((jN bs:Nat):Int))),(5,some (.ptr r 0)),(3,some (.ptr (h.n+1) 0)),(2,some (.ptr h.n 0))]) (n:=jN bs)
  (R:=fun i v h4=>EL h4 h3.n v (Cp bs i)∧(∀e∈Cp bs i,e.Ok)∧Bk h4 h.n [v]∧Bk h4 (h.n+1) [.int .i64 ((0:Nat):Int)]∧Bk h4 r (rdC cb (4+8*i) n)∧BS h4 cb 0 bs∧h3.n≤h4.n∧K0 h h4) (i0:=0) .nils tsb
  ⟨EL.nil _ _,(by intro e he;cases he),lkp,lkp,lkp,lkb,Nat.le_refl _,kps⟩ (Nat.zero_le _) ?_ ?_
 ·rintro i v h4 hi ⟨u1,u2,u3,u4,u5,u6,u7,u8⟩ ih
  have x1:=Dc ha 4 (4+8*i)
  have x2:=Dc ha 4 (8+8*i)
  have eE:I0 bs i=(((leF bs (4+8*i) 4:Nat):Int),((leF bs (8+8*i) 4:Nat):Int) - 1):=rfl
  rw [K2]at ih
  refine wk ?_
  refine cal (c:=Qv L X (a:=4+8*i) (m:=4) (bs:=bs) (sz:=n) (cb:=cb) (by exact lkp) lkb hl (by omega) (by omega) (by omega) w5) (g:=?_)
  rintro _ h5 ⟨rfl,w9,w10⟩
  have n5:=w10.n
  simp only [Ah]at n5
  refine wk ?_
  refine cal (c:=Xq L X) (g:=?_)
  rintro _ rfl
  refine wk ?_
  rw [show 4+8*i+4=8+8*i by omega]at w9
  refine cal (c:=Qv L X (a:=8+8*i) (m:=4) (bs:=bs) (sz:=n) (cb:=cb) (by exact lkp) lkb hl (by omega) (by omega) (by omega) w5) (g:=?_)
  rintro _ h6 ⟨rfl,w11,w12⟩
  have n6:=w12.n
  simp only [Ah]at n6
  refine wk ?_
  refine cal (c:=Xq L X) (g:=?_)
  rintro _ rfl
  refine wk ?_
  refine cal (c:=Xr L X (e:=I0 bs i)) (g:=?_)
  rintro _ h7 ⟨rfl,w13⟩
  have n7:=w13.n
  simp only [Ah]at n7
  by_cases hok:(I0 bs i).Ok
  rotate_left
  ·rw [decide_eq_true hok]
   refine wk ?_
   refine Ex L rfl rfl rfl rfl rfl (Na L X) ?_
   rintro _ _ ⟨rfl,rfl⟩
   rw [bad (by rintro⟨_,q,_⟩;exact hok (q _ (List.mem_map_of_mem (List.mem_range.2 hi))))]at G
   exact Jt L X rfl rfl lkp lkp (by omega) G fun h9 k9=>⟨⟨.nils,6,rfl,EL.nil _ _,by simp,by omega⟩,Kp.trS k9 (fun i hi e=>by omega) kps⟩
  rw [decide_eq_false (show¬ ¬(I0 bs i).Ok from fun q=>q hok)]
  refine wk ?_
  refine cal (c:=Hr L X) (g:=?_)
  rintro _ rfl
  have hall: ∀e∈Cp bs i++ [I0 bs i],e.Ok:=by
   intro e he
   rcases List.mem_append.1 he with he|he
   ·exact u2 e he
   ·rw [List.mem_singleton.1 he];exact hok
  have u1l:=u1.len
  rw [Bw]at u1l
  have e8:4+8*(i+1)=8+8*i+4:=by omega
  rcases u1l with⟨e0,rfl⟩|⟨gn,lb,rfl,g5,g6⟩
  ·refine wk ?_
   (apply st1 L rfl;exact D8 (new:=An (I0 bs i)) rfl rfl (SlR.of (c:=An (I0 bs i)) lkp (Nat.le_refl _) rfl) (by omega) (by omega);rfl)
   refine wk ?_
   refine ih _ _ _ ⟨?_,hall,lkp,lkp,?_,lkb,by simp only [Ah];omega,kps⟩ tsb
   ·rw [e0,List.nil_append]
    exact EL.app (l:= []) (by exact lkp) (by omega) rfl
   ·rw [e8];exact lkp
  ·have g8:=g5.lt
   refine wk ?_
   (apply st1 L rfl;exact C2 (old:=(Cp bs i).flatMap An) (new:=An (I0 bs i)) rfl rfl (SlR.of (c:=(Cp bs i).flatMap An) lkp (by rw [A2,Bw];omega) (by rw [List.drop_zero,List.take_of_length_le (by rw [A2,Bw];exact Nat.le_refl _)])) (SlR.of (c:=An (I0 bs i)) lkp (Nat.le_refl _) rfl) (by omega) (by omega) rfl;rfl)
   refine wk ?_
   refine ih _ _ _ ⟨?_,hall,lkp,lkp,?_,lkb,by simp only [Ah];omega,kps⟩ tsb
   ·exact EL.app (l:=Cp bs i) (by exact lkp) (by omega) (Bw _ _)
   ·rw [e8];exact lkp
 ·rintro v h4 ⟨u1,u2,u3,u4,u5,u6,u7,u8⟩
  refine wk ?_
  refine cal (c:=sg L X u5) (g:=?_)
  rintro _ rfl
  refine wk ?_
  have zk:=BS.part (o:=0) (a:=4+8*jN bs) (n:=n - (4+8*jN bs)) u6 (by omega)
  rw [Nat.zero_add]at zk
  refine cal (c:=Ql L X (a:=4+8*jN bs) (m:=n - (4+8*jN bs)) (bs:=bs) (r:=r) (cb:=cb) (o:=4+8*jN bs) (at_:=4+8*jN bs) (n:=n - (4+8*jN bs)) u5 zk (by omega) (by omega) (by omega) (by omega) w5) (g:=?_)
  rintro _ h5 ⟨rfl,w9,w10⟩
  have n5:=w10.n
  by_cases hz:zer bs (4+8*jN bs) (n - (4+8*jN bs))=true
  ·rw [if_pos hz]
   rw [good ⟨by rw [hl];omega,u2,by rw [hl];exact hz⟩]at G
   have u9:=u1.kS w10 (by intro b hb;omega)
   rcases u1.ex with⟨e1,rfl⟩|⟨e1,b',rfl,e2,e3⟩ <;>
    (
         refine wk ?_
         refine cal (c:=Hr L X) (g:=?_)
         rintro _ rfl
         refine wk ?_
         refine Gq L (todo:= []) ?_
         exact dh L X rfl rfl lkp lkp G ⟨⟨_,0,rfl,EL.mono (u9.kS (S:=fun j=>j=h.n∨j=h.n+1) kps (by intro b hb;omega)) (by omega),by simp,by omega⟩,kps⟩)
  ·rw [if_neg hz]
   refine wk ?_
   refine Ex L rfl rfl rfl rfl rfl (Na L X) ?_
   rintro _ _ ⟨rfl,rfl⟩
   rw [bad (by rintro⟨_,_,q⟩;rw [hl]at q;exact hz q)]at G
   exact Jt L X rfl rfl lkp lkp (by omega) G fun h9 k9=>⟨⟨.nils,6,rfl,EL.nil _ _,by simp,by omega⟩,Kp.trS k9 (fun i hi e=>by omega) kps⟩
end
end
section
variable {P0:Program}{E:Env}{F:T CFn}{K:T (List AV×AV)}(L:Lg P0 E F K)(X:Fx F K)
include L X
section
variable {h:H}
theorem nj {x:PgE×Nat}{sz:Nat}(k:BS h x.2 0 x.1.data)(hl:x.1.data.length=sz)(hn:12≤sz∧sz<1000):Ct P0 E F K 56 [.agg (peC sz x)] h fun v h'=>v= .bool (isJ x.1)∧K0 h h':=by
 obtain⟨⟨a,s,d⟩,b⟩:=x
 have l1:=k.lt_n
 refine Ao L X.f56 X.k56 rfl rfl fun Q x cs G=>?_
 refine wk ?_
 refine cal (c:=Zl L X (bs:=d) lkb hl hn) (g:=?_)
 rintro _ h2 ⟨⟨u,e,rfl,w1,w2,w3⟩,w4⟩
 have n4:=w4.n
 simp only [Ah]at n4
 refine wk ?_
 refine cal (c:=Hs L X (x:=(⟨a,s,d⟩,b)) (sz:=sz)) (g:=?_)
 rintro _ h3 ⟨rfl,w5⟩
 by_cases hk:s.kind=1
 ·rw [decide_eq_true (show(PgE.mk a s d).s.kind=1 from hk)]
  refine wk ?_
  refine ret X.f56 ?_
  exact⟨by unfold isJ Bm;rw [decide_eq_true (show(PgE.mk a s d).s.kind=1 from hk)];rfl,kps⟩
 ·rw [decide_eq_false (show¬(PgE.mk a s d).s.kind=1 from hk)]
  by_cases he:e=0
  ·subst he
   refine wk ?_
   refine ret X.f56 ?_
   exact⟨by unfold isJ Bm;rw [decide_eq_false (show¬(PgE.mk a s d).s.kind=1 from hk),w2.1 rfl];rfl,kps⟩
  ·refine wk ?_
   refine ret X.f56 ?_
   exact⟨by unfold isJ Bm;rw [decide_eq_false (show¬(PgE.mk a s d).s.kind=1 from hk),Bool.eq_false_iff.2 (fun q=>he (w2.2 q))];rfl,kps⟩
theorem Uc {κ: Nat→Nat}{sz:Nat}{v:AV}{L':List PgE}{fi:Nat}{p:PgE→Bool}(q:PL κ h sz peC v L')(hL:L'.length≤100)
  (hf: ∀(h2:H) (x:PgE×Nat),BS h2 x.2 0 x.1.data→x.1.data.length=sz→Ct P0 E F K fi [.agg (peC sz x)] h2 fun v h'=>v= .bool (p x.1)∧K0 h2 h'):
  Ct P0 E F K 55 [v,.fn (.func fi) [] []] h fun u h'=>PL (ext κ h.n) h' sz peC u (L'.filter p)∧K0 h h':=by
 obtain⟨l,rfl,q1,q2⟩:=q.ex
 have hlen:l.length≤100:=by simpa using hL
 have hf8: ∀x∈l,(peC sz x).length=8:=fun _ _=>rfl
 rcases q2 with⟨rfl,rfl⟩|⟨q3,lb,rfl,q4,q5⟩
 ·refine Af L X.f55 X.k55 rfl rfl fun Q x cs G=>?_
  refine wk ?_
  refine A4 L ?_
  refine wk ?_
  refine ret X.f55 ?_
  exact⟨PL.nil _ _ _ _,kps⟩
 have l1:=q4.lt
 refine Af L X.f55 X.k55 rfl rfl fun Q x cs G=>?_
 refine wk ?_
 refine Bb L (α:= AV) (T:=fun i v=> [(9,some (.int .i64 ((i:Nat):Int))),(8,some (.int .i64 ((l.length:Nat):Int))),(7,some (.slc lb 0 l.length (Ac+8))),(4,some v),(1,some (.fn (.func fi) [] []))]) (n:=l.length)
  (R:=fun i v h2=>PLo (fun b=>κ b=0∧b<h.n) h.n h2 sz peC v (((l.take i).map (·.1)).filter p)∧K0 h h2) (i0:=0) .nils tsb ⟨PLo.nil,kps⟩ (Nat.zero_le _) ?_ ?_
 ·rintro i v h2 hi ⟨w1,w2⟩ ih
  have hx:l[i]?=some l[i]:=List.getElem?_eq_getElem hi
  have hdt:=Bj l hf8 i _ hx
  have hm:=List.getElem_mem hi
  obtain⟨r1,r2,r3⟩:=q1 _ hm
  have e1:((l.take (i+1)).map (·.1)).filter p=((l.take i).map (·.1)).filter p++(if p l[i].1 then [l[i].1]else []):=by
   rw [List.take_add_one,hx,List.map_append,List.filter_append]
   simp only [Option.toList_some,List.map_cons,List.map_nil,List.filter_cons,List.filter_nil]
  rw [e1]at ih
  have hlen2:(((l.take i).map (·.1)).filter p).length≤100:=by
   refine Nat.le_trans (List.length_filter_le _ _) ?_
   rw [List.length_map,List.length_take];omega
  generalize l[i]=y at*
  obtain⟨⟨pa,s,data⟩,db⟩:=y
  have hdt':i*8+8≤(l.flatMap (peC sz)).length∧((l.flatMap (peC sz)).drop (i*8)).take 8= [.int .u8 ((s.kind:Nat):Int),.int .i64 s.sec,.int .u64 ((s.seq:Nat):Int),.int .u64 ((s.prev:Nat):Int),.int .i64 s.idx,.int .i64 s.len,.int .i64 ((pa:Nat):Int),.slc db 0 sz (Ac+1)]:=hdt
  have k2:=(Aj w2 q4).rk
  have n2:=w2.n
  have r1':=r1.k0 w2
  have ldb:=r1.lt_n
  refine wk ?_
  (apply st1 L rfl;exact B6 lkr hdt' rfl;rfl)
  refine wk ?_
  refine cal (c:=hf _ (⟨pa,s,data⟩,db) (by exact lkb) r3) (g:=?_)
  rintro _ h3 ⟨rfl,w3⟩
  have n3:=w3.n
  simp only [Ah]at n3
  by_cases hp:p ⟨pa,s,data⟩=true
  ·rw [hp]at ih ⊢
   rw [if_pos rfl]at ih
   obtain⟨ll,g1,g2,g3⟩:=w1.ex
   have g4:ll.length≤100:=by rw [←g1,List.length_map]at hlen2;exact hlen2
   have hfl: ∀x∈ll,(peC sz x).length=8:=fun _ _=>rfl
   rcases g3 with⟨rfl,rfl⟩|⟨gn,lb2,rfl,g5,g6,g7⟩
   ·refine wk ?_
    (apply st1 L rfl;exact D8 (new:=peC sz (⟨pa,s,data⟩,db)) rfl rfl (SlR.of (c:=peC sz (⟨pa,s,data⟩,db)) lkp (Nat.le_refl _) rfl) (by omega) (by omega);rfl)
    refine wk ?_
    refine ih _ _ _ ⟨PLo.app (l:= []) (x:=⟨pa,s,data⟩) (db:=db) (N:=h3.n+1) g1 (fun y hy=>(by cases hy)) ⟨by exact lkb,⟨r2,ldb⟩,r3⟩ (by exact lkp) (by omega) (fun y hy=>(by cases hy)) (by omega),by exact kps⟩ tsb
   ·have g8:=g5.lt
    refine wk ?_
    (apply st1 L rfl;exact C2 (old:=ll.flatMap (peC sz)) (new:=peC sz (⟨pa,s,data⟩,db)) rfl rfl (SlR.of (c:=ll.flatMap (peC sz)) lkp (by rw [Co ll hfl];omega) (by rw [List.drop_zero,List.take_of_length_le (by rw [Co ll hfl];exact Nat.le_refl _)])) (SlR.of (c:=peC sz (⟨pa,s,data⟩,db)) lkp (Nat.le_refl _) rfl) (by omega) (by omega) rfl;rfl)
    refine wk ?_
    refine ih _ _ _ ⟨PLo.app (l:=ll) (x:=⟨pa,s,data⟩) (db:=db) (N:=h3.n+1) g1 (fun y hy=>?_) ⟨by exact lkb,⟨r2,ldb⟩,r3⟩ (by exact lkp) (by omega) (fun y hy=>?_) (by omega),by exact kps⟩ tsb
    ·obtain⟨e1,⟨e2,e4⟩,e3⟩:=g2 y hy
     have e7:=e1.lt_n
     exact⟨lkb,⟨e2,e4⟩,e3⟩
    ·obtain⟨e1,⟨e2,e4⟩,e3⟩:=g2 y hy
     omega
  ·rw [Bool.eq_false_iff.2 hp]at ih ⊢
   rw [if_neg (by simp),List.append_nil]at ih
   refine wk ?_
   refine ih v _ _ ⟨w1.k0 kps,kps⟩ tsb
 ·rintro v h2 ⟨w1,w2⟩
  refine wk ?_
  refine ret X.f55 ?_
  rw [List.take_length]at w1
  exact⟨w1.pl (fun b hb=>by rw [B1 hb.2];exact hb.1) (fun b hb=>Da hb),w2⟩
end
end
section
variable {P0:Program}{E:Env}{F:T CFn}{K:T (List AV×AV)}(L:Lg P0 E F K)(X:Fx F K)
include L X
section
variable {h:H}
theorem ye {s:Sp}(j:s.Jr):Ct P0 E F K 166 [.agg (spC s)] h fun v h'=>v= .tup [Ir (Ak s),.bool true]∧K0 h h':=by
 obtain⟨⟨v1,v2,v3,v4,v5,v6⟩,⟨o1,o2,o3⟩,hk⟩:=j
 obtain⟨kind,sec,seq,prev,idx,len⟩:=s
 simp only at v1 v2 v3 v4 v5 v6 o1 o2 o3 hk
 obtain⟨i,rfl⟩: ∃i:Nat,idx=((i:Nat):Int):=⟨idx.toNat,by omega⟩
 obtain⟨n,rfl⟩: ∃n:Nat,len=((n:Nat):Int):=⟨len.toNat,by omega⟩
 obtain⟨rfl,w1,w2⟩:sec=0∧prev<seq∧i<seq - prev:=by
  rcases v6 with q|q
  ·omega
  ·simp only [Int.toNat_natCast]at q;exact⟨q.2.1,q.2.2.1,q.2.2.2⟩
 rcases hk with rfl|rfl
 ·show Ct P0 E F K 166 [.agg [.int .u8 ((2:Nat):Int),.int .i64 ((0:Nat):Int),.int .u64 ((seq:Nat):Int),.int .u64 ((prev:Nat):Int),.int .i64 ((i:Nat):Int),.int .i64 ((n:Nat):Int)]] h _
  refine Ao L X.f166 X.k166 rfl rfl fun Q x cs G=>?_
  refine wk ?_
  (apply st1 L rfl;exact B0 rfl rfl rfl (by omega) (by simp only [pw];omega);rfl)
  refine wk ?_
  (apply st1 L rfl;exact B0 rfl rfl rfl (by omega) (by simp only [pw];omega);rfl)
  refine wk ?_
  refine ret X.f166 ?_
  exact⟨rfl,kps⟩
 ·show Ct P0 E F K 166 [.agg [.int .u8 ((3:Nat):Int),.int .i64 ((0:Nat):Int),.int .u64 ((seq:Nat):Int),.int .u64 ((prev:Nat):Int),.int .i64 ((i:Nat):Int),.int .i64 ((n:Nat):Int)]] h _
  refine Ao L X.f166 X.k166 rfl rfl fun Q x cs G=>?_
  refine wk ?_
  (apply st1 L rfl;exact B0 rfl rfl rfl (by omega) (by simp only [pw];omega);rfl)
  refine wk ?_
  (apply st1 L rfl;exact B0 rfl rfl rfl (by omega) (by simp only [pw];omega);rfl)
  refine wk ?_
  refine ret X.f166 ?_
  exact⟨rfl,kps⟩
end
end
section
variable {P0:Program}{E:Env}{F:T CFn}{K:T (List AV×AV)}(L:Lg P0 E F K)(X:Fx F K)
include L X
section
variable {h:H}
omit L X in
def pgV (a e:Nat):AV:= .agg [.map a,.int .i64 ((e:Nat):Int)]
omit L X in
def Top (W:Rec→Bool)(B:Rec→Rec→Bool)(Y:List Rec)(is:Bool)(out:Rec):Prop:=
 (is=false∧ ∀y∈Y,W y=false)∨(is=true∧out∈Y∧W out=true∧ ∀z∈Y,W z=true→z=out∨B out z=true)
omit L X in
theorem Top.mem {W:Rec→Bool}{B:Rec→Rec→Bool}{Y Y':List Rec}{is:Bool}{out:Rec}(q:Top W B Y is out)(e: ∀y,y∈Y↔y∈Y'):Top W B Y' is out:=by
 rcases q with⟨h1,h2⟩|⟨h1,h2,h3,h4⟩
 ·exact .inl ⟨h1,fun y hy=>h2 y ((e y).2 hy)⟩
 ·exact .inr ⟨h1,(e _).1 h2,h3,fun z hz=>h4 z ((e z).2 hz)⟩
omit L X in
theorem Top.skip {W:Rec→Bool}{B:Rec→Rec→Bool}{Y:List Rec}{is:Bool}{out y:Rec}(q:Top W B Y is out)(e:W y=false):Top W B (Y++ [y]) is out:=by
 rcases q with⟨h1,h2⟩|⟨h1,h2,h3,h4⟩
 ·exact .inl ⟨h1,fun z hz=>(List.mem_append.1 hz).elim (h2 z) fun f=>by rw [List.mem_singleton.1 f];exact e⟩
 ·exact .inr ⟨h1,List.mem_append_left _ h2,h3,fun z hz w=>(List.mem_append.1 hz).elim (fun f=>h4 z f w) fun f=>by rw [List.mem_singleton.1 f,e]at w;cases w⟩
omit L X in
theorem Top.first {W:Rec→Bool}{B:Rec→Rec→Bool}{Y:List Rec}{out y:Rec}(q:Top W B Y false out)(e:W y=true):Top W B (Y++ [y]) true y:=by
 rcases q with⟨h1,h2⟩|⟨h1,_⟩
 ·exact .inr ⟨rfl,by simp,e,fun z hz w=>(List.mem_append.1 hz).elim (fun f=>by rw [h2 z f]at w;cases w) fun f=> .inl (List.mem_singleton.1 f)⟩
 ·cases h1
omit L X in
theorem Top.better {W:Rec→Bool}{B:Rec→Rec→Bool}{Y:List Rec}{out y:Rec}(tr: ∀a b c,B a b=true→B b c=true→B a c=true)(q:Top W B Y true out)(e:W y=true)(b:B y out=true):Top W B (Y++ [y]) true y:=by
 rcases q with⟨h1,_⟩|⟨h1,h2,h3,h4⟩
 ·cases h1
 ·exact .inr ⟨rfl,by simp,e,fun z hz w=>(List.mem_append.1 hz).elim (fun f=>(h4 z f w).elim (fun g=> .inr (by rw [g];exact b)) fun g=> .inr (tr _ _ _ b g)) fun f=> .inl (List.mem_singleton.1 f)⟩
omit L X in
theorem Top.keep {W:Rec→Bool}{B:Rec→Rec→Bool}{Y:List Rec}{out y:Rec}(q:Top W B Y true out)(tot:y≠out→B y out=true∨B out y=true)(b:B y out=false):Top W B (Y++ [y]) true out:=by
 rcases q with⟨h1,_⟩|⟨h1,h2,h3,h4⟩
 ·cases h1
 ·refine .inr ⟨rfl,List.mem_append_left _ h2,h3,fun z hz w=>(List.mem_append.1 hz).elim (fun f=>h4 z f w) fun f=>?_⟩
  rw [List.mem_singleton.1 f]
  by_cases e:y=out
  ·exact .inl e
  ·rcases tot e with g|g
   ·rw [b]at g;cases g
   ·exact .inr g
theorem Gv {r ck fw fb:Nat}{capw capb:List AV}{M:List (Rec×AV×Nat)}{W:Rec→Bool}{B:Rec→Rec→Bool}(q:MOk M ck)(k:Mk h r (M.map (mE Ir)) ck)
  (hv: ∀y∈M,∃a e,y.2.1=pgV a e)
  (hW: ∀y∈M,∀h2,K0 h h2→Ct P0 E F K fw (Ir y.1::y.2.1::capw) h2 fun v h'=>v= .bool (W y.1)∧K0 h2 h')
  (hB: ∀y∈M,∀z∈M,∀h2,K0 h h2→Ct P0 E F K fb (Ir y.1::Ir z.1::capb) h2 fun v h'=>v= .bool (B y.1 z.1)∧K0 h2 h')
  (tr: ∀a b c,B a b=true→B b c=true→B a c=true) (tot: ∀y∈M,∀z∈M,y.1≠z.1→B y.1 z.1=true∨B z.1 y.1=true):
  Ct P0 E F K 170 [.map r,.fn (.func fw) [] capw,.fn (.func fb) [] capb] h fun v h'=> ∃out is,v= .tup [Ir out,.bool is]∧Top W B (M.map (·.1)) is out∧K0 h h':=by
 have l1:=k.lt
 refine A6 L X.f170 X.k170 rfl rfl fun Q x cs G=>?_
 refine wk ?_
 (apply st1 L rfl;exact Y7 rfl lkq;rfl)
 refine wk ?_
 refine sj L (α:= List (Rec×AV×Nat)×Bool×Rec) (T:=fun s=> [(11,some (.ptr (h.n+1) 0)),(7,some (.bool s.2.1)),(6,some (.ptr h.n 0)),(1,some (.fn (.func fw) [] capw)),(2,some (.fn (.func fb) [] capb))]) (mu:=fun s=>muM M s.1)
  (R:=fun s hh=>Gk hh (h.n+1) (.miter (some r) ck (s.1.map (·.2.2)) ck)∧(∀y∈s.1,y∈M)∧(s.1.map (·.2.2)).Nodup∧Bk hh h.n [.int .u8 ((s.2.2.1:Nat):Int),.int .u64 ((s.2.2.2.1:Nat):Int),.int .u64 ((s.2.2.2.2.1:Nat):Int),.int .i64 ((s.2.2.2.2.2:Nat):Int)]∧Top W B (s.1.map (·.1)) s.2.1 s.2.2∧K0 h hh) ([],false,(0,0,0,0)) tsb
  ⟨lkg,(fun y hy=>by cases hy),List.nodup_nil,lkp,.inl ⟨rfl,fun y hy=>by cases hy⟩,kps⟩ ?_
 rintro⟨Y,is,out⟩ hh ⟨i1,i2,i3,i4,i5,i6⟩ ih
 simp only at i1 i2 i3 i4 i5
 have l4:=i1.lt
 refine wk ?_
 refine Y9 L rfl rfl (M:=M) (enc:=Ir) (ck:=ck) (it:=h.n+1) (m:=r) (seen:=Y.map (·.2.2)) lkg lkq q.lt ?_ ?_
 ·intro hall
  refine wk ?_
  refine ret X.f170 ?_
  refine⟨out,is,rfl,?_,kps⟩
  exact i5.mem fun z=>((So q i2 i3 hall).map (·.1)).mem_iff
 ·intro y hy hn
  have hmu:=Xs hy hn
  obtain⟨pa,pe,hpg⟩:=hv y hy
  have hWy:=hW y hy
  rw [hpg]at hWy
  have fin: ∀(is':Bool) (out':Rec) (h9:H) (l9:List (Nat×Option AV)),Top W B (Y.map (·.1)++ [y.1]) is' out'→Gk h9 (h.n+1) (.miter (some r) ck (Y.map (·.2.2)++ [y.2.2]) ck)→Bk h9 h.n [.int .u8 ((out'.1:Nat):Int),.int .u64 ((out'.2.1:Nat):Int),.int .u64 ((out'.2.2.1:Nat):Int),.int .i64 ((out'.2.2.2:Nat):Int)]→K0 h h9→
    TSub (tms [(11,some (.ptr (h.n+1) 0)),(7,some (.bool is')),(6,some (.ptr h.n 0)),(1,some (.fn (.func fw) [] capw)),(2,some (.fn (.func fb) [] capb))]) (tms l9)→Good P0 E Q ⟨⟨170,cf170.ntmps,tms l9,[.inLoop c170_12,.inBlock 0,.code c170_17],[],.run,false,none⟩,x::cs,h9⟩:=by
   intro is' out' h9 l9 t1 t2 t3 t4 t5
   refine ih (Y++ [y],is',out') h9 l9 hmu ⟨?_,?_,mj i3 hn,t3,?_,t4⟩ t5
   ·rw [List.map_append];exact t2
   ·intro z hz
    rcases List.mem_append.1 hz with hz|hz
    ·exact i2 z hz
    ·rw [List.mem_singleton.1 hz];exact hy
   ·rw [List.map_append];exact t1
  clear ih
  refine wk ?_
  (apply st1 L rfl;exact Za q rfl lkg lkq hy;rfl)
  rw [hpg]
  refine wk ?_
  refine Qg L rfl rfl rfl rfl rfl (hWy _ kps).A ?_
  rintro _ h3 ⟨rfl,w1⟩
  have n3:=w1.n
  simp only [Ah]at n3
  cases hw:W y.1 with
  |false=>
   refine wk ?_
   exact fin is out _ _ (i5.skip hw) lkg lkp kps tsb
  |true=>
   cases is with
   |false=>
    refine wk ?_
    exact fin true y.1 _ _ (i5.first hw) lkg lkp kps tsb
   |true=>
    have hin:out∈Y.map (·.1):=by
     rcases i5 with⟨e,_⟩|⟨_,e,_⟩
     ·cases e
     ·exact e
    obtain⟨z,hz,rfl⟩:=List.mem_map.1 hin
    refine wk ?_
    refine Qg L rfl rfl rfl rfl rfl (hB y hy z (i2 z hz) _ kps).A ?_
    rintro _ h4 ⟨rfl,w2⟩
    have n4:=w2.n
    simp only [Ah]at n4
    cases hb:B y.1 z.1 with
    |false=>
     refine wk ?_
     exact fin true z.1 _ _ (i5.keep (fun e=>tot y hy z (i2 z hz) e) hb) lkg lkp kps tsb
    |true=>
     refine wk ?_
     exact fin true y.1 _ _ (i5.better tr hw hb) lkg lkp kps tsb
end
end
section
variable {P0:Program}{E:Env}{F:T CFn}{K:T (List AV×AV)}(L:Lg P0 E F K)(X:Fx F K)
include L X
section
variable {h:H}
omit L X in
def Xz (E0:Rec→Nat)(a b:Rec):Bool:=decide (b.2.1<a.2.1) || (decide (a.2.1=b.2.1) && decide (E0 a<E0 b))
omit L X in
theorem Ud {E0:Rec→Nat}(a b c:Rec)(h1:Xz E0 a b=true)(h2:Xz E0 b c=true):Xz E0 a c=true:=by
 unfold Xz at*
 simp only [Bool.or_eq_true,Bool.and_eq_true,decide_eq_true_eq]at*
 omega
omit L X in
theorem nk {E0:Rec→Nat}(a b:Rec)(h:E0 a≠E0 b):Xz E0 a b=true∨Xz E0 b a=true:=by
 unfold Xz
 simp only [Bool.or_eq_true,Bool.and_eq_true,decide_eq_true_eq]
 omega
theorem yf {k:Rec}{a e ci:Nat}{Mi:List (Int×AV×Nat)}(ka:Mk h a (Mi.map (mE AI)) ci):Ct P0 E F K 168 [Ir k,pgV a e] h fun v h'=>v= .bool (decide (k.1=3) && decide (Mi.length=k.2.2.2))∧K0 h h':=by
 have l1:=ka.lt
 obtain⟨k0,k1,k2,k3⟩:=k
 by_cases h0:k0=3
 ·by_cases h1:Mi.length=k3
  ·rw [show(decide ((k0,k1,k2,k3).1=3) && decide (Mi.length=(k0,k1,k2,k3).2.2.2))=true by simp [h0,h1]]
   refine Af L X.f168 X.k168 rfl rfl fun Q x cs G=>?_
   refine wk ?_
   (apply st1 L rfl;exact Qr rfl lkq;rfl)
   refine wk ?_
   refine ret X.f168 ?_
   exact⟨rfl,kps⟩
  ·rw [show(decide ((k0,k1,k2,k3).1=3) && decide (Mi.length=(k0,k1,k2,k3).2.2.2))=false by simp [h0,h1]]
   refine Af L X.f168 X.k168 rfl rfl fun Q x cs G=>?_
   refine wk ?_
   (apply st1 L rfl;exact Qr rfl lkq;rfl)
   refine wk ?_
   refine ret X.f168 ?_
   exact⟨rfl,kps⟩
 ·rw [show(decide ((k0,k1,k2,k3).1=3) && decide (Mi.length=(k0,k1,k2,k3).2.2.2))=false by simp [h0]]
  refine Af L X.f168 X.k168 rfl rfl fun Q x cs G=>?_
  refine wk ?_
  refine ret X.f168 ?_
  exact⟨rfl,kps⟩
theorem yg {k:Rec}{a e ci c lst:Nat}{Mi:List (Int×AV×Nat)}{u w:AV}(ka:Mk h a (Mi.map (mE AI)) ci)(kc:Bk h c [u,.int .u64 ((lst:Nat):Int),w]):Ct P0 E F K 169 [Ir k,pgV a e,.ptr c 0] h fun v h'=>v= .bool (decide (k.1=2) && decide (Mi.length=k.2.2.2) && decide (k.2.2.1=lst))∧K0 h h':=by
 have l1:=ka.lt
 have l2:=kc.lt
 obtain⟨k0,k1,k2,k3⟩:=k
 by_cases h0:k0=2
 ·by_cases h1:Mi.length=k3
  ·by_cases h2:k2=lst
   ·rw [show(decide ((k0,k1,k2,k3).1=2) && decide (Mi.length=(k0,k1,k2,k3).2.2.2) && decide ((k0,k1,k2,k3).2.2.1=lst))=true by simp [h0,h1,h2]]
    refine A6 L X.f169 X.k169 rfl rfl fun Q x cs G=>?_
    refine wk ?_
    (apply st1 L rfl;exact Qr rfl lkq;rfl)
    refine wk ?_
    refine ret X.f169 ?_
    exact⟨rfl,kps⟩
   ·rw [show(decide ((k0,k1,k2,k3).1=2) && decide (Mi.length=(k0,k1,k2,k3).2.2.2) && decide ((k0,k1,k2,k3).2.2.1=lst))=false by simp [h0,h1,h2]]
    refine A6 L X.f169 X.k169 rfl rfl fun Q x cs G=>?_
    refine wk ?_
    (apply st1 L rfl;exact Qr rfl lkq;rfl)
    refine wk ?_
    refine ret X.f169 ?_
    exact⟨rfl,kps⟩
  ·rw [show(decide ((k0,k1,k2,k3).1=2) && decide (Mi.length=(k0,k1,k2,k3).2.2.2) && decide ((k0,k1,k2,k3).2.2.1=lst))=false by simp [h0,h1]]
   refine A6 L X.f169 X.k169 rfl rfl fun Q x cs G=>?_
   refine wk ?_
   (apply st1 L rfl;exact Qr rfl lkq;rfl)
   refine wk ?_
   refine ret X.f169 ?_
   exact⟨rfl,kps⟩
 ·rw [show(decide ((k0,k1,k2,k3).1=2) && decide (Mi.length=(k0,k1,k2,k3).2.2.2) && decide ((k0,k1,k2,k3).2.2.1=lst))=false by simp [h0]]
  refine A6 L X.f169 X.k169 rfl rfl fun Q x cs G=>?_
  refine wk ?_
  refine ret X.f169 ?_
  exact⟨rfl,kps⟩
end
end
end Go.Ev
