/- Part of the proof. -/
import Derived.Test.YtclfgfpebplncaaGreatT13
set_option linter.unusedVariables false
set_option linter.unusedSimpArgs false
set_option linter.unusedSectionVars false
set_option maxRecDepth 10000
set_option maxHeartbeats 4000000
namespace Go.Ev
theorem Aa3 {n b ck:Nat}{t:T Blk}{lh:List (Nat×Option Blk)}{es:List AEnt}(h:b<n):Mk (hp n t ((b,some (.map es ck))::lh)) b es ck:=⟨Ha _ _ _ _ _,h⟩
theorem lkq {p:Prop}(h:p:=by
 (repeat(first|assumption|exact jh|(apply Aaa;first|assumption|(apply Ve;assumption)|(apply Lo;assumption;(first|omega|(dsimp only;omega))))|apply Aab|(refine Aa3 ?_;omega)|(apply Aac;first|omega|assumption)))):p:=h
structure KE {α: Type}[DecidableEq α](sh:Sh)(enc:α→AV):Prop where
 eq: ∀a b,eqv 20 sh (enc a) (enc b)=some (decide (a=b))
 ok: ∀a,Kh sh (enc a)=true
 keq: ∀a,Fu (enc a) (enc a)=true
theorem KE.int (k:IntKind):KE .pint (fun a:Int=>AV.int k a):=
 ⟨fun a b=>by show(match kEq k k with|true=>some (iEq a b)|false=>none)=_;rw [A7,E2],fun _=>rfl,fun a=>by show(match kEq k k with|true=>iEq a a|false=>false)=true;rw [A7];exact Qn a⟩
section
variable {α: Type}[DecidableEq α]{sh:Sh}{enc:α→AV}
def mE (enc:α→AV)(x:α×AV×Nat):AEnt:=⟨enc x.1,x.2.1,x.2.2⟩
def Be (M:List (α×AV×Nat))(k:α):Option AV:=(M.find? fun x=>decide (k=x.1)).map (·.2.1)
def Gt (M:List (α×AV×Nat))(k:α)(v:AV):List (α×AV×Nat):=M.map fun x=>if k=x.1 then(k,v,x.2.2)else x
def Iq (M:List (α×AV×Nat))(k:α):Bool:=M.any fun x=>decide (k=x.1)
def Ew (M:List (α×AV×Nat))(ck:Nat)(k:α)(v:AV):List (α×AV×Nat):=if Iq M k then Gt M k v else M++ [(k,v,ck)]
def mCk (M:List (α×AV×Nat))(ck:Nat)(k:α):Nat:=if Iq M k then ck else ck+1
def M6 (M:List (α×AV×Nat))(k:α):List (α×AV×Nat):=M.filter fun x=>decide (k≠x.1)
structure MOk (M:List (α×AV×Nat))(ck:Nat):Prop where
 keys:(M.map (·.1)).Nodup
 borns:(M.map (·.2.2)).Nodup
 lt: ∀x∈M,x.2.2<ck
theorem MOk.nil:MOk ([]:List (α×AV×Nat)) 0:=⟨List.nodup_nil,List.nodup_nil,fun x hx=>by cases hx⟩
theorem Y5 (e:KE sh enc)(k:α): ∀M:List (α×AV×Nat),Gf (eqv 20 sh) (enc k) (M.map (mE enc))=some ((M.find? fun x=>decide (k=x.1)).map (mE enc))
 | []=>rfl
 |x::r=>by
  simp only [List.map_cons,Gf,List.find?_cons]
  show(match eqv 20 sh (enc k) (enc x.1)with|some true=>_|some false=>_|none=>_)=_
  rw [e.eq]
  by_cases h:k=x.1
  ·rw [decide_eq_true h];rfl
  ·rw [decide_eq_false h];exact Y5 e k r
theorem Ly (e:KE sh enc)(k:α)(M:List (α×AV×Nat)):It sh (enc k) (M.map (mE enc))=some ((M.find? fun x=>decide (k=x.1)).map (mE enc)):=by
 unfold It;rw [e.ok];exact Y5 e k M
theorem D3 (M:List (α×AV×Nat))(k:α):Iq M k=(M.find? fun x=>decide (k=x.1)).isSome:=by
 unfold Iq
 induction M with
 |nil=>rfl
 |cons x r ih=>
  rw [List.any_cons,List.find?_cons]
  by_cases h:k=x.1
  ·rw [decide_eq_true h];rfl
  ·rw [decide_eq_false h,ih];rfl
theorem mHas_mem {M:List (α×AV×Nat)}{k:α}:Iq M k=true↔k∈M.map (·.1):=by
 unfold Iq
 simp only [List.any_eq_true,decide_eq_true_eq,List.mem_map]
 constructor
 ·rintro⟨x,h1,h2⟩;exact⟨x,h1,h2.symm⟩
 ·rintro⟨x,h1,h2⟩;exact⟨x,h1,h2.symm⟩
theorem Xp (e:KE sh enc)(k:α)(v:AV): ∀M:List (α×AV×Nat),(M.map (·.1)).Nodup→Iq M k=true→S8 (eqv 20 sh) (enc k) v (M.map (mE enc))=some ((Gt M k v).map (mE enc))
 | [],_,h=>by cases h
 |x::r,hn,h=>by
  rw [List.map_cons,List.nodup_cons]at hn
  simp only [List.map_cons,S8]
  show(match eqv 20 sh (enc k) (enc x.1)with|some true=>_|some false=>_|none=>_)=_
  rw [e.eq]
  by_cases hk:k=x.1
  ·rw [decide_eq_true hk]
   have h1:Gt r k v=r:=by
    unfold Gt
    conv=>rhs;rw [←List.map_id r]
    refine List.map_congr_left fun y hy=>?_
    have:k≠y.1:=fun q=>hn.1 (by rw [←hk,q];exact List.mem_map_of_mem hy)
    rw [if_neg this];rfl
   show(match Fu (enc k) (enc x.1)with|true=>_|false=>_)=_
   rw [←hk,e.keq]
   simp only [Gt,List.map_cons,if_pos hk]
   have h2:List.map (fun x=>if k=x.1 then(k,v,x.2.2)else x) r=r:=h1
   rw [h2];rfl
  ·rw [decide_eq_false hk]
   have h2:Iq r k=true:=by
    unfold Iq at h ⊢
    rw [List.any_cons,decide_eq_false hk]at h
    exact h
   simp only [Xp e k v r hn.2 h2]
   simp only [Gt,List.map_cons,if_neg hk]
theorem lz (e:KE sh enc)(k:α): ∀M:List (α×AV×Nat),(M.map (·.1)).Nodup→Wd (eqv 20 sh) (enc k) (M.map (mE enc))=some ((M6 M k).map (mE enc))
 | [],_=>rfl
 |x::r,hn=>by
  rw [List.map_cons,List.nodup_cons]at hn
  simp only [List.map_cons,Wd]
  show(match eqv 20 sh (enc k) (enc x.1)with|some true=>_|some false=>_|none=>_)=_
  rw [e.eq]
  by_cases hk:k=x.1
  ·rw [decide_eq_true hk]
   have h1:M6 r k=r:=by
    unfold M6
    rw [List.filter_eq_self]
    intro y hy
    have:k≠y.1:=fun q=>hn.1 (by rw [←hk,q];exact List.mem_map_of_mem hy)
    exact decide_eq_true this
   simp only [M6,List.filter_cons,hk,ne_eq,not_true_eq_false,decide_false,Bool.false_eq_true,if_false]
   rw [hk]at h1
   unfold M6 at h1
   rw [h1]
  ·rw [decide_eq_false hk]
   simp only [lz e k r hn.2]
   simp only [M6,List.filter_cons,decide_eq_true hk,ne_eq,if_true,List.map_cons]
theorem MOk.put {M:List (α×AV×Nat)}{ck:Nat}(q:MOk M ck)(k:α)(v:AV):MOk (Gt M k v) ck:=by
 have h1:(Gt M k v).map (·.1)=M.map (·.1):=by
  unfold Gt;rw [List.map_map]
  refine List.map_congr_left fun x _=>?_
  show(if k=x.1 then(k,v,x.2.2)else x).1=x.1
  by_cases h:k=x.1
  ·rw [if_pos h];exact h
  ·rw [if_neg h]
 have h2:(Gt M k v).map (·.2.2)=M.map (·.2.2):=by
  unfold Gt;rw [List.map_map]
  refine List.map_congr_left fun x _=>?_
  show(if k=x.1 then(k,v,x.2.2)else x).2.2=x.2.2
  by_cases h:k=x.1
  ·rw [if_pos h]
  ·rw [if_neg h]
 refine⟨by rw [h1];exact q.keys,by rw [h2];exact q.borns,fun x hx=>?_⟩
 have h3:x.2.2∈(Gt M k v).map (·.2.2):=List.mem_map_of_mem hx
 rw [h2]at h3
 obtain⟨y,h4,h5⟩:=List.mem_map.1 h3
 rw [←h5];exact q.lt y h4
theorem MOk.set {M:List (α×AV×Nat)}{ck:Nat}(q:MOk M ck)(k:α)(v:AV):MOk (Ew M ck k v) (mCk M ck k):=by
 unfold Ew mCk
 by_cases h:Iq M k=true
 ·rw [if_pos h,if_pos h];exact q.put k v
 ·rw [if_neg h,if_neg h]
  refine⟨?_,?_,fun x hx=>?_⟩
  ·rw [List.map_append,List.nodup_append]
   refine⟨q.keys,by simp,fun a ha b hb e=>h (mHas_mem.2 ?_)⟩
   simp only [List.map_cons,List.map_nil,List.mem_singleton]at hb
   rw [←hb,←e];exact ha
  ·rw [List.map_append,List.nodup_append]
   refine⟨q.borns,by simp,fun a ha b hb e=>?_⟩
   simp only [List.map_cons,List.map_nil,List.mem_singleton]at hb
   obtain⟨y,h1,h2⟩:=List.mem_map.1 ha
   have:=q.lt y h1
   omega
  ·rcases List.mem_append.1 hx with hx|hx
   ·have:=q.lt x hx;omega
   ·rw [List.mem_singleton]at hx;subst hx;exact Nat.lt_succ_self ck
theorem MOk.del {M:List (α×AV×Nat)}{ck:Nat}(q:MOk M ck)(k:α):MOk (M6 M k) ck:=
 ⟨q.keys.sublist (List.filter_sublist.map _),q.borns.sublist (List.filter_sublist.map _),fun x hx=>q.lt x (List.mem_filter.1 hx).1⟩
theorem ma (M:List (α×AV×Nat))(k k':α)(v:AV):Be (Gt M k v) k'=if k'=k then(if Iq M k then some v else none)else Be M k':=by
 induction M with
 |nil=>simp [Be,Gt,Iq]
 |cons x r ih=>
  unfold Be Gt Iq at ih ⊢
  simp only [List.map_cons,List.find?_cons,List.any_cons]
  by_cases h:k=x.1
  ·rw [if_pos h]
   by_cases h2:k'=k
   ·subst h2;simp [h]
   ·have h3:k'≠x.1:=fun q=>h2 (q.trans h.symm)
    simp only [decide_eq_false h2,decide_eq_false h3,if_neg h2]at ih ⊢
    exact ih
  ·rw [if_neg h]
   by_cases h2:k'=x.1
   ·have h3:k'≠k:=fun q=>h (q.symm.trans h2)
    rw [if_neg h3];simp only [decide_eq_true h2]
   ·simp only [decide_eq_false h2,decide_eq_false h,Bool.false_or]at ih ⊢
    exact ih
theorem mc (M:List (α×AV×Nat))(k k':α)(v:AV)(ck:Nat):Be (M++ [(k,v,ck)]) k'=match Be M k' with
 |some u=>some u
 |none=>if k'=k then some v else none:=by
 unfold Be
 rw [List.find?_append]
 cases M.find? fun x=>decide (k'=x.1)with
 |some x=>rfl
 |none=>
  simp only [Option.none_or,List.find?_cons,List.find?_nil,Option.map_none]
  by_cases h:k'=k
  ·simp [h]
  ·simp [h]
theorem mGet_none {M:List (α×AV×Nat)}{k:α}:Be M k=none↔Iq M k=false:=by
 unfold Be;rw [D3];cases M.find? fun x=>decide (k=x.1) <;> simp
theorem Du (M:List (α×AV×Nat))(ck:Nat)(k k':α)(v:AV):Be (Ew M ck k v) k'=if k'=k then some v else Be M k':=by
 unfold Ew
 by_cases h:Iq M k=true
 ·rw [if_pos h,ma]
  simp [h]
 ·rw [if_neg h,mc]
  have h1:Be M k=none:=mGet_none.2 (by simpa using h)
  by_cases h2:k'=k
  ·subst h2;rw [h1]
  ·rw [if_neg h2];cases Be M k' <;> simp [h2]
theorem Qp (M:List (α×AV×Nat))(k k':α):Be (M6 M k) k'=if k'=k then none else Be M k':=by
 induction M with
 |nil=>simp [Be,M6]
 |cons x r ih=>
  unfold Be M6 at ih ⊢
  rw [List.filter_cons]
  by_cases h:k=x.1
  ·simp only [h,ne_eq,not_true_eq_false,decide_false,Bool.false_eq_true,if_false,List.find?_cons]
   rw [h]at ih
   simp only [ne_eq]at ih
   rw [ih]
   by_cases h2:k'=x.1
   ·rw [if_pos h2,if_pos h2]
   ·rw [if_neg h2,if_neg h2,decide_eq_false h2]
  ·simp only [ne_eq,h,not_false_eq_true,decide_true,if_true,List.find?_cons]
   by_cases h2:k'=x.1
   ·rw [decide_eq_true h2]
    have h3:k'≠k:=fun q=>h (q.symm.trans h2)
    rw [if_neg h3]
   ·rw [decide_eq_false h2]
    simp only [ne_eq]at ih
    exact ih
variable {l:List (Nat×Option AV)}{h:H}{x y z:O}{r ck n:Nat}{t:T Blk}{lh:List (Nat×Option Blk)}{zero:AV}{M:List (α×AV×Nat)}{k:α}
def Abt (zero:AV):Option AV→AV
 |some v=> .tup [v,.bool true]
 |none=> .tup [zero,.bool false]
theorem Ee (e:KE sh enc)(hx:evO l x=some (.map r))(hy:evO l y=some (enc k))(hb:Mk h r (M.map (mE enc)) ck):XV (.lookup sh zero x y true) h l (Abt zero (Be M k)) h:=by
 refine⟨?_⟩
 simp only [exec,Ag,Ad hx,Ad hy,hb.e,Ly e]
 unfold Be
 cases M.find? fun x=>decide (k=x.1)with
 |none=>rfl
 |some x=>rfl
theorem Gu (e:KE sh enc)(hx:evO l x=some (.map r))(hy:evO l y=some (enc k))(hb:Mk h r (M.map (mE enc)) ck):XV (.lookup sh zero x y false) h l ((Be M k).getD zero) h:=by
 refine⟨?_⟩
 simp only [exec,Ag,Ad hx,Ad hy,hb.e,Ly e]
 unfold Be
 cases M.find? fun x=>decide (k=x.1)with
 |none=>rfl
 |some x=>rfl
theorem Qq {v:AV}(e:KE sh enc)(q:MOk M ck)(hx:evO l x=some (.map r))(hy:evO l y=some (enc k))(hz:evO l z=some v)(hb:Mk (hp n t lh) r (M.map (mE enc)) ck):
  XV (.mupd sh x y z) (hp n t lh) l .unk (hp n t ((r,some (.map ((Ew M ck k v).map (mE enc)) (mCk M ck k)))::lh)):=by
 refine⟨?_⟩
 simp only [exec,Ag,Ad hx,Ad hy,Ad hz,hb.e,Ly e]
 unfold Ew mCk
 by_cases h:Iq M k=true
 ·rw [if_pos h,if_pos h]
  have h1:=h
  rw [D3]at h1
  obtain⟨u,hu⟩:=Option.isSome_iff_exists.1 h1
  simp only [hu,Option.map_some,Xp e k v M q.keys h]
  rfl
 ·rw [if_neg h,if_neg h]
  have h1:(M.find? fun x=>decide (k=x.1))=none:=by
   rw [D3]at h;exact Option.not_isSome_iff_eq_none.1 h
  simp only [h1,Option.map_none]
  rw [List.map_append]
  rfl
theorem M7 (e:KE sh enc)(q:MOk M ck)(hx:evO l x=some (.map r))(hy:evO l y=some (enc k))(hb:Mk (hp n t lh) r (M.map (mE enc)) ck):
  XV (.delete sh x y) (hp n t lh) l (.tup []) (hp n t ((r,some (.map ((M6 M k).map (mE enc)) ck))::lh)):=by
 refine⟨?_⟩
 simp only [exec,Ag,Ad hx,Ad hy,hb.e,e.ok,lz e k M q.keys]
 rfl
theorem Qr (hx:evO l x=some (.map r))(hb:Mk h r (M.map (mE enc)) ck):XV (.lenM x) h l (.int .i64 ((M.length:Nat):Int)) h:=by
 refine⟨?_⟩
 simp only [exec,Ag,Ad hx,hb.e,List.length_map]
 rfl
end
section
variable {α: Type}[DecidableEq α]{sh:Sh}{enc:α→AV}
variable {l:List (Nat×Option AV)}{h:H}{x y z:O}{r ck n:Nat}{t:T Blk}{lh:List (Nat×Option Blk)}{zero v:AV}{M:List (α×AV×Nat)}{k:α}
def mSlot (M:List (α×AV×Nat))(ck:Nat)(k:α):Nat:=match M.find? fun x=>decide (k=x.1)with
 |some x=>x.2.2
 |none=>ck
theorem md {M:List (α×AV×Nat)}{k:α}{x:α×AV×Nat}(h:(M.find? fun x=>decide (k=x.1))=some x):x∈M∧k=x.1:=
 ⟨List.mem_of_find?_eq_some h,by have:=List.find?_some h;simpa using this⟩
theorem M8 (e:KE sh enc)(q:MOk M ck)(hx:evO l x=some (.map r))(hy:evO l y=some (enc k))(hb:Mk (hp n t lh) r (M.map (mE enc)) ck):
  XV (.ment sh zero x y) (hp n t lh) l (.tup [(Be M k).getD zero,.int .i64 ((mSlot M ck k:Nat):Int)]) (hp n t ((r,some (.map ((Ew M ck k ((Be M k).getD zero)).map (mE enc)) (mCk M ck k)))::lh)):=by
 refine⟨?_⟩
 simp only [exec,Ag,Ad hx,Ad hy,hb.e,Ly e]
 unfold Ew mCk Be mSlot
 by_cases h:Iq M k=true
 ·rw [if_pos h,if_pos h]
  have h1:=h
  rw [D3]at h1
  obtain⟨u,hu⟩:=Option.isSome_iff_exists.1 h1
  simp only [hu,Option.map_some,Option.getD_some]
  have:(mE enc u).val=u.2.1:=rfl
  simp only [this,Xp e k u.2.1 M q.keys h]
  rfl
 ·rw [if_neg h,if_neg h]
  have h1:(M.find? fun x=>decide (k=x.1))=none:=by
   rw [D3]at h;exact Option.not_isSome_iff_eq_none.1 h
  simp only [h1,Option.map_none,Option.getD_none]
  rw [List.map_append]
  rfl
theorem Y6 (b:Nat)(v:AV): ∀(M:List (α×AV×Nat)) (k:α),(M.map (·.2.2)).Nodup→(∀x∈M,k=x.1↔x.2.2=b)→(∃x∈M,x.2.2=b)→H3 b v (M.map (mE enc))=some ((Gt M k v).map (mE enc))
 | [],k,_,_,⟨x,hx,_⟩=>by cases hx
 |y::r,k,hn,hk,hex=>by
  rw [List.map_cons,List.nodup_cons]at hn
  simp only [List.map_cons,H3]
  show(match Nat.beq y.2.2 b with|true=>_|false=>_)=_
  have hky:=hk y (List.mem_cons_self ..)
  by_cases h:y.2.2=b
  ·rw [show Nat.beq y.2.2 b=true by rw [Nat.beq_eq];exact h]
   have h1:Gt r k v=r:=by
    unfold Gt
    conv=>rhs;rw [←List.map_id r]
    refine List.map_congr_left fun z hz=>?_
    have:k≠z.1:=fun q=>by
     have h2:=(hk z (List.mem_cons_of_mem _ hz)).1 q
     exact hn.1 (by rw [h,←h2];exact List.mem_map_of_mem hz)
    rw [if_neg this];rfl
   have h3:=hky.2 h
   simp only [Gt,List.map_cons,if_pos h3]
   have h2:List.map (fun x=>if k=x.1 then(k,v,x.2.2)else x) r=r:=h1
   rw [h2]
   simp only [mE,h3]
  ·rw [show Nat.beq y.2.2 b=false from Ih h]
   have h4: ∃x∈r,x.2.2=b:=by
    obtain⟨x,h5,h6⟩:=hex
    rcases List.mem_cons.1 h5 with rfl|h5
    ·exact absurd h6 h
    ·exact⟨x,h5,h6⟩
   have h3: ¬k=y.1:=fun q=>h (hky.1 q)
   simp only [Y6 b v r k hn.2 (fun x hx=>hk x (List.mem_cons_of_mem _ hx)) h4]
   simp only [Gt,List.map_cons,if_neg h3]
theorem co {u:AV}(q:MOk M ck):(∀x∈Ew M ck k u,k=x.1↔x.2.2=mSlot M ck k)∧ ∃x∈Ew M ck k u,x.2.2=mSlot M ck k:=by
 have q2:=q.set k u
 have hex: ∃x∈Ew M ck k u,k=x.1∧x.2.2=mSlot M ck k:=by
  unfold Ew mSlot
  by_cases h:Iq M k=true
  ·rw [if_pos h]
   have h1:=h
   rw [D3]at h1
   obtain⟨w,hw⟩:=Option.isSome_iff_exists.1 h1
   obtain⟨h2,h3⟩:=md hw
   rw [hw]
   exact⟨(k,u,w.2.2),List.mem_map.2 ⟨w,h2,if_pos h3⟩,rfl,rfl⟩
  ·rw [if_neg h]
   have h1:(M.find? fun x=>decide (k=x.1))=none:=by
    rw [D3]at h;exact Option.not_isSome_iff_eq_none.1 h
   rw [h1]
   exact⟨(k,u,ck),List.mem_append_right _ (List.mem_singleton.2 rfl),rfl,rfl⟩
 obtain⟨x,h1,h2,h3⟩:=hex
 refine⟨fun y hy=>?_,x,h1,h3⟩
 have inj1: ∀{β: Type} (f:α×AV×Nat→β) (L:List (α×AV×Nat)),(L.map f).Nodup→ ∀a∈L,∀b∈L,f a=f b→a=b:=by
  intro β f L
  induction L with
  |nil=>intro _ a ha;cases ha
  |cons c L ih=>
   intro hn a ha b hb e
   rw [List.map_cons,List.nodup_cons]at hn
   rcases List.mem_cons.1 ha with ea|ha
   ·rcases List.mem_cons.1 hb with eb|hb
    ·rw [ea,eb]
    ·exact absurd (by rw [←ea,e];exact List.mem_map_of_mem hb) hn.1
   ·rcases List.mem_cons.1 hb with eb|hb
    ·exact absurd (by rw [←eb,←e];exact List.mem_map_of_mem ha) hn.1
    ·exact ih hn.2 a ha b hb e
 constructor
 ·intro e
  rw [inj1 (·.1) _ q2.keys y hy x h1 (by show y.1=x.1;rw [←e,←h2])];exact h3
 ·intro e
  rw [inj1 (·.2.2) _ q2.borns y hy x h1 (by show y.2.2=x.2.2;rw [e,h3])];exact h2
theorem me (u v:AV):Gt (Ew M ck k u) k v=Ew M ck k v:=by
 unfold Ew
 by_cases h:Iq M k=true
 ·rw [if_pos h,if_pos h]
  unfold Gt
  rw [List.map_map]
  refine List.map_congr_left fun x _=>?_
  show(if k=(if k=x.1 then(k,u,x.2.2)else x).1 then _ else _)=_
  by_cases hk:k=x.1
  ·simp [if_pos hk]
  ·simp [if_neg hk]
 ·rw [if_neg h,if_neg h]
  unfold Gt
  rw [List.map_append]
  congr 1
  ·conv=>rhs;rw [←List.map_id M]
   refine List.map_congr_left fun x hx=>?_
   have: ¬k=x.1:=fun q=>h (mHas_mem.2 (by rw [q];exact List.mem_map_of_mem hx))
   rw [if_neg this];rfl
  ·simp
theorem Hp {u:AV}{kk:IntKind}(q:MOk M ck)(hx:evO l x=some (.map r))(hy:evO l y=some (.int kk ((mSlot M ck k:Nat):Int)))(hz:evO l z=some v)(hb:Mk (hp n t lh) r ((Ew M ck k u).map (mE enc)) (mCk M ck k)):
  XV (.mstore x y z) (hp n t lh) l .unk (hp n t ((r,some (.map ((Ew M ck k v).map (mE enc)) (mCk M ck k)))::lh)):=by
 refine⟨?_⟩
 obtain⟨h1,h2⟩:=co (k:=k) (u:=u) q
 have h3:=Y6 (enc:=enc) (mSlot M ck k) v _ k (q.set k u).borns h1 h2
 rw [me]at h3
 have hy':evL l y= .int kk (Int.ofNat (mSlot M ck k)):=Ad hy
 simp only [exec,Ag,Ad hx,hy',Ad hz,hb.e,h3]
 rfl
theorem Y7 (hx:evO l x=some (.map r)){es:List AEnt}(hb:Mk (hp n t lh) r es ck):XV (.rangeM x) (hp n t lh) l (.ptr n 0) (hp (n+1) t ((n,some (.miter (some r) ck [] ck))::lh)):=by
 refine⟨?_⟩
 simp only [exec,Ag,Ad hx,hb.e]
 rfl
theorem Vt (b:Nat): ∀s:List Nat,L9 b s=decide (b∈s)
 | []=>by simp [L9]
 |a::s=>by
  simp only [L9]
  by_cases h:a=b
  ·rw [show Nat.beq a b=true by rw [Nat.beq_eq];exact h];simp [h]
  ·rw [show Nat.beq a b=false from Ih h];simp only [Vt b s,List.mem_cons];simp [show¬b=a from fun q=>h q.symm]
theorem Y8 (ck:Nat)(seen:List Nat): ∀M:List (α×AV×Nat),(∀x∈M,x.2.2<ck)→Nh ck seen (M.map (mE enc))=some ((M.filter fun x=>decide (x.2.2∉seen)).map (mE enc))
 | [],_=>rfl
 |x::r,h=>by
  simp only [List.map_cons,Nh,Y8 ck seen r fun y hy=>h y (List.mem_cons_of_mem _ hy)]
  show(match L9 x.2.2 seen with|true=>_|false=>_)=_
  rw [Vt,List.filter_cons]
  by_cases hs:x.2.2∈seen
  ·simp [hs]
  ·have h1:Nat.ble (Nat.succ x.2.2) ck=true:=by rw [Nat.ble_eq];exact h x (List.mem_cons_self ..)
   simp only [decide_eq_false hs,hs,not_false_eq_true,decide_true,if_true,List.map_cons]
   show(match Nat.ble (Nat.succ x.2.2) ck with|true=>_|false=>_)=_
   rw [h1]
theorem xz (ck:Nat)(seen:List Nat)(M:List (α×AV×Nat))(h: ∀x∈M,x.2.2<ck):Jv ck seen (M.map (mE enc))=true:=by
 unfold Jv
 split
 ·rfl
 ·rfl
 ·rename_i s es h1 h2
  cases M with
  |nil=>exact absurd rfl h2
  |cons x r=>
   rw [List.map_cons,List.any_cons]
   have h1:Nat.ble (Nat.succ x.2.2) ck=true:=by rw [Nat.ble_eq];exact h x (List.mem_cons_self ..)
   show(Nat.ble (Nat.succ x.2.2) ck || _)=true
   rw [h1];rfl
end
section
variable {P:Program}{E:Env}{F:T CFn}{K:T (List AV×AV)}{Q:Nat→AV→Prop}
variable {fn nt:Nat}{l l' q:List (Nat×Option AV)}{k td':List AItem}{ds:List ADef}{dfd:Bool}{ro:Option Nat}{cs:List AFr}{h h':H}{gd:Option (Nat×Bool)}{op:COp}{v:AV}{r:List CI}
variable {n:Nat}{t:T Blk}{lh:List (Nat×Option Blk)}{x:O}{nm:List Nat}{pre chk:List DI}{ps:List Ph}
variable (L:Lg P E F K)
include L
theorem cq (hg:gdO gd l=some true)(hx:XV op h l v h')(ha:adv 1000 (.ops r::k) l=(td',l'))(g:Good P E Q ⟨⟨fn,nt,tms l',td',ds,.run,dfd,ro⟩,cs,h'⟩):
  Good P E Q ⟨⟨fn,nt,tms l,.ops (⟨none,gd,op⟩::r)::k,ds,.run,dfd,ro⟩,cs,h⟩:=
 N1 L (A1 hg) hx.e (Br L 1000 ha g)
theorem Jp (ho:Cq l nm=some q)(hg:gdO gd q=some true)(hx:XV op h q v h')
  (g:A8 P E Q pre chk ps k fn nt (tms l) ds dfd ro cs h'):Good P E Q ⟨⟨fn,nt,tms l,.drawn ⟨⟨⟨none,gd,op⟩,nm⟩,pre,chk⟩ ps::k,ds,.run,dfd,ro⟩,cs,h⟩:=
 Yo L (dst:=none) (by rw [Bq ho];exact A1 hg) (by rw [Bq ho];exact hx.e) g
variable {α: Type}[DecidableEq α]{enc:α→AV}{M:List (α×AV×Nat)}{ck:Nat}
theorem Y9 {d it m:Nat}{seen:List Nat}(hg:gdO gd l=some true)(hx:evO l x=some (.ptr it 0))(hi:Gk (hp n t lh) it (.miter (some m) ck seen ck))(hm:Mk (hp n t lh) m (M.map (mE enc)) ck)(hlt: ∀y∈M,y.2.2<ck)
  (done:(∀y∈M,y.2.2∈seen)→Good P E Q ⟨⟨fn,nt,tms ((d,some (.tup [.bool false]))::l),.ops r::k,ds,.run,dfd,ro⟩,cs,hp n t lh⟩)
  (more: ∀y∈M,y.2.2∉seen→Good P E Q ⟨⟨fn,nt,tms ((d,some (.tup [.bool true,enc y.1,y.2.1]))::l),.ops r::k,ds,.run,dfd,ro⟩,cs,hp n t ((it,some (.miter (some m) ck (seen++ [y.2.2]) ck))::lh)⟩):
  Good P E Q ⟨⟨fn,nt,tms l,.ops (⟨some d,gd,.nextM x⟩::r)::k,ds,.run,dfd,ro⟩,cs,hp n t lh⟩:=by
 have h1:=Y8 (enc:=enc) ck seen M hlt
 have h2:=xz (enc:=enc) ck seen M hlt
 cases hf:M.filter fun x=>decide (x.2.2∉seen)with
 |nil=>
  rw [hf]at h1
  have hx2:exec (.nextM x) (hp n t lh) (tms l)= .val (.tup [.bool false]) (hp n t lh):=by
   simp only [exec,Ag,Ad hx,hi.e,hm.e,h1,h2]
   rfl
  refine N1 L (A1 hg) hx2 (done fun y hy=>?_)
  have:=List.filter_eq_nil_iff.1 hf y hy
  simpa using this
 |cons y0 ys=>
  rw [hf]at h1
  have hx2:exec (.nextM x) (hp n t lh) (tms l)= .next (List.map (fun e=>(.tup [.bool true,e.key,e.val],H.set (hp n t lh) it (.miter (some m) ck (List.append seen [e.born]) ck))) ((y0::ys).map (mE enc))):=by
   simp only [exec,Ag,Ad hx,hi.e,hm.e,h1,h2]
   rfl
  refine Ms L (vu (A1 hg) hx2 ?_)
  rintro z hz
  rw [List.map_map,List.mem_map]at hz
  obtain⟨y,hy,rfl⟩:=hz
  rw [←hf,List.mem_filter]at hy
  exact more y hy.1 (by simpa using hy.2)
end
section
variable {α: Type}[DecidableEq α]{enc:α→AV}{M:List (α×AV×Nat)}{ck:Nat}
theorem Sj: ∀(M:List (α×AV×Nat)) (y:α×AV×Nat),(M.map (·.2.2)).Nodup→y∈M→He y.2.2 (M.map (mE enc))=some (mE enc y)
 | [],_,_,h=>by cases h
 |x::r,y,hn,hy=>by
  rw [List.map_cons,List.nodup_cons]at hn
  simp only [List.map_cons,He]
  show(match Nat.beq x.2.2 y.2.2 with|true=>_|false=>_)=_
  rcases List.mem_cons.1 hy with rfl|hy
  ·rw [Nat.beq_refl]
  ·have:x.2.2≠y.2.2:=fun q=>hn.1 (by rw [q];exact List.mem_map_of_mem hy)
   rw [Ih this]
   exact Sj r y hn.2 hy
theorem Za {l:List (Nat×Option AV)}{h:H}{x:O}{it m:Nat}{seen:List Nat}{y:α×AV×Nat}(q:MOk M ck)(hx:evO l x=some (.ptr it 0))(hi:Gk h it (.miter (some m) ck (seen++ [y.2.2]) ck))(hm:Mk h m (M.map (mE enc)) ck)(hy:y∈M):
  XV (.entry x) h l (.tup [enc y.1,y.2.1]) h:=by
 refine⟨?_⟩
 have h1:(seen++ [y.2.2]).getLast?=some y.2.2:=by simp
 have h2:Nat.beq ck ck=true:=Nat.beq_refl ck
 simp only [exec,Ag,Ad hx,hi.e,hm.e,h1,h2,Sj (enc:=enc) M y q.borns hy]
 rfl
end
def jN (b:List Nat):Nat:=leF b 0 4
def I0 (b:List Nat)(i:Nat):Ent:=(((leF b (4+8*i) 4:Nat):Int),((leF b (8+8*i) 4:Nat):Int) - 1)
def Cp (b:List Nat)(n:Nat):List Ent:=(List.range n).map (I0 b)
theorem Bw (b:List Nat)(n:Nat):(Cp b n).length=n:=by simp [Cp]
theorem K2 (b:List Nat)(n:Nat):Cp b (n+1)=Cp b n++ [I0 b n]:=by simp [Cp,List.range_succ]
def JOk (b:List Nat):Prop:=jN b≤(b.length - 4) / 8∧(∀e∈Cp b (jN b),e.Ok)∧zer b (4+8*jN b) (b.length - (4+8*jN b))=true
instance (b:List Nat):Decidable (JOk b):=by unfold JOk;infer_instance
def B2 (b:List Nat):Option (List Ent):=if JOk b then some (Cp b (jN b))else none
structure EL (h:H)(lo:Nat)(v:AV)(l:List Ent):Prop where
 ex:(l= []∧v= .nils)∨(l≠[]∧ ∃b,v= .slc b 0 l.length (Ac+2)∧Bk h b (l.flatMap An)∧lo≤b)
theorem EL.nil (h:H)(lo:Nat):EL h lo .nils []:=⟨.inl ⟨rfl,rfl⟩⟩
theorem EL.k0 {h h':H}{lo:Nat}{v:AV}{l:List Ent}(q:EL h lo v l)(k:K0 h h'):EL h' lo v l:=by
 rcases q.ex with h1|⟨h2,b,h3,h4,h5⟩
 ·exact⟨.inl h1⟩
 ·exact⟨.inr ⟨h2,b,h3,Aj k h4,h5⟩⟩
theorem EL.kS {h h':H}{S:Nat→Prop}{lo:Nat}{v:AV}{l:List Ent}(q:EL h lo v l)(k:Kp S h h')(hs: ∀b,lo≤b→ ¬S b):EL h' lo v l:=by
 rcases q.ex with h1|⟨h2,b,h3,h4,h5⟩
 ·exact⟨.inl h1⟩
 ·exact⟨.inr ⟨h2,b,h3,A5 k (hs b h5) h4,h5⟩⟩
theorem EL.mono {h:H}{lo lo':Nat}{v:AV}{l:List Ent}(q:EL h lo v l)(k:lo'≤lo):EL h lo' v l:=by
 rcases q.ex with h1|⟨h2,b,h3,h4,h5⟩
 ·exact⟨.inl h1⟩
 ·exact⟨.inr ⟨h2,b,h3,h4,Nat.le_trans k h5⟩⟩
theorem EL.plain {h:H}{lo:Nat}{v:AV}{l:List Ent}(q:EL h lo v l):Bi v=some [v]∧Az v=true:=by
 rcases q.ex with⟨_,rfl⟩|⟨_,b,rfl,_⟩ <;> exact⟨rfl,rfl⟩
theorem EL.entR {κ: Nat→Nat}{h:H}{lo:Nat}{v:AV}{l:List Ent}(q:EL h lo v l)(hc: ∀b,lo≤b→κ b=0):EntR κ h v l:=by
 rcases q.ex with⟨rfl,rfl⟩|⟨_,b,rfl,h4,h5⟩
 ·exact⟨.inl ⟨rfl,rfl⟩⟩
 ·exact⟨.inr (.inr ⟨b,Ac+2,rfl,h4.rk,hc b h5⟩)⟩
theorem EL.len {h:H}{lo:Nat}{v:AV}{l:List Ent}(q:EL h lo v l):(l= []∧v= .nils)∨(0<l.length∧ ∃b,v= .slc b 0 l.length (Ac+2)∧Bk h b (l.flatMap An)∧lo≤b):=by
 rcases q.ex with h1|⟨h2,h3⟩
 ·exact .inl h1
 ·exact .inr ⟨List.length_pos_iff.2 h2,h3⟩
theorem A2 (l:List Ent):(l.flatMap An).length=l.length*2:=Co l (B4 l)
theorem EL.app {h:H}{lo N n:Nat}{l:List Ent}{e:Ent}(hb:Bk h N (l.flatMap An++An e))(hlo:lo≤N)(hn:l.length=n):EL h lo (.slc N 0 (n+1) (Ac+2)) (l++ [e]):=
 ⟨.inr ⟨by simp,N,by simp [hn],by rw [List.flatMap_append];simpa using hb,hlo⟩⟩
theorem se {b:List Nat}(ha:AllB b)(hn:4+8*jN b≤b.length)(hok: ∀e∈Cp b (jN b),e.Ok):K1 b.length (Cp b (jN b))=b↔zer b (4+8*jN b) (b.length - (4+8*jN b))=true:=by
 have h1:leb 4 (Cp b (jN b)).length=(b.drop 0).take 4:=by rw [Bw];exact Fc ha 4 0 (by omega)
 have h2: ∀n,4+8*n≤b.length→(Cp b n).flatMap Ke=(b.drop 4).take (8*n):=by
  intro n
  induction n with
  |zero=>intro _;simp [Cp]
  |succ n ih=>
   intro hn
   rw [K2,List.flatMap_append,ih (by omega)]
   have e1:((leF b (4+8*n) 4:Nat):Int).toNat=leF b (4+8*n) 4:=Int.toNat_natCast _
   have e2:(((leF b (8+8*n) 4:Nat):Int) - 1+1).toNat=leF b (8+8*n) 4:=by omega
   have e3: [I0 b n].flatMap Ke=(b.drop (4+8*n)).take 4++(b.drop (8+8*n)).take 4:=by
    simp only [List.flatMap_cons,List.flatMap_nil,List.append_nil,Ke,I0]
    rw [e1,e2,Fc ha 4 (4+8*n) (by omega),Fc ha 4 (8+8*n) (by omega)]
   rw [e3,←List.append_assoc]
   have e4:=Dt b 4 (8*n) 8
   have e5:=Dt b (4+8*n) 4 4
   rw [show 8*(n+1)=8*n+8 by omega,e4,e5,show 4+8*n+4=8+8*n by omega,List.append_assoc]
 unfold K1
 rw [h1,h2 _ hn,Bw]
 have e6:b=(b.drop 0).take 4++(b.drop 4).take (8*jN b)++b.drop (4+8*jN b):=by
  rw [List.drop_zero,List.append_assoc]
  conv=>lhs;rw [←List.take_append_drop 4 b,←List.take_append_drop (8*jN b) (b.drop 4),List.drop_drop]
 have e7: ∀X:List Nat,(b.drop 0).take 4++(b.drop 4).take (8*jN b)++X=b↔X=b.drop (4+8*jN b):=by
  intro X
  constructor
  ·intro h
   conv at h=>rhs;rw [e6]
   exact List.append_cancel_left h
  ·rintro rfl;exact e6.symm
 rw [e7,show b.length - 4 - 8*jN b=b.length - (4+8*jN b) by omega]
 have e8:(b.drop (4+8*jN b))=(b.drop (4+8*jN b)).take (b.length - (4+8*jN b)):=by rw [List.take_of_length_le];rw [List.length_drop];exact Nat.le_refl _
 rw [e8,M3 _ _ (by rw [List.length_drop];exact Nat.le_refl _),T1]
 constructor
 ·intro h i hi
  have:=congrArg (fun l=>l[i]?) h
  simp only [List.getElem?_map,List.getElem?_range hi,List.getElem?_replicate_of_lt hi,Option.map_some,Option.some.injEq,J8]at this
  exact this.symm
 ·intro h
  apply List.ext_getElem?
  intro i
  by_cases hi:i<b.length - (4+8*jN b)
  ·rw [List.getElem?_map,List.getElem?_range hi,List.getElem?_replicate_of_lt hi,Option.map_some,J8,h i hi]
  ·rw [List.getElem?_eq_none (by simp;omega),List.getElem?_eq_none (by simp;omega)]
abbrev AI (z:Int):AV:= .int .i64 z
structure MQ (M1 M2:List (Int×AV×Nat))(A:Int→Option Int):Prop where
 a1: ∀s,Be M1 s=(A s).map AI
 a2: ∀s p,A s=some p→Be M2 p=some (AI s)
 a3: ∀p u,Be M2 p=some u→ ∃s,u=AI s∧A s=some p
theorem MQ.inj {M1 M2:List (Int×AV×Nat)}{A:Int→Option Int}(q:MQ M1 M2 A){s s' p:Int}(h:A s=some p)(h':A s'=some p):s=s':=by
 have h1:=q.a2 s p h
 rw [q.a2 s' p h']at h1
 simp only [AI,Option.some.injEq,AV.int.injEq,true_and]at h1
 exact h1.symm
def E4 (A:Int→Option Int)(s0:Int):Int→Option Int:=fun s=>if s=s0 then none else A s
def Em (A:Int→Option Int)(x:Ent):Int→Option Int:=fun s=>if s=x.1 then(if 0≤x.2 then some x.2 else none)else A s
theorem cr {A:Int→Option Int}{s0:Int}(h:A s0=none):E4 A s0=A:=by
 funext s;unfold E4;by_cases e:s=s0
 ·rw [if_pos e,e,h]
 ·rw [if_neg e]
theorem Qs {A:Int→Option Int}{x:Ent}(h: ¬0≤x.2):Em A x=E4 A x.1:=by
 funext s;unfold Em E4;rw [if_neg h]
theorem mf (A:Int→Option Int)(x:Ent):Em (E4 A x.1) x=Em A x:=by
 funext s;unfold Em E4;by_cases e:s=x.1
 ·rw [if_pos e,if_pos e]
 ·rw [if_neg e,if_neg e,if_neg e]
theorem MQ.rem {M1 M2:List (Int×AV×Nat)}{A:Int→Option Int}(q:MQ M1 M2 A){s0 p:Int}(h:A s0=some p):MQ (M6 M1 s0) (M6 M2 p) (E4 A s0):=by
 refine⟨fun s=>?_,fun s p' hs=>?_,fun p' u hu=>?_⟩
 ·rw [Qp,q.a1];unfold E4
  by_cases e:s=s0
  ·rw [if_pos e,if_pos e];rfl
  ·rw [if_neg e,if_neg e]
 ·unfold E4 at hs
  by_cases e:s=s0
  ·rw [if_pos e]at hs;cases hs
  ·rw [if_neg e]at hs
   have hp:p'≠p:=fun f=>e (q.inj (by rw [hs,f]) h)
   rw [Qp,if_neg hp];exact q.a2 s p' hs
 ·rw [Qp]at hu
  by_cases e:p'=p
  ·rw [if_pos e]at hu;cases hu
  ·rw [if_neg e]at hu
   obtain⟨s,h1,h2⟩:=q.a3 p' u hu
   refine⟨s,h1,?_⟩
   unfold E4
   rw [if_neg];exact h2
   rintro rfl;rw [h]at h2;cases h2;exact e rfl
theorem MQ.ins {M1 M2:List (Int×AV×Nat)}{A:Int→Option Int}(q:MQ M1 M2 A){x:Ent}{c1 c2:Nat}(hx:0≤x.2)(h:A x.1=none)(hp: ∀s,A s≠some x.2):MQ (Ew M1 c1 x.1 (AI x.2)) (Ew M2 c2 x.2 (AI x.1)) (Em A x):=by
 refine⟨fun s=>?_,fun s p' hs=>?_,fun p' u hu=>?_⟩
 ·rw [Du,q.a1];unfold Em
  by_cases e:s=x.1
  ·rw [if_pos e,if_pos e,if_pos hx];rfl
  ·rw [if_neg e,if_neg e]
 ·unfold Em at hs
  rw [Du]
  by_cases e:s=x.1
  ·rw [if_pos e,if_pos hx]at hs;cases hs;rw [if_pos rfl,e]
  ·rw [if_neg e]at hs
   rw [if_neg fun f=>hp s (by rw [←f];exact hs)];exact q.a2 s p' hs
 ·rw [Du]at hu
  by_cases e:p'=x.2
  ·rw [if_pos e]at hu;cases hu
   exact⟨x.1,rfl,by unfold Em;rw [if_pos rfl,if_pos hx,e]⟩
  ·rw [if_neg e]at hu
   obtain⟨s,h1,h2⟩:=q.a3 p' u hu
   refine⟨s,h1,?_⟩
   unfold Em
   rw [if_neg];exact h2
   rintro rfl;rw [h]at h2;cases h2
def Hq (S T:Nat)(x:Ent):Prop:=0≤x.1∧x.1<S∧ -1≤x.2∧x.2<T
instance (S T:Nat)(x:Ent):Decidable (Hq S T x):=by unfold Hq;infer_instance
def Sk (A:Int→Option Int)(x:Ent):Prop:= ∃s,A s=some x.2∧s≠x.1
structure MpC (S nb P:Nat)(h:H)(m r1 r2 vb:Nat)(A:Int→Option Int)(t:Nat)(M1 M2:List (Int×AV×Nat))(c1 c2:Nat)(cv:List AV):Prop where
 k1:Mk h r1 (M1.map (mE AI)) c1
 o1:MOk M1 c1
 k2:Mk h r2 (M2.map (mE AI)) c2
 o2:MOk M2 c2
 kv:Bk h vb cv
 vl:cv.length=nb
 vv: ∀i,i<nb→ ∃z:Int,cv[i]?=some (AI z)∧ -t≤z∧z≤t
 mr:MQ M1 M2 A
structure MpR (S nb P:Nat)(h:H)(m r1 r2 vb:Nat)(A:Int→Option Int)(t:Nat):Prop where
 km:Bk h m [AI ((S:Nat):Int),AI ((nb:Nat):Int),AI ((P:Nat):Int),.map r1,.map r2,.slc vb 0 nb nb]
 ne:r1≠r2∧r1≠m∧r1≠vb∧r2≠m∧r2≠vb∧m≠vb
 rg: ∀s p,A s=some p→0≤s∧s<S∧0≤p∧p<((nb*P:Nat):Int)
 nz:0<nb∧nb≤6∧2≤P∧P≤6∧S≤1000
 ex: ∃M1 M2 c1 c2 cv,MpC S nb P h m r1 r2 vb A t M1 M2 c1 c2 cv
theorem MpR.kp {S nb P:Nat}{h h':H}{m r1 r2 vb t:Nat}{A:Int→Option Int}{B:Nat→Prop}(q:MpR S nb P h m r1 r2 vb A t)(k:Kp B h h')(hm: ¬B m)(h1: ¬B r1)(h2: ¬B r2)(hv: ¬B vb):MpR S nb P h' m r1 r2 vb A t:=by
 obtain⟨M1,M2,c1,c2,cv,q5⟩:=q.ex
 exact⟨A5 k hm q.km,q.ne,q.rg,q.nz,M1,M2,c1,c2,cv,⟨Lo k h1 q5.k1,q5.o1,Lo k h2 q5.k2,q5.o2,A5 k hv q5.kv,q5.vl,q5.vv,q5.mr⟩⟩
theorem MpR.k0 {S nb P:Nat}{h h':H}{m r1 r2 vb t:Nat}{A:Int→Option Int}(q:MpR S nb P h m r1 r2 vb A t)(k:K0 h h'):MpR S nb P h' m r1 r2 vb A t:=q.kp k id id id id
theorem MpR.lt {S nb P:Nat}{h:H}{m r1 r2 vb t:Nat}{A:Int→Option Int}(q:MpR S nb P h m r1 r2 vb A t):m<h.n∧r1<h.n∧r2<h.n∧vb<h.n:=by
 obtain⟨M1,M2,c1,c2,cv,q5⟩:=q.ex
 exact⟨q.km.lt,q5.k1.lt,q5.k2.lt,q5.kv.lt⟩
theorem MpR.inj {S nb P:Nat}{h:H}{m r1 r2 vb t:Nat}{A:Int→Option Int}(q:MpR S nb P h m r1 r2 vb A t){s s' p:Int}(e:A s=some p)(e':A s'=some p):s=s':=by
 obtain⟨M1,M2,c1,c2,cv,q5⟩:=q.ex
 exact q5.mr.inj e e'
section
variable {l:List (Nat×Option AV)}{h:H}{x y:O}
theorem Aa4 {q:Bool}{r:Nat}(e:evO l x=some (.map r))(e1:evO l y=some .nilm):XV (.bin .eql x y q .nilM) h l (.bool false) h:=⟨by simp only [exec,Ag,Ad e,Ad e1];rfl⟩
end
section
variable {P:Program}{E:Env}{F:T CFn}{K:T (List AV×AV)}{Q:Nat→AV→Prop}
variable {fn nt:Nat}{l q:List (Nat×Option AV)}{k:List AItem}{ds:List ADef}{dfd:Bool}{ro:Option Nat}{cs:List AFr}{h:H}{gd:Option (Nat×Bool)}{x:O}{nm:List Nat}{pre chk:List DI}{ps:List Ph}{d:Option Nat}
variable (L:Lg P E F K)
include L
theorem T2 {f:Nat}{a:List O}{va cp args:List AV}{post:AV→H→Prop}(ho:Cq l nm=some q)(hg:gdO gd q=some true)(e:evO q x=some (.fn (.func f) [] cp))(ha:Fj q a=some va)(hr:Fq va cp=some args)(hc:CtP P E F K f args h post)
  (g: ∀v h',post v h'→Good P E Q ⟨⟨fn,nt,O4 chk (tms l),[.gone],ds,.panicking [(v,false)],dfd,ro⟩,cs,h'⟩):
  Good P E Q ⟨⟨fn,nt,tms l,.drawn ⟨⟨⟨d,gd,.callv x a⟩,nm⟩,pre,chk⟩ ps::k,ds,.run,dfd,ro⟩,cs,h⟩:=
 e_c L ho (A1 hg) (E7 e ha hr) (hc Q _ cs fun v h' p=>g v h' p)
end
theorem Qt {cv:List AV}{nb t:Nat}(vl:cv.length=nb)(vv: ∀i,i<nb→ ∃z:Int,cv[i]?=some (AI z)∧ -t≤z∧z≤t){j:Nat}{w:Int}(h1: -((t+1:Nat):Int)≤w)(h2:w≤((t+1:Nat):Int)):
  ∀i,i<nb→ ∃z:Int,(cv.set j (AI w))[i]?=some (AI z)∧ -((t+1:Nat):Int)≤z∧z≤((t+1:Nat):Int):=by
 intro i hi
 by_cases e:j=i
 ·subst e
  exact⟨w,by rw [List.getElem?_set_self (by omega)],h1,h2⟩
 ·obtain⟨z,q1,q2,q3⟩:=vv i hi
  exact⟨z,by rw [List.getElem?_set_ne e];exact q1,by omega,by omega⟩
theorem J9 {cv:List AV}{nb t t':Nat}(vv: ∀i,i<nb→ ∃z:Int,cv[i]?=some (AI z)∧ -t≤z∧z≤t)(ht:t≤t'): ∀i,i<nb→ ∃z:Int,cv[i]?=some (AI z)∧ -t'≤z∧z≤t':=by
 intro i hi
 obtain⟨z,q1,q2,q3⟩:=vv i hi
 exact⟨z,q1,by omega,by omega⟩
theorem T3 {p nb P:Nat}(h:p<nb*P):p / P<nb:=Nat.div_lt_of_lt_mul (by rw [Nat.mul_comm];exact h)
section
variable {P0:Program}{E:Env}{F:T CFn}{K:T (List AV×AV)}(L:Lg P0 E F K)(X:Fx F K)
include L X
section
variable {h:H}
theorem cu {b1 o1 b2 o2 m c2:Nat}{ex data:List Nat}(T:Tb P0 E F K)(k1:BS h b1 o1 ex)(k2:BS h b2 o2 data)(hl1:ex.length=64)(hl2:data.length=m)(hm:0<m∧m<1000):
  Ct P0 E F K 109 [.slc b1 o1 64 (Ac+1),.slc b2 o2 m c2] h fun v h'=>(∃e:Nat,v= .tup [.agg (spC ((Jn ex data).getD sp0)),.int .i64 ((e:Nat):Int)]∧(e=0↔(Jn ex data).isSome=true)∧e<1000)∧K0 h h':=by
 have l1:=k1.lt_n
 have l2:=k2.lt_n
 have a1:=k1.all
 have a2:=k2.all
 have g4:leF ex 4 1<256:=Dc a1 1 4
 refine Af L X.f109 X.k109 rfl rfl fun Q x cs G=>?_
 refine wk ?_
 refine Jk L rfl rfl rfl rfl ?_
 refine wk ?_
 refine cal (c:=Et L X) (g:=?_)
 rintro _ rfl
 refine wk ?_
 refine cal (c:=Lv L X (bs:=ex) lkb hl1 (by omega)) (g:=?_)
 rintro _ h2 ⟨r,cb,rfl,w1,w2,w3,w4,w5,w6⟩
 have n2:=w6.n
 have m1:=w1.lt
 have m2:=w2.lt_n
 simp only [Ah]at n2 w3 w4
 refine wk ?_
 refine cal (c:=Y0 L X (n:=4) (a:=60) (bs:=ex) (BS.part (k:=by exact lkb) (by omega)) (by omega) (by omega)) (g:=?_)
 rintro _ rfl
 refine wk ?_
 refine cal (c:=lf L X T (data:=data) (ex:=ex) lkb lkb hl2 hl1 hm) (g:=?_)
 rintro _ h3 ⟨rfl,w7⟩
 have n3:=w7.n
 simp only [Ah]at n3
 by_cases hc:leF ex 60 4=crcB (data++ex.take 60)
 rotate_left
 ·refine wk ?_
  refine Ex L rfl rfl rfl rfl rfl (Jm L X) ?_
  rintro _ _ ⟨rfl,rfl⟩
  rw [Ho a1 hl1 (by intro q;exact hc q.1)]at G
  exact Gs L X rfl rfl lkp lkp (by omega) G fun h9 k9=>⟨⟨10,rfl,by simp,by omega⟩,Kp.trS k9 (fun i hi e=>by omega) kps⟩
 refine wk ?_
 refine cal (c:=Et L X) (g:=?_)
 rintro _ rfl
 refine wk ?_
 refine cal (c:=Lx L X (a:=0) (m:=4) (bs:=ex) (cb:=cb) (o:=0) (at_:=0) (n:=64) lkp lkp (BS.part (o:=0) (a:=0) (n:=4) (bs:=ex) (k:=by exact lkb) (by omega)) a1 (by omega) (by omega) (by omega) (by omega) (by omega) w5) (g:=?_)
 rintro _ h4 ⟨rfl,w8,w9⟩
 have n4:=w9.n
 simp only [Ah]at n4
 by_cases hg:leF ex 0 4=1280591427
 rotate_left
 ·refine wk ?_
  refine Ex L rfl rfl rfl rfl rfl (Jm L X) ?_
  rintro _ _ ⟨rfl,rfl⟩
  rw [Ho a1 hl1 (by intro q;exact hg q.2.1)]at G
  exact Gs L X rfl rfl lkp lkp (by omega) G fun h9 k9=>⟨⟨6,rfl,by simp,by omega⟩,Kp.trS k9 (fun i hi e=>by omega) kps⟩
 refine wk ?_
 refine cal (c:=Et L X) (g:=?_)
 rintro _ rfl
 refine wk ?_
 refine cal (c:=Lx L X (a:=4) (m:=1) (bs:=ex) (cb:=cb) (o:=0+4) (at_:=0+4) (n:=64 - 4) lkp lkp (BS.part (o:=0) (a:=4) (n:=1) (bs:=ex) (k:=by exact lkb) (by omega)) a1 (by omega) (by omega) (by omega) (by omega) (by omega) w5) (g:=?_)
 rintro _ h5 ⟨rfl,x1,x2⟩
 have n5:=x2.n
 simp only [Ah]at n5
 refine wk ?_
 refine cal (c:=Ql L X (a:=5) (m:=3) (bs:=ex) (cb:=cb) (o:=0+4+1) (at_:=0+4+1) (n:=64 - 4 - 1) lkp (BS.part (o:=0) (a:=5) (n:=3) (bs:=ex) (k:=by exact lkb) (by omega)) (by omega) (by omega) (by omega) (by omega) w5) (g:=?_)
 rintro _ h6 ⟨rfl,x3,zh6⟩
 have nh6:=zh6.n
 simp only [Ah]at nh6
 by_cases hz:zer ex 5 3=true
 rotate_left
 ·rw [if_neg hz]
  refine wk ?_
  refine Ex L rfl rfl rfl rfl rfl (Jm L X) ?_
  rintro _ _ ⟨rfl,rfl⟩
  rw [Ho a1 hl1 (by intro q;exact hz q.2.2.1)]at G
  exact Gs L X rfl rfl lkp lkp (by omega) G fun h9 k9=>⟨⟨6,rfl,by simp,by omega⟩,Kp.trS k9 (fun i hi e=>by omega) kps⟩
 rw [if_pos hz]
 have x5:=x3 hz
 refine wk ?_
 refine cal (c:=Et L X) (g:=?_)
 rintro _ rfl
 refine wk ?_
 refine A4 L ?_
 refine wk ?_
 refine cal (c:=j9 L X (at_:=0+4+1+3) lkp) (g:=?_)
 rintro _ rfl
 refine wk ?_
 refine cal (c:=Et L X) (g:=?_)
 rintro _ rfl
 refine wk ?_
 refine cal (c:=Y2 L X (a:=8) (bs:=ex) (cb:=cb) (o:=0+4+1+3) (at_:=0+4+1+3) (n:=64 - 4 - 1 - 3) lkp lkp (BS.part (o:=0) (a:=8) (n:=8) (bs:=ex) (k:=by exact lkb) (by omega)) (by omega) (by omega) (by omega) (by omega) w5) (g:=?_)
 rintro _ h7 ⟨rfl,xh7,zh7⟩
 have nh7:=zh7.n
 simp only [Ah]at nh7
 refine wk ?_
 refine C7 L ?_
 refine wk ?_
 refine cal (c:=j9 L X (at_:=0+4+1+3+8) lkp) (g:=?_)
 rintro _ rfl
 refine wk ?_
 refine cal (c:=Et L X) (g:=?_)
 rintro _ rfl
 refine wk ?_
 refine cal (c:=Y2 L X (a:=16) (bs:=ex) (cb:=cb) (o:=0+4+1+3+8) (at_:=0+4+1+3+8) (n:=64 - 4 - 1 - 3 - 8) lkp lkp (BS.part (o:=0) (a:=16) (n:=8) (bs:=ex) (k:=by exact lkb) (by omega)) (by omega) (by omega) (by omega) (by omega) w5) (g:=?_)
 rintro _ h8 ⟨rfl,xh8,zh8⟩
 have nh8:=zh8.n
 simp only [Ah]at nh8
 refine wk ?_
 refine C7 L ?_
 refine wk ?_
 refine A4 L ?_
 refine wk ?_
 refine cal (c:=Lx L X (a:=24) (m:=4) (bs:=ex) (cb:=cb) (o:=0+4+1+3+8+8) (at_:=0+4+1+3+8+8) (n:=64 - 4 - 1 - 3 - 8 - 8) lkp lkp (BS.part (o:=0) (a:=24) (n:=4) (bs:=ex) (k:=by exact lkb) (by omega)) a1 (by omega) (by omega) (by omega) (by omega) (by omega) w5) (g:=?_)
 rintro _ h9 ⟨rfl,xh9,zh9⟩
 have nh9:=zh9.n
 simp only [Ah]at nh9
 refine wk ?_
 refine C7 L ?_
 refine wk ?_
 refine cal (c:=Lx L X (a:=28) (m:=4) (bs:=ex) (cb:=cb) (o:=0+4+1+3+8+8+4) (at_:=0+4+1+3+8+8+4) (n:=64 - 4 - 1 - 3 - 8 - 8 - 4) lkp lkp (BS.part (o:=0) (a:=28) (n:=4) (bs:=ex) (k:=by exact lkb) (by omega)) a1 (by omega) (by omega) (by omega) (by omega) (by omega) w5) (g:=?_)
 rintro _ h10 ⟨rfl,xh10,zh10⟩
 have nh10:=zh10.n
 simp only [Ah]at nh10
 refine wk ?_
 refine C7 L ?_
 refine wk ?_
 refine cal (c:=Lx L X (a:=32) (m:=4) (bs:=ex) (cb:=cb) (o:=0+4+1+3+8+8+4+4) (at_:=0+4+1+3+8+8+4+4) (n:=64 - 4 - 1 - 3 - 8 - 8 - 4 - 4) lkp lkp (BS.part (o:=0) (a:=32) (n:=4) (bs:=ex) (k:=by exact lkb) (by omega)) a1 (by omega) (by omega) (by omega) (by omega) (by omega) w5) (g:=?_)
 rintro _ h11 ⟨rfl,xh11,zh11⟩
 have nh11:=zh11.n
 simp only [Ah]at nh11
 refine wk ?_
 refine C7 L ?_
 refine wk ?_
 refine cal (c:=j9 L X (at_:=0+4+1+3+8+8+4+4+4) lkp) (g:=?_)
 rintro _ rfl
 refine wk ?_
 refine Qg L rfl rfl rfl rfl rfl (Ct.A (Ql L X (a:=36) (m:=24) (bs:=ex) (r:=r) (cb:=cb) (o:=0+4+1+3+8+8+4+4+4) (at_:=0+4+1+3+8+8+4+4+4) (n:=64 - 4 - 1 - 3 - 8 - 8 - 4 - 4 - 4) lkp (BS.part (o:=0) (a:=36) (n:=24) (bs:=ex) (k:=by exact lkb) (by omega)) (by omega) (by omega) (by omega) (by omega) w5)) ?_
 rintro _ h12 ⟨rfl,xh12,zh12⟩
 have nh12:=zh12.n
 simp only [Ah]at nh12
 by_cases hy:zer ex 36 24=true
 rotate_left
 ·rw [if_neg hy]
  refine wk ?_
  refine Ex L rfl rfl rfl rfl rfl (Jm L X) ?_
  rintro _ _ ⟨rfl,rfl⟩
  rw [Ho a1 hl1 (by intro q;exact hy q.2.2.2.1)]at G
  exact Gs L X rfl rfl lkp lkp (by omega) G fun h9 k9=>⟨⟨6,rfl,by simp,by omega⟩,Kp.trS k9 (fun i hi e=>by omega) kps⟩
 rw [if_pos hy]
 refine wk ?_
 refine cal (c:=cf L X (s:=El ex) (Ov a1)) (g:=?_)
 rintro _ hl ⟨rfl,zhl⟩
 have nhl:=zhl.n
 simp only [Ah]at nhl
 by_cases hv:(El ex).Valid
 rotate_left
 ·rw [decide_eq_false hv]
  refine wk ?_
  refine Ex L rfl rfl rfl rfl rfl (Jm L X) ?_
  rintro _ _ ⟨rfl,rfl⟩
  rw [Ho a1 hl1 (by intro q;exact hv q.2.2.2.2)]at G
  exact Gs L X rfl rfl lkp lkp (by omega) G fun h9 k9=>⟨⟨6,rfl,by simp,by omega⟩,Kp.trS k9 (fun i hi e=>by omega) kps⟩
 rw [decide_eq_true hv]
 refine wk ?_
 refine cal (c:=Et L X) (g:=?_)
 rintro _ rfl
 refine wk ?_
 rw [cj a1 hl1 hc hg hz hy hv]at G
 refine Gq L (todo:= []) ?_
 exact li L X rfl rfl lkp lkp G ⟨⟨0,rfl,by simp,by omega⟩,kps⟩
end
end
section
variable {P0:Program}{E:Env}{F:T CFn}{K:T (List AV×AV)}(L:Lg P0 E F K)(X:Fx F K)
include L X
section
variable {h:H}
theorem Ek {e:Int}:Ct P0 E F K 52 [.bool true,.int .i64 e] h fun v h'=>v= .tup []∧h'=h:=by
 refine Af L X.f52 X.k52 rfl rfl fun Q x cs G=>?_
 refine wk ?_
 refine ret X.f52 ?_
 exact⟨rfl,rfl⟩
theorem E5 {e:Int}:CtP P0 E F K 52 [.bool false,.int .i64 e] h fun v h'=>v= .ifc 34 (.int .i64 e)∧h'=h:=by
 refine Il L X.f52 X.k52 rfl rfl rfl fun Q x cs G=>?_
 refine wk ?_
 refine Ls L rfl rfl ?_
 refine F5 L X.f52 ?_
 exact G _ _ ⟨rfl,rfl⟩
theorem M9 {e:Int}:Ct P0 E F K 172 [.bool true,.int .i64 e] h fun v h'=>v= .tup []∧h'=h:=by
 refine Af L X.f172 X.k172 rfl rfl fun Q x cs G=>?_
 refine wk ?_
 refine ret X.f172 ?_
 exact⟨rfl,rfl⟩
theorem Sl {e:Int}:CtP P0 E F K 172 [.bool false,.int .i64 e] h fun v h'=>v= .ifc 34 (.int .i64 e)∧h'=h:=by
 refine Il L X.f172 X.k172 rfl rfl rfl fun Q x cs G=>?_
 refine wk ?_
 refine Ls L rfl rfl ?_
 refine F5 L X.f172 ?_
 exact G _ _ ⟨rfl,rfl⟩
theorem Hr {e:Int}:Ct P0 E F K 162 [.bool true,.int .i64 e] h fun v h'=>v= .tup []∧h'=h:=by
 refine Af L X.f162 X.k162 rfl rfl fun Q x cs G=>?_
 refine wk ?_
 refine ret X.f162 ?_
 exact⟨rfl,rfl⟩
theorem Na {e:Int}:CtP P0 E F K 162 [.bool false,.int .i64 e] h fun v h'=>v= .ifc 34 (.int .i64 e)∧h'=h:=by
 refine Il L X.f162 X.k162 rfl rfl rfl fun Q x cs G=>?_
 refine wk ?_
 refine Ls L rfl rfl ?_
 refine F5 L X.f162 ?_
 exact G _ _ ⟨rfl,rfl⟩
theorem Qu {d fm bb:Nat}{D:Dv}(hd:Bk h d (dvC D fm bb)):Ct P0 E F K 28 [.ptr d 0] h fun v h'=>v= .bool (!D.off)∧h'=h:=by
 refine Ao L X.f28 X.k28 rfl rfl fun Q x cs G=>?_
 refine wk ?_
 refine cal (c:=Fa L X hd) (g:=?_)
 rintro _ rfl
 have hd':=hd
 unfold dvC dvL at hd'
 refine wk ?_
 refine ret X.f28 ?_
 exact⟨rfl,rfl⟩
theorem sf {sz:Nat}(hz:12≤sz∧sz≤8192):Ct P0 E F K 77 [.int .i64 ((sz:Nat):Int)] h fun v h'=>v= .int .i64 (((sz - 4) / 8:Nat):Int)∧h'=h:=by
 refine Ao L X.f77 X.k77 rfl rfl fun Q x cs G=>?_
 refine wk ?_
 refine ret X.f77 ?_
 exact⟨rfl,rfl⟩
theorem Xq {n:Nat}:Ct P0 E F K 163 [.int .u64 ((n:Nat):Int),.int .i64 ((0:Nat):Int)] h fun v h'=>v= .int .u64 ((n:Nat):Int)∧h'=h:=by
 refine Af L X.f163 X.k163 rfl rfl fun Q x cs G=>?_
 refine wk ?_
 refine cal (c:=Hr L X) (g:=?_)
 rintro _ rfl
 refine wk ?_
 refine ret X.f163 ?_
 exact⟨rfl,rfl⟩
theorem sg {r cb o n c:Nat}{w:AV}(k:Bk h r [.slc cb o n c,w]):Ct P0 E F K 165 [.ptr r 0] h fun v h'=>v= .int .i64 ((n:Nat):Int)∧h'=h:=by
 refine Ao L X.f165 X.k165 rfl rfl fun Q x cs G=>?_
 refine wk ?_
 refine cal (c:=Lw L X) (g:=?_)
 rintro _ rfl
 refine wk ?_
 refine ret X.f165 ?_
 exact⟨rfl,rfl⟩
theorem Xr {e:Ent}:Ct P0 E F K 164 [.agg (An e)] h fun v h'=>v= .bool (decide (¬e.Ok))∧K0 h h':=by
 obtain⟨a,b⟩:=e
 have hT: ¬(0≤a∧a≤4294967294∧ -1≤b∧b≤4294967294)→decide (¬Ent.Ok (a,b))=true:=fun q=>decide_eq_true (by unfold Ent.Ok;exact q)
 have hF:(0≤a∧a≤4294967294∧ -1≤b∧b≤4294967294)→decide (¬Ent.Ok (a,b))=false:=fun q=>decide_eq_false (by unfold Ent.Ok;exact fun r=>r q)
 by_cases q0:a<0
 ·rw [hT (by omega)]
  refine Ao L X.f164 X.k164 rfl rfl fun Q x cs G=>?_
  refine wk ?_
  refine ret X.f164 ?_
  exact⟨rfl,kps⟩
 by_cases q1:4294967294<a
 ·rw [hT (by omega)]
  refine Ao L X.f164 X.k164 rfl rfl fun Q x cs G=>?_
  refine wk ?_
  refine ret X.f164 ?_
  exact⟨rfl,kps⟩
 by_cases q2:b< -1
 ·rw [hT (by omega)]
  refine Ao L X.f164 X.k164 rfl rfl fun Q x cs G=>?_
  refine wk ?_
  refine ret X.f164 ?_
  exact⟨rfl,kps⟩
 by_cases q3:4294967294<b
 ·rw [hT (by omega)]
  refine Ao L X.f164 X.k164 rfl rfl fun Q x cs G=>?_
  refine wk ?_
  refine ret X.f164 ?_
  exact⟨rfl,kps⟩
 ·rw [hF (by omega)]
  refine Ao L X.f164 X.k164 rfl rfl fun Q x cs G=>?_
  refine wk ?_
  refine ret X.f164 ?_
  exact⟨rfl,kps⟩
theorem Hs {x:PgE×Nat}{sz:Nat}:Ct P0 E F K 68 [.agg (peC sz x)] h fun v h'=>v= .bool (decide (x.1.s.kind=1))∧K0 h h':=by
 obtain⟨⟨a,s,d⟩,b⟩:=x
 by_cases q:s.kind=1
 ·rw [decide_eq_true (show(PgE.mk a s d).s.kind=1 from q)]
  refine Ao L X.f68 X.k68 rfl rfl fun Q x cs G=>?_
  refine wk ?_
  refine ret X.f68 ?_
  exact⟨rfl,kps⟩
 ·rw [decide_eq_false (show¬(PgE.mk a s d).s.kind=1 from q)]
  refine Ao L X.f68 X.k68 rfl rfl fun Q x cs G=>?_
  refine wk ?_
  refine ret X.f68 ?_
  exact⟨rfl,kps⟩
def rdC (cb a sz:Nat):List AV:= [.slc cb a (sz - a) (Ac+1),.int .i64 ((a:Nat):Int)]
theorem Qv {r cb a m sz:Nat}{bs:List Nat}(k:Bk h r (rdC cb a sz))(kb:BS h cb 0 bs)(hl:bs.length=sz)(hs:sz<1000)(ham:a+m≤sz)(hm:1≤m∧m≤8)(hne:cb≠r):
  Ct P0 E F K 154 [.ptr r 0,.int .i64 ((m:Nat):Int)] h fun v h'=>v= .tup [.int .u64 ((leF bs a m:Nat):Int),.int .i64 ((0:Nat):Int)]∧Bk h' r (rdC cb (a+m) sz)∧Kp (fun j=>j=r) h h':=by
 have k2:=BS.part (a:=a) (n:=m) kb (by omega)
 rw [Nat.zero_add]at k2
 refine(Ky L X (a:=a) (bs:=bs) (at_:=a) (n:=sz - a) (cb:=cb) (o:=a) k k2 (by omega) (by omega) hm (by omega) (by omega) hne).mono fun v h' q=>⟨q.1,?_,q.2.2⟩
 unfold rdC
 rw [←Nat.sub_sub]
 exact q.2.1
theorem T4 {b o n c a:Nat}{bs:List Nat}(k:BS h b o bs)(hl:bs.length=n)(hn:n<1000)(ha:a+4≤n):Ct P0 E F K 118 [.slc b o n c,.int .i64 ((a:Nat):Int)] h fun v h'=>v= .int .i64 ((leF bs a 4:Nat):Int)∧h'=h:=by
 have m0: ∀{lq:List (Nat×Option AV)} {y:O},evO lq y=some (.ptr b (o+a))→XV (.load1 y) (hp h.n h.t []) lq (.int .u8 ((bs.getD a 0:Nat):Int)) (hp h.n h.t []):=fun q=>F3 lkb q (by omega)
 have m1: ∀{lq:List (Nat×Option AV)} {y:O},evO lq y=some (.ptr b (o+(a+1)))→XV (.load1 y) (hp h.n h.t []) lq (.int .u8 ((bs.getD (a+1) 0:Nat):Int)) (hp h.n h.t []):=fun q=>F3 lkb q (by omega)
 have m2: ∀{lq:List (Nat×Option AV)} {y:O},evO lq y=some (.ptr b (o+(a+2)))→XV (.load1 y) (hp h.n h.t []) lq (.int .u8 ((bs.getD (a+2) 0:Nat):Int)) (hp h.n h.t []):=fun q=>F3 lkb q (by omega)
 have m3: ∀{lq:List (Nat×Option AV)} {y:O},evO lq y=some (.ptr b (o+(a+3)))→XV (.load1 y) (hp h.n h.t []) lq (.int .u8 ((bs.getD (a+3) 0:Nat):Int)) (hp h.n h.t []):=fun q=>F3 lkb q (by omega)
 have b0:=C0 k.all a
 have b1:=C0 k.all (a+1)
 have b2:=C0 k.all (a+2)
 have b3:=C0 k.all (a+3)
 have e:leF bs a 4=bs.getD a 0+256*(bs.getD (a+1) 0+256*(bs.getD (a+2) 0+256*(bs.getD (a+3) 0+256*0))):=rfl
 rw [e]
 generalize bs.getD a 0=x0 at*
 generalize bs.getD (a+1) 0=x1 at*
 generalize bs.getD (a+2) 0=x2 at*
 generalize bs.getD (a+3) 0=x3 at*
 refine Af L X.f118 X.k118 rfl rfl fun Q x cs G=>?_
 refine wk ?_
 (apply Au rfl rfl;exact m0 rfl)
 refine wk ?_
 (apply Au rfl rfl;exact m1 rfl)
 refine wk ?_
 (apply Au rfl rfl;exact m2 rfl)
 refine wk ?_
 (apply Au rfl rfl;exact m3 rfl)
 refine wk ?_
 refine ret X.f118 ?_
 refine⟨?_,rfl⟩
 show AV.int .i64 _=AV.int .i64 _
 congr 1
 omega
end
end
section
variable {P0:Program}{E:Env}{F:T CFn}{K:T (List AV×AV)}(L:Lg P0 E F K)(X:Fx F K)
include L X
section
variable {h:H}
theorem Qw {m:Nat}{c0 c1 c2:AV}{r1:Nat}{rest:List AV}(k:Bk h m (c0::c1::c2:: .map r1::rest)):Ct P0 E F K 112 [.ptr m 0] h fun v h'=>v= .bool false∧h'=h:=by
 refine Ao L X.f112 X.k112 rfl rfl fun Q x cs G=>?_
 refine wk ?_
 (apply st1 L rfl;exact Aa4 rfl rfl;rfl)
 refine wk ?_
 refine ret X.f112 ?_
 exact⟨rfl,rfl⟩
theorem Sm {S nb P:Nat}(hn:nb≤6∧P≤6):Ct P0 E F K 208 [.agg [AI ((S:Nat):Int),AI ((nb:Nat):Int),AI ((P:Nat):Int)]] h fun v h'=>v=AI ((nb*P:Nat):Int)∧K0 h h':=by
 have hm:nb*P≤6*6:=Nat.mul_le_mul hn.1 hn.2
 refine Ao L X.f208 X.k208 rfl rfl fun Q x cs G=>?_
 refine wk ?_
 refine ret X.f208 ?_
 exact⟨rfl,kps⟩
theorem Qx {S nb P:Nat}{x:Ent}(hn:nb≤6∧P≤6∧S≤1000):Ct P0 E F K 173 [.agg [AI ((S:Nat):Int),AI ((nb:Nat):Int),AI ((P:Nat):Int)],.agg (An x)] h fun v h'=>v= .bool (decide (Hq S (nb*P) x))∧K0 h h':=by
 obtain⟨a,b⟩:=x
 have hT:(0≤a∧a<S∧ -1≤b∧b<((nb*P:Nat):Int))→decide (Hq S (nb*P) (a,b))=true:=fun q=>decide_eq_true q
 have hF: ¬(0≤a∧a<S∧ -1≤b∧b<((nb*P:Nat):Int))→decide (Hq S (nb*P) (a,b))=false:=fun q=>decide_eq_false q
 obtain⟨T,hT'⟩: ∃T,nb*P=T:=⟨_,rfl⟩
 rw [hT']at hT hF ⊢
 by_cases q0:a<0
 ·rw [hF (by omega)]
  refine Af L X.f173 X.k173 rfl rfl fun Q x cs G=>?_
  refine wk ?_
  refine ret X.f173 ?_
  exact⟨rfl,kps⟩
 by_cases q1:(S:Int)≤a
 ·rw [hF (by omega)]
  refine Af L X.f173 X.k173 rfl rfl fun Q x cs G=>?_
  refine wk ?_
  refine ret X.f173 ?_
  exact⟨rfl,kps⟩
 by_cases q2:b< -1
 ·rw [hF (by omega)]
  refine Af L X.f173 X.k173 rfl rfl fun Q x cs G=>?_
  refine wk ?_
  refine ret X.f173 ?_
  exact⟨rfl,kps⟩
 by_cases q3:(T:Int)≤b
 ·rw [hF (by omega)]
  refine Af L X.f173 X.k173 rfl rfl fun Q x cs G=>?_
  refine wk ?_
  refine cal (c:=Sm L X (S:=S) (nb:=nb) (P:=P) ⟨hn.1,hn.2.1⟩) (g:=?_)
  rintro _ h2 ⟨rfl,w1⟩
  rw [hT']
  refine wk ?_
  refine ret X.f173 ?_
  exact⟨rfl,kps⟩
 ·rw [hT (by omega)]
  refine Af L X.f173 X.k173 rfl rfl fun Q x cs G=>?_
  refine wk ?_
  refine cal (c:=Sm L X (S:=S) (nb:=nb) (P:=P) ⟨hn.1,hn.2.1⟩) (g:=?_)
  rintro _ h2 ⟨rfl,w1⟩
  rw [hT']
  refine wk ?_
  refine ret X.f173 ?_
  exact⟨rfl,kps⟩
end
end
section
variable {P0:Program}{E:Env}{F:T CFn}{K:T (List AV×AV)}(L:Lg P0 E F K)(X:Fx F K)
include L X
section
variable {h:H}
theorem Ox {S nb P m r1 r2 vb t:Nat}{A:Int→Option Int}{x:Ent}(q:MpR S nb P h m r1 r2 vb A t)(ht:t<1000)(hf:Hq S (nb*P) x)(hb: ¬Sk A x):
  Ct P0 E F K 114 [.ptr m 0,.agg (An x)] h fun v h'=>v= .tup []∧MpR S nb P h' m r1 r2 vb (Em A x) (t+2)∧Kp (fun j=>j=r1∨j=r2∨j=vb) h h':=by
 obtain⟨km,⟨n1,n2,n3,n4,n5,n6⟩,rg,nz,M1,M2,c1,c2,cv,k1,o1,k2,o2,kv,vl,vv,mr⟩:=q
 obtain⟨a,b⟩:=x
 have l1:=km.lt
 have l2:=k1.lt
 have l3:=k2.lt
 have l4:=kv.lt
 have hfits:=hf
 obtain⟨f1,f2,f3,f4⟩:=hf
 simp only at f1 f2 f3 f4
 have hm:nb*P≤6*6:=Nat.mul_le_mul nz.2.1 nz.2.2.2.1
 show Ct P0 E F K 114 [.ptr m 0,.agg [AI a,AI b]] h _
 refine Af L X.f114 X.k114 rfl rfl fun Q x cs G=>?_
 refine wk ?_
 refine cal (c:=Qx L X (S:=S) (nb:=nb) (P:=P) (x:=(a,b)) ⟨nz.2.1,nz.2.2.2.1,nz.2.2.2.2⟩) (g:=?_)
 rintro _ h2 ⟨rfl,w1⟩
 have m1:=w1.n
 simp only [Ah]at m1
 rw [decide_eq_true hfits]
 refine wk ?_
 refine cal (c:=M9 L X) (g:=?_)
 rintro _ rfl
 have hs:(Be M2 b=none∧ ∀s,A s≠some b)∨(Be M2 b=some (AI a)∧A a=some b):=by
  cases hg:Be M2 b with
  |none=>exact .inl ⟨rfl,fun s e=>by rw [mr.a2 s b e]at hg;cases hg⟩
  |some u=>
   obtain⟨s,rfl,e2⟩:=mr.a3 b u hg
   have:s=a:=Classical.byContradiction fun e=>hb ⟨s,e2,e⟩
   subst this
   exact .inr ⟨rfl,e2⟩
 have ha:(Be M1 a=none∧A a=none)∨ ∃p:Nat,Be M1 a=some (AI ((p:Nat):Int))∧A a=some ((p:Nat):Int)∧p<nb*P:=by
  have h1:=mr.a1 a
  cases hA:A a with
  |none=>rw [hA]at h1;exact .inl ⟨h1,rfl⟩
  |some p=>
   rw [hA]at h1
   obtain⟨-,-,g3,g4⟩:=rg a p hA
   have g5:((p.toNat:Nat):Int)=p:=Int.toNat_of_nonneg g3
   exact .inr ⟨p.toNat,by rw [g5];exact h1,by rw [g5],by omega⟩
 have rgA: ∀s p,Em A (a,b) s=some p→0≤s∧s<S∧0≤p∧p<((nb*P:Nat):Int):=by
  intro s p e
  unfold Em at e
  by_cases e1:s=a
  ·rw [if_pos e1]at e
   by_cases e2:0≤b
   ·rw [if_pos e2]at e;cases e;exact⟨by omega,by omega,e2,f4⟩
   ·rw [if_neg e2]at e;cases e
  ·rw [if_neg e1]at e;exact rg s p e
 by_cases hb0:0≤b
 ·obtain⟨b,rfl⟩: ∃b':Nat,b=((b':Nat):Int):=⟨b.toNat,by omega⟩
  have hqb:b / P<nb:=T3 (by omega)
  rcases ha with⟨g1,ha⟩|⟨p,g1,ha,hp⟩
  ·rcases hs with⟨g2,hs⟩|⟨g2,hs⟩
   rotate_left
   ·rw [ha]at hs;cases hs
   obtain⟨z,hz,z1,z2⟩:=vv _ hqb
   have mr2:=mr.ins (x:=(a,((b:Nat):Int))) (c1:=c1) (c2:=c2) hb0 ha hs
   refine wk ?_
   (apply Au rfl rfl;exact Ee (KE.int .i64) rfl rfl lkq)
   rw [g2]
   refine wk ?_
   (apply Au rfl rfl;exact Ee (KE.int .i64) rfl rfl lkq)
   rw [g1]
   refine wk ?_
   (apply B5 L rfl rfl;exact M8 (KE.int .i64) o1 rfl rfl lkq)
   refine wk ?_
   (apply Jp L rfl rfl;exact Hp (k:=a) o1 rfl rfl rfl lkq)
   refine wk ?_
   (apply B5 L rfl rfl;exact M8 (KE.int .i64) o2 rfl rfl lkq)
   refine wk ?_
   (apply Jp L rfl rfl;exact Hp (k:=((b:Nat):Int)) o2 rfl rfl rfl lkq)
   refine wk ?_
   refine ret X.f114 ?_
   exact⟨rfl,⟨lkp,⟨n1,n2,n3,n4,n5,n6⟩,rgA,nz,_,_,_,_,_,lkq,o1.set _ _,lkq,o2.set _ _,lkp,(by simp [vl]),J9 (Qt vl vv (by omega) (by omega)) (by omega),mr2⟩,kps⟩
  ·have hqp:p / P<nb:=T3 hp
   obtain⟨z,hz,z1,z2⟩:=vv _ hqp
   have vv2:=Qt vl vv (j:=p / P) (w:=z - ((1:Nat):Int)) (by omega) (by omega)
   obtain⟨y,hy,y1,y2⟩:=vv2 _ hqb
   have hl2:b / P<(cv.set (p / P) (AI (z - ((1:Nat):Int)))).length:=by rw [List.length_set,vl];exact hqb
   have hm0: ∀s,E4 A a s≠some ((b:Nat):Int):=by
    intro s e
    unfold E4 at e
    by_cases e1:s=a
    ·rw [if_pos e1]at e;cases e
    ·rw [if_neg e1]at e;exact hb ⟨s,e,e1⟩
   have mr2:=(mr.rem ha).ins (x:=(a,((b:Nat):Int))) (c1:=c1) (c2:=c2) hb0 (by unfold E4;rw [if_pos rfl]) hm0
   rw [show Em (E4 A a) (a,((b:Nat):Int))=Em A (a,((b:Nat):Int)) from mf A (a,((b:Nat):Int))]at mr2
   rcases hs with⟨g2,hs⟩|⟨g2,hs⟩
   ·refine wk ?_
    (apply Au rfl rfl;exact Ee (KE.int .i64) rfl rfl lkq)
    rw [g2]
    refine wk ?_
    (apply Au rfl rfl;exact Ee (KE.int .i64) rfl rfl lkq)
    rw [g1]
    refine wk ?_
    (apply Jp L rfl rfl;exact M7 (KE.int .i64) o1 rfl rfl lkq)
    refine wk ?_
    (apply cq L rfl;exact M7 (KE.int .i64) o2 rfl rfl lkq;rfl)
    refine wk ?_
    (apply B5 L rfl rfl;exact M8 (KE.int .i64) (o1.del _) rfl rfl lkq)
    refine wk ?_
    (apply Jp L rfl rfl;exact Hp (k:=a) (o1.del _) rfl rfl rfl lkq)
    refine wk ?_
    (apply B5 L rfl rfl;exact M8 (KE.int .i64) (o2.del _) rfl rfl lkq)
    refine wk ?_
    (apply Jp L rfl rfl;exact Hp (k:=((b:Nat):Int)) (o2.del _) rfl rfl rfl lkq)
    refine wk ?_
    refine ret X.f114 ?_
    exact⟨rfl,⟨lkp,⟨n1,n2,n3,n4,n5,n6⟩,rgA,nz,_,_,_,_,_,lkq,(o1.del _).set _ _,lkq,(o2.del _).set _ _,lkp,(by simp [vl]),J9 (Qt (by simp [vl]) vv2 (by omega) (by omega)) (by omega),mr2⟩,kps⟩
   ·refine wk ?_
    (apply Au rfl rfl;exact Ee (KE.int .i64) rfl rfl lkq)
    rw [g2]
    refine wk ?_
    refine cal (c:=M9 L X) (g:=?_)
    rintro _ rfl
    refine wk ?_
    (apply Au rfl rfl;exact Ee (KE.int .i64) rfl rfl lkq)
    rw [g1]
    refine wk ?_
    (apply Jp L rfl rfl;exact M7 (KE.int .i64) o1 rfl rfl lkq)
    refine wk ?_
    (apply cq L rfl;exact M7 (KE.int .i64) o2 rfl rfl lkq;rfl)
    refine wk ?_
    (apply B5 L rfl rfl;exact M8 (KE.int .i64) (o1.del _) rfl rfl lkq)
    refine wk ?_
    (apply Jp L rfl rfl;exact Hp (k:=a) (o1.del _) rfl rfl rfl lkq)
    refine wk ?_
    (apply B5 L rfl rfl;exact M8 (KE.int .i64) (o2.del _) rfl rfl lkq)
    refine wk ?_
    (apply Jp L rfl rfl;exact Hp (k:=((b:Nat):Int)) (o2.del _) rfl rfl rfl lkq)
    refine wk ?_
    refine ret X.f114 ?_
    exact⟨rfl,⟨lkp,⟨n1,n2,n3,n4,n5,n6⟩,rgA,nz,_,_,_,_,_,lkq,(o1.del _).set _ _,lkq,(o2.del _).set _ _,lkp,(by simp [vl]),J9 (Qt (by simp [vl]) vv2 (by omega) (by omega)) (by omega),mr2⟩,kps⟩
 ·rcases hs with⟨g2,hs⟩|⟨g2,hs⟩
  rotate_left
  ·exact absurd (rg _ _ hs).2.2.1 hb0
  rcases ha with⟨g1,ha⟩|⟨p,g1,ha,hp⟩
  ·rw [show Em A (a,b)=A by rw [Qs hb0];exact cr ha]at*
   refine wk ?_
   (apply Au rfl rfl;exact Ee (KE.int .i64) rfl rfl lkq)
   rw [g2]
   refine wk ?_
   (apply Au rfl rfl;exact Ee (KE.int .i64) rfl rfl lkq)
   rw [g1]
   refine wk ?_
   refine ret X.f114 ?_
   exact⟨rfl,⟨lkp,⟨n1,n2,n3,n4,n5,n6⟩,rgA,nz,_,_,_,_,_,lkq,o1,lkq,o2,lkp,vl,J9 vv (by omega),mr⟩,kps⟩
  ·have hqp:p / P<nb:=T3 hp
   obtain⟨z,hz,z1,z2⟩:=vv _ hqp
   have vv2:=Qt vl vv (j:=p / P) (w:=z - ((1:Nat):Int)) (by omega) (by omega)
   rw [show Em A (a,b)=E4 A a from Qs hb0]at*
   refine wk ?_
   (apply Au rfl rfl;exact Ee (KE.int .i64) rfl rfl lkq)
   rw [g2]
   refine wk ?_
   (apply Au rfl rfl;exact Ee (KE.int .i64) rfl rfl lkq)
   rw [g1]
   refine wk ?_
   (apply Jp L rfl rfl;exact M7 (KE.int .i64) o1 rfl rfl lkq)
   refine wk ?_
   (apply cq L rfl;exact M7 (KE.int .i64) o2 rfl rfl lkq;rfl)
   refine wk ?_
   refine ret X.f114 ?_
   exact⟨rfl,⟨lkp,⟨n1,n2,n3,n4,n5,n6⟩,rgA,nz,_,_,_,_,_,lkq,o1.del _,lkq,o2.del _,lkp,(by simp [vl]),J9 vv2 (by omega),mr.rem ha⟩,kps⟩
end
end
section
variable {P0:Program}{E:Env}{F:T CFn}{K:T (List AV×AV)}(L:Lg P0 E F K)(X:Fx F K)
include L X
section
variable {h:H}
theorem Vu {S nb P m r1 r2 vb t:Nat}{A:Int→Option Int}{x:Ent}(q:MpR S nb P h m r1 r2 vb A t)(hf: ¬Hq S (nb*P) x):
  CtP P0 E F K 114 [.ptr m 0,.agg (An x)] h fun v h'=>v= .ifc 34 (.int .i64 ((3:Nat):Int))∧K0 h h':=by
 obtain⟨km,-,-,nz,-⟩:=q
 obtain⟨a,b⟩:=x
 have l1:=km.lt
 show CtP P0 E F K 114 [.ptr m 0,.agg [AI a,AI b]] h _
 refine Il L X.f114 X.k114 rfl rfl rfl fun Q x cs G=>?_
 refine wk ?_
 refine cal (c:=Qx L X (S:=S) (nb:=nb) (P:=P) (x:=(a,b)) ⟨nz.2.1,nz.2.2.2.1,nz.2.2.2.2⟩) (g:=?_)
 rintro _ h2 ⟨rfl,w1⟩
 rw [decide_eq_false hf]
 refine wk ?_
 refine T2 L rfl rfl rfl rfl rfl (Sl L X) ?_
 rintro _ _ ⟨rfl,rfl⟩
 refine F5 L X.f114 ?_
 exact G _ _ ⟨rfl,kps⟩
theorem Vv {S nb P m r1 r2 vb t:Nat}{A:Int→Option Int}{x:Ent}(q:MpR S nb P h m r1 r2 vb A t)(hf:Hq S (nb*P) x)(hb:Sk A x):
  CtP P0 E F K 114 [.ptr m 0,.agg (An x)] h fun v h'=>v= .ifc 34 (.int .i64 ((11:Nat):Int))∧K0 h h':=by
 obtain⟨km,-,rg,nz,M1,M2,c1,c2,cv,k1,o1,k2,o2,kv,vl,vv,mr⟩:=q
 obtain⟨a,b⟩:=x
 have l1:=km.lt
 have l3:=k2.lt
 obtain⟨s,hs,hne⟩:=hb
 simp only at hs hne
 have g2:=mr.a2 s b hs
 obtain⟨s1,s2,-,-⟩:=rg s b hs
 obtain⟨f1,f2,-,-⟩:=id hf
 simp only at f1 f2
 show CtP P0 E F K 114 [.ptr m 0,.agg [AI a,AI b]] h _
 refine Il L X.f114 X.k114 rfl rfl rfl fun Q x cs G=>?_
 refine wk ?_
 refine cal (c:=Qx L X (S:=S) (nb:=nb) (P:=P) (x:=(a,b)) ⟨nz.2.1,nz.2.2.2.1,nz.2.2.2.2⟩) (g:=?_)
 rintro _ h2 ⟨rfl,w1⟩
 rw [decide_eq_true hf]
 refine wk ?_
 refine cal (c:=M9 L X) (g:=?_)
 rintro _ rfl
 refine wk ?_
 (apply Au rfl rfl;exact Ee (KE.int .i64) rfl rfl lkq)
 rw [g2]
 refine wk ?_
 refine Ex L rfl rfl rfl rfl rfl (Sl L X) ?_
 rintro _ _ ⟨rfl,rfl⟩
 refine F5 L X.f114 ?_
 exact G _ _ ⟨rfl,kps⟩
end
end
def okE (S T:Nat)(A:Int→Option Int)(x:Ent):Prop:=Hq S T x∧ ¬Sk A x
structure InvA (S T:Nat)(A:Int→Option Int):Prop where
 rg: ∀s p,A s=some p→0≤s∧s<S∧0≤p∧p<(T:Int)
 inj: ∀s s' p,A s=some p→A s'=some p→s=s'
theorem InvA.set {S T:Nat}{A:Int→Option Int}{x:Ent}(q:InvA S T A)(k:okE S T A x):InvA S T (Em A x):=by
 obtain⟨⟨f1,f2,f3,f4⟩,hb⟩:=k
 have key: ∀s p,Em A x s=some p→(s=x.1∧p=x.2∧0≤x.2)∨(s≠x.1∧A s=some p):=by
  intro s p e
  unfold Em at e
  by_cases e1:s=x.1
  ·rw [if_pos e1]at e
   by_cases e2:0≤x.2
   ·rw [if_pos e2]at e;cases e;exact .inl ⟨e1,rfl,e2⟩
   ·rw [if_neg e2]at e;cases e
  ·rw [if_neg e1]at e;exact .inr ⟨e1,e⟩
 refine⟨fun s p e=>?_,fun s s' p e e'=>?_⟩
 ·rcases key s p e with⟨rfl,rfl,h3⟩|⟨h1,h2⟩
  ·exact⟨f1,f2,h3,f4⟩
  ·exact q.rg s p h2
 ·rcases key s p e with⟨h1,h2,h3⟩|⟨h1,h2⟩ <;> rcases key s' p e' with⟨g1,g2,g3⟩|⟨g1,g2⟩
  ·rw [h1,g1]
  ·exact absurd ⟨s',by rw [←h2];exact g2,g1⟩ hb
  ·exact absurd ⟨s,by rw [←g2];exact h2,h1⟩ hb
  ·exact q.inj s s' p h2 g2
def stA (A:Int→Option Int)(l:List Ent)(i:Nat):Int→Option Int:=(l.take i).foldl Em A
theorem Lz {A:Int→Option Int}{l:List Ent}{i:Nat}{x:Ent}(h:l[i]?=some x):stA A l (i+1)=Em (stA A l i) x:=by
 unfold stA;rw [List.take_add_one,h,List.foldl_append];rfl
theorem InvA.st {S T:Nat}{A:Int→Option Int}{l:List Ent}(q:InvA S T A): ∀i,i≤l.length→(∀j x,j<i→l[j]?=some x→okE S T (stA A l j) x)→InvA S T (stA A l i)
 |0,_,_=>q
 |i+1,h,k=>by
  have hx:l[i]?=some l[i]:=List.getElem?_eq_getElem (by omega)
  rw [Lz hx]
  exact(q.st i (by omega) fun j x hj=>k j x (by omega)).set (k i _ (by omega) hx)
def Oe (A:Int→Option Int)(x:Ent):Ent:=(x.1,(A x.1).getD (-1))
def I1 (A:Int→Option Int)(l:List Ent)(i:Nat):List Ent:=(List.range i).map fun j=>Oe (stA A l j) (l.getD j (0,0))
theorem De (A:Int→Option Int)(l:List Ent)(i:Nat):(I1 A l i).length=i:=by simp [I1]
theorem cw {A:Int→Option Int}{l:List Ent}{i:Nat}{x:Ent}(h:l[i]?=some x):I1 A l (i+1)=I1 A l i++ [Oe (stA A l i) x]:=by
 simp [I1,List.range_succ,List.getD_eq_getElem?_getD,h]
theorem mg {A:Int→Option Int}{l:List Ent}{i j:Nat}{x:Ent}(h:l[j]?=some x)(hj:j<i):(I1 A l i)[j]?=some (Oe (stA A l j) x):=by
 simp [I1,hj,List.getD_eq_getElem?_getD,h]
theorem Aa5 (A:Int→Option Int)(x:Ent):Em (Em A x) (x.1,-1)=E4 A x.1:=by
 funext s;unfold Em E4
 by_cases e:s=x.1
 ·simp [e]
 ·simp [e]
theorem Aa6 (A:Int→Option Int)(x:Ent)(h: ∀p,A x.1=some p→0≤p):Em (E4 A x.1) (Oe A x)=A:=by
 funext s;unfold Em E4 Oe
 by_cases e:s=x.1
 ·simp only [e,if_true]
  cases hA:A x.1 with
  |none=>simp
  |some p=>simp [h p hA]
 ·simp [e]
theorem mh {S T:Nat}{A:Int→Option Int}{x:Ent}(q:InvA S T A)(k:okE S T A x):okE S T (Em A x) (x.1,-1):=by
 obtain⟨⟨f1,f2,f3,f4⟩,hb⟩:=k
 refine⟨⟨f1,f2,by omega,by omega⟩,?_⟩
 rintro⟨s,h1,h2⟩
 have:=(q.set ⟨⟨f1,f2,f3,f4⟩,hb⟩).rg s (-1) h1
 omega
theorem mi {S T:Nat}{A:Int→Option Int}{x:Ent}(q:InvA S T A)(k:okE S T A x):okE S T (E4 A x.1) (Oe A x):=by
 obtain⟨⟨f1,f2,f3,f4⟩,hb⟩:=k
 unfold Oe
 cases hA:A x.1 with
 |none=>
  refine⟨⟨f1,f2,by simp,by simp only [Option.getD_none];omega⟩,?_⟩
  rintro⟨s,h1,h2⟩
  unfold E4 at h1
  rw [if_neg h2]at h1
  have:=q.rg s _ h1
  simp at this
 |some p=>
  have hr:=q.rg x.1 p hA
  refine⟨⟨f1,f2,by simp only [Option.getD_some];omega,by simp only [Option.getD_some];omega⟩,?_⟩
  rintro⟨s,h1,h2⟩
  unfold E4 at h1
  rw [if_neg h2]at h1
  exact h2 (q.inj _ _ _ h1 hA)
theorem MpR.inv {S nb P:Nat}{h:H}{m r1 r2 vb t:Nat}{A:Int→Option Int}(q:MpR S nb P h m r1 r2 vb A t):InvA S (nb*P) A:=⟨q.rg,fun s s' p e e'=>q.inj e e'⟩
theorem MpR.mono {S nb P:Nat}{h:H}{m r1 r2 vb t t':Nat}{A:Int→Option Int}(q:MpR S nb P h m r1 r2 vb A t)(ht:t≤t'):MpR S nb P h m r1 r2 vb A t':=by
 obtain⟨M1,M2,c1,c2,cv,q5⟩:=q.ex
 exact⟨q.km,q.ne,q.rg,q.nz,M1,M2,c1,c2,cv,⟨q5.k1,q5.o1,q5.k2,q5.o2,q5.kv,q5.vl,J9 q5.vv ht,q5.mr⟩⟩
section
variable {l:List (Nat×Option AV)}{h:H}{x z w:O}{size:Nat}
theorem ut {j k:IntKind}(e:evO l x=some .nils)(e1:evO l z=some (.int j ((0:Nat):Int)))(e2:evO l w=some (.int k ((0:Nat):Int))):XV (.sliceS size x none (some z) (some w)) h l .nils h:=by
 refine⟨?_⟩
 have g1:C4 (tms l) none=some none:=rfl
 simp only [exec,Ag,g1,(BndR.att e1).opt,(BndR.att e2).opt,Ad e]
 rfl
end
section
variable {P0:Program}{E:Env}{F:T CFn}{K:T (List AV×AV)}(L:Lg P0 E F K)(X:Fx F K)
include L X
section
variable {h:H}
theorem Fd {S nb P m r1 r2 vb t i lo:Nat}{A:Int→Option Int}{es:List Ent}{lv w:AV}{Q:Nat→AV→Prop}{nt:Nat}{l:List (Nat×Option AV)}{todo:List AItem}{z:AFr}{cs:List AFr}{b2 b3 b4 b5 b6 e:Nat}{x4:AV}{post:AV→H→Prop}
  (t4:look l 4=some (.ptr b4 0)) (k2:Bk h b2 [.ptr m 0]) (k3:Bk h b3 [lv]) (k4:Bk h b4 [x4]) (k5:Bk h b5 [AI ((i:Nat):Int)]) (k6:Bk h b6 [w])
  (q:MpR S nb P h m r1 r2 vb (stA A es i) t) (hA:InvA S (nb*P) A) (hi:i≤es.length) (hok: ∀j x,j<i→es[j]?=some x→okE S (nb*P) (stA A es j) x) (hl:EL h lo lv es) (hw:EL h lo w (I1 A es i)) (hlen:es.length≤150) (ht:t≤2*i)
  (hlo:r1<lo∧r2<lo∧vb<lo∧m<lo) (hne:b4<b5∧b5<b6∧b2<b3∧b3<b4∧r1<b2∧r2<b2∧vb<b2∧m<b2) (hl2: ∀b n c,lv= .slc b 0 n c→b≠b4) (hw2: ∀b n c,w= .slc b 0 n c→b≠b4)
  (hG: ∀v h',post v h'→GO P0 E Q (finish v cs h' z))
  (hp1: ∀h',Kp (fun j=>j=r1∨j=r2∨j=vb∨j=b4) h h'→post (AI ((e:Nat):Int)) h'):
  Good P0 E Q ⟨⟨58,nt,tms l,todo,[.call 113 [.ptr b4 0,.ptr b5 0,.ptr b2 0,.ptr b3 0,.ptr b6 0]],.panicking [(.ifc 34 (AI ((e:Nat):Int)),false)],false,none⟩,z::cs,h⟩:=by
 have l2:=k2.lt
 have l3:=k3.lt
 have l4:=k4.lt
 have l5:=k5.lt
 have l6:=k6.lt
 have lq:=q.lt
 refine Db L (by intro q;cases q) X.f113 rfl rfl rfl ?_
 refine Ii L rfl ?_
 refine wk ?_
 refine Bb L (α:= Int) (T:=fun k s=> [(6,some (AI s)),(1,some (.ptr b5 0)),(2,some (.ptr b2 0)),(3,some (.ptr b3 0)),(4,some (.ptr b6 0))]) (n:=i)
  (R:=fun k s h2=>s=(i:Int) - 1 - k∧MpR S nb P h2 m r1 r2 vb (stA A es (i - k)) (2*i+4*k)∧Kp (fun j=>j=r1∨j=r2∨j=vb∨j=b4) h h2∧Bk h2 b4 [AI ((e:Nat):Int)]) (i0:=0) ((i:Int) - 1) tsb ⟨by omega,?_,kps,lkp⟩ (Nat.zero_le _) ?_ ?_
 ·exact(q.mono (by omega)).kp (B:=fun j=>j=b4) kps (by omega) (by omega) (by omega) (by omega)
 ·rintro k s h2 hk ⟨rfl,u1,u2,u3⟩ ih
  obtain⟨j,hj⟩: ∃j:Nat,(i:Int) - 1 - k=((j:Nat):Int):=⟨i - 1 - k,by omega⟩
  have hj1:i - k=j+1:=by omega
  have hx:es[j]?=some es[j]:=List.getElem?_eq_getElem (by omega)
  have hji:j<i:=by omega
  rw [hj1,Lz hx]at u1
  have okx:=hok j _ hji hx
  have hB:=hA.st j (by omega) fun j' x hj'=>hok j' x (by omega)
  have hbg:=mg (A:=A) hx hji
  generalize hes:es[j]=x at*
  generalize hBB:stA A es j=B at*
  rw [hj]
  rcases hl.len with⟨rfl,-⟩|⟨-,lb,rfl,g5,g6⟩
  ·simp at hx
  rcases hw.len with⟨e0,-⟩|⟨-,wb,rfl,g7,g8⟩
  ·have:=De A es i;rw [e0]at this;simp at this;omega
  have nlb:=hl2 _ _ _ rfl
  have nwb:=hw2 _ _ _ rfl
  rw [De]at*
  have c0:=Dd es (B4 es) j 0 _ hx (by omega)
  have c0':(es.flatMap An)[j*2+0]?=some (AI x.1):=c0
  have hdt:=Bj (I1 A es i) (B4 _) j _ hbg
  have g5':Bk h2 lb (es.flatMap An):=A5 u2 (by omega) g5
  have g7':Bk h2 wb ((I1 A es i).flatMap An):=A5 u2 (by omega) g7
  have m0: ∀{lq:List (Nat×Option AV)} {y:O},evO lq y=some (.ptr lb (j*2+0))→XV (.load1 y) (hp h2.n h2.t []) lq (AI x.1) (hp h2.n h2.t []):=fun q=>F4 q g5'.rk c0'
  have uok:=mh hB okx
  have uok2:=mi hB okx
  refine wk ?_
  refine cal (c:=Ox L X (x:=(x.1,-1)) (u1.k0 kps) (by omega) uok.1 uok.2) (g:=?_)
  rintro _ h3 ⟨rfl,u4,u5⟩
  rw [Aa5]at u4
  have n3:=u5.n
  simp only [Ah]at n3
  have g7'':Bk h3 wb ((I1 A es i).flatMap An):=A5 u5 (by omega) g7'
  refine wk ?_
  (apply Au rfl rfl;exact B6 g7''.rk hdt rfl)
  refine wk ?_
  refine cal (c:=Ox L X (x:=Oe B x) (u4.k0 kps) (by omega) uok2.1 uok2.2) (g:=?_)
  rintro _ h4 ⟨rfl,u6,u7⟩
  rw [Aa6 B x fun p hp=>(hB.rg _ _ hp).2.2.1]at u6
  have n4:=u7.n
  simp only [Ah]at n4
  refine wk ?_
  refine ih _ _ _ ⟨?_,?_,kps,lkp⟩ tsb
  ·omega
  ·rw [show i - (k+1)=j by omega,hBB];refine u6.mono ?_;omega
 ·rintro s h2 ⟨rfl,u1,u2,u3⟩
  refine wk ?_
  refine Ij L X.f113 rfl ?_
  refine Gr L X.f58 (Dn t4 (Bk.e lkp) rfl Ix) hG (hp1 _ u2)
end
end
end Go.Ev
