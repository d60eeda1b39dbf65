/- Part of the proof. -/
import Derived.Test.YtclfgfpebplncaaGreatH02
import Derived.Test.YtclfgfpebplncaaGreatH03
set_option linter.unusedVariables false
set_option linter.unusedSimpArgs false
set_option linter.unusedSectionVars false
set_option maxRecDepth 10000
set_option maxHeartbeats 4000000
namespace Go.Ev
variable {E:Env}{F:T CFn}{K:T (List AV×AV)}{P:Program}{Q:Nat→AV→Prop}{S:Nat→Prop}{args:List AV}{b ck d f fm fn i it m n nt o:Nat}{cs:List AFr}{dfd:Bool}{ds:List ADef}{flt:Nat→Bool}{g0:CFn}{gd:Option (Nat×Bool)}{h h':H}{k:List AItem}{l:List (Nat×Option AV)}{lh:List (Nat×Option Blk)}{op:COp}{p:Prop}{post:AV→H→Prop}{r:List CI}{ro:Option Nat}{seen:List Nat}{sh:Sh}{t:T Blk}{u v zero:AV}{x y z:O}
structure Gk (h:H)(b:Nat)(x:Blk):Prop where
 e:H.get h b=some x
 lt:b<h.n
section
variable {c:Blk}{x:Option Blk}
theorem Ao6 (k:Gk h b c):Gk (hp h.n h.t []) b c:=k
theorem Ae7:Gk (hp (n+1) t ((n,some c)::lh)) n c:=⟨Hg _ _ _ _ _,Nat.lt_succ_self n⟩
theorem Ao7 (k:Gk (hp n t lh) i c):Gk (hp (n+1) t ((n,x)::lh)) i c:=⟨(Fm _ _ _ _ (Nat.ne_of_lt k.lt)).trans k.e,Nat.lt_succ_of_lt k.lt⟩
theorem Fy (h:b<n):Gk (hp n t ((b,some c)::lh)) b c:=⟨Hg _ _ _ _ _,h⟩
theorem Ao8 (hne:i≠b)(k:Gk (hp n t lh) i c):Gk (hp n t ((b,x)::lh)) i c:=⟨(Fm _ _ _ _ hne).trans k.e,k.lt⟩
theorem Lk (q:Kp S h h')(hs: ¬S i)(k:Gk h i c):Gk h' i c:=⟨q.get k.e k.lt hs,Nat.lt_of_lt_of_le k.lt q.n⟩
theorem Fg (q:K0 h h')(k:Gk h i c):Gk h' i c:=Lk q (fun f=>f) k
end
theorem lkg (h:p:=by
 (repeat(first|assumption|exact Ae7|(apply Ao6;first|assumption|(apply Fg;assumption))|apply Ao7|(refine Fy ?_;omega)|(apply Ao8;first|omega|assumption)))
 (first | done | fail "no")) : p := h
section
variable {q:Bool}
theorem Ri (a:Int):iEq a a=true:=by rw [Ew];exact decide_eq_true rfl
end
section
theorem be {g:CFn}(hf:T.get F f=some g)(hm:memo K f args=some v)(h:H):Ct P E F K f args h fun u h'=>u=v∧h'=h:=by intro Q x cs hG;have h1:=hG v h ⟨rfl,rfl⟩;simp only [B8,hf,Vz,hm];exact h1
variable (L:Lg P E F K)
include L
end
def XCt (P:Program)(E:Env)(f:Nat)(args:List AV)(h:H)(post:AV→H→Prop):Prop:=
 ∀(φ: Phi) (w0 w:World) (args':Array Value),VRs φ args args'.toList→HW E w0 φ h w→
  Calls P f args' w fun e w'=> ∃v v' φ' h',e= .returned v'∧post v h'∧Phi.le φ φ'∧VR φ' v v'∧HW E w0 φ' h' w'
section
theorem Aah {w0:World}{cs0:List Frame}{o:Out}{m:Machine}(h:Goes P E w0 cs0 o m)(g:GO P E Q o): ∃fn v h fr w φ v',Q fn v∧Steps P m (lone fr cs0 w)∧fr.fn=fn∧fr.leaving P w (.returned v')∧VR φ v v'∧HW E w0 φ h w:=by
 cases o with
 |one c=>obtain⟨m',s1,s2⟩:=h;obtain⟨fn,v,hh,fr,w,φ,v',q,s,r⟩:=g w0 cs0 m' s2;exact⟨fn,v,hh,fr,w,φ,v',q,s1.trans s,r⟩
 |many l=>obtain⟨c,hc,m',s1,s2⟩:=h;obtain⟨fn,v,hh,fr,w,φ,v',q,s,r⟩:=g c hc w0 cs0 m' s2;exact⟨fn,v,hh,fr,w,φ,v',q,s1.trans s,r⟩
 |done fn v hh=>obtain⟨fr,w,φ,v',s1,s2,s3,s4,s5⟩:=h;exact⟨fn,v,hh,fr,w,φ,v',g,s1,s2,s3,s4,s5⟩
 |fail=>exact g.elim
variable (L:Lg P E F K)
variable {tm:T AV}
include L
theorem Ajg {dst:Option Nat}(hw:wanted tm gd=some true)(hx:exec op h tm= .call (.func f) args)(hf:T.get F f=some g0)(c:XCt P E f args h post) (g: ∀v h',post v h'→GO P E Q (finish v cs h' ⟨fn,nt,tm,.ops (⟨dst,gd,op⟩::r)::k,ds,.run,dfd,ro⟩)):Good P E Q ⟨⟨fn,nt,tm,.ops (⟨dst,gd,op⟩::r)::k,ds,.run,dfd,ro⟩,cs,h⟩:=by
 intro w0 cs0 m hA;obtain⟨φ,fr,cs1,w,rfl,hfr,hfs,hr⟩:=hA.ex;have hfr0:=hfr;obtain⟨f1,tmps,todo',defers,mode,kind,ro'⟩:=fr;obtain⟨h1,h2,h3,h4,h5,h6,h7⟩:=hfr;simp only at h1 h2 h3 h4 h5 h6 h7 hfs hr
 cases h5
 cases h6 with
 |plain ht hi=>
  cases hi with
  | @cons _ i' _ k' hi hk=>
   obtain⟨ops,td,e1,rfl⟩:=hi.ops_inv
   cases td with
   |nil=>cases e1
   |cons j rest=>
    rw [List.map_cons,List.cons.injEq]at e1;obtain⟨e1,rfl⟩:=e1;rcases Jk E nt ops j with hbad|⟨o,ho,q1,q2,q3,q4⟩;·rw [hbad]at e1;cases e1;cases hx
    ·rw [←e1]at q1 q3 q4;simp only at q1 q3 q4;subst q1;have hwc:=Ef (a:=⟨tmps,defers⟩) ht q3 hw;rw [q4]at hx;have hnd: ∀c,o.op≠ .defer c:=Fe hx (by intro _ _ e;cases e) (by intro e;cases e);have hc:=Qt (P:=P) (w:=w) hr.hr (TR.rho (a:=⟨tmps,defers⟩) ht) hx;have hm:=Nu (P:=P) (b:=⟨f1,tmps,.inRegion ops (j::rest)::k',defers,.run,kind,ro'⟩) (a:=⟨tmps,defers⟩) (w:=w) (cs:=cs1++cs0) (k:=k') (rest:=rest) ho hwc hnd;obtain⟨args',a1,a2⟩:=hc;obtain⟨fn2,cc,p1,p2,p3,p4⟩:=L.hT.fn f g0 hf;have hen:=hm.1 _ _ _ (a2 fn2 p1 p2 (by rw [p3];rfl));obtain⟨e,w',fr',⟨v,v',φ',h',rfl,k1,k2,k3,k4⟩,k5,k6,k7⟩:=c φ w0 w args' a1 hr (⟨f1,tmps,.inRegion ops (j::rest)::k',defers,.run,kind,ro'⟩::(cs1++cs0));have hfin:=Ld (P:=P) (m:=lone ⟨f1,tmps,.inRegion ops (j::rest)::k',defers,.run,kind,ro'⟩ (cs1++cs0) w) k4 (hfr0.mono k2) (hfs.mono k2) k3 L.hE (.head hen (Steps.trans k5 (.one (step_leave_returned k7))));exact Aah hfin (g v h' k1)
end
section
variable (L:Lg P E F K)
include L
theorem To {a:List O}{va cp:List AV}(hg:gdO gd l=some true)(e:evO l x=some (.fn (.func f) [] cp))(ha:Fo l a=some va)(hr:Eo va cp=some args)(hf:T.get F f=some g0)(hc:XCt P E f args h post) (g: ∀v h',post v h'→Good P E Q ⟨⟨fn,nt,tms ((d,some v)::l),.ops r::k,ds,.run,dfd,ro⟩,cs,hp h'.n h'.t []⟩): Good P E Q ⟨⟨fn,nt,tms l,.ops (⟨some d,gd,.callv x a⟩::r)::k,ds,.run,dfd,ro⟩,cs,h⟩:= Ajg L (Aw hg) (Ik e ha hr) hf hc fun v h' p=>N0 L cvb (g v h' p)
end
theorem Acy (h:p:=by
 simp only [List.map_cons,List.map_nil,List.mem_singleton]at hb
 rw [←hb,←e];exact ha):p:=h
theorem Ajh {es:List AEnt}(h:b<n):Mk (hp n t ((b,some (.map es ck))::lh)) b es ck:=⟨Hg _ _ _ _ _,h⟩
theorem lkq (h:p:=by
 (repeat(first|assumption|exact sr|(apply Aix;first|assumption|(apply Rb;assumption)|(apply Me;assumption;(first|omega|(dsimp only;omega))))|apply Aiy|(refine Ajh ?_;omega)|(apply Aiz;first|omega|assumption)))
 (first | done | fail "no")) : p := h
structure KE {α: Type}[DecidableEq α](sh:Sh)(enc:α→AV):Prop where
 eq: ∀a b,eqv 20 sh (enc a) (enc b)=some (decide (a=b))
 ok: ∀a,Oj sh (enc a)=true
 keq: ∀a,Fs (enc a) (enc a)=true
theorem KE.int (k:IntKind):KE .pint (fun a:Int=>AV.int k a):=
 ⟨fun a b=>by show(match kEq k k with|true=>some (iEq a b)|false=>none)=_;rw [Bb,Ew],fun _=>rfl,fun a=>by show(match kEq k k with|true=>iEq a a|false=>false)=true;rw [Bb];exact Ri a⟩
section
variable {α:Type}[DecidableEq α]{enc:α→AV}
def mE (enc:α→AV)(x:α×AV×Nat):AEnt:=⟨enc x.1,x.2.1,x.2.2⟩
def A5 (M:List (α×AV×Nat))(k:α):Option AV:=(M.find? fun x=>decide (k=x.1)).map (·.2.1)
def Gs (M:List (α×AV×Nat))(k:α)(v:AV):List (α×AV×Nat):=M.map fun x=>if k=x.1 then(k,v,x.2.2)else x
def Il (M:List (α×AV×Nat))(k:α):Bool:=M.any fun x=>decide (k=x.1)
def C7 (M:List (α×AV×Nat))(ck:Nat)(k:α)(v:AV):List (α×AV×Nat):=if Il M k then Gs M k v else M++ [(k,v,ck)]
def mCk (M:List (α×AV×Nat))(ck:Nat)(k:α):Nat:=if Il M k then ck else ck+1
def I5 (M:List (α×AV×Nat))(k:α):List (α×AV×Nat):=M.filter fun x=>decide (k≠x.1)
structure MOk (M:List (α×AV×Nat))(ck:Nat):Prop where
 keys:(M.map (·.1)).Nodup
 borns:(M.map (·.2.2)).Nodup
 lt: ∀x∈M,x.2.2<ck
theorem MOk.nil:MOk ([]:List (α×AV×Nat)) 0:=⟨List.nodup_nil,List.nodup_nil,fun x hx=>by cases hx⟩
theorem bf (e:KE sh enc)(k:α): ∀M:List (α×AV×Nat),Gz (eqv 20 sh) (enc k) (M.map (mE enc))=some ((M.find? fun x=>decide (k=x.1)).map (mE enc))
 | []=>rfl
 |x::r=>by
  simp only [List.map_cons,Gz,List.find?_cons];show(match eqv 20 sh (enc k) (enc x.1)with|some true=>_|some false=>_|none=>_)=_;rw [e.eq];by_cases h:k=x.1;·rw [decide_eq_true h];rfl
  ·rw [decide_eq_false h];exact bf e k r
theorem Mf (e:KE sh enc)(k:α)(M:List (α×AV×Nat)):Ja sh (enc k) (M.map (mE enc))=some ((M.find? fun x=>decide (k=x.1)).map (mE enc)):=by unfold Ja;rw [e.ok];exact bf e k M
theorem Cx (M:List (α×AV×Nat))(k:α):Il M k=(M.find? fun x=>decide (k=x.1)).isSome:=by
 unfold Il;induction M with
 |nil=>rfl
 |cons x r ih=>
  rw [List.any_cons,List.find?_cons];by_cases h:k=x.1;·rw [decide_eq_true h];rfl
  ·rw [decide_eq_false h,ih];rfl
theorem mHas_mem {M:List (α×AV×Nat)}{k:α}:Il M k=true↔k∈M.map (·.1):=by
 unfold Il;simp only [List.any_eq_true,decide_eq_true_eq,List.mem_map];constructor;·rintro⟨x,h1,h2⟩;exact⟨x,h1,h2.symm⟩
 ·rintro⟨x,h1,h2⟩;exact⟨x,h1,h2.symm⟩
theorem Yy (e:KE sh enc)(k:α)(v:AV): ∀M:List (α×AV×Nat),(M.map (·.1)).Nodup→Il M k=true→Uh (eqv 20 sh) (enc k) v (M.map (mE enc))=some ((Gs M k v).map (mE enc))
 | [],_,h=>by cases h
 |x::r,hn,h=>by
  rw [List.map_cons,List.nodup_cons]at hn;simp only [List.map_cons,Uh];show(match eqv 20 sh (enc k) (enc x.1)with|some true=>_|some false=>_|none=>_)=_;rw [e.eq];by_cases hk:k=x.1
  ·rw [decide_eq_true hk];have h1:Gs r k v=r:=by
    unfold Gs;conv=>rhs;rw [←List.map_id r]
    refine List.map_congr_left fun y hy=>?_;have:k≠y.1:=fun q=>hn.1 (by rw [←hk,q];exact List.mem_map_of_mem hy);rw [if_neg this];rfl
   show(match Fs (enc k) (enc x.1)with|true=>_|false=>_)=_;rw [←hk,e.keq];simp only [Gs,List.map_cons,if_pos hk];have h2:List.map (fun x=>if k=x.1 then(k,v,x.2.2)else x) r=r:=h1;rw [h2];rfl
  ·rw [decide_eq_false hk];have h2:Il r k=true:=(by unfold Il at h ⊢;rw [List.any_cons,decide_eq_false hk]at h;exact h);simp only [Yy e k v r hn.2 h2];simp only [Gs,List.map_cons,if_neg hk]
theorem te (e:KE sh enc)(k:α): ∀M:List (α×AV×Nat),(M.map (·.1)).Nodup→Xz (eqv 20 sh) (enc k) (M.map (mE enc))=some ((I5 M k).map (mE enc))
 | [],_=>rfl
 |x::r,hn=>by
  rw [List.map_cons,List.nodup_cons]at hn;simp only [List.map_cons,Xz];show(match eqv 20 sh (enc k) (enc x.1)with|some true=>_|some false=>_|none=>_)=_;rw [e.eq];by_cases hk:k=x.1;·rw [decide_eq_true hk];have h1:I5 r k=r:=(by unfold I5;rw [List.filter_eq_self];intro y hy;have:k≠y.1:=fun q=>hn.1 (by rw [←hk,q];exact List.mem_map_of_mem hy);exact decide_eq_true this);simp only [I5,List.filter_cons,hk,ne_eq,not_true_eq_false,decide_false,Bool.false_eq_true,if_false];rw [hk]at h1;unfold I5 at h1;rw [h1]
  ·rw [decide_eq_false hk];simp only [te e k r hn.2];simp only [I5,List.filter_cons,decide_eq_true hk,ne_eq,if_true,List.map_cons]
theorem MOk.put {M:List (α×AV×Nat)}{ck:Nat}(q:MOk M ck)(k:α)(v:AV):MOk (Gs M k v) ck:=by
 have h1:(Gs M k v).map (·.1)=M.map (·.1):=by
  unfold Gs;rw [List.map_map];refine List.map_congr_left fun x _=>?_;show(if k=x.1 then(k,v,x.2.2)else x).1=x.1;by_cases h:k=x.1;·rw [if_pos h];exact h
  ·rw [if_neg h]
 have h2:(Gs M k v).map (·.2.2)=M.map (·.2.2):=by
  unfold Gs;rw [List.map_map];refine List.map_congr_left fun x _=>?_;show(if k=x.1 then(k,v,x.2.2)else x).2.2=x.2.2;by_cases h:k=x.1;·rw [if_pos h]
  ·rw [if_neg h]
 refine⟨by rw [h1];exact q.keys,by rw [h2];exact q.borns,fun x hx=>?_⟩;have h3:x.2.2∈(Gs M k v).map (·.2.2):=List.mem_map_of_mem hx;rw [h2]at h3;obtain⟨y,h4,h5⟩:=List.mem_map.1 h3;rw [←h5];exact q.lt y h4
theorem MOk.set {M:List (α×AV×Nat)}(q:MOk M ck)(k:α)(v:AV):MOk (C7 M ck k v) (mCk M ck k):=by
 unfold C7 mCk;by_cases h:Il M k=true;·rw [if_pos h,if_pos h];exact q.put k v
 ·rw [if_neg h,if_neg h];refine⟨?_,?_,fun x hx=>?_⟩;·rw [List.map_append,List.nodup_append];refine⟨q.keys,by simp,fun a ha b hb e=>h (mHas_mem.2 ?_)⟩;exact Acy
  ·rw [List.map_append,List.nodup_append];refine⟨q.borns,by simp,fun a ha b hb e=>?_⟩;simp only [List.map_cons,List.map_nil,List.mem_singleton]at hb;obtain⟨y,h1,h2⟩:=List.mem_map.1 ha;have:=q.lt y h1;omega
  ·rcases List.mem_append.1 hx with hx|hx;·have:=q.lt x hx;omega
   ·rw [List.mem_singleton]at hx;subst hx;exact Nat.lt_succ_self ck
theorem MOk.del {M:List (α×AV×Nat)}(q:MOk M ck)(k:α):MOk (I5 M k) ck:= ⟨q.keys.sublist (List.filter_sublist.map _),q.borns.sublist (List.filter_sublist.map _),fun x hx=>q.lt x (List.mem_filter.1 hx).1⟩
theorem tf (M:List (α×AV×Nat))(k k':α)(v:AV):A5 (Gs M k v) k'=if k'=k then(if Il M k then some v else none)else A5 M k':=by
 induction M with
 |nil=>simp [A5,Gs,Il]
 |cons x r ih=>
  unfold A5 Gs Il at ih ⊢;simp only [List.map_cons,List.find?_cons,List.any_cons];by_cases h:k=x.1
  ·rw [if_pos h];by_cases h2:k'=k;·subst h2;simp [h]
   ·have h3:k'≠x.1:=fun q=>h2 (q.trans h.symm);simp only [decide_eq_false h2,decide_eq_false h3,if_neg h2]at ih ⊢;exact ih
  ·rw [if_neg h];by_cases h2:k'=x.1;·have h3:k'≠k:=fun q=>h (q.symm.trans h2);rw [if_neg h3];simp only [decide_eq_true h2]
   ·simp only [decide_eq_false h2,decide_eq_false h,Bool.false_or]at ih ⊢;exact ih
theorem tg (M:List (α×AV×Nat))(k k':α)(v:AV)(ck:Nat):A5 (M++ [(k,v,ck)]) k'=match A5 M k' with
 |some u=>some u
 |none=>if k'=k then some v else none:=by
 unfold A5
 rw [List.find?_append]
 cases M.find? fun x=>decide (k'=x.1)with
 |some x=>rfl
 |none=>
  simp only [Option.none_or,List.find?_cons,List.find?_nil,Option.map_none]
  by_cases h:k'=k
  ·simp [h]
  ·simp [h]
theorem mGet_none {M:List (α×AV×Nat)}{k:α}:A5 M k=none↔Il M k=false:=by unfold A5;rw [Cx];cases M.find? fun x=>decide (k=x.1) <;> simp
theorem Bz (M:List (α×AV×Nat))(ck:Nat)(k k':α)(v:AV):A5 (C7 M ck k v) k'=if k'=k then some v else A5 M k':=by
 unfold C7;by_cases h:Il M k=true;·rw [if_pos h,tf];simp [h]
 ·rw [if_neg h,tg];have h1:A5 M k=none:=mGet_none.2 (by simpa using h);by_cases h2:k'=k;·subst h2;rw [h1]
  ·rw [if_neg h2];cases A5 M k' <;> simp [h2]
theorem Jo (M:List (α×AV×Nat))(k k':α):A5 (I5 M k) k'=if k'=k then none else A5 M k':=by
 induction M with
 |nil=>simp [A5,I5]
 |cons x r ih=>
  unfold A5 I5 at ih ⊢;rw [List.filter_cons];by_cases h:k=x.1
  ·simp only [h,ne_eq,not_true_eq_false,decide_false,Bool.false_eq_true,if_false,List.find?_cons];rw [h]at ih;simp only [ne_eq]at ih;rw [ih];by_cases h2:k'=x.1;·rw [if_pos h2,if_pos h2]
   ·rw [if_neg h2,if_neg h2,decide_eq_false h2]
  ·simp only [ne_eq,h,not_false_eq_true,decide_true,if_true,List.find?_cons];by_cases h2:k'=x.1;·rw [decide_eq_true h2];have h3:k'≠k:=fun q=>h (q.symm.trans h2);rw [if_neg h3]
   ·rw [decide_eq_false h2];simp only [ne_eq]at ih;exact ih
variable {r:Nat}{M:List (α×AV×Nat)}{k:α}
def Ao9 (zero:AV):Option AV→AV
 |some v=> .tup [v,.bool true]
 |none=> .tup [zero,.bool false]
theorem D6 (e:KE sh enc)(hx:evO l x=some (.map r))(hy:evO l y=some (enc k))(hb:Mk h r (M.map (mE enc)) ck):XV (.lookup sh zero x y true) h l (Ao9 zero (A5 M k)) h:=by
 refine⟨?_⟩;simp only [exec,Ah,Ab hx,Ab hy,hb.e,Mf e];unfold A5
 cases M.find? fun x=>decide (k=x.1)with
 |none=>rfl
 |some x=>rfl
theorem Db (e:KE sh enc)(hx:evO l x=some (.map r))(hy:evO l y=some (enc k))(hb:Mk h r (M.map (mE enc)) ck):XV (.lookup sh zero x y false) h l ((A5 M k).getD zero) h:=by
 refine⟨?_⟩;simp only [exec,Ah,Ab hx,Ab hy,hb.e,Mf e];unfold A5
 cases M.find? fun x=>decide (k=x.1)with
 |none=>rfl
 |some x=>rfl
theorem Ez (e:KE sh enc)(q:MOk M ck)(hx:evO l x=some (.map r))(hy:evO l y=some (enc k))(hz:evO l z=some v)(hb:Mk (hp n t lh) r (M.map (mE enc)) ck): XV (.mupd sh x y z) (hp n t lh) l .unk (hp n t ((r,some (.map ((C7 M ck k v).map (mE enc)) (mCk M ck k)))::lh)):=by
 refine⟨?_⟩;simp only [exec,Ah,Ab hx,Ab hy,Ab hz,hb.e,Mf e];unfold C7 mCk;by_cases h:Il M k=true;·rw [if_pos h,if_pos h];have h1:=h;rw [Cx]at h1;obtain⟨u,hu⟩:=Option.isSome_iff_exists.1 h1;simp only [hu,Option.map_some,Yy e k v M q.keys h];rfl
 ·rw [if_neg h,if_neg h];have h1:(M.find? fun x=>decide (k=x.1))=none:=by rw [Cx]at h;exact Option.not_isSome_iff_eq_none.1 h
  simp only [h1,Option.map_none];rw [List.map_append];rfl
theorem Ll (e:KE sh enc)(q:MOk M ck)(hx:evO l x=some (.map r))(hy:evO l y=some (enc k))(hb:Mk (hp n t lh) r (M.map (mE enc)) ck): XV (.delete sh x y) (hp n t lh) l (.tup []) (hp n t ((r,some (.map ((I5 M k).map (mE enc)) ck))::lh)):=by refine⟨?_⟩;simp only [exec,Ah,Ab hx,Ab hy,hb.e,e.ok,te e k M q.keys];rfl
theorem th (hx:evO l x=some (.map r))(hb:Mk h r (M.map (mE enc)) ck):XV (.lenM x) h l (AN M.length) h:=by refine⟨?_⟩;simp only [exec,Ah,Ab hx,hb.e,List.length_map];rfl
end
theorem Aji (h:p:=by
 intro hn a ha b hb e
 rw [List.map_cons,List.nodup_cons]at hn
 rcases List.mem_cons.1 ha with ea|ha
 ·rcases List.mem_cons.1 hb with eb|hb
  ·rw [ea,eb]
  ·exact absurd (by rw [←ea,e];exact List.mem_map_of_mem hb) hn.1
 ·rcases List.mem_cons.1 hb with eb|hb
  ·exact absurd (by rw [←eb,←e];exact List.mem_map_of_mem ha) hn.1
  ·exact ih hn.2 a ha b hb e):p:=h
section
variable {α:Type}[DecidableEq α]{enc:α→AV}
variable {r:Nat}{M:List (α×AV×Nat)}{k:α}
def mSlot (M:List (α×AV×Nat))(ck:Nat)(k:α):Nat:=match M.find? fun x=>decide (k=x.1)with
 |some x=>x.2.2
 |none=>ck
theorem ti {M:List (α×AV×Nat)}{k:α}{x:α×AV×Nat}(h:(M.find? fun x=>decide (k=x.1))=some x):x∈M∧k=x.1:= ⟨List.mem_of_find?_eq_some h,by have:=List.find?_some h;simpa using this⟩
theorem U3 (e:KE sh enc)(q:MOk M ck)(hx:evO l x=some (.map r))(hy:evO l y=some (enc k))(hb:Mk (hp n t lh) r (M.map (mE enc)) ck): XV (.ment sh zero x y) (hp n t lh) l (.tup [(A5 M k).getD zero,AN (mSlot M ck k)]) (hp n t ((r,some (.map ((C7 M ck k ((A5 M k).getD zero)).map (mE enc)) (mCk M ck k)))::lh)):=by
 refine⟨?_⟩;simp only [exec,Ah,Ab hx,Ab hy,hb.e,Mf e];unfold C7 mCk A5 mSlot;by_cases h:Il M k=true;·rw [if_pos h,if_pos h];have h1:=h;rw [Cx]at h1;obtain⟨u,hu⟩:=Option.isSome_iff_exists.1 h1;simp only [hu,Option.map_some,Option.getD_some];have:(mE enc u).val=u.2.1:=rfl;simp only [this,Yy e k u.2.1 M q.keys h];rfl
 ·rw [if_neg h,if_neg h];have h1:(M.find? fun x=>decide (k=x.1))=none:=by rw [Cx]at h;exact Option.not_isSome_iff_eq_none.1 h
  simp only [h1,Option.map_none,Option.getD_none];rw [List.map_append];rfl
theorem bg (b:Nat)(v:AV): ∀(M:List (α×AV×Nat)) (k:α),(M.map (·.2.2)).Nodup→(∀x∈M,k=x.1↔x.2.2=b)→(∃x∈M,x.2.2=b)→H8 b v (M.map (mE enc))=some ((Gs M k v).map (mE enc))
 | [],k,_,_,⟨x,hx,_⟩=>by cases hx
 |y::r,k,hn,hk,hex=>by
  rw [List.map_cons,List.nodup_cons]at hn;simp only [List.map_cons,H8];show(match Nat.beq y.2.2 b with|true=>_|false=>_)=_;have hky:=hk y (List.mem_cons_self ..);by_cases h:y.2.2=b
  ·rw [show Nat.beq y.2.2 b=true by rw [Nat.beq_eq];exact h];have h1:Gs r k v=r:=by
    unfold Gs;conv=>rhs;rw [←List.map_id r]
    refine List.map_congr_left fun z hz=>?_;have:k≠z.1:=fun q=>by have h2:=(hk z (List.mem_cons_of_mem _ hz)).1 q;exact hn.1 (by rw [h,←h2];exact List.mem_map_of_mem hz)
    rw [if_neg this];rfl
   have h3:=hky.2 h;simp only [Gs,List.map_cons,if_pos h3];have h2:List.map (fun x=>if k=x.1 then(k,v,x.2.2)else x) r=r:=h1;rw [h2];simp only [mE,h3]
  ·rw [show Nat.beq y.2.2 b=false from Gr h];have h4: ∃x∈r,x.2.2=b:=by
    obtain⟨x,h5,h6⟩:=hex;rcases List.mem_cons.1 h5 with rfl|h5;·exact absurd h6 h
    ·exact⟨x,h5,h6⟩
   have h3: ¬k=y.1:=fun q=>h (hky.1 q);simp only [bg b v r k hn.2 (fun x hx=>hk x (List.mem_cons_of_mem _ hx)) h4];simp only [Gs,List.map_cons,if_neg h3]
theorem im (q:MOk M ck):(∀x∈C7 M ck k u,k=x.1↔x.2.2=mSlot M ck k)∧ ∃x∈C7 M ck k u,x.2.2=mSlot M ck k:=by
 have q2:=q.set k u;have hex: ∃x∈C7 M ck k u,k=x.1∧x.2.2=mSlot M ck k:=by
  unfold C7 mSlot;by_cases h:Il M k=true;·rw [if_pos h];have h1:=h;rw [Cx]at h1;obtain⟨w,hw⟩:=Option.isSome_iff_exists.1 h1;obtain⟨h2,h3⟩:=ti hw;rw [hw];exact⟨(k,u,w.2.2),List.mem_map.2 ⟨w,h2,if_pos h3⟩,rfl,rfl⟩
  ·rw [if_neg h];have h1:(M.find? fun x=>decide (k=x.1))=none:=(by rw [Cx]at h;exact Option.not_isSome_iff_eq_none.1 h);rw [h1];exact⟨(k,u,ck),List.mem_append_right _ (List.mem_singleton.2 rfl),rfl,rfl⟩
 obtain⟨x,h1,h2,h3⟩:=hex;refine⟨fun y hy=>?_,x,h1,h3⟩;have inj1: ∀{β: Type} (f:α×AV×Nat→β) (L:List (α×AV×Nat)),(L.map f).Nodup→ ∀a∈L,∀b∈L,f a=f b→a=b:=by
  intro β f L;induction L with
  |nil=>intro _ a ha;cases ha
  |cons c L ih=>exact Aji
 constructor;·intro e;rw [inj1 (·.1) _ q2.keys y hy x h1 (by show y.1=x.1;rw [←e,←h2])];exact h3
 ·intro e;rw [inj1 (·.2.2) _ q2.borns y hy x h1 (by show y.2.2=x.2.2;rw [e,h3])];exact h2
theorem tj (u v:AV):Gs (C7 M ck k u) k v=C7 M ck k v:=by
 unfold C7;by_cases h:Il M k=true
 ·rw [if_pos h,if_pos h];unfold Gs;rw [List.map_map];refine List.map_congr_left fun x _=>?_;show(if k=(if k=x.1 then(k,u,x.2.2)else x).1 then _ else _)=_;by_cases hk:k=x.1;·simp [if_pos hk]
  ·simp [if_neg hk]
 ·rw [if_neg h,if_neg h];unfold Gs;rw [List.map_append];congr 1
  ·conv=>rhs;rw [←List.map_id M]
   refine List.map_congr_left fun x hx=>?_;have: ¬k=x.1:=fun q=>h (mHas_mem.2 (by rw [q];exact List.mem_map_of_mem hx));rw [if_neg this];rfl
  ·simp
theorem Mg {kk:IntKind}(q:MOk M ck)(hx:evO l x=some (.map r))(hy:evO l y=some (.int kk ((mSlot M ck k:Nat):Int)))(hz:evO l z=some v)(hb:Mk (hp n t lh) r ((C7 M ck k u).map (mE enc)) (mCk M ck k)): XV (.mstore x y z) (hp n t lh) l .unk (hp n t ((r,some (.map ((C7 M ck k v).map (mE enc)) (mCk M ck k)))::lh)):=by refine⟨?_⟩;obtain⟨h1,h2⟩:=im (k:=k) (u:=u) q;have h3:=bg (enc:=enc) (mSlot M ck k) v _ k (q.set k u).borns h1 h2;rw [tj]at h3;have hy':evL l y= .int kk (Int.ofNat (mSlot M ck k)):=Ab hy;simp only [exec,Ah,Ab hx,hy',Ab hz,hb.e,h3];rfl
theorem U4 (hx:evO l x=some (.map r)){es:List AEnt}(hb:Mk (hp n t lh) r es ck):XV (.rangeM x) (hp n t lh) l (.ptr n 0) (hp (n+1) t ((n,some (.miter (some r) ck [] ck))::lh)):=by refine⟨?_⟩;simp only [exec,Ah,Ab hx,hb.e];rfl
theorem Ws (b:Nat): ∀s:List Nat,Ni b s=decide (b∈s)
 | []=>by simp [Ni]
 |a::s=>by
  simp only [Ni];by_cases h:a=b;·rw [show Nat.beq a b=true by rw [Nat.beq_eq];exact h];simp [h]
  ·rw [show Nat.beq a b=false from Gr h];simp only [Ws b s,List.mem_cons];simp [show¬b=a from fun q=>h q.symm]
theorem bh (ck:Nat)(seen:List Nat): ∀M:List (α×AV×Nat),(∀x∈M,x.2.2<ck)→Ol ck seen (M.map (mE enc))=some ((M.filter fun x=>decide (x.2.2∉seen)).map (mE enc))
 | [],_=>rfl
 |x::r,h=>by
  simp only [List.map_cons,Ol,bh ck seen r fun y hy=>h y (List.mem_cons_of_mem _ hy)];show(match Ni x.2.2 seen with|true=>_|false=>_)=_;rw [Ws,List.filter_cons];by_cases hs:x.2.2∈seen;·simp [hs]
  ·have h1:Nat.ble (Nat.succ x.2.2) ck=true:=(by rw [Nat.ble_eq];exact h x (List.mem_cons_self ..));simp only [decide_eq_false hs,hs,not_false_eq_true,decide_true,if_true,List.map_cons];show(match Nat.ble (Nat.succ x.2.2) ck with|true=>_|false=>_)=_;rw [h1]
theorem Ae8 (ck:Nat)(seen:List Nat)(M:List (α×AV×Nat))(h: ∀x∈M,x.2.2<ck):J8 ck seen (M.map (mE enc))=true:=by
 unfold J8;split;·rfl
 ·rfl
 ·rename_i s es h1 h2
  cases M with
  |nil=>exact absurd rfl h2
  |cons x r=>rw [List.map_cons,List.any_cons];have h1:Nat.ble (Nat.succ x.2.2) ck=true:=(by rw [Nat.ble_eq];exact h x (List.mem_cons_self ..));show(Nat.ble (Nat.succ x.2.2) ck || _)=true;rw [h1];rfl
end
section
variable {l' q:List (Nat×Option AV)}{td':List AItem}
variable {nm:List Nat}{pre chk:List DI}{ps:List Ph}
variable (L:Lg P E F K)
include L
theorem Lm (hg:gdO gd l=some true)(hx:XV op h l v h')(ha:adv 1000 (.ops r::k) l=(td',l'))(g:Good P E Q ⟨⟨fn,nt,tms l',td',ds,.run,dfd,ro⟩,cs,h'⟩): Good P E Q ⟨⟨fn,nt,tms l,.ops (⟨none,gd,op⟩::r)::k,ds,.run,dfd,ro⟩,cs,h⟩:= Eg L (Aw hg) hx.e (Bn L 1000 ha g)
theorem Mh (ho:Co l nm=some q)(hg:gdO gd q=some true)(hx:XV op h q v h') (g:Bo P E Q pre chk ps k fn nt (tms l) ds dfd ro cs h'):Good P E Q ⟨⟨fn,nt,tms l,.drawn ⟨⟨⟨none,gd,op⟩,nm⟩,pre,chk⟩ ps::k,ds,.run,dfd,ro⟩,cs,h⟩:= av L (dst:=none) (by rw [Bx ho];exact Aw hg) (by rw [Bx ho];exact hx.e) g
variable {α:Type}[DecidableEq α]{enc:α→AV}{M:List (α×AV×Nat)}
theorem U5 (hg:gdO gd l=some true)(hx:evO l x=some (.ptr it 0))(hi:Gk (hp n t lh) it (.miter (some m) ck seen ck))(hm:Mk (hp n t lh) m (M.map (mE enc)) ck)(hlt: ∀y∈M,y.2.2<ck) (done:(∀y∈M,y.2.2∈seen)→Good P E Q ⟨⟨fn,nt,tms ((d,some (.tup [.bool false]))::l),.ops r::k,ds,.run,dfd,ro⟩,cs,hp n t lh⟩) (more: ∀y∈M,y.2.2∉seen→Good P E Q ⟨⟨fn,nt,tms ((d,some (.tup [.bool true,enc y.1,y.2.1]))::l),.ops r::k,ds,.run,dfd,ro⟩,cs,hp n t ((it,some (.miter (some m) ck (seen++ [y.2.2]) ck))::lh)⟩): Good P E Q ⟨⟨fn,nt,tms l,.ops (⟨some d,gd,.nextM x⟩::r)::k,ds,.run,dfd,ro⟩,cs,hp n t lh⟩:=by
 have h1:=bh (enc:=enc) ck seen M hlt;have h2:=Ae8 (enc:=enc) ck seen M hlt
 cases hf:M.filter fun x=>decide (x.2.2∉seen)with
 |nil=>
  rw [hf]at h1;have hx2:exec (.nextM x) (hp n t lh) (tms l)= .val (.tup [.bool false]) (hp n t lh):=by simp only [exec,Ah,Ab hx,hi.e,hm.e,h1,h2];rfl
  refine Eg L (Aw hg) hx2 (done fun y hy=>?_);have:=List.filter_eq_nil_iff.1 hf y hy;simpa using this
 |cons y0 ys=>
  rw [hf]at h1;have hx2:exec (.nextM x) (hp n t lh) (tms l)= .next (List.map (fun e=>(.tup [.bool true,e.key,e.val],H.set (hp n t lh) it (.miter (some m) ck (List.append seen [e.born]) ck))) ((y0::ys).map (mE enc))):=by simp only [exec,Ah,Ab hx,hi.e,hm.e,h1,h2];rfl
  refine Q3 L (Aee (Aw hg) hx2 ?_);rintro z hz;rw [List.map_map,List.mem_map]at hz;obtain⟨y,hy,rfl⟩:=hz;rw [←hf,List.mem_filter]at hy;exact more y hy.1 (by simpa using hy.2)
end
section
variable {α:Type}[DecidableEq α]{enc:α→AV}{M:List (α×AV×Nat)}
theorem Tp: ∀(M:List (α×AV×Nat)) (y:α×AV×Nat),(M.map (·.2.2)).Nodup→y∈M→Hn y.2.2 (M.map (mE enc))=some (mE enc y)
 | [],_,_,h=>by cases h
 |x::r,y,hn,hy=>by
  rw [List.map_cons,List.nodup_cons]at hn;simp only [List.map_cons,Hn];show(match Nat.beq x.2.2 y.2.2 with|true=>_|false=>_)=_;rcases List.mem_cons.1 hy with rfl|hy;·rw [Nat.beq_refl]
  ·have:x.2.2≠y.2.2:=fun q=>hn.1 (by rw [q];exact List.mem_map_of_mem hy);rw [Gr this];exact Tp r y hn.2 hy
theorem bj {y:α×AV×Nat}(q:MOk M ck)(hx:evO l x=some (.ptr it 0))(hi:Gk h it (.miter (some m) ck (seen++ [y.2.2]) ck))(hm:Mk h m (M.map (mE enc)) ck)(hy:y∈M): XV (.entry x) h l (.tup [enc y.1,y.2.1]) h:=by
 refine⟨?_⟩;have h1:(seen++ [y.2.2]).getLast?=some y.2.2:=by simp
 have h2:Nat.beq ck ck=true:=Nat.beq_refl ck;simp only [exec,Ah,Ab hx,hi.e,hm.e,h1,h2,Tp (enc:=enc) M y q.borns hy];rfl
end
structure Pg where
 st:Nat
 b:List Nat
structure Bl where
 pg:Nat→Pg
 nx:Nat
 er:Nat
structure Dv where
 nb:Nat
 P:Nat
 sz:Nat
 en:Nat
 bl:Nat→Bl
 n:Nat
 cut:Int
 byt:Nat
 off:Bool
 flt:Nat→Bool
def Dd (s:Nat):Nat→Pg:=fun _=>⟨s,[]⟩
def upd {α: Type}(f:Nat→α)(i:Nat)(x:α):Nat→α:= fun j=>if j=i then x else f j
theorem upd_eq {α: Type}(f:Nat→α)(i:Nat)(x:α):upd f i x i=x:=if_pos rfl
theorem upd_ne {α: Type}(f:Nat→α){j:Nat}(x:α)(h:j≠i):upd f i x j=f j:=if_neg h
def Dv.new (nb P sz en:Nat)(flt:Nat→Bool):Dv:=⟨nb,P,sz,en,fun _=>⟨Dd 1,0,0⟩,0,-1,0,false,flt⟩
def Dv.erase (D:Dv)(i:Int):Dv×Nat:=
 if 0≤i∧i<D.nb then
  if D.off=true then(D,50)
  else if D.en≤(D.bl i.toNat).er then(D,56)
  else if(D.n:Int)=D.cut then({D with bl:=upd D.bl i.toNat ⟨Dd 5,D.P,(D.bl i.toNat).er+1⟩,n:=D.n+1,off:=true},50)
  else if D.flt D.n=true then({D with bl:=upd D.bl i.toNat ⟨Dd 5,D.P,(D.bl i.toNat).er+1⟩,n:=D.n+1},55)
  else({D with bl:=upd D.bl i.toNat ⟨Dd 1,0,(D.bl i.toNat).er+1⟩,n:=D.n+1},0)
 else(D,2)
structure Dv.Geo (D:Dv):Prop where
 nb:2≤D.nb∧D.nb≤12
 P:2≤D.P∧D.P≤6
 sz:12≤D.sz∧D.sz≤30
 en:1≤D.en∧D.en≤1000
structure Pg.Ok (sz:Nat)(p:Pg):Prop where
 full:p.st=2∨p.st=3→p.b.length=sz+64
 none:p.st≠2→p.st≠3→p.b= []
 st:1≤p.st∧p.st≤5
structure Bl.Ok (D:Dv)(x:Bl):Prop where
 nx:x.nx≤D.P
 lo: ∀j,j<x.nx→(x.pg j).st≠1
 hi: ∀j,x.nx≤j→j<D.P→(x.pg j).st=1
 pg: ∀j,j<D.P→(x.pg j).Ok D.sz
 er:x.er≤D.en
structure Dv.Ok (D:Dv):Prop where
 g:D.Geo
 n:D.n<100000
 byt:D.byt≤D.sz+64
 cut: -1≤D.cut∧D.cut<100000
 bl: ∀i,i<D.nb→(D.bl i).Ok D
structure BS (h:H)(b o:Nat)(bs:List Nat):Prop where
 ex: ∃c,Bk h b c∧o+bs.length≤c.length∧ ∀i,i<bs.length→c[o+i]?=some (.int .u8 ((bs.getD i 0:Nat):Int))
 lt: ∀i,i<bs.length→bs.getD i 0<256
theorem BS.lt_n {bs:List Nat}(k:BS h b o bs):b<h.n:=let⟨_,q,_⟩:=k.ex;q.lt
theorem BS.kp {bs:List Nat}(k:BS h b o bs)(q:Kp S h h')(hs: ¬S b):BS h' b o bs:= ⟨let⟨c,h1,h2,h3⟩:=k.ex;⟨c,Aq q hs h1,h2,h3⟩,k.lt⟩
theorem BS.k0 {bs:List Nat}(k:BS h b o bs)(q:K0 h h'):BS h' b o bs:=k.kp q fun f=>f
theorem U6 {bs:List Nat}(k:BS h b o bs)(e:evO l x=some (.ptr b (o+i)))(hi:i<bs.length):XV (.load1 x) h l (.int .u8 ((bs.getD i 0:Nat):Int)) h:=
 let⟨_,h1,_,h3⟩:=k.ex;C5 e h1 (h3 i hi)
theorem Wt (bs:List Nat)(i:Nat)(hi:i<bs.length):(B7 bs)[i]?=some (.int .u8 ((bs.getD i 0:Nat):Int)):=by simp [B7,List.getD_eq_getElem?_getD,hi]
theorem Mj {bs:List Nat}(k:Bk h b (B7 bs))(lt: ∀i,i<bs.length→bs.getD i 0<256):BS h b 0 bs:= ⟨⟨_,k,by simp [B7],fun i hi=>by rw [Nat.zero_add];exact Wt bs i hi⟩,lt⟩
abbrev eI (z:Int):AV:= .int .i64 z
structure FltR (h:H)(fm:Nat)(flt:Nat→Bool):Prop where
 ex: ∃M ck,Mk h fm (M.map (mE eI)) ck∧ ∀i:Nat,A5 M (i:Int)=if flt i=true then some (.bool true)else none
theorem FltR.lt (q:FltR h fm flt):fm<h.n:=let⟨_,_,k,_⟩:=q.ex;k.lt
theorem FltR.kp (k:Kp S h h')(hs: ¬S fm)(q:FltR h fm flt):FltR h' fm flt:=let⟨M,ck,k1,k2⟩:=q.ex;⟨M,ck,Me k hs k1,k2⟩
theorem FltR.k0 (k:K0 h h')(q:FltR h fm flt):FltR h' fm flt:=q.kp k fun f=>f
def dvL (nb P sz en fm bb n:Nat)(cut:Int)(byt:Nat)(off:Bool):List AV:=
 [AN nb,AN P,AN sz,AN en,.map fm,.slc bb 0 nb nb,AN n,.int .i64 cut,AN byt,.bool off]
def dvC (D:Dv)(fm bb:Nat):List AV:=dvL D.nb D.P D.sz D.en fm bb D.n D.cut D.byt D.off
structure PgR (κ: Nat→Nat)(h:H)(c:List AV)(j:Nat)(p:Pg):Prop where
 st:c[j*2+1]?=some (AN p.st)
 none:p.st≠2→p.st≠3→c[j*2]?=some .nils
 full:p.st=2∨p.st=3→ ∃b,c[j*2]?=some (.slc b 0 p.b.length (Aa+1))∧κ b=0∧BS h b 0 p.b
structure RowR (κ: Nat→Nat)(h:H)(P i:Nat)(x:Bl)(pn:Nat)(c:List AV):Prop where
 k:Bk h pn c
 col:κ pn=3+i
 len:c.length=P*2
 pg: ∀j,j<P→PgR κ h c j (x.pg j)
structure BlR (κ: Nat→Nat)(h:H)(P i:Nat)(x:Bl)(cb:List AV)(pn:Nat)(c:List AV):Prop where
 c0:cb[i*3]?=some (.slc pn 0 P P)
 c1:cb[i*3+1]?=some (AN x.nx)
 c2:cb[i*3+2]?=some (AN x.er)
 row:RowR κ h P i x pn c
structure DevC (κ: Nat→Nat)(h:H)(d:Nat)(D:Dv)(fm bb:Nat)(cb:List AV):Prop where
 dk:Bk h d (dvC D fm bb)
 dcol:κ d=1
 fk:FltR h fm D.flt
 fcol:κ fm=0
 bk:Bk h bb cb
 bcol:κ bb=2
 blen:cb.length=D.nb*3
 nb:D.nb≤12
 rows: ∀i,i<D.nb→ ∃pn c,BlR κ h D.P i (D.bl i) cb pn c
structure DevR (κ: Nat→Nat)(h:H)(d:Nat)(D:Dv):Prop where
 ok:D.Ok
 ex: ∃fm bb cb,DevC κ h d D fm bb cb
variable {D:Dv}{a cap dcap dn lp pn scap size sn so yfn ynt:Nat}{bd:CC}{c cp fst lv r0 va vs:List AV}{g:CFn}{l0 l1:List (Nat×Option AV)}{mode:AMode}{pd:Option CC}{ps:List Nat}{st:LS}{tm tm0 ytm:T AV}{todo ytodo:List AItem}{ydfd:Bool}{yds:List ADef}{yro:Option Nat}{z:AFr}{κ κ':Nat→Nat}
structure Ch (κ: Nat→Nat)(h:H)(κ':Nat→Nat)(h':H):Prop where
 k:Kp (fun b=>1≤κ b∧κ b<100) h h'
 col: ∀b,b<h.n→κ' b=κ b
theorem Ch.refl (κ: Nat→Nat)(h:H):Ch κ h κ h:=⟨.refl _,fun _ _=>rfl⟩
structure Fw (κ: Nat→Nat)(h:H)(κ':Nat→Nat)(h':H):Prop where
 n:h.n≤h'.n
 old: ∀b,b<h.n→κ b=0→H.get h' b=H.get h b
 col: ∀b,b<h.n→κ' b=κ b
theorem Ch.fw (q:Ch κ h κ' h'):Fw κ h κ' h':=⟨q.k.n,fun b hb hc=>q.k.old b hb (by rw [hc];omega),q.col⟩
theorem Fw.trans {κ1 κ2:Nat→Nat}{h1 h2:H}(a:Fw κ h κ1 h1)(b:Fw κ1 h1 κ2 h2):Fw κ h κ2 h2:= ⟨Nat.le_trans a.n b.n,fun x hx hc=>(b.old x (Nat.lt_of_lt_of_le hx a.n) ((a.col x hx).trans hc)).trans (a.old x hx hc),fun x hx=>(b.col x (Nat.lt_of_lt_of_le hx a.n)).trans (a.col x hx)⟩
theorem Kp.fw (k:Kp S h h')(hs: ∀b,b<h.n→S b→κ b≠0):Fw κ h κ h':= ⟨k.n,fun b hb hc=>k.old b hb fun s=>hs b hb s hc,fun _ _=>rfl⟩
theorem Kp.fw0 (k:K0 h h'):Fw κ h κ h':=k.fw fun _ _ f=>f.elim
theorem Fw.bk (f:Fw κ h κ' h')(k:Bk h b c)(hc:κ b=0):Bk h' b c:=⟨(f.old b k.lt hc).trans k.e,Nat.lt_of_lt_of_le k.lt f.n⟩
theorem Fw.bs {κ κ':Nat→Nat}{h h':H}{b o:Nat}{bs:List Nat}(f:Fw κ h κ' h')(k:BS h b o bs)(hc:κ b=0):BS h' b o bs:= ⟨let⟨c,h1,h2,h3⟩:=k.ex;⟨c,f.bk h1 hc,h2,h3⟩,k.lt⟩
theorem PgR.fw {j:Nat}{p:Pg}(q:PgR κ h c j p)(f:Fw κ h κ' h'):PgR κ' h' c j p:=
 ⟨q.st,q.none,fun hs=>let⟨b,h1,h2,h3⟩:=q.full hs;⟨b,h1,(f.col b h3.lt_n).trans h2,f.bs h3 h2⟩⟩
theorem RowR.fw {P:Nat}{x:Bl}(q:RowR κ h P i x pn c)(f:Fw κ h κ' h')(hk:H.get h' pn=H.get h pn):RowR κ' h' P i x pn c:= ⟨⟨hk.trans q.k.e,Nat.lt_of_lt_of_le q.k.lt f.n⟩,(f.col pn q.k.lt).trans q.col,q.len,fun j hj=>(q.pg j hj).fw f⟩
theorem BlR.fw {P:Nat}{x:Bl}{cb:List AV}(q:BlR κ h P i x cb pn c)(f:Fw κ h κ' h')(hk:H.get h' pn=H.get h pn):BlR κ' h' P i x cb pn c:= ⟨q.c0,q.c1,q.c2,q.row.fw f hk⟩
theorem DevC.kb {bb:Nat}{cb:List AV}(q:DevC κ h d D fm bb cb)(k:Kp (fun b=>100≤κ b) h h'):DevC κ h' d D fm bb cb:=
 have f:Fw κ h κ h':=k.fw fun b _ h1=>by omega
 ⟨Aq k (by rw [q.dcol];omega) q.dk,q.dcol,q.fk.kp k (by rw [q.fcol];omega),q.fcol,Aq k (by rw [q.bcol];omega) q.bk,q.bcol,q.blen,q.nb,
   fun i hi=>let⟨pn,c,h1⟩:=q.rows i hi;⟨pn,c,h1.fw f (k.old pn h1.row.k.lt (by rw [h1.row.col];have:=q.nb;omega))⟩⟩
theorem DevR.kb (q:DevR κ h d D)(k:Kp (fun b=>100≤κ b) h h'):DevR κ h' d D:= ⟨q.ok,let⟨fm,bb,cb,h1⟩:=q.ex;⟨fm,bb,cb,h1.kb k⟩⟩
theorem DevR.k0 (q:DevR κ h d D)(k:K0 h h'):DevR κ h' d D:=q.kb (k.mono fun _ f=>f.elim)
theorem Ae9 (h:p:=by
 simp only [List.getD_eq_getElem?_getD]
 rw [List.getElem?_take_of_lt hi,List.getElem?_drop]):p:=h
section
variable {z w:O}{len c:Nat}{j k:IntKind}
variable {sl n2 cap2 o2 b2 bytes:Nat}{old new:List AV}
theorem SlR.of {c xs:List AV}(k:Bk h b c)(hk:o+n*size≤c.length)(hx:(c.drop o).take (n*size)=xs):SlR size h (.slc b o n cap) n xs:= .slc k.e hk hx k.lt
theorem Dq (e:evO l x=some (.slc b o sl (Aa+size)))(e1:evO l y=some (.slc b2 o2 n2 cap2))(k1:SlR size (hp n t lh) (.slc b o sl (Aa+size)) sl old)(k2:SlR size (hp n t lh) (.slc b2 o2 n2 cap2) n2 new)(hpos:0<n2) (hb:(sl+n2)*(bytes+1)≤1099511627776) (hp1:Ar new=true):XV (.append size bytes x y) (hp n t lh) l (.slc n 0 (sl+n2) (Aa+size)) (hp (n+1) t ((n,some (cl (old++new)))::(b,none)::lh)):=by
 refine⟨?_⟩;simp only [exec,Ah,Ab e,Ab e1,k2.lenV,k2.cells];obtain⟨m,rfl⟩: ∃m,n2=m+1:=⟨n2 - 1,by omega⟩;have hold:=k1.cells
 cases k1 with
 | @slc _ _ _ _ c _ hbk hk hx hlt=>
  have g:Nat.ble (Nat.mul (Nat.add sl (Nat.succ m)) (Nat.succ bytes)) 1099511627776=true:=by rw [Nat.ble_eq];exact hb
  have g1:Nat.ble Aa (Aa+size)=true:=A0 (by omega);have g2:Nat.beq (Aa+size) (Nat.add Aa size)=true:=Nat.beq_refl _;have hold':cellsAt (hp n t lh) b o (Nat.mul sl size)=some old:=hold;have hbk':H.get (hp n t lh) b=some (.cells false c.length (ofL 0 .leaf c)):=hbk;simp only [Dn,g,g1,g2,hold',hbk',hp1];rfl
theorem Aai (e:evO l x=some (.slc b o sl sl))(e1:evO l y=some (.slc b2 o2 n2 cap2))(k1:SlR size (hp n t lh) (.slc b o sl sl) sl old)(k2:SlR size (hp n t lh) (.slc b2 o2 n2 cap2) n2 new)(hpos:0<n2)(hsl:sl<Aa) (hb:(sl+n2)*(bytes+1)≤1099511627776):XV (.append size bytes x y) (hp n t lh) l (.slc n 0 (sl+n2) (Aa+size)) (hp (n+1) t ((n,some (cl (old++new)))::lh)):=by
 refine⟨?_⟩;simp only [exec,Ah,Ab e,Ab e1,k2.lenV,k2.cells];obtain⟨m,rfl⟩: ∃m,n2=m+1:=⟨n2 - 1,by omega⟩;have hold:=k1.cells;have g:Nat.ble (Nat.mul (Nat.add sl (Nat.succ m)) (Nat.succ bytes)) 1099511627776=true:=by rw [Nat.ble_eq];exact hb
 have g1:Nat.ble Aa sl=false:=Gq hsl;have g2:Nat.ble (Nat.add sl (Nat.succ m)) sl=false:=Gq (by show sl<sl+(m+1);omega);have hold':cellsAt (hp n t lh) b o (Nat.mul sl size)=some old:=hold;simp only [Dn,g,g1,g2,hold'];rfl
theorem Afa (e:evO l x=some (.slc b o 0 0))(e1:evO l y=some (.slc b2 o2 n2 cap2))(k2:SlR size (hp n t lh) (.slc b2 o2 n2 cap2) n2 new)(hpos:0<n2) (hb:n2*(bytes+1)≤1099511627776):XV (.append size bytes x y) (hp n t lh) l (.slc n 0 n2 (Aa+size)) (hp (n+1) t ((n,some (cl new))::lh)):=by
 refine⟨?_⟩;simp only [exec,Ah,Ab e,Ab e1,k2.lenV,k2.cells];obtain⟨m,rfl⟩: ∃m,n2=m+1:=⟨n2 - 1,by omega⟩;have g:Nat.ble (Nat.mul (m+1) (Nat.succ bytes)) 1099511627776=true:=by rw [Nat.ble_eq];exact hb
 have g1:Nat.ble Aa 0=false:=Gq (by decide);have g2:Nat.ble (m+1) 0=false:=Gq (Nat.succ_pos m);have hold':cellsAt (hp n t lh) b o (Nat.mul 0 size)=some []:=by rw [show Nat.mul 0 size=0 from Nat.zero_mul size];rfl
 have e9:Nat.add 0 (Nat.succ m)=m+1:=Nat.zero_add _;simp only [Dn,e9,g,g1,g2,hold'];rfl
theorem Dr (e:evO l x=some .nils)(e1:evO l y=some (.slc b2 o2 n2 cap2))(k2:SlR size (hp n t lh) (.slc b2 o2 n2 cap2) n2 new)(hpos:0<n2) (hb:n2*(bytes+1)≤1099511627776):XV (.append size bytes x y) (hp n t lh) l (.slc n 0 n2 (Aa+size)) (hp (n+1) t ((n,some (cl new))::lh)):=by
 refine⟨?_⟩;simp only [exec,Ah,Ab e,Ab e1,k2.lenV,k2.cells];obtain⟨m,rfl⟩: ∃m,n2=m+1:=⟨n2 - 1,by omega⟩;have g:Nat.ble (Nat.mul (Nat.succ m) (Nat.succ bytes)) 1099511627776=true:=by rw [Nat.ble_eq];exact hb
 simp only [Dn,g];rfl
theorem Acz {zero:List AV}(e:evO l x=some .nils)(e1:evO l y=some (.int k (a:Int)))(hpos:0<a)(h1:a*bytes≤281474976710656)(h2:a≤281474976710656)(hbig:a*(bytes+1)≤1099511627776):XV (.appendZ bytes zero x y) (hp n t lh) l (.slc n 0 a (Aa+zero.length)) (hp (n+1) t ((n,some (cl (rl zero a)))::lh)):=by refine⟨?_⟩;obtain⟨m,rfl⟩: ∃m,a=m+1:=⟨a - 1,by omega⟩;have e1':evL l y= .int k (Int.ofNat (m+1)):=Ab e1;have g1:Nat.ble (Nat.mul (m+1) bytes) 281474976710656=true:=A0 h1;have g2:Nat.ble (m+1) 281474976710656=true:=A0 h2;have g:Nat.ble (Nat.mul (Nat.succ m) (Nat.succ bytes)) 1099511627776=true:=A0 hbig;simp only [exec,Ah,Ab e,e1',g1,g2,Dn,g];rfl
end
theorem Rj {bs:List Nat}(hk:o+bs.length≤c.length)(hv: ∀i,i<bs.length→c[o+i]?=some (.int .u8 ((bs.getD i 0:Nat):Int))):(c.drop o).take bs.length=B7 bs:=by
 apply List.ext_getElem?;intro i;by_cases hi:i<bs.length;·rw [List.getElem?_take_of_lt hi,List.getElem?_drop,hv i hi,Wt bs i hi]
 ·rw [List.getElem?_take_eq_none (by omega),List.getElem?_eq_none (by simp [B7];omega)]
theorem BS.slr {bs:List Nat}(k:BS h b o bs)(hn:bs.length=n):SlR 1 h (.slc b o n cap) n (B7 bs):=by obtain⟨c,h1,h2,h3⟩:=k.ex;subst hn;exact .slc h1.e (by omega) (by rw [Nat.mul_one];exact Rj h2 h3) h1.lt
theorem Jp (a b:List Nat):B7 a++B7 b=B7 (a++b):=by simp [B7]
theorem E1: ∀bs:List Nat,Ar (B7 bs)=true
 | []=>rfl
 |_::r=>E1 r
theorem Wu (a b:List Nat)(i:Nat):(a++b).getD i 0=if i<a.length then a.getD i 0 else b.getD (i - a.length) 0:=by
 simp only [List.getD_eq_getElem?_getD];by_cases h:i<a.length;·rw [List.getElem?_append_left h,if_pos h]
 ·rw [List.getElem?_append_right (by omega),if_neg h]
def AllB (bs:List Nat):Prop:= ∀i,i<bs.length→bs.getD i 0<256
theorem AllB.app {a b:List Nat}(ha:AllB a)(hb:AllB b):AllB (a++b):=by
 intro i hi;rw [Wu];rw [List.length_append]at hi;split;·exact ha i (by assumption)
 ·exact hb _ (by omega)
theorem E6 (v a:Nat):rl [.int .u8 (v:Int)] a=B7 (List.replicate a v):=by
 induction a with
 |zero=>rfl
 |succ a ih=>rw [List.replicate_succ];show _::rl _ a=_;rw [ih];rfl
theorem AllB.rep {v:Nat}(h:v<256):AllB (List.replicate a v):=by intro i hi;rw [List.length_replicate]at hi;simp [List.getD_eq_getElem?_getD,hi,h]
theorem BS.part {bs:List Nat}(k:BS h b o bs)(hn:a+n≤bs.length):BS h b (o+a) ((bs.drop a).take n):=by
 obtain⟨c,h1,h2,h3⟩:=k.ex;have hl:((bs.drop a).take n).length=n:=by rw [List.length_take,List.length_drop];omega
 have hg: ∀i,i<n→((bs.drop a).take n).getD i 0=bs.getD (a+i) 0:=fun i hi=>by exact Ae9
 refine⟨⟨c,h1,by rw [hl];omega,fun i hi=>?_⟩,fun i hi=>?_⟩;·rw [hl]at hi;rw [hg i hi,show o+a+i=o+(a+i) by omega];exact h3 (a+i) (by omega)
 ·rw [hl]at hi;rw [hg i hi];exact k.lt _ (by omega)
theorem BS.all {bs:List Nat}(k:BS h b o bs):AllB bs:=k.lt
section
variable {x:Option Blk}{bs:List Nat}
theorem Ajj (k:BS h b o bs):BS (hp h.n h.t []) b o bs:=k
theorem Afb (k:BS (hp n t lh) b o bs):BS (hp (n+1) t ((n,x)::lh)) b o bs:=⟨let⟨c,h1,h2,h3⟩:=k.ex;⟨c,Aiu h1,h2,h3⟩,k.lt⟩
theorem Aaj (hne:b≠i)(k:BS (hp n t lh) b o bs):BS (hp n t ((i,x)::lh)) b o bs:=⟨let⟨c,h1,h2,h3⟩:=k.ex;⟨c,Aiw hne h1,h2,h3⟩,k.lt⟩
theorem Hi (ha:AllB bs):BS (hp (n+1) t ((n,some (cl (B7 bs)))::lh)) n 0 bs:=Mj sq ha
theorem U7 (q:Kp S h h')(hs: ¬S b)(k:BS h b o bs):BS h' b o bs:=k.kp q hs
theorem Ajk (q:K0 h h')(k:BS h b o bs):BS h' b o bs:=k.k0 q
end
theorem lkb (h:p:=by
 (repeat(first|assumption|(apply Hi;assumption)|(apply Ajj;first|assumption|(apply Ajk;assumption)|(apply U7;assumption;(first|omega|(dsimp only;omega))))|apply Afb|(apply Aaj;first|omega|assumption)))
 (first | done | fail "no")) : p := h
section
variable {z:O}{k j:IntKind}{q:Bool}
theorem Apa (hs:k.signed=false)(e:evO l x=some (.int k (a:Int)))(e1:evO l y=some (.int k (d:Int)))(ha:a<pw k)(hc:d<pw k)(hx:(a ||| d)<pw k):XV (.bin .or x y q sh) h l (.int k ((a ||| d:Nat):Int)) h:=by
 refine⟨?_⟩;simp only [exec,Ah,Ab e,Ab e1,F0,Ec,Bb,vo,Md ha,Md hc];have:wr k (Int.ofNat (Nat.lor a d))=((a ||| d:Nat):Int):=by show wr k ((a ||| d:Nat):Int)=_;rw [U0 hs hx]
 rw [this]
theorem Ajl (hs:k.signed=false){s:Nat}(e:evO l x=some (.int k (a:Int)))(e1:evO l y=some (.int j (s:Int)))(hb:s≤bits k):XV (.bin .shl x y q sh) h l (.int k (((a*2 ^ s) % pw k:Nat):Int)) h:=by
 refine⟨?_⟩;have e1':evL l y= .int j (Int.ofNat s):=Ab e1;simp only [exec,Ah,Ab e,e1',F0,Ec,vo];have h1:K2 s (bits k)=s:=by rw [Ka];exact Nat.min_eq_left hb
 have h2:Int.mul (a:Int) (Int.ofNat (Nat.pow 2 s))=((a*2 ^ s:Nat):Int):=by show(a:Int)*((2 ^ s:Nat):Int)=_;rw [←Int.natCast_mul]
 rw [h1,h2,Uz hs]
def u64 (p:Int):Nat:=(p % 18446744073709551616).toNat
theorem U8 (h:a<18446744073709551616):u64 (a:Int)=a:=by unfold u64;omega
theorem Jq {p:Int}(e:evO l x=some (.int j p)):XV (.conv .u64 x) h l (UN (u64 p)) h:=by refine⟨qt (Ab e) ?_⟩;rw [Gj];show IntKind.wrap .u64 p=_;unfold IntKind.wrap u64;simp only [IntKind.signed,Bool.false_and,Bool.false_eq_true,if_false,false_and,IntKind.bits];omega
theorem Afc (e:evO l x=some (.slc b o dn dcap)){bs:Nat}(e1:evO l y=some (.slc bs so sn scap)){cs:List AV}(k1:SlR size (hp n t lh) (.slc bs so sn scap) sn lv)(hb:Bk (hp n t lh) b c)(hle:sn≤dn)(hp1:Ar lv=true)(hk:o+lv.length≤c.length)(hpos:0<lv.length)(hs:F1 lv c o=cs): ∃h',exec (.copy size x y) (hp n t lh) (tms l)= .val (AN sn) h'∧HSub (hp n t ((b,some (cl cs))::lh)) h':=by
 obtain⟨h',q1,q2⟩:=Mc (n:=n) (t:=t) (lh:=lh) hp1 hb.e hk hs;refine⟨h',?_,q2⟩;have hm:K2 sn dn=sn:=by rw [Ka];exact Nat.min_eq_left hle
 simp only [exec,Ah,Ab e,Ab e1,k1.lenV,hm,k1.cells,q1];rfl
theorem Ac0 {bs:List Nat}(e:evO l x=some (.slc b o m cap))(k:BS h b o bs)(hm:bs.length=m):XV (.b2s x) h l (.str bs) h:=
 ⟨Aio e (k.slr hm) fun v hv=>by
  obtain⟨i,hi,e⟩:=List.getElem_of_mem hv
  have:=k.all i hi
  rw [List.getD_eq_getElem?_getD,List.getElem?_eq_getElem hi]at this
  rw [←e];exact this⟩
theorem Ajm {a d:List Nat}(e:evO l x=some (.str a))(e1:evO l y=some (.str d)):XV (.bin .neq x y q .pstr) h l (.bool (decide (a≠d))) h:=⟨Aip e e1 rfl⟩
structure Rk (h:H)(b:Nat)(c:List AV):Prop where
 e: ∃r,H.get h b=some (.cells r c.length (ofL 0 .leaf c))
 lt:b<h.n
theorem Bk.rk (k:Bk h b c):Rk h b c:=⟨⟨_,k.e⟩,k.lt⟩
theorem Rk.keep (k:Rk h b c)(hn:h.n≤h'.n)(e:H.get h' b=H.get h b):Rk h' b c:=⟨let⟨r,q⟩:=k.e;⟨r,e.trans q⟩,Nat.lt_of_lt_of_le k.lt hn⟩
theorem Rk.kp (k:Rk h b c)(q:Kp S h h')(hs: ¬S b):Rk h' b c:=k.keep q.n (q.old b k.lt hs)
theorem Rk.k0 (k:Rk h b c)(q:K0 h h'):Rk h' b c:=k.kp q fun f=>f
section
variable {x:Option Blk}
theorem Apb (k:Rk (hp n t lh) i c):Rk (hp (n+1) t ((n,x)::lh)) i c:=⟨let⟨r,q⟩:=k.e;⟨r,(Fm _ _ _ _ (Nat.ne_of_lt k.lt)).trans q⟩,Nat.lt_succ_of_lt k.lt⟩
theorem Apc (hne:i≠b)(k:Rk (hp n t lh) i c):Rk (hp n t ((b,x)::lh)) i c:=⟨let⟨r,q⟩:=k.e;⟨r,(Fm _ _ _ _ hne).trans q⟩,k.lt⟩
theorem Rl (q:K0 h h')(k:Rk h i c):Rk h' i c:=k.k0 q
end
theorem Br (e:evO l x=some (.ptr b o))(hb:Rk h b c)(hv:c[o]?=some v):XV (.load1 x) h l v h:=by
 refine⟨?_⟩;have:Nat.ble (Nat.succ o) c.length=true:=by rw [Nat.ble_eq];exact(List.getElem?_eq_some_iff.1 hv).1
 obtain⟨r,q⟩:=hb.e;simp only [exec,Ah,Ab e,q,Ii,hv,this];rfl
theorem Yz (hb:Rk h b c)(hk:o+m≤c.length):cellsAt h b o m=some ((c.drop o).take m):=by
 have h1:=Ij (h:=hp (b+1) .leaf [(b,some (cl c))]) (b:=b) (c:=c) (Hg _ _ _ _ _) hk;rw [←h1]
 cases m with
 |zero=>rfl
 |succ m=>obtain⟨r,q⟩:=hb.e;simp only [cellsAt,q];rw [Hg];rfl
end
theorem lkr (h:p:=by
 (repeat(first|assumption|(apply rk_0;first|assumption|(apply Rl;assumption)|(apply rk_k;assumption;(first|omega|(dsimp only;omega))))|apply Apb|(apply Apc;first|omega|assumption)))
 (first | done | fail "no")) : p := h
theorem Ajn (h:p:=by
 refine Q3 L ?_
 have hx:exec .recover h (tms l)= .recover:=rfl
 unfold Sn
 simp only [Dh,Aw hg,hx]
 exact g):p:=h
noncomputable def Ln (x:AFr)(c:List (AV×Bool)):AFr:=match x with
 |⟨fn,nt,tm,todo,ds,mode,dfd,ro⟩=>match todo with
  | .drawn p _::_=>⟨fn,nt,Ot p.chk tm,[.gone],ds,raise mode c,dfd,ro⟩
  |_=>⟨fn,nt,tm,todo,ds,raise mode c,dfd,ro⟩
def CtP (P:Program)(E:Env)(F:T CFn)(K:T (List AV×AV))(f:Nat)(args:List AV)(h:H)(post:AV→H→Prop):Prop:=
 ∀(Q:Nat→AV→Prop) (x:AFr) (cs:List AFr),(∀v h',post v h'→Good P E Q ⟨Ln x [(v,false)],cs,h'⟩)→GO P E Q (B8 F K (.func f) args false x cs h)
def CtA (P:Program)(E:Env)(F:T CFn)(K:T (List AV×AV))(f:AFn)(args:List AV)(h:H)(post:AV→H→Prop):Prop:=
 ∀(Q:Nat→AV→Prop) (x:AFr) (cs:List AFr),(∀v h',post v h'→GO P E Q (finish v cs h' x))→GO P E Q (B8 F K f args false x cs h)
section
variable {l':List (Nat×Option AV)}{td':List AItem}{d:Option Nat}
variable {c':List AV}
variable (L:Lg P E F K)
theorem Ct.A (c:Ct P E F K f args h post):CtA P E F K (.func f) args h post:=c
theorem P2 {f:AFn}{a:List O}{r:List AV}(e:evO l x=some (.fn f fst cp))(ha:Fo l a=some va)(h0:Eo va cp=some r0)(hr:Eo fst r0=some r):exec (.callv x a) h (tms l)= .call f r:=by simp only [exec,Ah,Mb,Ab e,N1 ha];have h1:=F5 h0;have h2:=F5 hr;simp only [h1,h2]
include L
theorem Ml {d:Nat}{f:AFn}{a:List O}(hg:gdO gd l=some true)(e:evO l x=some (.fn f fst cp))(ha:Fo l a=some va)(h0:Eo va cp=some r0)(hr:Eo fst r0=some args)(hc:CtA P E F K f args h post) (g: ∀v h',post v h'→Good P E Q ⟨⟨fn,nt,tms ((d,some v)::l),.ops r::k,ds,.run,dfd,ro⟩,cs,hp h'.n h'.t []⟩): Good P E Q ⟨⟨fn,nt,tms l,.ops (⟨some d,gd,.callv x a⟩::r)::k,ds,.run,dfd,ro⟩,cs,h⟩:= Tl L (Aw hg) (P2 e ha h0 hr) (hc Q _ cs fun v h' p=>N0 L cvb (g v h' p))
theorem Ei {a:List O}(hg:gdO gd l=some true)(e:evO l x=some (.fn (.func f) fst cp))(ha:Fo l a=some va)(h0:Eo va cp=some r0)(hr:Eo fst r0=some args)(hc:CtP P E F K f args h post) (g: ∀v h',post v h'→Good P E Q ⟨⟨fn,nt,tms l,.ops (⟨d,gd,.callv x a⟩::r)::k,ds,.panicking [(v,false)],dfd,ro⟩,cs,h'⟩): Good P E Q ⟨⟨fn,nt,tms l,.ops (⟨d,gd,.callv x a⟩::r)::k,ds,.run,dfd,ro⟩,cs,h⟩:= Tl L (Aw hg) (P2 e ha h0 hr) (hc Q _ cs fun v h' p=>g v h' p)
theorem Mm {q:Nat}(hg:gdO gd l=some true)(e:evO l x=some (.ifc q v))(g:Good P E Q ⟨⟨fn,nt,tms l,.ops (⟨d,gd,.panic x⟩::r)::k,ds,.panicking [(.ifc q v,false)],dfd,ro⟩,cs,h⟩): Good P E Q ⟨⟨fn,nt,tms l,.ops (⟨d,gd,.panic x⟩::r)::k,ds,.run,dfd,ro⟩,cs,h⟩:= Q3 L (Ah8 (Aw hg) (by simp only [exec,Ah,Ab e]) g)
theorem A2 {ch:List (AV×Bool)}(hf:T.get F fn=some g)(h1:Good P E Q ⟨Ln z ch,cs,h⟩):Good P E Q ⟨⟨fn,nt,tm,todo,[],.panicking ch,dfd,ro⟩,z::cs,h⟩:=by
 obtain⟨yfn,ynt,ytm,ytodo,yds,ym,ydfd,yro⟩:=z;refine A7 L ?_;simp only [Ev.step,Ev.unwind,hf]
 cases ytodo with
 |nil=>exact h1
 |cons i r=>cases i <;> exact h1
theorem Hx {a:List O}(hg:gdO gd l=some true)(e:evO l x=some (.fn (.func f) [] cp))(ha:Fo l a=some va)(hr:Eo va cp=some args) (g:Good P E Q ⟨⟨fn,nt,tms (ins d (.tup []) l),.ops r::k,.call f args::ds,.run,dfd,none⟩,cs,h⟩): Good P E Q ⟨⟨fn,nt,tms l,.ops (⟨d,gd,.defer x a⟩::r)::k,ds,.run,dfd,none⟩,cs,h⟩:=by
 refine Q3 L (Ah7 (f:=f) (args:=args) (Aw hg) ?_ ?_);·simp only [exec,Ah,Mb,Ab e,N1 ha];show R.dfr f (List.append va cp)=_;rw [F5 hr]
 ·rw [z9];exact g
theorem Gt {todo:List AItem}(g:Good P E Q ⟨⟨fn,nt,tms l,.code .ret::k,ds,.returning,dfd,none⟩,cs,h⟩):Good P E Q ⟨⟨fn,nt,tms l,.code .ret::k,ds,.run,dfd,none⟩,cs,h⟩:=A7 L g
theorem C6 {td:List AItem}(hm:mode≠ .run)(hf:T.get F f=some g)(hn:Nat.ble args.length g.ntmps=true)(hl:ik 0 args []=l0)(ha:adv 1000 [.code g.body] l0=(td,l1)) (h1:Good P E Q ⟨⟨f,g.ntmps,tms l1,td,[],.run,true,none⟩,⟨fn,nt,tm,todo,ds,mode,dfd,ro⟩::cs,hp h.n h.t []⟩): Good P E Q ⟨⟨fn,nt,tm,todo,.call f args::ds,mode,dfd,ro⟩,cs,h⟩:=by
 have e1:ofL 0 .leaf args=tms l0:=by rw [←hl];exact P1 args 0 []
 have h2:=Bn L 1000 ha h1;refine A7 L ?_;have:GO P E Q (B8 F K (.func f) args true ⟨fn,nt,tm,todo,ds,mode,dfd,ro⟩ cs h):=by simp only [B8,hf,Vz,hn,e1];exact h2
 cases mode with
 |run=>exact absurd rfl hm
 |returning=>exact this
 |panicking c=>exact this
theorem Lo {ch:List (AV×Bool)}{d:Nat}(hg:gdO gd l=some true) (g:Good P E Q ⟨⟨fn,nt,tms ((d,some v)::l),.ops r::k,ds,.run,true,none⟩,⟨yfn,ynt,ytm,ytodo,yds,.panicking ((v,true)::ch),ydfd,yro⟩::cs,h⟩): Good P E Q ⟨⟨fn,nt,tms l,.ops (⟨some d,gd,.recover⟩::r)::k,ds,.run,true,none⟩,⟨yfn,ynt,ytm,ytodo,yds,.panicking ((v,false)::ch),ydfd,yro⟩::cs,h⟩:=by exact Ajn
theorem Ea {d:Nat}(hg:gdO gd l=some true) (g:Good P E Q ⟨⟨fn,nt,tms ((d,some .nili)::l),.ops r::k,ds,.run,true,none⟩,⟨yfn,ynt,ytm,ytodo,yds,.returning,ydfd,yro⟩::cs,h⟩): Good P E Q ⟨⟨fn,nt,tms l,.ops (⟨some d,gd,.recover⟩::r)::k,ds,.run,true,none⟩,⟨yfn,ynt,ytm,ytodo,yds,.returning,ydfd,yro⟩::cs,h⟩:=by exact Ajn
theorem Im {ym:AMode}(hf:T.get F fn=some g)(hr:results (tms l) h g.results=some vs) (h1:Good P E Q ⟨⟨yfn,ynt,ytm,ytodo,yds,settle ym,ydfd,yro⟩,cs,h⟩): Good P E Q ⟨⟨fn,nt,tms l,[],[],.run,true,none⟩,⟨yfn,ynt,ytm,ytodo,yds,ym,ydfd,yro⟩::cs,h⟩:=by refine A7 L (show Good P E Q ⟨⟨fn,nt,tms l,[],[],.returning,true,none⟩,_::cs,h⟩ from ?_);refine A7 L ?_;show GO P E Q (match T.get F fn with|none=> .fail|some g=>match results (tms l) h g.results with|some l=>Ev.doReturn fn true (single l) (_::cs) h|none=> .fail);rw [hf];simp only [hr];exact h1
theorem D7 (hf:T.get F fn=some g)(hr:results (tms l) h g.results=some vs)(hG: ∀v h',post v h'→GO P E Q (finish v cs h' z))(p:post (single vs) h): Good P E Q ⟨⟨fn,nt,tms l,todo,[],.returning,false,none⟩,z::cs,h⟩:=Q4 L hf hr (hG _ _ p)
theorem In {f:AFn}{a:CC}(e:evO l x=some (.fn f fst cp))(h0:Eo [.fn (.yield (n+1)) [] []] cp=some r0)(hr:Eo fst r0=some args) (hc:CtA P E F K f args (hp (n+2) t ((n+1,some (.loop ⟨.ready,none,fn,nt,tms l,ps,a,bd,n⟩))::(n,some (.dfr (some [])))::lh)) post) (g: ∀v h',post v h'→Good P E Q ⟨⟨fn,nt,tms l,.endRF (n+1)::k,.mark n::ds,.run,dfd,none⟩,cs,h'⟩): Good P E Q ⟨⟨fn,nt,tms l,.code (.rangeFunc x ps a bd)::k,ds,.run,dfd,none⟩,cs,hp n t lh⟩:=by
 refine A7 L ?_;have e1:evL l x= .fn f fst cp:=Ab e;have e2:List.append fst (.fn (.yield (Nat.succ n)) [] []::cp)=args:=by have q0:=F5 h0;have q1:=F5 hr;rw [←q0]at q1;exact q1
 simp only [Ev.step,Bu,Cg,enterLoop,Ah,e1,e2];exact hc Q _ cs fun v h' p=>g v h' p
theorem Gu {a:CC}{d:Nat}(hl:H.get h lp=some (.loop ⟨st,pd,fn,nt,tms l0,ps,a,bd,d⟩))(hs:Cu ps args (tms l0)=some (tms l1)) (body: ∀(Q:Nat→AV→Prop) (z:AFr) (cs:List AFr),(∀v h',post v h'→GO P E Q (finish v cs h' z))→Good P E Q ⟨⟨fn,nt,tms l1,[.code a,.beginRound,.code bd],[],.run,false,some lp⟩,z::cs,hp h.n h.t []⟩):CtA P E F K (.yield lp) args h post:=by intro Q z cs hG;simp only [B8,hl,hs];exact body Q z cs hG
theorem Fh {a:CC}{d:Nat}(hl:H.get (hp n t lh) lp=some (.loop ⟨.ready,pd,f,m,tm0,ps,a,bd,d⟩)) (g:Good P E Q ⟨⟨fn,nt,tm,k,ds,.run,dfd,some lp⟩,cs,hp n t ((lp,some (.loop ⟨.busy,pd,f,m,tm0,ps,a,bd,d⟩))::lh)⟩):Good P E Q ⟨⟨fn,nt,tm,.beginRound::k,ds,.run,dfd,some lp⟩,cs,hp n t lh⟩:=by refine A7 L ?_;simp only [Ev.step,Bu,hl];exact g
theorem Ej {a:CC}{d:Nat}(hl:H.get (hp n t lh) lp=some (.loop ⟨st,pd,f,m,tm0,ps,a,bd,d⟩)) (hG: ∀v h',post v h'→GO P E Q (finish v cs h' z)) (p:post (.bool true) (hp n t ((lp,some (.loop ⟨.ready,none,f,m,tm0,ps,a,bd,d⟩))::lh))):Good P E Q ⟨⟨fn,nt,tm,[],ds,.run,false,some lp⟩,z::cs,hp n t lh⟩:=by refine A7 L ?_;simp only [Ev.step,leave,hl,P9];exact hG _ _ p
theorem Io {a:CC}{d:Nat}(hl:H.get (hp n t lh) lp=some (.loop ⟨st,none,f,m,tm0,ps,a,bd,d⟩))(hst:st≠ .busy) (g:Good P E Q ⟨⟨fn,nt,tm,k,ds,.run,dfd,ro⟩,cs,hp n t ((lp,some (.loop ⟨.exhausted,none,f,m,tm0,ps,a,bd,d⟩))::lh)⟩):Good P E Q ⟨⟨fn,nt,tm,.endRF lp::k,ds,.run,dfd,ro⟩,cs,hp n t lh⟩:=by
 refine A7 L ?_;simp only [Ev.step,Bu,hl]
 cases st with
 |busy=>exact absurd rfl hst
 |_=>exact g
theorem Hj (hm:mode≠ .run)(hb:H.get (hp n t lh) b=some (.dfr (some [])))(g:Good P E Q ⟨⟨fn,nt,tm,todo,ds,mode,dfd,ro⟩,cs,hp n t ((b,some (.dfr none))::lh)⟩): Good P E Q ⟨⟨fn,nt,tm,todo,.mark b::ds,mode,dfd,ro⟩,cs,hp n t lh⟩:=by
 refine A7 L ?_
 cases mode with
 |run=>exact absurd rfl hm
 |returning=>simp only [Ev.step,Ev.unwind,hb];exact g
 |panicking c=>simp only [Ev.step,Ev.unwind,hb];exact g
theorem Ajo (hf:T.get F fn=some g)(hr:results (tms l) h g.results=some vs)(q:Q fn (single vs)):Good P E Q ⟨⟨fn,nt,tms l,todo,[],.returning,false,none⟩,[],h⟩:=by refine A7 L ?_;show GO P E Q (match T.get F fn with|none=> .fail|some g=>match results (tms l) h g.results with|some l=>Ev.doReturn fn false (single l) [] h|none=> .fail);rw [hf];simp only [hr];exact q
end
section
variable {q:List (Nat×Option AV)}
variable {c':List AV}{nm:List Nat}{pre chk:List DI}{ps:List Ph}
variable (L:Lg P E F K)
include L
theorem bm (ho:Co l nm=some q)(hg:gdO gd q=some true)(e:evO q x=some (.ptr b o))(e1:evO q y=some v)(hc:Bc v=some lv)(hm:Nat.beq lv.length m=true)(hp1:Ar lv=true) (hb:Bk (hp n t lh) b c) (hs:Q7 lv c o=some c') (g: ∀h',HSub (hp n t ((b,some (cl c'))::lh)) h'→Bo P E Q pre chk ps k fn nt (tms l) ds dfd ro cs h'): Good P E Q ⟨⟨fn,nt,tms l,.drawn ⟨⟨⟨none,gd,.store m x y⟩,nm⟩,pre,chk⟩ ps::k,ds,.run,dfd,ro⟩,cs,hp n t lh⟩:= Ain L ho (Aw hg) e e1 hc hm hp1 hb.e hs g
theorem Ek {td:List AItem}(hq:Fk F K f g) (body: ∀(Q:Nat→AV→Prop) (x:AFr) (cs:List AFr),(∀v h',post v h'→Good P E Q ⟨Ln x [(v,false)],cs,h'⟩)→Good P E Q ⟨⟨f,g.ntmps,tms l1,td,[],.run,false,none⟩,x::cs,hp h.n h.t []⟩) (hn:Nat.ble args.length g.ntmps=true:=by exact rfl) (hl:ik 0 args []=l0:=by exact rfl) (ha:adv 1000 [.code g.body] l0=(td,l1):=by exact rfl):CtP P E F K f args h post:=by exact Ait
end
def leb:Nat→Nat→List Nat
 |0,_=> []
 |n+1,v=>v % 256::leb n (v / 256)
theorem A3: ∀(n v:Nat),(leb n v).length=n
 |0,_=>rfl
 |n+1,v=>by rw [leb,List.length_cons,A3 n]
theorem U9 (n:Nat):256 ^ n=2 ^ (8*n):=by rw [Nat.pow_mul]
theorem Wv: ∀(n v:Nat),leb (n+1) v=leb n v++ [(v >>> (8*n)) % 256]
 |0,v=>by simp [leb]
 |n+1,v=>by
  rw [leb,Wv n (v / 256),leb,List.cons_append];have:(v / 256) >>> (8*n)=v >>> (8*(n+1)):=by rw [Nat.shiftRight_eq_div_pow,Nat.shiftRight_eq_div_pow,←U9,←U9,Nat.div_div_eq_div_mul,Nat.pow_succ,Nat.mul_comm 256]
  rw [this]
theorem E7 (n v:Nat):AllB (leb n v):=by
 induction n generalizing v with
 |zero=>intro i hi;exact absurd hi (Nat.not_lt_zero i)
 |succ n ih=>
  intro i hi
  cases i with
  |zero=>show v % 256<256;omega
  |succ i=>show(leb n (v / 256)).getD i 0<256;exact ih _ i (by rw [A3]at hi ⊢;omega)
def leF (f:List Nat):Nat→Nat→Nat
 |_,0=>0
 |a,n+1=>f.getD a 0+256*leF f (a+1) n
theorem Mn (f:List Nat): ∀(n a:Nat),leF f a (n+1)=leF f a n+f.getD (a+n) 0*256 ^ n
 |0,a=>by simp [leF]
 |n+1,a=>by
  rw [leF,Mn f n (a+1),leF,show a+1+n=a+(n+1) by omega,Nat.pow_succ,Nat.mul_add];have:256*(f.getD (a+(n+1)) 0*256 ^ n)=f.getD (a+(n+1)) 0*(256 ^ n*256):=by rw [Nat.mul_comm 256,Nat.mul_assoc]
  omega
theorem El {f:List Nat}(h:AllB f)(i:Nat):f.getD i 0<256:=by
 by_cases hi:i<f.length;·exact h i hi
 ·rw [List.getD_eq_getElem?_getD,List.getElem?_eq_none (by omega)];show 0<256;omega
theorem Gv {f:List Nat}(h:AllB f): ∀(n a:Nat),leF f a n<256 ^ n
 |0,a=>by simp [leF]
 |n+1,a=>by have h1:=Gv h n (a+1);have h2:=El h a;rw [leF,Nat.pow_succ];omega
theorem F7 {f:List Nat}(h:AllB f): ∀(n a:Nat),a+n≤f.length→leb n (leF f a n)=(f.drop a).take n
 |0,a,_=>by simp [leb]
 |n+1,a,hn=>by have h2:=El h a;rw [leF,leb,show(f.getD a 0+256*leF f (a+1) n) % 256=f.getD a 0 by omega,show(f.getD a 0+256*leF f (a+1) n) / 256=leF f (a+1) n by omega,F7 h n (a+1) (by omega)];rw [List.drop_eq_getElem_cons (show a<f.length by omega),List.take_succ_cons];congr 1;rw [List.getD_eq_getElem?_getD,List.getElem?_eq_getElem (by omega)];rfl
theorem tn (p s:List Nat)(x y m:Nat)(hm:m=p.length):(B7 (p++x::s)).set m (.int .u8 (y:Int))=B7 (p++y::s):=by subst hm;simp [B7,List.set_append]
theorem Gw (l:List Nat):(B7 l).length=l.length:=by simp [B7]
structure Sp where
 kind:Nat
 sec:Int
 seq:Nat
 prev:Nat
 idx:Int
 len:Int
def spC (s:Sp):List AV:= [.int .u8 (s.kind:Int),.int .i64 s.sec,UN s.seq,UN s.prev,.int .i64 s.idx,.int .i64 s.len]
structure Sp.Ok (s:Sp):Prop where
 kind:s.kind<256
 seq:s.seq<18446744073709551616
 prev:s.prev<18446744073709551616
def sp0:Sp:=⟨0,0,0,0,0,0⟩
def mag (k:Nat):List Nat:= [67,70,84,76,k,0,0,0]
def A6 (s:Sp):List Nat:=mag s.kind++leb 8 s.seq++leb 8 s.prev++leb 4 (u64 s.sec)++leb 4 (u64 s.idx)++leb 4 (u64 s.len)++List.replicate 24 0
theorem B6 (s:Sp):(A6 s).length=60:=by simp only [A6,mag,List.length_append,A3,List.length_replicate,List.length_cons,List.length_nil]
theorem Aak {k:Nat}(h:k<256):AllB (mag k):=by intro i hi;have hi':i<8:=hi;rcases i with _|_|_|_|_|_|_|_|i;all_goals first|(show _<256;simp [mag];done)|(simp [mag];exact h)|omega
theorem Y0 {s:Sp}(h:s.kind<256):AllB (A6 s):= ((((((Aak h).app (E7 _ _)).app (E7 _ _)).app (E7 _ _)).app (E7 _ _)).app (E7 _ _)).app (AllB.rep (by omega))
def Sp.Valid (s:Sp):Prop:=1≤s.seq∧1≤s.len∧s.len≤65535∧0≤s.idx∧s.idx<s.len∧((s.kind=1∧0≤s.sec∧s.sec≤4294967294∧s.prev=0∧s.len=1)∨((s.kind=2∨s.kind=3)∧s.sec=0∧s.prev<s.seq∧s.idx.toNat<s.seq - s.prev))
instance (s:Sp):Decidable s.Valid:=by unfold Sp.Valid;infer_instance
section
variable {l':List (Nat×Option AV)}{td':List AItem}
variable (L:Lg P E F K)
include L
theorem Aal {bs:Nat}{cs1:List AV}(hg:gdO gd l=some true)(e:evO l x=some (.slc b o dn dcap))(e1:evO l y=some (.slc bs so sn scap))(k1:SlR size (hp n t lh) (.slc bs so sn scap) sn lv)(hb:Bk (hp n t lh) b c)(hle:sn≤dn)(hp1:Ar lv=true)(hk:o+lv.length≤c.length)(hpos:0<lv.length)(hs:F1 lv c o=cs1) (ha:adv 1000 (.ops r::k) ((d,some (AN sn))::l)=(td',l')) (g:Good P E Q ⟨⟨fn,nt,tms l',td',ds,.run,dfd,ro⟩,cs,hp n t ((b,some (cl cs1))::lh)⟩): Good P E Q ⟨⟨fn,nt,tms l,.ops (⟨some d,gd,.copy size x y⟩::r)::k,ds,.run,dfd,ro⟩,cs,hp n t lh⟩:=by obtain⟨h',q1,q2⟩:=Afc e e1 k1 hb hle hp1 hk hpos hs;exact Eg L (Aw hg) q1 (Uy L q2 (Bn L 1000 ha g))
end
theorem Afd (h:p:=by
 rcases q.ex with h1|⟨h2,b,h3,h4,h5⟩
 ·exact⟨.inl h1⟩
 ·exact⟨.inr ⟨h2,b,h3,Ag k h4,h5⟩⟩):p:=h
theorem Apd (h:p:=by
 rcases q.ex with h1|h1|⟨b,cap,h1,h2,h3⟩
 ·exact .inl h1
 ·exact .inr (.inl h1)
 ·exact .inr (.inr ⟨b,cap,h1,f.rk h2 h3,(f.col b h2.lt).trans h3⟩)):p:=h
variable {M1 M2:List (Int×AV×Nat)}{P S bb g0 g1 g2 g3 k lo nb r1 r2 vb:Nat}{p s s' s0 z:Int}
theorem Ajp {p:Prop}(h:p:=by
 rcases q.ex with h1|⟨h2,b,h3,h4,h5⟩
 ·exact⟨.inl h1⟩
 ·exact⟨.inr ⟨h2,b,h3,Aq k (hs b h5) h4,h5⟩⟩):p:=h
theorem Ajq {p:Prop}(h:p:=by
 rcases q.ex with h1|⟨h2,b,h3,h4,h5⟩
 ·exact⟨.inl h1⟩
 ·exact⟨.inr ⟨h2,b,h3,h4,Nat.le_trans k h5⟩⟩):p:=h
abbrev AI (z:Int):AV:= .int .i64 z
theorem C8 {α: Type}{f:α→List AV}{k:Nat}: ∀(l:List α),(∀x∈l,(f x).length=k)→(l.flatMap f).length=l.length*k
 | [],_=>by simp
 |x::r,h=>by rw [List.flatMap_cons,List.length_append,C8 r (fun y hy=>h y (List.mem_cons_of_mem _ hy)),h x (List.mem_cons_self ..),List.length_cons,Nat.add_mul];omega
theorem Di {α: Type}{f:α→List AV}{k:Nat}: ∀(l:List α),(∀x∈l,(f x).length=k)→ ∀(i j:Nat) (x:α),l[i]?=some x→j<k→(l.flatMap f)[i*k+j]?=(f x)[j]?
 | [],_,i,j,x,h,_=>by simp at h
 |y::r,hl,i,j,x,h,hj=>by
  have hy:=hl y (List.mem_cons_self ..);rw [List.flatMap_cons]
  cases i with
  |zero=>simp only [List.getElem?_cons_zero,Option.some.injEq]at h;subst h;rw [Nat.zero_mul,Nat.zero_add,List.getElem?_append_left (by omega)]
  |succ i=>rw [List.getElem?_cons_succ]at h;rw [List.getElem?_append_right (by rw [hy,Nat.add_mul];omega),hy,show(i+1)*k+j - k=i*k+j by rw [Nat.add_mul];omega];exact Di r (fun z hz=>hl z (List.mem_cons_of_mem _ hz)) i j x h hj
theorem B4 {α: Type}{f:α→List AV}(l:List α)(h: ∀x∈l,(f x).length=k)(i:Nat)(x:α)(hx:l[i]?=some x):i*k+k≤(l.flatMap f).length∧((l.flatMap f).drop (i*k)).take k=f x:=by
 have hi:=(List.getElem?_eq_some_iff.1 hx).1;have hm:x∈l:=List.mem_of_getElem? hx;have h1:i*k+k≤(l.flatMap f).length:=by rw [C8 l h];have:(i+1)*k≤l.length*k:=Nat.mul_le_mul_right k hi;rw [Nat.add_mul]at this;omega
 refine⟨h1,?_⟩;apply List.ext_getElem?;intro j;by_cases hj:j<k;·rw [List.getElem?_take_of_lt hj,List.getElem?_drop,Di l h i j x hx hj]
 ·rw [List.getElem?_take_eq_none (by omega),List.getElem?_eq_none (by rw [h x hm];omega)]
theorem Bg (hb:Rk h b c)(h1:o+k≤c.length∧(c.drop o).take k=lv)(e:evO l x=some (.ptr b o)):XV (.loadN k x) h l (.agg lv) h:=by refine⟨?_⟩;simp only [exec,Ah,Ab e,Yz hb h1.1,h1.2]
abbrev Ent:=Int×Int
def Az (e:Ent):List AV:= [.int .i64 e.1,.int .i64 e.2]
theorem Fi (l:List Ent): ∀x∈l,(Az x).length=2:=fun _ _=>rfl
structure EntR (κ: Nat→Nat)(h:H)(v:AV)(l:List Ent):Prop where
 ex:(l= []∧v= .nils)∨(l= []∧ ∃a,v= .opq (.slice (some a) 0 0))∨ ∃b cap,v= .slc b 0 l.length cap∧Rk h b (l.flatMap Az)∧κ b=0
def Ent.Ok (e:Ent):Prop:=0≤e.1∧e.1≤4294967294∧ -1≤e.2∧e.2≤4294967294
instance (e:Ent):Decidable e.Ok:=by unfold Ent.Ok;infer_instance
def Ip (e:Ent):List Nat:=leb 4 e.1.toNat++leb 4 (e.2+1).toNat
def Cd (sz:Nat)(l:List Ent):List Nat:=leb 4 l.length++l.flatMap Ip++List.replicate (sz - 4 - 8*l.length) 0
theorem tp (e:Ent):(Ip e).length=8:=by simp [Ip,A3]
theorem Tq: ∀(l:List Ent),(l.flatMap Ip).length=8*l.length
 | []=>rfl
 |e::r=>by rw [List.flatMap_cons,List.length_append,tp,Tq r,List.length_cons];omega
theorem AllB.flat {α: Type}{f:α→List Nat}: ∀(l:List α),(∀x,AllB (f x))→AllB (l.flatMap f)
 | [],_=>by intro i hi;exact absurd hi (Nat.not_lt_zero i)
 |x::r,h=>by rw [List.flatMap_cons];exact(h x).app (AllB.flat r h)
theorem tq (sz:Nat)(l:List Ent):AllB (Cd sz l):=((E7 _ _).app (AllB.flat l fun e=>(E7 _ _).app (E7 _ _))).app (AllB.rep (by omega))
theorem Dz {sz:Nat}{l:List Ent}(h:4+8*l.length≤sz):(Cd sz l).length=sz:=by unfold Cd;rw [List.length_append,List.length_append,A3,Tq,List.length_replicate];omega
theorem Fw.rk (f:Fw κ h κ' h')(k:Rk h b c)(hc:κ b=0):Rk h' b c:=k.keep f.n (f.old b k.lt hc)
structure EL (h:H)(lo:Nat)(v:AV)(l:List Ent):Prop where
 ex:(l= []∧v= .nils)∨(l≠[]∧ ∃b,v= .slc b 0 l.length (Aa+2)∧Bk h b (l.flatMap Az)∧lo≤b)
theorem EL.nil (h:H)(lo:Nat):EL h lo .nils []:=⟨.inl ⟨rfl,rfl⟩⟩
theorem EL.k0 {l:List Ent}(q:EL h lo v l)(k:K0 h h'):EL h' lo v l:=by exact Afd
theorem EL.kS {S:Nat→Prop}{l:List Ent}(q:EL h lo v l)(k:Kp S h h')(hs: ∀b,lo≤b→ ¬S b):EL h' lo v l:=by exact Ajp
theorem EL.mono {lo':Nat}{l:List Ent}(q:EL h lo v l)(k:lo'≤lo):EL h lo' v l:=by exact Ajq
theorem EL.plain {l:List Ent}(q:EL h lo v l):Bc v=some [v]∧Bm v=true:=by rcases q.ex with⟨_,rfl⟩|⟨_,b,rfl,_⟩ <;> exact⟨rfl,rfl⟩
theorem EL.len {l:List Ent}(q:EL h lo v l):(l= []∧v= .nils)∨(0<l.length∧ ∃b,v= .slc b 0 l.length (Aa+2)∧Bk h b (l.flatMap Az)∧lo≤b):=by
 rcases q.ex with h1|⟨h2,h3⟩;·exact .inl h1
 ·exact .inr ⟨List.length_pos_iff.2 h2,h3⟩
theorem Ba (l:List Ent):(l.flatMap Az).length=l.length*2:=C8 l (Fi l)
theorem EL.app {N:Nat}{l:List Ent}{e:Ent}(hb:Bk h N (l.flatMap Az++Az e))(hlo:lo≤N)(hn:l.length=n):EL h lo (.slc N 0 (n+1) (Aa+2)) (l++ [e]):= ⟨.inr ⟨by simp,N,by simp [hn],by rw [List.flatMap_append];simpa using hb,hlo⟩⟩
theorem Ajr {q:Bool}{r:Nat}(e:evO l x=some (.map r))(e1:evO l y=some .nilm):XV (.bin .eql x y q .nilM) h l (.bool false) h:=⟨by simp only [exec,Ah,Ab e,Ab e1];rfl⟩
section
variable {P:Program}
variable {q:List (Nat×Option AV)}{k:List AItem}{nm:List Nat}{pre chk:List DI}{ps:List Ph}{d:Option Nat}
variable (L:Lg P E F K)
include L
theorem Y1 {a:List O}(ho:Co l nm=some q)(hg:gdO gd q=some true)(e:evO q x=some (.fn (.func f) [] cp))(ha:Fo q a=some va)(hr:Eo va cp=some args)(hc:CtP P E F K f args h post) (g: ∀v h',post v h'→Good P E Q ⟨⟨fn,nt,Ot chk (tms l),[.gone],ds,.panicking [(v,false)],dfd,ro⟩,cs,h'⟩): Good P E Q ⟨⟨fn,nt,tms l,.drawn ⟨⟨⟨d,gd,.callv x a⟩,nm⟩,pre,chk⟩ ps::k,ds,.run,dfd,ro⟩,cs,h⟩:= e_c L ho (Aw hg) (Ik e ha hr) (hc Q _ cs fun v h' p=>g v h' p)
end
theorem Rm {p:Nat}(h:p<nb*P):p / P<nb:=Nat.div_lt_of_lt_mul (by rw [Nat.mul_comm];exact h)
section
variable {sl bytes:Nat}{k:IntKind}{old zero:List AV}
theorem Ww {z:List AV}(h:Ar z=true): ∀a,Ar (rl z a)=true
 |0=>rfl
 |a+1=>by
  have: ∀u v:List AV,Ar u=true→Ar v=true→Ar (u++v)=true:=by
   intro u;induction u with
   |nil=>intro v _ hv;exact hv
   |cons p r ih=>
    intro v hu hv;simp only [Ar]at hu
    cases hp:Bm p with
    |false=>rw [hp]at hu;cases hu
    |true=>rw [hp]at hu;show Ar (p::(r++v))=true;simp only [Ar,hp];exact ih v hu hv
  exact this z (rl z a) h (Ww h a)
theorem Ac1 (e:evO l x=some (.slc b o sl (Aa+zero.length)))(e1:evO l y=some (.int k (a:Int)))(hpos:0<a)(k1:SlR zero.length (hp n t lh) (.slc b o sl (Aa+zero.length)) sl old)(hz:Ar zero=true)(h1:a*bytes≤281474976710656)(h2:a≤281474976710656) (hbig:(sl+a)*(bytes+1)≤1099511627776):XV (.appendZ bytes zero x y) (hp n t lh) l (.slc n 0 (sl+a) (Aa+zero.length)) (hp (n+1) t ((n,some (cl (old++rl zero a)))::(b,none)::lh)):=by
 refine⟨?_⟩;obtain⟨m,rfl⟩: ∃m,a=m+1:=⟨a - 1,by omega⟩;have e1':evL l y= .int k (Int.ofNat (m+1)):=Ab e1;have g1:Nat.ble (Nat.mul (m+1) bytes) 281474976710656=true:=A0 h1;have g2:Nat.ble (m+1) 281474976710656=true:=A0 h2;have g:Nat.ble (Nat.mul (Nat.add sl (Nat.succ m)) (Nat.succ bytes)) 1099511627776=true:=A0 hbig;have hold:=k1.cells;have hp1:=Ww hz (m+1)
 cases k1 with
 | @slc _ _ _ _ c _ hbk hk hx hlt=>have g3:Nat.ble Aa (Aa+zero.length)=true:=A0 (by omega);have g4:Nat.beq (Aa+zero.length) (Nat.add Aa zero.length)=true:=Nat.beq_refl _;have hold':cellsAt (hp n t lh) b o (Nat.mul sl zero.length)=some old:=hold;have hbk':H.get (hp n t lh) b=some (.cells false c.length (ofL 0 .leaf c)):=hbk;simp only [exec,Ah,Ab e,e1',g1,g2,Dn,g,g3,g4,hold',hbk',hp1];rfl
theorem Ajs (e:evO l x=some (.slc b o sl cap))(e1:evO l y=some (.int k ((0:Nat):Int))):XV (.appendZ bytes zero x y) h l (.slc b o sl cap) h:=by refine⟨?_⟩;have e1':evL l y= .int k (Int.ofNat 0):=Ab e1;have g1:Nat.ble (Nat.mul 0 bytes) 281474976710656=true:=A0 (by show 0*bytes≤_;omega);have g2:Nat.ble 0 281474976710656=true:=rfl;simp only [exec,Ah,Ab e,e1',g1,g2,Dn]
end
theorem Kp.cut (k:Kp (fun j=>lo≤j) h h')(hl:h.n≤lo):K0 h h':=⟨k.n,fun b hb _=>k.old b hb (by omega)⟩
theorem Ape {v:Nat}(h:v<256 ^ n):v >>> (8*n)=0:=by rw [Nat.shiftRight_eq_div_pow,←U9];exact Nat.div_eq_of_lt h
structure MQ (M1 M2:List (Int×AV×Nat))(A:Int→Option Int):Prop where
 a1: ∀s,A5 M1 s=(A s).map AI
 a2: ∀s p,A s=some p→A5 M2 p=some (AI s)
 a3: ∀p u,A5 M2 p=some u→ ∃s,u=AI s∧A s=some p
theorem MQ.inj {A:Int→Option Int}(q:MQ M1 M2 A)(h:A s=some p)(h':A s'=some p):s=s':=by have h1:=q.a2 s p h;rw [q.a2 s' p h']at h1;simp only [AI,Option.some.injEq,AV.int.injEq,true_and]at h1;exact h1.symm
def E3 (A:Int→Option Int)(s0:Int):Int→Option Int:=fun s=>if s=s0 then none else A s
def C0 (A:Int→Option Int)(x:Ent):Int→Option Int:=fun s=>if s=x.1 then(if 0≤x.2 then some x.2 else none)else A s
theorem jl {A:Int→Option Int}(h:A s0=none):E3 A s0=A:=by
 funext s;unfold E3;by_cases e:s=s0;·rw [if_pos e,e,h]
 ·rw [if_neg e]
theorem W6 {A:Int→Option Int}{x:Ent}(h: ¬0≤x.2):C0 A x=E3 A x.1:=by funext s;unfold C0 E3;rw [if_neg h]
theorem W7 (A:Int→Option Int)(x:Ent):C0 (E3 A x.1) x=C0 A x:=by
 funext s;unfold C0 E3;by_cases e:s=x.1;·rw [if_pos e,if_pos e]
 ·rw [if_neg e,if_neg e,if_neg e]
theorem MQ.rem {A:Int→Option Int}(q:MQ M1 M2 A)(h:A s0=some p):MQ (I5 M1 s0) (I5 M2 p) (E3 A s0):=by
 refine⟨fun s=>?_,fun s p' hs=>?_,fun p' u hu=>?_⟩
 ·rw [Jo,q.a1];unfold E3;by_cases e:s=s0;·rw [if_pos e,if_pos e];rfl
  ·rw [if_neg e,if_neg e]
 ·unfold E3 at hs;by_cases e:s=s0;·rw [if_pos e]at hs;cases hs
  ·rw [if_neg e]at hs;have hp:p'≠p:=fun f=>e (q.inj (by rw [hs,f]) h);rw [Jo,if_neg hp];exact q.a2 s p' hs
 ·rw [Jo]at hu;by_cases e:p'=p;·rw [if_pos e]at hu;cases hu
  ·rw [if_neg e]at hu;obtain⟨s,h1,h2⟩:=q.a3 p' u hu;refine⟨s,h1,?_⟩;unfold E3;rw [if_neg];exact h2;rintro rfl;rw [h]at h2;cases h2;exact e rfl
theorem MQ.ins {A:Int→Option Int}(q:MQ M1 M2 A){x:Ent}{c1 c2:Nat}(hx:0≤x.2)(h:A x.1=none)(hp: ∀s,A s≠some x.2):MQ (C7 M1 c1 x.1 (AI x.2)) (C7 M2 c2 x.2 (AI x.1)) (C0 A x):=by
 refine⟨fun s=>?_,fun s p' hs=>?_,fun p' u hu=>?_⟩
 ·rw [Bz,q.a1];unfold C0;by_cases e:s=x.1;·rw [if_pos e,if_pos e,if_pos hx];rfl
  ·rw [if_neg e,if_neg e]
 ·unfold C0 at hs;rw [Bz];by_cases e:s=x.1;·rw [if_pos e,if_pos hx]at hs;cases hs;rw [if_pos rfl,e]
  ·rw [if_neg e]at hs;rw [if_neg fun f=>hp s (by rw [←f];exact hs)];exact q.a2 s p' hs
 ·rw [Bz]at hu;by_cases e:p'=x.2;·rw [if_pos e]at hu;cases hu;exact⟨x.1,rfl,by unfold C0;rw [if_pos rfl,if_pos hx,e]⟩
  ·rw [if_neg e]at hu;obtain⟨s,h1,h2⟩:=q.a3 p' u hu;refine⟨s,h1,?_⟩;unfold C0;rw [if_neg];exact h2;rintro rfl;rw [h]at h2;cases h2
def Ru (S T:Nat)(x:Ent):Prop:=0≤x.1∧x.1<S∧ -1≤x.2∧x.2<T
instance (S T:Nat)(x:Ent):Decidable (Ru S T x):=by unfold Ru;infer_instance
def Ada (A:Int→Option Int)(x:Ent):Prop:= ∃s,A s=some x.2∧s≠x.1
noncomputable def I6 (A:Int→Option Int)(p:Int):Bool:= @decide (∃s,A s=some p) (Classical.propDecidable _)
theorem hasP_t {A:Int→Option Int}:I6 A p=true↔ ∃s,A s=some p:=by unfold I6;exact @decide_eq_true_iff _ (Classical.propDecidable _)
theorem hasP_f {A:Int→Option Int}:I6 A p=false↔ ¬ ∃s,A s=some p:=by rw [←hasP_t];cases I6 A p <;> simp
def M0 (f:Nat→Bool):Nat→Nat
 |0=>0
 |n+1=>M0 f n+if f n=true then 1 else 0
theorem P4 (f:Nat→Bool): ∀n,M0 f n≤n
 |0=>Nat.le_refl _
 |n+1=>by have:=P4 f n;simp only [M0];split <;> omega
theorem Vh {f g:Nat→Bool}: ∀{n},(∀j,j<n→f j=g j)→M0 f n=M0 g n
 |0,_=>rfl
 |n+1,h=>by simp only [M0,h n (Nat.lt_succ_self n),Vh (n:=n) fun j hj=>h j (by omega)]
theorem W8 {f g:Nat→Bool}{k:Nat}(hf:f k=false)(hg:g k=true): ∀{n},k<n→(∀j,j<n→j≠k→f j=g j)→M0 g n=M0 f n+1
 |n+1,hk,h=>by
  simp only [M0];by_cases e:k=n;·subst e;rw [hf,hg,Vh fun j hj=>h j (by omega) (by omega)];simp
  ·rw [h n (Nat.lt_succ_self n) (fun q=>e q.symm),W8 hf hg (n:=n) (by omega) fun j hj=>h j (by omega)];omega
noncomputable def valA (A:Int→Option Int)(P i:Nat):Nat:=M0 (fun j=>I6 A ((i*P+j:Nat):Int)) P
theorem cg (A:Int→Option Int)(P i:Nat):valA A P i≤P:=P4 _ _
theorem Aqt {j:Nat}(hj:j<P):(i*P+j) / P=i:=by rw [Nat.mul_comm,Nat.mul_add_div (by omega),Nat.div_eq_of_lt hj,Nat.add_zero]
theorem Rv {A:Int→Option Int}{p:Nat}(hP:0<P)(h:A s0=some (p:Int))(inj: ∀s,A s=some (p:Int)→s=s0):valA A P i=valA (E3 A s0) P i+if p / P=i then 1 else 0:=by
 have key: ∀q:Nat,q≠p→I6 (E3 A s0) (q:Int)=I6 A (q:Int):=by
  intro q hq
  cases hc:I6 A (q:Int)with
  |true=>obtain⟨s,hs⟩:=hasP_t.1 hc;refine hasP_t.2 ⟨s,?_⟩;unfold E3;rw [if_neg];exact hs;rintro rfl;rw [h]at hs;cases hs;exact hq rfl
  |false=>
   refine hasP_f.2 fun⟨s,hs⟩=>hasP_f.1 hc ⟨s,?_⟩;unfold E3 at hs;by_cases e:s=s0;·rw [if_pos e]at hs;cases hs
   ·rw [if_neg e]at hs;exact hs
 by_cases e:p / P=i
 ·rw [if_pos e];have hp:i*P+p % P=p:=by rw [←e,Nat.mul_comm];exact Nat.div_add_mod p P
  refine W8 (k:=p % P) ?_ ?_ (Nat.mod_lt _ hP) fun j hj hne=>key _ (by omega)
  ·rw [hp];refine hasP_f.2 fun⟨s,hs⟩=>?_;unfold E3 at hs;by_cases e2:s=s0;·rw [if_pos e2]at hs;cases hs
   ·rw [if_neg e2]at hs;exact e2 (inj s hs)
  ·rw [hp];exact hasP_t.2 ⟨s0,h⟩
 ·rw [if_neg e,Nat.add_zero];exact Vh fun j hj=>(key _ fun q=>e (by rw [←q];exact Aqt hj)).symm
theorem vf {A:Int→Option Int}{p:Nat}(hP:0<P)(h:A s0=none)(hn: ∀s,A s≠some (p:Int)):valA (C0 A (s0,(p:Int))) P i=valA A P i+if p / P=i then 1 else 0:=by
 have h1:C0 A (s0,(p:Int)) s0=some (p:Int):=by unfold C0;rw [if_pos rfl,if_pos (by simp only;omega)]
 have h2:E3 (C0 A (s0,(p:Int))) s0=A:=by
  funext s;unfold E3 C0;by_cases e:s=s0;·rw [if_pos e,e,h]
  ·rw [if_neg e,if_neg e]
 rw [Rv (A:=C0 A (s0,(p:Int))) hP h1 ?_,h2];intro s hs;unfold C0 at hs;by_cases e:s=s0;·exact e
 ·rw [if_neg e]at hs;exact absurd hs (hn s)
structure MpC (S nb P:Nat)(h:H)(m r1 r2 vb:Nat)(A:Int→Option Int)(M1 M2:List (Int×AV×Nat))(c1 c2:Nat)(cv:List AV):Prop where
 k1:Mk h r1 (M1.map (mE AI)) c1
 o1:MOk M1 c1
 k2:Mk h r2 (M2.map (mE AI)) c2
 o2:MOk M2 c2
 kv:Bk h vb cv
 vl:cv.length=nb
 vv: ∀i,i<nb→cv[i]?=some (AN (valA A P i))
 mr:MQ M1 M2 A
structure MpR (S nb P:Nat)(h:H)(m r1 r2 vb:Nat)(A:Int→Option Int):Prop where
 km:Bk h m [AN S,AN nb,AN P,.map r1,.map r2,.slc vb 0 nb nb]
 ne:r1≠r2∧r1≠m∧r1≠vb∧r2≠m∧r2≠vb∧m≠vb
 rg: ∀s p,A s=some p→0≤s∧s<S∧0≤p∧p<((nb*P:Nat):Int)
 nz:0<nb∧nb≤12∧2≤P∧P≤6∧S≤1000
 ex: ∃M1 M2 c1 c2 cv,MpC S nb P h m r1 r2 vb A M1 M2 c1 c2 cv
theorem MpR.kp {A:Int→Option Int}{B:Nat→Prop}(q:MpR S nb P h m r1 r2 vb A)(k:Kp B h h')(hm: ¬B m)(h1: ¬B r1)(h2: ¬B r2)(hv: ¬B vb):MpR S nb P h' m r1 r2 vb A:=by obtain⟨M1,M2,c1,c2,cv,q5⟩:=q.ex;exact⟨Aq k hm q.km,q.ne,q.rg,q.nz,M1,M2,c1,c2,cv,⟨Me k h1 q5.k1,q5.o1,Me k h2 q5.k2,q5.o2,Aq k hv q5.kv,q5.vl,q5.vv,q5.mr⟩⟩
theorem MpR.k0 {A:Int→Option Int}(q:MpR S nb P h m r1 r2 vb A)(k:K0 h h'):MpR S nb P h' m r1 r2 vb A:=q.kp k id id id id
theorem MpR.lt {A:Int→Option Int}(q:MpR S nb P h m r1 r2 vb A):m<h.n∧r1<h.n∧r2<h.n∧vb<h.n:=by obtain⟨M1,M2,c1,c2,cv,q5⟩:=q.ex;exact⟨q.km.lt,q5.k1.lt,q5.k2.lt,q5.kv.lt⟩
theorem MpR.inj {A:Int→Option Int}(q:MpR S nb P h m r1 r2 vb A)(e:A s=some p)(e':A s'=some p):s=s':=by obtain⟨M1,M2,c1,c2,cv,q5⟩:=q.ex;exact q5.mr.inj e e'
section
variable {P0:Program}(L:Lg P0 E F K)(X:Fx F K)
include L X
section
variable {cb:List AV}
theorem D4 (hd:Bk h d (dvC D fm bb)):Ct P0 E F K 43 [.ptr d 0] h fun v h'=>v= .bool false∧h'=h:=by refine Ao L X.f43 fun Q x cs G=>?_;refine ret X.f43.1 ?_;exact⟨rfl,rfl⟩
theorem Y3 (hd:Bk h d (dvC D fm bb)){i:Int}:Ct P0 E F K 44 [.ptr d 0,.int .i64 i] h fun v h'=>v= .bool (decide (0≤i∧i<D.nb))∧h'=h:=by
 refine Af L X.f44 fun Q x cs G=>?_;refine wk ?_;by_cases hi:0≤i
 ·refine wk ?_;by_cases hj:i<D.nb;·refine ret X.f44.1 ?_;exact⟨by simp [single,hi,hj],rfl⟩
  ·refine ret X.f44.1 ?_;exact⟨by simp [single,hi,hj],rfl⟩
 ·refine ret X.f44.1 ?_;exact⟨by simp [single,hi],rfl⟩
theorem Iq (hd:Bk h d (dvC D fm bb)){i:Int}:Ct P0 E F K 102 [.ptr d 0,.int .i64 i,.int .i64 p] h fun v h'=>v= .bool (decide ((0≤i∧i<D.nb)∧0≤p∧p<D.P))∧h'=h:=by
 refine Bf L X.f102 fun Q x cs G=>?_;refine cal ?_ (c:=Y3 L X hd);rintro _ rfl;by_cases hi:0≤i∧i<D.nb
 ·rw [decide_eq_true hi];refine wk ?_;by_cases h1:0≤p
  ·refine wk ?_;by_cases h2:p<D.P;·refine ret X.f102.1 ?_;exact⟨by simp [single,hi,h1,h2],rfl⟩
   ·refine ret X.f102.1 ?_;exact⟨by simp [single,h2],rfl⟩
  ·refine ret X.f102.1 ?_;exact⟨by simp [single,h1],rfl⟩
 ·rw [decide_eq_false hi];refine ret X.f102.1 ?_;exact⟨by simp [single,hi],rfl⟩
theorem Jt (hd:Bk h d (dvC D fm bb)):Ct P0 E F K 51 [.ptr d 0] h fun v h'=>v= .agg [AN D.nb,AN D.P,AN D.sz,AN D.en]∧K0 h h':=by refine Ao L X.f51 fun Q x cs G=>?_;refine cal ?_ (c:=D4 L X lkp);rintro _ rfl;refine ret X.f51.1 ?_;exact⟨rfl,kps⟩
theorem Ir (hd:Bk h d (dvC D fm bb))(hb:Bk h bb cb){nx:Nat}(hi:i<D.nb)(hc:cb[i*3+1]?=some (AN nx)):Ct P0 E F K 61 [.ptr d 0,AN i] h fun v h'=>v= AN nx∧h'=h:=by refine Af L X.f61 fun Q x cs G=>?_;refine cal ?_ (c:=D4 L X hd);rintro _ rfl;refine cal ?_ (c:=Y3 L X hd);rintro _ rfl;rw [decide_eq_true (show 0≤(i:Int)∧(i:Int)<D.nb from⟨by omega,by omega⟩)];refine ret X.f61.1 ?_;exact⟨rfl,rfl⟩
end
end
theorem Am7 {p:Prop}(h:p:=by
 refine Bt L ?_
 refine wk ?_
 exact Wy L X (κ:= κ) (h0:=h) (dv:=h5.n+1+1) (bb:=h5.n+1) (fm:=h5.n) (s2:=h.n) h0 h1 h2 h3 G lkp lkp ⟨[],0,lkm,fun i=>by rw [ua];rfl⟩ lkp (by omega) kps tsb):p:=h
theorem Ac5 {p:Prop}(h:p:=by
 refine Af L X.f126 fun Q x cs G=>?_
 refine wk ?_
 refine Bt L ?_
 refine ret X.f126.1 ?_
 exact⟨rfl,kps⟩):p:=h
section
variable {P0:Program}(L:Lg P0 E F K)(X:Fx F K)
include L X
theorem Ki {v:Nat}(h1:a≤v)(h2:v≤b):Ct P0 E F K 125 [AN v,AN a,AN b] h fun u h'=>u= .bool true∧h'=h:=by refine Bf L X.f125 fun Q x cs G=>?_;refine ret X.f125.1 ?_;exact⟨rfl,rfl⟩
def Gy (g0 g1 g2 g3:Nat):List AV:= [AN g0,AN g1,AN g2,AN g3]
theorem Wx (h0:2≤g0∧g0≤12)(h1:2≤g1∧g1≤6)(h2:12≤g2∧g2≤30)(h3:1≤g3∧g3≤1000):Ct P0 E F K 73 [.agg (Gy g0 g1 g2 g3)] h fun u h'=>u= .bool true∧K0 h h':=by refine Ao L X.f73 fun Q x cs G=>?_;refine cal ?_ (c:=Ki L X (by omega) (by omega));rintro _ rfl;refine cal ?_ (c:=Ki L X (by omega) (by omega));rintro _ rfl;refine cal ?_ (c:=Ki L X (by omega) (by omega));rintro _ rfl;refine cal ?_ (c:=Ki L X (by omega) (by omega));rintro _ rfl;refine ret X.f73.1 ?_;exact⟨rfl,kps⟩
structure IntsR (κ: Nat→Nat)(h:H)(v:AV)(l:List Int):Prop where
 ex:(l= []∧v= .nils)∨(l= []∧ ∃a,v= .opq (.slice (some a) 0 0))∨ ∃b cap,v= .slc b 0 l.length cap∧Rk h b (l.map eI)∧κ b=0
omit L X in
theorem IntsR.fw {l:List Int}(q:IntsR κ h v l)(f:Fw κ h κ' h'):IntsR κ' h' v l:=by
 refine⟨?_⟩;rcases q.ex with h1|h1|⟨b,cap,h1,h2,h3⟩;·exact .inl h1
 ·exact .inr (.inl h1)
 ·exact .inr (.inr ⟨b,cap,h1,h2.keep f.n (f.old b h2.lt h3),(f.col b h2.lt).trans h3⟩)
theorem bv (hz:0≤z):Ct P0 E F K 75 [eI z] h fun u h'=>u= .bool false∧h'=h:=by refine Ao L X.f75 fun Q x cs G=>?_;refine ret X.f75.1 ?_;exact⟨rfl,rfl⟩
theorem io {l:List Int}(q:IntsR κ h v l)(hlen:l.length<1000)(hf: ∀x∈l,∀h2,Ct P0 E F K f [eI x] h2 fun u h'=>u= .bool false∧h'=h2):Ct P0 E F K 126 [v,.fn (.func f) [] []] h fun u h'=>u= .int .i64 (-1)∧K0 h h':=by
 rcases q.ex with⟨rfl,rfl⟩|⟨rfl,a,rfl⟩|⟨b,cap,rfl,hb,-⟩;·exact Ac5
 ·exact Ac5
 ·refine Af L X.f126 fun Q x cs G=>?_;refine wk ?_;refine Bs L (α:= Unit) (T:=fun i _=> [(8,some (AN i)),(7,some (AN l.length)),(0,some (.slc b 0 l.length cap)),(1,some (.fn (.func f) [] []))]) (n:=l.length) (R:=fun i _ h2=>True∧K0 h h2) (i0:=0) () tsb ⟨trivial,kps⟩ (Nat.zero_le _) ?_ ?_;·rintro i _ h2 hi ⟨-,k2⟩ ih;have hk:=Rl k2 hb;have hx:(l.map eI)[i]?=some (eI l[i]):=(by rw [List.getElem?_map,List.getElem?_eq_getElem hi];rfl);(try refine Bn L 1000 rfl ?_);(repeat(first|(apply st1 L rfl;exact⟨Dy rfl⟩;rfl)|(apply st1 L rfl;exact Hw rfl rfl rfl;rfl)|(apply st1 L rfl;exact Ey rfl rfl (by omega);rfl)|(apply st1 L rfl;exact Cb rfl rfl (by omega);rfl)|(apply st1 L rfl;exact Ff rfl rfl (by omega);rfl)));(apply st1 L rfl;exact Br rfl lkr hx;rfl);refine cal ?_ (c:=hf _ (List.getElem_mem hi) _);rintro _ rfl;refine wk ?_;exact ih () _ _ ⟨trivial,kps⟩ tsb
  ·rintro _ h2 ⟨-,k2⟩;refine ret X.f126.1 ?_;exact⟨rfl,k2⟩
theorem Mo {l:List Int}(q:IntsR κ h v l)(hlen:l.length<1000)(hf: ∀x∈l,∀h2,Ct P0 E F K f [eI x] h2 fun u h'=>u= .bool false∧h'=h2):Ct P0 E F K 74 [v,.fn (.func f) [] []] h fun u h'=>u= .bool false∧K0 h h':=by refine Af L X.f74 fun Q x cs G=>?_;refine cal ?_ (c:=io L X q hlen hf);rintro _ h2 ⟨rfl,k2⟩;refine ret X.f74.1 ?_;exact⟨rfl,k2⟩
structure PgRow (P i:Nat)(s:Nat)(c:List AV):Prop where
 len:c.length=P*2
 nil: ∀j,j<P→c[j*2]?=some .nils
 st: ∀j,j<P→c[j*2+1]?=some (AN (if j<i then s else 0))
omit L X in
theorem PgRow.step {s:Nat}(r:PgRow P i s c)(hi:i<P):PgRow P (i+1) s (c.set (i*2+1) (AN s)):=by
 refine⟨by rw [List.length_set];exact r.len,fun j hj=>?_,fun j hj=>?_⟩;·rw [List.getElem?_set_ne (by omega)];exact r.nil j hj
 ·by_cases e:j=i;·subst e;rw [List.getElem?_set_self (by rw [r.len];omega),if_pos (Nat.lt_succ_self j)]
  ·rw [List.getElem?_set_ne (by omega),r.st j hj];by_cases h1:j<i;·rw [if_pos h1,if_pos (by omega)]
   ·rw [if_neg h1,if_neg (by omega)]
omit L X in
theorem PgRow.init (s:Nat): ∀P,PgRow P 0 s (rl [.nils,Zi] P)
 |0=>⟨rfl,fun j hj=>by omega,fun j hj=>by omega⟩
 |P+1=>by
  have ih:=PgRow.init s P;have e:rl [.nils,Zi] (P+1)= .nils:: Zi::rl [.nils,Zi] P:=rfl;rw [e];have hl:=ih.len;refine⟨by rw [List.length_cons,List.length_cons];omega,fun j hj=>?_,fun j hj=>?_⟩
  ·cases j with
   |zero=>rfl
   |succ j=>rw [show(j+1)*2=j*2+1+1 by omega];simpa using ih.nil j (by omega)
  ·cases j with
   |zero=>rfl
   |succ j=>rw [show(j+1)*2+1=j*2+1+1+1 by omega];simpa using ih.st j (by omega)
theorem Y4 {q s:Nat}{cb:List AV}(hb:Bk h bb cb)(hq:q+1<cb.length)(hP:P<1000): Ct P0 E F K 76 [.ptr bb q,AN P,AN s] h fun v h'=>v= .tup []∧ ∃pn c',h.n≤pn∧Bk h' bb ((cb.set q (.slc pn 0 P P)).set (q+1) (AN (if s=1 then 0 else P)))∧Bk h' pn c'∧PgRow P P s c'∧Kp (fun j=>j=bb) h h':=by
 have hbb:=hb.lt;refine Bf L X.f76 fun Q x cs G=>?_;have hq0:q+0<cb.length:=by omega
 refine wk ?_;have e1:(cb.set (q+0) (.slc h.n 0 P P))[q+0]?=some (.slc h.n 0 P P):=List.getElem?_set_self hq0;refine wk ?_;refine Bs L (α:= Unit) (T:=fun i _=> [(17,some (AN i)),(16,some (AN P)),(0,some (.ptr bb q)),(1,some (AN P)),(2,some (AN s))]) (n:=P) (R:=fun i _ h1=>Bk h1 bb (cb.set (q+0) (.slc h.n 0 P P))∧(∃c,Bk h1 h.n c∧PgRow P i s c)∧Kp (fun j=>j=bb) h h1) (i0:=0) () tsb ⟨lkp,⟨_,lkp,PgRow.init s P⟩,kps⟩ (Nat.zero_le _) ?_ ?_
 ·rintro i _ h1 hi ⟨hb1,⟨c,hc,hr⟩,hk⟩ ih;have hlen:i*2+1<c.length:=by rw [hr.len];omega
  refine wk ?_;exact ih () _ _ ⟨lkp,⟨_,lkp,hr.step hi⟩,kps⟩ tsb
 ·rintro _ h1 ⟨hb1,⟨c,hc,hr⟩,hk⟩;have hlen:q+1<(cb.set (q+0) (.slc h.n 0 P P)).length:=by simpa using hq
  refine wk ?_;by_cases hs:s=1;·refine ret X.f76.1 ?_;refine⟨rfl,h.n,c,Nat.le_refl _,?_,lkp,hr,kps⟩;rw [if_pos hs];exact lkp
  ·have hlen2:q+1<((cb.set (q+0) (.slc h.n 0 P P)).set (q+1) Zi).length:=(by simpa using hq);refine ret X.f76.1 ?_;refine⟨rfl,h.n,c,Nat.le_refl _,?_,lkp,hr,kps⟩;rw [if_neg hs];exact Ra (List.set_set _) lkp
def Pn (l:List Int)(n:Nat):Bool:=decide ((n:Int)∈l)
omit L X in
theorem ua (n:Nat):Pn [] n=false:=by simp [Pn]
omit L X in
theorem ip {l:List Int}(h:l[i]?=some z)(n:Nat):Pn (l.take (i+1)) n=(decide ((n:Int)=z) || Pn (l.take i) n):=by
 unfold Pn;rw [List.take_add_one,h];by_cases e:(n:Int)=z;·simp [e]
 ·simp [e]
theorem Wy {h0:H}{dv s2:Nat}{fl:List Int}{x:AFr}(h0':2≤g0∧g0≤12)(h1:2≤g1∧g1≤6)(h2:12≤g2∧g2≤30)(h3:1≤g3∧g3≤1000) (G: ∀v h',(∃d κ',v= .tup [.ptr d 0,Zi]∧K0 h0 h'∧DevR κ' h' d (Dv.new g0 g1 g2 g3 (Pn fl))∧ ∀b,b<h0.n→κ' b=κ b)→GO P0 E Q (finish v cs h' x)) (kg:Bk h s2 (Gy g0 g1 g2 g3)) (kd:Bk h dv (dvL g0 g1 g2 g3 fm bb 0 (-1) 0 false)) (qfm:FltR h fm (Pn fl)) (kb:Bk h bb (rl [.nils,Zi,Zi] g0)) (hne:dv≠bb∧dv≠fm∧bb≠fm∧s2≠bb∧h0.n≤dv∧h0.n≤bb∧h0.n≤fm) (k0:K0 h0 h) {lq:List (Nat×Option AV)} (ht:TSub (tms [(41,some Zi),(40,some (AN g0)),(6,some (.ptr dv 0)),(2,some (.ptr s2 0))]) (tms lq)): Good P0 E Q ⟨⟨23,cf23.ntmps,tms lq,[.code (.loop Afn),.inBlock 2,.code Afo],[],.run,false,none⟩,x::cs,h⟩:=by
 refine Eh L ht ?_;have w1:=kd.lt;have w2:=kb.lt;have w3:=qfm.lt;obtain⟨e1,e2,e3,e4,e5,e6,e7⟩:=hne
 refine Bs L (α:= Nat→Nat) (T:=fun i _=> [(41,some (AN i)),(40,some (AN g0)),(6,some (.ptr dv 0)),(2,some (.ptr s2 0))]) (n:=g0)
  (R:=fun i κ' h5=>Bk h5 s2 (Gy g0 g1 g2 g3)∧Bk h5 (dv) (dvL g0 g1 g2 g3 fm bb 0 (-1) 0 false)∧FltR h5 fm (Pn fl)∧
   (∃cb,Bk h5 (bb) cb∧cb.length=g0*3∧(∀j,j<g0→cb[j*3+2]?=some Zi)∧ ∀j,j<i→ ∃pn c,BlR κ' h5 g1 j ⟨Dd 1,0,0⟩ cb pn c)∧
   (κ' (dv)=1∧κ' (bb)=2∧κ' fm=0∧ ∀b,b<h0.n→κ' b=κ b)∧K0 h0 h5) (i0:=0)
  (fun b=>if b=dv then 1 else if b=bb then 2 else if b=fm then 0 else κ b) tsb ⟨lkp,lkp,(by exact qfm.k0 kps),⟨_,lkp,?_,?_,fun j hj=>by omega⟩,⟨?_,?_,?_,fun b hb=>?_⟩,kps⟩ (Nat.zero_le _) ?_ ?_
 ·rw [Uo];rfl
 ·intro j hj;rw [X2 _ _ _ (by show _<_*3;omega),show(j*3+2) % [AV.nils,Zi,Zi].length=2 by show(j*3+2) % 3=2;omega];rfl
 ·exact if_pos rfl
 ·rw [if_neg (by omega),if_pos rfl]
 ·rw [if_neg (by omega),if_neg (by omega),if_pos rfl]
 ·rw [if_neg (by omega),if_neg (by omega),if_neg (by omega)]
 ·rintro i κ1 h5 hi ⟨q1,q2,q3,⟨cb,q4,q5,q6,q7⟩,⟨q8,q9,q10,q11⟩,q12⟩ ih;have b1:=q2.lt;have b3:=q3.lt;have b4:=q4.lt;refine cal ?_ (c:=Y4 L X (s:=1) lkp (by omega) (by omega));rintro _ h6 ⟨rfl,pn,c',r1,r3,r2x,r4,r5⟩;have b2:=r5.n;simp only [Al]at r1 b2;refine wk ?_;have hw:Fw κ1 h5 (upd κ1 pn (3+i)) h6:=⟨b2,fun b hb hc=>r5.old b hb fun e=>(by rw [e,q9]at hc;omega),fun b hb=>upd_ne _ _ (by omega)⟩;have hbl:i*3+1<cb.length:=by rw [q5];omega
  refine ih (upd κ1 pn (3+i)) _ _ ⟨lkp,lkp,q3.kp r5 (by omega),⟨_,lkp,?_,?_,?_⟩,⟨?_,?_,?_,?_⟩,kps⟩ tsb;·rw [List.length_set,List.length_set];exact q5
  ·intro j hj;rw [List.getElem?_set_ne (by omega),List.getElem?_set_ne (by omega)];exact q6 j hj
  ·intro j hj;have hj1:j<g0:=(by omega);by_cases hji:j=i
   ·subst hji;refine⟨pn,c',?_,?_,?_,⟨r2x,upd_eq _ _ _,r4.len,fun m hm=>⟨?_,fun _ _=>r4.nil m hm,fun hs=>?_⟩⟩⟩;·rw [List.getElem?_set_ne (by omega),List.getElem?_set_self (by omega)]
    ·rw [List.getElem?_set_self (by rw [List.length_set];omega)];rfl
    ·rw [List.getElem?_set_ne (by omega),List.getElem?_set_ne (by omega)];exact q6 j hj1
    ·rw [r4.st m hm,if_pos hm];rfl
    ·exact absurd hs (by show¬(1=2∨1=3);omega)
   ·obtain⟨pm,c,hr⟩:=q7 j (by omega);have h7:pm≠bb:=fun e=>by have:=hr.row.col;rw [e,q9]at this;omega
    have h8:=hr.fw hw (r5.old pm hr.row.k.lt (by omega));refine⟨pm,c,?_,?_,?_,h8.row⟩;·rw [List.getElem?_set_ne (by omega),List.getElem?_set_ne (by omega)];exact h8.c0
    ·rw [List.getElem?_set_ne (by omega),List.getElem?_set_ne (by omega)];exact h8.c1
    ·rw [List.getElem?_set_ne (by omega),List.getElem?_set_ne (by omega)];exact h8.c2
  ·rw [upd_ne _ _ (by omega)];exact q8
  ·rw [upd_ne _ _ (by omega)];exact q9
  ·rw [upd_ne _ _ (by omega)];exact q10
  ·intro b hb;rw [upd_ne _ _ (by omega)];exact q11 b hb
 ·rintro κ1 h5 ⟨q1,q2,q3,⟨cb,q4,q5,q6,q7⟩,⟨q8,q9,q10,q11⟩,q12⟩;refine ret X.f23.1 ?_;have b1:=q2.lt;refine⟨dv,κ1,rfl,q12,⟨⟨⟨h0',h1,h2,h3⟩,by show(0:Nat)<100000;omega,Nat.zero_le _,by show(-1:Int)≤ -1∧(-1:Int)<100000;omega,fun i hi=>⟨Nat.zero_le _,fun j hj=>absurd hj (Nat.not_lt_zero j),fun j _ _=>rfl,fun j _=>⟨fun hs=>absurd hs (by show¬(1=2∨1=3);omega),fun _ _=>rfl,(by show 1≤1∧1≤5;omega)⟩,Nat.zero_le _⟩⟩,fm,bb,cb,q2,q8,q3,q10,q4,q9,q5,h0'.2,q7⟩,q11⟩
theorem Agc (h0:2≤g0∧g0≤12)(h1:2≤g1∧g1≤6)(h2:12≤g2∧g2≤30)(h3:1≤g3∧g3≤1000){fl:List Int}(qf:IntsR κ h v fl)(hf: ∀x∈fl,0≤x)(hfn:fl.length<1000): Ct P0 E F K 23 [.agg (Gy g0 g1 g2 g3),v] h fun v h'=> ∃d κ',v= .tup [.ptr d 0,Zi]∧K0 h h'∧DevR κ' h' d (Dv.new g0 g1 g2 g3 (Pn fl))∧ ∀b,b<h.n→κ' b=κ b:=by
 rcases qf.ex with⟨rfl,rfl⟩|⟨rfl,a,rfl⟩|⟨b,cap,rfl,hb,-⟩
 all_goals
  refine Af L X.f23 fun Q x cs G=>?_;refine cal ?_ (c:=Wx L X h0 h1 h2 h3);rintro _ h4 ⟨rfl,hk4⟩;have n4:=hk4.n;simp only [Al]at n4;refine cal ?_ (c:=Mo L X (qf.fw (Kp.fw0 (by exact kps))) hfn (fun x hx h2=>bv L X (hf x hx)));rintro _ h5 ⟨rfl,hk5⟩;have n5:=hk5.n;simp only [Al]at n5;refine wk ?_
 ·exact Am7
 ·exact Am7
 ·have lb:=hb.lt
  refine Bs L (α:= Unit) (T:=fun i _=> [(26,some (AN i)),(25,some (AN fl.length)),(24,some (.slc b 0 fl.length cap)),(6,some (.ptr (h5.n+1+1) 0)),(2,some (.ptr h.n 0))]) (n:=fl.length)
   (R:=fun i _ h6=>Bk h6 h.n (Gy g0 g1 g2 g3)∧Bk h6 (h5.n+1+1) (dvL g0 g1 g2 g3 h5.n (h5.n+1) 0 (-1) 0 false)∧(∃M ck,Mk h6 h5.n (M.map (mE eI)) ck∧MOk M ck∧ ∀j:Nat,A5 M (j:Int)=if Pn (fl.take i) j=true then some (.bool true)else none)∧Bk h6 (h5.n+1) (rl [.nils,Zi,Zi] g0)∧K0 h h6) (i0:=0)
   () tsb ⟨lkp,lkp,⟨[],0,lkm,MOk.nil,fun i=>by rw [List.take_zero,ua];rfl⟩,lkp,kps⟩ (Nat.zero_le _) ?_ ?_
  ·rintro i _ h6 hi ⟨q1,q2,⟨M,ck,q3,q4,q5⟩,q6,q7⟩ ih;have l2:=q2.lt;have l3:=q3.lt;have l6:=q6.lt;have l1:=q1.lt;have hk:=Rl q7 hb;have hx:(fl.map eI)[i]?=some (eI fl[i]):=(by rw [List.getElem?_map,List.getElem?_eq_getElem hi];rfl);(try refine Bn L 1000 rfl ?_);(repeat(first|(apply st1 L rfl;exact⟨Dy rfl⟩;rfl)|(apply st1 L rfl;exact Hw rfl rfl rfl;rfl)|(apply st1 L rfl;exact Ey rfl rfl (by omega);rfl)|(apply st1 L rfl;exact Cb rfl rfl (by omega);rfl)|(apply st1 L rfl;exact Ff rfl rfl (by omega);rfl)));(apply st1 L rfl;exact Br rfl lkr hx;rfl);refine wk ?_;(apply Lm L rfl;exact Ez (KE.int .i64) q4 rfl rfl rfl lkq;rfl);refine wk ?_;refine ih () _ _ ⟨lkp,lkp,⟨_,_,lkq,q4.set _ _,fun j=>?_⟩,lkp,kps⟩ tsb;rw [Bz,q5,ip (List.getElem?_eq_getElem hi)];by_cases e:((j:Nat):Int)=fl[i];·rw [if_pos e,decide_eq_true e];rfl
   ·rw [if_neg e,decide_eq_false e];rfl
  ·rintro _ h6 ⟨q1,q2,⟨M,ck,q3,q4,q5⟩,q6,q7⟩;refine wk ?_;exact Wy L X (κ:= κ) (h0:=h) (dv:=h5.n+1+1) (bb:=h5.n+1) (fm:=h5.n) (s2:=h.n) h0 h1 h2 h3 G lkp lkp ⟨M,ck,lkq,fun i=>by rw [q5,List.take_length]⟩ lkp (by omega) kps tsb
end
variable {D':Dv}{P0:Program}{ab b1 b2 c1 c2 er nx o1 o2 s:Nat}{cb:List AV}{p:Prop}
theorem Am8 (h:p:=by
 obtain⟨M,ck,k1,k2⟩:=hf.ex
 have k3:=k2 D.n
 rw [hq]at k3
 refine Rf L X.f106 fun Q x cs G=>?_
 refine wk ?_
 (apply st1 L rfl;exact Db (KE.int .i64) rfl rfl lkq;rfl)
 rw [k3]
 refine cal ?_ (c:=hi _ lkp kps)
 rintro u h2 hp2
 refine ret X.f106.1 ?_
 exact⟨rfl,_,u,lkp,kps,hp2⟩):p:=h
section
variable (L:Lg P0 E F K)(X:Fx F K)
include L X
section
variable {b3 q:Nat}
theorem Ts (hb3:Bk h b3 [.ptr bb q])(hb2:Bk h b2 [.ptr d 0])(hd:Bk h d (dvC D fm bb))(hb:Bk h bb cb)(hq:q+1<cb.length)(hP:D.P<1000): Ct P0 E F K 105 [.ptr b3 0,.ptr b2 0] h fun v h'=> ∃pn c',h.n≤pn∧Bk h' bb ((cb.set q (.slc pn 0 D.P D.P)).set (q+1) (AN D.P))∧Bk h' pn c'∧PgRow D.P D.P 5 c'∧Kp (fun j=>j=bb) h h':=by refine Af L X.f105 fun Q x cs G=>?_;refine cal ?_ (c:=Y4 L X (s:=5) lkp hq hP);rintro _ h1 ⟨rfl,r⟩;refine ret X.f105.1 ?_;exact r
theorem iq (hb3:Bk h b3 [.ptr bb q])(hb2:Bk h b2 [.ptr d 0])(hd:Bk h d (dvC D fm bb))(hb:Bk h bb cb)(hq:q+1<cb.length)(hP:D.P<1000): Ct P0 E F K 107 [.ptr b3 0,.ptr b2 0] h fun v h'=> ∃pn c',h.n≤pn∧Bk h' bb ((cb.set q (.slc pn 0 D.P D.P)).set (q+1) Zi)∧Bk h' pn c'∧PgRow D.P D.P 1 c'∧Kp (fun j=>j=bb) h h':=by refine Af L X.f107 fun Q x cs G=>?_;refine cal ?_ (c:=Y4 L X (s:=1) lkp hq hP);rintro _ h1 ⟨rfl,r⟩;refine ret X.f107.1 ?_;exact r
section
variable {fi:Nat}{f1 f2:AV}{e:Int}{post:H→AV→H→Prop}
theorem O9 (hd:Bk h d (dvC D fm bb))(hn:D.n<100000)(hc:(D.n:Int)=D.cut) (hi: ∀h1,Bk h1 d (dvC {D with n:=D.n+1,off:=true} fm bb)→Kp (fun j=>j=d) h h1→Ct P0 E F K fi cp h1 (post h1)): Ct P0 E F K 106 [.ptr d 0,f1,f2,.fn (.func fi) [] cp,.int .i64 e] h fun v h'=>v= AN 50∧ ∃h1 u,Bk h1 d (dvC {D with n:=D.n+1,off:=true} fm bb)∧Kp (fun j=>j=d) h h1∧post h1 u h':=by refine Rf L X.f106 fun Q x cs G=>?_;refine cal ?_ (c:=hi _ lkp kps);rintro u h2 hp2;refine ret X.f106.1 ?_;exact⟨rfl,_,u,lkp,kps,hp2⟩
theorem Pa (hd:Bk h d (dvC D fm bb))(hf:FltR h fm D.flt)(hfd:fm≠d)(hn:D.n<100000)(hc:(D.n:Int)≠D.cut)(hq:D.flt D.n=false) (hi: ∀h1,Bk h1 d (dvC {D with n:=D.n+1} fm bb)→Kp (fun j=>j=d) h h1→Ct P0 E F K fi cp h1 (post h1)): Ct P0 E F K 106 [.ptr d 0,.fn (.func fi) [] cp,f1,f2,.int .i64 e] h fun v h'=>v= Zi∧ ∃h1 u,Bk h1 d (dvC {D with n:=D.n+1} fm bb)∧Kp (fun j=>j=d) h h1∧post h1 u h':=by exact Am8
theorem Pb (hd:Bk h d (dvC D fm bb))(hf:FltR h fm D.flt)(hfd:fm≠d)(hn:D.n<100000)(hc:(D.n:Int)≠D.cut)(hq:D.flt D.n=true) (hi: ∀h1,Bk h1 d (dvC {D with n:=D.n+1} fm bb)→Kp (fun j=>j=d) h h1→Ct P0 E F K fi cp h1 (post h1)): Ct P0 E F K 106 [.ptr d 0,f1,.fn (.func fi) [] cp,f2,.int .i64 e] h fun v h'=>v= .int .i64 e∧ ∃h1 u,Bk h1 d (dvC {D with n:=D.n+1} fm bb)∧Kp (fun j=>j=d) h h1∧post h1 u h':=by exact Am8
end
end
end
theorem Am9 (h:p:=by
 exact⟨by rw [g2];exact h1.nx,h1.lo,by rw [g2];exact h1.hi,by rw [g2,g3];exact h1.pg,by rw [g4];exact h1.er⟩):p:=h
section
variable (L:Lg P0 E F K)(X:Fx F K)
include L X
omit L X in
theorem DevC.newRow {c':List AV}(q:DevC κ h d D fm bb cb)(hi:i<D.nb)(hnb:D'.nb=D.nb)(hP:D'.P=D.P)(hfl:D'.flt=D.flt)(hbl:D'.bl=upd D.bl i ⟨Dd s,nx,er⟩)(hs:s≠2∧s≠3) (k:Kp (fun j=>j=d∨j=bb) h h') (dk:Bk h' d (dvC D' fm bb)) (bk:Bk h' bb (((cb.set (i*3+2) (AN er)).set (i*3) (.slc pn 0 D.P D.P)).set (i*3+1) (AN nx))) (rk:Bk h' pn c') (r:PgRow D.P D.P s c') (hp:h.n≤pn): ∃κ' cb',DevC κ' h' d D' fm bb cb'∧Ch κ h κ' h':=by
 have b1:=q.dk.lt;have b2:=q.bk.lt;have b3:=q.fk.lt;have l:=q.blen;have c1:=q.dcol;have c2:=q.bcol;have c3:=q.fcol;have hch:Ch κ h (upd κ pn (3+i)) h':=⟨k.mono fun j hj=>by rcases hj with e|e <;> subst e <;> omega,fun b hb=>upd_ne _ _ (by omega)⟩;refine⟨upd κ pn (3+i),_,⟨dk,(upd_ne _ _ (by omega)).trans c1,by rw [hfl];exact q.fk.kp k (by intro e;rcases e with e|e <;> subst e <;> omega),(upd_ne _ _ (by omega)).trans c3,bk,(upd_ne _ _ (by omega)).trans c2,?_,by rw [hnb];exact q.nb,fun j hj=>?_⟩,hch⟩;·rw [List.length_set,List.length_set,List.length_set,hnb];exact l
 ·rw [hnb]at hj;by_cases e:j=i
  ·subst e;refine⟨pn,c',?_,?_,?_,rk,upd_eq _ _ _,by rw [hP];exact r.len,fun m hm=>?_⟩;·rw [List.getElem?_set_ne (by omega),List.getElem?_set_self (by rw [List.length_set];omega),hP]
   ·rw [List.getElem?_set_self (by rw [List.length_set,List.length_set];omega),hbl,upd_eq]
   ·rw [List.getElem?_set_ne (by omega),List.getElem?_set_ne (by omega),List.getElem?_set_self (by omega),hbl,upd_eq]
   ·rw [hP]at hm;rw [hbl,upd_eq];refine⟨?_,fun _ _=>r.nil m hm,fun h1=>absurd h1 (by show¬(s=2∨s=3);omega)⟩;rw [r.st m hm,if_pos hm];rfl
  ·obtain⟨pm,c,hr⟩:=q.rows j hj;have h7:=hr.row.col;have h8:=hr.fw hch.fw (k.old pm hr.row.k.lt (by intro e;rcases e with e|e <;> subst e <;> omega));rw [hP,hbl,upd_ne _ _ e];refine⟨pm,c,?_,?_,?_,h8.row⟩;·rw [List.getElem?_set_ne (by omega),List.getElem?_set_ne (by omega),List.getElem?_set_ne (by omega)];exact h8.c0
   ·rw [List.getElem?_set_ne (by omega),List.getElem?_set_ne (by omega),List.getElem?_set_ne (by omega)];exact h8.c1
   ·rw [List.getElem?_set_ne (by omega),List.getElem?_set_ne (by omega),List.getElem?_set_ne (by omega)];exact h8.c2
omit L X in
theorem Dv.Ok.row (q:D.Ok)(hg:D'.nb=D.nb∧D'.P=D.P∧D'.sz=D.sz∧D'.en=D.en)(hn:D'.n<100000)(hb:D'.byt=D.byt)(hc:D'.cut=D.cut)(hbl:D'.bl=upd D.bl i ⟨Dd s,nx,er⟩)(hs:s=1∧nx=0∨s=5∧nx=D.P)(he:er≤D.en):D'.Ok:=by
 obtain⟨g1,g2,g3,g4⟩:=hg;refine⟨⟨by rw [g1];exact q.g.nb,by rw [g2];exact q.g.P,by rw [g3];exact q.g.sz,by rw [g4];exact q.g.en⟩,hn,by rw [hb,g3];exact q.byt,by rw [hc];exact q.cut,fun j hj=>?_⟩;rw [g1]at hj;rw [hbl];by_cases e:j=i
 ·subst e;rw [upd_eq];have hpg: ∀m,((Dd s) m).Ok D'.sz:=fun m=>⟨fun h1=>absurd h1 (by show¬(s=2∨s=3);omega),fun _ _=>rfl,(by show 1≤s∧s≤5;omega)⟩;rcases hs with⟨h1,h2⟩|⟨h1,h2⟩ <;> subst h1 <;> subst h2
  ·exact⟨Nat.zero_le _,fun m hm=>absurd hm (Nat.not_lt_zero m),fun m _ _=>rfl,fun m _=>hpg m,by rw [g4];exact he⟩
  ·exact⟨by rw [g2];exact Nat.le_refl _,fun m _=>(by show 5≠1;omega),fun m h1 h2=>absurd h2 (by rw [g2];show¬m<D.P;exact Nat.not_lt.2 h1),fun m _=>hpg m,by rw [g4];exact he⟩
 ·rw [upd_ne _ _ e];have h1:=q.bl j hj;exact Am9
theorem uc (q:DevC κ h d D fm bb cb)(ok:D.Ok)(hn:D.n+1<100000)(hi:i<D.nb)(hoff:D.off=false)(he:(D.bl i).er<D.en): Ct P0 E F K 45 [.ptr d 0,.ptr bb (i*3)] h fun v h'=>v= AN ((D.erase i).2)∧ ∃κ',DevR κ' h' d (D.erase i).1∧Ch κ h κ' h':=by
 obtain⟨pn,c,hr⟩:=q.rows i hi;have hc2:=hr.c2;have b1:=q.dk.lt;have b2:=q.bk.lt;have b3:=q.fk.lt;have l:=q.blen;have l2:i*3+2<cb.length:=by omega
 have c1:=q.dcol;have c2:=q.bcol;have c3:=q.fcol;have hdk:=q.dk;have hbk:=q.bk;have hfk:=q.fk;have hen:=ok.g.en;have hgP:=ok.g.P;have hdb:d≠bb:=fun e=>by rw [e]at c1;omega
 have hdf:fm≠d:=fun e=>by rw [e]at c3;omega
 have hbf:fm≠bb:=fun e=>by rw [e]at c3;omega
 have l3:i*3+1<(cb.set (i*3+2) (AN ((D.bl i).er+1))).length:=by rw [List.length_set];omega
 have e0:D.erase i=if(D.n:Int)=D.cut then({D with bl:=upd D.bl i ⟨Dd 5,D.P,(D.bl i).er+1⟩,n:=D.n+1,off:=true},50)else if D.flt D.n=true then({D with bl:=upd D.bl i ⟨Dd 5,D.P,(D.bl i).er+1⟩,n:=D.n+1},55)else({D with bl:=upd D.bl i ⟨Dd 1,0,(D.bl i).er+1⟩,n:=D.n+1},0):=by unfold Dv.erase;rw [if_pos ⟨by omega,by omega⟩,hoff,if_neg (by simp),Int.toNat_natCast,if_neg (by omega)]
 refine Af L X.f45 fun Q x cs G=>?_;refine wk ?_;by_cases hc:(D.n:Int)=D.cut;·refine cal ?_ (c:=O9 L X lkp (by omega) hc fun h2 k1 k2=>Ts L X (b3:=h.n+1) (b2:=h.n) lkp lkp k1 lkp l3 (by show D.P<1000;omega));rintro _ h2 ⟨rfl,h1,u,r1,r2,pn',c',r3,r4,r5,r6,r7⟩;refine ret X.f45.1 ?_;rw [e0,if_pos hc];refine⟨rfl,?_⟩;have k2:Kp (fun j=>j=d∨j=bb) h h2:=Kp.trS r7 (fun _ _ e=> .inr e) (Kp.trS r2 (fun _ _ e=> .inl e) (Kp.st (.inr (.inr rfl)) (Kp.nw (Kp.nw (.refl _)))));have n2:=r2.n;simp only [Al]at n2;obtain⟨κ',cb',w1,w2⟩:=q.newRow (D':= {D with bl:=upd D.bl i ⟨Dd 5,D.P,(D.bl i).er+1⟩,n:=D.n+1,off:=true}) hi rfl rfl rfl rfl (by omega) k2 (Aq r7 hdb r1) r4 r5 r6 (by omega);exact⟨κ',⟨ok.row (D':= {D with bl:=upd D.bl i ⟨Dd 5,D.P,(D.bl i).er+1⟩,n:=D.n+1,off:=true}) ⟨rfl,rfl,rfl,rfl⟩ hn rfl rfl rfl (.inr ⟨rfl,rfl⟩) (by omega),_,_,_,w1⟩,w2⟩
 ·cases hq:D.flt D.n with
  |true=>refine cal ?_ (c:=Pb L X lkp (hfk.kp (S:=fun j=>j=bb) kps hbf) hdf (by omega) hc hq fun h2 k1 k2=>Ts L X (b3:=h.n+1) (b2:=h.n) lkp lkp k1 lkp l3 (by show D.P<1000;omega));rintro _ h2 ⟨rfl,h1,u,r1,r2,pn',c',r3,r4,r5,r6,r7⟩;refine ret X.f45.1 ?_;rw [e0,if_neg hc,if_pos hq];refine⟨rfl,?_⟩;have k2:Kp (fun j=>j=d∨j=bb) h h2:=Kp.trS r7 (fun _ _ e=> .inr e) (Kp.trS r2 (fun _ _ e=> .inl e) (Kp.st (.inr (.inr rfl)) (Kp.nw (Kp.nw (.refl _)))));have n2:=r2.n;simp only [Al]at n2;obtain⟨κ',cb',w1,w2⟩:=q.newRow (D':= {D with bl:=upd D.bl i ⟨Dd 5,D.P,(D.bl i).er+1⟩,n:=D.n+1}) hi rfl rfl rfl rfl (by omega) k2 (Aq r7 hdb r1) r4 r5 r6 (by omega);exact⟨κ',⟨ok.row (D':= {D with bl:=upd D.bl i ⟨Dd 5,D.P,(D.bl i).er+1⟩,n:=D.n+1}) ⟨rfl,rfl,rfl,rfl⟩ hn rfl rfl rfl (.inr ⟨rfl,rfl⟩) (by omega),_,_,_,w1⟩,w2⟩
  |false=>refine cal ?_ (c:=Pa L X lkp (hfk.kp (S:=fun j=>j=bb) kps hbf) hdf (by omega) hc hq fun h2 k1 k2=>iq L X (b3:=h.n+1) (b2:=h.n) lkp lkp k1 lkp l3 (by show D.P<1000;omega));rintro _ h2 ⟨rfl,h1,u,r1,r2,pn',c',r3,r4,r5,r6,r7⟩;refine ret X.f45.1 ?_;rw [e0,if_neg hc,if_neg (by rw [hq];simp)];refine⟨rfl,?_⟩;have k2:Kp (fun j=>j=d∨j=bb) h h2:=Kp.trS r7 (fun _ _ e=> .inr e) (Kp.trS r2 (fun _ _ e=> .inl e) (Kp.st (.inr (.inr rfl)) (Kp.nw (Kp.nw (.refl _)))));have n2:=r2.n;simp only [Al]at n2;obtain⟨κ',cb',w1,w2⟩:=q.newRow (D':= {D with bl:=upd D.bl i ⟨Dd 1,0,(D.bl i).er+1⟩,n:=D.n+1}) hi rfl rfl rfl rfl (by omega) k2 (Aq r7 hdb r1) r4 r5 r6 (by omega);exact⟨κ',⟨ok.row (D':= {D with bl:=upd D.bl i ⟨Dd 1,0,(D.bl i).er+1⟩,n:=D.n+1}) ⟨rfl,rfl,rfl,rfl⟩ hn rfl rfl rfl (.inl ⟨rfl,rfl⟩) (by omega),_,_,_,w1⟩,w2⟩
end
theorem Agd (h:p:=by
 refine ret X.f12.1 ?_
 rw [e0]
 exact⟨rfl,κ,⟨ok,fm,bb,cb,q⟩,.refl _ _⟩):p:=h
section
variable (L:Lg P0 E F K)(X:Fx F K)
include L X
theorem ir {i:Int}(r:DevR κ h d D)(hn:D.n+1<100000): Ct P0 E F K 12 [.ptr d 0,.int .i64 i] h fun v h'=>v= AN ((D.erase i).2)∧ ∃κ',DevR κ' h' d (D.erase i).1∧Ch κ h κ' h':=by
 obtain⟨ok,fm,bb,cb,q⟩:=r;have hd:=q.dk;refine Af L X.f12 fun Q x cs G=>?_;refine cal ?_ (c:=D4 L X hd);rintro _ rfl;refine cal ?_ (c:=Y3 L X hd);rintro _ rfl;by_cases hi:0≤i∧i<D.nb
 ·rw [decide_eq_true hi]
  cases hoff:D.off with
  |true=>have e0:D.erase i=(D,50):=(by unfold Dv.erase;rw [if_pos hi,if_pos hoff]);unfold dvC dvL at hd;rw [hoff]at hd;exact Agd
  |false=>
   unfold dvC dvL at hd;rw [hoff]at hd;obtain⟨j,rfl⟩: ∃j:Nat,i=j:=⟨i.toNat,by omega⟩;have hj:j<D.nb:=(by omega);obtain⟨pn,c,hr⟩:=q.rows j hj;have hc2:=hr.c2;have hbk:=q.bk;have hen:=ok.g.en;have hbe:=(ok.bl j hj).er;refine wk ?_;by_cases he:D.en≤(D.bl j).er;·have e0:D.erase j=(D,56):=(by unfold Dv.erase;rw [if_pos hi,if_neg (by rw [hoff];simp),Int.toNat_natCast,if_pos he]);exact Agd
   ·refine cal ?_ (c:=uc L X q ok hn hj hoff (by omega));rintro _ h1 ⟨rfl,r⟩;refine ret X.f12.1 ?_;exact⟨rfl,r⟩
 ·rw [decide_eq_false hi];have e0:D.erase i=(D,2):=by unfold Dv.erase;rw [if_neg hi]
  exact Agd
theorem Aay (h0:0<n)(hn:n<10000):Ct P0 E F K 148 [.nils,AN n] h fun v h'=> ∃b,v= .slc b 0 0 (Aa+1)∧(∃c,Bk h' b c)∧h.n≤b∧K0 h h':=by refine Af L X.f148 fun Q x cs G=>?_;refine wk ?_;(apply st1 L rfl;exact Acz rfl rfl (by omega) (by omega) (by omega) (by omega);rfl);refine ret X.f148.1 ?_;exact⟨h.n,rfl,⟨_,lkp⟩,Nat.le_refl _,kps⟩
theorem Kj {pb n1 n2:Nat}{bs1 bs2:List Nat}(hp1:Bk h pb [.slc b1 o1 n1 c1,.slc b2 o2 n2 c2])(k1:BS h b1 o1 bs1)(k2:BS h b2 o2 bs2)(e1:bs1.length=n1)(e2:bs2.length=n2)(h1:0<n1∧n1<1000)(h2:0<n2∧n2<1000): Ct P0 E F K 104 [.slc pb 0 2 2] h fun v h'=> ∃b,v= .slc b 0 (n1+n2) (Aa+1)∧BS h' b 0 (bs1++bs2)∧h.n≤b∧K0 h h':=by
 have l1:=hp1.lt;have l2:=k1.lt_n;have l3:=k2.lt_n;have a1:=k1.all;have a2:=k2.all;refine Ao L X.f104 fun Q x cs G=>?_;refine wk ?_;refine Bt L ?_;refine wk ?_;refine Bw L ?_;refine wk ?_;refine Bw L ?_;refine cal ?_ (c:=Aay L X (by omega) (by omega));rintro _ h3 ⟨gb,rfl,⟨c,hc⟩,hg,hk⟩;have hn3:=hk.n;simp only [Al]at hg hn3;refine wk ?_;refine Bt L ?_;refine wk ?_;have f1:BS (hp h3.n h3.t []) b1 o1 bs1:=lkb;(apply st1 L rfl;exact Dq rfl rfl (SlR.of (b:=gb) (o:=0) (n:=0) (c:=c) (xs:= []) lkp (by omega) (by simp)) (f1.slr e1) h1.1 (by omega) (E1 _);rfl);refine wk ?_;refine Bw L ?_;refine wk ?_;have f2:BS (hp (h3.n+1) h3.t [(h3.n,some (cl ([]++B7 bs1))),(gb,none)]) b2 o2 bs2:=lkb;have f3:BS (hp (h3.n+1) h3.t [(h3.n,some (cl ([]++B7 bs1))),(gb,none)]) h3.n 0 bs1:=Hi a1;(apply st1 L rfl;exact Dq rfl rfl (f3.slr (by omega)) (f2.slr e2) h2.1 (by omega) (E1 _);rfl);refine wk ?_;refine Bw L ?_;refine ret X.f104.1 ?_;refine⟨h3.n+1,by rw [show 0+n1+n2=n1+n2 by omega];rfl,?_,by omega,?_⟩;·rw [Jp];exact Hi (a1.app a2)
 ·have hk2:K0 h h3:=Kp.tr0 hk kps;exact kps
def Po (byt:Nat)(bs:List Nat):List Nat:=bs.take byt++List.replicate (bs.length - byt) 255
omit L X in
theorem Ju (byt:Nat)(bs:List Nat)(h:byt≤bs.length):(Po byt bs).length=bs.length:=by unfold Po;rw [List.length_append,List.length_take,List.length_replicate];omega
omit L X in
theorem Wz (byt:Nat)(bs:List Nat)(h:byt≤bs.length)(i:Nat)(hi:i<bs.length):(Po byt bs).getD i 0=if byt≤i then 255 else bs.getD i 0:=by
 unfold Po;rw [Wu,List.length_take,Nat.min_eq_left h];by_cases h1:i<byt;·rw [if_pos h1,if_neg (by omega)];simp only [List.getD_eq_getElem?_getD];rw [List.getElem?_take_of_lt h1]
 ·rw [if_neg h1,if_pos (by omega)];simp only [List.getD_eq_getElem?_getD];rw [List.getElem?_replicate_of_lt (by omega)];rfl
section
variable {a4 a7 a10:Nat}{all:List Nat}
theorem ud (h7:Bk h a7 [.slc ab 0 n (Aa+1)])(h10:Bk h a10 [.ptr pn o])(hp1:Bk h pn c)(ho:o+1<c.length): Ct P0 E F K 145 [.ptr a7 0,.ptr a10 0] h fun v h'=>Bk h' pn ((c.set o (.slc ab 0 n (Aa+1))).set (o+1) (AN 2))∧Kp (fun b=>b=pn) h h':=by have l1:=hp1.lt;refine Af L X.f145 fun Q x cs G=>?_;refine ret X.f145.1 ?_;exact⟨lkp,kps⟩
theorem ue (h10:Bk h a10 [.ptr pn o])(hp1:Bk h pn c)(ho:o+1<c.length): Ct P0 E F K 146 [.ptr a10 0] h fun v h'=>Bk h' pn ((c.set o .nils).set (o+1) (AN 4))∧Kp (fun b=>b=pn) h h':=by have l1:=hp1.lt;refine Ao L X.f146 fun Q x cs G=>?_;refine ret X.f146.1 ?_;exact⟨lkp,kps⟩
theorem uf (h7:Bk h a7 [.slc ab 0 n (Aa+1)])(h10:Bk h a10 [.ptr pn o])(h4:Bk h a4 [.ptr d 0])(hd:Bk h d (dvC D fm bb))(hp1:Bk h pn c)(ho:o+1<c.length)(hb:BS h ab 0 all)(hn:all.length=n)(hn1:n<1000)(hby:D.byt≤n) (hne:a4≠pn∧a7≠pn∧a10≠pn∧d≠pn∧ab≠pn∧a4≠ab∧a7≠ab∧d≠ab): Ct P0 E F K 147 [.ptr a7 0,.ptr a10 0,.ptr a4 0] h fun v h'=>Bk h' pn ((c.set o (.slc ab 0 n (Aa+1))).set (o+1) (AN (if D.byt=n then 2 else 3)))∧BS h' ab 0 (Po D.byt all)∧Kp (fun b=>b=pn∨b=ab) h h':=by
 obtain⟨n1,n2,n3,n4,n5,n6,n7,n8⟩:=hne;have l1:=hp1.lt;have l2:=hb.lt_n;obtain⟨cc,q1,q2,q3⟩:=hb.ex;refine Bf L X.f147 fun Q x cs G=>?_;refine wk ?_
 have key: ∀h1,Kp (fun b=>b=pn∨b=ab) h h1→Bk h1 pn ((c.set o (.slc ab 0 n (Aa+1))).set (o+1) (AN (if D.byt=n then 2 else 3)))→
   (∃c2,Bk h1 ab c2∧n≤c2.length∧ ∀m,m<n→c2[m]?=some (.int .u8 ((if D.byt≤m∧m<D.byt+(n - D.byt)then 255 else all.getD m 0:Nat):Int)))→
   GO P0 E Q (finish (single []) cs h1 x):=by
  rintro h1 hk hp2 ⟨c2,r1,r2,r3⟩
  refine G _ _ ⟨hp2,⟨⟨c2,r1,by rw [Ju _ _ (by omega)];omega,fun m hm=>?_⟩,fun m hm=>?_⟩,hk⟩
  ·rw [Ju _ _ (by omega)]at hm
   rw [Nat.zero_add,r3 m (by omega),Wz _ _ (by omega) _ hm]
   by_cases e2:D.byt≤m
   ·rw [if_pos e2,if_pos (by omega)]
   ·rw [if_neg e2,if_neg (by omega)]
  ·rw [Ju _ _ (by omega)]at hm
   rw [Wz _ _ (by omega) _ hm]
   split
   ·omega
   ·exact hb.lt m hm
 have cell: ∀(i:Nat) (c2:List AV),i<n - D.byt→n≤c2.length→(∀m,m<n→c2[m]?=some (.int .u8 ((if D.byt≤m∧m<D.byt+i then 255 else all.getD m 0:Nat):Int)))→
   ∀m,m<n→(c2.set (D.byt+i) (.int .u8 ((255:Nat):Int)))[m]?=some (.int .u8 ((if D.byt≤m∧m<D.byt+(i+1)then 255 else all.getD m 0:Nat):Int)):=by
  intro i c2 hi r2 r3 m hm
  by_cases e:m=D.byt+i
  ·subst e
   rw [List.getElem?_set_self (by omega),if_pos (by omega)]
  ·rw [List.getElem?_set_ne (by omega),r3 m hm]
   by_cases e2:D.byt≤m∧m<D.byt+i
   ·rw [if_pos e2,if_pos (by omega)]
   ·rw [if_neg e2,if_neg (by omega)]
 have e0: ∀m,m<n→cc[m]?=some (.int .u8 ((if D.byt≤m∧m<D.byt+0 then 255 else all.getD m 0:Nat):Int)):=fun m hm=>by rw [if_neg (by omega)];simpa using q3 m (by omega)
 by_cases hc:D.byt=n
 case' pos=>
  have hlen:o+1<((c.set o (.slc ab 0 n (Aa+1))).set (o+1) (AN 3)).length:=by rw [List.length_set,List.length_set];exact ho
  refine wk ?_
 case' neg=>refine wk ?_
 all_goals
  refine Bs L (α:= Unit) (T:=fun i _=> [(26,some (AN i)),(25,some (AN (n - D.byt))),(0,some (.ptr a7 0)),(2,some (.ptr a4 0))]) (n:=n - D.byt)
   (R:=fun i _ h2=>(∃c2,Bk h2 ab c2∧n≤c2.length∧ ∀m,m<n→c2[m]?=some (.int .u8 ((if D.byt≤m∧m<D.byt+i then 255 else all.getD m 0:Nat):Int)))∧Bk h2 pn ((c.set o (.slc ab 0 n (Aa+1))).set (o+1) (AN (if D.byt=n then 2 else 3)))∧Kp (fun b=>b=pn∨b=ab) h h2) (i0:=0) () tsb
   ⟨⟨cc,lkp,by omega,e0⟩,?_,Kp.st (.inr (.inl rfl)) (by first|exact .refl _|exact Kp.st (.inr (.inl rfl)) (.refl _))⟩ (Nat.zero_le _) ?_ ?_
  ·first
    |(rw [if_pos hc];exact Ra (List.set_set _) lkp)
    |(rw [if_neg hc];exact lkp)
  ·rintro i _ h2 hi ⟨⟨c2,r1,r2,r3⟩,r4,r5⟩ ih;have hlen2:D.byt+i<c2.length:=(by omega);refine wk ?_;exact ih () _ _ ⟨⟨_,lkp,by rw [List.length_set];exact r2,cell i c2 hi r2 r3⟩,lkp,Kp.st (.inr (.inr rfl)) r5⟩ tsb
  ·rintro _ h2 ⟨r1,r4,r5⟩;refine wk ?_
   first
    |(refine Acj L X.f147.1 rfl ?_;exact key _ r5 r4 r1)
end
omit L X
def pcl (ab:Nat)(p:Pg):AV:=if p.st=4 then .nils else .slc ab 0 p.b.length (Aa+1)
theorem DevC.setPage {p:Pg}(q:DevC κ h d D fm bb cb)(hi:i<D.nb)(hr:BlR κ h D.P i (D.bl i) cb pn c)(hj:(D.bl i).nx<D.P)(hs:p.st=2∨p.st=3∨p.st=4) (hnb:D'.nb=D.nb) (hP:D'.P=D.P) (hfl:D'.flt=D.flt) (hbl:D'.bl=upd D.bl i ⟨upd (D.bl i).pg (D.bl i).nx p,(D.bl i).nx+1,(D.bl i).er⟩) (k:Kp (fun j=>j=d∨j=bb∨j=pn) h h') (dk:Bk h' d (dvC D' fm bb)) (bk:Bk h' bb (cb.set (i*3+1) (AN ((D.bl i).nx+1)))) (rk:Bk h' pn ((c.set ((D.bl i).nx*2) (pcl ab p)).set ((D.bl i).nx*2+1) (AN p.st))) (ak:BS h' ab 0 p.b) (hab:h.n≤ab): ∃κ' cb',DevC κ' h' d D' fm bb cb'∧Ch κ h κ' h':=by
 have b1:=q.dk.lt;have b2:=q.bk.lt;have b3:=q.fk.lt;have b4:=hr.row.k.lt;have l:=q.blen;have lc:=hr.row.len;have c1:=q.dcol;have c2:=q.bcol;have c3:=q.fcol;have c4:=hr.row.col;have nb:=q.nb;have hch:Ch κ h (upd κ ab 0) h':=⟨k.mono fun j hj=>by rcases hj with e|e|e <;> subst e <;> omega,fun b hb=>upd_ne _ _ (by omega)⟩;refine⟨upd κ ab 0,_,⟨dk,(upd_ne _ _ (by omega)).trans c1,by rw [hfl];exact q.fk.kp k (by intro e;rcases e with e|e|e <;> subst e <;> omega),(upd_ne _ _ (by omega)).trans c3,bk,(upd_ne _ _ (by omega)).trans c2,?_,by rw [hnb];exact q.nb,fun j hj=>?_⟩,hch⟩;·rw [List.length_set,hnb];exact l
 ·rw [hnb]at hj;by_cases e:j=i
  ·subst e;rw [hP,hbl,upd_eq];refine⟨pn,_,?_,?_,?_,rk,(upd_ne _ _ (by omega)).trans c4,by rw [List.length_set,List.length_set];exact lc,fun m hm=>?_⟩;·rw [List.getElem?_set_ne (by omega)];exact hr.c0
   ·rw [List.getElem?_set_self (by omega)]
   ·rw [List.getElem?_set_ne (by omega)];exact hr.c2
   ·by_cases em:m=(D.bl j).nx
    ·subst em;show PgR _ _ _ _ (upd (D.bl j).pg (D.bl j).nx p (D.bl j).nx);rw [upd_eq];refine⟨?_,fun h1 h2=>?_,fun h1=>⟨ab,?_,upd_eq _ _ _,ak⟩⟩;·rw [List.getElem?_set_self (by rw [List.length_set];omega)]
     ·rw [List.getElem?_set_ne (by omega),List.getElem?_set_self (by omega)];unfold pcl;rw [if_pos (by omega)]
     ·rw [List.getElem?_set_ne (by omega),List.getElem?_set_self (by omega)];unfold pcl;rw [if_neg (by omega)]
    ·show PgR _ _ _ _ (upd (D.bl j).pg (D.bl j).nx p m);rw [upd_ne _ _ em];have h5:=(hr.row.pg m hm).fw hch.fw;refine⟨?_,fun h1 h2=>?_,fun h1=>?_⟩;·rw [List.getElem?_set_ne (by omega),List.getElem?_set_ne (by omega)];exact h5.st
     ·rw [List.getElem?_set_ne (by omega),List.getElem?_set_ne (by omega)];exact h5.none h1 h2
     ·rw [List.getElem?_set_ne (by omega),List.getElem?_set_ne (by omega)];exact h5.full h1
  ·obtain⟨pm,c',hr'⟩:=q.rows j hj;have h7:=hr'.row.col;have h8:=hr'.fw hch.fw (k.old pm hr'.row.k.lt (by intro e;rcases e with e|e|e <;> subst e <;> omega));rw [hP,hbl,upd_ne _ _ e];refine⟨pm,c',?_,?_,?_,h8.row⟩;·rw [List.getElem?_set_ne (by omega)];exact h8.c0
   ·rw [List.getElem?_set_ne (by omega)];exact h8.c1
   ·rw [List.getElem?_set_ne (by omega)];exact h8.c2
theorem Dv.Ok.setPage {p:Pg}(q:D.Ok)(hi:i<D.nb)(hj:(D.bl i).nx<D.P)(hs:p.st=2∨p.st=3∨p.st=4)(hl:p.st≠4→p.b.length=D.sz+64)(hl4:p.st=4→p.b= [])(hg:D'.nb=D.nb∧D'.P=D.P∧D'.sz=D.sz∧D'.en=D.en)(hn:D'.n<100000)(hb:D'.byt=D.byt)(hc:D'.cut=D.cut) (hbl:D'.bl=upd D.bl i ⟨upd (D.bl i).pg (D.bl i).nx p,(D.bl i).nx+1,(D.bl i).er⟩):D'.Ok:=by
 obtain⟨g1,g2,g3,g4⟩:=hg;refine⟨⟨by rw [g1];exact q.g.nb,by rw [g2];exact q.g.P,by rw [g3];exact q.g.sz,by rw [g4];exact q.g.en⟩,hn,by rw [hb,g3];exact q.byt,by rw [hc];exact q.cut,fun j hj2=>?_⟩;rw [g1]at hj2;rw [hbl];by_cases e:j=i
 ·subst e;rw [upd_eq];have h1:=q.bl j hj2;refine⟨by rw [g2];exact hj,fun m hm=>?_,fun m h2 h3=>?_,fun m hm=>?_,by rw [g4];exact h1.er⟩
  ·show(upd (D.bl j).pg (D.bl j).nx p m).st≠1;by_cases em:m=(D.bl j).nx;·subst em;rw [upd_eq];omega
   ·rw [upd_ne _ _ em];exact h1.lo m (by have:m<(D.bl j).nx+1:=hm;omega)
  ·have h2':(D.bl j).nx+1≤m:=h2;show(upd (D.bl j).pg (D.bl j).nx p m).st=1;rw [upd_ne _ _ (by omega)];exact h1.hi m (by omega) (by rw [g2]at h3;exact h3)
  ·rw [g2]at hm;show(upd (D.bl j).pg (D.bl j).nx p m).Ok D'.sz;rw [g3];by_cases em:m=(D.bl j).nx;·subst em;rw [upd_eq];exact⟨fun h8=>hl (by omega),fun a b=>hl4 (by omega),by omega⟩
   ·rw [upd_ne _ _ em];exact h1.pg m hm
 ·rw [upd_ne _ _ e];have h1:=q.bl j hj2;exact Am9
include L X
def Dv.pgW (D:Dv)(all:List Nat):Pg:=if(D.n:Int)=D.cut then⟨if D.byt=all.length then 2 else 3,Po D.byt all⟩else if D.flt D.n=true then⟨4,[]⟩else⟨2,all⟩
def Dv.wr (D:Dv)(i:Nat)(all:List Nat):Dv:=
 {D with bl:=upd D.bl i ⟨upd (D.bl i).pg (D.bl i).nx (D.pgW all),(D.bl i).nx+1,(D.bl i).er⟩,n:=D.n+1,off:=D.off || decide ((D.n:Int)=D.cut)}
def Dv.prog (D:Dv)(i:Int)(all:List Nat):Dv×Nat:=
 if 0≤i∧i<D.nb∧(D.bl i.toNat).nx<D.P then
  if D.off=true then(D,50)
  else(D.wr i.toNat all,if(D.n:Int)=D.cut then 50 else if D.flt D.n=true then 54 else 0)
 else(D,2)
omit L X
theorem Dv.pgW_st (D:Dv)(all:List Nat):(D.pgW all).st=2∨(D.pgW all).st=3∨(D.pgW all).st=4:=by
 unfold Dv.pgW;split
 ·show(if D.byt=all.length then 2 else 3)=2∨(if D.byt=all.length then 2 else 3)=3∨_;split;·exact .inl rfl
  ·exact .inr (.inl rfl)
 ·split;·exact .inr (.inr rfl)
  ·exact .inl rfl
theorem Dv.pgW_len (D:Dv)(all:List Nat)(h:D.byt≤all.length)(h4:(D.pgW all).st≠4):(D.pgW all).b.length=all.length:=by
 unfold Dv.pgW at*;split;·exact Ju _ _ h
 ·rename_i h1;rw [if_neg h1]at h4;split;·rename_i h2;rw [if_pos h2]at h4;exact absurd rfl h4
  ·rfl
theorem Dv.pgW_4 (D:Dv)(all:List Nat)(h4:(D.pgW all).st=4):(D.pgW all).b= []:=by
 unfold Dv.pgW at*;split;·rename_i h1;rw [if_pos h1]at h4;have:(if D.byt=all.length then 2 else 3)=4:=h4;split at this <;> omega
 ·rename_i h1;rw [if_neg h1]at h4;split;·rfl
  ·rename_i h2;rw [if_neg h2]at h4;exact absurd h4 (by show¬2=4;omega)
include L X
theorem Y5 {all:List Nat}(q:DevC κ h d D fm bb cb)(ok:D.Ok)(hn:D.n+1<100000)(hi:i<D.nb)(hr:BlR κ h D.P i (D.bl i) cb pn c)(hj:(D.bl i).nx<D.P)(hoff:D.off=false) (hb:BS h ab 0 all) (hl:all.length=n) (hln:n=D.sz+64) (hcol:κ ab=0): Ct P0 E F K 103 [.ptr d 0,AN i,AN ((D.bl i).nx),.slc ab 0 n (Aa+1)] h fun v h'=>v= AN (if(D.n:Int)=D.cut then 50 else if D.flt D.n=true then 54 else 0)∧ Bk h' d (dvC (D.wr i all) fm bb)∧Bk h' bb (cb.set (i*3+1) (AN ((D.bl i).nx+1)))∧ Bk h' pn ((c.set ((D.bl i).nx*2) (pcl ab (D.pgW all))).set ((D.bl i).nx*2+1) (AN ((D.pgW all).st)))∧BS h' ab 0 (D.pgW all).b∧Kp (fun b=>b=d∨b=bb∨b=pn∨b=ab) h h':=by
 have b1:=q.dk.lt;have b2:=q.bk.lt;have b3:=q.fk.lt;have b4:=hr.row.k.lt;have b5:=hb.lt_n;have l:=q.blen;have lc:=hr.row.len;have c1:=q.dcol;have c2:=q.bcol;have c3:=q.fcol;have c4:=hr.row.col;have hP:=ok.g.P;have hsz:=ok.g.sz;have hby:=ok.byt;have hdk:=q.dk;have hbk:=q.bk;have hfk:=q.fk;have hpk:=hr.row.k;have hc0:=hr.c0;have hc1:=hr.c1;have hdb:d≠bb:=fun e=>by rw [e]at c1;omega
 have hdp:d≠pn:=fun e=>by rw [e]at c1;omega
 have hbp:bb≠pn:=fun e=>by rw [e]at c2;omega
 have hda:d≠ab:=fun e=>by rw [e]at c1;omega
 have hba:bb≠ab:=fun e=>by rw [e]at c2;omega
 have hpa:ab≠pn:=fun e=>by rw [e]at hcol;omega
 have hdf:fm≠d:=fun e=>by rw [e]at c3;omega
 have hbf:fm≠bb:=fun e=>by rw [e]at c3;omega
 have l1:i*3+1<cb.length:=by omega
 have l2:(D.bl i).nx*2+1<c.length:=by omega
 have hc0':(cb.set (i*3+1) (AN ((D.bl i).nx+1)))[i*3+0]?=some (.slc pn 0 D.P D.P):=by rw [List.getElem?_set_ne (by omega)];exact hc0
 refine Yw L X.f103 fun Q x cs G=>?_;refine wk ?_;by_cases hc:(D.n:Int)=D.cut
 ·refine cal ?_ (c:=O9 L X lkp (by omega) hc fun h2 k1 k2=>uf L X (h:=h2) (a7:=h.n+1) (a10:=h.n+1+1) (a4:=h.n) lkp lkp lkp k1 lkp l2 lkb hl (by omega) (by show D.byt≤n;omega) ⟨by omega,by omega,by omega,hdp,hpa,by omega,by omega,hda⟩);rintro _ h2 ⟨rfl,h1,u,r1,r2,r3,r4,r5⟩;refine ret X.f103.1 ?_;have e1:D.pgW all=⟨if D.byt=all.length then 2 else 3,Po D.byt all⟩:=if_pos hc;have e2:dvC (D.wr i all) fm bb=dvC {D with n:=D.n+1,off:=true} fm bb:=by unfold dvC Dv.wr;rw [decide_eq_true hc,Bool.or_true]
  have e3:pcl ab (D.pgW all)= .slc ab 0 n (Aa+1):=by unfold pcl;rw [e1,if_neg (by show¬(if D.byt=all.length then 2 else 3)=4;split <;> omega)];show AV.slc ab 0 (Po D.byt all).length _=_;rw [Ju _ _ (by omega),hl]
  rw [if_pos hc,e3,e1,e2,hl];exact⟨rfl,lkp,lkp,r3,r4,Kp.trS r5 (fun _ _ e=> .inr (.inr e)) (Kp.trS r2 (fun _ _ e=> .inl e) kps)⟩
 ·have e2:dvC (D.wr i all) fm bb=dvC {D with n:=D.n+1} fm bb:=by unfold dvC Dv.wr;rw [decide_eq_false hc,Bool.or_false]
  cases hq:D.flt D.n with
  |true=>refine cal ?_ (c:=Pb L X lkp (hfk.kp (S:=fun j=>j=bb) kps hbf) hdf (by omega) hc hq fun h2 k1 k2=>ue L X (h:=h2) (a10:=h.n+1+1) lkp lkp l2);rintro _ h2 ⟨rfl,h1,u,r1,r2,r3,r5⟩;refine ret X.f103.1 ?_;have e1:D.pgW all=⟨4,[]⟩:=(by unfold Dv.pgW;rw [if_neg hc,if_pos hq]);have e3:pcl ab (D.pgW all)= .nils:=(by unfold pcl;rw [e1,if_pos rfl]);obtain⟨cc,q1,q2,q3⟩:=hb.ex;rw [if_neg hc,if_pos hq,e3,e1,e2];exact⟨rfl,lkp,lkp,r3,⟨⟨cc,lkp,(by simp),fun i hi=>absurd hi (Nat.not_lt_zero i)⟩,fun i hi=>absurd hi (Nat.not_lt_zero i)⟩,Kp.trS r5 (fun _ _ e=> .inr (.inr (.inl e))) (Kp.trS r2 (fun _ _ e=> .inl e) kps)⟩
  |false=>refine cal ?_ (c:=Pa L X lkp (hfk.kp (S:=fun j=>j=bb) kps hbf) hdf (by omega) hc hq fun h2 k1 k2=>ud L X (h:=h2) (a7:=h.n+1) (a10:=h.n+1+1) lkp lkp lkp l2);rintro _ h2 ⟨rfl,h1,u,r1,r2,r3,r5⟩;refine ret X.f103.1 ?_;have e1:D.pgW all=⟨2,all⟩:=(by unfold Dv.pgW;rw [if_neg hc,if_neg (by rw [hq];simp)]);have e3:pcl ab (D.pgW all)= .slc ab 0 n (Aa+1):=(by unfold pcl;rw [e1,if_neg (by show¬2=4;omega),←hl]);rw [if_neg hc,if_neg (by rw [hq];simp),e3,e1,e2];exact⟨rfl,lkp,lkp,r3,lkb,Kp.trS r5 (fun _ _ e=> .inr (.inr (.inl e))) (Kp.trS r2 (fun _ _ e=> .inl e) kps)⟩
theorem Pc {p:Nat}{i:Int}{data extra:List Nat}(r:DevR κ h d D)(hn:D.n+1<100000)(hp1:0≤i∧i<D.nb→p=(D.bl i.toNat).nx)(k1:BS h b1 o1 data)(k2:BS h b2 o2 extra)(e1:data.length=D.sz)(e2:extra.length=64): Ct P0 E F K 41 [.ptr d 0,.int .i64 i,AN p,.slc b1 o1 D.sz c1,.slc b2 o2 64 c2] h fun v h'=>v= .int .i64 (((D.prog i (data++extra)).2:Nat):Int)∧ ∃κ',DevR κ' h' d (D.prog i (data++extra)).1∧Ch κ h κ' h':=by
 obtain⟨ok,fm,bb,cb,q⟩:=r;have hd:=q.dk;have gsz:=ok.g.sz;refine Rf L X.f41 fun Q x cs G=>?_;refine cal ?_ (c:=D4 L X hd);rintro _ rfl;refine cal ?_ (c:=Iq L X hd);rintro _ rfl;by_cases hi:(0≤i∧i<D.nb)∧0≤(p:Int)∧(p:Int)<D.P
 ·rw [decide_eq_true hi];obtain⟨hi1,hi2,hi3⟩:=hi;have hpe:=hp1 hi1;have hcond:0≤i∧i<D.nb∧(D.bl i.toNat).nx<D.P:=⟨hi1.1,hi1.2,by omega⟩
  cases hoff:D.off with
  |true=>have e0:D.prog i (data++extra)=(D,50):=(by unfold Dv.prog;rw [if_pos hcond,if_pos hoff]);unfold dvC dvL at hd;rw [hoff]at hd;refine ret X.f41.1 ?_;rw [e0];exact⟨rfl,κ,⟨ok,fm,bb,cb,q⟩,.refl _ _⟩
  |false=>
   unfold dvC dvL at hd;rw [hoff]at hd;obtain⟨j,rfl⟩: ∃j:Nat,i=j:=⟨i.toNat,by omega⟩;rw [Int.toNat_natCast]at hpe hcond;have hj:j<D.nb:=(by omega);obtain⟨pn,c,hr⟩:=q.rows j hj;have hc1:=hr.c1;have hbk:=q.bk;subst hpe;have e0:D.prog j (data++extra)=(D.wr j (data++extra),if(D.n:Int)=D.cut then 50 else if D.flt D.n=true then 54 else 0):=(by unfold Dv.prog;rw [Int.toNat_natCast,if_pos hcond,if_neg (by rw [hoff];simp)]);have l1:=k1.lt_n;have l2:=k2.lt_n;refine cal ?_ (c:=Kj L X (b1:=b1) (o1:=o1) (n1:=D.sz) (c1:=c1) (b2:=b2) (o2:=o2) (n2:=64) (c2:=c2) (bs1:=data) (bs2:=extra) lkp lkb lkb e1 e2 (by omega) (by omega));rintro _ h1 ⟨ab,rfl,w1,w2,w3⟩;simp only [Al]at w2;have n1:=w3.n;simp only [Al]at n1;have w3':K0 h h1:=Kp.tr0 w3 kps;have hch:Ch κ h (upd κ ab 0) h1:=⟨w3'.mono fun _ e=>e.elim,fun b hb=>upd_ne _ _ (by omega)⟩;have q1:DevC (upd κ ab 0) h1 d D fm bb cb:=by
    have hk:Kp (fun _=>False) h h1:=w3'
    exact⟨Ag hk q.dk,(upd_ne _ _ (by have:=q.dk.lt;omega)).trans q.dcol,q.fk.k0 hk,(upd_ne _ _ (by have:=q.fk.lt;omega)).trans q.fcol,Ag hk q.bk,(upd_ne _ _ (by have:=q.bk.lt;omega)).trans q.bcol,q.blen,q.nb,
     fun i hi=>let⟨pn,c,h1⟩:=q.rows i hi;⟨pn,c,h1.fw hch.fw (hk.old pn h1.row.k.lt fun f=>f)⟩⟩
   have hr1:BlR (upd κ ab 0) h1 D.P j (D.bl j) cb pn c:=hr.fw hch.fw (w3'.old pn hr.row.k.lt fun f=>f);refine cal ?_ (c:=Y5 L X (n:=D.sz+64) q1 ok hn hj hr1 hcond.2.2 hoff w1 (by rw [List.length_append];omega) rfl (upd_eq _ _ _));rintro _ h2 ⟨rfl,u1,u2,u3,u4,u5⟩;refine ret X.f41.1 ?_;rw [e0];refine⟨rfl,?_⟩;have hal:(data++extra).length=D.sz+64:=(by rw [List.length_append];omega);have hby:=ok.byt;have hpl:=D.pgW_len (data++extra) (by omega);obtain⟨κ',cb',z1,z2⟩:=q.setPage (D':=D.wr j (data++extra)) (p:=D.pgW (data++extra)) (ab:=ab) hj hr (by omega) (D.pgW_st _) rfl rfl rfl rfl (k:=Kp.trS u5 (fun i hi e=>by rcases e with e|e|e|e <;> first|exact .inl e|exact .inr (.inl e)|exact .inr (.inr e)|omega) (w3'.mono fun _ e=>e.elim)) u1 u2 u3 u4 (by omega);exact⟨κ',⟨ok.setPage (D':=D.wr j (data++extra)) (p:=D.pgW (data++extra)) hj (by omega) (D.pgW_st _) (fun h8=>by rw [hpl h8,hal]) (D.pgW_4 _) ⟨rfl,rfl,rfl,rfl⟩ hn rfl rfl rfl,_,_,_,z1⟩,z2⟩
 ·rw [decide_eq_false hi];have e0:D.prog i (data++extra)=(D,2):=by unfold Dv.prog;rw [if_neg];rintro⟨a1,a2,a3⟩;have:=hp1 ⟨a1,a2⟩;exact hi ⟨⟨a1,a2⟩,by omega,by omega⟩
  refine ret X.f41.1 ?_;rw [e0];exact⟨rfl,κ,⟨ok,fm,bb,cb,q⟩,.refl _ _⟩
end
theorem Aqs (h:p:=by
 by_cases s4:((D.bl i).pg j).st=4
 ·refine ret X.f108.1 ?_
  exact⟨⟨53,rfl,by omega,by omega⟩,kps⟩
 ·refine ret X.f108.1 ?_
  exact⟨⟨53,rfl,by omega,by omega⟩,kps⟩):p:=h
section
variable (L:Lg P0 E F K)(X:Fx F K)
include L X
theorem Mp {c:Nat}{bs:List Nat}(k:BS h b o bs)(e:bs.length=n)(h1:0<n∧n<1000):Ct P0 E F K 149 [.slc b o n c] h fun v h'=> ∃b',v= .slc b' 0 n (Aa+1)∧BS h' b' 0 bs∧h.n≤b'∧K0 h h':=by have a1:=k.all;refine Ao L X.f149 fun Q x cs G=>?_;refine wk ?_;have f1:BS (hp (h.n+1) h.t [(h.n,some (cl []))]) b o bs:=Afb k;(apply st1 L rfl;exact Aai (b:=h.n) (o:=0) (sl:=0) (old:= []) rfl rfl (SlR.of (c:= []) lkp (by simp) rfl) (f1.slr e) h1.1 (by decide) (by omega);rfl);refine ret X.f149.1 ?_;refine⟨h.n+1,by rw [Nat.zero_add];rfl,Hi a1,by omega,kps⟩
theorem W2 {j:Nat}(r:DevR κ h d D)(hi:i<D.nb)(hj:j<(D.bl i).nx)(hoff:D.off=false)(hs:((D.bl i).pg j).st=2∨((D.bl i).pg j).st=3): Ct P0 E F K 108 [.ptr d 0,AN i,AN j] h fun v h'=> ∃b1 b2,v= .tup [.slc b1 0 D.sz (Aa+1),.slc b2 0 64 (Aa+1),Zi]∧BS h' b1 0 (((D.bl i).pg j).b.take D.sz)∧BS h' b2 0 (((D.bl i).pg j).b.drop D.sz)∧h.n≤b1∧h.n≤b2∧K0 h h':=by
 obtain⟨ok,fm,bb,cb,q⟩:=r;have hd:=q.dk;have hbk:=q.bk;obtain⟨pn,c,hr⟩:=q.rows i hi;have hnx:=(ok.bl i hi).nx;have hpg:=(ok.bl i hi).pg j (by omega);have hP:=ok.g.P;have hsz:=ok.g.sz;have hpk:=hr.row.k;have hc0:=hr.c0;have hc0':cb[i*3+0]?=some (.slc pn 0 D.P D.P):=hc0;have hp1:=(hr.row.pg j (by omega)).st;obtain⟨ab,hp0,hcol,hab⟩:=(hr.row.pg j (by omega)).full hs;have hl:=hpg.full hs;rw [hl]at hp0;have l1:=hab.lt_n;have l2:=hd.lt;have l3:=hbk.lt;have l4:=hpk.lt;unfold dvC dvL at hd;rw [hoff]at hd;refine Bf L X.f108 fun Q x cs G=>?_;refine cal ?_ (c:=D4 L X (D:= {D with off:=false}) hd);rintro _ rfl;refine cal ?_ (c:=Iq L X (D:= {D with off:=false}) hd);rintro _ rfl;rw [decide_eq_true (show(0≤(i:Int)∧(i:Int)<D.nb)∧0≤(j:Int)∧(j:Int)<D.P by omega)];refine wk ?_;have f1:BS (hp (h.n+1) h.t [(h.n,some (cl [.slc ab 0 (D.sz+64) (Aa+1),.int .i64 ((((D.bl i).pg j).st:Nat):Int)])),(h.n,some (cl [.nils,Zi]))]) ab (0+0) ((((D.bl i).pg j).b.drop 0).take D.sz):=BS.part (k:=by exact lkb) (by omega);refine cal ?_ (c:=Mp L X f1 (by rw [List.length_take,List.length_drop];omega) (by omega));rintro _ h1 ⟨b1,rfl,w1,w2,w3⟩;simp only [Al]at w2;have n1:=w3.n;simp only [Al]at n1;refine wk ?_;have f2:BS (hp h1.n h1.t []) ab (0+D.sz) ((((D.bl i).pg j).b.drop D.sz).take 64):=BS.part (k:=by exact lkb) (by omega);refine cal ?_ (c:=Mp L X f2 (by rw [List.length_take,List.length_drop];omega) (by omega));rintro _ h2 ⟨b2,rfl,w4,w5,w6⟩;simp only [Al]at w5;refine ret X.f108.1 ?_;refine⟨b1,b2,by rw [show D.sz+64 - D.sz=64 by omega];rfl,?_,?_,by omega,by omega,Kp.tr0 w6 (Kp.tr0 w3 kps)⟩;·exact w1.k0 w6
 ·rwa [List.take_of_length_le (by rw [List.length_drop];omega)]at w4
