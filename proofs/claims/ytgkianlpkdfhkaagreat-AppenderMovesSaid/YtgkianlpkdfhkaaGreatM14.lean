/- Part of the proof. -/
import Derived.Test.YtgkianlpkdfhkaaGreatM10
import Derived.Test.YtgkianlpkdfhkaaGreatM13
import Derived.Test.YtgkianlpkdfhkaaGreatM12
import Derived.Test.YtgkianlpkdfhkaaGreatM09
set_option linter.unusedVariables false
set_option linter.unusedSectionVars false
set_option linter.unusedSimpArgs false
set_option maxRecDepth 10000
set_option maxHeartbeats 4000000
namespace Go.Ev
section
variable {P:Program}{E:Env}{F:T CFn}{K:T (List AV×AV)}{Q:Nat→AV→Prop}
variable {fn nt:Nat}{l:List (Nat×Option AV)}{k:List AItem}{ds:List ADef}{dfd:Bool}{ro:Option Nat}{cs:List AFr}
variable (L:Lg P E F K)
include L
theorem o5 {α: Type}{bd:CC}(T:α→List (Nat×Option AV))(mu:α→Nat)(R:α→H→Prop)(s0:α){h0:H}(hT:TSub (tms (T s0)) (tms l))(hR:R s0 h0)
  (body: ∀s h,R s h→(∀s' h' l',mu s'<mu s→R s' h'→TSub (tms (T s')) (tms l')→Good P E Q ⟨⟨fn,nt,tms l',.inLoop bd::k,ds,.run,dfd,ro⟩,cs,h'⟩)→Good P E Q ⟨⟨fn,nt,tms (T s),.code bd:: .inLoop bd::k,ds,.run,dfd,ro⟩,cs,hp h.n h.t []⟩):
  Good P E Q ⟨⟨fn,nt,tms l,.code (.loop bd)::k,ds,.run,dfd,ro⟩,cs,h0⟩:=by
 have main: ∀m s h,mu s≤m→R s h→Good P E Q ⟨⟨fn,nt,tms (T s),.code bd:: .inLoop bd::k,ds,.run,dfd,ro⟩,cs,hp h.n h.t []⟩:=by
  intro m
  induction m with
  |zero=>intro s h e hR;exact body s h hR fun s' h' l' hlt hR' hT'=>absurd hlt (by omega)
  |succ m ih=>intro s h e hR;exact body s h hR fun s' h' l' hlt hR' hT'=>C6 L (En L hT' (ih s' h' (by omega) hR'))
 exact A9 L (En L hT (main (mu s0) s0 h0 (Nat.le_refl _) hR))
end
theorem W2 {α: Type}{p q:α→Bool}(h: ∀x,q x=true→p x=true): ∀(M:List α) (y:α),y∈M→p y=true→q y=false→(M.filter q).length<(M.filter p).length
 | [],y,hy,_,_=>by cases hy
 |x::r,y,hy,hp,hq=>by
  have le:(r.filter q).length≤(r.filter p).length:=by
   clear hy
   induction r with
   |nil=>exact Nat.le_refl _
   |cons z r ih=>
    rw [List.filter_cons,List.filter_cons]
    by_cases e:q z=true
    ·rw [if_pos e,if_pos (h z e),List.length_cons,List.length_cons];omega
    ·rw [if_neg e]
     split
     ·rw [List.length_cons];omega
     ·exact ih
  rw [List.filter_cons,List.filter_cons]
  rcases List.mem_cons.1 hy with rfl|hy
  ·rw [if_pos hp,if_neg (by rw [hq];simp),List.length_cons];omega
  ·have:=W2 h r y hy hp hq
   by_cases e:q x=true
   ·rw [if_pos e,if_pos (h x e),List.length_cons,List.length_cons];omega
   ·rw [if_neg e]
    split
    ·rw [List.length_cons];omega
    ·exact this
section
variable {α: Type}{M Y:List (α×AV×Nat)}{ck:Nat}
def muM (M Y:List (α×AV×Nat)):Nat:=(M.filter fun x=>decide (x.2.2∉Y.map (·.2.2))).length
theorem Rn {y:α×AV×Nat}(hy:y∈M)(hn:y.2.2∉Y.map (·.2.2)):muM M (Y++ [y])<muM M Y:=by
 refine W2 (fun x hx=>?_) M y hy (decide_eq_true hn) (by simp)
 simp only [List.map_append,List.mem_append,not_or,decide_eq_true_eq]at hx ⊢
 exact hx.1
theorem Ql (q:MOk M ck)(hY: ∀y∈Y,y∈M)(nd:(Y.map (·.2.2)).Nodup)(all: ∀y∈M,y.2.2∈Y.map (·.2.2)):Y.Perm M:=by
 have inj: ∀(L:List (α×AV×Nat)),(L.map (·.2.2)).Nodup→ ∀a∈L,∀b∈L,a.2.2=b.2.2→a=b:=by
  intro L
  induction L with
  |nil=>intro _ a ha;cases ha
  |cons c L ih=>
   intro hn a ha b hb e
   rw [List.map_cons,List.nodup_cons]at hn
   rcases List.mem_cons.1 ha with ea|ha
   ·rcases List.mem_cons.1 hb with eb|hb
    ·rw [ea,eb]
    ·exact absurd (by rw [←ea,e];exact List.mem_map_of_mem hb) hn.1
   ·rcases List.mem_cons.1 hb with eb|hb
    ·exact absurd (by rw [←eb,←e];exact List.mem_map_of_mem ha) hn.1
    ·exact ih hn.2 a ha b hb e
 have ndl: ∀(L:List (α×AV×Nat)),(L.map (·.2.2)).Nodup→L.Nodup:=by
  intro L
  induction L with
  |nil=>intro _;exact List.nodup_nil
  |cons c L ih=>
   intro hn
   rw [List.map_cons,List.nodup_cons]at hn
   exact List.nodup_cons.2 ⟨fun h=>hn.1 (List.mem_map_of_mem h),ih hn.2⟩
 refine(List.perm_ext_iff_of_nodup (ndl Y nd) (ndl M q.borns)).2 fun a=>⟨hY a,fun ha=>?_⟩
 obtain⟨b,hb,e⟩:=List.mem_map.1 (all a ha)
 rw [←inj M q.borns b (hY b hb) a ha e];exact hb
theorem ic {y:α×AV×Nat}(nd:(Y.map (·.2.2)).Nodup)(hn:y.2.2∉Y.map (·.2.2)):((Y++ [y]).map (·.2.2)).Nodup:=by
 rw [List.map_append,List.nodup_append]
 refine⟨nd,by simp,fun a ha b hb e=>hn ?_⟩
 simp only [List.map_cons,List.map_nil,List.mem_singleton]at hb
 rw [←hb,←e];exact ha
end
section
variable {P0:Program}{E:Env}{F:T CFn}{K:T (List AV×AV)}(L:Lg P0 E F K)(X:Fx F K)
include L X
section
variable {h:H}
theorem ie {mb r1 lp ck:Nat}{M:List (Int×AV×Nat)}(q:MOk M ck)(I:List Int→H→Prop)
  (hI: ∀S hh,I S hh→Bk hh mb [.map r1]∧Mk hh r1 (M.map (mE AI)) ck)
  (hK: ∀S hh h',I S hh→Kp (fun j=>j=h.n) hh h'→I S h')
  (hY: ∀S k hh,I S hh→S.length<M.length→h.n<hh.n→CtA P0 E F K (.yield lp) [AI k] hh fun u h'=>u= .bool true∧I (S++ [k]) h'∧hh.n≤h'.n∧(∀x,Gk hh h.n x→Gk h' h.n x)) (h0:I [] h):
  Ct P0 E F K 199 [.fn (.yield lp) [] [],.ptr mb 0] h fun v h'=> ∃S,List.Perm S (M.map (·.1))∧I S h':=by
 obtain⟨k1,k2⟩:=hI _ _ h0
 have l1:=k1.lt
 have l2:=k2.lt
 refine Ae L X.f199 X.k199 rfl rfl fun Q x cs G=>?_
 refine wk ?_
 (apply st1 L rfl;exact Ws rfl lkq;rfl)
 refine wk ?_
 refine o5 L (α:= List (Int×AV×Nat)) (T:=fun Y=> [(5,some (.ptr h.n 0)),(0,some (.fn (.yield lp) [] []))]) (mu:=muM M) (R:=fun Y hh=>I (Y.map (·.1)) hh∧Gk hh h.n (.miter (some r1) ck (Y.map (·.2.2)) ck)∧(∀y∈Y,y∈M)∧(Y.map (·.2.2)).Nodup∧h.n<hh.n∧Y.length+muM M Y≤M.length) [] tsb ⟨hK _ _ _ h0 kps,lkg,(fun y hy=>by cases hy),List.nodup_nil,Nat.lt_succ_self _,by rw [List.length_nil,Nat.zero_add];exact List.length_filter_le _ _⟩ ?_
 rintro Y hh ⟨i1,i2,i3,i4,i5,i6⟩ ih
 obtain⟨k3,k4⟩:=hI _ _ i1
 refine wk ?_
 refine Wu L rfl rfl (M:=M) (enc:=AI) (ck:=ck) (it:=h.n) (m:=r1) (seen:=Y.map (·.2.2)) lkg lkq q.lt ?_ ?_
 ·intro hall
  refine wk ?_
  refine ret X.f199 ?_
  exact⟨_,(Ql q i3 i4 hall).map _,hK _ _ _ i1 kps⟩
 ·intro y hy hn
  have hmu:=Rn hy hn
  refine wk ?_
  (apply st1 L rfl;exact Wv q rfl lkg lkq hy;rfl)
  refine wk ?_
  refine Sx L rfl rfl rfl rfl rfl (hY _ y.1 _ (hK _ _ _ i1 (by exact kps)) (by rw [List.length_map];omega) (by simp only [Al];omega)) ?_
  rintro _ h3 ⟨rfl,w1,w2,w3⟩
  simp only [Al]at w2
  refine wk ?_
  refine ih (Y++ [y]) _ _ (Rn hy hn) ⟨?_,?_,?_,ic i4 hn,by simp only [Al];omega,by rw [List.length_append,List.length_singleton];omega⟩ tsb
  ·rw [List.map_append];exact hK _ _ _ w1 kps
  ·rw [List.map_append];exact w3 _ (by exact lkg)
  ·intro z hz
   rcases List.mem_append.1 hz with hz|hz
   ·exact i3 z hz
   ·rw [List.mem_singleton.1 hz];exact hy
end
end
section
variable {P0:Program}{E:Env}{F:T CFn}{K:T (List AV×AV)}(L:Lg P0 E F K)(X:Fx F K)
include L X
section
variable {h:H}
noncomputable def lpA (hn mb:Nat)(st:LS):Blk:= .loop ⟨st,none,191,cf191.ntmps,tms [(6,some (.fn (.func 199) [] [.ptr mb 0])),(4,some .nils),(2,some (.ptr hn 0)),(1,some (.fn (.func 199) [] [.ptr mb 0])),(0,some .nils)],[7],c191_2,c191_4,hn+1⟩
omit L X in
structure RA (h hh:H)(mb:Nat)(S:List Int):Prop where
 k:K0 h hh
 dk:Gk hh (h.n+1) (.dfr (some []))
 lp:Gk hh (h.n+2) (lpA h.n mb .ready)
 ex: ∃v,Bk hh h.n [v]∧((S= []∧v= .nils)∨(0<S.length∧ ∃b,v= .slc b 0 S.length (Aa+1)∧Bk hh b (S.map AI)∧h.n+4≤b))
theorem Yt {mb r1 ck:Nat}{M:List (Int×AV×Nat)}(q:MOk M ck)(k1:Bk h mb [.map r1])(k2:Mk h r1 (M.map (mE AI)) ck)(hlen:M.length<2000):
  Ct P0 E F K 191 [.nils,.fn (.func 199) [] [.ptr mb 0]] h fun v h'=> ∃S,List.Perm S (M.map (·.1))∧K0 h h'∧((S= []∧v= .nils)∨(0<S.length∧ ∃b,v= .slc b 0 S.length (Aa+1)∧Bk h' b (S.map AI)∧h.n≤b)):=by
 have l1:=k1.lt
 have l2:=k2.lt
 refine Ae L X.f191 X.k191 rfl rfl fun Q x cs G=>?_
 refine wk ?_
 refine Hd L (post:=fun _ h'=> ∃S,List.Perm S (M.map (·.1))∧RA h h' mb S) rfl rfl rfl ?_ ?_
 ·refine Ct.A ((ie L X q (fun S hh=>RA h hh mb S) (fun S hh r=>⟨Ah r.k k1,Oj r.k k2⟩) (fun S hh h' r k=>?_) (fun S z hh r hSl hlt=>?_) ⟨kps,lkg,lkg,.nils,lkp,.inl ⟨rfl,rfl⟩⟩).mono fun v h' p=>p)
  ·obtain⟨r1,r2,r3,v,r4,r5⟩:=r
   simp only [Al]at k
   have l3:=r4.lt
   refine⟨Kp.trS k (fun i hi e=>by omega) r1,H7 k (by omega) r2,H7 k (by omega) r3,v,As k (by omega) r4,?_⟩
   rcases r5 with r5|⟨r5,b,r6,r7,r8⟩
   ·exact .inl r5
   ·exact .inr ⟨r5,b,r6,As k (by omega) r7,r8⟩
  ·obtain⟨r1,r2,r3,v,r4,r5⟩:=r
   simp only [Al]at hlt
   have l3:=r4.lt
   have l4:=r3.lt
   have hle:=r3.e
   unfold lpA at hle
   refine Fl L (l1:= [(7,some (AI z)),(6,some (.fn (.func 199) [] [.ptr mb 0])),(4,some .nils),(2,some (.ptr h.n 0)),(1,some (.fn (.func 199) [] [.ptr mb 0])),(0,some .nils)]) hle rfl ?_
   intro Q z2 cs G
   refine wk ?_
   refine Ej L (Gk.e lkg) ?_
   rcases r5 with⟨rfl,rfl⟩|⟨r5,b,rfl,r7,r8⟩
   ·refine wk ?_
    (apply st1 L rfl;exact Ft (new:= [AI z]) rfl rfl (SlR.of (c:= [AI z]) lkp (Nat.le_refl _) rfl) (by omega) (by omega);rfl)
    refine wk ?_
    refine C8 L (Gk.e lkg) G ⟨rfl,?_,by simp only [Al];omega,fun x hx=>(fun hx2:Gk hh (h.n+3) x=>(show Gk _ (h.n+3) x from by exact lkg)) hx⟩
    exact⟨kps,lkg,(by unfold lpA;exact Dw (by omega)),_,lkp,.inr ⟨by simp,hh.n+1,rfl,by exact lkp,by omega⟩⟩
   ·have l6:=r7.lt
    refine wk ?_
    (apply st1 L rfl;exact Fi (old:=S.map AI) (new:= [AI z]) rfl rfl (SlR.of (c:=S.map AI) lkp (by simp) (by rw [List.drop_zero,List.take_of_length_le (by simp)])) (SlR.of (c:= [AI z]) lkp (Nat.le_refl _) rfl) (by omega) (by omega) rfl;rfl)
    refine wk ?_
    refine C8 L (Gk.e lkg) G ⟨rfl,?_,by simp only [Al];omega,fun x hx=>(fun hx2:Gk hh (h.n+3) x=>(show Gk _ (h.n+3) x from by exact lkg)) hx⟩
    exact⟨kps,lkg,(by unfold lpA;exact Dw (by omega)),_,lkp,.inr ⟨by simp,hh.n+1,by simp,(by rw [List.map_append];exact lkp),by omega⟩⟩
 ·rintro v h3 ⟨S,p,r1,r2,r3,v2,r4,r5⟩
  have hle:=r3.e
  unfold lpA at hle
  have l4:=r4.lt
  have l5:=r2.lt
  refine F3 L (n:=h3.n) (t:=h3.t) (lh:= []) hle (by intro q;cases q) ?_
  refine wk ?_
  refine Fj L (todo:= []) ?_
  refine Fm L (by intro q;cases q) (Gk.e lkg) ?_
  refine Fk L X.f191 (Dd rfl) G ⟨S,p,kps,?_⟩
  rcases r5 with r5|⟨r5,b,r6,r7,r8⟩
  ·exact .inl r5
  ·exact .inr ⟨r5,b,r6,by exact lkp,by omega⟩
end
end
section
variable {P0:Program}{E:Env}{F:T CFn}{K:T (List AV×AV)}(L:Lg P0 E F K)(X:Fx F K)
include L X
section
variable {h:H}
omit L X in
structure RowN (h:H)(lo:Nat)(v:AV)(S:List Int):Prop where
 ex:(S= []∧v= .nils)∨(0<S.length∧ ∃b,v= .slc b 0 S.length (Aa+1)∧Bk h b (S.map AI)∧lo≤b)
omit L X in
theorem RowN.k0 {h h':H}{lo:Nat}{v:AV}{S:List Int}(q:RowN h lo v S)(k:K0 h h'):RowN h' lo v S:=by
 rcases q.ex with h1|⟨h2,b,h3,h4,h5⟩
 ·exact⟨.inl h1⟩
 ·exact⟨.inr ⟨h2,b,h3,Ah k h4,h5⟩⟩
theorem Va {mb r1 ck:Nat}{M:List (Int×AV×Nat)}(q:MOk M ck)(k1:Bk h mb [.map r1])(k2:Mk h r1 (M.map (mE AI)) ck)(hlen:M.length<2000):
  Ct P0 E F K 166 [.fn (.func 199) [] [.ptr mb 0]] h fun v h'=> ∃S,List.Perm S (M.map (·.1))∧K0 h h'∧RowN h' h.n v S:=by
 refine Am L X.f166 X.k166 rfl rfl fun Q x cs G=>?_
 refine wk ?_
 refine cal (c:=Yt L X q k1 k2 hlen) (g:=?_)
 rintro _ h2 ⟨S,p,w1,w2⟩
 rcases w2 with⟨rfl,rfl⟩|⟨w2,b,rfl,w3,w4⟩
 ·refine wk ?_
  refine ret X.f166 ?_
  exact⟨_,p,kps,⟨.inl ⟨by first|rfl|exact List.mergeSort_nil,rfl⟩⟩⟩
 ·refine wk ?_
  refine ret X.f166 ?_
  exact⟨_,p,kps,⟨.inr ⟨w2,b,rfl,by exact lkp,w4⟩⟩⟩
theorem Yu {mb r1 ck:Nat}{M:List (Int×AV×Nat)}(U:SortOk P0 E F 129)(q:MOk M ck)(k1:Bk h mb [.map r1])(k2:Mk h r1 (M.map (mE AI)) ck)(hlen:M.length<2000):
  Ct P0 E F K 136 [.fn (.func 199) [] [.ptr mb 0]] h fun v h'=> ∃S,List.Perm S (M.map (·.1))∧K0 h h'∧RowN h' h.n v (E2 S):=by
 obtain⟨g0,hg0⟩:=U.g
 refine Am L X.f136 X.k136 rfl rfl fun Q x cs G=>?_
 refine wk ?_
 refine cal (c:=Va L X q k1 k2 hlen) (g:=?_)
 rintro _ h2 ⟨S,p,w1,w2⟩
 have pl:=p.length_eq
 rw [List.length_map]at pl
 rcases w2.ex with⟨rfl,rfl⟩|⟨w3,b,rfl,w4,w5⟩
 ·refine wk ?_
  refine Wp L rfl rfl rfl rfl hg0 (U.x0 _) ?_
  rintro _ _ ⟨rfl,rfl⟩
  refine wk ?_
  refine ret X.f136 ?_
  exact⟨_,p,kps,⟨.inl ⟨by first|rfl|exact List.mergeSort_nil,rfl⟩⟩⟩
 ·refine wk ?_
  refine Wp L rfl rfl rfl rfl hg0 (U.x _ _ S (by exact lkp) w3 (by omega)) ?_
  rintro _ h3 ⟨rfl,w6,w7⟩
  refine wk ?_
  refine ret X.f136 ?_
  exact⟨_,p,kps,⟨.inr ⟨by rw [Ek];exact w3,b,by rw [Ek];rfl,by exact lkp,w5⟩⟩⟩
theorem Vb {r1 ck:Nat}{M:List (Int×AV×Nat)}(U:SortOk P0 E F 129)(q:MOk M ck)(k2:Mk h r1 (M.map (mE AI)) ck)(hlen:M.length<2000):
  Ct P0 E F K 151 [.map r1] h fun v h'=> ∃S,List.Perm S (M.map (·.1))∧K0 h h'∧RowN h' h.n v (E2 S):=by
 have l2:=k2.lt
 have hkeys:Ct P0 E F K 178 [.map r1] h fun v h'=>v= .fn (.func 199) [] [.ptr h.n 0]∧Bk h' h.n [.map r1]∧K0 h h'∧h'.n=h.n+1:=by
  refine Am L X.f178 X.k178 rfl rfl fun Q x cs G=>?_
  refine wk ?_
  refine ret X.f178 ?_
  exact⟨rfl,lkp,kps,rfl⟩
 refine Am L X.f151 X.k151 rfl rfl fun Q x cs G=>?_
 refine wk ?_
 refine cal (c:=hkeys) (g:=?_)
 rintro _ h2 ⟨rfl,w1,w2,w3⟩
 refine wk ?_
 refine cal (c:=Yu L X U q w1 (Oj w2 k2) hlen) (g:=?_)
 rintro _ h3 ⟨S,p,w4,w5⟩
 have w6:=w5
 rcases w5.ex with⟨e0,rfl⟩|⟨w7,b,rfl,w8,w9⟩
 ·refine wk ?_
  refine ret X.f151 ?_
  exact⟨_,p,kps,⟨.inl ⟨e0,rfl⟩⟩⟩
 ·refine wk ?_
  refine ret X.f151 ?_
  exact⟨_,p,kps,⟨.inr ⟨w7,b,rfl,by exact lkp,by omega⟩⟩⟩
end
end
theorem Fp: ∀(n:Nat) (l:List Int),l.Nodup→(∀x∈l,0≤x∧x<(n:Int))→l.length≤n
 |0,l,_,h=>by
  cases l with
  |nil=>exact Nat.le_refl _
  |cons x r=>have:=h x (List.mem_cons_self ..);omega
 |n+1,l,hn,h=>by
  have h1:=Fp n (l.erase (n:Int)) (hn.erase _) fun x hx=>by
   have h2:=hn.mem_erase_iff.1 hx
   have h3:=h x h2.2
   have:x≠(n:Int):=h2.1
   omega
  have h4:=List.length_erase (a:=(n:Int)) (l:=l)
  split at h4 <;> omega
theorem Iy (S:List Int):(E2 S).Perm S:=List.mergeSort_perm S _
theorem o6 (S:List Int):(E2 S).Pairwise (· ≤ ·):=by
 have:=List.pairwise_mergeSort (le:=fun x y:Int=>decide (x≤y)) (by intro a b c;simp only [decide_eq_true_eq];omega) (by intro a b;simp only [Bool.or_eq_true,decide_eq_true_eq];omega) S
 exact this.imp fun h=>by simpa using h
theorem W3 {S:List Int}(h:S.Nodup):(E2 S).Pairwise (· < ·):=by
 have h1:(E2 S).Nodup:=(Iy S).nodup_iff.2 h
 refine((o6 S).and h1).imp fun {a b} q=>?_
 have:=q.1
 have:a≠b:=q.2
 omega
structure DomA (A:Int→Option Int)(S:List Int):Prop where
 lt:S.Pairwise (· < ·)
 mem: ∀s,s∈S↔(A s).isSome=true
theorem MQ.dom {M1 M2:List (Int×AV×Nat)}{A:Int→Option Int}{ck:Nat}(q:MQ M1 M2 A)(o:MOk M1 ck){S:List Int}(p:S.Perm (M1.map (·.1))):DomA A (E2 S):=by
 refine⟨W3 (p.nodup_iff.2 o.keys),fun s=>?_⟩
 rw [(Iy S).mem_iff,p.mem_iff,←mHas_mem,Cy]
 have h1:=q.a1 s
 unfold Bo at h1
 cases hA:A s with
 |none=>rw [hA]at h1;simp only [Option.map_none,Option.map_eq_none_iff]at h1;rw [h1];simp
 |some v=>
  rw [hA]at h1
  cases hf:M1.find? fun x=>decide (s=x.1)with
  |none=>rw [hf]at h1;cases h1
  |some x=>simp
theorem MpR.keys {S nb P:Nat}{h:H}{m r1 r2 vb:Nat}{A:Int→Option Int}{M1 M2:List (Int×AV×Nat)}{c1 c2:Nat}{cv:List AV}(q:MpR S nb P h m r1 r2 vb A)(o:MpC S nb P h m r1 r2 vb A M1 M2 c1 c2 cv):M1.length≤1000:=by
 have h1:=Fp S (M1.map (·.1)) o.o1.keys fun x hx=>by
  have h2:=mHas_mem.2 hx
  have h3:=o.mr.a1 x
  cases hA:A x with
  |none=>rw [hA]at h3;have:=mGet_none.1 h3;rw [this]at h2;cases h2
  |some p=>have:=q.rg x p hA;omega
 rw [List.length_map]at h1
 have:=q.nz
 omega
section
variable {P0:Program}{E:Env}{F:T CFn}{K:T (List AV×AV)}(L:Lg P0 E F K)(X:Fx F K)
include L X
section
variable {h:H}
omit L X in
def atA (A:Int→Option Int)(s:Int):Int:=(A s).getD 0
omit L X in
theorem o7 {M1 M2:List (Int×AV×Nat)}{A:Int→Option Int}(q:MQ M1 M2 A)(s:Int):(Bo M1 s).getD (AI ((0:Nat):Int))=AI (atA A s):=by
 rw [q.a1];unfold atA;cases A s <;> rfl
theorem o8 {S nb P m r1 r2 vb:Nat}{A:Int→Option Int}(U:SortOk P0 E F 129)(q:MpR S nb P h m r1 r2 vb A):
  Ct P0 E F K 109 [.ptr m 0] h fun v h'=> ∃D a b va vb',DomA A D∧D.length≤1000∧v= .fn (.func 144) [] [.ptr a 0,.ptr b 0]∧Bk h' a [va]∧Bk h' b [vb']∧RowN h' h.n va D∧RowN h' h.n vb' (D.map (atA A))∧K0 h h'∧h.n≤a∧h.n≤b:=by
 have q0:=q
 obtain⟨km,⟨n1,n2,n3,n4,n5,n6⟩,rg,nz,M1,M2,c1,c2,cv,oo⟩:=q
 have hk:=MpR.keys q0 oo
 obtain⟨k1,o1,k2,o2,kv,vl,vv,mr⟩:=oo
 have l1:=km.lt
 have l2:=k1.lt
 have hpairs0: ∀(h2:H),Ct P0 E F K 103 [.nils,.nils] h2 fun v h'=>v= .fn (.func 144) [] [.ptr h2.n 0,.ptr (h2.n+1) 0]∧Bk h' h2.n [.nils]∧Bk h' (h2.n+1) [.nils]∧K0 h2 h':=by
  intro h2
  refine Ae L X.f103 X.k103 rfl rfl fun Q x cs G=>?_
  refine wk ?_
  refine ret X.f103 ?_
  exact⟨rfl,lkp,lkp,kps⟩
 have hpairs1: ∀(h2:H) (a0 b0 k0 l0:Nat),Ct P0 E F K 103 [.slc a0 0 k0 (Aa+1),.slc b0 0 l0 (Aa+1)] h2 fun v h'=>v= .fn (.func 144) [] [.ptr h2.n 0,.ptr (h2.n+1) 0]∧Bk h' h2.n [.slc a0 0 k0 (Aa+1)]∧Bk h' (h2.n+1) [.slc b0 0 l0 (Aa+1)]∧K0 h2 h':=by
  intro h2 a0 b0 k0 l0
  refine Ae L X.f103 X.k103 rfl rfl fun Q x cs G=>?_
  refine wk ?_
  refine ret X.f103 ?_
  exact⟨rfl,lkp,lkp,kps⟩
 refine Am L X.f109 X.k109 rfl rfl fun Q x cs G=>?_
 refine wk ?_
 refine cal (c:=Ow L X (c0:=AI ((S:Nat):Int)) (c1:=AI ((nb:Nat):Int)) (c2:=AI ((P:Nat):Int)) (r1:=r1) (rest:= [.map r2,.slc vb 0 nb nb]) lkp) (g:=?_)
 rintro _ rfl
 refine wk ?_
 refine cal (c:=Vb L X U o1 k1 (by omega)) (g:=?_)
 rintro _ h2 ⟨S0,p,w1,w2⟩
 have hD:=mr.dom o1 p
 have hDl:(E2 S0).length≤1000:=by rw [Ek,p.length_eq,List.length_map];exact hk
 generalize E2 S0=D at*
 have n2:=w1.n
 rcases w2.ex with⟨rfl,rfl⟩|⟨w3,db,rfl,w4,w5⟩
 ·refine wk ?_
  refine A9 L ?_
  refine wk ?_
  refine cal (c:=hpairs0 _) (g:=?_)
  rintro _ h3 ⟨rfl,u1,u2,u3⟩
  refine wk ?_
  refine ret X.f109 ?_
  exact⟨[],_,_,.nils,.nils,hD,hDl,rfl,by exact lkp,by exact lkp,⟨.inl ⟨rfl,rfl⟩⟩,⟨.inl ⟨rfl,rfl⟩⟩,kps,by first|omega|(simp only [Al]at *;omega),by first|omega|(simp only [Al]at *;omega)⟩
 have ld:=w4.lt
 refine wk ?_
 refine Co L (α:= AV) (T:=fun i v=> [(17,some (AI ((i:Nat):Int))),(16,some (AI ((D.length:Nat):Int))),(15,some (.slc db 0 D.length (Aa+1))),(4,some v),(3,some (.slc db 0 D.length (Aa+1))),(0,some (.ptr m 0))]) (n:=D.length)
  (R:=fun i v h3=>RowN h3 h2.n v ((D.take i).map (atA A))∧K0 h h3∧K0 h2 h3) (i0:=0) .nils tsb ⟨⟨.inl ⟨rfl,rfl⟩⟩,kps,kps⟩ (Nat.zero_le _) ?_ ?_
 ·rintro i v h3 hi ⟨u1,u2,u3⟩ ih
  have hx:D[i]?=some D[i]:=List.getElem?_eq_getElem hi
  have hxm:(D.map AI)[i]?=some (AI D[i]):=by rw [List.getElem?_map,hx];rfl
  have e1:((D.take (i+1)).map (atA A))=(D.take i).map (atA A)++ [atA A D[i]]:=by rw [List.take_add_one,hx,List.map_append];rfl
  have e2:((D.take i).map (atA A)).length=i:=by rw [List.length_map,List.length_take];omega
  rw [e1]at ih
  generalize D[i]=s at*
  have hg:=o7 mr s
  have n3:=u3.n
  refine wk ?_
  (apply st1 L rfl;exact Dy (KE.int .i64) rfl rfl lkq;rfl)
  rw [hg]
  rcases u1.ex with⟨e0,rfl⟩|⟨gn,lb,rfl,g5,g6⟩
  ·refine wk ?_
   (apply st1 L rfl;exact Ft (new:= [AI (atA A s)]) rfl rfl (SlR.of (c:= [AI (atA A s)]) lkp (Nat.le_refl _) rfl) (by omega) (by omega);rfl)
   refine wk ?_
   refine ih _ _ _ ⟨?_,kps,kps⟩ tsb
   rw [e0,List.nil_append]
   exact⟨.inr ⟨by simp,_,rfl,by exact lkp,by omega⟩⟩
  ·have g8:=g5.lt
   rw [e2]
   refine wk ?_
   (apply st1 L rfl;exact Fi (old:=((D.take i).map (atA A)).map AI) (new:= [AI (atA A s)]) rfl rfl (SlR.of (c:=((D.take i).map (atA A)).map AI) lkp (by rw [List.length_map,e2];omega) (by rw [List.drop_zero,List.take_of_length_le (by rw [List.length_map,e2];omega)])) (SlR.of (c:= [AI (atA A s)]) lkp (Nat.le_refl _) rfl) (by omega) (by omega) rfl;rfl)
   refine wk ?_
   refine ih _ _ _ ⟨?_,kps,kps⟩ tsb
   refine⟨.inr ⟨by simp,h3.n+1,(by rw [List.length_append,e2];rfl),(by rw [List.map_append];exact lkp),by omega⟩⟩
 ·rintro v h3 ⟨u1,u2,u3⟩
  rw [List.take_length]at u1
  rcases u1.ex with⟨e0,rfl⟩|⟨gn,lb,rfl,g5,g6⟩
  ·rw [List.map_eq_nil_iff]at e0;rw [e0]at w3;exact absurd w3 (Nat.lt_irrefl 0)
  have g8:=g5.lt
  have hn:=u3.n
  refine wk ?_
  refine cal (c:=hpairs1 _ db lb _ _) (g:=?_)
  rintro _ h4 ⟨rfl,x1,x2,x3⟩
  refine wk ?_
  refine ret X.f109 ?_
  exact⟨D,_,_,_,_,hD,hDl,rfl,by exact lkp,by exact lkp,⟨.inr ⟨w3,db,rfl,by exact lkp,by omega⟩⟩,⟨.inr ⟨gn,lb,rfl,by exact lkp,by omega⟩⟩,kps,by first|omega|(simp only [Al]at *;omega),by first|omega|(simp only [Al]at *;omega)⟩
end
end
section
variable {P0:Program}{E:Env}{F:T CFn}{K:T (List AV×AV)}(L:Lg P0 E F K)(X:Fx F K)
include L X
section
variable {h:H}
theorem Yv {lp a b lo:Nat}{va vb':AV}{D:List Int}{g:Int→Int}(hlen:D.length≤1000)(I:Nat→H→Prop)
  (hI: ∀i hh,I i hh→Bk hh a [va]∧Bk hh b [vb']∧RowN hh lo va D∧RowN hh lo vb' (D.map g)) (hK: ∀i hh h',I i hh→K0 hh h'→I i h')
  (hY: ∀i s hh,D[i]?=some s→I i hh→CtA P0 E F K (.yield lp) [AI s,AI (g s)] hh fun u h'=>u= .bool true∧I (i+1) h') (h0:I 0 h):
  Ct P0 E F K 144 [.fn (.yield lp) [] [],.ptr a 0,.ptr b 0] h fun v h'=>I D.length h':=by
 obtain⟨k1,k2,k3,k4⟩:=hI _ _ h0
 rcases k3.ex with⟨rfl,rfl⟩|⟨hp1,da,rfl,k5,k6⟩
 ·refine B3 L X.f144 X.k144 rfl rfl fun Q x cs G=>?_
  refine wk ?_
  refine A9 L ?_
  refine wk ?_
  refine ret X.f144 ?_
  exact hK _ _ _ h0 kps
 rcases k4.ex with⟨e0,rfl⟩|⟨hp2,db,rfl,k7,k8⟩
 ·rw [List.map_eq_nil_iff]at e0;rw [e0]at hp1;exact absurd hp1 (Nat.lt_irrefl 0)
 refine B3 L X.f144 X.k144 rfl rfl fun Q x cs G=>?_
 refine wk ?_
 refine Co L (α:= Unit) (T:=fun i _=> [(8,some (AI ((i:Nat):Int))),(7,some (AI ((D.length:Nat):Int))),(6,some (.slc da 0 D.length (Aa+1))),(2,some (.ptr b 0)),(0,some (.fn (.yield lp) [] []))]) (n:=D.length)
  (R:=fun i _ hh=>I i hh) (i0:=0) () tsb (hK _ _ _ h0 kps) (Nat.zero_le _) ?_ ?_
 ·rintro i _ h2 hi w ih
  have hx:D[i]?=some D[i]:=List.getElem?_eq_getElem hi
  have hxa:(D.map AI)[i]?=some (AI D[i]):=by rw [List.getElem?_map,hx];rfl
  have hxb:((D.map g).map AI)[i]?=some (AI (g D[i])):=by rw [List.getElem?_map,List.getElem?_map,hx];rfl
  have hl2:i<(D.map g).length:=by rw [List.length_map];exact hi
  obtain⟨j1,j2,j3,j4⟩:=hI _ _ w
  have j5:Bk h2 da (D.map AI):=by
   rcases j3.ex with⟨_,e⟩|⟨_,b',e,e2,_⟩
   ·cases e
   ·cases e;exact e2
  have j6:Bk h2 db ((D.map g).map AI):=by
   rcases j4.ex with⟨_,e⟩|⟨_,b',e,e2,_⟩
   ·cases e
   ·cases e;exact e2
  generalize D[i]=s at*
  refine wk ?_
  refine Sx L rfl rfl rfl rfl rfl (hY i _ _ hx (hK i _ _ w (by exact kps))) ?_
  rintro _ h3 ⟨rfl,w3⟩
  refine wk ?_
  refine ih () _ _ w3 ?_;exact tsb
 ·rintro _ h2 w
  refine wk ?_
  refine ret X.f144 ?_
  exact w
end
end
section
variable {P0:Program}{E:Env}{F:T CFn}{K:T (List AV×AV)}(L:Lg P0 E F K)(X:Fx F K)
include L X
section
variable {h:H}
noncomputable def lpM (m hn a b mk:Nat)(st:LS):Blk:= .loop ⟨st,none,56,cf56.ntmps,tms [(6,some (.fn (.func 144) [] [.ptr a 0,.ptr b 0])),(5,some (.ptr m 0)),(2,some (.ptr hn 0)),(0,some (.ptr m 0))],[7,8],c56_4,c56_6,mk⟩
omit L X in
def B4 (A:Int→Option Int)(D:List Int):List Ent:=D.map fun s=>(s,atA A s)
omit L X in
theorem RowN.kS {h h':H}{S:Nat→Prop}{lo hi:Nat}{v:AV}{D:List Int}(q:RowN h lo v D)(hb: ∀b n c,v= .slc b 0 n c→b<hi)(k:Kp S h h')(hs: ∀j,lo≤j→j<hi→ ¬S j):RowN h' lo v D:=by
 rcases q.ex with h1|⟨h2,b,h3,h4,h5⟩
 ·exact⟨.inl h1⟩
 ·exact⟨.inr ⟨h2,b,h3,As k (hs b h5 (hb _ _ _ h3)) h4,h5⟩⟩
omit L X in
theorem RowN.bd {h:H}{lo:Nat}{v:AV}{D:List Int}(q:RowN h lo v D): ∀b n c,v= .slc b 0 n c→b<h.n:=by
 intro b n c e
 rcases q.ex with⟨_,h1⟩|⟨_,b',h3,h4,_⟩
 ·rw [h1]at e;cases e
 ·rw [h3]at e;cases e;exact h4.lt
omit L X in
structure RE (h hh:H)(m a b mk:Nat)(va vb':AV)(A:Int→Option Int)(D:List Int)(i:Nat):Prop where
 k:K0 h hh
 dk:Gk hh mk (.dfr (some []))
 lp:Gk hh (mk+1) (lpM m h.n a b mk .ready)
 ka:Bk hh a [va]
 kb:Bk hh b [vb']
 ra:RowN hh (h.n+1) va D
 rb:RowN hh (h.n+1) vb' (D.map (atA A))
 ex: ∃v,Bk hh h.n [v]∧EL hh (mk+2) v (B4 A (D.take i))
theorem If {S nb P m r1 r2 vb:Nat}{A:Int→Option Int}(U:SortOk P0 E F 129)(q:MpR S nb P h m r1 r2 vb A):
  Ct P0 E F K 56 [.ptr m 0] h fun v h'=> ∃D,DomA A D∧D.length≤1000∧EL h' h.n v (B4 A D)∧K0 h h':=by
 refine Am L X.f56 X.k56 rfl rfl fun Q x cs G=>?_
 refine wk ?_
 refine cal (c:=o8 L X U (q.k0 kps)) (g:=?_)
 rintro _ h2 ⟨D,a,b,va,vb',hD,hDl,rfl,w1,w2,w3,w4,w5,w6,w7⟩
 have n5:=w5.n
 simp only [Al]at n5 w6 w7
 have la:=w1.lt
 have lb:=w2.lt
 refine wk ?_
 refine Hd L (post:=fun _ h'=>RE h h' m a b h2.n va vb' A D D.length) rfl rfl rfl ?_ ?_
 ·refine Ct.A ((Yv L X (g:=atA A) (lo:=h.n+1) hDl (fun i hh=>RE h hh m a b h2.n va vb' A D i) (fun i hh r=>⟨r.ka,r.kb,r.ra,r.rb⟩) (fun i hh h' r k=>?_) (fun i s hh hx r=>?_) ⟨kps,lkg,lkg,by exact lkp,by exact lkp,?_,?_,.nils,by exact lkp,EL.nil _ _⟩).mono fun v h' p=>p)
  ·exact⟨Kp.tr0 k r.k,Es k r.dk,Es k r.lp,Ah k r.ka,Ah k r.kb,r.ra.k0 k,r.rb.k0 k,let⟨v,e1,e2⟩:=r.ex;⟨v,Ah k e1,e2.k0 k⟩⟩
  ·obtain⟨r1,r2,r3,r4,r5,r6,r7,v,r8,r9⟩:=r
   have hle:=r3.e
   unfold lpM at hle
   have g1:=r2.lt
   have g2:=r3.lt
   have g3:=r4.lt
   have g4:=r5.lt
   have g5:=r8.lt
   have hi:=(List.getElem?_eq_some_iff.1 hx).1
   have e1:B4 A (D.take (i+1))=B4 A (D.take i)++ [(s,atA A s)]:=by unfold B4;rw [List.take_add_one,hx,List.map_append];rfl
   have e2:(B4 A (D.take i)).length=i:=by unfold B4;rw [List.length_map,List.length_take];omega
   refine Fl L (l1:= [(8,some (AI (atA A s))),(7,some (AI s)),(6,some (.fn (.func 144) [] [.ptr a 0,.ptr b 0])),(5,some (.ptr m 0)),(2,some (.ptr h.n 0)),(0,some (.ptr m 0))]) hle rfl ?_
   intro Q z2 cs G
   refine wk ?_
   refine Ej L (Gk.e lkg) ?_
   rcases r9.len with⟨e0,rfl⟩|⟨gn,lb2,rfl,g6,g7⟩
   ·refine wk ?_
    (apply st1 L rfl;exact Ft (new:=Ay (s,atA A s)) rfl rfl (SlR.of (c:=Ay (s,atA A s)) lkp (Nat.le_refl _) rfl) (by omega) (by omega);rfl)
    refine wk ?_
    refine C8 L (Gk.e lkg) G ⟨rfl,?_⟩
    refine⟨kps,lkg,(by unfold lpM;exact Dw (by omega)),by exact lkp,by exact lkp,r6.kS (S:=fun j=>j=h.n∨j=h2.n+1) w3.bd kps (by intro j q1 q2;omega),r7.kS (S:=fun j=>j=h.n∨j=h2.n+1) w4.bd kps (by intro j q1 q2;omega),_,by exact lkp,?_⟩
    rw [e1,e0,List.nil_append]
    exact EL.app (l:= []) (by exact lkp) (by omega) rfl
   ·have g8:=g6.lt
    rw [e2]at r8
    refine wk ?_
    (apply st1 L rfl;exact Fi (old:=(B4 A (D.take i)).flatMap Ay) (new:=Ay (s,atA A s)) rfl rfl (SlR.of (c:=(B4 A (D.take i)).flatMap Ay) lkp (by rw [A4,e2];omega) (by rw [List.drop_zero,List.take_of_length_le (by rw [A4,e2];exact Nat.le_refl _)])) (SlR.of (c:=Ay (s,atA A s)) lkp (Nat.le_refl _) rfl) (by omega) (by omega) rfl;rfl)
    refine wk ?_
    refine C8 L (Gk.e lkg) G ⟨rfl,?_⟩
    refine⟨kps,lkg,(by unfold lpM;exact Dw (by omega)),by exact lkp,by exact lkp,r6.kS (S:=fun j=>j=h.n∨j=h2.n+1∨j=lb2) w3.bd kps (by intro j q1 q2;omega),r7.kS (S:=fun j=>j=h.n∨j=h2.n+1∨j=lb2) w4.bd kps (by intro j q1 q2;omega),_,by exact lkp,?_⟩
    rw [e1]
    exact EL.app (l:=B4 A (D.take i)) (by exact lkp) (by omega) e2
  ·exact w3.k0 kps
  ·exact w4.k0 kps
 ·rintro v h3 ⟨r1,r2,r3,r4,r5,r6,r7,v2,r8,r9⟩
  have hle:=r3.e
  unfold lpM at hle
  have l4:=r8.lt
  have l5:=r2.lt
  refine F3 L (n:=h3.n) (t:=h3.t) (lh:= []) hle (by intro q;cases q) ?_
  rw [List.take_length]at r9
  rcases r9.ex with⟨e0,rfl⟩|⟨e0,b',rfl,r10,r11⟩
  all_goals
   refine wk ?_
   refine Fj L (todo:= []) ?_
   refine Fm L (by intro q;cases q) (Gk.e lkg) ?_
   refine Fk L X.f56 (F1 (b:=h.n) rfl (Bk.e lkp) rfl Ml) G ⟨D,hD,hDl,?_,kps⟩
  ·exact⟨.inl ⟨e0,rfl⟩⟩
  ·exact⟨.inr ⟨e0,b',rfl,by exact lkp,by omega⟩⟩
end
end
section
variable {P0:Program}{E:Env}{F:T CFn}{K:T (List AV×AV)}(L:Lg P0 E F K)(X:Fx F K)
include L X
noncomputable def B7 (A:Int→Option Int)(p:Int):Int:= @dite Int (∃s,A s=some p) (Classical.propDecidable _) (fun h=>Classical.choose h) fun _=>0
omit L X in
theorem Hf {A:Int→Option Int}{p s:Int}(h:A s=some p)(inj: ∀s s' p,A s=some p→A s'=some p→s=s'):B7 A p=s:=by
 have hx: ∃s,A s=some p:=⟨s,h⟩
 unfold B7
 rw [dif_pos hx]
 exact inj _ _ p (Classical.choose_spec hx) h
noncomputable def Do (A:Int→Option Int)(P i j:Nat):List Int:=((List.range j).map fun k=>((i*P+k:Nat):Int)).filter (Hp A)
omit L X in
theorem Oy (A:Int→Option Int)(P i j:Nat):Do A P i (j+1)=Do A P i j++if Hp A ((i*P+j:Nat):Int)=true then [((i*P+j:Nat):Int)]else []:=by
 unfold Do
 rw [List.range_succ,List.map_append,List.filter_append]
 congr 1
 show List.filter (Hp A) [((i*P+j:Nat):Int)]=_
 by_cases h:Hp A ((i*P+j:Nat):Int)=true
 ·rw [if_pos h,List.filter_cons_of_pos h];rfl
 ·rw [if_neg h,List.filter_cons_of_neg h];rfl
omit L X in
theorem Gr (A:Int→Option Int)(P i:Nat): ∀j,(Do A P i j).length=Kg (fun k=>Hp A ((i*P+k:Nat):Int)) j
 |0=>rfl
 |j+1=>by
  rw [Oy,List.length_append,Gr A P i j]
  simp only [Kg]
  by_cases h:Hp A ((i*P+j:Nat):Int)=true
  ·rw [if_pos h,if_pos h];rfl
  ·rw [if_neg h,if_neg h];rfl
section
variable {h:H}
theorem Yw:Ct P0 E F K 103 [.nils,.nils] h fun v h'=>v= .fn (.func 144) [] [.ptr h.n 0,.ptr (h.n+1) 0]∧Bk h' h.n [.nils]∧Bk h' (h.n+1) [.nils]∧K0 h h':=by
 refine Ae L X.f103 X.k103 rfl rfl fun Q x cs G=>?_
 refine wk ?_
 refine ret X.f103 ?_
 exact⟨rfl,lkp,lkp,kps⟩
theorem Yx {a0 b0 k0 l0:Nat}:Ct P0 E F K 103 [.slc a0 0 k0 (Aa+1),.slc b0 0 l0 (Aa+1)] h fun v h'=>v= .fn (.func 144) [] [.ptr h.n 0,.ptr (h.n+1) 0]∧Bk h' h.n [.slc a0 0 k0 (Aa+1)]∧Bk h' (h.n+1) [.slc b0 0 l0 (Aa+1)]∧K0 h h':=by
 refine Ae L X.f103 X.k103 rfl rfl fun Q x cs G=>?_
 refine wk ?_
 refine ret X.f103 ?_
 exact⟨rfl,lkp,lkp,kps⟩
variable {S nb P m r1 r2 vb:Nat}{A:Int→Option Int}
theorem ig (q:MpR S nb P h m r1 r2 vb A){s:Int}:Ct P0 E F K 91 [.ptr m 0,AI s] h fun v h'=>(v=match A s with|some p=> .tup [AI p,.bool true]|none=> .tup [AI ((0:Nat):Int),.bool false])∧h'=h:=by
 obtain⟨km,-,rg,nz,M1,M2,c1,c2,cv,k1,o1,k2,o2,kv,vl,vv,mr⟩:=q
 have ha:=mr.a1 s
 refine Ae L X.f91 X.k91 rfl rfl fun Q x cs G=>?_
 refine wk ?_
 (apply st1 L rfl;exact Dx (KE.int .i64) rfl rfl lkq;rfl)
 rw [ha]
 cases hA:A s with
 |none=>
  refine wk ?_
  refine ret X.f91 ?_
  refine⟨?_,rfl⟩;rw [hA];rfl
 |some p=>
  refine wk ?_
  refine ret X.f91 ?_
  refine⟨?_,rfl⟩;rw [hA];rfl
theorem C9 (q:MpR S nb P h m r1 r2 vb A):Ct P0 E F K 97 [.ptr m 0] h fun v h'=>v=AI ((S:Nat):Int)∧h'=h:=by
 have km:=q.km
 refine Am L X.f97 X.k97 rfl rfl fun Q x cs G=>?_
 refine wk ?_
 refine ret X.f97 ?_
 exact⟨rfl,rfl⟩
theorem Ln (q:MpR S nb P h m r1 r2 vb A){i:Nat}(hi:i<nb):Ct P0 E F K 25 [.ptr m 0,AI ((i:Nat):Int)] h fun v h'=>v=AI ((valA A P i:Nat):Int)∧h'=h:=by
 obtain⟨km,-,rg,nz,M1,M2,c1,c2,cv,k1,o1,k2,o2,kv,vl,vv,mr⟩:=q
 have hv:=vv i hi
 refine Ae L X.f25 X.k25 rfl rfl fun Q x cs G=>?_
 refine wk ?_
 refine ret X.f25 ?_
 exact⟨rfl,rfl⟩
theorem Yy (q:MpR S nb P h m r1 r2 vb A){i:Nat}(hi:i<nb):Ct P0 E F K 50 [.ptr m 0,AI ((i:Nat):Int)] h fun v h'=> ∃a b va vb',v= .fn (.func 144) [] [.ptr a 0,.ptr b 0]∧Bk h' a [va]∧Bk h' b [vb']∧RowN h' h.n va (Do A P i P)∧RowN h' h.n vb' ((Do A P i P).map (B7 A))∧K0 h h'∧h.n≤a∧h.n≤b:=by
 have q0:=q
 have inj:=q.inv.inj
 obtain⟨km,-,rg,nz,M1,M2,c1,c2,cv,k1,o1,k2,o2,kv,vl,vv,mr⟩:=q
 have l1:=km.lt
 have l3:=k2.lt
 have hlen:=Gr A P i P
 have hm:i*P≤12*6:=Nat.mul_le_mul (by omega) (by omega)
 have e1:(i+1)*P=i*P+P:=by rw [Nat.add_mul,Nat.one_mul]
 refine Ae L X.f50 X.k50 rfl rfl fun Q x cs G=>?_
 refine wk ?_
 refine cal (c:=Ln L X q0 hi) (g:=?_)
 rintro _ rfl
 by_cases hz:valA A P i=0
 ·have hD:Do A P i P= []:=List.length_eq_zero_iff.1 (by rw [hlen];exact hz)
  rw [hz]
  refine wk ?_
  refine cal (c:=Yw L X) (g:=?_)
  rintro _ h3 ⟨rfl,u1,u2,u3⟩
  refine wk ?_
  refine ret X.f50 ?_
  rw [hD]
  exact⟨_,_,.nils,.nils,rfl,by exact lkp,by exact lkp,⟨.inl ⟨rfl,rfl⟩⟩,⟨.inl ⟨rfl,rfl⟩⟩,kps,by first|omega|(simp only [Al]at *;omega),by first|omega|(simp only [Al]at *;omega)⟩
 ·refine wk ?_
  refine Co L (α:= AV×AV) (T:=fun j s=> [(7,some (AI ((i*P+j:Nat):Int))),(5,some s.1),(6,some s.2),(1,some (AI ((i:Nat):Int))),(0,some (.ptr m 0))]) (n:=P)
   (R:=fun j s h3=>((Do A P i j= []∧s.1= .nils∧s.2= .nils)∨(0<(Do A P i j).length∧ ∃b c,s.1= .slc b 0 (Do A P i j).length (Aa+1)∧s.2= .slc c 0 (Do A P i j).length (Aa+1)∧Bk h3 b ((Do A P i j).map AI)∧Bk h3 c (((Do A P i j).map (B7 A)).map AI)∧b≠c∧h.n≤b∧h.n≤c))∧Kp (fun j=>h.n≤j) h h3) (i0:=0) (.nils,.nils) tsb ⟨.inl ⟨rfl,rfl,rfl⟩,kps⟩ (Nat.zero_le _) ?_ ?_
  ·rintro j ⟨sa,sb⟩ h3 hj ⟨u1,u2⟩ ih
   simp only at u1
   have n3:=u2.n
   have km3:=As u2 (by omega) km
   have k23:=Rd u2 (by omega) k2
   have hjl:=Gr A P i j
   have hcl:=M8 (fun k=>Hp A ((i*P+k:Nat):Int)) j
   have hs:=Oy A P i j
   have e2:((i*P+j:Nat):Int)+((1:Nat):Int)=((i*P+(j+1):Nat):Int):=by omega
   generalize hp:Do A P i j=D at*
   refine wk ?_
   (apply st1 L rfl;exact Dx (KE.int .i64) rfl rfl lkq;rfl)
   cases hg:Bo M2 ((i*P+j:Nat):Int)with
   |none=>
    have hno:Hp A ((i*P+j:Nat):Int)=false:=hasP_f.2 fun⟨s,hs⟩=>by rw [mr.a2 s _ hs]at hg;cases hg
    rw [hno,if_neg (by simp),List.append_nil]at hs
    rw [hs]at ih
    refine wk ?_
    exact ih (sa,sb) _ _ ⟨u1,kps⟩ tsb
   |some u=>
    obtain⟨s,rfl,e3⟩:=mr.a3 _ u hg
    have hyes:Hp A ((i*P+j:Nat):Int)=true:=hasP_t.2 ⟨s,e3⟩
    rw [if_pos hyes]at hs
    rw [hs]at ih
    have hinv:B7 A ((i*P+j:Nat):Int)=s:=Hf e3 inj
    rcases u1 with⟨rfl,rfl,rfl⟩|⟨gn,b,c,rfl,rfl,g1,g2,g3,g4,g5⟩
    ·refine wk ?_
     (apply st1 L rfl;exact Ft (new:= [AI ((i*P+j:Nat):Int)]) rfl rfl (SlR.of (c:= [AI ((i*P+j:Nat):Int)]) lkp (Nat.le_refl _) rfl) (by omega) (by omega);rfl)
     refine wk ?_
     (apply st1 L rfl;exact Ft (new:= [AI s]) rfl rfl (SlR.of (c:= [AI s]) lkp (Nat.le_refl _) rfl) (by omega) (by omega);rfl)
     refine wk ?_
     refine ih (.slc (h3.n+1) 0 1 (Aa+1),.slc (h3.n+1+1+1) 0 1 (Aa+1)) _ _ ⟨.inr ⟨by simp,h3.n+1,h3.n+1+1+1,rfl,rfl,by exact lkp,?_,by omega,by omega,by omega⟩,kps⟩ tsb
     have e9:List.map AI (List.map (B7 A) ([]++ [((i*P+j:Nat):Int)]))= [AI s]:=by simp only [List.nil_append,List.map_cons,List.map_nil,hinv]
     rw [e9]
     exact lkp
    ·have t1:=g1.lt
     have t2:=g2.lt
     refine wk ?_
     (apply st1 L rfl;exact Fi (old:=D.map AI) (new:= [AI ((i*P+j:Nat):Int)]) rfl rfl (SlR.of (c:=D.map AI) lkp (by simp) (by rw [List.drop_zero,List.take_of_length_le (by simp)])) (SlR.of (c:= [AI ((i*P+j:Nat):Int)]) lkp (Nat.le_refl _) rfl) (by omega) (by omega) rfl;rfl)
     refine wk ?_
     (apply st1 L rfl;exact Fi (old:=(D.map (B7 A)).map AI) (new:= [AI s]) rfl rfl (SlR.of (c:=(D.map (B7 A)).map AI) lkp (by simp) (by rw [List.drop_zero,List.take_of_length_le (by simp)])) (SlR.of (c:= [AI s]) lkp (Nat.le_refl _) rfl) (by omega) (by omega) rfl;rfl)
     refine wk ?_
     refine ih (.slc (h3.n+1) 0 (D.length+1) (Aa+1),.slc (h3.n+1+1+1) 0 (D.length+1) (Aa+1)) _ _ ⟨.inr ⟨by simp,h3.n+1,h3.n+1+1+1,by simp,by simp,?_,?_,by omega,by omega,by omega⟩,kps⟩ tsb
     ·rw [List.map_append];exact lkp
     ·have e9:List.map AI (List.map (B7 A) [((i*P+j:Nat):Int)])= [AI s]:=by simp only [List.nil_append,List.map_cons,List.map_nil,hinv]
      rw [List.map_append,List.map_append,e9];exact lkp
  ·rintro⟨sa,sb⟩ h3 ⟨u1,u2⟩
   simp only at u1
   have n3:=u2.n
   have km3:=As u2 (by omega) km
   rcases u1 with⟨e0,-,-⟩|⟨gn,b,c,rfl,rfl,g1,g2,g3,g4,g5⟩
   ·rw [e0]at hlen;exact absurd hlen.symm hz
   ·refine wk ?_
    refine cal (c:=Yx L X (a0:=b) (b0:=c) (k0:=(Do A P i P).length) (l0:=(Do A P i P).length)) (g:=?_)
    rintro _ h4 ⟨rfl,w1,w2,w3⟩
    refine wk ?_
    refine ret X.f50 ?_
    refine⟨_,_,_,_,rfl,by exact lkp,by exact lkp,⟨.inr ⟨gn,b,rfl,by exact lkp,g4⟩⟩,⟨.inr ⟨by rw [List.length_map];exact gn,c,by rw [List.length_map],by exact lkp,g5⟩⟩,Kp.cut (Kp.tr0 w3 u2) (Nat.le_refl _),by simp only [Al]at *;omega,by simp only [Al]at *;omega⟩
end
end
section
variable {P0:Program}{E:Env}{F:T CFn}{K:T (List AV×AV)}(L:Lg P0 E F K)(X:Fx F K)
include L X
def Hq (f:Nat→Nat)(n:Nat):List AV:=(List.range n).map fun i=>AI ((f i:Nat):Int)
omit L X in
theorem Ki (f:Nat→Nat)(n:Nat):(Hq f n).length=n:=by simp [Hq]
omit L X in
theorem Te (f:Nat→Nat){n i:Nat}(hi:i<n):(Hq f n)[i]?=some (AI ((f i:Nat):Int)):=by simp [Hq,hi]
omit L X in
theorem Lo (f:Nat→Nat)(n:Nat):Hq f (n+1)=Hq f n++ [AI ((f n:Nat):Int)]:=by simp [Hq,List.range_succ]
omit L X in
theorem dt3 {c:List AV}{o:Nat}{u v w:AV}(h1:c[o]?=some u)(h2:c[o+1]?=some v)(h3:c[o+2]?=some w):o+3≤c.length∧(c.drop o).take 3= [u,v,w]:=by
 have l3:=(List.getElem?_eq_some_iff.1 h3).1
 refine⟨by omega,List.ext_getElem? fun i=>?_⟩
 rcases i with _|_|_|i
 ·rw [List.getElem?_take_of_lt (by omega),List.getElem?_drop];exact h1
 ·rw [List.getElem?_take_of_lt (by omega),List.getElem?_drop];exact h2
 ·rw [List.getElem?_take_of_lt (by omega),List.getElem?_drop];exact h3
 ·rw [List.getElem?_take_eq_none (by omega)];rfl
section
variable {h:H}
theorem ij {pn P nx er:Nat}:Ct P0 E F K 161 [.agg [.slc pn 0 P P,AI ((nx:Nat):Int),AI ((er:Nat):Int)]] h fun v h'=>v=AI ((er:Nat):Int)∧K0 h h':=by
 refine Am L X.f161 X.k161 rfl rfl fun Q x cs G=>?_
 refine wk ?_
 refine ret X.f161 ?_
 exact⟨rfl,kps⟩
theorem Yz {κ: Nat→Nat}{d fm bb:Nat}{D:Dv}{cb:List AV}(q:DevC κ h d D fm bb cb):Ct P0 E F K 160 [.slc bb 0 D.nb D.nb,.fn (.func 161) [] []] h fun v h'=>((D.nb=0∧v= .nils)∨ ∃b,v= .slc b 0 D.nb (Aa+1)∧Bk h' b (Hq (fun i=>(D.bl i).er) D.nb)∧h.n≤b)∧K0 h h':=by
 have hb:=q.bk
 have hl:=q.blen
 have hn:=q.nb
 have lb:=hb.lt
 refine Ae L X.f160 X.k160 rfl rfl fun Q x cs G=>?_
 refine wk ?_
 refine Co L (α:= AV) (T:=fun i v=> [(9,some (AI ((i:Nat):Int))),(8,some (AI ((D.nb:Nat):Int))),(7,some (.slc bb 0 D.nb D.nb)),(4,some v),(1,some (.fn (.func 161) [] []))]) (n:=D.nb)
  (R:=fun i v h3=>((i=0∧v= .nils)∨(0<i∧ ∃b,v= .slc b 0 i (Aa+1)∧Bk h3 b (Hq (fun i=>(D.bl i).er) i)∧h.n≤b))∧Kp (fun j=>h.n≤j) h h3) (i0:=0) .nils tsb ⟨.inl ⟨rfl,rfl⟩,kps⟩ (Nat.zero_le _) ?_ ?_
 ·rintro i v h3 hi ⟨u1,u2⟩ ih
  have hb3:=As u2 (by omega) hb
  have n3:=u2.n
  obtain⟨pn,c,hr⟩:=q.rows i hi
  have hdt:=dt3 hr.c0 hr.c1 hr.c2
  have hrl:=Ki (fun i=>(D.bl i).er) i
  refine wk ?_
  (apply st1 L rfl;exact Br hb3.rk hdt rfl;rfl)
  refine wk ?_
  refine cal (c:=ij L X) (g:=?_)
  rintro _ h4 ⟨rfl,w1⟩
  have n4:=w1.n
  simp only [Al]at n4
  rcases u1 with⟨rfl,rfl⟩|⟨hi0,b,rfl,g1,g2⟩
  ·refine wk ?_
   (apply st1 L rfl;exact Ft (new:= [AI (((D.bl 0).er:Nat):Int)]) rfl rfl (SlR.of (c:= [AI (((D.bl 0).er:Nat):Int)]) lkp (Nat.le_refl _) rfl) (by omega) (by omega);rfl)
   refine wk ?_
   refine ih (.slc (h4.n+1) 0 1 (Aa+1)) _ _ ⟨.inr ⟨by omega,h4.n+1,rfl,?_,by omega⟩,kps⟩ tsb
   exact lkp
  ·have t1:=g1.lt
   refine wk ?_
   (apply st1 L rfl;exact Fi (old:=Hq (fun i=>(D.bl i).er) i) (new:= [AI (((D.bl i).er:Nat):Int)]) rfl rfl (SlR.of (c:=Hq (fun i=>(D.bl i).er) i) lkp (by omega) (by rw [List.drop_zero,List.take_of_length_le (by omega)])) (SlR.of (c:= [AI (((D.bl i).er:Nat):Int)]) lkp (Nat.le_refl _) rfl) (by omega) (by omega) rfl;rfl)
   refine wk ?_
   refine ih (.slc (h4.n+1) 0 (i+1) (Aa+1)) _ _ ⟨.inr ⟨by omega,h4.n+1,rfl,?_,by omega⟩,kps⟩ tsb
   rw [Lo];exact lkp
 ·rintro v h3 ⟨u1,u2⟩
  have n3:=u2.n
  rcases u1 with⟨e,rfl⟩|⟨hi0,b,rfl,g1,g2⟩
  ·refine wk ?_
   refine ret X.f160 ?_
   exact⟨.inl ⟨e,rfl⟩,Kp.cut u2 (Nat.le_refl _)⟩
  ·refine wk ?_
   refine ret X.f160 ?_
   exact⟨.inr ⟨b,rfl,lkp,g2⟩,Kp.cut u2 (Nat.le_refl _)⟩
theorem o9 {κ: Nat→Nat}{d fm bb:Nat}{D:Dv}{cb:List AV}(q:DevC κ h d D fm bb cb)(hnb:0<D.nb):Ct P0 E F K 132 [.ptr d 0] h fun v h'=> ∃a b,v= .fn (.func 162) [] [.ptr a 0]∧Bk h' a [.slc b 0 D.nb (Aa+1)]∧Bk h' b (Hq (fun i=>(D.bl i).er) D.nb)∧h.n≤a∧h.n≤b∧K0 h h':=by
 have hd:=q.dk
 refine Am L X.f132 X.k132 rfl rfl fun Q x cs G=>?_
 refine wk ?_
 refine cal (c:=F4 L X (D:=D) lkp) (g:=?_)
 rintro _ rfl
 unfold dvC dvL at hd
 have hk:K0 h (hp (h.n+1) h.t [(h.n,some (cl [.nils]))]):=kps
 have q2:DevC κ (hp (h.n+1) h.t [(h.n,some (cl [.nils]))]) d D fm bb cb:=q.kb (hk.mono fun _ f=>f.elim)
 refine wk ?_
 refine cal (c:=Yz L X q2) (g:=?_)
 rintro _ h3 ⟨u1,u2⟩
 rcases u1 with⟨e,_⟩|⟨b,rfl,g1,g2⟩
 ·omega
 ·simp only [Al]at g2
  have n3:=u2.n
  simp only [Al]at n3
  refine wk ?_
  refine ret X.f132 ?_
  exact⟨h.n,b,rfl,lkp,lkp,Nat.le_refl _,by omega,kps⟩
theorem ik {lp a b nb:Nat}{f:Nat→Nat}(hnb:nb≤12)(I:Nat→H→Prop)
  (hI: ∀i hh,I i hh→Bk hh a [.slc b 0 nb (Aa+1)]∧Bk hh b (Hq f nb)) (hK: ∀i hh h',I i hh→K0 hh h'→I i h')
  (hY: ∀i hh,i<nb→I i hh→CtA P0 E F K (.yield lp) [AI ((i:Nat):Int),AI ((f i:Nat):Int)] hh fun u h'=>u= .bool true∧I (i+1) h') (h0:I 0 h):
  Ct P0 E F K 162 [.fn (.yield lp) [] [],.ptr a 0] h fun v h'=>I nb h':=by
 obtain⟨k1,k2⟩:=hI _ _ h0
 refine Ae L X.f162 X.k162 rfl rfl fun Q x cs G=>?_
 refine wk ?_
 refine Co L (α:= Unit) (T:=fun i _=> [(7,some (AI ((i:Nat):Int))),(6,some (AI ((nb:Nat):Int))),(5,some (.slc b 0 nb (Aa+1))),(0,some (.fn (.yield lp) [] []))]) (n:=nb)
  (R:=fun i _ hh=>I i hh) (i0:=0) () tsb (hK _ _ _ h0 kps) (Nat.zero_le _) ?_ ?_
 ·rintro i _ h2 hi w ih
  obtain⟨j1,j2⟩:=hI _ _ w
  have hx:=Te f hi
  refine wk ?_
  refine Sx L rfl rfl rfl rfl rfl (hY i _ hi (hK i _ _ w (by exact kps))) ?_
  rintro _ h3 ⟨rfl,w3⟩
  refine wk ?_
  refine ih () _ _ w3 ?_;exact tsb
 ·rintro _ h2 w
  refine wk ?_
  refine ret X.f162 ?_
  exact w
end
end
section
variable {P0:Program}{E:Env}{F:T CFn}{K:T (List AV×AV)}(L:Lg P0 E F K)(X:Fx F K)
include L X
def cntS (ps:Nat→Nat)(s:Nat):Nat→Nat
 |0=>0
 |n+1=>cntS ps s n+if ps n=s then 1 else 0
omit L X in
theorem Iz (ps:Nat→Nat)(s:Nat): ∀n,cntS ps s n≤n
 |0=>Nat.le_refl _
 |n+1=>by have:=Iz ps s n;simp only [cntS];split <;> omega
omit L X in
theorem Tf {ps:Nat→Nat}{s i:Nat}: ∀{n},i<n→ps i=s→0<cntS ps s n
 |n+1,hi,e=>by
  simp only [cntS]
  by_cases h:i=n
  ·subst h;rw [if_pos e];omega
  ·have:=Tf (ps:=ps) (s:=s) (n:=n) (by omega) e;omega
omit L X in
theorem Tg (ps:Nat→Nat)(i t s:Nat): ∀n,n≤i→cntS (upd ps i t) s n=cntS ps s n
 |0,_=>rfl
 |n+1,h=>by simp only [cntS,Tg ps i t s n (by omega),upd_ne ps t (show n≠i by omega)]
omit L X in
theorem Bp (ps:Nat→Nat)(i t s:Nat): ∀n,i<n→cntS (upd ps i t) s n+(if ps i=s then 1 else 0)=cntS ps s n+(if t=s then 1 else 0)
 |n+1,h=>by
  simp only [cntS]
  by_cases e:i=n
  ·subst e;rw [Tg ps i t s i (Nat.le_refl _),upd_eq];omega
  ·have:=Bp ps i t s n (by omega)
   rw [upd_ne ps t (show n≠i by omega)];omega
def pcC (ps:Nat→Nat)(pb nb:Nat):List AV:= [.slc pb 0 nb (Aa+2),eI ((cntS ps 0 nb:Nat):Int),eI ((cntS ps 1 nb:Nat):Int),eI ((cntS ps 2 nb:Nat):Int),eI ((cntS ps 3 nb:Nat):Int),eI ((cntS ps 4 nb:Nat):Int)]
structure PoC (h:H)(p pb nb:Nat)(ps pe:Nat→Nat)(cb:List AV):Prop where
 pk:Bk h p (pcC ps pb nb)
 bk:Bk h pb cb
 ne:p≠pb
 len:cb.length=nb*2
 nbd:0<nb∧nb≤12
 c0: ∀i,i<nb→cb[i*2]?=some (eI ((pe i:Nat):Int))
 c1: ∀i,i<nb→cb[i*2+1]?=some (eI ((ps i:Nat):Int))
 st: ∀i,i<nb→1≤ps i∧ps i≤4
 er: ∀i,i<nb→pe i≤100000
omit L X in
theorem PoC.kp {h h':H}{p pb nb:Nat}{ps pe:Nat→Nat}{cb:List AV}{S:Nat→Prop}(k:Kp S h h')(h1: ¬S p)(h2: ¬S pb)(q:PoC h p pb nb ps pe cb):PoC h' p pb nb ps pe cb:=
 ⟨As k h1 q.pk,As k h2 q.bk,q.ne,q.len,q.nbd,q.c0,q.c1,q.st,q.er⟩
omit L X in
theorem PoC.k0 {h h':H}{p pb nb:Nat}{ps pe:Nat→Nat}{cb:List AV}(k:K0 h h')(q:PoC h p pb nb ps pe cb):PoC h' p pb nb ps pe cb:=q.kp k id id
omit L X in
theorem PoC.c0s {h:H}{p pb nb:Nat}{ps pe:Nat→Nat}{cb:List AV}(q:PoC h p pb nb ps pe cb){i t:Nat}(hi:i<nb)(j:Nat)(hj:j<nb):(cb.set (i*2+1) (eI ((t:Nat):Int)))[j*2]?=some (eI ((pe j:Nat):Int)):=by
 rw [List.getElem?_set_ne (by omega)];exact q.c0 j hj
omit L X in
theorem PoC.c1s {h:H}{p pb nb:Nat}{ps pe:Nat→Nat}{cb:List AV}(q:PoC h p pb nb ps pe cb){i t:Nat}(hi:i<nb)(j:Nat)(hj:j<nb):(cb.set (i*2+1) (eI ((t:Nat):Int)))[j*2+1]?=some (eI ((upd ps i t j:Nat):Int)):=by
 have:=q.len
 by_cases e:j=i
 ·subst e;rw [List.getElem?_set_self (by omega),upd_eq]
 ·rw [List.getElem?_set_ne (by omega),upd_ne _ _ e];exact q.c1 j hj
section
variable {h:H}{p pb nb:Nat}{ps pe:Nat→Nat}{cb:List AV}
theorem Kj (q:PoC h p pb nb ps pe cb):Ct P0 E F K 99 [.ptr p 0] h fun v h'=>v= .bool false∧h'=h:=by
 have hd:=q.pk
 have hn:=q.nbd
 unfold pcC at hd
 refine Am L X.f99 X.k99 rfl rfl fun Q x cs G=>?_
 refine wk ?_
 refine ret X.f99 ?_
 exact⟨rfl,rfl⟩
theorem W4 (q:PoC h p pb nb ps pe cb){i:Int}:Ct P0 E F K 102 [.ptr p 0,.int .i64 i] h fun v h'=>v= .bool (decide (0≤i∧i<nb))∧h'=h:=by
 have hd:=q.pk
 unfold pcC at hd
 refine Ae L X.f102 X.k102 rfl rfl fun Q x cs G=>?_
 refine wk ?_
 by_cases hi:0≤i
 ·refine wk ?_
  by_cases hj:i<nb
  ·refine wk ?_
   refine ret X.f102 ?_
   exact⟨by simp [single,hi,hj],rfl⟩
  ·refine wk ?_
   refine ret X.f102 ?_
   exact⟨by simp [single,hi,hj],rfl⟩
 ·refine wk ?_
  refine ret X.f102 ?_
  exact⟨by simp [single,hi],rfl⟩
theorem Th {n:Nat}(hn:n≤1099511627776):Ct P0 E F K 164 [eI ((n:Nat):Int)] h fun v h'=>v= .bool true∧h'=h:=by
 refine Am L X.f164 X.k164 rfl rfl fun Q x cs G=>?_
 refine wk ?_
 refine ret X.f164 ?_
 exact⟨rfl,rfl⟩
theorem Lp (q:PoC h p pb nb ps pe cb){i:Nat}(hi:i<nb):Ct P0 E F K 49 [.ptr p 0,eI ((i:Nat):Int)] h fun v h'=>v=eI ((ps i:Nat):Int)∧h'=h:=by
 have hd:=q.pk
 have hb:=q.bk
 have hc:=q.c1 i hi
 unfold pcC at hd
 refine Ae L X.f49 X.k49 rfl rfl fun Q x cs G=>?_
 refine wk ?_
 refine cal (c:=W4 L X q) (g:=?_)
 rintro _ rfl
 rw [decide_eq_true (show 0≤(i:Int)∧(i:Int)<nb by omega)]
 refine wk ?_
 refine ret X.f49 ?_
 exact⟨rfl,rfl⟩
end
end
section
variable {P0:Program}{E:Env}{F:T CFn}{K:T (List AV×AV)}(L:Lg P0 E F K)(X:Fx F K)
include L X
omit L X in
theorem Gs {l:List (Nat×Option AV)}{h:H}{x y:O}{b o len size i:Nat}{k:IntKind}(e:evO l x=some (.ptr b o))(e1:evO l y=some (.int k ((i:Nat):Int)))(hi:i<len):XV (.iaddrA len size x y) h l (.ptr b (o+i*size)) h:=⟨Sq (Ab e) (Ab e1) hi rfl⟩
section
variable {h:H}{p pb nb:Nat}{ps pe:Nat→Nat}{cb:List AV}
theorem M9 (q:PoC h p pb nb ps pe cb){i t:Nat}(hi:i<nb)(ht:1≤t∧t≤4):Ct P0 E F K 140 [.ptr p 0,eI ((i:Nat):Int),eI ((t:Nat):Int)] h fun v h'=>v= .tup []∧PoC h' p pb nb (upd ps i t) pe (cb.set (i*2+1) (eI ((t:Nat):Int)))∧Kp (fun j=>j=p∨j=pb) h h':=by
 have hd:=q.pk
 have hb:=q.bk
 have hc:=q.c1 i hi
 have hl:=q.len
 have hne:=q.ne
 have hst:=q.st i hi
 have l1:=hd.lt
 have l2:=hb.lt
 have c0s:=q.c0s (t:=t) hi
 have c1s:=q.c1s (t:=t) hi
 have hnb:=q.nbd
 have hpos:=Tf (ps:=ps) (s:=ps i) hi rfl
 have e0:=Bp ps i t 0 nb hi
 have e1:=Bp ps i t 1 nb hi
 have e2:=Bp ps i t 2 nb hi
 have e3:=Bp ps i t 3 nb hi
 have e4:=Bp ps i t 4 nb hi
 have b1:=Iz ps 1 nb
 have b2:=Iz ps 2 nb
 have b3:=Iz ps 3 nb
 have b4:=Iz ps 4 nb
 have hlt:i*2+1<cb.length:=by omega
 have st2: ∀j,j<nb→1≤upd ps i t j∧upd ps i t j≤4:=fun j hj=>by
  by_cases e:j=i
  ·subst e;rw [upd_eq];exact ht
  ·rw [upd_ne _ _ e];exact q.st j hj
 have her:=q.er
 unfold pcC at hd
 have hs:ps i=1∨ps i=2∨ps i=3∨ps i=4:=by omega
 have htt:t=1∨t=2∨t=3∨t=4:=by omega
 rcases hs with hs|hs|hs|hs <;> rw [hs]at hc hpos e0 e1 e2 e3 e4 <;> rcases htt with rfl|rfl|rfl|rfl <;> simp at e0 e1 e2 e3 e4
 all_goals
  refine B3 L X.f140 X.k140 rfl rfl fun Q x cs G=>?_
  refine wk ?_
  (apply C0 rfl rfl;exact Gs rfl rfl (by omega))
  refine wk ?_
  (apply C0 rfl rfl;exact Gs rfl rfl (by omega))
  refine wk ?_
  (apply C0 rfl rfl;exact Gs rfl rfl (by omega))
  refine wk ?_
  (apply C0 rfl rfl;exact Gs rfl rfl (by omega))
  refine wk ?_
  refine ret X.f140 ?_
  refine⟨rfl,⟨Oi ?_ lkp,lkp,hne,(by rw [List.length_set];exact hl),hnb,c0s,c1s,st2,her⟩,kps⟩
  unfold pcC
  simp only [List.cons.injEq,and_true,true_and,eI,AV.int.injEq]
  omega
end
end
section
variable {P0:Program}{E:Env}{F:T CFn}{K:T (List AV×AV)}(L:Lg P0 E F K)(X:Fx F K)
include L X
section
variable {h:H}{p pb nb:Nat}{ps pe:Nat→Nat}{cb:List AV}
theorem Qm {a b:Nat}:Ct P0 E F K 139 [.agg [eI ((a:Nat):Int),eI ((b:Nat):Int)]] h fun v h'=>v= .bool (decide (b=2))∧K0 h h':=by
 refine Am L X.f139 X.k139 rfl rfl fun Q x cs G=>?_
 by_cases e:b=2
 ·refine wk ?_
  refine ret X.f139 ?_
  exact⟨by rw [decide_eq_true e];rfl,kps⟩
 ·refine wk ?_
  refine ret X.f139 ?_
  exact⟨by rw [decide_eq_false e];rfl,kps⟩
theorem Y0 {a b:Nat}:Ct P0 E F K 148 [.agg [eI ((a:Nat):Int),eI ((b:Nat):Int)]] h fun v h'=>v= .bool (decide (b≠4))∧K0 h h':=by
 refine Am L X.f148 X.k148 rfl rfl fun Q x cs G=>?_
 by_cases e:b=4
 ·refine wk ?_
  refine ret X.f148 ?_
  exact⟨by rw [decide_eq_false (by simpa using e)];rfl,kps⟩
 ·refine wk ?_
  refine ret X.f148 ?_
  exact⟨by rw [decide_eq_true (by simpa using e)];rfl,kps⟩
theorem Pa {a b:Nat}(ha:a<1099511627776):Ct P0 E F K 150 [.agg [eI ((a:Nat):Int),eI ((b:Nat):Int)]] h fun v h'=>v= .bool (decide (b=2∨b=3))∧K0 h h':=by
 refine Am L X.f150 X.k150 rfl rfl fun Q x cs G=>?_
 refine wk ?_
 refine cal (c:=Qm L X) (g:=?_)
 rintro _ h2 ⟨rfl,k2⟩
 by_cases e:b=2
 ·rw [decide_eq_true e]
  refine wk ?_
  refine ret X.f150 ?_
  exact⟨by rw [decide_eq_true (.inl e)];rfl,kps⟩
 ·rw [decide_eq_false e]
  by_cases e2:b=3
  ·refine wk ?_
   refine ret X.f150 ?_
   exact⟨by rw [decide_eq_true (.inr e2)];rfl,kps⟩
  ·refine wk ?_
   refine ret X.f150 ?_
   exact⟨by rw [decide_eq_false (by omega)];rfl,kps⟩
theorem Lq {f i:Nat}{W:Bool}(q:PoC h p pb nb ps pe cb)(hi:i<nb)(hw: ∀h2,Ct P0 E F K f [.agg [eI ((pe i:Nat):Int),eI ((ps i:Nat):Int)]] h2 fun v h'=>v= .bool W∧K0 h2 h'):
  Ct P0 E F K 138 [.ptr p 0,eI ((i:Nat):Int),.fn (.func f) [] []] h fun v h'=>v=eI ((if W=true then 0 else 8:Nat):Int)∧K0 h h':=by
 have hd:=q.pk
 have hb:=q.bk
 have hc0:=q.c0 i hi
 have hc1:=q.c1 i hi
 unfold pcC at hd
 refine B3 L X.f138 X.k138 rfl rfl fun Q x cs G=>?_
 refine wk ?_
 refine cal (c:=Kj L X q) (g:=?_)
 rintro _ rfl
 refine wk ?_
 refine cal (c:=W4 L X q) (g:=?_)
 rintro _ rfl
 rw [decide_eq_true (show 0≤(i:Int)∧(i:Int)<nb by omega)]
 refine wk ?_
 refine cal (c:=hw _) (g:=?_)
 rintro _ h2 ⟨rfl,k2⟩
 cases W with
 |true=>
  refine wk ?_
  refine ret X.f138 ?_
  exact⟨rfl,kps⟩
 |false=>
  refine wk ?_
  refine ret X.f138 ?_
  exact⟨rfl,kps⟩
theorem Gt {i:Nat}(q:PoC h p pb nb ps pe cb)(hi:i<nb)(hs:ps i=2):
  Ct P0 E F K 94 [.ptr p 0,eI ((i:Nat):Int)] h fun v h'=>v=eI ((0:Nat):Int)∧PoC h' p pb nb (upd ps i 3) pe (cb.set (i*2+1) (eI ((3:Nat):Int)))∧Kp (fun j=>j=p∨j=pb) h h':=by
 refine Ae L X.f94 X.k94 rfl rfl fun Q x cs G=>?_
 refine wk ?_
 refine cal (c:=Lq L X (W:=true) q hi (fun h2=>(Qm L X).mono fun v h' e=>by rw [decide_eq_true hs]at e;exact e)) (g:=?_)
 rintro _ h2 ⟨rfl,k2⟩
 rw [if_pos rfl]
 refine wk ?_
 refine cal (c:=M9 L X (t:=3) (q.k0 (by exact kps)) hi (by omega)) (g:=?_)
 rintro _ h3 ⟨rfl,w1,w2⟩
 refine wk ?_
 refine ret X.f94 ?_
 exact⟨rfl,w1,Kp.trS w2 (fun _ _ e=>e) kps⟩
theorem Oz {i:Nat}(q:PoC h p pb nb ps pe cb)(hi:i<nb)(hs:ps i≠4):
  Ct P0 E F K 106 [.ptr p 0,eI ((i:Nat):Int)] h fun v h'=>v=eI ((0:Nat):Int)∧PoC h' p pb nb (upd ps i 4) pe (cb.set (i*2+1) (eI ((4:Nat):Int)))∧Kp (fun j=>j=p∨j=pb) h h':=by
 refine Ae L X.f106 X.k106 rfl rfl fun Q x cs G=>?_
 refine wk ?_
 refine cal (c:=Lq L X (W:=true) q hi (fun h2=>(Y0 L X).mono fun v h' e=>by rw [decide_eq_true hs]at e;exact e)) (g:=?_)
 rintro _ h2 ⟨rfl,k2⟩
 rw [if_pos rfl]
 refine wk ?_
 refine cal (c:=M9 L X (t:=4) (q.k0 (by exact kps)) hi (by omega)) (g:=?_)
 rintro _ h3 ⟨rfl,w1,w2⟩
 refine wk ?_
 refine ret X.f106 ?_
 exact⟨rfl,w1,Kp.trS w2 (fun _ _ e=>e) kps⟩
theorem Ti {i:Nat}(q:PoC h p pb nb ps pe cb)(hi:i<nb)(hs:ps i=2∨ps i=3)(he:pe i<100000):
  Ct P0 E F K 108 [.ptr p 0,eI ((i:Nat):Int)] h fun v h'=>v=eI ((0:Nat):Int)∧(∃cb',PoC h' p pb nb (upd ps i 1) (upd pe i (pe i+1)) cb')∧Kp (fun j=>j=p∨j=pb) h h':=by
 refine Ae L X.f108 X.k108 rfl rfl fun Q x cs G=>?_
 refine wk ?_
 refine cal (c:=Lq L X (W:=true) q hi (fun h2=>(Pa L X (by omega)).mono fun v h' e=>by rw [decide_eq_true hs]at e;exact e)) (g:=?_)
 rintro _ h2 ⟨rfl,k2⟩
 rw [if_pos rfl]
 refine wk ?_
 refine cal (c:=M9 L X (t:=1) (q.k0 (by exact kps)) hi (by omega)) (g:=?_)
 rintro _ h3 ⟨rfl,w1,w2⟩
 have hd:=w1.pk
 have hb:=w1.bk
 have hc0:=w1.c0 i hi
 have hl:=w1.len
 have hne:=w1.ne
 have l1:=hd.lt
 have l2:=hb.lt
 have c0:=w1.c0
 have c1:=w1.c1
 have hlt:i*2<(cb.set (i*2+1) (eI ((1:Nat):Int))).length:=by omega
 unfold pcC at hd
 refine wk ?_
 refine ret X.f108 ?_
 refine⟨rfl,⟨(cb.set (i*2+1) (eI ((1:Nat):Int))).set (i*2) (eI ((pe i+1:Nat):Int)),⟨lkp,by exact lkp,hne,(by rw [List.length_set];exact hl),q.nbd,fun j hj=>?_,fun j hj=>?_,w1.st,fun j hj=>?_⟩⟩,Kp.st (.inr (.inr rfl)) (Kp.trS w2 (fun _ _ e=>e) kps)⟩
 ·by_cases e:j=i
  ·subst e;rw [List.getElem?_set_self (by omega),upd_eq]
  ·rw [List.getElem?_set_ne (by omega),upd_ne _ _ e];exact c0 j hj
 ·rw [List.getElem?_set_ne (by omega)];exact c1 j hj
 ·by_cases e:j=i
  ·subst e;rw [upd_eq];omega
  ·rw [upd_ne _ _ e];exact w1.er j hj
end
end
section
variable {P0:Program}{E:Env}{F:T CFn}{K:T (List AV×AV)}(L:Lg P0 E F K)(X:Fx F K)
include L X
section
variable {h:H}{p pb nb:Nat}{ps pe:Nat→Nat}{cb:List AV}
theorem Y1 (q:PoC h p pb nb ps pe cb):Ct P0 E F K 100 [.slc pb 0 nb (Aa+2)] h fun v h'=> ∃b,v= .slc b 0 nb (Aa+2)∧Bk h' b cb∧h.n≤b∧K0 h h':=by
 have hb:=q.bk
 have hl:=q.len
 have hn:=q.nbd
 refine Am L X.f100 X.k100 rfl rfl fun Q x cs G=>?_
 refine wk ?_
 (apply st1 L rfl;exact uy (new:=cb) rfl rfl (SlR.of (c:=cb) lkp (by omega) (by rw [List.drop_zero,List.take_of_length_le (by omega)])) (by omega) (by omega);rfl)
 refine wk ?_
 refine ret X.f100 ?_
 exact⟨_,rfl,lkp,by omega,kps⟩
theorem Jn (q:PoC h p pb nb ps pe cb){s:Nat}:Ct P0 E F K 44 [.ptr p 0,eI ((s:Nat):Int)] h fun v h'=> ∃a b lb,v= .fn (.func 101) [] [.ptr a 0,.ptr b 0]∧Bk h' a [.slc lb 0 nb (Aa+2)]∧Bk h' b [eI ((s:Nat):Int)]∧Bk h' lb cb∧h.n≤a∧h.n≤b∧h.n≤lb∧K0 h h':=by
 have hd:=q.pk
 unfold pcC at hd
 refine Ae L X.f44 X.k44 rfl rfl fun Q x cs G=>?_
 refine wk ?_
 refine cal (c:=Kj L X (q.k0 (by exact kps))) (g:=?_)
 rintro _ rfl
 refine wk ?_
 refine cal (c:=Y1 L X (q.k0 (by exact kps))) (g:=?_)
 rintro _ h2 ⟨lb,rfl,w1,w2,w3⟩
 have n3:=w3.n
 simp only [Al]at w2 n3
 refine wk ?_
 refine ret X.f44 ?_
 exact⟨_,_,lb,rfl,lkp,lkp,lkp,by omega,by omega,by omega,kps⟩
theorem Ig {lp a b lb cap nb s:Nat}{ps pe:Nat→Nat}{cb:List AV}(hl:cb.length=nb*2)(hnb:nb≤12)(hc0: ∀i,i<nb→cb[i*2]?=some (eI ((pe i:Nat):Int)))(hc1: ∀i,i<nb→cb[i*2+1]?=some (eI ((ps i:Nat):Int)))(I:Nat→H→Prop)
  (hI: ∀i hh,I i hh→Bk hh a [.slc lb 0 nb cap]∧Bk hh b [eI ((s:Nat):Int)]∧Bk hh lb cb) (hK: ∀i hh h',I i hh→K0 hh h'→I i h')
  (hY: ∀i hh,i<nb→ps i=s→I i hh→CtA P0 E F K (.yield lp) [eI ((i:Nat):Int),eI ((pe i:Nat):Int)] hh fun u h'=>u= .bool true∧I (i+1) h') (hN: ∀i hh,i<nb→ps i≠s→I i hh→I (i+1) hh) (h0:I 0 h):
  Ct P0 E F K 101 [.fn (.yield lp) [] [],.ptr a 0,.ptr b 0] h fun v h'=>I nb h':=by
 obtain⟨k1,k2,k3⟩:=hI _ _ h0
 refine B3 L X.f101 X.k101 rfl rfl fun Q x cs G=>?_
 refine wk ?_
 refine Co L (α:= Unit) (T:=fun i _=> [(8,some (eI ((i:Nat):Int))),(7,some (eI ((nb:Nat):Int))),(6,some (.slc lb 0 nb cap)),(2,some (.ptr b 0)),(0,some (.fn (.yield lp) [] []))]) (n:=nb)
  (R:=fun i _ hh=>I i hh) (i0:=0) () tsb (hK _ _ _ h0 kps) (Nat.zero_le _) ?_ ?_
 ·rintro i _ h2 hi w ih
  obtain⟨j1,j2,j3⟩:=hI _ _ w
  have t1:=j1.lt
  have t2:=j2.lt
  have t3:=j3.lt
  have c0:=hc0 i hi
  have c1:=hc1 i hi
  by_cases e:ps i=s
  ·refine wk ?_
   refine Sx L rfl rfl rfl rfl rfl (hY i _ hi e (hK i _ _ w (by exact kps))) ?_
   rintro _ h3 ⟨rfl,w3⟩
   refine wk ?_
   refine ih () _ _ w3 ?_;exact tsb
  ·refine wk ?_
   refine ih () _ _ (hN i _ hi e (hK i _ _ w (by exact kps))) ?_;exact tsb
 ·rintro _ h2 w
  refine wk ?_
  refine ret X.f101 ?_
  exact w
end
end
section
variable {P0:Program}{E:Env}{F:T CFn}{K:T (List AV×AV)}(L:Lg P0 E F K)(X:Fx F K)
include L X
def Cd (ps pe:Nat→Nat)(s:Nat):Nat→Int×Nat
 |0=>(-1,0)
 |i+1=>if ps i=s∧((Cd ps pe s i).1<0∨pe i<(Cd ps pe s i).2)then(((i:Nat):Int),pe i)else Cd ps pe s i
omit L X in
theorem Fq (ps pe:Nat→Nat)(s:Nat): ∀n,((Cd ps pe s n).1= -1∧ ∀i,i<n→ps i≠s)∨ ∃i,i<n∧(Cd ps pe s n).1=((i:Nat):Int)∧ps i=s
 |0=> .inl ⟨rfl,fun i hi=>absurd hi (Nat.not_lt_zero i)⟩
 |n+1=>by
  simp only [Cd]
  by_cases h:ps n=s∧((Cd ps pe s n).1<0∨pe n<(Cd ps pe s n).2)
  ·rw [if_pos h];exact .inr ⟨n,Nat.lt_succ_self n,rfl,h.1⟩
  ·rw [if_neg h]
   rcases Fq ps pe s n with⟨h1,h2⟩|⟨i,h1,h2,h3⟩
   ·refine .inl ⟨h1,fun i hi e=>?_⟩
    by_cases e2:i=n
    ·subst e2;exact h ⟨e,.inl (by omega)⟩
    ·exact h2 i (by omega) e
   ·exact .inr ⟨i,by omega,h2,h3⟩
omit L X in
theorem Tj (ps pe:Nat→Nat)(s:Nat)(B:Nat): ∀n,(∀i,i<n→pe i≤B)→(Cd ps pe s n).2≤B
 |0,_=>Nat.zero_le _
 |n+1,h=>by
  simp only [Cd]
  split
  ·exact h n (Nat.lt_succ_self n)
  ·exact Tj ps pe s B n fun i hi=>h i (by omega)
section
variable {h:H}{p pb nb:Nat}{ps pe:Nat→Nat}{cb:List AV}
noncomputable def Lr (p s hn a b mk:Nat)(st:LS):Blk:= .loop ⟨st,none,173,cf173.ntmps,tms [(11,some (.fn (.func 101) [] [.ptr a 0,.ptr b 0])),(10,some (eI ((s:Nat):Int))),(9,some (.ptr p 0)),(6,some (.ptr (hn+1) 0)),(5,some (.ptr hn 0)),(4,some (eI ((0:Nat):Int))),(1,some (eI ((s:Nat):Int))),(0,some (.ptr p 0))],[12,13],c173_5,c173_10,mk⟩
omit L X in
structure RCold (h hh:H)(p s a b lb mk nb:Nat)(ps pe:Nat→Nat)(cb:List AV)(i:Nat):Prop where
 k:K0 h hh
 dk:Gk hh mk (.dfr (some []))
 lp:Gk hh (mk+1) (Lr p s h.n a b mk .ready)
 ka:Bk hh a [.slc lb 0 nb (Aa+2)]
 kb:Bk hh b [eI ((s:Nat):Int)]
 kl:Bk hh lb cb
 k5:Bk hh h.n [eI (Cd ps pe s i).1]
 k6:Bk hh (h.n+1) [eI (((Cd ps pe s i).2:Nat):Int)]
theorem Vc (q:PoC h p pb nb ps pe cb){s:Nat}(hs:s≤4):Ct P0 E F K 173 [.ptr p 0,eI ((s:Nat):Int)] h fun v h'=>v=eI (Cd ps pe s nb).1∧K0 h h':=by
 have hq:=q.nbd
 refine Ae L X.f173 X.k173 rfl rfl fun Q x cs G=>?_
 refine wk ?_
 refine cal (c:=Jn L X (s:=s) (q.k0 (by exact kps))) (g:=?_)
 rintro _ h2 ⟨a,b,lb,rfl,w1,w2,w3,w4,w5,w6,w7⟩
 have n5:=w7.n
 simp only [Al]at n5 w4 w5 w6
 have la:=w1.lt
 have lb':=w2.lt
 have lc:=w3.lt
 refine wk ?_
 refine Hd L (post:=fun _ h'=>RCold h h' p s a b lb h2.n nb ps pe cb nb) rfl rfl rfl ?_ ?_
 ·refine Ct.A ((Ig L X (ps:=ps) (pe:=pe) (cb:=cb) q.len hq.2 q.c0 q.c1 (fun i hh=>RCold h hh p s a b lb h2.n nb ps pe cb i) (fun i hh r=>⟨r.ka,r.kb,r.kl⟩) (fun i hh h' r k=>?_) (fun i hh hi e r=>?_) (fun i hh hi e r=>?_) ⟨kps,lkg,lkg,lkp,lkp,lkp,lkp,lkp⟩).mono fun v h' p=>p)
  ·exact⟨Kp.tr0 k r.k,Es k r.dk,Es k r.lp,Ah k r.ka,Ah k r.kb,Ah k r.kl,Ah k r.k5,Ah k r.k6⟩
  ·obtain⟨r1,r2,r3,r4,r5,r6,r7,r8⟩:=r
   have hle:=r3.e
   unfold Lr at hle
   have g1:=r2.lt
   have g2:=r3.lt
   have g3:=r4.lt
   have g4:=r5.lt
   have g5:=r6.lt
   have g7:=r7.lt
   have g8:=r8.lt
   have her:=Tj ps pe s 100000 i fun j hj=>q.er j (by omega)
   have hei:=q.er i hi
   refine Fl L (l1:= [(13,some (eI ((pe i:Nat):Int))),(12,some (eI ((i:Nat):Int))),(11,some (.fn (.func 101) [] [.ptr a 0,.ptr b 0])),(10,some (eI ((s:Nat):Int))),(9,some (.ptr p 0)),(6,some (.ptr (h.n+1) 0)),(5,some (.ptr h.n 0)),(4,some (eI ((0:Nat):Int))),(1,some (eI ((s:Nat):Int))),(0,some (.ptr p 0))]) hle rfl ?_
   intro Q z2 cs G
   refine wk ?_
   refine Ej L (Gk.e lkg) ?_
   have hat:=Fq ps pe s i
   have e1:Cd ps pe s (i+1)=if ps i=s∧((Cd ps pe s i).1<0∨pe i<(Cd ps pe s i).2)then(((i:Nat):Int),pe i)else Cd ps pe s i:=rfl
   generalize hc:Cd ps pe s i=ck at*
   obtain⟨ck,cl'⟩:=ck
   simp only at hat r7 r8 her e1
   by_cases hneg:ck<0
   ·rw [if_pos ⟨e,.inl hneg⟩]at e1
    refine wk ?_
    refine C8 L (Gk.e lkg) G ⟨rfl,?_⟩
    refine⟨kps,lkg,(by unfold Lr;exact Dw (by omega)),lkp,lkp,lkp,?_,?_⟩
    ·rw [e1];exact lkp
    ·rw [e1];exact lkp
   ·obtain⟨c,rfl⟩: ∃c:Nat,ck=((c:Nat):Int):=⟨ck.toNat,by omega⟩
    by_cases hlt:pe i<cl'
    ·rw [if_pos ⟨e,.inr hlt⟩]at e1
     refine wk ?_
     refine C8 L (Gk.e lkg) G ⟨rfl,?_⟩
     refine⟨kps,lkg,(by unfold Lr;exact Dw (by omega)),lkp,lkp,lkp,?_,?_⟩
     ·rw [e1];exact lkp
     ·rw [e1];exact lkp
    ·rw [if_neg (by omega)]at e1
     refine wk ?_
     refine C8 L (Gk.e lkg) G ⟨rfl,?_⟩
     refine⟨kps,lkg,(by unfold Lr;exact Dw (by omega)),lkp,lkp,lkp,?_,?_⟩
     ·rw [e1];exact lkp
     ·rw [e1];exact lkp
  ·obtain⟨r1,r2,r3,r4,r5,r6,r7,r8⟩:=r
   have e1:Cd ps pe s (i+1)=Cd ps pe s i:=by simp only [Cd];rw [if_neg (by omega)]
   exact⟨r1,r2,r3,r4,r5,r6,by rw [e1];exact r7,by rw [e1];exact r8⟩
 ·rintro v h3 ⟨r1,r2,r3,r4,r5,r6,r7,r8⟩
  have hle:=r3.e
  unfold Lr at hle
  have l5:=r2.lt
  have l7:=r7.lt
  refine F3 L (n:=h3.n) (t:=h3.t) (lh:= []) hle (by intro q;cases q) ?_
  refine wk ?_
  refine Fj L (todo:= []) ?_
  refine Fm L (by intro q;cases q) (Gk.e lkg) ?_
  refine Fk L X.f173 (Dd rfl) G ⟨rfl,kps⟩
theorem W5 (q:PoC h p pb nb ps pe cb):Ct P0 E F K 146 [.ptr p 0] h fun v h'=>
  ((Cd ps pe 1 nb).1= -1∧(∀i,i<nb→ps i≠1)∧v= .tup [eI ((0:Nat):Int),eI ((9:Nat):Int)]∧K0 h h')∨ ∃i,(Cd ps pe 1 nb).1=((i:Nat):Int)∧i<nb∧ps i=1∧v= .tup [eI ((i:Nat):Int),eI ((0:Nat):Int)]∧PoC h' p pb nb (upd ps i 2) pe (cb.set (i*2+1) (eI ((2:Nat):Int)))∧Kp (fun j=>j=p∨j=pb) h h':=by
 refine Am L X.f146 X.k146 rfl rfl fun Q x cs G=>?_
 refine wk ?_
 refine cal (c:=Kj L X q) (g:=?_)
 rintro _ rfl
 refine wk ?_
 refine cal (c:=Vc L X q (s:=1) (by omega)) (g:=?_)
 rintro _ h2 ⟨rfl,k2⟩
 rcases Fq ps pe 1 nb with⟨h1,h2'⟩|⟨i,hi,h1,h3⟩
 ·rw [h1]
  refine wk ?_
  refine ret X.f146 ?_
  exact .inl ⟨h1,h2',rfl,kps⟩
 ·rw [h1]
  refine wk ?_
  refine cal (c:=M9 L X (t:=2) (q.k0 (by exact kps)) hi (by omega)) (g:=?_)
  rintro _ h4 ⟨rfl,w1,w2⟩
  refine wk ?_
  refine ret X.f146 ?_
  exact .inr ⟨i,h1,hi,h3,rfl,w1,Kp.trS w2 (fun _ _ e=>e) kps⟩
end
end
section
variable {P0:Program}{E:Env}{F:T CFn}{K:T (List AV×AV)}(L:Lg P0 E F K)(X:Fx F K)
include L X
def pbC (pe:Nat→Nat)(n:Nat):List AV:=(List.range n).flatMap fun i=> [AI ((pe i:Nat):Int),AI ((1:Nat):Int)]
omit L X in
theorem O0 (pe:Nat→Nat)(n:Nat):pbC pe (n+1)=pbC pe n++ [AI ((pe n:Nat):Int),AI ((1:Nat):Int)]:=by simp [pbC,List.range_succ]
omit L X in
theorem Na (pe:Nat→Nat): ∀n,(pbC pe n).length=n*2
 |0=>rfl
 |n+1=>by rw [O0,List.length_append,Na pe n];show n*2+2=_;omega
omit L X in
theorem Ro (pe:Nat→Nat): ∀{n i:Nat},i<n→(pbC pe n)[i*2]?=some (AI ((pe i:Nat):Int))∧(pbC pe n)[i*2+1]?=some (AI ((1:Nat):Int))
 |n+1,i,hi=>by
  have hl:=Na pe n
  rw [O0]
  by_cases e:i=n
  ·subst e
   rw [List.getElem?_append_right (by omega),List.getElem?_append_right (by omega),hl,Nat.sub_self,show i*2+1 - i*2=1 by omega]
   exact⟨rfl,rfl⟩
  ·rw [List.getElem?_append_left (by omega),List.getElem?_append_left (by omega)]
   exact Ro pe (by omega)
omit L X in
theorem Tk (s:Nat): ∀n,cntS (fun _=>1) s n=if 1=s then n else 0
 |0=>by simp [cntS]
 |n+1=>by simp only [cntS,Tk s n];split <;> rfl
section
variable {h:H}
theorem il {n:Nat}(hn:n≤1099511627776):Ct P0 E F K 163 [AI ((n:Nat):Int)] h fun v h'=>v= .bool false∧h'=h:=by
 refine Am L X.f163 X.k163 rfl rfl fun Q x cs G=>?_
 refine wk ?_
 refine cal (c:=Th L X hn) (g:=?_)
 rintro _ rfl
 refine wk ?_
 refine ret X.f163 ?_
 exact⟨rfl,rfl⟩
theorem pc {eb nb:Nat}{pe:Nat→Nat}(hb:Bk h eb (Hq pe nb))(hnb:0<nb∧nb≤12)(he: ∀i,i<nb→pe i≤100000):
  Ct P0 E F K 133 [.slc eb 0 nb (Aa+1)] h fun v h'=> ∃p pb cb,v= .tup [.ptr p 0,AI ((0:Nat):Int)]∧PoC h' p pb nb (fun _=>1) pe cb∧h.n≤p∧h.n≤pb∧K0 h h':=by
 have lb:=hb.lt
 have hrl:=Ki pe nb
 have q:IntsR (fun _=>0) h (.slc eb 0 nb (Aa+1)) ((List.range nb).map fun i=>((pe i:Nat):Int)):=⟨.inr (.inr ⟨eb,Aa+1,by simp,by rw [List.map_map];exact hb.rk,rfl⟩)⟩
 refine Am L X.f133 X.k133 rfl rfl fun Q x cs G=>?_
 refine wk ?_
 refine cal (c:=Kh L X (f:=163) q (by simp;omega) (fun x hx h2=>by obtain⟨i,hi,rfl⟩:=List.mem_map.1 hx;exact il L X (by have:=he i (List.mem_range.1 hi);omega))) (g:=?_)
 rintro _ h2 ⟨rfl,k2⟩
 have n2:=k2.n
 refine wk ?_
 refine Co L (α:= AV) (T:=fun i _=> [(23,some (AI ((i:Nat):Int))),(22,some (AI ((nb:Nat):Int))),(21,some (.slc eb 0 nb (Aa+1))),(4,some (.ptr h2.n 0)),(0,some (.slc eb 0 nb (Aa+1)))]) (n:=nb)
  (R:=fun i v h3=>Bk h3 h2.n [v,AI ((0:Nat):Int),AI ((0:Nat):Int),AI ((0:Nat):Int),AI ((0:Nat):Int),AI ((0:Nat):Int)]∧((i=0∧v= .nils)∨(0<i∧ ∃b,v= .slc b 0 i (Aa+2)∧Bk h3 b (pbC pe i)∧h.n≤b∧b≠h2.n))∧Kp (fun j=>h.n≤j) h h3) (i0:=0) .nils tsb ⟨lkp,.inl ⟨rfl,rfl⟩,kps⟩ (Nat.zero_le _) ?_ ?_
 ·rintro i v h3 hi ⟨u0,u1,u2⟩ ih
  have hb3:=As u2 (by omega) hb
  have n3:=u2.n
  have t0:=u0.lt
  have hx:=Te pe hi
  have hpl:=Na pe i
  have t2:=hb3.lt
  rcases u1 with⟨rfl,rfl⟩|⟨hi0,b,rfl,g1,g2,g3⟩
  ·refine wk ?_
   (apply st1 L rfl;exact Ft (new:= [AI ((pe 0:Nat):Int),AI ((1:Nat):Int)]) rfl rfl (SlR.of (c:= [AI ((pe 0:Nat):Int),AI ((1:Nat):Int)]) lkp (Nat.le_refl _) rfl) (by omega) (by omega);rfl)
   refine wk ?_
   refine ih (.slc (h3.n+1) 0 1 (Aa+2)) _ _ ⟨lkp,.inr ⟨by omega,h3.n+1,rfl,?_,by omega,by omega⟩,kps⟩ tsb
   exact lkp
  ·have t1:=g1.lt
   refine wk ?_
   (apply st1 L rfl;exact Fi (old:=pbC pe i) (new:= [AI ((pe i:Nat):Int),AI ((1:Nat):Int)]) rfl rfl (SlR.of (c:=pbC pe i) lkp (by omega) (by rw [List.drop_zero,List.take_of_length_le (by omega)])) (SlR.of (c:= [AI ((pe i:Nat):Int),AI ((1:Nat):Int)]) lkp (Nat.le_refl _) rfl) (by omega) (by omega) rfl;rfl)
   refine wk ?_
   refine ih (.slc (h3.n+1) 0 (i+1) (Aa+2)) _ _ ⟨lkp,.inr ⟨by omega,h3.n+1,rfl,?_,by omega,by omega⟩,kps⟩ tsb
   rw [O0];exact lkp
 ·rintro v h3 ⟨u0,u1,u2⟩
  rcases u1 with⟨e,_⟩|⟨hi0,b,rfl,g1,g2,g3⟩
  ·omega
  ·have n3:=u2.n
   have t0:=u0.lt
   have t1:=g1.lt
   refine wk ?_
   (apply st1 L rfl;exact Gs (i:=1) rfl rfl (by omega);rfl)
   refine wk ?_
   refine ret X.f133 ?_
   refine⟨h2.n,b,pbC pe nb,rfl,⟨?_,lkp,by omega,Na pe nb,hnb,fun i hi=>(Ro pe hi).1,fun i hi=>(Ro pe hi).2,fun i hi=>by omega,he⟩,n2,g2,?_⟩
   ·refine Oi ?_ lkp
    unfold pcC
    simp only [Tk]
    rfl
   ·have k4:Kp (fun j=>h.n≤j) h (hp h3.n h3.t [(h2.n,some (cl [.slc b 0 nb (Aa+2),AI ((0:Nat):Int),AI ((nb:Nat):Int),AI ((0:Nat):Int),AI ((0:Nat):Int),AI ((0:Nat):Int)]))]):=kps
    exact k4.cut (Nat.le_refl _)
end
end
end Go.Ev
