/- Part of the proof. -/
import Derived.Test.YtgkianlpkdfhkaaGreatM16
import Derived.Test.YtgkianlpkdfhkaaGreatM15
set_option linter.unusedVariables false
set_option linter.unusedSectionVars false
set_option linter.unusedSimpArgs false
set_option maxRecDepth 10000
set_option maxHeartbeats 4000000
namespace Go.Ev
section
variable {P0:Program}{E:Env}{F:T CFn}{K:T (List AV×AV)}(L:Lg P0 E F K)(X:Fx F K)
include L X
section
variable {h:H}{I:Ai}{S:Ap}
theorem Vl:CtP P0 E F K 90 [.ptr I.s 0,.nils] h fun v h'=>v= .ifc 44 (AI ((2:Nat):Int))∧K0 h h':=by
 refine Ea L X.f90 X.k90 rfl rfl rfl fun Q x cs G=>?_
 refine wk ?_
 refine Ib L rfl rfl rfl rfl rfl (Bc L X) ?_
 rintro _ h2 ⟨rfl,rfl⟩
 refine An L X.f90 ?_
 exact G _ _ ⟨rfl,kps⟩
theorem Zb {gb cap:Nat}{l:List GW}(sk:Bk h I.s (apC I S))(mp:MpR S.S S.D.nb S.D.P h I.m I.r1 I.r2 I.vb S.A)(hsz:12≤S.D.sz∧S.D.sz<900)(kb:Bk h gb (l.flatMap (gwC S.D.sz)))(hl:l≠[])(hlen:l.length<1000):
  CtX P0 E F K 90 [.ptr I.s 0,.slc gb 0 l.length cap] h
   (fun v h'=>v= .tup []∧De S.S S.down (l.map (·.1))=0∧K0 h h')
   (fun v h'=>v= .ifc 44 (AI ((De S.S S.down (l.map (·.1)):Nat):Int))∧De S.S S.down (l.map (·.1))≠0∧K0 h h'):=by
 have hpos:=List.length_pos_iff.2 hl
 have lb:=kb.lt
 have ls:=sk.lt
 have hmS:=mp.rg
 unfold apC at sk
 refine Bu L X.f90 X.k90 rfl rfl rfl fun Q x cs G Gp=>?_
 refine wk ?_
 refine cal (c:=Ao L X) (g:=?_)
 rintro _ rfl
 refine wk ?_
 refine Co L (α:= List (Int×AV×Nat)×Nat) (T:=fun i _=> [(16,some (AI ((i:Nat):Int))),(15,some (AI ((l.length:Nat):Int))),(14,some (.slc gb 0 l.length cap)),(4,some (.map h.n)),(1,some (.slc gb 0 l.length cap)),(0,some (.ptr I.s 0))]) (n:=l.length)
  (R:=fun i s hh=>K0 h hh∧Mk hh h.n (s.1.map (mE AI)) s.2∧MOk s.1 s.2∧((l.map (·.1)).take i).Nodup∧ ∀k:Int,Bo s.1 k=if k∈(l.map (·.1)).take i then some (AI ((1:Nat):Int))else none) (i0:=0) ([],0) tsb
  ⟨kps,lkq,MOk.nil,by simp,fun k=>by simp [Bo]⟩ (Nat.zero_le _) ?_ ?_
 ·rintro i ⟨M,ck⟩ hh hi ⟨k1,m1,m2,nd,m3⟩ ih
  simp only at m1 m2 m3
  have sk1:=Ah k1 sk
  have kb1:=Ah k1 kb
  have ls1:=sk1.lt
  have lb1:=kb1.lt
  have lm1:=m1.lt
  have hx:l[i]?=some l[i]:=List.getElem?_eq_getElem hi
  have hdt:=E0 l (I1 (sz:=S.D.sz) l) i _ hx
  have htk:(l.map (·.1)).take (i+1)=(l.map (·.1)).take i++ [l[i].1]:=by
   rw [List.take_add_one,List.getElem?_map,hx];rfl
  clear kb sk
  generalize hxe:l[i]=xx at*
  obtain⟨s,q⟩:=xx
  have hg:=m3 s
  have dup:s∈(l.map (·.1)).take i→ ¬(l.map (·.1)).Nodup:=fun hin nn=>by
   have h1:=nn.sublist (List.take_sublist (i+1) _)
   rw [htk,List.nodup_append]at h1
   exact h1.2.2 s hin s (List.mem_singleton_self _) rfl
  rcases q with _|⟨b,o,c⟩
  ·have hdt':i*2+2≤(l.flatMap (gwC S.D.sz)).length∧((l.flatMap (gwC S.D.sz)).drop (i*2)).take 2= [AI s,.nils]:=hdt
   clear hdt
   refine wk ?_
   (apply st1 L rfl;exact Br kb1.rk hdt' rfl;rfl)
   refine wk ?_
   refine cal (c:=Ao L X) (g:=?_)
   rintro _ rfl
   refine wk ?_
   (apply st1 L rfl;exact Dy (KE.int .i64) rfl rfl lkq;rfl)
   by_cases hin:s∈(l.map (·.1)).take i
   ·rw [hg,if_pos hin,Option.getD_some]
    refine wk ?_
    (apply Jj L rfl;exact Hb (KE.int .i64) m2 rfl rfl rfl lkq;rfl)
    refine wk ?_
    (apply st1 L rfl;exact Dy (KE.int .i64) rfl rfl lkq;rfl)
    rw [Cu,if_pos rfl,Option.getD_some]
    refine wk ?_
    refine Ib L rfl rfl rfl rfl rfl (Bc L X) ?_
    rintro _ h2 ⟨rfl,rfl⟩
    refine An L X.f90 ?_
    have e2:De S.S S.down (l.map (·.1))=2:=by unfold De;rw [if_pos (.inr (dup hin))]
    refine Gp _ _ ⟨by rw [e2],by rw [e2];simp,?_⟩
    exact Kp.trS (S':=fun j=>j=h.n) kps (fun i hi e=>by omega) k1
   ·rw [hg,if_neg hin,Option.getD_none]
    refine wk ?_
    (apply Jj L rfl;exact Hb (KE.int .i64) m2 rfl rfl rfl lkq;rfl)
    refine wk ?_
    (apply st1 L rfl;exact Dy (KE.int .i64) rfl rfl lkq;rfl)
    rw [Cu,if_pos rfl,Option.getD_some]
    refine wk ?_
    refine cal (c:=Ao L X) (g:=?_)
    rintro _ rfl
    refine wk ?_
    refine ih (Dp M ck s (AI ((1:Nat):Int)),mCk M ck s) _ _ ⟨?_,?_,m2.set _ _,?_,fun k=>?_⟩ tsb
    ·exact Kp.trS (S':=fun j=>j=h.n) kps (fun i hi e=>by omega) k1
    ·exact lkq
    ·rw [htk];exact Jp nd hin
    ·rw [Cu,htk,m3]
     by_cases e:k=s
     ·subst e;rw [if_pos rfl,if_pos (by simp)]
     ·rw [if_neg e]
      by_cases e2:k∈(l.map (·.1)).take i
      ·rw [if_pos e2,if_pos (by simp [e2])]
      ·rw [if_neg e2,if_neg (by simp [e2,e])]
  ·have hdt':i*2+2≤(l.flatMap (gwC S.D.sz)).length∧((l.flatMap (gwC S.D.sz)).drop (i*2)).take 2= [AI s,.slc b o S.D.sz c]:=hdt
   clear hdt
   refine wk ?_
   (apply st1 L rfl;exact Br kb1.rk hdt' rfl;rfl)
   refine wk ?_
   refine cal (c:=Ao L X) (g:=?_)
   rintro _ rfl
   refine wk ?_
   (apply st1 L rfl;exact Dy (KE.int .i64) rfl rfl lkq;rfl)
   by_cases hin:s∈(l.map (·.1)).take i
   ·rw [hg,if_pos hin,Option.getD_some]
    refine wk ?_
    (apply Jj L rfl;exact Hb (KE.int .i64) m2 rfl rfl rfl lkq;rfl)
    refine wk ?_
    (apply st1 L rfl;exact Dy (KE.int .i64) rfl rfl lkq;rfl)
    rw [Cu,if_pos rfl,Option.getD_some]
    refine wk ?_
    refine Ib L rfl rfl rfl rfl rfl (Bc L X) ?_
    rintro _ h2 ⟨rfl,rfl⟩
    refine An L X.f90 ?_
    have e2:De S.S S.down (l.map (·.1))=2:=by unfold De;rw [if_pos (.inr (dup hin))]
    refine Gp _ _ ⟨by rw [e2],by rw [e2];simp,?_⟩
    exact Kp.trS (S':=fun j=>j=h.n) kps (fun i hi e=>by omega) k1
   ·rw [hg,if_neg hin,Option.getD_none]
    refine wk ?_
    (apply Jj L rfl;exact Hb (KE.int .i64) m2 rfl rfl rfl lkq;rfl)
    refine wk ?_
    (apply st1 L rfl;exact Dy (KE.int .i64) rfl rfl lkq;rfl)
    rw [Cu,if_pos rfl,Option.getD_some]
    refine wk ?_
    refine cal (c:=Ao L X) (g:=?_)
    rintro _ rfl
    refine wk ?_
    refine ih (Dp M ck s (AI ((1:Nat):Int)),mCk M ck s) _ _ ⟨?_,?_,m2.set _ _,?_,fun k=>?_⟩ tsb
    ·exact Kp.trS (S':=fun j=>j=h.n) kps (fun i hi e=>by omega) k1
    ·exact lkq
    ·rw [htk];exact Jp nd hin
    ·rw [Cu,htk,m3]
     by_cases e:k=s
     ·subst e;rw [if_pos rfl,if_pos (by simp)]
     ·rw [if_neg e]
      by_cases e2:k∈(l.map (·.1)).take i
      ·rw [if_pos e2,if_pos (by simp [e2])]
      ·rw [if_neg e2,if_neg (by simp [e2,e])]
 ·rintro⟨M,ck⟩ hh ⟨k1,m1,m2,nd,m3⟩
  simp only at m1 m2 m3
  rw [List.take_of_length_le (by simp)]at nd
  have sk1:=Ah k1 sk
  have kb1:=Ah k1 kb
  have sk0:=sk
  have kb0:=kb
  clear kb sk
  refine wk ?_
  refine Co L (α:= Unit) (T:=fun i _=> [(50,some (AI ((i:Nat):Int))),(49,some (AI ((l.length:Nat):Int))),(48,some (.slc gb 0 l.length cap)),(0,some (.ptr I.s 0))]) (n:=l.length)
   (R:=fun i _ h2=>K0 h h2∧ ∀j x,j<i→l[j]?=some x→0≤x.1∧x.1<((S.S:Nat):Int)) (i0:=0) () tsb
   ⟨k1.trans kps,fun j x hj=>by omega⟩ (Nat.zero_le _) ?_ ?_
  ·rintro i _ h3 hi ⟨k2,ok⟩ ih
   have sk3:=Ah k2 sk0
   have kb3:=Ah k2 kb0
   have ls3:=sk3.lt
   have lb3:=kb3.lt
   have hx:l[i]?=some l[i]:=List.getElem?_eq_getElem hi
   have hdt:=E0 l (I1 (sz:=S.D.sz) l) i _ hx
   clear sk1 kb1
   generalize hxe:l[i]=xx at*
   obtain⟨s,q⟩:=xx
   have bad:(s<0∨((S.S:Nat):Int)≤s)→De S.S S.down (l.map (·.1))=3:=fun hq=>by
    unfold De
    rw [if_neg (by rintro(q|q);exact hl (List.map_eq_nil_iff.1 q);exact q nd),if_pos ⟨s,List.mem_map.2 ⟨_,List.mem_of_getElem? hx,rfl⟩,hq⟩]
   rcases q with _|⟨b,o,c⟩
   ·have hdt':i*2+2≤(l.flatMap (gwC S.D.sz)).length∧((l.flatMap (gwC S.D.sz)).drop (i*2)).take 2= [AI s,.nils]:=hdt
    clear hdt
    by_cases c1:s<0
    ·refine wk ?_
     (apply st1 L rfl;exact Br kb3.rk hdt' rfl;rfl)
     refine wk ?_
     refine Gb L rfl rfl rfl rfl rfl (Bc L X) ?_
     rintro _ h4 ⟨rfl,rfl⟩
     refine An L X.f90 ?_
     have e2:=bad (.inl c1)
     exact Gp _ _ ⟨by rw [e2],by rw [e2];simp,k2.trans kps⟩
    by_cases c2:s<((S.S:Nat):Int)
    ·refine wk ?_
     (apply st1 L rfl;exact Br kb3.rk hdt' rfl;rfl)
     refine wk ?_
     refine cal (c:=C9 L X (mp.k0 (k2.trans kps))) (g:=?_)
     rintro _ rfl
     refine wk ?_
     refine cal (c:=Ao L X) (g:=?_)
     rintro _ rfl
     refine wk ?_
     refine ih () _ _ ⟨?_,fun j x hj e=>?_⟩ tsb
     ·exact k2.trans kps
     ·rcases Nat.lt_succ_iff_lt_or_eq.1 hj with q|q
      ·exact ok j x q e
      ·subst q;rw [hx]at e;cases e;exact⟨by show 0≤s;omega,c2⟩
    ·refine wk ?_
     (apply st1 L rfl;exact Br kb3.rk hdt' rfl;rfl)
     refine wk ?_
     refine cal (c:=C9 L X (mp.k0 (k2.trans kps))) (g:=?_)
     rintro _ rfl
     refine wk ?_
     refine Gb L rfl rfl rfl rfl rfl (Bc L X) ?_
     rintro _ h4 ⟨rfl,rfl⟩
     refine An L X.f90 ?_
     have e2:=bad (.inr (by omega))
     exact Gp _ _ ⟨by rw [e2],by rw [e2];simp,k2.trans kps⟩
   ·have hdt':i*2+2≤(l.flatMap (gwC S.D.sz)).length∧((l.flatMap (gwC S.D.sz)).drop (i*2)).take 2= [AI s,.slc b o S.D.sz c]:=hdt
    clear hdt
    by_cases c1:s<0
    ·refine wk ?_
     (apply st1 L rfl;exact Br kb3.rk hdt' rfl;rfl)
     refine wk ?_
     refine Gb L rfl rfl rfl rfl rfl (Bc L X) ?_
     rintro _ h4 ⟨rfl,rfl⟩
     refine An L X.f90 ?_
     have e2:=bad (.inl c1)
     exact Gp _ _ ⟨by rw [e2],by rw [e2];simp,k2.trans kps⟩
    by_cases c2:s<((S.S:Nat):Int)
    ·refine wk ?_
     (apply st1 L rfl;exact Br kb3.rk hdt' rfl;rfl)
     refine wk ?_
     refine cal (c:=C9 L X (mp.k0 (k2.trans kps))) (g:=?_)
     rintro _ rfl
     refine wk ?_
     refine cal (c:=Ao L X) (g:=?_)
     rintro _ rfl
     refine wk ?_
     refine ih () _ _ ⟨?_,fun j x hj e=>?_⟩ tsb
     ·exact k2.trans kps
     ·rcases Nat.lt_succ_iff_lt_or_eq.1 hj with q|q
      ·exact ok j x q e
      ·subst q;rw [hx]at e;cases e;exact⟨by show 0≤s;omega,c2⟩
    ·refine wk ?_
     (apply st1 L rfl;exact Br kb3.rk hdt' rfl;rfl)
     refine wk ?_
     refine cal (c:=C9 L X (mp.k0 (k2.trans kps))) (g:=?_)
     rintro _ rfl
     refine wk ?_
     refine Gb L rfl rfl rfl rfl rfl (Bc L X) ?_
     rintro _ h4 ⟨rfl,rfl⟩
     refine An L X.f90 ?_
     have e2:=bad (.inr (by omega))
     exact Gp _ _ ⟨by rw [e2],by rw [e2];simp,k2.trans kps⟩
  ·rintro _ h3 ⟨k2,ok⟩
   have sk3:=Ah k2 sk0
   have hc:De S.S S.down (l.map (·.1))=if S.down=true then 50 else 0:=by
    unfold De
    rw [if_neg (by rintro(q|q);exact hl (List.map_eq_nil_iff.1 q);exact q nd),if_neg]
    rintro⟨s,hs,hq⟩
    obtain⟨x,hx,rfl⟩:=List.mem_map.1 hs
    obtain⟨j,hj⟩:=List.mem_iff_getElem?.1 hx
    have:=ok j x (List.getElem?_eq_some_iff.1 hj).1 hj
    omega
   rw [hc]at G Gp
   clear sk1 kb1
   cases hd:S.down with
   |false=>
    rw [hd]at sk3 G
    refine wk ?_
    refine cal (c:=Ao L X) (g:=?_)
    rintro _ rfl
    refine wk ?_
    refine ret X.f90 ?_
    exact⟨rfl,rfl,k2.trans kps⟩
   |true=>
    rw [hd]at sk3 Gp
    refine wk ?_
    refine Ib L rfl rfl rfl rfl rfl (Bc L X) ?_
    rintro _ h4 ⟨rfl,rfl⟩
    refine An L X.f90 ?_
    exact Gp _ _ ⟨rfl,by simp,k2.trans kps⟩
end
end
section
variable {P0:Program}{E:Env}{F:T CFn}{K:T (List AV×AV)}(L:Lg P0 E F K)(X:Fx F K)
include L X
section
variable {h:H}
theorem Vm {Q:Nat→AV→Prop}{nt:Nat}{l:List (Nat×Option AV)}{todo:List AItem}{z:AFr}{cs:List AFr}{b4:Nat}{e:Int}{x0:AV}{post:AV→H→Prop}(t4:look l 4=some (.ptr b4 0))
  (k4:Bk h b4 [x0]) (hG: ∀v h',post v h'→GO P0 E Q (finish v cs h' z)) (hp1: ∀h',Kp (fun j=>j=b4) h h'→post (AI e) h'):
  Good P0 E Q ⟨⟨42,nt,tms l,todo,[.call 98 [.ptr b4 0]],.panicking [(.ifc 44 (AI e),false)],false,none⟩,z::cs,h⟩:=by
 have l4:=k4.lt
 refine Hc L (by intro q;cases q) X.f98 rfl rfl rfl ?_
 refine Uy L rfl ?_
 refine wk ?_
 refine Rl L X.f98 rfl ?_
 refine Fk L X.f42 (F1 t4 (Bk.e lkp) rfl Ml) hG (hp1 _ kps)
theorem iv {Q:Nat→AV→Prop}{nt:Nat}{l:List (Nat×Option AV)}{todo:List AItem}{z:AFr}{cs:List AFr}{b4:Nat}{x0:AV}{post:AV→H→Prop}(t4:look l 4=some (.ptr b4 0))
  (k4:Bk h b4 [x0]) (hG: ∀v h',post v h'→GO P0 E Q (finish v cs h' z)) (hp1:post x0 h):
  Good P0 E Q ⟨⟨42,nt,tms l,todo,[.call 98 [.ptr b4 0]],.returning,false,none⟩,z::cs,h⟩:=by
 have l4:=k4.lt
 refine Hc L (by intro q;cases q) X.f98 rfl rfl rfl ?_
 refine Ic L rfl ?_
 refine wk ?_
 (apply st1 L rfl;exact Re (k:=true) rfl rfl;rfl)
 refine wk ?_
 refine Rl L X.f98 rfl ?_
 refine Fk L X.f42 (F1 t4 (Bk.e lkp) rfl Ml) hG hp1
theorem vt {ab f s:Nat}{cp:List AV}{post pan:AV→H→Prop}{B:Nat→Prop}(ka:Bk h ab [.ptr s 0])(hc:CtX P0 E F K f (.ptr s 0::cp) (hp (h.n+1) h.t [(h.n,some (cl [AI ((0:Nat):Int)]))]) post pan)(hB: ¬B h.n)
  (hq: ∀v h',post v h'→Kp B (hp (h.n+1) h.t [(h.n,some (cl [AI ((0:Nat):Int)]))]) h')
  (hpn: ∀v h',pan v h'→(∃e:Int,v= .ifc 44 (AI e))∧Kp B (hp (h.n+1) h.t [(h.n,some (cl [AI ((0:Nat):Int)]))]) h'):
  Ct P0 E F K 42 [.ptr ab 0,.fn (.func f) [] cp] h
   (fun v h'=>(v=AI ((0:Nat):Int)∧ ∃u h1,post u h1∧Kp (fun j=>j=h.n) h1 h')∨(∃(e:Int) (h1:H),v=AI e∧pan (.ifc 44 (AI e)) h1∧Kp (fun j=>j=h.n) h1 h')):=by
 have lk:=ka.lt
 refine Ae L X.f42 X.k42 rfl rfl fun Q x cs G=>?_
 refine wk ?_
 refine On L rfl rfl rfl rfl ?_
 refine wk ?_
 refine io L (fst:= []) (cp:=cp) (va:= [.ptr s 0]) (r0:= .ptr s 0::cp) ?_ ?_ ?_ ?_ ?_ hc ?_ ?_
 ·rfl
 ·rfl
 ·rfl
 ·rfl
 ·rfl
 ·intro u h1 hu
  have k1:=hq u h1 hu
  have kb1:Bk h1 h.n [AI ((0:Nat):Int)]:=As k1 hB lkp
  have lb1:=kb1.lt
  refine wk ?_
  refine Fj L (todo:= []) ?_
  refine iv L X (b4:=h.n) (x0:=AI ((0:Nat):Int)) rfl lkp G (.inl ⟨rfl,u,h1,hu,kps⟩)
 ·intro u h1 hu
  obtain⟨⟨e,rfl⟩,k1⟩:=hpn u h1 hu
  have kb1:Bk h1 h.n [AI ((0:Nat):Int)]:=As k1 hB lkp
  refine Vm L X (b4:=h.n) rfl kb1 G fun h' k=> .inr ⟨e,h1,rfl,hu,k⟩
end
end
section
variable {P0:Program}{E:Env}{F:T CFn}{K:T (List AV×AV)}(L:Lg P0 E F K)(X:Fx F K)
include L X
omit L X in
structure FrS (S S':Ap):Prop where
 nb:S'.D.nb=S.D.nb
 P:S'.D.P=S.D.P
 sz:S'.D.sz=S.D.sz
 en:S'.D.en=S.D.en
 secs:S'.S=S.S
 A:S'.A=S.A
 last:S'.last=S.last
 pe:S'.pe=S.pe
 log:S'.log=S.log
 flt:S'.D.flt=S.D.flt
omit L X in
theorem FrS.refl (S:Ap):FrS S S:=⟨rfl,rfl,rfl,rfl,rfl,rfl,rfl,rfl,rfl,rfl⟩
omit L X in
theorem FrS.trans {S S1 S2:Ap}(a:FrS S S1)(b:FrS S1 S2):FrS S S2:=
 ⟨b.nb.trans a.nb,b.P.trans a.P,b.sz.trans a.sz,b.en.trans a.en,b.secs.trans a.secs,b.A.trans a.A,b.last.trans a.last,b.pe.trans a.pe,b.log.trans a.log,b.flt.trans a.flt⟩
omit L X in
theorem StP.fr {sec:Int}{data:List Nat}{S S':Ap}{o:WO}(h:StP sec data S S' o)(iw:IW S):FrS S S'∧IW S'∧S'.D.n≤S.D.n+2*S.D.nb+2∧S'.next=S.next+1:=by
 have iw4:IW {S with next:=S.next+1}:=⟨fun k=>⟨(iw.wi k).sel,(iw.wi k).lo⟩,iw.ne⟩
 have m:muW {S with next:=S.next+1} false≤2*S.D.nb+1:=Lv _ _
 cases h with
 |ok h=>
  have f:=h.fr
  obtain⟨a,b⟩:=h.iw iw4
  exact⟨⟨f.nb,f.P,f.sz,f.en,f.secs,f.A,f.last,f.pe,f.o,f.flt⟩,⟨fun k=>⟨(a.wi k).sel,(a.wi k).lo⟩,a.ne⟩,by simp only at b ⊢;omega,f.next⟩
 |bad h _=>
  have f:=h.fr
  obtain⟨a,b⟩:=h.iw iw4
  exact⟨⟨f.nb,f.P,f.sz,f.en,f.secs,f.A,f.last,f.pe,f.o,f.flt⟩,a,by simp only at b ⊢;omega,f.next⟩
inductive AppP:List (Int×Option (List Nat))→Ap→List Ent→Ap→WO→Prop where
 |nil {S:Ap}:AppP [] S [] S (.done 0)
 |put {sec:Int} {data:List Nat} {l:List (Int×Option (List Nat))} {S S1 S':Ap} {p:Nat} {es:List Ent} {o:WO} (h:StP sec data S S1 (.done p)) (r:AppP l S1 es S' o):AppP ((sec,some data)::l) S ((sec,((p:Nat):Int))::es) S' o
 |bad {sec:Int} {data:List Nat} {l:List (Int×Option (List Nat))} {S S1:Ap} {o:WO} (h:StP sec data S S1 o) (ho:o= .full∨o= .pow):AppP ((sec,some data)::l) S [] S1 o
 |trim {sec:Int} {l:List (Int×Option (List Nat))} {S S':Ap} {es:List Ent} {o:WO} (h:S.A sec≠none) (r:AppP l S es S' o):AppP ((sec,none)::l) S ((sec,-1)::es) S' o
 |skip {sec:Int} {l:List (Int×Option (List Nat))} {S S':Ap} {es:List Ent} {o:WO} (h:S.A sec=none) (r:AppP l S es S' o):AppP ((sec,none)::l) S es S' o
inductive ApdP (l:List (Int×Option (List Nat))):Ap→Ap→WO→Prop where
 |ok {S S1 S2:Ap} {es:List Ent} (a:AppP l S es S1 (.done 0)) (c:CmP es S1 S2 (.done 0)):ApdP l S S2 (.done 0)
 |bad {S S1:Ap} {es:List Ent} {o:WO} (a:AppP l S es S1 o) (ho:o= .full∨o= .pow):ApdP l S S1 o
 |bad2 {S S1 S2:Ap} {es:List Ent} {o:WO} (a:AppP l S es S1 (.done 0)) (c:CmP es S1 S2 o) (ho:o= .full∨o= .pow):ApdP l S S2 o
def gpl (δ: Nat→List Nat)(l:List GW):List (Int×Option (List Nat)):=l.map fun x=>(x.1,x.2.map fun q=>δ q.1)
omit L X in
theorem Km {sz n:Nat}(hsz:12≤sz):cntJ sz n≤n+1:=by
 unfold cntJ mostJ
 have hm:1≤(sz - 4) / 8:=by omega
 generalize (sz - 4) / 8=m at*
 rcases Nat.eq_zero_or_pos n with rfl|hn
 ·rw [Nat.div_eq_of_lt (by omega)];simp
 ·rw [show n+m - 1=(n - 1)+m by omega,Nat.add_div_right _ (by omega)]
  have:=Nat.div_le_self (n - 1) m
  omega
omit L X in
theorem ApR.own {κ κ':Nat→Nat}{h h':H}{I:Ai}{S:Ap}{B:Nat→Prop}(q:ApR κ h I S)(k:Kp B h h')(hb: ∀b,b<h.n→B b→200≤κ b)(hc: ∀b,b<h.n→κ' b=κ b):ApR κ' h' I S:=
 (q.k0 (Kp.refl _) hc).out k fun b hl e=>by rw [hc b hl];exact hb b hl e
omit L X in
theorem AChg.own {κ κ1 κ':Nat→Nat}{h h1 h':H}{B:Nat→Prop}(a:AChg κ h κ1 h1)(k:Kp B h1 h')(hb: ∀b,B b→h.n≤b)(hc: ∀b,b<h1.n→κ' b=κ1 b):AChg κ h κ' h':=
 ⟨Kp.trS k (fun i hi e=>by have:=hb i e;omega) a.k,fun b hl=>(hc b (Nat.lt_of_lt_of_le hl a.k.n)).trans (a.col b hl)⟩
omit L X in
theorem EL.blt {h:H}{lo b n c:Nat}{l:List Ent}(q:EL h lo (.slc b 0 n c) l):b<h.n∧lo≤b:=by
 rcases q.ex with⟨_,e⟩|⟨_,b',e,h4,h5⟩
 ·cases e
 ·cases e;exact⟨h4.lt,h5⟩
end
section
variable {P0:Program}{E:Env}{F:T CFn}{K:T (List AV×AV)}(L:Lg P0 E F K)(X:Fx F K)
include L X
theorem Rq {h:H}{S nb P m r1 r2 vb:Nat}{A:Int→Option Int}(q:MpR S nb P h m r1 r2 vb A){s:Int}(e:A s=none):Ct P0 E F K 91 [.ptr m 0,AI s] h fun v h'=>v= .tup [AI ((0:Nat):Int),.bool false]∧h'=h:=
 (ig L X q).mono fun v h' q=>⟨by rw [q.1,e],q.2⟩
theorem Rr {h:H}{S nb P m r1 r2 vb:Nat}{A:Int→Option Int}(q:MpR S nb P h m r1 r2 vb A){s p:Int}(e:A s=some p):Ct P0 E F K 91 [.ptr m 0,AI s] h fun v h'=>v= .tup [AI p,.bool true]∧h'=h:=
 (ig L X q).mono fun v h' q=>⟨by rw [q.1,e],q.2⟩
omit L X in
theorem Kn {S:Nat}{d:Bool}{l:List Int}(h:De S d l=0): ∀s∈l,0≤s∧s<S:=by
 intro s hs
 unfold De at h
 split at h
 ·cases h
 ·split at h
  ·cases h
  ·rename_i hn
   constructor
   ·exact Int.not_lt.1 fun c=>hn ⟨s,hs,.inl c⟩
   ·exact Int.not_le.1 fun c=>hn ⟨s,hs,.inr c⟩
section
variable {h:H}{κ: Nat→Nat}{I:Ai}{S:Ap}
theorem Vn {cb:Nat}(kc:Bk h cb [.nils]):CtP P0 E F K 89 [.ptr I.s 0,.ptr cb 0] h fun v h'=>v= .ifc 44 (AI ((2:Nat):Int))∧K0 h h':=by
 have lc:=kc.lt
 refine Ea L X.f89 X.k89 rfl rfl rfl fun Q x cs G=>?_
 refine wk ?_
 (apply st1 L rfl;exact ib rfl rfl rfl;rfl)
 refine wk ?_
 refine Ib L rfl rfl rfl rfl rfl (Vl (I:=I) L X) ?_
 rintro _ h2 ⟨rfl,k2⟩
 refine An L X.f89 ?_
 exact G _ _ ⟨rfl,kps⟩
theorem Vo {cb gb:Nat}{l:List GW}{δ: Nat→List Nat}(T:Tb P0 E F K)(r:ApR κ h I S)(iw:IW S)(hS:S.S<1000)(kc:Bk h cb [.slc gb 0 l.length (Aa+2)])(kb:Bk h gb (l.flatMap (gwC S.D.sz)))(hcc:κ cb=0∧κ gb=0)(hl:l≠[])(hlen:l.length≤10)
  (hD: ∀(i:Nat) (s:Int) (b o c:Nat),l[i]?=some (s,some (b,o,c))→BS h b o (δ b)∧κ b=0∧(δ b).length=S.D.sz)
  (hf:S.last<S.next∧S.next<10000000) (hn:S.D.n+1000<100000)
  (hA:De S.S S.down (l.map (·.1))=0→ ∀es S',AppP (gpl δ l) S es S' (.done 0)→ ∀j x,es[j]?=some x→okE S.S (S.D.nb*S.D.P) (stA S.A es j) x):
  CtX P0 E F K 89 [.ptr I.s 0,.ptr cb 0] h
   (fun v h'=>De S.S S.down (l.map (·.1))=0∧ ∃S' κ',ApdP (gpl δ l) S S' (.done 0)∧ApR κ' h' I S'∧AChg κ h κ' h')
   (fun v h'=>(v= .ifc 44 (AI ((De S.S S.down (l.map (·.1)):Nat):Int))∧De S.S S.down (l.map (·.1))≠0∧ ∃κ',ApR κ' h' I S∧AChg κ h κ' h')∨
    (De S.S S.down (l.map (·.1))=0∧ ∃(o:WO) (S':Ap) (κ':Nat→Nat),v= .ifc 44 (AI ((eOf o:Nat):Int))∧(o= .full∨o= .pow)∧ApdP (gpl δ l) S S' o∧ApR κ' h' I S'∧AChg κ h κ' h')):=by
 have lc:=kc.lt
 have lb:=kb.lt
 have hsz:=r.dv.ok.g.sz
 have hlt:=r.lt
 have hcapn:l.length<Aa:=by simp only [Aa];omega
 refine Bu L X.f89 X.k89 rfl rfl rfl fun Q x cs G Gp=>?_
 refine wk ?_
 refine Hg L (c:=Zb (cap:=l.length) L X (Ah (by exact kps) r.sk) (r.mp.k0 (by exact kps)) ⟨hsz.1,by omega⟩ (Ah (by exact kps) kb) hl (by omega)) (g:=?_) (gp:=?_)
 ·rintro _ h2 ⟨rfl,hchk,k2⟩
  have r2:ApR (ext κ h.n) h2 I S:=r.k0 k2 fun b hb=>Af hb
  have a2:AChg κ h (ext κ h.n) h2:=AChg.k0 k2 fun b hb=>Af hb
  have kc2:Bk h2 cb [.slc gb 0 l.length (Aa+2)]:=Ah k2 kc
  have hrg:=Kn hchk
  have hgl:(gpl δ l).length=l.length:=by unfold gpl;rw [List.length_map]
  refine wk ?_
  refine Co L (α:= Ap×(Nat→Nat)×AV×List Ent) (T:=fun i s=> [(18,some (AI ((i:Nat):Int))),(17,some (AI ((l.length:Nat):Int))),(16,some (.slc gb 0 l.length (Aa+2))),(3,some s.2.2.1),(0,some (.ptr I.s 0))]) (n:=l.length)
   (R:=fun i s hh=>ApR s.2.1 hh I s.1∧AChg κ h s.2.1 hh∧IW s.1∧FrS S s.1∧(s.1.next≤S.next+i∧S.next≤s.1.next)∧s.1.D.n+30*(l.length - i)+600<100000∧EL hh h.n s.2.2.1 s.2.2.2∧(∀b n c,s.2.2.1= .slc b 0 n c→s.2.1 b=200)∧s.2.2.2.length≤i∧(∀es'' S'' o,AppP ((gpl δ l).drop i) s.1 es'' S'' o→AppP (gpl δ l) S (s.2.2.2++es'') S'' o)) (i0:=0) (S,ext κ h.n,.nils,[]) tsb
   ⟨r2.k0 (by exact kps) fun _ _=>rfl,a2.trans (AChg.k0 (by exact kps) fun _ _=>rfl),iw,FrS.refl _,⟨by simp only;omega,Nat.le_refl _⟩,by simp only;omega,EL.nil _ _,(by intro b n c e;cases e),Nat.le_refl _,(by intro es'' S'' o q;exact q)⟩ (Nat.zero_le _) ?_ ?_
  ·rintro i ⟨Si,κi,ev,es⟩ hh hi ⟨ri,ai,iwi,fri,hnx,hbi,el,hev,hel,chi⟩ ih
   simp only at ri ai iwi fri hnx hbi el hev hel chi
   have kbi:Bk hh gb (l.flatMap (gwC S.D.sz)):=As ai.k (by omega) kb
   have lbi:=kbi.lt
   have hnn:=ai.k.n
   have ski:=ri.sk
   have lsi:=ski.lt
   have hlti:=ri.lt
   have hnbi:=ri.dv.ok.g.nb
   have hcoli:=ri.col
   have hx:l[i]?=some l[i]:=List.getElem?_eq_getElem hi
   have hdt:=E0 l (I1 (sz:=S.D.sz) l) i _ hx
   have hg:(gpl δ l)[i]?=some (l[i].1,l[i].2.map fun q=>δ q.1):=by unfold gpl;rw [List.getElem?_map,hx];rfl
   have hdrop:(gpl δ l).drop i=(l[i].1,l[i].2.map fun q=>δ q.1)::(gpl δ l).drop (i+1):=by
    have hlt:i<(gpl δ l).length:=by omega
    rw [List.drop_eq_getElem_cons hlt]
    rw [List.getElem?_eq_getElem hlt]at hg
    rw [Option.some.inj hg]
   have hs:=hrg l[i].1 (List.mem_map_of_mem (List.getElem_mem hi))
   have hDi:=hD i
   clear hg
   generalize hxe:l[i]=xx at*
   obtain⟨s,q⟩:=xx
   simp only at hs hdrop
   unfold apC at ski
   rcases q with _|⟨b,o,c⟩
   ·have hdt':i*2+2≤(l.flatMap (gwC S.D.sz)).length∧((l.flatMap (gwC S.D.sz)).drop (i*2)).take 2= [AI s,.nils]:=hdt
    clear hdt
    cases hAs:Si.A s with
    |none=>
     refine wk ?_
     (apply st1 L rfl;exact Br kbi.rk hdt' rfl;rfl)
     refine wk ?_
     refine cal (c:=Rq L X (ri.mp.k0 (by exact kps)) hAs) (g:=?_)
     rintro _ rfl
     refine wk ?_
     refine ih (Si,ext κi hh.n,ev,es) _ _ ⟨ri.k0 ?_ fun b hb=>Af hb,ai.trans (AChg.k0 ?_ fun b hb=>Af hb),iwi,fri,⟨by simp only;omega,hnx.2⟩,by simp only;omega,el.k0 ?_,fun b n c e=>?_,by simp only;omega,fun es'' S'' o q=>chi _ _ _ ?_⟩ tsb
     ·exact kps
     ·exact kps
     ·exact kps
     ·have h200:=hev b n c e
      simp only at e
      subst e
      exact(Af el.blt.1).trans h200
     ·rw [hdrop];exact .skip hAs q
    |some p=>
     refine wk ?_
     (apply st1 L rfl;exact Br kbi.rk hdt' rfl;rfl)
     refine wk ?_
     refine cal (c:=Rr L X (ri.mp.k0 (by exact kps)) hAs) (g:=?_)
     rintro _ rfl
     have chi': ∀es'' S'' o,AppP ((gpl δ l).drop (i+1)) Si es'' S'' o→AppP (gpl δ l) S ((es++ [(s,-1)])++es'') S'' o:=fun es'' S'' o q=>by
      rw [List.append_assoc];exact chi _ _ _ (by rw [hdrop];exact .trim (by rw [hAs];simp) q)
     rcases el.len with⟨e0,rfl⟩|⟨hpos,b,rfl,hb,hblo⟩
     ·subst e0
      refine wk ?_
      (apply st1 L rfl;exact Ft (new:=Ay (s,-1)) rfl rfl (SlR.of (c:=Ay (s,-1)) lkp (Nat.le_refl _) rfl) (by omega) (by omega);rfl)
      refine wk ?_
      refine ih (Si,upd (ext κi hh.n) (hh.n+2) 200,.slc (hh.n+2) 0 1 (Aa+2),[(s,-1)]) _ _ ⟨ri.own (B:=fun _=>False) ?_ (fun b _ e=>e.elim) fun b hb=>(upd_ne _ _ (by omega)).trans (Af hb),ai.own (B:=fun _=>False) ?_ (fun b e=>e.elim) fun b hb=>(upd_ne _ _ (by omega)).trans (Af hb),iwi,fri,⟨by simp only;omega,hnx.2⟩,by simp only;omega,EL.app (l:= []) ?_ (by omega) rfl,fun b n c e=>?_,by simp,chi'⟩ tsb
      ·exact kps
      ·exact kps
      ·exact lkp
      ·cases e;exact upd_eq _ _ _
     ·have hlb:=hb.lt
      have h200:=hev b _ _ rfl
      refine wk ?_
      (apply st1 L rfl;exact Fi (old:=es.flatMap Ay) (new:=Ay (s,-1)) rfl rfl (SlR.of (c:=es.flatMap Ay) lkp (by rw [A4];omega) (by rw [List.drop_zero,List.take_of_length_le (by rw [A4];exact Nat.le_refl _)])) (SlR.of (c:=Ay (s,-1)) lkp (Nat.le_refl _) rfl) (by omega) (by omega) rfl;rfl)
      refine wk ?_
      refine ih (Si,upd (ext κi hh.n) (hh.n+2) 200,.slc (hh.n+2) 0 (es.length+1) (Aa+2),es++ [(s,-1)]) _ _ ⟨ri.own (B:=fun j=>j=b) ?_ (fun b _ e=>by subst e;omega) fun b hb=>(upd_ne _ _ (by omega)).trans (Af hb),ai.own (B:=fun j=>j=b) ?_ (fun b e=>by subst e;exact hblo) fun b hb=>(upd_ne _ _ (by omega)).trans (Af hb),iwi,fri,⟨by simp only;omega,hnx.2⟩,by simp only;omega,EL.app (l:=es) ?_ (by omega) rfl,fun b n c e=>?_,by simp;omega,chi'⟩ tsb
      ·exact kps
      ·exact kps
      ·exact lkp
      ·cases e;exact upd_eq _ _ _
   ·have hdt':i*2+2≤(l.flatMap (gwC S.D.sz)).length∧((l.flatMap (gwC S.D.sz)).drop (i*2)).take 2= [AI s,.slc b o S.D.sz c]:=hdt
    clear hdt
    obtain⟨hd1,hd2,hd3⟩:=hDi s b o c hx
    have kdi:=ai.bs hd1 hd2
    have hsz1:1≤S.D.sz:=by omega
    have hmu:=Lv Si false
    have call: ∀h5,K0 hh h5→CtX P0 E F K 51 [.ptr I.s 0,AI s,.slc b o S.D.sz c] h5
      (fun v h'=> ∃p S' κ',v= .agg [AI s,AI ((p:Nat):Int)]∧StP s (δ b) Si S' (.done p)∧ApR κ' h' I S'∧AChg (ext κi hh.n) h5 κ' h')
      (fun v h'=> ∃(o:WO) (S':Ap) (κ':Nat→Nat),v= .ifc 44 (AI ((eOf o:Nat):Int))∧(o= .full∨o= .pow)∧StP s (δ b) Si S' o∧ApR κ' h' I S'∧AChg (ext κi hh.n) h5 κ' h'):=by
     intro h5 k5
     have:=To (c1:=c) (sec:=s) L X T (ri.k0 k5 fun b hb=>Af hb) (iwi.wi false) (by omega) ⟨by omega,by omega⟩ (kdi.1.k0 k5) ((Af kdi.1.lt_n).trans kdi.2) (by rw [fri.sz];exact hd3) (by omega)
     rw [fri.sz]at this
     exact this
    refine wk ?_
    (apply st1 L rfl;exact Br kbi.rk hdt' rfl;rfl)
    have okc: ∀(p:Nat) (S':Ap) (κ':Nat→Nat) (h5 h' h7:H) (w:AV) (N:Nat),K0 hh h5→StP s (δ b) Si S' (.done p)→ApR κ' h' I S'→AChg (ext κi hh.n) h5 κ' h'→Kp (fun j=> ∃n c,ev= .slc j 0 n c) h' h7→EL h7 h.n w (es++ [(s,((p:Nat):Int))])→h'.n≤N→w= .slc N 0 (es.length+1) (Aa+2)→
      ApR (upd κ' N 200) h7 I S'∧AChg κ h (upd κ' N 200) h7∧IW S'∧FrS S S'∧(S'.next≤S.next+(i+1)∧S.next≤S'.next)∧S'.D.n+30*(l.length - (i+1))+600<100000∧EL h7 h.n w (es++ [(s,((p:Nat):Int))])∧(∀b n c,w= .slc b 0 n c→(upd κ' N 200) b=200)∧(es++ [(s,((p:Nat):Int))]).length≤i+1∧(∀es'' S'' o,AppP ((gpl δ l).drop (i+1)) S' es'' S'' o→AppP (gpl δ l) S ((es++ [(s,((p:Nat):Int))])++es'') S'' o):=by
     intro p S' κ' h5 h' h7 w N k5 hst r' a' k7 hel7 hN hw
     obtain⟨f1,f2,f3,f4⟩:=hst.fr iwi
     have n1:=a'.k.n
     have n0:=k5.n
     have hold: ∀j n c,ev= .slc j 0 n c→κ' j=200∧h.n≤j:=by
      intro j n c e
      have h200:=hev j n c e
      subst e
      have:=el.blt
      exact⟨(a'.col j (by omega)).trans ((Af this.1).trans h200),this.2⟩
     refine⟨r'.own k7 (fun j _ e=>?_) fun j hj=>upd_ne _ _ (by omega),?_,f2,fri.trans f1,⟨by omega,by omega⟩,by omega,hel7,fun b n c e=>?_,by simp;omega,fun es'' S'' o q=>?_⟩
     ·obtain⟨n,c,e⟩:=e
      have:=hold j n c e;omega
     ·refine AChg.own (ai.trans ((AChg.k0 k5 fun b hb=>Af hb).trans a')) k7 (fun j e=>?_) fun j hj=>upd_ne _ _ (by omega)
      obtain⟨n,c,e⟩:=e
      exact(hold j n c e).2
     ·rw [hw]at e;cases e;exact upd_eq _ _ _
     ·rw [List.append_assoc];exact chi _ _ _ (by rw [hdrop];exact .put hst q)
    have badc: ∀(o':WO) (S':Ap),(o'= .full∨o'= .pow)→StP s (δ b) Si S' o'→ApdP (gpl δ l) S S' o':=by
     intro o' S' ho hst
     have:=chi [] S' o' (by rw [hdrop];exact .bad hst ho)
     exact .bad this ho
    clear chi
    cases hAs:Si.A s with
    |none=>
     refine wk ?_
     refine cal (c:=Rq L X (ri.mp.k0 (by exact kps)) hAs) (g:=?_)
     rintro _ rfl
     refine wk ?_
     refine Hg L (c:=call _ (by exact kps)) (g:=?_) (gp:=?_)
     ·rintro _ h5 ⟨p,S',κ',rfl,hw,r',a'⟩
      have n1:=a'.k.n
      simp only [Al]at n1
      rcases el.len with⟨e0,rfl⟩|⟨hpos,b1,rfl,hb1,hblo1⟩
      ·subst e0
       refine wk ?_
       (apply st1 L rfl;exact Ft (new:=Ay (s,((p:Nat):Int))) rfl rfl (SlR.of (c:=Ay (s,((p:Nat):Int))) lkp (Nat.le_refl _) rfl) (by omega) (by omega);rfl)
       refine wk ?_
       refine ih (S',upd κ' (h5.n+1) 200,.slc (h5.n+1) 0 1 (Aa+2),[(s,((p:Nat):Int))]) _ _ (okc p S' κ' _ h5 _ _ (h5.n+1) ?_ hw r' a' (Kp.mono (S:=fun _=>False) (fun _ f=>f.elim) ?_) (EL.app (l:= []) ?_ (by omega) rfl) (by omega) rfl) tsb
       ·exact kps
       ·exact kps
       ·exact lkp
      ·have hlb1:=hb1.lt
       have h200:=hev b1 _ _ rfl
       have hb5:Bk h5 b1 (es.flatMap Ay):=As a'.k (by rw [Af hlb1];omega) (by exact lkp)
       have hlb5:=hb5.lt
       refine wk ?_
       (apply st1 L rfl;exact Fi (old:=es.flatMap Ay) (new:=Ay (s,((p:Nat):Int))) rfl rfl (SlR.of (c:=es.flatMap Ay) lkp (by rw [A4];omega) (by rw [List.drop_zero,List.take_of_length_le (by rw [A4];exact Nat.le_refl _)])) (SlR.of (c:=Ay (s,((p:Nat):Int))) lkp (Nat.le_refl _) rfl) (by omega) (by omega) rfl;rfl)
       refine wk ?_
       refine ih (S',upd κ' (h5.n+1) 200,.slc (h5.n+1) 0 (es.length+1) (Aa+2),es++ [(s,((p:Nat):Int))]) _ _ (okc p S' κ' _ h5 _ _ (h5.n+1) ?_ hw r' a' (Kp.mono (S:=fun j=>j=b1) (fun j e=>⟨_,_,by subst e;rfl⟩) ?_) (EL.app (l:=es) ?_ (by omega) rfl) (by omega) rfl) tsb
       ·exact kps
       ·exact kps
       ·exact lkp
     ·rintro _ h5 ⟨o',S',κ',rfl,ho,hw,r',a'⟩
      refine An L X.f89 ?_
      refine Gp _ _ (.inr ⟨hchk,o',S',κ',rfl,ho,badc _ _ ho hw,r',ai.trans ((AChg.k0 (κ':=ext κi hh.n) kps fun b hb=>Af hb).trans a')⟩)
    |some pa=>
     refine wk ?_
     refine cal (c:=Rr L X (ri.mp.k0 (by exact kps)) hAs) (g:=?_)
     rintro _ rfl
     refine wk ?_
     refine Hg L (c:=call _ (by exact kps)) (g:=?_) (gp:=?_)
     ·rintro _ h5 ⟨p,S',κ',rfl,hw,r',a'⟩
      have n1:=a'.k.n
      simp only [Al]at n1
      rcases el.len with⟨e0,rfl⟩|⟨hpos,b1,rfl,hb1,hblo1⟩
      ·subst e0
       refine wk ?_
       (apply st1 L rfl;exact Ft (new:=Ay (s,((p:Nat):Int))) rfl rfl (SlR.of (c:=Ay (s,((p:Nat):Int))) lkp (Nat.le_refl _) rfl) (by omega) (by omega);rfl)
       refine wk ?_
       refine ih (S',upd κ' (h5.n+1) 200,.slc (h5.n+1) 0 1 (Aa+2),[(s,((p:Nat):Int))]) _ _ (okc p S' κ' _ h5 _ _ (h5.n+1) ?_ hw r' a' (Kp.mono (S:=fun _=>False) (fun _ f=>f.elim) ?_) (EL.app (l:= []) ?_ (by omega) rfl) (by omega) rfl) tsb
       ·exact kps
       ·exact kps
       ·exact lkp
      ·have hlb1:=hb1.lt
       have h200:=hev b1 _ _ rfl
       have hb5:Bk h5 b1 (es.flatMap Ay):=As a'.k (by rw [Af hlb1];omega) (by exact lkp)
       have hlb5:=hb5.lt
       refine wk ?_
       (apply st1 L rfl;exact Fi (old:=es.flatMap Ay) (new:=Ay (s,((p:Nat):Int))) rfl rfl (SlR.of (c:=es.flatMap Ay) lkp (by rw [A4];omega) (by rw [List.drop_zero,List.take_of_length_le (by rw [A4];exact Nat.le_refl _)])) (SlR.of (c:=Ay (s,((p:Nat):Int))) lkp (Nat.le_refl _) rfl) (by omega) (by omega) rfl;rfl)
       refine wk ?_
       refine ih (S',upd κ' (h5.n+1) 200,.slc (h5.n+1) 0 (es.length+1) (Aa+2),es++ [(s,((p:Nat):Int))]) _ _ (okc p S' κ' _ h5 _ _ (h5.n+1) ?_ hw r' a' (Kp.mono (S:=fun j=>j=b1) (fun j e=>⟨_,_,by subst e;rfl⟩) ?_) (EL.app (l:=es) ?_ (by omega) rfl) (by omega) rfl) tsb
       ·exact kps
       ·exact kps
       ·exact lkp
     ·rintro _ h5 ⟨o',S',κ',rfl,ho,hw,r',a'⟩
      refine An L X.f89 ?_
      refine Gp _ _ (.inr ⟨hchk,o',S',κ',rfl,ho,badc _ _ ho hw,r',ai.trans ((AChg.k0 (κ':=ext κi hh.n) kps fun b hb=>Af hb).trans a')⟩)
  ·rintro⟨Si,κi,ev,es⟩ hh ⟨ri,ai,iwi,fri,hnx,hbi,el,hev,hel,chi⟩
   simp only at ri ai iwi fri hnx hbi el hev hel chi
   have hnn:=ai.k.n
   have happ:AppP (gpl δ l) S es Si (.done 0):=by
    have:=chi [] Si (.done 0) (by rw [List.drop_of_length_le (by omega)];exact .nil)
    rwa [List.append_nil]at this
   have hAe:=hA hchk es Si happ
   have hok: ∀e∈es,e.Ok:=by
    intro e he
    obtain⟨j,hj⟩:=List.mem_iff_getElem?.1 he
    obtain⟨⟨f1,f2,f3,f4⟩,-⟩:=hAe j e hj
    have hm:S.D.nb*S.D.P≤12*6:=Nat.mul_le_mul r.dv.ok.g.nb.2 (by have:=r.dv.ok.g.P;omega)
    exact⟨f1,by omega,f3,by omega⟩
   have hrec:recN Si es≤es.length+1:=Km (by rw [fri.sz];omega)
   have hcm:=Qo (lo:=h.n) (ev:=ev) (es:=es) L X T (ri.k0 (κ':=κi) (h':=hp hh.n hh.t []) (by exact kps) fun _ _=>rfl) iwi (el.k0 (by exact kps)) (by omega) (fun b n c e=> .inr (by have:=hev b n c e;omega)) hok (by omega) (by rw [fri.secs,fri.nb,fri.P,fri.A];exact hAe) (by have:=fri.last;omega) (by omega)
   rcases(show ev= .nils∨ ∃b n c,ev= .slc b 0 n c by rcases el.len with⟨_,e⟩|⟨_,b,e,_⟩;exact .inl e;exact .inr ⟨b,_,_,e⟩)with rfl|⟨eb,en,ec,rfl⟩
   all_goals
    refine wk ?_
    refine Hg L (c:=hcm) (g:=?_) (gp:=?_)
    ·rintro _ h5 ⟨S',κ',hc,r',a'⟩
     refine wk ?_
     refine ret X.f89 ?_
     exact⟨hchk,S',κ',.ok happ hc,r'.k0 kps fun _ _=>rfl,ai.trans ((AChg.k0 (κ':=κi) kps fun _ _=>rfl).trans (a'.trans (AChg.k0 kps fun _ _=>rfl)))⟩
    ·rintro _ h5 ⟨o,S',κ',rfl,ho,hc,r',a'⟩
     refine An L X.f89 ?_
     exact Gp _ _ (.inr ⟨hchk,o,S',κ',rfl,ho,.bad2 happ hc ho,r',ai.trans ((AChg.k0 (κ':=κi) kps fun _ _=>rfl).trans a')⟩)
 ·rintro _ h2 ⟨rfl,hchk,k2⟩
  refine An L X.f89 ?_
  refine Gp _ _ (.inl ⟨rfl,hchk,ext κ h.n,r.k0 k2 fun b hb=>Af hb,AChg.k0 k2 fun b hb=>Af hb⟩)
end
end
section
variable {P0:Program}{E:Env}{F:T CFn}{K:T (List AV×AV)}(L:Lg P0 E F K)(X:Fx F K)
include L X
structure AChX (Y:Nat→Prop)(κ: Nat→Nat)(h:H)(κ':Nat→Nat)(h':H):Prop where
 k:Kp (fun b=>(1≤κ b∧κ b<200)∨Y b) h h'
 col: ∀b,b<h.n→κ' b=κ b
omit L X in
theorem AChg.x {Y:Nat→Prop}{κ κ':Nat→Nat}{h h':H}(a:AChg κ h κ' h'):AChX Y κ h κ' h':=⟨a.k.mono fun b e=> .inl e,a.col⟩
omit L X in
theorem AChX.own {Y:Nat→Prop}{κ κ1 κ':Nat→Nat}{h h1 h':H}(a:AChg κ h κ1 h1)(x:AChX Y κ1 h1 κ' h')(hy: ∀b,Y b→h.n≤b):AChg κ h κ' h':=
 ⟨Kp.trS x.k (fun i hi e=>by
                rcases e with e|e;· rw [a.col i hi]at e;exact e
                ·have:=hy i e;omega) a.k,fun b hl=>(x.col b (Nat.lt_of_lt_of_le hl a.k.n)).trans (a.col b hl)⟩
section
variable {h:H}{κ: Nat→Nat}{I:Ai}{S:Ap}
theorem E3 {ab f:Nat}{cp:List AV}{Y:Nat→Prop}{post:Ap→AV→(Nat→Nat)→H→Prop}{pan:Ap→Int→(Nat→Nat)→H→Prop}(r:ApR κ h I S)(ka:Bk h ab [.ptr I.s 0])(hY: ∀b,Y b→b<h.n)
  (hc: ∀κ2 h2,K0 h h2→h.n<h2.n→(∀b,b<h.n→κ2 b=κ b)→ApR κ2 h2 I S→CtX P0 E F K f (.ptr I.s 0::cp) h2
   (fun v h'=> ∃κ' S',ApR κ' h' I S'∧AChX Y κ2 h2 κ' h'∧post S' v κ' h')
   (fun v h'=> ∃κ' S' e,v= .ifc 44 (AI e)∧ApR κ' h' I S'∧AChX Y κ2 h2 κ' h'∧pan S' e κ' h')):
  Ct P0 E F K 42 [.ptr ab 0,.fn (.func f) [] cp] h
   (fun v h'=> ∃κ' S' h1,ApR κ' h' I S'∧AChX Y κ h κ' h'∧Kp (fun j=>j=h.n) h1 h'∧((v=AI ((0:Nat):Int)∧ ∃u,post S' u κ' h1)∨(∃e,v=AI e∧pan S' e κ' h1))):=by
 have k2:K0 h (hp (h.n+1) h.t [(h.n,some (cl [AI ((0:Nat):Int)]))]):=kps
 have hcol: ∀b,b<h.n→upd κ h.n 200 b=κ b:=fun b hb=>upd_ne _ _ (by omega)
 have r2:ApR (upd κ h.n 200) (hp (h.n+1) h.t [(h.n,some (cl [AI ((0:Nat):Int)]))]) I S:=r.k0 k2 hcol
 have hB: ¬((1≤upd κ h.n 200 h.n∧upd κ h.n 200 h.n<200)∨Y h.n):=by
  rw [upd_eq]
  rintro(e|e)
  ·omega
  ·have:=hY _ e;omega
 have fin: ∀κ' S' h1 h',ApR κ' h1 I S'→AChX Y (upd κ h.n 200) (hp (h.n+1) h.t [(h.n,some (cl [AI ((0:Nat):Int)]))]) κ' h1→Kp (fun j=>j=h.n) h1 h'→ApR κ' h' I S'∧AChX Y κ h κ' h':=by
  intro κ' S' h1 h' r1 a1 k1
  have n1:=a1.k.n
  simp only [Al]at n1
  have hk:κ' h.n=200:=(a1.col _ (by simp only [Al];omega)).trans (upd_eq _ _ _)
  refine⟨r1.out k1 fun b _ e=>by subst e;omega,⟨Kp.trS k1 (fun i hi e=>by omega) (Kp.trS a1.k (fun i hi e=>by rw [hcol i hi]at e;exact e) (k2.mono fun _ f=>f.elim)),fun b hb=>?_⟩⟩
  rw [a1.col b (by simp only [Al];omega),hcol b hb]
 refine(vt L X (s:=I.s) (B:=fun b=>(1≤upd κ h.n 200 b∧upd κ h.n 200 b<200)∨Y b) ka (hc _ _ k2 (by simp only [Al];omega) hcol r2) hB ?_ ?_).mono ?_
 ·rintro v h' ⟨κ',S',-,a,-⟩;exact a.k
 ·rintro v h' ⟨κ',S',e,rfl,-,a,-⟩;exact⟨⟨e,rfl⟩,a.k⟩
 ·rintro v h' (⟨rfl,u,h1,⟨κ',S',r1,a1,p1⟩,k1⟩|⟨e,h1,rfl,⟨κ',S',e',he,r1,a1,p1⟩,k1⟩)
  ·obtain⟨q1,q2⟩:=fin κ' S' h1 h' r1 a1 k1
   exact⟨κ',S',h1,q1,q2,k1,.inl ⟨rfl,u,p1⟩⟩
  ·obtain⟨q1,q2⟩:=fin κ' S' h1 h' r1 a1 k1
   cases he
   exact⟨κ',S',h1,q1,q2,k1,.inr ⟨e,rfl,p1⟩⟩
inductive AppO (l:List Int)(g:List (Int×Option (List Nat)))(S:Ap):Nat→Ap→Prop where
 |bad (h:De S.S S.down l≠0):AppO l g S (De S.S S.down l) S
 |run {S':Ap} {o:WO} (h:De S.S S.down l=0) (ho:o= .done 0∨o= .full∨o= .pow) (a:ApdP g S S' o):AppO l g S (eOf o) S'
theorem Zc {ab gb:Nat}{l:List GW}{δ: Nat→List Nat}(T:Tb P0 E F K)(r:ApR κ h I S)(ka:Bk h ab [.ptr I.s 0])(iw:IW S)(hS:S.S<1000)(kb:Bk h gb (l.flatMap (gwC S.D.sz)))(hcc:κ gb=0)(hl:l≠[])(hlen:l.length≤10)
  (hD: ∀(i:Nat) (s:Int) (b o c:Nat),l[i]?=some (s,some (b,o,c))→BS h b o (δ b)∧κ b=0∧(δ b).length=S.D.sz)
  (hf:S.last<S.next∧S.next<10000000) (hn:S.D.n+1000<100000)
  (hA:De S.S S.down (l.map (·.1))=0→ ∀es S',AppP (gpl δ l) S es S' (.done 0)→ ∀j x,es[j]?=some x→okE S.S (S.D.nb*S.D.P) (stA S.A es j) x):
  Ct P0 E F K 33 [.ptr ab 0,.slc gb 0 l.length (Aa+2)] h
   (fun v h'=> ∃e S' κ',v=AI ((e:Nat):Int)∧AppO (l.map (·.1)) (gpl δ l) S e S'∧ApR κ' h' I S'∧AChg κ h κ' h'):=by
 have lb:=kb.lt
 have lk:=ka.lt
 refine Ae L X.f33 X.k33 rfl rfl fun Q x cs G=>?_
 refine wk ?_
 have k1:K0 h (hp (h.n+1) h.t [(h.n,some (cl [.slc gb 0 l.length (Aa+2)]))]):=kps
 have r1:ApR (ext κ h.n) (hp (h.n+1) h.t [(h.n,some (cl [.slc gb 0 l.length (Aa+2)]))]) I S:=r.k0 k1 fun b hb=>Af hb
 have a1:AChg κ h (ext κ h.n) (hp (h.n+1) h.t [(h.n,some (cl [.slc gb 0 l.length (Aa+2)]))]):=AChg.k0 k1 fun b hb=>Af hb
 have kc1:Bk (hp (h.n+1) h.t [(h.n,some (cl [.slc gb 0 l.length (Aa+2)]))]) h.n [.slc gb 0 l.length (Aa+2)]:=lkp
 have kb1:=Ah k1 kb
 have cl1: ∀κ2 h2,K0 (hp (h.n+1) h.t [(h.n,some (cl [.slc gb 0 l.length (Aa+2)]))]) h2→(hp (h.n+1) h.t [(h.n,some (cl [.slc gb 0 l.length (Aa+2)]))]).n<h2.n→(∀b,b<(hp (h.n+1) h.t [(h.n,some (cl [.slc gb 0 l.length (Aa+2)]))]).n→κ2 b=ext κ h.n b)→ApR κ2 h2 I S→CtX P0 E F K 89 (.ptr I.s 0:: [.ptr h.n 0]) h2
   (fun v h'=> ∃κ' S',ApR κ' h' I S'∧AChX (fun _=>False) κ2 h2 κ' h'∧(De S.S S.down (l.map (·.1))=0∧ApdP (gpl δ l) S S' (.done 0)))
   (fun v h'=> ∃κ' S' e,v= .ifc 44 (AI e)∧ApR κ' h' I S'∧AChX (fun _=>False) κ2 h2 κ' h'∧ ∃e':Nat,e=((e':Nat):Int)∧AppO (l.map (·.1)) (gpl δ l) S e' S'):=by
  intro κ2 h2 k2 n2 c2 r2
  refine(Vo (δ:= δ) L X T r2 iw hS (Ah k2 kc1) (Ah k2 kb1) ⟨(c2 _ (by simp only [Al];omega)).trans (Bs (Nat.le_refl _)),(c2 _ (by simp only [Al];omega)).trans ((Af lb).trans hcc)⟩ hl hlen ?_ hf hn hA).mono ?_ ?_
  ·intro i s b o c hx
   obtain⟨q1,q2,q3⟩:=hD i s b o c hx
   have:=q1.lt_n
   exact⟨(q1.k0 k1).k0 k2,(c2 _ (by simp only [Al];omega)).trans ((Af q1.lt_n).trans q2),q3⟩
  ·rintro v h' ⟨q1,S',κ',q2,q3,q4⟩
   exact⟨κ',S',q3,q4.x,q1,q2⟩
  ·rintro v h' (⟨rfl,q1,κ',q2,q3⟩|⟨q1,o,S',κ',rfl,ho,q2,q3,q4⟩)
   ·exact⟨κ',S,_,rfl,q2,q3.x,_,rfl,.bad q1⟩
   ·exact⟨κ',S',_,rfl,q3,q4.x,_,rfl,.run q1 (.inr ho) q2⟩
 refine cal (c:=E3 L X r1 (Ah k1 ka) (fun b e=>e.elim) cl1) (g:=?_)
 rintro v h2 ⟨κ',S',h1,r',a',-,hv⟩
 have a2:=a'.own a1 fun b e=>e.elim
 rcases hv with⟨rfl,u,q1,q2⟩|⟨e,rfl,e',rfl,q⟩
 ·refine wk ?_
  refine ret X.f33 ?_
  exact⟨0,S',κ',rfl,.run q1 (.inl rfl) q2,r'.k0 kps fun _ _=>rfl,a2.trans (AChg.k0 kps fun _ _=>rfl)⟩
 ·refine wk ?_
  refine ret X.f33 ?_
  exact⟨e',S',κ',rfl,q,r'.k0 kps fun _ _=>rfl,a2.trans (AChg.k0 kps fun _ _=>rfl)⟩
theorem Vp {ab:Nat}(r:ApR κ h I S)(ka:Bk h ab [.ptr I.s 0]):
  Ct P0 E F K 33 [.ptr ab 0,.nils] h (fun v h'=> ∃κ',v=AI ((2:Nat):Int)∧ApR κ' h' I S∧AChg κ h κ' h'):=by
 have lk:=ka.lt
 refine Ae L X.f33 X.k33 rfl rfl fun Q x cs G=>?_
 refine wk ?_
 have k1:K0 h (hp (h.n+1) h.t [(h.n,some (cl [.nils]))]):=kps
 have r1:ApR (ext κ h.n) (hp (h.n+1) h.t [(h.n,some (cl [.nils]))]) I S:=r.k0 k1 fun b hb=>Af hb
 have a1:AChg κ h (ext κ h.n) (hp (h.n+1) h.t [(h.n,some (cl [.nils]))]):=AChg.k0 k1 fun b hb=>Af hb
 have kc1:Bk (hp (h.n+1) h.t [(h.n,some (cl [.nils]))]) h.n [.nils]:=lkp
 have cl1: ∀κ2 h2,K0 (hp (h.n+1) h.t [(h.n,some (cl [.nils]))]) h2→(hp (h.n+1) h.t [(h.n,some (cl [.nils]))]).n<h2.n→(∀b,b<(hp (h.n+1) h.t [(h.n,some (cl [.nils]))]).n→κ2 b=ext κ h.n b)→ApR κ2 h2 I S→CtX P0 E F K 89 (.ptr I.s 0:: [.ptr h.n 0]) h2
   (fun v h'=> ∃κ' S',ApR κ' h' I S'∧AChX (fun _=>False) κ2 h2 κ' h'∧False)
   (fun v h'=> ∃κ' S' e,v= .ifc 44 (AI e)∧ApR κ' h' I S'∧AChX (fun _=>False) κ2 h2 κ' h'∧e=((2:Nat):Int)∧S'=S):=by
  intro κ2 h2 k2 n2 c2 r2
  refine(Vn L X (Ah k2 kc1)).X.mono (fun v h' q=>q) ?_
  rintro v h' ⟨rfl,k3⟩
  exact⟨ext κ2 h2.n,S,_,rfl,r2.k0 k3 fun b hb=>Af hb,(AChg.k0 k3 fun b hb=>Af hb).x,rfl,rfl⟩
 refine cal (c:=E3 L X r1 (Ah k1 ka) (fun b e=>e.elim) cl1) (g:=?_)
 rintro v h2 ⟨κ',S',h1,r',a',-,hv⟩
 have a2:=a'.own a1 fun b e=>e.elim
 rcases hv with⟨rfl,u,q1⟩|⟨e,rfl,rfl,rfl⟩
 ·exact q1.elim
 ·refine wk ?_
  refine ret X.f33 ?_
  exact⟨κ',rfl,r'.k0 kps fun _ _=>rfl,a2.trans (AChg.k0 kps fun _ _=>rfl)⟩
end
end
section
variable {P0:Program}{E:Env}{F:T CFn}{K:T (List AV×AV)}(L:Lg P0 E F K)(X:Fx F K)
include L X
def Ap.rd (S:Ap)(s:Int):List Nat:=match S.A s with
 |none=>List.replicate S.D.sz 0
 |some p=>((S.D.bl (p.toNat / S.D.P)).pg (p.toNat % S.D.P)).b.take S.D.sz
section
variable {h:H}{κ: Nat→Nat}{I:Ai}{S:Ap}
theorem Zd {cs bc:Nat}{s:Int}(r:ApR κ h I S)(kc:Bk h cs [AI s])(hs: ¬(0≤s∧s<S.S)):
  CtP P0 E F K 96 [.ptr I.s 0,.ptr cs 0,.ptr bc 0] h fun v h'=>v= .ifc 44 (AI ((3:Nat):Int))∧K0 h h':=by
 have lc:=kc.lt
 have sk:=r.sk
 have ls:=sk.lt
 unfold apC at sk
 by_cases c1:s<0
 ·refine Ea L X.f96 X.k96 rfl rfl rfl fun Q x cs G=>?_
  refine wk ?_
  refine Gb L rfl rfl rfl rfl rfl (Bc L X) ?_
  rintro _ h4 ⟨rfl,rfl⟩
  refine An L X.f96 ?_
  exact G _ _ ⟨rfl,kps⟩
 ·refine Ea L X.f96 X.k96 rfl rfl rfl fun Q x cs G=>?_
  refine wk ?_
  refine cal (c:=C9 L X (r.mp.k0 (by exact kps))) (g:=?_)
  rintro _ rfl
  refine wk ?_
  refine Gb L rfl rfl rfl rfl rfl (Bc L X) ?_
  rintro _ h4 ⟨rfl,rfl⟩
  refine An L X.f96 ?_
  exact G _ _ ⟨rfl,kps⟩
theorem iy {cs bc:Nat}{s:Int}{w:AV}(r:ApR κ h I S)(kc:Bk h cs [AI s])(kb:Bk h bc [w])(hs:0≤s∧s<S.S)(hne:κ cs=0∧(κ bc=0∨200≤κ bc)∧cs≠bc)(hdn:S.down=false)(hoff:S.D.off=false)
  (hp: ∀p:Int,S.A s=some p→p.toNat / S.D.P<S.D.nb∧p.toNat % S.D.P<(S.D.bl (p.toNat / S.D.P)).nx∧(((S.D.bl (p.toNat / S.D.P)).pg (p.toNat % S.D.P)).st=2∨((S.D.bl (p.toNat / S.D.P)).pg (p.toNat % S.D.P)).st=3)):
  CtX P0 E F K 96 [.ptr I.s 0,.ptr cs 0,.ptr bc 0] h
   (fun v h'=>Kp (fun j=>j=bc) h h'∧ ∃b c,Bk h' bc [.slc b 0 S.D.sz c]∧BS h' b 0 (S.rd s)∧h.n≤b) (fun v h'=>False):=by
 have lc:=kc.lt
 have lb:=kb.lt
 have sk:=r.sk
 have ls:=sk.lt
 have hsz:=r.dv.ok.g.sz
 have hcol:=r.col
 have hrg:=r.mp.rg
 have hnb:=r.dv.ok.g.nb
 have hPP:=r.dv.ok.g.P
 have hm:S.D.nb*S.D.P≤12*6:=Nat.mul_le_mul r.dv.ok.g.nb.2 (by omega)
 have nbs:bc≠I.s:=fun e=>by rw [←e]at hcol;omega
 unfold apC at sk
 rw [hdn]at sk
 cases hAs:S.A s with
 |none=>
  have er:S.rd s=List.replicate S.D.sz 0:=by unfold Ap.rd;rw [hAs]
  refine Bu L X.f96 X.k96 rfl rfl rfl fun Q x cs G Gp=>?_
  refine wk ?_
  refine cal (c:=C9 L X (r.mp.k0 (by exact kps))) (g:=?_)
  rintro _ rfl
  refine wk ?_
  refine cal (c:=Ao L X) (g:=?_)
  rintro _ rfl
  refine wk ?_
  refine cal (c:=Ao L X) (g:=?_)
  rintro _ rfl
  refine wk ?_
  refine cal (c:=Rq L X (r.mp.k0 (by exact kps)) hAs) (g:=?_)
  rintro _ rfl
  refine wk ?_
  refine ret X.f96 ?_
  refine⟨kps,h.n,S.D.sz,lkp,?_,Nat.le_refl _⟩
  rw [er]
  refine Ke ?_ (AllB.rep (by omega))
  rw [←D9]
  exact lkp
 |some p=>
  obtain⟨q1,q2,q3⟩:=hp p hAs
  obtain⟨g1,g2,g3,g4⟩:=hrg s p hAs
  obtain⟨pn,rfl⟩:=Int.eq_ofNat_of_zero_le g3
  have er:S.rd s=((S.D.bl (pn / S.D.P)).pg (pn % S.D.P)).b.take S.D.sz:=by unfold Ap.rd;rw [hAs];rfl
  rw [Int.toNat_natCast]at q1 q2 q3
  refine Bu L X.f96 X.k96 rfl rfl rfl fun Q x cs G Gp=>?_
  refine wk ?_
  refine cal (c:=C9 L X (r.mp.k0 (by exact kps))) (g:=?_)
  rintro _ rfl
  refine wk ?_
  refine cal (c:=Ao L X) (g:=?_)
  rintro _ rfl
  refine wk ?_
  refine cal (c:=Ao L X) (g:=?_)
  rintro _ rfl
  refine wk ?_
  refine cal (c:=Rr L X (r.mp.k0 (by exact kps)) hAs) (g:=?_)
  rintro _ rfl
  refine wk ?_
  refine Hg L (c:=W6 (p:=pn) L X (r.k0 (κ':=κ) (by exact kps) fun _ _=>rfl) (by omega) q1 q2 (fun _=>q3)) (g:=?_) (gp:=?_)
  ·rintro _ h2 ⟨-,b,rfl,w2,w3,w4⟩
   simp only [Al]at w3
   have nb2:b≠bc:=by omega
   refine wk ?_
   refine ret X.f96 ?_
   refine⟨kps,b,_,lkp,?_,w3⟩
   rw [er];exact lkb
  ·rintro _ h2 ⟨-,e,-⟩
   rw [hoff]at e;cases e
end
end
section
variable {P0:Program}{E:Env}{F:T CFn}{K:T (List AV×AV)}(L:Lg P0 E F K)(X:Fx F K)
include L X
section
variable {h:H}{κ: Nat→Nat}{I:Ai}{S:Ap}
theorem pt {ab:Nat}{s:Int}(r:ApR κ h I S)(ka:Bk h ab [.ptr I.s 0])(hs:0≤s∧s<S.S)(hdn:S.down=false)(hoff:S.D.off=false)
  (hpg: ∀p:Int,S.A s=some p→p.toNat / S.D.P<S.D.nb∧p.toNat % S.D.P<(S.D.bl (p.toNat / S.D.P)).nx∧(((S.D.bl (p.toNat / S.D.P)).pg (p.toNat % S.D.P)).st=2∨((S.D.bl (p.toNat / S.D.P)).pg (p.toNat % S.D.P)).st=3)):
  Ct P0 E F K 41 [.ptr ab 0,AI s] h
   (fun v h'=> ∃κ' b c,v= .tup [.slc b 0 S.D.sz c,AI ((0:Nat):Int)]∧BS h' b 0 (S.rd s)∧κ' b=0∧h.n≤b∧ApR κ' h' I S∧AChg κ h κ' h'):=by
 have lk:=ka.lt
 refine Ae L X.f41 X.k41 rfl rfl fun Q x cs G=>?_
 refine wk ?_
 have k1:K0 h (hp (h.n+1+1) h.t [(h.n+1,some (cl [.nils])),(h.n,some (cl [AI s]))]):=kps
 have hc1: ∀b,b<h.n→upd (ext κ h.n) (h.n+1) 200 b=κ b:=fun b hb=>(upd_ne _ _ (by omega)).trans (Af hb)
 have r1:ApR (upd (ext κ h.n) (h.n+1) 200) (hp (h.n+1+1) h.t [(h.n+1,some (cl [.nils])),(h.n,some (cl [AI s]))]) I S:=r.k0 k1 hc1
 have a1:AChg κ h (upd (ext κ h.n) (h.n+1) 200) (hp (h.n+1+1) h.t [(h.n+1,some (cl [.nils])),(h.n,some (cl [AI s]))]):=AChg.k0 k1 hc1
 have kc1:Bk (hp (h.n+1+1) h.t [(h.n+1,some (cl [.nils])),(h.n,some (cl [AI s]))]) h.n [AI s]:=lkp
 have kb1:Bk (hp (h.n+1+1) h.t [(h.n+1,some (cl [.nils])),(h.n,some (cl [AI s]))]) (h.n+1) [.nils]:=lkp
 have ka1:=Ah k1 ka
 have hn1:(hp (h.n+1+1) h.t [(h.n+1,some (cl [.nils])),(h.n,some (cl [AI s]))]).n=h.n+2:=rfl
 have cl1: ∀κ2 h2,K0 (hp (h.n+1+1) h.t [(h.n+1,some (cl [.nils])),(h.n,some (cl [AI s]))]) h2→(hp (h.n+1+1) h.t [(h.n+1,some (cl [.nils])),(h.n,some (cl [AI s]))]).n<h2.n→(∀b,b<(hp (h.n+1+1) h.t [(h.n+1,some (cl [.nils])),(h.n,some (cl [AI s]))]).n→κ2 b=upd (ext κ h.n) (h.n+1) 200 b)→ApR κ2 h2 I S→CtX P0 E F K 96 (.ptr I.s 0:: [.ptr h.n 0,.ptr (h.n+1) 0]) h2
   (fun v h'=> ∃κ' S',ApR κ' h' I S'∧AChX (fun j=>j=h.n+1) κ2 h2 κ' h'∧(S'=S∧ ∃b c,Bk h' (h.n+1) [.slc b 0 S.D.sz c]∧BS h' b 0 (S.rd s)∧h.n+2<b∧κ' b=0))
   (fun v h'=> ∃κ' S' e,v= .ifc 44 (AI e)∧ApR κ' h' I S'∧AChX (fun j=>j=h.n+1) κ2 h2 κ' h'∧False):=by
  intro κ2 h2 k2 n2 c2 r2
  rw [hn1]at n2 c2
  have hk0:κ2 h.n=0:=(c2 _ (by omega)).trans ((upd_ne _ _ (by omega)).trans (Bs (Nat.le_refl _)))
  have hk1:κ2 (h.n+1)=200:=(c2 _ (by omega)).trans (upd_eq _ _ _)
  refine(iy L X r2 (Ah k2 kc1) (Ah k2 kb1) hs ⟨hk0,.inr (by omega),by omega⟩ hdn hoff hpg).mono ?_ ?_
  ·rintro v h' ⟨q1,b,c,q2,q3,q4⟩
   refine⟨ext κ2 h2.n,S,r2.own q1 (fun b _ e=>by subst e;omega) fun b hb=>Af hb,⟨q1.mono fun b e=> .inr e,fun b hb=>Af hb⟩,rfl,b,c,q2,q3,by omega,Bs q4⟩
  ·rintro v h' q;exact q.elim
 refine cal (c:=E3 L X r1 ka1 (fun b e=>by subst e;exact Nat.lt_succ_self _) cl1) (g:=?_)
 rintro v h2 ⟨κ',S',h1,r',a',k',hv⟩
 rw [hn1]at k'
 rcases hv with⟨rfl,u,rfl,b,c,q1,q2,q3,q4⟩|⟨e,rfl,q⟩
 ·have a2:=a'.own a1 fun b e=>by subst e;omega
  have q1':Bk h2 (h.n+1) [.slc b 0 S'.D.sz c]:=As k' (by omega) q1
  have q2':BS h2 b 0 (S'.rd s):=Rj k' (by omega) q2
  have lq:=q1'.lt
  have hk1:κ' (h.n+1)=200:=(a'.col _ (by rw [hn1];omega)).trans (upd_eq _ _ _)
  refine wk ?_
  refine ret X.f41 ?_
  refine⟨κ',b,c,rfl,lkb,q4,by omega,r'.out (B:=fun j=>j=h.n+1) ?_ (fun b _ e=>by subst e;omega),AChg.own (B:=fun j=>j=h.n+1) a2 ?_ (fun b e=>by subst e;omega) fun _ _=>rfl⟩
  ·exact kps
  ·exact kps
 ·exact q.elim
theorem Tp {ab:Nat}{s:Int}(r:ApR κ h I S)(ka:Bk h ab [.ptr I.s 0])(hs: ¬(0≤s∧s<S.S)):
  Ct P0 E F K 41 [.ptr ab 0,AI s] h
   (fun v h'=> ∃κ',v= .tup [.nils,AI ((3:Nat):Int)]∧ApR κ' h' I S∧AChg κ h κ' h'):=by
 have lk:=ka.lt
 refine Ae L X.f41 X.k41 rfl rfl fun Q x cs G=>?_
 refine wk ?_
 have k1:K0 h (hp (h.n+1+1) h.t [(h.n+1,some (cl [.nils])),(h.n,some (cl [AI s]))]):=kps
 have hc1: ∀b,b<h.n→upd (ext κ h.n) (h.n+1) 200 b=κ b:=fun b hb=>(upd_ne _ _ (by omega)).trans (Af hb)
 have r1:ApR (upd (ext κ h.n) (h.n+1) 200) (hp (h.n+1+1) h.t [(h.n+1,some (cl [.nils])),(h.n,some (cl [AI s]))]) I S:=r.k0 k1 hc1
 have a1:AChg κ h (upd (ext κ h.n) (h.n+1) 200) (hp (h.n+1+1) h.t [(h.n+1,some (cl [.nils])),(h.n,some (cl [AI s]))]):=AChg.k0 k1 hc1
 have kc1:Bk (hp (h.n+1+1) h.t [(h.n+1,some (cl [.nils])),(h.n,some (cl [AI s]))]) h.n [AI s]:=lkp
 have kb1:Bk (hp (h.n+1+1) h.t [(h.n+1,some (cl [.nils])),(h.n,some (cl [AI s]))]) (h.n+1) [.nils]:=lkp
 have ka1:=Ah k1 ka
 have hn1:(hp (h.n+1+1) h.t [(h.n+1,some (cl [.nils])),(h.n,some (cl [AI s]))]).n=h.n+2:=rfl
 have cl1: ∀κ2 h2,K0 (hp (h.n+1+1) h.t [(h.n+1,some (cl [.nils])),(h.n,some (cl [AI s]))]) h2→(hp (h.n+1+1) h.t [(h.n+1,some (cl [.nils])),(h.n,some (cl [AI s]))]).n<h2.n→(∀b,b<(hp (h.n+1+1) h.t [(h.n+1,some (cl [.nils])),(h.n,some (cl [AI s]))]).n→κ2 b=upd (ext κ h.n) (h.n+1) 200 b)→ApR κ2 h2 I S→CtX P0 E F K 96 (.ptr I.s 0:: [.ptr h.n 0,.ptr (h.n+1) 0]) h2
   (fun v h'=> ∃κ' S',ApR κ' h' I S'∧AChX (fun _=>False) κ2 h2 κ' h'∧False)
   (fun v h'=> ∃κ' S' e,v= .ifc 44 (AI e)∧ApR κ' h' I S'∧AChX (fun _=>False) κ2 h2 κ' h'∧(S'=S∧e=((3:Nat):Int)∧Bk h' (h.n+1) [.nils])):=by
  intro κ2 h2 k2 n2 c2 r2
  refine(Zd (bc:=h.n+1) L X r2 (Ah k2 kc1) hs).X.mono (fun v h' q=>q) ?_
  rintro v h' ⟨rfl,k3⟩
  exact⟨ext κ2 h2.n,S,_,rfl,r2.k0 k3 fun b hb=>Af hb,(AChg.k0 k3 fun b hb=>Af hb).x,rfl,rfl,Ah k3 (Ah k2 kb1)⟩
 refine cal (c:=E3 L X r1 ka1 (fun b e=>e.elim) cl1) (g:=?_)
 rintro v h2 ⟨κ',S',h1,r',a',k',hv⟩
 rw [hn1]at k'
 rcases hv with⟨rfl,u,q⟩|⟨e,rfl,rfl,rfl,q1⟩
 ·exact q.elim
 ·have a2:=a'.own a1 fun b e=>e.elim
  have q1':Bk h2 (h.n+1) [.nils]:=As k' (by omega) q1
  have lq:=q1'.lt
  have hk1:κ' (h.n+1)=200:=(a'.col _ (by rw [hn1];omega)).trans (upd_eq _ _ _)
  refine wk ?_
  refine ret X.f41 ?_
  refine⟨κ',rfl,r'.out (B:=fun j=>j=h.n+1) ?_ (fun b _ e=>by subst e;omega),AChg.own (B:=fun j=>j=h.n+1) a2 ?_ (fun b e=>by subst e;omega) fun _ _=>rfl⟩
  ·exact kps
  ·exact kps
end
end
def CtY (P:Program)(E:Env)(F:T CFn)(K:T (List AV×AV))(f:AFn)(args:List AV)(h:H)(post pan:AV→H→Prop):Prop:=
 ∀(Q:Nat→AV→Prop) (x:AFr) (cs:List AFr),(∀v h',post v h'→GO P E Q (finish v cs h' x))→(∀v h',pan v h'→Good P E Q ⟨Jk x [(v,false)],cs,h'⟩)→GO P E Q (Bq F K f args false x cs h)
section
variable {P:Program}{E:Env}{F:T CFn}{K:T (List AV×AV)}{Q:Nat→AV→Prop}
variable {fn nt:Nat}{l:List (Nat×Option AV)}{k:List AItem}{ds:List ADef}{dfd:Bool}{ro:Option Nat}{cs:List AFr}{h:H}{gd:Option (Nat×Bool)}{x:O}{r:List CI}
variable {n:Nat}{t:T Blk}{lh:List (Nat×Option Blk)}{post pan:AV→H→Prop}
variable (L:Lg P E F K)
theorem CtX.Y {f:Nat}{args:List AV}(c:CtX P E F K f args h post pan):CtY P E F K (.func f) args h post pan:=c
theorem CtY.mono {post' pan':AV→H→Prop}{f:AFn}{args:List AV}(c:CtY P E F K f args h post' pan')(m: ∀v h',post' v h'→post v h')(mp: ∀v h',pan' v h'→pan v h'):CtY P E F K f args h post pan:=
 fun Q x cs g gp=>c Q x cs (fun v h' p=>g v h' (m v h' p)) fun v h' p=>gp v h' (mp v h' p)
include L
theorem vu {d:Nat}{f:AFn}{a:List O}{fst va cp r0 args:List AV}(hg:gdO gd l=some true)(e:evO l x=some (.fn f fst cp))(ha:Dl l a=some va)(h0:C7 va cp=some r0)(hr:C7 fst r0=some args)(hc:CtY P E F K f args h post pan)
  (g: ∀v h',post v h'→Good P E Q ⟨⟨fn,nt,tms ((d,some v)::l),.ops r::k,ds,.run,dfd,ro⟩,cs,hp h'.n h'.t []⟩)
  (gp: ∀v h',pan v h'→Good P E Q ⟨⟨fn,nt,tms l,.ops (⟨some d,gd,.callv x a⟩::r)::k,ds,.panicking [(v,false)],dfd,ro⟩,cs,h'⟩):
  Good P E Q ⟨⟨fn,nt,tms l,.ops (⟨some d,gd,.callv x a⟩::r)::k,ds,.run,dfd,ro⟩,cs,h⟩:=
 J6 L (Av hg) (Kf e ha h0 hr) (hc Q _ cs (fun v h' p=>F8 L cvb (g v h' p)) fun v h' p=>gp v h' p)
theorem iz {f:AFn}{fst cp r0 args:List AV}{ps:List Nat}{a bd:CC}(e:evO l x=some (.fn f fst cp))(h0:C7 [.fn (.yield (n+1)) [] []] cp=some r0)(hr:C7 fst r0=some args)
  (hc:CtY P E F K f args (hp (n+2) t ((n+1,some (.loop ⟨.ready,none,fn,nt,tms l,ps,a,bd,n⟩))::(n,some (.dfr (some [])))::lh)) post pan)
  (g: ∀v h',post v h'→Good P E Q ⟨⟨fn,nt,tms l,.endRF (n+1)::k,.mark n::ds,.run,dfd,none⟩,cs,h'⟩)
  (gp: ∀v h',pan v h'→Good P E Q ⟨⟨fn,nt,tms l,.inRF (n+1)::k,.mark n::ds,.panicking [(v,false)],dfd,none⟩,cs,h'⟩):
  Good P E Q ⟨⟨fn,nt,tms l,.code (.rangeFunc x ps a bd)::k,ds,.run,dfd,none⟩,cs,hp n t lh⟩:=by
 refine A0 L ?_
 have e1:evL l x= .fn f fst cp:=Ab e
 have e2:List.append fst (.fn (.yield (Nat.succ n)) [] []::cp)=args:=by
  have q0:=Ez h0
  have q1:=Ez hr
  rw [←q0]at q1;exact q1
 simp only [Ev.step,Be,Bz,enterLoop,Ad,e1,e2]
 exact hc Q _ cs (fun v h' p=>g v h' p) fun v h' p=>gp v h' p
theorem Ze {lp:Nat}{ps:List Nat}{args:List AV}{a bd:CC}{l0 l1:List (Nat×Option AV)}{d:Nat}{st:LS}{pd:Option CC}(hl:H.get h lp=some (.loop ⟨st,pd,fn,nt,tms l0,ps,a,bd,d⟩))(hs:B9 ps args (tms l0)=some (tms l1))
  (body: ∀(Q:Nat→AV→Prop) (z:AFr) (cs:List AFr),(∀v h',post v h'→GO P E Q (finish v cs h' z))→(∀v h',pan v h'→Good P E Q ⟨Jk z [(v,false)],cs,h'⟩)→Good P E Q ⟨⟨fn,nt,tms l1,[.code a,.beginRound,.code bd],[],.run,false,some lp⟩,z::cs,hp h.n h.t []⟩):CtY P E F K (.yield lp) args h post pan:=by
 intro Q z cs hG hP
 simp only [Bq,hl,hs]
 exact body Q z cs hG hP
end
section
variable {P0:Program}{E:Env}{F:T CFn}{K:T (List AV×AV)}(L:Lg P0 E F K)(X:Fx F K)
include L X
section
variable {h:H}
theorem Vq {lp a b lo:Nat}{va vb':AV}{D:List Int}{g:Int→Int}{pan:AV→H→Prop}(hlen:D.length≤1000)(I:Nat→H→Prop)
  (hI: ∀i hh,I i hh→Bk hh a [va]∧Bk hh b [vb']∧RowN hh lo va D∧RowN hh lo vb' (D.map g)) (hK: ∀i hh h',I i hh→K0 hh h'→I i h')
  (hY: ∀i s hh,D[i]?=some s→I i hh→CtY P0 E F K (.yield lp) [AI s,AI (g s)] hh (fun u h'=>u= .bool true∧I (i+1) h') pan) (h0:I 0 h):
  CtX P0 E F K 144 [.fn (.yield lp) [] [],.ptr a 0,.ptr b 0] h (fun v h'=>I D.length h') pan:=by
 obtain⟨k1,k2,k3,k4⟩:=hI _ _ h0
 rcases k3.ex with⟨rfl,rfl⟩|⟨hp1,da,rfl,k5,k6⟩
 ·refine Bu L X.f144 X.k144 rfl rfl rfl fun Q x cs G Gp=>?_
  refine wk ?_
  refine A9 L ?_
  refine wk ?_
  refine ret X.f144 ?_
  exact hK _ _ _ h0 kps
 rcases k4.ex with⟨e0,rfl⟩|⟨hp2,db,rfl,k7,k8⟩
 ·rw [List.map_eq_nil_iff]at e0;rw [e0]at hp1;exact absurd hp1 (Nat.lt_irrefl 0)
 refine Bu L X.f144 X.k144 rfl rfl rfl fun Q x cs G Gp=>?_
 refine wk ?_
 refine Co L (α:= Unit) (T:=fun i _=> [(8,some (AI ((i:Nat):Int))),(7,some (AI ((D.length:Nat):Int))),(6,some (.slc da 0 D.length (Aa+1))),(2,some (.ptr b 0)),(0,some (.fn (.yield lp) [] []))]) (n:=D.length)
  (R:=fun i _ hh=>I i hh) (i0:=0) () tsb (hK _ _ _ h0 kps) (Nat.zero_le _) ?_ ?_
 ·rintro i _ h2 hi w ih
  have hx:D[i]?=some D[i]:=List.getElem?_eq_getElem hi
  have hxa:(D.map AI)[i]?=some (AI D[i]):=by rw [List.getElem?_map,hx];rfl
  have hxb:((D.map g).map AI)[i]?=some (AI (g D[i])):=by rw [List.getElem?_map,List.getElem?_map,hx];rfl
  have hl2:i<(D.map g).length:=by rw [List.length_map];exact hi
  obtain⟨j1,j2,j3,j4⟩:=hI _ _ w
  have j5:Bk h2 da (D.map AI):=by
   rcases j3.ex with⟨_,e⟩|⟨_,b',e,e2,_⟩
   ·cases e
   ·cases e;exact e2
  have j6:Bk h2 db ((D.map g).map AI):=by
   rcases j4.ex with⟨_,e⟩|⟨_,b',e,e2,_⟩
   ·cases e
   ·cases e;exact e2
  generalize D[i]=s at*
  refine wk ?_
  refine vu L rfl rfl rfl rfl rfl (hY i _ _ hx (hK i _ _ w (by exact kps))) ?_ ?_
  ·rintro _ h3 ⟨rfl,w3⟩
   refine wk ?_
   refine ih () _ _ w3 ?_;exact tsb
  ·intro v h3 w3
   refine An L X.f144 ?_
   exact Gp _ _ w3
 ·rintro _ h2 w
  refine wk ?_
  refine ret X.f144 ?_
  exact w
end
end
end Go.Ev
