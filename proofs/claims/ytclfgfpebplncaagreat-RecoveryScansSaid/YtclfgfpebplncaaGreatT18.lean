/- Part of the proof. -/
import Derived.Test.YtclfgfpebplncaaGreatT17
import Derived.Test.YtclfgfpebplncaaGreatT15
import Derived.Test.YtclfgfpebplncaaGreatT13
import Derived.Test.YtclfgfpebplncaaGreatT16
import Derived.Test.YtclfgfpebplncaaGreatT14
set_option linter.unusedVariables false
set_option linter.unusedSectionVars false
set_option linter.unusedSimpArgs false
set_option maxRecDepth 10000
set_option maxHeartbeats 4000000
namespace Go.Ev
section
variable {P0:Program}{E:Env}{F:T CFn}{K:T (List AV×AV)}(L:Lg P0 E F K)(X:Fx F K)
include L X
section
variable {h:H}
omit L X in
def Hz (LL:List PgE)(P:Nat)(z:Int):Nat:=match(LL.filter isJ)[z.toNat]? with
 |some x=>x.at_ / P
 |none=>0
omit L X in
theorem Ka {D:Dv}{bs bs':List Nat}(e: ∀b,b∈bs↔b∈bs')(n:Nat):jrn D bs n=jrn D bs' n∧drt D bs n=drt D bs' n:=by
 unfold jrn drt
 have: ∀b,decide (b∈bs)=decide (b∈bs'):=fun b=>by simp only [e b]
 simp only [this,and_self]
omit L X in
structure UM (Mu:List (Int×AV×Nat))(bs:List Nat)(n:Nat):Prop where
 a: ∀b∈bs,∃z:Int,Be Mu ((b:Nat):Int)=some (AI z)∧0<z∧z≤((n:Nat):Int)
 b: ∀b:Nat,b∉bs→Be Mu ((b:Nat):Int)=none
omit L X in
theorem UM.step {Mu:List (Int×AV×Nat)}{bs:List Nat}{n ck k:Nat}{z:Int}(q:UM Mu bs n)(hz0:0<z)(hz1:z≤((n+1:Nat):Int)):UM (Ew Mu ck ((k:Nat):Int) (AI z)) (bs++ [k]) (n+1):=by
 refine⟨fun b hb=>?_,fun b hb=>?_⟩
 ·rw [Du]
  by_cases e:((b:Nat):Int)=((k:Nat):Int)
  ·rw [if_pos e];exact⟨z,rfl,hz0,hz1⟩
  ·rw [if_neg e]
   rcases List.mem_append.1 hb with hb|hb
   ·obtain⟨z',h1,h2,h3⟩:=q.a b hb
    exact⟨z',h1,h2,by omega⟩
   ·rw [List.mem_singleton]at hb
    subst hb;exact absurd rfl e
 ·simp only [List.mem_append,List.mem_singleton,not_or]at hb
  rw [Du,if_neg (by omega)]
  exact q.b b hb.1
theorem S1 {Q:Nat→AV→Prop}{x:AFr}{cs:List AFr}{κ κ':Nat→Nat}{d fm bb:Nat}{D:Dv}{cb:List AV}{post:AV→H→Prop}(ok:D.Ok)(dc:DevC κ h d D fm bb cb){hh:H}{mu b6 sz last next:Nat}{ev lv v2:AV}{es:List Ent}{LL:List PgE}{zs:List Int}
  (w:K0 h hh) (kf:Bk hh h.n [ev,.int .u64 ((last:Nat):Int),.int .u64 ((next:Nat):Int),.nils,.nils]) (ke:Bk hh (h.n+1) [AI ((0:Nat):Int)]) (km:Mk hh mu [] 0) (hlo:h.n+2≤mu) (hev:EL hh (h.n+2) ev es)
  (kg:Bk hh b6 [AI ((D.nb:Nat):Int),AI ((D.P:Nat):Int),AI ((D.sz:Nat):Int),AI ((D.en:Nat):Int)]) (h6:h.n+2≤b6) (q:PL κ' hh sz peC lv (LL.filter isJ)) (hv:RowN hh (h.n+2) v2 zs) (hz: ∀z∈zs,∃j:Nat,z=((j:Nat):Int)∧j<(LL.filter isJ).length) (hl:zs.length≤100) (hL:(LL.filter isJ).length≤100) (hat: ∀y∈LL.filter isJ,y.at_<1000)
  (G: ∀v h',post v h'→GO P0 E Q (finish v cs h' x))
  (hp1: ∀v2 v3 h',RowN h' h.n v2 (jrn D (zs.map (Hz LL D.P)) D.nb)→RowN h' h.n v3 (drt D (zs.map (Hz LL D.P)) D.nb)→EL h' h.n ev es→K0 h h'→post (.tup [.agg [ev,.int .u64 ((last:Nat):Int),.int .u64 ((next:Nat):Int),v2,v3],AI ((0:Nat):Int)]) h')
  {lq:List (Nat×Option AV)} (ht:TSub (tms [(87,some (AI ((0:Nat):Int))),(86,some (AI ((zs.length:Nat):Int))),(85,some v2),(14,some (.map mu)),(12,some lv),(6,some (.ptr b6 0)),(5,some (.ptr (h.n+1) 0)),(4,some (.ptr h.n 0)),(0,some (.ptr d 0))]) (tms lq)):
  Good P0 E Q ⟨⟨14,cf14.ntmps,tms lq,[.code c14_42,.inBlock 2,.code c14_69],[.call 50 [.ptr h.n 0,.ptr (h.n+1) 0]],.run,false,none⟩,x::cs,hh⟩:=by
 have n0:=w.n
 have lmu:=km.lt
 have lke:=ke.lt
 have lkg:=kg.lt
 have lkf:=kf.lt
 have hnb:=ok.g.nb
 have hP:=ok.g.P
 refine Bb L (bd:=c14_41) (α:= List (Int×AV×Nat)×Nat) (T:=fun i _=> [(87,some (AI ((i:Nat):Int))),(86,some (AI ((zs.length:Nat):Int))),(85,some v2),(14,some (.map mu)),(12,some lv),(6,some (.ptr b6 0)),(5,some (.ptr (h.n+1) 0)),(4,some (.ptr h.n 0)),(0,some (.ptr d 0))]) (n:=zs.length)
  (R:=fun i s h2=>Kp (fun j=>j=mu) hh h2∧MOk s.1 s.2∧Mk h2 mu (s.1.map (mE AI)) s.2∧UM s.1 ((zs.take i).map (Hz LL D.P)) i) (i0:=0) ([],0) ht ⟨Kp.refl _,MOk.nil,km,⟨(fun b hb=>by cases hb),fun b _=>rfl⟩⟩ (Nat.zero_le _) ?_ ?_
 ·rintro i ⟨Mu,ck⟩ h2 hi ⟨w1,w2,w3,w4⟩ ih
  simp only at w2 w3 w4
  have n2:=w1.n
  have l3:=w3.lt
  have hx:zs[i]?=some zs[i]:=List.getElem?_eq_getElem hi
  obtain⟨j,hj1,hj2⟩:=hz _ (List.getElem_mem hi)
  have e1:(zs.take (i+1)).map (Hz LL D.P)=(zs.take i).map (Hz LL D.P)++ [Hz LL D.P ((j:Nat):Int)]:=by
   rw [List.take_add_one,hx,List.map_append,hj1];rfl
  have hxv:(zs.map AI)[i]?=some (AI ((j:Nat):Int)):=by rw [List.getElem?_map,hx,hj1];rfl
  obtain⟨l,hlm,q1,q2⟩:=q.ex
  have hjl:j<l.length:=by rw [←hlm,List.length_map]at hj2;exact hj2
  have hl100:l.length≤100:=by rw [←hlm,List.length_map]at hL;exact hL
  have hy:l[j]?=some l[j]:=List.getElem?_eq_getElem hjl
  have hbz:Hz LL D.P ((j:Nat):Int)=(l[j]).1.at_ / D.P:=by
   unfold Hz
   rw [Int.toNat_natCast,←hlm,List.getElem?_map,hy];rfl
  have hat':=hat (l[j]).1 (by rw [←hlm];exact List.mem_map_of_mem (List.getElem_mem hjl))
  have hf8: ∀x∈l,(peC sz x).length=8:=fun _ _=>rfl
  have hdx:=Bj l hf8 j _ hy
  rcases q2 with⟨rfl,rfl⟩|⟨q3,lb,rfl,q4,q5⟩
  ·exact absurd hjl (Nat.not_lt_zero _)
  have hatv:(l.flatMap (peC sz))[j*8+6]?=some (AI (((l[j]).1.at_:Nat):Int)):=by
   have:=congrArg (fun r=>r[6]?) hdx.2
   simp only [List.getElem?_take_of_lt (show 6<8 by omega),List.getElem?_drop]at this
   exact this
  rw [e1,hbz]at ih
  generalize (l[j]).1.at_=at9 at*
  have q4n:lb≠mu:=by
   intro e
   have:=q4.e
   rw [e,km.e]at this;cases this
  have q4':Bk h2 lb (l.flatMap (peC sz)):=A5 w1 q4n q4
  have kgn:b6≠mu:=by
   intro e
   have:=kg.e
   rw [e,km.e]at this;cases this
  have kg':=A5 w1 kgn kg
  rcases hv.ex with⟨rfl,_⟩|⟨_,ub,rfl,hu1,hu2⟩
  ·exact absurd hi (Nat.not_lt_zero _)
  have hun:ub≠mu:=by
   intro e
   have:=hu1.e
   rw [e,km.e]at this;cases this
  have hu':=A5 w1 hun hu1
  by_cases hb:at9 / D.P∈(zs.take i).map (Hz LL D.P)
  ·obtain⟨z,hz1,hz2,hz3⟩:=w4.a _ hb
   (try refine Br L 1000 rfl ?_);(repeat(first|(apply st1 L rfl;exact⟨Ei rfl⟩;rfl)|(apply st1 L rfl;exact Kj rfl rfl rfl;rfl)|(apply st1 L rfl;exact Hb rfl rfl (by omega);rfl)|(apply st1 L rfl;exact Dh rfl rfl (by omega);rfl)|(apply st1 L rfl;(apply Bp rfl;exact lkp;first|rfl|assumption);rfl)))
   refine Lj L ?_
   (repeat(first|(apply Au rfl rfl;exact⟨Ei rfl⟩)|(apply Au rfl rfl;exact Ig rfl rfl (by omega))|(apply Au rfl rfl;exact Lp rfl rfl (by omega))|(apply Au rfl rfl;(apply Bp rfl;exact lkp;first|rfl|assumption))|(apply Au rfl rfl;(apply E8 rfl;exact lkp;rfl))|(apply Kv rfl rfl)))
   (apply Au rfl rfl;exact Qb rfl rfl (by omega))
   (repeat(first|(apply Au rfl rfl;exact⟨Ei rfl⟩)|(apply Au rfl rfl;exact Ig rfl rfl (by omega))|(apply Au rfl rfl;exact Lp rfl rfl (by omega))|(apply Au rfl rfl;(apply Bp rfl;exact lkp;first|rfl|assumption))|(apply Au rfl rfl;(apply E8 rfl;exact lkp;rfl))|(apply Kv rfl rfl)))
   (apply Au rfl rfl;exact jk rfl rfl (by omega) (by omega))
   (apply Au rfl rfl;exact Gu (KE.int .i64) (M:=Mu) (k:=((at9 / D.P:Nat):Int)) rfl rfl lkq)
   rw [hz1]
   (apply Au rfl rfl;exact Xb (p:=z) (r:=((1:Nat):Int)) rfl rfl (by omega) (by omega))
   refine wk ?_
   (apply Jp L rfl rfl;exact Qq (k:=((at9 / D.P:Nat):Int)) (KE.int .i64) w2 rfl rfl rfl lkq)
   refine wk ?_
   refine ih (Ew Mu ck ((at9 / D.P:Nat):Int) (AI (z+((1:Nat):Int))),mCk Mu ck ((at9 / D.P:Nat):Int)) _ _ ⟨by exact kps,w2.set _ _,by exact lkq,w4.step (by omega) (by omega)⟩ tsb
  ·have hz1:=w4.b _ hb
   (try refine Br L 1000 rfl ?_);(repeat(first|(apply st1 L rfl;exact⟨Ei rfl⟩;rfl)|(apply st1 L rfl;exact Kj rfl rfl rfl;rfl)|(apply st1 L rfl;exact Hb rfl rfl (by omega);rfl)|(apply st1 L rfl;exact Dh rfl rfl (by omega);rfl)|(apply st1 L rfl;(apply Bp rfl;exact lkp;first|rfl|assumption);rfl)))
   refine Lj L ?_
   (repeat(first|(apply Au rfl rfl;exact⟨Ei rfl⟩)|(apply Au rfl rfl;exact Ig rfl rfl (by omega))|(apply Au rfl rfl;exact Lp rfl rfl (by omega))|(apply Au rfl rfl;(apply Bp rfl;exact lkp;first|rfl|assumption))|(apply Au rfl rfl;(apply E8 rfl;exact lkp;rfl))|(apply Kv rfl rfl)))
   (apply Au rfl rfl;exact Qb rfl rfl (by omega))
   (repeat(first|(apply Au rfl rfl;exact⟨Ei rfl⟩)|(apply Au rfl rfl;exact Ig rfl rfl (by omega))|(apply Au rfl rfl;exact Lp rfl rfl (by omega))|(apply Au rfl rfl;(apply Bp rfl;exact lkp;first|rfl|assumption))|(apply Au rfl rfl;(apply E8 rfl;exact lkp;rfl))|(apply Kv rfl rfl)))
   (apply Au rfl rfl;exact jk rfl rfl (by omega) (by omega))
   (apply Au rfl rfl;exact Gu (KE.int .i64) (M:=Mu) (k:=((at9 / D.P:Nat):Int)) rfl rfl lkq)
   rw [hz1]
   (apply Au rfl rfl;exact Xb (p:=((0:Nat):Int)) (r:=((1:Nat):Int)) rfl rfl (by omega) (by omega))
   refine wk ?_
   (apply Jp L rfl rfl;exact Qq (k:=((at9 / D.P:Nat):Int)) (KE.int .i64) w2 rfl rfl rfl lkq)
   refine wk ?_
   refine ih (Ew Mu ck ((at9 / D.P:Nat):Int) (AI (((0:Nat):Int)+((1:Nat):Int))),mCk Mu ck ((at9 / D.P:Nat):Int)) _ _ ⟨by exact kps,w2.set _ _,by exact lkq,w4.step (by omega) (by omega)⟩ tsb
 ·rintro⟨Mu,ck⟩ h2 ⟨w1,w2,w3,w4⟩
  simp only at w2 w3 w4
  rw [List.take_length]at w4
  have n2:=w1.n
  have kk:K0 h h2:=Kp.trS w1 (fun i hi e=>by omega) w
  have kg':Bk h2 b6 [AI ((D.nb:Nat):Int),AI ((D.P:Nat):Int),AI ((D.sz:Nat):Int),AI ((D.en:Nat):Int)]:=A5 w1 (by intro e;have:=kg.e;rw [e,km.e]at this;cases this) kg
  refine wk ?_
  refine V1 L X ok dc (mu:=mu) (es:=es) (bs:=zs.map (Hz LL D.P)) kk (A5 w1 (by omega) kf) (A5 w1 (by omega) ke) w3 hlo ?_ (fun b hb=>?_) w4.b G hp1 tsb
  ·exact hev.keep w1 (fun b n c e=>by
    intro e2
    rcases hev.ex with⟨_,f⟩|⟨_,b',f,f2,_⟩
    ·rw [f]at e;cases e
    ·rw [f]at e;cases e
     have:=f2.e
     rw [e2,km.e]at this;cases this)
  ·obtain⟨z,h1,h2,h3⟩:=w4.a b hb
   exact⟨z,h1,h2⟩
end
end
section
variable {P0:Program}{E:Env}{F:T CFn}{K:T (List AV×AV)}(L:Lg P0 E F K)(X:Fx F K)
include L X
section
variable {h:H}
omit L X in
def Fp (D:Dv)(S:Int)(h:H)(v:AV)(h':H):Prop:= ∃fv e f,v= .tup [fv,AI ((e:Nat):Int)]∧ScanR D S e f∧FdR h' h.n fv f∧K0 h h'
omit L X in
theorem D9 {D:Dv}{S:Int}{h h':H}{e:Nat}(q:ScanR D S e f0)(k:K0 h h'):Fp D S h (.tup [.agg [.nils,.int .u64 ((0:Nat):Int),.int .u64 ((0:Nat):Int),.nils,.nils],AI ((e:Nat):Int)]) h':=
 ⟨_,e,f0,rfl,q,⟨_,_,_,rfl,EL.nil _ _,⟨.inl ⟨rfl,rfl⟩⟩,⟨.inl ⟨rfl,rfl⟩⟩⟩,k⟩
omit L X in
theorem S2 {L:List PgE}{A:Int→Option Int}{Dm:List Int}(d:DomA A Dm):(∀e∈F6 A Dm,Bz L e=true)↔ ∀s p,A s=some p→Bz L (s,p)=true:=by
 unfold F6 atA
 constructor
 ·intro q s p hs
  have hm:s∈Dm:=(d.mem s).2 (by rw [hs];rfl)
  have:=q _ (List.mem_map.2 ⟨s,hm,rfl⟩)
  rw [hs]at this;exact this
 ·intro q e he
  obtain⟨s,hs,rfl⟩:=List.mem_map.1 he
  obtain⟨p,hp⟩:=Option.isSome_iff_exists.1 ((d.mem s).1 hs)
  rw [hp];exact q s p hp
omit L X in
theorem Kb {LL:List PgE}{P:Nat}{us:List Nat}(b:Nat):b∈(Dk (nI us)).map (Hz LL P)↔b∈Sw LL P us:=by
 have e:Sw LL P us=(nI us).map (Hz LL P):=by
  unfold Sw nI Hz
  rw [List.map_map];rfl
 rw [e]
 exact((F8 _).map _).mem_iff
omit L X in
theorem dq {LL:List PgE}{es:List Ent}(h: ¬ ∀e∈es,Bz LL e=true): ∃i0,i0<es.length∧(∀i e,i<i0→es[i]?=some e→Bz LL e=true)∧ ∀e,es[i0]?=some e→Bz LL e=false:=by
 cases hf:es.findIdx? (fun e=>!Bz LL e)with
 |none=>
  rw [List.findIdx?_eq_none_iff]at hf
  exact absurd (fun e he=>by have:=hf e he;simpa using this) h
 |some i0=>
  rw [List.findIdx?_eq_some_iff_getElem]at hf
  obtain⟨h1,h2,h3⟩:=hf
  refine⟨i0,h1,fun i e hi he=>?_,fun e he=>?_⟩
  ·obtain⟨h4,rfl⟩:=List.getElem?_eq_some_iff.1 he
   have:=h3 i hi
   simpa using this
  ·obtain⟨h4,rfl⟩:=List.getElem?_eq_some_iff.1 he
   simpa using h2
theorem V2 {Q:Nat→AV→Prop}{x:AFr}{cs:List AFr}{κ κ':Nat→Nat}{d fm bb Sn:Nat}{D:Dv}{cb:List AV}(U:SortOk P0 E F 171)(ok:D.Ok)(dc:DevC κ h d D fm bb cb)(hS:1≤Sn∧Sn≤1000)(hoff:D.off=false){hh:H}{b6 m r1 r2 vb:Nat}{lv:AV}
  (w:K0 h hh) (kf:Bk hh h.n [.nils,.int .u64 ((0:Nat):Int),.int .u64 ((1:Nat):Int),.nils,.nils]) (ke:Bk hh (h.n+1) [AI ((0:Nat):Int)])
  (kg:Bk hh b6 [AI ((D.nb:Nat):Int),AI ((D.P:Nat):Int),AI ((D.sz:Nat):Int),AI ((D.en:Nat):Int)]) (h6:h.n+2≤b6∧b6<r1∧b6<r2∧b6<vb) (mp:MpR Sn D.nb D.P hh m r1 r2 vb A0 0) (hm:h.n+2≤m∧h.n+2≤r1∧h.n+2≤r2∧h.n+2≤vb) (q:PL κ' hh D.sz peC lv (Ab D)) (hc:κ' h.n≠0∧κ' r1≠0∧κ' r2≠0∧κ' vb≠0)
  (G: ∀v h',Fp D ((Sn:Nat):Int) h v h'→GO P0 E Q (finish v cs h' x))
  {lq:List (Nat×Option AV)} (ht:TSub (tms [(45,some (AI ((0:Nat):Int))),(44,some (AI (((Ab D).length:Nat):Int))),(43,some lv),(9,some lv),(7,some (.ptr m 0)),(6,some (.ptr b6 0)),(5,some (.ptr (h.n+1) 0)),(4,some (.ptr h.n 0)),(0,some (.ptr d 0))]) (tms lq)):
  Good P0 E Q ⟨⟨14,cf14.ntmps,tms lq,[.code c14_22,.inBlock 0,.code c14_76],[.call 50 [.ptr h.n 0,.ptr (h.n+1) 0]],.run,false,none⟩,x::cs,hh⟩:=by
 have n0:=w.n
 have lke:=ke.lt
 have lkg:=kg.lt
 have lkf:=kf.lt
 have hnb:=ok.g.nb
 have hP:=ok.g.P
 have hsz:=ok.g.sz
 have mlt:=mp.lt
 have hpl:=C8 ok
 have hjl:=Ze ok
 refine Bb L (bd:=c14_21) (α:= Unit) (T:=fun i _=> [(45,some (AI ((i:Nat):Int))),(44,some (AI (((Ab D).length:Nat):Int))),(43,some lv),(9,some lv),(7,some (.ptr m 0)),(6,some (.ptr b6 0)),(5,some (.ptr (h.n+1) 0)),(4,some (.ptr h.n 0)),(0,some (.ptr d 0))]) (n:=(Ab D).length)
  (R:=fun i _ h2=>Kp (fun j=>j=h.n) hh h2∧Bk h2 h.n [.nils,.int .u64 ((0:Nat):Int),.int .u64 ((Eu ((Ab D).take i):Nat):Int),.nils,.nils]∧ ∀y∈(Ab D).take i,y.s.seq<9223372036854775808) (i0:=0) () ht ⟨Kp.refl _,kf,fun y hy=>by cases hy⟩ (Nat.zero_le _) ?_ ?_
 ·rintro i _ h2 hi ⟨w1,w2,w3⟩ ih
  have n2:=w1.n
  have l3:=w2.lt
  have hnx:=Sv _ w3
  have hxp:(Ab D)[i]?=some (Ab D)[i]:=List.getElem?_eq_getElem hi
  have e1:=N8 hxp
  have e2: ∀y∈(Ab D).take (i+1),y∈(Ab D).take i∨y=(Ab D)[i]:=by
   intro y hy
   rw [List.take_add_one,hxp]at hy
   rcases List.mem_append.1 hy with hy|hy
   ·exact .inl hy
   ·exact .inr (by simpa using hy)
  have hmem:=List.getElem_mem hi
  obtain⟨l,hlm,q1,q2⟩:=q.ex
  have hil:i<l.length:=by rw [←hlm,List.length_map]at hi;exact hi
  have hll:l.length≤36:=by rw [←hlm,List.length_map]at hpl;exact hpl
  have hx:l[i]?=some l[i]:=List.getElem?_eq_getElem hil
  have hy:(l[i]).1=(Ab D)[i]:=by
   have:(l.map (·.1))[i]?=some (l[i]).1:=by rw [List.getElem?_map,hx];rfl
   rw [hlm,hxp]at this
   simp only [Option.some.injEq]at this
   exact this.symm
  have hf8: ∀x∈l,(peC D.sz x).length=8:=fun _ _=>rfl
  have hdt:=Bj l hf8 i _ hx
  rcases q2 with⟨rfl,rfl⟩|⟨q3,lb,rfl,q4,q5⟩
  ·exact absurd hil (Nat.not_lt_zero _)
  rw [←hy]at e1 e2 hmem
  rw [e1]at ih
  generalize l[i]=y at*
  obtain⟨⟨pa,s,data⟩,db⟩:=y
  simp only at e1 e2 hmem ih
  have hdt':i*8+8≤(l.flatMap (peC D.sz)).length∧((l.flatMap (peC D.sz)).drop (i*8)).take 8= [.int .u8 ((s.kind:Nat):Int),.int .i64 s.sec,.int .u64 ((s.seq:Nat):Int),.int .u64 ((s.prev:Nat):Int),.int .i64 s.idx,.int .i64 s.len,.int .i64 ((pa:Nat):Int),.slc db 0 D.sz (Ac+1)]:=hdt
  have q4n:lb≠h.n:=by
   intro e
   have h8:=kf.e
   rw [←e,q4.e]at h8
   simp only [Option.some.injEq]at h8
   have:=congrArg (fun b=>match b with|Blk.cells _ n _=>n|_=>0) h8
   have h9:(l.flatMap (peC D.sz)).length=5:=this
   rw [Co l hf8]at h9
   omega
  have q4':Bk h2 lb (l.flatMap (peC D.sz)):=A5 w1 q4n q4
  have kr:=q4'.rk
  have ke2:=A5 w1 (by omega) ke
  refine wk ?_
  (apply st1 L rfl;exact B6 lkr hdt' rfl;rfl)
  by_cases hb:s.seq<9223372036854775808
  ·refine wk ?_
   refine cal (c:=Ek L X) (g:=?_)
   rintro _ rfl
   refine wk ?_
   (apply st1 L rfl;exact Xw rfl rfl rfl (by simp only [pw];omega);rfl)
   refine wk ?_
   refine ih () _ _ ⟨by exact kps,by exact lkp,fun y hy=>?_⟩ tsb
   rcases e2 y hy with e|e
   ·exact w3 y e
   ·rw [e];exact hb
  ·refine wk ?_
   refine Ex L rfl rfl rfl rfl rfl (E5 L X) ?_
   rintro _ _ ⟨rfl,rfl⟩
   refine Fo L X rfl rfl lkp lkp (by omega) G fun h9 k9=>D9 (e:=6) (.inr (.inr (.inl ⟨by omega,hoff,⟨_,hmem,by show 9223372036854775808≤s.seq;omega⟩,rfl,rfl⟩))) (Kp.trS k9 (fun i hi e=>by omega) kps)
 ·rintro _ h2 ⟨w1,w2,w3⟩
  rw [List.take_length]at w2 w3
  have n2:=w1.n
  have l3:=w2.lt
  have hnb': ¬c8 (Ab D):=by
   rintro⟨y,hy,f⟩
   have:=w3 y hy
   omega
  have hjm:=Zd ok hnb'
  have ke2:=A5 w1 (by omega) ke
  have kg2:Bk h2 b6 [AI ((D.nb:Nat):Int),AI ((D.P:Nat):Int),AI ((D.sz:Nat):Int),AI ((D.en:Nat):Int)]:=A5 w1 (by omega) kg
  have mp2:=mp.kp w1 (by omega) (by omega) (by omega) (by omega)
  have mlt2:=mp2.lt
  have q2:=q.fw (w1.fw (κ:= κ') fun b _ e=>by rw [e];exact hc.1)
  have hA0:InvA Sn (D.nb*D.P) A0:=⟨fun s p e=>(by cases e),fun s s' p e=>(by cases e)⟩
  refine wk ?_
  refine cal (c:=Uc L X q2 (by omega) (fun h2 x hx hl=>nj L X hx hl (by omega))) (g:=?_)
  rintro lg h3 ⟨w5,w6⟩
  have n3:=w6.n
  try simp only [Ah]at n3
  refine wk ?_
  refine cal (c:=np L X U w5 (by omega) hjl hjm) (g:=?_)
  rintro _ h4 ⟨o,ks,v1,v2,rfl,y1,y2,y3,y4,y5⟩
  have n4:=y5.n
  try simp only [Ah]at n4
  obtain⟨b1,b2,b3,b4⟩:=K4 (fun p hp=>(hjm p hp).1) y1 y2
  have bE:=mz (fun p hp=>(hjm p hp).2.2) ks
  have hn0: ¬D.off=true:=by rw [hoff];simp
  have res: ∀e f,na D ((Sn:Nat):Int) ks e f→ScanR D ((Sn:Nat):Int) e f:=fun e f g=> .inr (.inr (.inr ⟨by omega,hoff,hnb',o,ks,y1,y2,g⟩))
  have hjf:((Ab D).filter isJ).length=(jps (Ab D)).length:=by unfold jps;rw [List.length_map]
  have hus: ∀z∈Dk (nI (chU (jps (Ab D)) ks)),∃j:Nat,z=((j:Nat):Int)∧j<((Ab D).filter isJ).length:=by
   intro z hz
   rw [(F8 _).mem_iff]at hz
   obtain⟨j,hj,rfl⟩:=List.mem_map.1 hz
   exact⟨j,rfl,by rw [hjf];exact b3 j hj⟩
  have hul:(Dk (nI (chU (jps (Ab D)) ks))).length≤36:=by
   rw [Df];unfold nI;rw [List.length_map];omega
  have hpl3:As [v1,.int .u64 ((chL ks:Nat):Int),v2]=true:=by
   have a1:=y3.plain.2
   have a2:Az v2=true:=by
    rcases y4.ex with⟨_,rfl⟩|⟨_,b,rfl,_⟩ <;> rfl
   show(match Az v1 with|true=>(match Az v2 with|true=>true|false=>false)|false=>false)=true
   rw [a1,a2]
  refine wk ?_
  (apply stS L rfl rfl rfl rfl rfl hpl3;exact lkp;rfl;rfl)
  refine wk ?_
  refine cal (c:=cx L X (lo:=h3.n) (mp2.kp (B:=fun j=>False) (by exact kps) id id id id) hA0 (y3.k0 (by exact kps)) (by omega) (by omega)) (g:=?_)
  rintro _ h5 ⟨e,rfl,w7,w8⟩
  have n5:=w7.n
  simp only [Ah]at n5
  rcases w8 with⟨rfl,a1,a2⟩|⟨a1,a2,j,xx,a3,a4,a5⟩
  rotate_left
  ·refine wk ?_
   refine Ex L rfl rfl rfl rfl rfl (E5 L X) ?_
   rintro _ _ ⟨rfl,rfl⟩
   refine Fo L X rfl rfl lkp lkp (by omega) G fun h9 k9=>D9 (e:=6) (res _ _ (.inl ⟨fun g=>a5 (g.1 j xx a3),rfl,rfl⟩)) (Kp.trS k9 (fun i hi e=>by omega) kps)
  refine wk ?_
  refine cal (c:=Ek L X) (g:=?_)
  rintro _ rfl
  refine wk ?_
  refine cal (c:=Vw L X U a2) (g:=?_)
  rintro ev h7 ⟨Dm,d1,d2,d3,d4⟩
  have n7:=d4.n
  try simp only [Ah]at n7
  have p1:=d3.plain
  refine wk ?_
  (apply Qh L rfl rfl rfl rfl rfl rfl rfl;exact lkp;rfl;intro h9 hs9;(repeat(first|(apply Au rfl rfl;exact opv)|(apply Kv rfl rfl)));(first|(apply p_0;exact chk)|(refine Tr L ?_ rfl ?_;exact chk));refine Od L hs9 ?_)
  (apply um L rfl rfl rfl rfl p1.1 p1.2;exact lkp;(show 0<5;omega);refine Br L 1000 rfl ?_)
  refine wk ?_
  have hDl:(F6 (stA A0 (chE (jps (Ab D)) ks) (chE (jps (Ab D)) ks).length) Dm).length≤10000:=by
   unfold F6;rw [List.length_map];omega
  have hg:(∀e∈F6 (stA A0 (chE (jps (Ab D)) ks) (chE (jps (Ab D)) ks).length) Dm,Bz (Ab D) e=true)↔ ∀s p,AE (chE (jps (Ab D)) ks) s=some p→Bz (Ab D) (s,p)=true:=S2 d1
  have kS: ∀h9,Kp (fun j=>j=h.n∨j=r1∨j=r2∨j=vb) h2 h9→PL κ' h9 D.sz peC lv (Ab D):=fun h9 k9=>q2.fw (k9.fw (κ:= κ') fun b _ e=>by
   rcases e with rfl|rfl|rfl|rfl
   ·exact hc.1
   ·exact hc.2.1
   ·exact hc.2.2.1
   ·exact hc.2.2.2)
  by_cases hall: ∀e∈F6 (stA A0 (chE (jps (Ab D)) ks) (chE (jps (Ab D)) ks).length) Dm,Bz (Ab D) e=true
  rotate_left
  ·obtain⟨i0,g1,g2,g3⟩:=dq hall
   refine Ex L rfl rfl rfl rfl rfl (X2 L X (lo:=h5.n) (kS _ (by exact kps)) (d3.kS (S:=fun j=>j=h.n) (by exact kps) (fun b hb e=>by omega)) (by omega) hDl g1 g2 g3) ?_
   rintro _ h8 ⟨rfl,w9⟩
   have n8:=w9.n
   try simp only [Ah]at n8
   refine Fo L X rfl rfl lkp lkp (by omega) G fun h9 k9=>D9 (e:=6) (res _ _ (.inl ⟨fun g=>hall (hg.2 g.2),rfl,rfl⟩)) (Kp.trS k9 (fun i hi e=>by omega) kps)
  refine cal (c:=dm L X (lo:=h5.n) (kS _ (by exact kps)) (d3.kS (S:=fun j=>j=h.n) (by exact kps) (fun b hb e=>by omega)) (by omega) hDl hall) (g:=?_)
  rintro _ h8 ⟨rfl,w9⟩
  have n8:=w9.n
  try simp only [Ah]at n8
  have w5':=fun h9 (k9:Kp (fun j=>j=h.n∨j=r1∨j=r2∨j=vb) h3 h9)=>w5.fw (k9.fw (κ:= ext κ' h2.n) fun b _ e=>by
   rcases e with rfl|rfl|rfl|rfl
   ·rw [B1 (by omega)];exact hc.1
   ·rw [B1 (by omega)];exact hc.2.1
   ·rw [B1 (by omega)];exact hc.2.2.1
   ·rw [B1 (by omega)];exact hc.2.2.2)
  have fin: ∀v2 v3 h',RowN h' h.n v2 (jrn D ((Dk (nI (chU (jps (Ab D)) ks))).map (Hz (Ab D) D.P)) D.nb)→RowN h' h.n v3 (drt D ((Dk (nI (chU (jps (Ab D)) ks))).map (Hz (Ab D) D.P)) D.nb)→EL h' h.n ev (F6 (stA A0 (chE (jps (Ab D)) ks) (chE (jps (Ab D)) ks).length) Dm)→K0 h h'→Fp D ((Sn:Nat):Int) h (.tup [.agg [ev,.int .u64 ((chL ks:Nat):Int),.int .u64 ((Eu (Ab D):Nat):Int),v2,v3],AI ((0:Nat):Int)]) h':=by
   intro v2 v3 h' r2 r3 re k
   rw [(Ka (fun b=>Kb b) D.nb).1]at r2
   rw [(Ka (fun b=>Kb b) D.nb).2]at r3
   exact⟨_,0,_,rfl,res _ _ (.inr ⟨⟨a1,hg.1 hall⟩,rfl,Dm,d1,rfl⟩),⟨ev,v2,v3,rfl,re,r2,r3⟩,k⟩
  have hats: ∀y∈(Ab D).filter isJ,y.at_<1000:=fun y hy=>by
   have:=(G7 ok (List.mem_filter.1 hy).1).lt
   have:D.nb*D.P≤6*6:=Nat.mul_le_mul hnb.2 hP.2
   omega
  have hfl:((Ab D).filter isJ).length≤100:=by rw [hjf];omega
  have y4':=y4
  rcases y4.ex with⟨ez,rfl⟩|⟨ez,ub,rfl,_,_⟩
  ·refine wk ?_
   refine S1 L X ok dc (last:=chL ks) (next:=Eu (Ab D)) (zs:=Dk (nI (chU (jps (Ab D)) ks))) (LL:=Ab D) (sz:=D.sz) (es:=F6 (stA A0 (chE (jps (Ab D)) ks) (chE (jps (Ab D)) ks).length) Dm) (by exact kps) (by exact lkp) (by exact lkp) (by exact lkq) (by omega) ?_ (by exact lkp) h6.1 (w5' _ (by exact kps)) ⟨.inl ⟨ez,rfl⟩⟩ hus (by omega) hfl hats G fin (by rw [ez];exact tsb)
   exact(d3.kS (S:=fun j=>j=h.n) (by exact kps) (fun b hb e=>by omega)).mono (by omega)
  ·refine wk ?_
   refine S1 L X ok dc (last:=chL ks) (next:=Eu (Ab D)) (zs:=Dk (nI (chU (jps (Ab D)) ks))) (LL:=Ab D) (sz:=D.sz) (es:=F6 (stA A0 (chE (jps (Ab D)) ks) (chE (jps (Ab D)) ks).length) Dm) (by exact kps) (by exact lkp) (by exact lkp) (by exact lkq) (by omega) ?_ (by exact lkp) h6.1 (w5' _ (by exact kps)) ?_ hus (by omega) hfl hats G fin tsb
   ·exact(d3.kS (S:=fun j=>j=h.n) (by exact kps) (fun b hb e=>by omega)).mono (by omega)
   ·exact RowN.mono (RowN.kq y4' (S:=fun j=>j=h.n∨j=r1∨j=r2∨j=vb) (by exact kps) (fun b hb e=>by omega)) (by omega)
end
end
section
variable {P0:Program}{E:Env}{F:T CFn}{K:T (List AV×AV)}(L:Lg P0 E F K)(X:Fx F K)
include L X
section
variable {h:H}
theorem s8 {S nb P:Nat}(hS:1≤S∧S≤1000)(hn:2≤nb∧nb≤6)(hP:2≤P∧P≤6):Ct P0 E F K 53 [AI ((S:Nat):Int),AI ((nb:Nat):Int),AI ((P:Nat):Int)] h fun v h'=> ∃m r1 r2 vb,v= .tup [.ptr m 0,AI ((0:Nat):Int)]∧MpR S nb P h' m r1 r2 vb (fun _=>none) 0∧K0 h h'∧h.n≤m∧h.n≤r1∧h.n≤r2∧h.n≤vb:=by
 refine A6 L X.f53 X.k53 rfl rfl fun Q x cs G=>?_
 refine wk ?_
 refine ret X.f53 ?_
 refine⟨h.n+1+1+1,h.n,h.n+1,h.n+1+1,rfl,⟨lkp,by omega,fun s p e=>(by cases e),by omega,[],[],0,0,List.replicate nb (AI 0),lkq,MOk.nil,lkq,MOk.nil,?_,by simp,?_,⟨fun _=>rfl,fun s p e=>(by cases e),fun p u e=>(by cases e)⟩⟩,kps,by omega,by omega,by omega,by omega⟩
 ·have e: ∀n,rl [AI ((0:Nat):Int)] n=List.replicate n (AI 0):=by
   intro n
   induction n with
   |zero=>rfl
   |succ k ih=>show AI 0::rl [AI 0] k=_;rw [List.replicate_succ];exact congrArg _ ih
  rw [←e]
  exact lkp
 ·intro i hi
  exact⟨0,by simp [hi],by omega,by omega⟩
theorem nq {S nb P:Nat}{s:Int}(hS:s<1)(hn:2≤nb∧nb≤6)(hP:2≤P∧P≤6):Ct P0 E F K 53 [AI s,AI ((nb:Nat):Int),AI ((P:Nat):Int)] h fun v h'=>v= .tup [.nilp,AI ((2:Nat):Int)]∧h'=h:=by
 refine A6 L X.f53 X.k53 rfl rfl fun Q x cs G=>?_
 refine wk ?_
 refine ret X.f53 ?_
 exact⟨rfl,rfl⟩
end
end
section
variable {P0:Program}{E:Env}{F:T CFn}{K:T (List AV×AV)}(L:Lg P0 E F K)(X:Fx F K)
include L X
section
variable {κ: Nat→Nat}{h0 h:H}{Q:Nat→AV→Prop}{cs:List AFr}{g0 g1 g2 g3 i sb cap a9 d e:Nat}{D D2:Dv}{rv:List AV}{l:List (St×AV)}
theorem Zm (q:BI κ h h0.n (h0.n+1) a9 d (Hc g0 g1 g2 g3) D D rv (.slc sb 0 l.length cap) l)(hn:D.n≤i+1)(hsz:D.sz=g2)(hk:K0 h0 h)(z: ∀b,b<h0.n→κ b=0)(hi:i<30)(h9:h0.n+1<a9)
  (ih: ∀(s':(Nat→Nat)×Dv×List AV) (h':H) (l':List (Nat×Option AV)),BJ h0 s'.1 h' a9 d (Hc g0 g1 g2 g3) g2 (i+1) s'.2.1 s'.2.2 (.slc sb 0 l.length cap) l→TSub (tms (BT (i+1) h0.n a9 d (.slc sb 0 l.length cap))) (tms l')→Good P0 E Q ⟨⟨8,cf8.ntmps,tms l',[.inLoop c8_59,.inBlock 0,.code c8_64],[],.run,false,none⟩,cs,h'⟩):
  Good P0 E Q ⟨⟨8,cf8.ntmps,tms ([(134,some (.int .i64 ((e:Nat):Int))),(8,some (.int .i64 ((e:Nat):Int))),(10,some (.int .i64 ((e:Nat):Int))),(11,some (.int .i64 ((i:Nat):Int))),(1,some (.slc sb 0 l.length cap)),(2,some (.ptr h0.n 0)),(5,some (.ptr (h0.n+1) 0)),(7,some (.ptr d 0)),(9,some (.ptr a9 0))]),[.ops (Eh c8_44 1),.code c8_47,.code c8_51,.inBlock 1,.code c8_57,.inLoop c8_59,.inBlock 0,.code c8_64],[],.run,false,none⟩,cs,hp h.n h.t []⟩:=by
 refine cal (c:=Xy L X) (g:=?_)
 rintro _ rfl
 have qk9:=q.k9
 have qrd:=q.rd
 obtain⟨rok,fb1,pb1,eb1,ecap1,cp1,ce1,rfl,hec,rdc⟩:=qrd
 refine wk ?_
 have qdv:=q.dv
 obtain⟨ok,fm,bb,cb,r⟩:=qdv
 refine cal (c:=Xd L X r.dk) (g:=?_)
 rintro _ h1 ⟨rfl,w1,w2⟩
 have ch:=r.chd w2
 have q1:=q.ch ch ⟨ok.on,fm,bb,cb,r.cnt w1 w2 rfl rfl rfl⟩
 have z1:=ch.z hk z
 have k1:=ch.out hk z
 have qk9:=q1.k9
 refine wk ?_
 refine cal (c:=Vj L X) (g:=?_)
 rintro _ h2 ⟨rfl,w3⟩
 have q2:=q1.k0 w3
 have n2:=w3.n
 have m9:=q1.k9.lt
 have qk9:=q2.k9
 refine wk ?_
 refine ih (_,{D with cut:= -1,off:=false},rvC {D with cut:= -1,off:=false} fb1 pb1 eb1 ecap1) _ _ ⟨q2.w9 (q2.rd.cnt ok.on rfl rfl rfl) (by omega) (by omega),hn,rfl,hsz,?_,Fz z1⟩ tsb
 exact kps
theorem Oz {a12:Nat}{blk:Int}{r12:List AV}(q:BI κ h h0.n (h0.n+1) a9 d (Hc g0 g1 g2 g3) D D rv (.slc sb 0 l.length cap) l)(k12:Bk h a12 (.int .i64 blk::r12))(c12:κ a12=100)(hn:D.n≤i)(hsz:D.sz=g2)(hk:K0 h0 h)(z: ∀b,b<h0.n→κ b=0)(hi:i<30)(h9:h0.n+1<a9)(h12:a9<a12)
  (ih: ∀(s':(Nat→Nat)×Dv×List AV) (h':H) (l':List (Nat×Option AV)),BJ h0 s'.1 h' a9 d (Hc g0 g1 g2 g3) g2 (i+1) s'.2.1 s'.2.2 (.slc sb 0 l.length cap) l→TSub (tms (BT (i+1) h0.n a9 d (.slc sb 0 l.length cap))) (tms l')→Good P0 E Q ⟨⟨8,cf8.ntmps,tms l',[.inLoop c8_59,.inBlock 0,.code c8_64],[],.run,false,none⟩,cs,h'⟩):
  Good P0 E Q ⟨⟨8,cf8.ntmps,tms ([(79,some (.agg rv)),(81,some (.int .i64 blk)),(12,some (.ptr a12 0)),(11,some (.int .i64 ((i:Nat):Int))),(1,some (.slc sb 0 l.length cap)),(2,some (.ptr h0.n 0)),(5,some (.ptr (h0.n+1) 0)),(7,some (.ptr d 0)),(9,some (.ptr a9 0))]),[.ops (Eh c8_20 3),.code c8_21,.code c8_52,.inBlock 1,.code c8_57,.inLoop c8_59,.inBlock 0,.code c8_64],[],.run,false,none⟩,cs,hp h.n h.t []⟩:=by
 have qk9:=q.k9
 have qrd:=q.rd
 obtain⟨rok,fb1,pb1,eb1,ecap1,cp1,ce1,rfl,hec,rdc⟩:=qrd
 have l9:=qk9.lt
 have l12:=k12.lt
 refine cal (c:=Sg L X (κ:= κ) (D:=D) q.rd (by omega)) (g:=?_)
 rintro _ h1 ⟨rv2,rfl,w1,w2⟩
 have n1:=w2.n
 have q1:=q.k0 w2
 have w3:=w1
 obtain⟨-,fb2,pb2,eb2,ecap2,cp2,ce2,rfl,-,-⟩:=w3
 have qk9:=q1.k9
 have k13:=Aj w2 k12
 have c13:ext κ h.n a12=100:=(B1 l12).trans c12
 refine wk ?_
 have q2:=BI.w9 (n:=h1.n) (t:=h1.t) (lh:= []) q1 w1 (by omega) (by omega)
 refine cal (c:=Se L X q2.dv (by omega)) (g:=?_)
 rintro _ h2 ⟨rfl,κ3,w4,w5⟩
 have q3:=q2.ch w5 w4
 have k14:Bk h2 a12 (.int .i64 blk::r12):=A5 w5.k (by rw [c13];omega) (by exact lkp)
 have sm:=D.erase_same blk
 have kk:K0 h0 (hp h1.n h1.t [(a9,some (cl (rvC (D.erase blk).1 fb2 pb2 eb2 ecap2)))]):=kps
 refine wk ?_
 refine keep L (nm:= [134,8,10,11,1,2,5,7,9]) rfl ?_
 exact Zm L X q3 (by have:=sm.n;omega) (sm.sz.trans hsz) (w5.out kk (Fz z)) (w5.z kk (Fz z)) hi h9 ih
omit L X in
theorem nr (s:Sp)(data:List Nat):(Iz s data).length=64:=by unfold Iz;rw [List.length_append,Im,Do]
omit L X in
theorem ns {s:Sp}(h:s.kind<256)(data:List Nat):AllB (Iz s data):=(Kx h).app (Fb _ _)
def cel (blk:Int)(er cut:Bool)(byt:Int)(sp:Sp)(dat:Nat)(ev:AV):List AV:= [.int .i64 blk,.bool er,.bool cut,.int .i64 byt,.int .u8 ((sp.kind:Nat):Int),.int .i64 sp.sec,.int .u64 ((sp.seq:Nat):Int),.int .u64 ((sp.prev:Nat):Int),.int .i64 sp.idx,.int .i64 sp.len,.int .u8 ((dat:Nat):Int),ev]
theorem Uf {a12 db dat:Nat}{blk byt:Int}{er cut:Bool}{sp:Sp}{ev:AV}{data:List Nat}(q:BI κ h h0.n (h0.n+1) a9 d (Hc g0 g1 g2 g3) D D rv (.slc sb 0 l.length cap) l)(k12:Bk h a12 (cel blk er cut byt sp dat ev))(c12:κ a12=100)(hn:D.n≤i)(hsz:D.sz=g2)(hk:K0 h0 h)(z: ∀b,b<h0.n→κ b=0)(hi:i<30)(h9:h0.n+1<a9)(h12:a9<a12)
  (hs:sp.Ok) (kd:BS h db 0 data) (cd:κ db=0) (hd:data.length=g2)
  (ih: ∀(s':(Nat→Nat)×Dv×List AV) (h':H) (l':List (Nat×Option AV)),BJ h0 s'.1 h' a9 d (Hc g0 g1 g2 g3) g2 (i+1) s'.2.1 s'.2.2 (.slc sb 0 l.length cap) l→TSub (tms (BT (i+1) h0.n a9 d (.slc sb 0 l.length cap))) (tms l')→Good P0 E Q ⟨⟨8,cf8.ntmps,tms l',[.inLoop c8_59,.inBlock 0,.code c8_64],[],.run,false,none⟩,cs,h'⟩):
  Good P0 E Q ⟨⟨8,cf8.ntmps,tms ([(13,some (.slc db 0 g2 g2)),(12,some (.ptr a12 0)),(11,some (.int .i64 ((i:Nat):Int))),(1,some (.slc sb 0 l.length cap)),(2,some (.ptr h0.n 0)),(5,some (.ptr (h0.n+1) 0)),(7,some (.ptr d 0)),(9,some (.ptr a9 0))]),[.ops (Eh c8_33 0),.code c8_38,.code c8_52,.inBlock 1,.code c8_57,.inLoop c8_59,.inBlock 0,.code c8_64],[],.run,false,none⟩,cs,hp h.n h.t []⟩:=by
 subst hsz
 have qk9:=q.k9
 have qrd:=q.rd
 obtain⟨rok,fb1,pb1,eb1,ecap1,cp1,ce1,rfl,hec,rdc⟩:=qrd
 have l9:=qk9.lt
 have l12:=k12.lt
 have gsz:=rok.g.sz
 unfold cel at k12
 refine wk ?_
 refine cal (c:=Vk L X (i:=blk) rdc rok) (g:=?_)
 rintro _ h1 ⟨rfl,w1⟩
 have n1:=w1.n
 have q1:=q.k0 w1
 have k13:=Aj w1 k12
 have kd1:=kd.k0 w1
 refine wk ?_
 refine cal (c:=lj L X (s:=sp) (data:=data) hs kd1 hd (by omega)) (g:=?_)
 rintro _ h2 ⟨xb,rfl,w2,w3,w4⟩
 have n2:=w4.n
 have q2:=q1.k0 w4
 have qk9:=q2.k9
 have k14:=Aj w4 k13
 have kd2:=kd1.k0 w4
 have kx2:BS h2 xb 0 (Iz sp data):=Sd w2 (ns hs.kind data)
 have rl:=nr sp data
 refine wk ?_
 refine cal (c:=Vl L X (i:=blk) (D:=D) (data:=data) (extra:=Iz sp data) q2.rd (by omega) (fun hh=>by rw [if_pos hh]) kd2 kx2 hd rl) (g:=?_)
 rintro _ h3 ⟨rv2,rfl,w5,w6⟩
 have n3:=w6.n
 have q3:=q2.k0 w6
 have w7:=w5
 obtain⟨-,fb2,pb2,eb2,ecap2,cp2,ce2,rfl,-,-⟩:=w7
 have qk9:=q3.k9
 have k15:=Aj w6 k14
 have kd3:=kd2.k0 w6
 have kx3:=kx2.k0 w6
 have m1:=kd.lt_n
 refine wk ?_
 have q4:=BI.w9 (n:=h3.n) (t:=h3.t) (lh:= []) q3 w5 (by omega) (by omega)
 have l3:=kx2.lt_n
 have ne1:db≠a9:=fun e=>by have:=q.c9;subst e;omega
 have ne2:xb≠a9:=fun e=>by subst e;omega
 refine cal (c:=Vh L X (i:=blk) (D:=D) (data:=data) (extra:=Iz sp data) q4.dv (by omega) (fun hh=>by rw [if_pos hh]) (ri ne1 kd3) (ri ne2 kx3) hd rl) (g:=?_)
 rintro _ h4 ⟨rfl,κ5,w8,w9⟩
 have q5:=q4.ch w9 w8
 have sm:=D.prog_same blk (data++Iz sp data)
 have kk:K0 h0 (hp h3.n h3.t [(a9,some (cl (rvC (D.prog blk (data++Iz sp data)).1 fb2 pb2 eb2 ecap2)))]):=kps
 refine wk ?_
 refine keep L (nm:= [134,8,10,11,1,2,5,7,9]) rfl ?_
 exact Zm L X q5 (by have:=sm.n;omega) sm.sz (w9.out kk (Fz (Fz (Fz z)))) (w9.z kk (Fz (Fz (Fz z)))) hi h9 ih
theorem O0 {a12 dat:Nat}{blk byt:Int}{er cut:Bool}{sp:Sp}{ev:AV}{ents:List Ent}(q:BI κ h h0.n (h0.n+1) a9 d (Hc g0 g1 g2 g3) D D rv (.slc sb 0 l.length cap) l)(k12:Bk h a12 (cel blk er cut byt sp dat ev))(c12:κ a12=100)(hn:D.n≤i)(hsz:D.sz=g2)(hk:K0 h0 h)(z: ∀b,b<h0.n→κ b=0)(hi:i<30)(h9:h0.n+1<a9)(h12:a9<a12)
  (hs:sp.Ok) (hg:12≤g2∧g2≤30) (hd:dat<256) (hev:EntR κ h ev ents) (hel:ents.length≤4)
  (ih: ∀(s':(Nat→Nat)×Dv×List AV) (h':H) (l':List (Nat×Option AV)),BJ h0 s'.1 h' a9 d (Hc g0 g1 g2 g3) g2 (i+1) s'.2.1 s'.2.2 (.slc sb 0 l.length cap) l→TSub (tms (BT (i+1) h0.n a9 d (.slc sb 0 l.length cap))) (tms l')→Good P0 E Q ⟨⟨8,cf8.ntmps,tms l',[.inLoop c8_59,.inBlock 0,.code c8_64],[],.run,false,none⟩,cs,h'⟩):
  Good P0 E Q ⟨⟨8,cf8.ntmps,tms ([(90,some (.int .i64 ((g2:Nat):Int))),(92,some (.int .u8 ((dat:Nat):Int))),(12,some (.ptr a12 0)),(11,some (.int .i64 ((i:Nat):Int))),(1,some (.slc sb 0 l.length cap)),(2,some (.ptr h0.n 0)),(5,some (.ptr (h0.n+1) 0)),(7,some (.ptr d 0)),(9,some (.ptr a9 0))]),[.ops (Eh c8_23 4),.code c8_40,.code c8_52,.inBlock 1,.code c8_57,.inLoop c8_59,.inBlock 0,.code c8_64],[],.run,false,none⟩,cs,hp h.n h.t []⟩:=by
 have qk2:=q.k2
 have l2:=qk2.lt
 have l12:=k12.lt
 refine cal (c:=dg L X (n:=g2) (v:=dat) (by omega) hd) (g:=?_)
 rintro _ h1 ⟨db,rfl,w1,w2,w3⟩
 have n1:=w3.n
 have q1:=q.k0 w3
 have k14:=Aj w3 k12
 have k15:=k14
 unfold cel at k15
 have qk2:=q1.k2
 have c1:ext κ h.n a12=100:=(B1 l12).trans c12
 have kd:BS h1 db 0 (List.replicate g2 dat):=Sd w1 (AllB.rep hd)
 have cd:ext κ h.n db=0:=Da w2
 have kk1:K0 h0 h1:=Kp.tr0 w3 hk
 by_cases hk1:sp.kind=1
 ·refine wk ?_
  refine keep L (nm:= [13,12,11,1,2,5,7,9]) rfl ?_
  exact Uf L X q1 k14 c1 hn hsz kk1 (Fz z) hi h9 h12 hs kd cd List.length_replicate ih
 ·refine wk ?_
  refine cal (c:=Q4 L X (l:=ents) (sz:=g2) (κ:= ext κ h.n) (hev.fw (K0.fwe w3)) (by omega) (by omega)) (g:=?_)
  rintro _ h2 ⟨⟨bv,rfl,w4⟩,w5⟩
  have n2:=w5.n
  have q2:=q1.k0 w5
  have k16:=Aj w5 k14
  have c2:ext (ext κ h.n) h1.n a12=100:=(B1 k14.lt).trans c1
  have kk2:K0 h0 h2:=Kp.tr0 w5 kk1
  by_cases hen:encE g2 ents=0
  ·obtain⟨b2,rfl,w6,w7⟩:=w4 hen
   have hcap:4+8*ents.length≤g2:=by
    unfold encE at hen
    split at hen
    ·split at hen
     ·cases hen
     ·omega
    ·cases hen
   refine wk ?_
   refine keep L (nm:= [13,12,11,1,2,5,7,9]) rfl ?_
   exact Uf L X q2 k16 c2 hn hsz kk2 (Fz (Fz z)) hi h9 h12 hs (Sd w6 (Vq _ _)) (Da w7) (Vr hcap) ih
  ·refine wk ?_
   refine keep L (nm:= [13,12,11,1,2,5,7,9]) rfl ?_
   exact Uf L X q2 k16 c2 hn hsz kk2 (Fz (Fz z)) hi h9 h12 hs (kd.k0 w5) ((B1 kd.lt_n).trans cd) List.length_replicate ih
end
section
variable {h:H}
theorem nu {κ: Nat→Nat}{g0 g1 g2 g3:Nat}{v:AV}{l:List (St×AV)}(k:StR κ h v l)(z: ∀b,b<h.n→κ b=0)(h0:2≤g0∧g0≤6)(h1:2≤g1∧g1≤6)(h2:12≤g2∧g2≤30)(h3:1≤g3∧g3≤1000)(hl:l.length≤30)(he: ∀x∈l,x.1.ents.length≤4):
  Ct P0 E F K 8 [.agg (Hc g0 g1 g2 g3),v] h fun u h'=> ∃d rv D κ',u= .tup [.ptr d 0,.agg rv,.bool true]∧DevR κ' h' d D∧RDev κ' h' D rv∧D.n≤30∧D.off=false∧(∀b,b<h.n→κ' b=0)∧K0 h h':=by
 refine Af L X.f8 X.k8 rfl rfl fun Q x cs G=>?_
 refine wk ?_
 refine cal (c:=xi (D:=Dv.new g0 g1 g2 g3) (κ:= upd (upd κ h.n 100) (h.n+1) 100) L X h0 h1 h2 h3) (g:=?_)
 rintro _ h4 ⟨d,κ1,rfl,w1,w2,w3⟩
 have n4:=w1.n
 simp only [Ah]at n4 w3
 refine wk ?_
 refine cal (c:=rm (κ:= κ1) L X h0 h1 h2 h3) (g:=?_)
 rintro _ h5 ⟨rv,rfl,w4,w5⟩
 have n5:=w5.n
 simp only [Ah]at n5 w4
 have w4':=w4
 obtain⟨-,fb,pb,eb,ecap,cp,ce,rfl,-,-⟩:=w4'
 refine wk ?_
 refine cal (c:=Xy L X) (g:=?_)
 rintro _ rfl
 refine wk ?_
 have y2:h.n≠h5.n:=by omega
 have y5:h.n+1≠h5.n:=by omega
 have e11:K0 h5 (hp (h5.n+1) h5.t [(h5.n,some (cl (rvC (Dv.new g0 g1 g2 g3) fb pb eb ecap))),(h5.n,some (cl z11))]):=kps
 have hc: ∀b,b<h5.n→upd (ext κ1 h4.n) h5.n 100 b=ext κ1 h4.n b:=fun b hb=>upd_ne _ _ (by omega)
 have i0:BI (upd (ext κ1 h4.n) h5.n 100) (hp (h5.n+1) h5.t [(h5.n,some (cl (rvC (Dv.new g0 g1 g2 g3) fb pb eb ecap))),(h5.n,some (cl z11))]) h.n (h.n+1) h5.n d (Hc g0 g1 g2 g3) (Dv.new g0 g1 g2 g3) (Dv.new g0 g1 g2 g3) (rvC (Dv.new g0 g1 g2 g3) fb pb eb ecap) v l:=by
  refine⟨((w2.ext w5).recol hc).k0 e11,w4.fw ⟨e11.n,fun b hb _=>e11.old b hb fun f=>f,hc⟩,lkp,lkp,lkp,?_,?_,upd_eq _ _ _,?_⟩
  ·rw [hc _ (by omega),B1 (by omega),w3 _ (by omega),upd_ne _ _ (by omega),upd_eq]
  ·rw [hc _ (by omega),B1 (by omega),w3 _ (by omega),upd_eq]
  ·refine k.fw ⟨by show h.n≤h5.n+1;omega,fun b hb _=>?_,fun b hb=>?_⟩
   ·have:K0 h (hp (h5.n+1) h5.t [(h5.n,some (cl (rvC (Dv.new g0 g1 g2 g3) fb pb eb ecap))),(h5.n,some (cl z11))]):=kps
    exact this.old b hb fun f=>f
   ·rw [hc _ (by omega),B1 (by omega),w3 _ (by omega),upd_ne _ _ (by omega),upd_ne _ _ (by omega)]
 have z1: ∀b,b<h.n→upd (ext κ1 h4.n) h5.n 100 b=0:=fun b hb=>by rw [hc _ (by omega),B1 (by omega),w3 _ (by omega),upd_ne _ _ (by omega),upd_ne _ _ (by omega)];exact z b hb
 refine Bb L (α:= (Nat→Nat)×Dv×List AV) (T:=fun i _=>BT i h.n h5.n d v) (n:=l.length)
  (R:=fun i s hh=>BJ h s.1 hh h5.n d (Hc g0 g1 g2 g3) g2 i s.2.1 s.2.2 v l) (i0:=0)
  (upd (ext κ1 h4.n) h5.n 100,Dv.new g0 g1 g2 g3,rvC (Dv.new g0 g1 g2 g3) fb pb eb ecap) tsb ⟨i0,Nat.le_refl _,rfl,rfl,kps,z1⟩ (Nat.zero_le _) ?_ ?_
 ·rintro i ⟨κ2,D,rv⟩ h6 hi ⟨q,q1,q2,q3,q4,q5⟩ ih
  simp only []at q q1 q2 q3 q5
  rcases q.st.ex with⟨rfl,rfl⟩|⟨sb,cap,rfl,hk,hcol⟩
  ·exact absurd hi (Nat.not_lt_zero i)
  have hx:l[i]?=some l[i]:=List.getElem?_eq_getElem hi
  have hm:=List.getElem_mem hi
  have hent:=he _ hm
  obtain⟨hel1,hel2,hel3⟩:=q.st.el _ hm
  have hdt:=Bj l (Ow l) i _ hx
  generalize l[i]=s at*
  obtain⟨⟨blk,er,cut,byt,sp,dat,ents⟩,ev⟩:=s
  simp only []at hent hel1 hel2 hel3
  have hdt':i*12+12≤(l.flatMap stC).length∧((l.flatMap stC).drop (i*12)).take 12= [.int .i64 blk,.bool er,.bool cut,.int .i64 byt,.int .u8 ((sp.kind:Nat):Int),.int .i64 sp.sec,.int .u64 ((sp.seq:Nat):Int),.int .u64 ((sp.prev:Nat):Int),.int .i64 sp.idx,.int .i64 sp.len,.int .u8 ((dat:Nat):Int),ev]:=hdt
  clear hdt
  have hpl:As [.int .i64 blk,.bool er,.bool cut,.int .i64 byt,.int .u8 ((sp.kind:Nat):Int),.int .i64 sp.sec,.int .u64 ((sp.seq:Nat):Int),.int .u64 ((sp.prev:Nat):Int),.int .i64 sp.idx,.int .i64 sp.len,.int .u8 ((dat:Nat):Int),ev]=true:=by
   have:=hel1.plain
   show(match Az ev with|true=>true|false=>false)=true
   rw [this]
  have qk2:=q.k2
  have qk9:=q.k9
  have qrd:=q.rd
  obtain⟨-,fb1,pb1,eb1,ecap1,cp1,ce1,rfl,-,-⟩:=qrd
  unfold BT
  refine wk ?_
  have l2:=qk2.lt
  have l9:=qk9.lt
  have n6:=q4.n
  (apply st1 L rfl;exact B6 lkr hdt' rfl;rfl)
  refine wk ?_
  (apply stS L rfl rfl rfl rfl rfl hpl;exact lkp;rfl;rfl)
  have kx:K0 h6 (hp (h6.n+1) h6.t [(h6.n,some (cl (cel blk er cut byt sp dat ev))),(h6.n,some (cl [.int .i64 ((0:Nat):Int),.bool false,.bool false,.int .i64 ((0:Nat):Int),.int .u8 ((0:Nat):Int),.int .i64 ((0:Nat):Int),.int .u64 ((0:Nat):Int),.int .u64 ((0:Nat):Int),.int .i64 ((0:Nat):Int),.int .i64 ((0:Nat):Int),.int .u8 ((0:Nat):Int),.nils]))]):=kps
  have hcx: ∀b,b<h6.n→upd κ2 h6.n 100 b=κ2 b:=fun b hb=>upd_ne _ _ (by omega)
  have qa:=q.col kx hcx
  have ha:=hel1.fw (Fw.mk (κ':=upd κ2 h6.n 100) kx.n (fun b hb _=>kx.old b hb fun f=>f) hcx)
  have za: ∀b,b<h.n→upd κ2 h6.n 100 b=0:=fun b hb=>(hcx b (by omega)).trans (q5 b hb)
  cases er with
  |true=>
   cases cut with
   |false=>
    refine wk ?_
    refine keep L (nm:= [79,81,12,11,1,2,5,7,9]) rfl ?_
    exact Oz L X qa lkp (upd_eq _ _ _) q1 q3 kps za (by omega) (by omega) (by omega) ih
   |true=>
    by_cases hb:0≤byt∧byt≤((g2:Nat):Int)+64
    ·obtain⟨nb,rfl⟩: ∃nb:Nat,byt=nb:=⟨byt.toNat,by omega⟩
     refine wk ?_
     obtain⟨rok,fm,bb,cb,r⟩:=qa.dv
     refine cal (c:=D7 L X r.dk) (g:=?_)
     rintro _ rfl
     refine wk ?_
     refine cal (c:=Xe L X r.dk q2 (by have:=rok.g.sz;omega) (b:=nb) (by omega)) (g:=?_)
     rintro _ h8 ⟨rfl,w1,w2⟩
     have ch:=r.chd w2
     have ok1:=rok.cutS (b:=nb) (by omega)
     have qb:=qa.ch ch ⟨ok1,fm,bb,cb,r.cnt w1 w2 rfl rfl rfl⟩
     have kka:K0 h (hp (h6.n+1) h6.t [(h6.n,some (cl (cel blk true true nb sp dat ev))),(h6.n,some (cl [.int .i64 ((0:Nat):Int),.bool false,.bool false,.int .i64 ((0:Nat):Int),.int .u8 ((0:Nat):Int),.int .i64 ((0:Nat):Int),.int .u64 ((0:Nat):Int),.int .u64 ((0:Nat):Int),.int .i64 ((0:Nat):Int),.int .i64 ((0:Nat):Int),.int .u8 ((0:Nat):Int),.nils]))]):=kps
     have kkb:=ch.out kka za
     have kb:Bk h8 h6.n (cel blk true true nb sp dat ev):=A5 ch.k (by rw [upd_eq];omega) (by exact lkp)
     have kb2:=kb
     unfold cel at kb2
     have qk9:=qb.k9
     have lb:=kb.lt
     refine wk ?_
     refine cal (c:=Tu (D:=D) L X q2 (by have:=rok.g.sz;omega) (b:=nb) (by omega)) (g:=?_)
     rintro _ h9 ⟨rfl,w3⟩
     have qc:=qb.k0 w3
     have qk9:=qc.k9
     have n9:=w3.n
     have qk2:=qc.k2
     have l2b:=qk2.lt
     have kc:=Aj w3 kb
     have kc2:=kc
     unfold cel at kc2
     refine wk ?_
     have qd:=BI.w9 (n:=h9.n) (t:=h9.t) (lh:= []) qc (qc.rd.cnt ok1 rfl rfl rfl) (by omega) (by omega)
     have hc12:ext (upd κ2 h6.n 100) h8.n h6.n=100:=(B1 lb).trans (upd_eq _ _ _)
     have hfe:EntR (ext (upd κ2 h6.n 100) h8.n) h9 ev ents:=(ha.fw ch.fw).fw (K0.fwe w3)
     have kf:Kp (fun b=>b=h5.n) h9 (hp h9.n h9.t [(h5.n,some (cl (rvC {D with cut:=(D.n:Nat),byt:=nb,off:=false} fb1 pb1 eb1 ecap1)))]):=⟨Nat.le_refl _,fun b _ hb=>D6 _ _ _ _ hb⟩
     have he2:=hfe.fw (kf.fw fun b _ e=>by subst e;rw [qc.c9];omega)
     refine keep L (nm:= [79,81,12,11,1,2,5,7,9]) rfl ?_
     exact Oz L X qd lkp hc12 q1 q3 kps (Fz za) (by omega) (by omega) (by omega) ih
    ·by_cases hb1:0≤byt
     ·refine wk ?_
      refine keep L (nm:= [79,81,12,11,1,2,5,7,9]) rfl ?_
      exact Oz L X qa lkp (upd_eq _ _ _) q1 q3 kps za (by omega) (by omega) (by omega) ih
     ·refine wk ?_
      refine keep L (nm:= [79,81,12,11,1,2,5,7,9]) rfl ?_
      exact Oz L X qa lkp (upd_eq _ _ _) q1 q3 kps za (by omega) (by omega) (by omega) ih
  |false=>
   cases cut with
   |false=>
    refine wk ?_
    refine keep L (nm:= [90,92,12,11,1,2,5,7,9]) rfl ?_
    exact O0 L X qa lkp (upd_eq _ _ _) q1 q3 kps za (by omega) (by omega) (by omega) hel2 h2 hel3 ha hent ih
   |true=>
    by_cases hb:0≤byt∧byt≤((g2:Nat):Int)+64
    ·obtain⟨nb,rfl⟩: ∃nb:Nat,byt=nb:=⟨byt.toNat,by omega⟩
     refine wk ?_
     obtain⟨rok,fm,bb,cb,r⟩:=qa.dv
     refine cal (c:=D7 L X r.dk) (g:=?_)
     rintro _ rfl
     refine wk ?_
     refine cal (c:=Xe L X r.dk q2 (by have:=rok.g.sz;omega) (b:=nb) (by omega)) (g:=?_)
     rintro _ h8 ⟨rfl,w1,w2⟩
     have ch:=r.chd w2
     have ok1:=rok.cutS (b:=nb) (by omega)
     have qb:=qa.ch ch ⟨ok1,fm,bb,cb,r.cnt w1 w2 rfl rfl rfl⟩
     have kka:K0 h (hp (h6.n+1) h6.t [(h6.n,some (cl (cel blk false true nb sp dat ev))),(h6.n,some (cl [.int .i64 ((0:Nat):Int),.bool false,.bool false,.int .i64 ((0:Nat):Int),.int .u8 ((0:Nat):Int),.int .i64 ((0:Nat):Int),.int .u64 ((0:Nat):Int),.int .u64 ((0:Nat):Int),.int .i64 ((0:Nat):Int),.int .i64 ((0:Nat):Int),.int .u8 ((0:Nat):Int),.nils]))]):=kps
     have kkb:=ch.out kka za
     have kb:Bk h8 h6.n (cel blk false true nb sp dat ev):=A5 ch.k (by rw [upd_eq];omega) (by exact lkp)
     have kb2:=kb
     unfold cel at kb2
     have qk9:=qb.k9
     have lb:=kb.lt
     refine wk ?_
     refine cal (c:=Tu (D:=D) L X q2 (by have:=rok.g.sz;omega) (b:=nb) (by omega)) (g:=?_)
     rintro _ h9 ⟨rfl,w3⟩
     have qc:=qb.k0 w3
     have qk9:=qc.k9
     have n9:=w3.n
     have qk2:=qc.k2
     have l2b:=qk2.lt
     have kc:=Aj w3 kb
     have kc2:=kc
     unfold cel at kc2
     refine wk ?_
     have qd:=BI.w9 (n:=h9.n) (t:=h9.t) (lh:= []) qc (qc.rd.cnt ok1 rfl rfl rfl) (by omega) (by omega)
     have hc12:ext (upd κ2 h6.n 100) h8.n h6.n=100:=(B1 lb).trans (upd_eq _ _ _)
     have hfe:EntR (ext (upd κ2 h6.n 100) h8.n) h9 ev ents:=(ha.fw ch.fw).fw (K0.fwe w3)
     have kf:Kp (fun b=>b=h5.n) h9 (hp h9.n h9.t [(h5.n,some (cl (rvC {D with cut:=(D.n:Nat),byt:=nb,off:=false} fb1 pb1 eb1 ecap1)))]):=⟨Nat.le_refl _,fun b _ hb=>D6 _ _ _ _ hb⟩
     have he2:=hfe.fw (kf.fw fun b _ e=>by subst e;rw [qc.c9];omega)
     refine keep L (nm:= [90,92,12,11,1,2,5,7,9]) rfl ?_
     exact O0 L X qd lkp hc12 q1 q3 kps (Fz za) (by omega) (by omega) (by omega) hel2 h2 hel3 he2 hent ih
    ·by_cases hb1:0≤byt
     ·refine wk ?_
      refine keep L (nm:= [90,92,12,11,1,2,5,7,9]) rfl ?_
      exact O0 L X qa lkp (upd_eq _ _ _) q1 q3 kps za (by omega) (by omega) (by omega) hel2 h2 hel3 ha hent ih
     ·refine wk ?_
      refine keep L (nm:= [90,92,12,11,1,2,5,7,9]) rfl ?_
      exact O0 L X qa lkp (upd_eq _ _ _) q1 q3 kps za (by omega) (by omega) (by omega) hel2 h2 hel3 ha hent ih
 ·rintro⟨κ2,D,rv⟩ h6 ⟨q,q1,q2,q3,q4,q5⟩
  simp only []at q q1 q2 q3 q5
  have qk9:=q.k9
  have qrd:=q.rd
  obtain⟨-,fb1,pb1,eb1,ecap1,cp1,ce1,rfl,-,-⟩:=qrd
  have qk5:=q.k5
  have fin:(∃d1 rv D1 κ',AV.tup [.ptr d 0,.agg (rvC D fb1 pb1 eb1 ecap1),.bool true]= .tup [.ptr d1 0,.agg rv,.bool true]∧DevR κ' (hp h6.n h6.t [((h.n+1),some (cl (rvC D fb1 pb1 eb1 ecap1)))]) d1 D1∧RDev κ' (hp h6.n h6.t [((h.n+1),some (cl (rvC D fb1 pb1 eb1 ecap1)))]) D1 rv∧D1.n≤30∧D1.off=false∧(∀b,b<h.n→κ' b=0)∧K0 h (hp h6.n h6.t [((h.n+1),some (cl (rvC D fb1 pb1 eb1 ecap1)))])):=by
   have k1:Kp (fun b=>b=h.n+1) h6 (hp h6.n h6.t [((h.n+1),some (cl (rvC D fb1 pb1 eb1 ecap1)))]):=⟨Nat.le_refl _,fun b _ hb=>D6 _ _ _ _ hb⟩
   exact⟨d,_,D,κ2,rfl,q.dv.kb (k1.mono fun b e=>by subst e;rw [q.c5];exact Nat.le_refl _),q.rd.fw (k1.fw fun b _ e=>by subst e;rw [q.c5];omega),by omega,q2,q5,kps⟩
  unfold z11 at qk5
  rcases q.st.ex with⟨rfl,rfl⟩|⟨sb,cap,rfl,hk,hcol⟩
  all_goals
   unfold BT
   refine wk ?_
   (apply Qh L rfl rfl rfl rfl rfl rfl rfl;exact lkp;rfl;intro h9 hs9;(repeat(first|(apply Au rfl rfl;exact opv)|(apply Kv rfl rfl)));(first|(apply p_0;exact chk)|(refine Tr L ?_ rfl ?_;exact chk));refine Od L hs9 ?_)
   refine wk ?_
   refine Aal L X.f8 (ue rfl (If rfl (Bk.e lkp) rfl (E9 rfl))) G ?_
   exact fin
end
end
section
variable {P0:Program}{E:Env}{F:T CFn}{K:T (List AV×AV)}(L:Lg P0 E F K)(X:Fx F K)
include L X
section
variable {κ: Nat→Nat}{h:H}{d:Nat}{D:Dv}
theorem V3 (T:Tb P0 E F K)(r:DevR κ h d D):Ct P0 E F K 54 [.ptr d 0] h fun u h'=>PL (ext κ h.n) h' D.sz peC u (Ab D)∧K0 h h':=by
 have hok:=r.ok
 have hP:=hok.g.P
 have hnb:=hok.g.nb
 have hsz:=hok.g.sz
 refine Ao L X.f54 X.k54 rfl rfl fun Q x cs G=>?_
 obtain⟨-,fm,bb,cb,rq⟩:=r
 have r:DevR κ h d D:=⟨hok,fm,bb,cb,rq⟩
 refine wk ?_
 refine cal (c:=Ji L X rq.dk) (g:=?_)
 rintro _ h1 ⟨rfl,w1⟩
 have n1:=w1.n
 try simp only [Ah]at n1
 refine wk ?_
 refine Bb L (α:= AV) (T:=fun i v=> [(15,some (.int .i64 ((i:Nat):Int))),(14,some (.int .i64 ((D.nb:Nat):Int))),(2,some v),(3,some (.ptr h1.n 0)),(0,some (.ptr d 0))]) (n:=D.nb)
  (R:=fun i v h2=>PLo (fun b=>h.n≤b) (h1.n+1) h2 D.sz peC v (C3 D i)∧K0 h h2∧Bk h2 h1.n (Hc D.nb D.P D.sz D.en)) (i0:=0) .nils tsb ⟨PLo.nil,kps,lkp⟩ (Nat.zero_le _) ?_ ?_
 ·rintro i v h2 hi ⟨w2,w3,w4⟩ ih
  have r2:=r.k0 w3
  obtain⟨-,fm2,bb2,cb2,rq2⟩:=r2
  obtain⟨pn,c,hr⟩:=rq2.rows i hi
  have l4:=w4.lt
  have hnx:=(hok.bl i hi).nx
  refine wk ?_
  refine cal (c:=Ts L X rq2.dk rq2.bk hi hr.c1) (g:=?_)
  rintro _ rfl
  refine wk ?_
  refine Bb L (α:= AV) (T:=fun j v=> [(21,some (.int .i64 ((j:Nat):Int))),(20,some (.int .i64 (((D.bl i).nx:Nat):Int))),(4,some (.int .i64 ((i:Nat):Int))),(15,some (.int .i64 ((i:Nat):Int))),(14,some (.int .i64 ((D.nb:Nat):Int))),(2,some v),(3,some (.ptr h1.n 0)),(0,some (.ptr d 0))]) (n:=(D.bl i).nx)
   (R:=fun j v h3=>PLo (fun b=>h.n≤b) (h1.n+1) h3 D.sz peC v (C3 D i++Ej D i j)∧K0 h h3∧Bk h3 h1.n (Hc D.nb D.P D.sz D.en)) (i0:=0) v tsb ⟨by rw [show Ej D i 0= [] from rfl,List.append_nil];exact w2,w3,w4⟩ (Nat.zero_le _) ?_ ?_
  ·rintro j v h3 hj ⟨u1,u2,u3⟩ ih2
   have r3:=r.k0 u2
   have l3:=u3.lt
   have u3':=u3
   unfold Hc at u3'
   have hpgo:=(hok.bl i hi).pg j (by omega)
   have hmul:i*D.P≤5*D.P:=Nat.mul_le_mul_right _ (by omega)
   have hlen:(C3 D i++Ej D i j).length≤100:=by
    rw [List.length_append]
    have:=G5 D i
    have:=M5 D i j
    omega
   rw [Kz,←List.append_assoc]at ih2
   by_cases hs:D.off=false∧(((D.bl i).pg j).st=2∨((D.bl i).pg j).st=3)
   ·obtain⟨hoff,hst⟩:=hs
    have hl:=hpgo.full hst
    have epg:Ed D i j=(Jn (((D.bl i).pg j).b.drop D.sz) (((D.bl i).pg j).b.take D.sz)).map fun s=>⟨i*D.P+j,s,((D.bl i).pg j).b.take D.sz⟩:=by
     unfold Ed;rw [if_neg (by rw [hoff];simp),if_pos hst]
    rw [epg]at ih2
    refine wk ?_
    refine cal (c:=jv L X r3 hi hj hoff hst) (g:=?_)
    rintro _ h4 ⟨b1,b2,rfl,x1,x2,x3,x4,x5⟩
    have n4:=x5.n
    refine wk ?_
    refine cal (c:=cu L X T (ex:=((D.bl i).pg j).b.drop D.sz) (data:=((D.bl i).pg j).b.take D.sz) (m:=D.sz) x2 x1 (by rw [List.length_drop];omega) (by rw [List.length_take];omega) (by omega)) (g:=?_)
    rintro _ h5 ⟨⟨e,rfl,x6,x7⟩,x8⟩
    have n5:=x8.n
    have kk:K0 h3 h5:=Kp.tr0 x8 x5
    have kk0:K0 h h5:=Kp.tr0 kk u2
    have u5:=Aj kk u3'
    have lb1:=x1.lt_n
    have y1:=x1.k0 x8
    have u1':=u1.k0 kk
    cases hd:Jn (((D.bl i).pg j).b.drop D.sz) (((D.bl i).pg j).b.take D.sz)with
    |none=>
     have he:e≠0:=fun q=>by have:=x6.1 q;rw [hd]at this;cases this
     rw [hd]at ih2
     refine wk ?_
     refine ih2 v _ _ ⟨?_,kps,lkp⟩ tsb
     rw [Option.map_none,Option.toList_none,List.append_nil]
     exact u1'.k0 kps
    |some s=>
     have he:e=0:=x6.2 (by rw [hd];rfl)
     subst he
     rw [hd]at ih2
     rw [Option.map_some,Option.toList_some]at ih2
     rw [Option.getD_some]
     obtain⟨ll,g1,g2,g3⟩:=u1.ex
     have g4:ll.length=(C3 D i++Ej D i j).length:=by rw [←g1,List.length_map]
     have hx:(((D.bl i).pg j).b.take D.sz).length=D.sz:=by rw [List.length_take];omega
     have hf: ∀x∈ll,(peC D.sz x).length=8:=fun _ _=>rfl
     rcases g3 with⟨rfl,rfl⟩|⟨gn,lb,rfl,g5,g6,g7⟩
     ·refine wk ?_
      (apply st1 L rfl;exact D8 (new:=peC D.sz (⟨i*D.P+j,s,((D.bl i).pg j).b.take D.sz⟩,b1)) rfl rfl (SlR.of (c:=peC D.sz (⟨i*D.P+j,s,((D.bl i).pg j).b.take D.sz⟩,b1)) lkp (Nat.le_refl _) rfl) (by omega) (by omega);rfl)
      refine wk ?_
      refine ih2 _ _ _ ⟨PLo.app (l:= []) (x:=⟨i*D.P+j,s,((D.bl i).pg j).b.take D.sz⟩) (db:=b1) (N:=h5.n+1+1) g1 (fun y hy=>(by cases hy)) ⟨by exact lkb,by omega,hx⟩ (by exact lkp) (by omega) (fun y hy=>(by cases hy)) (by omega),by exact kps,by exact lkp⟩ tsb
     ·have g8:=g5.lt
      have g9:=Aj kk g5
      refine wk ?_
      (apply st1 L rfl;exact C2 (old:=ll.flatMap (peC D.sz)) (new:=peC D.sz (⟨i*D.P+j,s,((D.bl i).pg j).b.take D.sz⟩,b1)) rfl rfl (SlR.of (c:=ll.flatMap (peC D.sz)) lkp (by rw [Co ll hf];omega) (by rw [List.drop_zero,List.take_of_length_le (by rw [Co ll hf];exact Nat.le_refl _)])) (SlR.of (c:=peC D.sz (⟨i*D.P+j,s,((D.bl i).pg j).b.take D.sz⟩,b1)) lkp (Nat.le_refl _) rfl) (by omega) (by omega) rfl;rfl)
      refine wk ?_
      refine ih2 _ _ _ ⟨PLo.app (l:=ll) (x:=⟨i*D.P+j,s,((D.bl i).pg j).b.take D.sz⟩) (db:=b1) (N:=h5.n+1+1) g1 (fun y hy=>?_) ⟨by exact lkb,by omega,hx⟩ (by exact lkp) (by omega) (fun y hy=>?_) (by omega),by exact kps,by exact lkp⟩ tsb
      ·obtain⟨e1,e2,e3⟩:=g2 y hy
       have e4:=e1.lt_n
       have e5:=e1.k0 kk
       have e6:=g7 y hy
       exact⟨lkb,e2,e3⟩
      ·have e4:=(g2 y hy).1.lt_n
       omega
   ·have epg:Ed D i j=none:=by
     unfold Ed
     by_cases ho:D.off=true
     ·rw [if_pos ho]
     ·rw [if_neg ho,if_neg fun q=>hs ⟨by simpa using ho,q⟩]
    rw [epg]at ih2
    refine wk ?_
    have hbad:D.off=true∨(((D.bl i).pg j).st≠2∧((D.bl i).pg j).st≠3):=by
     by_cases ho:D.off=true
     ·exact .inl ho
     ·exact .inr ⟨fun q=>hs ⟨by simpa using ho,.inl q⟩,fun q=>hs ⟨by simpa using ho,.inr q⟩⟩
    refine cal (c:=ju L X r3 hi hj hbad) (g:=?_)
    rintro _ h4 ⟨⟨e,rfl,x1,x2⟩,x3⟩
    refine wk ?_
    refine ih2 v _ _ ⟨?_,Kp.tr0 x3 u2,Aj x3 u3⟩ tsb
    rw [Option.toList_none,List.append_nil]
    exact u1.k0 x3
  ·rintro v h3 ⟨u1,u2,u3⟩
   refine wk ?_
   refine ih v _ _ ⟨?_,u2,u3⟩ tsb
   rw [Ip,Vp hok hi D.P (Nat.le_refl _) hnx]
   exact u1
 ·rintro v h2 ⟨w2,w3,w4⟩
  refine wk ?_
  refine ret X.f54 ?_
  exact⟨w2.pl (fun b hb=>Da hb) fun b hb=>Da (by omega),w3⟩
theorem Q8 {rv:List AV}(r:RDev κ h D rv):Ct P0 E F K 21 [.agg rv] h fun u h'=>PL (ext κ h.n) h' D.sz peR u (Ab D)∧K0 h h':=by
 obtain⟨hok,fb,pb,eb,ecap,cp,ce,rfl,hecap,rdc⟩:=r
 have r:RDev κ h D (rvC D fb pb eb ecap):=⟨hok,fb,pb,eb,ecap,cp,ce,rfl,hecap,rdc⟩
 have hP:=hok.g.P
 have hnb:=hok.g.nb
 have hsz:=hok.g.sz
 cases hoff:D.off with
 |true=>
  have eo:rvC D fb pb eb ecap=rvL D.nb D.P D.sz D.en fb pb eb ecap D.n D.cut D.byt true:=by unfold rvC;rw [hoff]
  rw [eo,Jo hoff]
  refine Ao L X.f21 X.k21 rfl rfl fun Q x cs G=>?_
  refine wk ?_
  refine ret X.f21 ?_
  exact⟨PL.nil _ _ _ _,kps⟩
 |false=>
 have eo:rvC D fb pb eb ecap=rvL D.nb D.P D.sz D.en fb pb eb ecap D.n D.cut D.byt false:=by unfold rvC;rw [hoff]
 rw [eo]at r ⊢
 refine Ao L X.f21 X.k21 rfl rfl fun Q x cs G=>?_
 refine wk ?_
 refine Bb L (α:= AV) (T:=fun i v=> [(4,some (.int .i64 ((i:Nat):Int))),(3,some v),(1,some (.ptr h.n 0))]) (n:=D.nb)
  (R:=fun i v h2=>PLo (fun b=>b<h.n∧κ b=0) (h.n+1) h2 D.sz peR v (C3 D i)∧K0 h h2∧Bk h2 h.n (rvL D.nb D.P D.sz D.en fb pb eb ecap D.n D.cut D.byt false)) (i0:=0) .nils tsb ⟨PLo.nil,kps,lkp⟩ (Nat.zero_le _) ?_ ?_
 ·rintro i v h2 hi ⟨w2,w3,w4⟩ ih
  have l4:=w4.lt
  have w4':=w4
  unfold rvL at w4'
  refine wk ?_
  refine Bb L (α:= AV) (T:=fun j v=> [(5,some (.int .i64 ((j:Nat):Int))),(4,some (.int .i64 ((i:Nat):Int))),(3,some v),(1,some (.ptr h.n 0))]) (n:=D.P)
   (R:=fun j v h3=>PLo (fun b=>b<h.n∧κ b=0) (h.n+1) h3 D.sz peR v (C3 D i++Ej D i j)∧K0 h h3∧Bk h3 h.n (rvL D.nb D.P D.sz D.en fb pb eb ecap D.n D.cut D.byt false)) (i0:=0) v tsb ⟨by rw [show Ej D i 0= [] from rfl,List.append_nil];exact w2,w3,w4⟩ (Nat.zero_le _) ?_ ?_
  ·rintro j v h3 hj ⟨u1,u2,u3⟩ ih2
   have r3:=r.fw (K0.fw1 u2)
   have l3:=u3.lt
   have u3':=u3
   unfold rvL at u3'
   have hpgo:=(hok.bl i hi).pg j (by omega)
   have hmul:i*D.P≤5*D.P:=Nat.mul_le_mul_right _ (by omega)
   have hlen:(C3 D i++Ej D i j).length≤100:=by
    rw [List.length_append]
    have:=G5 D i
    have:=M5 D i j
    omega
   rw [Kz,←List.append_assoc]at ih2
   by_cases hs:D.off=false∧(((D.bl i).pg j).st=2∨((D.bl i).pg j).st=3)
   ·obtain⟨hoff,hst⟩:=hs
    have hl:=hpgo.full hst
    have epg:Ed D i j=(Jn (((D.bl i).pg j).b.drop D.sz) (((D.bl i).pg j).b.take D.sz)).map fun s=>⟨i*D.P+j,s,((D.bl i).pg j).b.take D.sz⟩:=by
     unfold Ed;rw [if_neg (by rw [hoff];simp),if_pos hst]
    rw [epg]at ih2
    refine wk ?_
    refine cal (c:=bu L X r3 hi (by omega) hoff hst) (g:=?_)
    rintro _ h4 ⟨b1,rfl,x1,x2,x5⟩
    have n4:=x5.n
    obtain⟨x3,x4⟩:=xu x1
    have x2':=x2.k0 x5
    have y2:BS h4 b1 D.sz (((D.bl i).pg j).b.drop D.sz):=by
     have:=BS.part (a:=D.sz) (n:=64) x2' (by omega)
     rwa [Nat.zero_add,List.take_of_length_le (by rw [List.length_drop];omega)]at this
    have y1:BS h4 b1 0 (((D.bl i).pg j).b.take D.sz):=BS.part (a:=0) (n:=D.sz) x2' (by omega)
    refine wk ?_
    refine cal (c:=Xn L X (ex:=((D.bl i).pg j).b.drop D.sz) (data:=((D.bl i).pg j).b.take D.sz) (m:=D.sz) y2 y1 (by rw [List.length_drop];omega) (by rw [List.length_take];omega) (by omega)) (g:=?_)
    rintro _ h5 ⟨⟨e,rfl,x6,x7⟩,x8⟩
    have n5:=x8.n
    have kk:K0 h3 h5:=Kp.tr0 x8 x5
    have kk0:K0 h h5:=Kp.tr0 kk u2
    have u5:=Aj kk u3'
    have lb1:=y1.lt_n
    have y1:=y1.k0 x8
    have u1':=u1.k0 kk
    cases hd:Jn (((D.bl i).pg j).b.drop D.sz) (((D.bl i).pg j).b.take D.sz)with
    |none=>
     have he:e≠0:=fun q=>by have:=x6.1 q;rw [hd]at this;cases this
     rw [hd]at ih2
     refine wk ?_
     refine ih2 v _ _ ⟨?_,kps,lkp⟩ tsb
     rw [Option.map_none,Option.toList_none,List.append_nil]
     exact u1'.k0 kps
    |some s=>
     have he:e=0:=x6.2 (by rw [hd];rfl)
     subst he
     rw [hd]at ih2
     rw [Option.map_some,Option.toList_some]at ih2
     rw [Option.getD_some]
     obtain⟨ll,g1,g2,g3⟩:=u1.ex
     have g4:ll.length=(C3 D i++Ej D i j).length:=by rw [←g1,List.length_map]
     have hx:(((D.bl i).pg j).b.take D.sz).length=D.sz:=by rw [List.length_take];omega
     have hf: ∀x∈ll,(peR D.sz x).length=8:=fun _ _=>rfl
     rcases g3 with⟨rfl,rfl⟩|⟨gn,lb,rfl,g5,g6,g7⟩
     ·refine wk ?_
      (apply st1 L rfl;exact D8 (new:=peR D.sz (⟨i*D.P+j,s,((D.bl i).pg j).b.take D.sz⟩,b1)) rfl rfl (SlR.of (c:=peR D.sz (⟨i*D.P+j,s,((D.bl i).pg j).b.take D.sz⟩,b1)) lkp (Nat.le_refl _) rfl) (by omega) (by omega);rfl)
      refine wk ?_
      refine ih2 _ _ _ ⟨PLo.app (l:= []) (x:=⟨i*D.P+j,s,((D.bl i).pg j).b.take D.sz⟩) (db:=b1) (N:=h5.n+1+1) g1 (fun y hy=>(by cases hy)) ⟨by exact lkb,⟨x3,x4⟩,hx⟩ (by exact lkp) (by omega) (fun y hy=>(by cases hy)) (by omega),by exact kps,by exact lkp⟩ tsb
     ·have g8:=g5.lt
      have g9:=Aj kk g5
      refine wk ?_
      (apply st1 L rfl;exact C2 (old:=ll.flatMap (peR D.sz)) (new:=peR D.sz (⟨i*D.P+j,s,((D.bl i).pg j).b.take D.sz⟩,b1)) rfl rfl (SlR.of (c:=ll.flatMap (peR D.sz)) lkp (by rw [Co ll hf];omega) (by rw [List.drop_zero,List.take_of_length_le (by rw [Co ll hf];exact Nat.le_refl _)])) (SlR.of (c:=peR D.sz (⟨i*D.P+j,s,((D.bl i).pg j).b.take D.sz⟩,b1)) lkp (Nat.le_refl _) rfl) (by omega) (by omega) rfl;rfl)
      refine wk ?_
      refine ih2 _ _ _ ⟨PLo.app (l:=ll) (x:=⟨i*D.P+j,s,((D.bl i).pg j).b.take D.sz⟩) (db:=b1) (N:=h5.n+1+1) g1 (fun y hy=>?_) ⟨by exact lkb,⟨x3,x4⟩,hx⟩ (by exact lkp) (by omega) (fun y hy=>?_) (by omega),by exact kps,by exact lkp⟩ tsb
      ·obtain⟨e1,e2,e3⟩:=g2 y hy
       have e4:=e1.lt_n
       have e5:=e1.k0 kk
       have e6:=g7 y hy
       exact⟨lkb,e2,e3⟩
      ·have e4:=(g2 y hy).1.lt_n
       omega
   ·have epg:Ed D i j=none:=by
     unfold Ed
     by_cases ho:D.off=true
     ·rw [if_pos ho]
     ·rw [if_neg ho,if_neg fun q=>hs ⟨by simpa using ho,q⟩]
    rw [epg]at ih2
    refine wk ?_
    have hbad:D.off=true∨(((D.bl i).pg j).st≠2∧((D.bl i).pg j).st≠3):=by
     by_cases ho:D.off=true
     ·exact .inl ho
     ·exact .inr ⟨fun q=>hs ⟨by simpa using ho,.inl q⟩,fun q=>hs ⟨by simpa using ho,.inr q⟩⟩
    refine cal (c:=bt L X r3 hi (by omega) hbad) (g:=?_)
    rintro _ h4 ⟨⟨e,rfl,x1,x2⟩,x3⟩
    refine wk ?_
    refine ih2 v _ _ ⟨?_,Kp.tr0 x3 u2,Aj x3 u3⟩ tsb
    rw [Option.toList_none,List.append_nil]
    exact u1.k0 x3
  ·rintro v h3 ⟨u1,u2,u3⟩
   have u3':=u3
   unfold rvL at u3'
   refine wk ?_
   refine ih v _ _ ⟨?_,u2,u3⟩ tsb
   rw [Ip]
   exact u1
 ·rintro v h2 ⟨w2,w3,w4⟩
  have w4':=w4
  unfold rvL at w4'
  refine wk ?_
  refine ret X.f21 ?_
  exact⟨w2.pl (fun b hb=>(B1 hb.1).trans hb.2) fun b hb=>Da (by omega),w3⟩
end
end
section
variable {P0:Program}{E:Env}{F:T CFn}{K:T (List AV×AV)}(L:Lg P0 E F K)(X:Fx F K)
include L X
section
variable {h:H}
theorem s9 {κ: Nat→Nat}{d:Nat}{D:Dv}{S:Int}(T:Tb P0 E F K)(U:SortOk P0 E F 171)(r:DevR κ h d D)(hS:S≤1000):Ct P0 E F K 14 [.ptr d 0,AI S] h fun v h'=>Fp D S h v h':=by
 have ok:=r.ok
 have hnb:=ok.g.nb
 have hP:=ok.g.P
 have hpl:=C8 ok
 have r1:DevR (fun b=>if b<h.n then κ b else 100) h d D:=r.recol fun b hb=>if_pos hb
 have r1d:=r1
 obtain⟨-,fm,bb,cb,dc⟩:=r1
 have hdk:=dc.dk
 have ld:=hdk.lt
 refine Af L X.f14 X.k14 rfl rfl fun Q x cs G=>?_
 refine wk ?_
 refine Jk L rfl rfl rfl rfl ?_
 refine wk ?_
 refine cal (c:=Ji L X (by exact lkp)) (g:=?_)
 rintro _ h2 ⟨rfl,w1⟩
 have n2:=w1.n
 simp only [Ah]at n2
 refine wk ?_
 refine cal (c:=Ek L X) (g:=?_)
 rintro _ rfl
 by_cases hS1:S<1
 ·refine wk ?_
  refine cal (c:=nq L X (S:=0) hS1 hnb hP) (g:=?_)
  rintro _ ⟨rfl,rfl⟩
  refine wk ?_
  refine Ex L rfl rfl rfl rfl rfl (E5 L X) ?_
  rintro _ _ ⟨rfl,rfl⟩
  refine Fo L X rfl rfl lkp lkp (by omega) G fun h9 k9=>D9 (e:=2) (.inl ⟨hS1,rfl,rfl⟩) (Kp.trS k9 (fun i hi e=>by omega) kps)
 obtain⟨Sn,rfl⟩: ∃n:Nat,S=((n:Nat):Int):=⟨S.toNat,by omega⟩
 refine wk ?_
 refine cal (c:=s8 L X (S:=Sn) (by omega) hnb hP) (g:=?_)
 rintro _ h3 ⟨m,r1',r2,vb,rfl,mp,w2,m1,m2,m3,m4⟩
 have n3:=w2.n
 simp only [Ah]at n3 m1 m2 m3 m4
 have mlt:=mp.lt
 refine wk ?_
 refine cal (c:=Ek L X) (g:=?_)
 rintro _ rfl
 refine wk ?_
 refine cal (c:=Qu L X (by exact lkp)) (g:=?_)
 rintro _ rfl
 cases hoff:D.off with
 |true=>
  refine wk ?_
  refine Ex L rfl rfl rfl rfl rfl (E5 L X) ?_
  rintro _ _ ⟨rfl,rfl⟩
  refine Fo L X rfl rfl lkp lkp (by omega) G fun h9 k9=>D9 (e:=50) (.inr (.inl ⟨by omega,hoff,rfl,rfl⟩)) (Kp.trS k9 (fun i hi e=>by omega) kps)
 |false=>
  refine wk ?_
  refine cal (c:=Ek L X) (g:=?_)
  rintro _ rfl
  refine wk ?_
  refine cal (c:=V3 L X T (r1d.k0 (by exact kps))) (g:=?_)
  rintro lv h4 ⟨w4,w5⟩
  have n4:=w5.n
  try simp only [Ah]at n4 w4
  have hcol: ∀b,h.n≤b→b<h3.n→ext (fun b=>if b<h.n then κ b else 100) h3.n b≠0:=by
   intro b hb1 hb2
   rw [B1 hb2,if_neg (by omega)];omega
  have mp4: ∀h9,Kp (fun j=>False) h3 h9→MpR Sn D.nb D.P h9 m r1' r2 vb A0 0:=fun h9 k9=>mp.k0 k9
  have w4': ∀h9,Kp (fun j=>j=h.n) h4 h9→PL (ext (fun b=>if b<h.n then κ b else 100) h3.n) h9 D.sz peC lv (Ab D):=fun h9 k9=>w4.fw (k9.fw (κ:= ext (fun b=>if b<h.n then κ b else 100) h3.n) fun b _ e=>by rw [e];exact hcol _ (Nat.le_refl _) (by omega))
  have w4x:=w4.ex
  obtain⟨l,hlm,q1,q2⟩:=w4x
  have hll:(Ab D).length=l.length:=by rw [←hlm,List.length_map]
  rcases q2 with⟨rfl,rfl⟩|⟨q3,lb,rfl,q4,q5⟩
  ·refine wk ?_
   refine V2 L X U ok dc (b6:=h2.n) (m:=m) (r1:=r1') (r2:=r2) (vb:=vb) (κ':=ext (fun b=>if b<h.n then κ b else 100) h3.n) (by omega) hoff (by exact kps) (by exact lkp) (by exact lkp) (by exact lkp) (by omega) (mp.kp (B:=fun j=>j=h.n) (by exact kps) (by omega) (by omega) (by omega) (by omega)) (by omega) (w4' _ (by exact kps)) ⟨hcol _ (by omega) (by omega),hcol _ (by omega) (by omega),hcol _ (by omega) (by omega),hcol _ (by omega) (by omega)⟩ G (by rw [hll];exact tsb)
  ·refine wk ?_
   refine V2 L X U ok dc (b6:=h2.n) (m:=m) (r1:=r1') (r2:=r2) (vb:=vb) (κ':=ext (fun b=>if b<h.n then κ b else 100) h3.n) (by omega) hoff (by exact kps) (by exact lkp) (by exact lkp) (by exact lkp) (by omega) (mp.kp (B:=fun j=>j=h.n) (by exact kps) (by omega) (by omega) (by omega) (by omega)) (by omega) (w4' _ (by exact kps)) ⟨hcol _ (by omega) (by omega),hcol _ (by omega) (by omega),hcol _ (by omega) (by omega),hcol _ (by omega) (by omega)⟩ G (by rw [hll];exact tsb)
end
end
section
variable {P0:Program}{E:Env}{F:T CFn}{K:T (List AV×AV)}(L:Lg P0 E F K)(X:Fx F K)
include L X
section
variable {h:H}
omit L X in
def sumNx (D:Dv):Nat→Nat
 |0=>0
 |n+1=>sumNx D n+(D.bl n).nx
omit L X in
def nv (D:Dv):Int:=if D.off=true then 0 else((sumNx D D.nb:Nat):Int) - ((((Ab D).filter Bm).length:Nat):Int) - ((((Ab D).filter isJ).length:Nat):Int)
omit L X in
def Ug (D:Dv):AV:= .tup [AI ((((Ab D).filter Bm).length:Nat):Int),AI ((((Ab D).filter isJ).length:Nat):Int),AI (nv D)]
omit L X in
theorem Zn {l:List (Nat×Option AV)}{x:O}{κ: Nat→Nat}{h0 h1:H}{sz:Nat}{f:Nat→PgE×Nat→List AV}{v:AV}{LL:List PgE}(q:PL κ h0 sz f v LL)(e:evO l x=some v):XV (.lenS x) h1 l (AI ((LL.length:Nat):Int)) h1:=by
 obtain⟨l',rfl,_,⟨rfl,rfl⟩|⟨_,b,rfl,_⟩⟩:=q.ex
 ·exact qq e
 ·rw [List.length_map];exact wl e
omit L X in
theorem Ju {D:Dv}(ok:D.Ok): ∀n,n≤D.nb→sumNx D n≤n*D.P
 |0,_=>by simp [sumNx]
 |n+1,h=>by
  have:=Ju ok n (by omega)
  have:=(ok.bl n (by omega)).nx
  unfold sumNx;rw [Nat.add_mul];omega
theorem ny {κ: Nat→Nat}{d:Nat}{D:Dv}(T:Tb P0 E F K)(r:DevR κ h d D):Ct P0 E F K 16 [.ptr d 0] h fun v h'=>v=Ug D∧K0 h h':=by
 have ok:=r.ok
 have hnb:=ok.g.nb
 have hP:=ok.g.P
 have hsz:=ok.g.sz
 have hpl:=C8 ok
 have hd1:=List.length_filter_le Bm (Ab D)
 have hd2:=List.length_filter_le isJ (Ab D)
 have r0:=r
 obtain⟨-,fm,bb,cb,dc⟩:=r
 have hdk:=dc.dk
 have ld:=hdk.lt
 refine Ao L X.f16 X.k16 rfl rfl fun Q x cs G=>?_
 refine wk ?_
 refine cal (c:=Qu L X (by exact lkp)) (g:=?_)
 rintro _ rfl
 cases hoff:D.off with
 |true=>
  refine wk ?_
  refine ret X.f16 ?_
  refine⟨?_,kps⟩
  unfold Ug nv
  rw [if_pos hoff,Jo hoff];rfl
 |false=>
  refine wk ?_
  refine cal (c:=V3 L X T (r0.k0 (by exact kps))) (g:=?_)
  rintro lv h2 ⟨w1,w2⟩
  have n2:=w2.n
  try simp only [Ah]at n2
  refine wk ?_
  refine cal (c:=Uc L X (p:=Bm) (w1.fw (Kp.fw0 (by exact kps))) (by omega) (fun h2 x hx hl=>Hs L X)) (g:=?_)
  rintro l1 h3 ⟨w3,w4⟩
  have n3:=w4.n
  simp only [Ah]at n3
  (apply st1 L rfl;exact Zn w3 rfl;rfl)
  refine wk ?_
  refine cal (c:=Uc L X (p:=isJ) (w1.fw (Kp.fw0 (by exact kps))) (by omega) (fun h2 x hx hl=>nj L X hx hl (by omega))) (g:=?_)
  rintro l2 h4 ⟨w5,w6⟩
  have n4:=w6.n
  simp only [Ah]at n4
  (apply st1 L rfl;exact Zn w5 rfl;rfl)
  refine wk ?_
  refine cal (c:=Ji L X (by exact lkp)) (g:=?_)
  rintro _ h5 ⟨rfl,w7⟩
  have n5:=w7.n
  simp only [Ah]at n5
  refine wk ?_
  refine Bb L (α:= Unit) (T:=fun i _=> [(24,some (AI ((i:Nat):Int))),(23,some (AI ((D.nb:Nat):Int))),(6,some (.ptr h2.n 0)),(0,some (.ptr d 0))]) (n:=D.nb)
   (R:=fun i _ h6=>Bk h6 h2.n [AI ((((Ab D).filter Bm).length:Nat):Int),AI ((((Ab D).filter isJ).length:Nat):Int),AI ((sumNx D i:Nat):Int)]∧K0 h h6) (i0:=0) () tsb ⟨lkp,kps⟩ (Nat.zero_le _) ?_ ?_
  ·rintro i _ h6 hi ⟨x1,x2⟩ ih
   obtain⟨pn,c,hr⟩:=dc.rows i hi
   have kd:=Aj x2 dc.dk
   have kbb:=Aj x2 dc.bk
   have hnx:=(ok.bl i hi).nx
   have hs:=Ju ok i (by omega)
   have hs2:i*D.P≤6*6:=Nat.mul_le_mul (by omega) (by omega)
   have n6:=x2.n
   refine wk ?_
   refine cal (c:=Ts L X (by exact lkp) (by exact lkp) hi hr.c1) (g:=?_)
   rintro _ rfl
   refine wk ?_
   refine ih () _ _ ⟨by exact lkp,by exact kps⟩ tsb
  ·rintro _ h6 ⟨x1,x2⟩
   have hs:=Ju ok D.nb (Nat.le_refl _)
   have hs2:D.nb*D.P≤6*6:=Nat.mul_le_mul (by omega) (by omega)
   refine wk ?_
   refine ret X.f16 ?_
   refine⟨?_,kps⟩
   unfold Ug nv
   rw [if_neg (by rw [hoff];simp)];rfl
end
end
end Go.Ev
