/- Part of the proof. -/
import Derived.Test.YtclfgfpebplncaaGreatT10
set_option linter.unusedVariables false
set_option linter.unusedSectionVars false
set_option linter.unusedSimpArgs false
set_option maxRecDepth 10000
set_option maxHeartbeats 4000000
namespace Go.Ev
section
variable {P0:Program}{E:Env}{F:T CFn}{K:T (List AV×AV)}(L:Lg P0 E F K)(X:Fx F K)
include L X
section
variable {κ: Nat→Nat}{h:H}{D:Dv}{fb pb eb ecap nb P sz en n byt:Nat}{cut:Int}{off:Bool}{cp ce:List AV}
theorem D0 {i:Int}:Ct P0 E F K 46 [.agg (rvL nb P sz en fb pb eb ecap n cut byt off),.int .i64 i] h fun v h'=>v= .bool (decide (0≤i∧i<nb))∧K0 h h':=by
 refine Af L X.f46 X.k46 rfl rfl fun Q x cs G=>?_
 refine wk ?_
 by_cases hi:0≤i
 ·refine wk ?_
  by_cases hj:i<nb
  ·refine wk ?_
   refine ret X.f46 ?_
   exact⟨by simp [single,hi,hj],kps⟩
  ·refine wk ?_
   refine ret X.f46 ?_
   exact⟨by simp [single,hi,hj],kps⟩
 ·refine wk ?_
  refine ret X.f46 ?_
  exact⟨by simp [single,hi],kps⟩
theorem Vi:Ct P0 E F K 47 [.agg (rvL nb P sz en fb pb eb ecap n cut byt off)] h fun v h'=>v= .bool false∧K0 h h':=by
 refine Ao L X.f47 X.k47 rfl rfl fun Q x cs G=>?_
 refine wk ?_
 refine A4 L ?_
 refine wk ?_
 refine ret X.f47 ?_
 exact⟨rfl,kps⟩
theorem Vj:Ct P0 E F K 42 [.agg (rvL nb P sz en fb pb eb ecap n cut byt off)] h fun v h'=>v= .agg (rvL nb P sz en fb pb eb ecap n (-1) byt false)∧K0 h h':=by
 refine Ao L X.f42 X.k42 rfl rfl fun Q x cs G=>?_
 refine wk ?_
 refine ret X.f42 ?_
 exact⟨rfl,kps⟩
theorem Tu (hoff:D.off=false)(h2:D.sz<10000){b:Nat}(hbb:b≤D.sz+64):Ct P0 E F K 11 [.agg (rvC D fb pb eb ecap),.int .i64 ((D.n:Nat):Int),.int .i64 ((b:Nat):Int)] h fun v h'=>v= .tup [.agg (rvC {D with cut:=(D.n:Nat),byt:=b,off:=false} fb pb eb ecap),.int .i64 ((0:Nat):Int)]∧K0 h h':=by
 unfold rvC rvL
 rw [hoff]
 refine A6 L X.f11 X.k11 rfl rfl fun Q x cs G=>?_
 refine wk ?_
 refine ret X.f11 ?_
 exact⟨rfl,kps⟩
theorem jw {g0 g1 g2 g3:Nat}(h0:2≤g0∧g0≤6)(h1:2≤g1∧g1≤6)(h2:12≤g2∧g2≤30)(h3:1≤g3∧g3≤1000):Ct P0 E F K 96 [.agg (Hc g0 g1 g2 g3)] h fun v h'=>v= .bool true∧K0 h h':=by
 refine Ao L X.f96 X.k96 rfl rfl fun Q x cs G=>?_
 refine wk ?_
 refine ret X.f96 ?_
 exact⟨rfl,kps⟩
structure RpRow (P i:Nat)(s:Nat)(c:List AV):Prop where
 len:c.length=P*2
 nil: ∀j,j<P→c[j*2+1]?=some .nils
 st: ∀j,j<P→c[j*2]?=some (.int .i64 ((if j<i then s else 0:Nat):Int))
omit L X in
theorem RpRow.step {P i s:Nat}{c:List AV}(r:RpRow P i s c)(hi:i<P):RpRow P (i+1) s (c.set (i*2) (.int .i64 ((s:Nat):Int))):=by
 refine⟨by rw [List.length_set];exact r.len,fun j hj=>?_,fun j hj=>?_⟩
 ·rw [List.getElem?_set_ne (by omega)];exact r.nil j hj
 ·by_cases e:j=i
  ·subst e
   rw [List.getElem?_set_self (by rw [r.len];omega),if_pos (Nat.lt_succ_self j)]
  ·rw [List.getElem?_set_ne (by omega),r.st j hj]
   by_cases h1:j<i
   ·rw [if_pos h1,if_pos (by omega)]
   ·rw [if_neg h1,if_neg (by omega)]
omit L X in
theorem RpRow.init (s:Nat): ∀P,RpRow P 0 s (rl [.int .i64 ((0:Nat):Int),.nils] P)
 |0=>⟨rfl,fun j hj=>by omega,fun j hj=>by omega⟩
 |P+1=>by
  have ih:=RpRow.init s P
  have e:rl [.int .i64 ((0:Nat):Int),.nils] (P+1)= .int .i64 ((0:Nat):Int):: .nils::rl [.int .i64 ((0:Nat):Int),.nils] P:=rfl
  rw [e]
  have hl:=ih.len
  refine⟨by rw [List.length_cons,List.length_cons];omega,fun j hj=>?_,fun j hj=>?_⟩
  ·cases j with
   |zero=>rfl
   |succ j=>rw [show(j+1)*2+1=j*2+1+1+1 by omega];simpa using ih.nil j (by omega)
  ·cases j with
   |zero=>rfl
   |succ j=>rw [show(j+1)*2=j*2+1+1 by omega];simpa using ih.st j (by omega)
theorem J5 {P s:Nat}(hP:P<1000):Ct P0 E F K 49 [.int .i64 ((P:Nat):Int),.int .i64 ((s:Nat):Int)] h fun v h'=> ∃rb c,v= .slc rb 0 P P∧Bk h' rb c∧RpRow P P s c∧h.n≤rb∧K0 h h':=by
 refine Af L X.f49 X.k49 rfl rfl fun Q x cs G=>?_
 refine wk ?_
 refine Bb L (α:= Unit) (T:=fun i _=> [(6,some (.int .i64 ((i:Nat):Int))),(0,some (.int .i64 ((P:Nat):Int))),(1,some (.int .i64 ((s:Nat):Int))),(5,some (.slc h.n 0 P P))]) (n:=P)
  (R:=fun i _ h1=>(∃c,Bk h1 h.n c∧RpRow P i s c)∧K0 h h1) (i0:=0) () tsb ⟨⟨_,lkp,RpRow.init s P⟩,kps⟩ (Nat.zero_le _) ?_ ?_
 ·rintro i _ h1 hi ⟨⟨c,hc,hr⟩,hk⟩ ih
  have hlen:i*2+0<c.length:=by rw [hr.len];omega
  refine wk ?_
  exact ih () _ _ ⟨⟨_,lkp,hr.step hi⟩,kps⟩ tsb
 ·rintro _ h1 ⟨⟨c,hc,hr⟩,hk⟩
  refine wk ?_
  refine ret X.f49 ?_
  exact⟨h.n,c,rfl,lkp,hr,Nat.le_refl _,kps⟩
end
end
section
variable {P0:Program}{E:Env}{F:T CFn}{K:T (List AV×AV)}(L:Lg P0 E F K)(X:Fx F K)
include L X
omit L X in
theorem RDevC.row {κ: Nat→Nat}{h:H}{D D':Dv}{pb eb pb' eb' i rb rcap nx er:Nat}{cp ce c:List AV}{pg:Nat→Pg}(q:RDevC κ h D pb eb cp ce)(hi:i<D.nb)(hnb:D'.nb=D.nb)(hP:D'.P=D.P)(hbl:D'.bl=upd D.bl i ⟨pg,nx,er⟩)
  (pk:Bk h pb' (cp.set i (.slc rb 0 D.P rcap))) (pc:κ pb'=0) (hrc:rcap=D.P∨rcap=Ac+2) (rr:RRow κ h D.P pg rb c) (ek:Bk h eb' (ce.set i (.int .i64 ((er:Nat):Int)))) (ec:κ eb'=0):RDevC κ h D' pb' eb' (cp.set i (.slc rb 0 D.P rcap)) (ce.set i (.int .i64 ((er:Nat):Int))):=by
 have l1:=q.plen
 have l2:=q.elen
 refine⟨pk,pc,by rw [List.length_set,hnb];exact l1,fun j hj=>?_,ek,ec,by rw [List.length_set,hnb];exact l2,fun j hj=>?_⟩
 ·rw [hnb]at hj
  rw [hP,hbl]
  by_cases e:j=i
  ·subst e
   rw [upd_eq]
   exact⟨rb,rcap,c,List.getElem?_set_self (by omega),hrc,rr⟩
  ·rw [upd_ne _ _ e,List.getElem?_set_ne (by omega)]
   exact q.rows j hj
 ·rw [hnb]at hj
  rw [hbl]
  by_cases e:j=i
  ·subst e
   rw [upd_eq,List.getElem?_set_self (by omega)]
  ·rw [upd_ne _ _ e,List.getElem?_set_ne (by omega)]
   exact q.er j hj
section
variable {κ: Nat→Nat}{h:H}{D:Dv}{fb pb eb ecap nb P sz en n byt:Nat}{cut:Int}{off:Bool}{cp ce:List AV}
theorem Tv {i rb rcap:Nat}(pk:Bk h pb cp)(hl:cp.length=nb)(hn:2≤nb∧nb≤6)(hi:i<nb):Ct P0 E F K 48 [.agg (rvL nb P sz en fb pb eb ecap n cut byt off),.int .i64 ((i:Nat):Int),.slc rb 0 P rcap] h fun v h'=> ∃pb',v= .agg (rvL nb P sz en fb pb' eb ecap n cut byt off)∧Bk h' pb' (cp.set i (.slc rb 0 P rcap))∧h.n≤pb'∧K0 h h':=by
 have l1:=pk.lt
 have l2:i<([]++cp).length:=by rw [List.nil_append];omega
 refine A6 L X.f48 X.k48 rfl rfl fun Q x cs G=>?_
 refine wk ?_
 (apply st1 L rfl;exact bq (sl:=0) (old:= []) (new:=cp) rfl rfl (SlR.of (c:= []) lkp (by simp) rfl) (SlR.of (c:=cp) lkp (by omega) (by rw [List.drop_zero,Nat.mul_one,←hl,List.take_length])) (by omega) (by decide) (by omega);rfl)
 refine wk ?_
 refine ret X.f48 ?_
 refine⟨_,by rw [Nat.zero_add];rfl,lkp,by omega,kps⟩
theorem Vk {i:Int}(q:RDevC κ h D pb eb cp ce)(ok:D.Ok):Ct P0 E F K 38 [.agg (rvL D.nb D.P sz en fb pb eb ecap n cut byt off),.int .i64 i] h fun v h'=>v= .int .i64 ((if 0≤i∧i<D.nb then(D.bl i.toNat).nx else 0:Nat):Int)∧K0 h h':=by
 have hgP:=ok.g.P
 refine Af L X.f38 X.k38 rfl rfl fun Q x cs G=>?_
 refine wk ?_
 refine cal (c:=D0 L X) (g:=?_)
 rintro _ h1 ⟨rfl,hk⟩
 by_cases hi:0≤i∧i<D.nb
 ·rw [decide_eq_true hi]
  obtain⟨j,rfl⟩: ∃j:Nat,i=j:=⟨i.toNat,by omega⟩
  simp only [if_pos hi,Int.toNat_natCast]at G
  have hj:j<D.nb:=by omega
  obtain⟨rb,rcap,c,hc0,hrc,hr⟩:=q.rows j hj
  have hb:=ok.bl j hj
  have hnx:=hb.nx
  have hpk:=q.pk
  have hrk:=hr.k
  have l1:=hpk.lt
  have l2:=hrk.lt
  have n1:=hk.n
  simp only [Ah]at n1
  refine wk ?_
  refine Bb L (α:= Unit) (T:=fun m _=> [(5,some (.int .i64 ((m:Nat):Int))),(2,some (.ptr h.n 0)),(1,some (.int .i64 ((j:Nat):Int)))]) (n:=(D.bl j).nx)
   (R:=fun m _ h2=>Bk h2 h.n (rvL D.nb D.P sz en fb pb eb ecap n cut byt off)∧K0 h h2) (i0:=0) () tsb ⟨lkp,kps⟩ (Nat.zero_le _) ?_ ?_
  ·rintro m _ h2 hm ⟨w1,w2⟩ ih
   have hs:=(hr.pg m (by omega)).st
   have hs':c[m*2+0]?=some (.int .i64 ((((D.bl j).pg m).st:Nat):Int)):=hs
   have hne:=hb.lo m hm
   refine wk ?_
   exact ih () _ _ ⟨lkp,kps⟩ tsb
  ·rintro _ h2 ⟨w1,w2⟩
   by_cases he:(D.bl j).nx<D.P
   ·have hs:=(hr.pg (D.bl j).nx he).st
    have hs':c[(D.bl j).nx*2+0]?=some (.int .i64 ((((D.bl j).pg (D.bl j).nx).st:Nat):Int)):=hs
    have hne:=hb.hi (D.bl j).nx (Nat.le_refl _) he
    refine wk ?_
    refine ret X.f38 ?_
    exact⟨rfl,kps⟩
   ·refine wk ?_
    refine ret X.f38 ?_
    exact⟨by show AV.int .i64 ((D.P:Nat):Int)=_;rw [show(D.bl j).nx=D.P by omega],kps⟩
 ·rw [decide_eq_false hi]
  simp only [if_neg hi]at G
  refine wk ?_
  refine ret X.f38 ?_
  exact⟨rfl,Kp.tr0 hk kps⟩
theorem Sg {i:Int}{rv:List AV}(r:RDev κ h D rv)(hn:D.n+1<1000):Ct P0 E F K 13 [.agg rv,.int .i64 i] h fun v h'=> ∃rv',v= .tup [.agg rv',.int .i64 (((D.erase i).2:Nat):Int)]∧RDev (ext κ h.n) h' (D.erase i).1 rv'∧K0 h h':=by
 obtain⟨ok,fb,pb,eb,ecap,cp,ce,rfl,hecap,q⟩:=r
 have hgP:=ok.g.P
 have hnb:=ok.g.nb
 have hen:=ok.g.en
 have l1:=q.pk.lt
 have l2:=q.ek.lt
 have hpk:=q.pk
 have hek:=q.ek
 by_cases hi:0≤i∧i<D.nb
 ·obtain⟨j,rfl⟩: ∃j:Nat,i=j:=⟨i.toNat,by omega⟩
  have hj:j<D.nb:=by omega
  have her:=q.er j hj
  have hle:=(ok.bl j hj).er
  cases hoff:D.off with
  |true=>
   have e0:D.erase j=(D,50):=by unfold Dv.erase;rw [if_pos hi,if_pos hoff]
   rw [e0]
   have e1:rvC D fb pb eb ecap=rvL D.nb D.P D.sz D.en fb pb eb ecap D.n D.cut D.byt true:=by unfold rvC;rw [hoff]
   rw [e1]
   refine Af L X.f13 X.k13 rfl rfl fun Q x cs G=>?_
   refine wk ?_
   refine cal (c:=D0 L X) (g:=?_)
   rintro _ h1 ⟨rfl,hk⟩
   have n1:=hk.n
   simp only [Ah]at n1
   rw [decide_eq_true hi]
   refine wk ?_
   refine ret X.f13 ?_
   exact⟨_,rfl,⟨ok,fb,pb,eb,ecap,cp,ce,e1.symm,hecap,q.fw (K0.fwe kps)⟩,kps⟩
  |false=>
   have e1:rvC D fb pb eb ecap=rvL D.nb D.P D.sz D.en fb pb eb ecap D.n D.cut D.byt false:=by unfold rvC;rw [hoff]
   by_cases he:D.en≤(D.bl j).er
   ·have e0:D.erase j=(D,56):=by unfold Dv.erase;rw [if_pos hi,if_neg (by rw [hoff];simp),Int.toNat_natCast,if_pos he]
    rw [e0,e1]
    refine Af L X.f13 X.k13 rfl rfl fun Q x cs G=>?_
    refine wk ?_
    refine cal (c:=D0 L X) (g:=?_)
    rintro _ h1 ⟨rfl,hk⟩
    have n1:=hk.n
    simp only [Ah]at n1
    rw [decide_eq_true hi]
    refine wk ?_
    refine ret X.f13 ?_
    exact⟨_,rfl,⟨ok,fb,pb,eb,ecap,cp,ce,e1.symm,hecap,q.fw (K0.fwe kps)⟩,kps⟩
   ·have e0:D.erase j=if(D.n:Int)=D.cut then({D with bl:=upd D.bl j ⟨Fk 5,D.P,(D.bl j).er+1⟩,n:=D.n+1,off:=true},50)else({D with bl:=upd D.bl j ⟨Fk 1,0,(D.bl j).er+1⟩,n:=D.n+1},0):=by
     unfold Dv.erase
     rw [if_pos hi,hoff,if_neg (by simp),Int.toNat_natCast,if_neg (by omega)]
    rw [e0,e1]
    refine Af L X.f13 X.k13 rfl rfl fun Q x cs G=>?_
    refine wk ?_
    refine cal (c:=D0 L X) (g:=?_)
    rintro _ h1 ⟨rfl,hk⟩
    rw [decide_eq_true hi]
    have n1:=hk.n
    simp only [Ah]at n1
    refine wk ?_
    by_cases hc:(D.n:Int)=D.cut
    ·simp only [if_pos hc]at G
     refine wk ?_
     refine cal (c:=J5 L X (s:=5) (by omega)) (g:=?_)
     rintro _ h2 ⟨rb,rc,rfl,w1,w2,w3,w4⟩
     have n2:=w4.n
     simp only [Ah]at n2 w3
     refine wk ?_
     refine cal (c:=Tv L X (i:=j) (cp:=cp) lkp q.plen hnb hj) (g:=?_)
     rintro _ h3 ⟨pb',rfl,w5,w6,w7⟩
     have n3:=w7.n
     simp only [Ah]at n3 w6
     have l4:=w5.lt
     have l5:=w1.lt
     have l3:j<([]++ce).length:=by rw [List.nil_append,q.elen];exact hj
     have her':([]++ce)[j]?=some (.int .i64 (((D.bl j).er:Nat):Int)):=by rw [List.nil_append];exact her
     refine wk ?_
     (apply st1 L rfl;exact bq (sl:=0) (old:= []) (new:=ce) rfl rfl (SlR.of (c:= []) lkp (by simp) rfl) (SlR.of (c:=ce) lkp (by rw [q.elen];omega) (by rw [List.drop_zero,Nat.mul_one,←q.elen,List.take_length])) (by omega) (by decide) (by omega);rfl)
     refine wk ?_
     refine ret X.f13 ?_
     refine⟨_,by rw [Nat.zero_add];rfl,⟨ok.row (i:=j) (s:=5) (nx:=D.P) (er:=(D.bl j).er+1) ⟨rfl,rfl,rfl,rfl⟩ hn rfl rfl rfl (by omega) (by omega),fb,pb',h3.n+1,Ac+1,_,_,(by first|rfl|(unfold rvC rvL;rw [hoff])),.inr rfl,
      (q.fw (K0.fwe (κ:= κ) kps)).row (rcap:=D.P) (pg:=Fk 5) hj rfl rfl rfl lkp (Da (by omega)) (.inl rfl) ⟨lkp,Da (by omega),w2.len,fun m hm=>⟨by rw [w2.st m hm,if_pos hm];rfl,fun _ _=>w2.nil m hm,fun hs=>absurd hs (by show¬(5=2∨5=3);omega)⟩⟩ lkp (Da (by omega))⟩,kps⟩
    ·simp only [if_neg hc]at G
     refine wk ?_
     refine cal (c:=Vi L X) (g:=?_)
     rintro _ hf ⟨rfl,wf⟩
     have nf:=wf.n
     simp only [Ah]at nf
     refine wk ?_
     refine cal (c:=J5 L X (s:=1) (by omega)) (g:=?_)
     rintro _ h2 ⟨rb,rc,rfl,w1,w2,w3,w4⟩
     have n2:=w4.n
     simp only [Ah]at n2 w3
     refine wk ?_
     refine cal (c:=Tv L X (i:=j) (cp:=cp) lkp q.plen hnb hj) (g:=?_)
     rintro _ h3 ⟨pb',rfl,w5,w6,w7⟩
     have n3:=w7.n
     simp only [Ah]at n3 w6
     have l4:=w5.lt
     have l5:=w1.lt
     have l3:j<([]++ce).length:=by rw [List.nil_append,q.elen];exact hj
     have her':([]++ce)[j]?=some (.int .i64 (((D.bl j).er:Nat):Int)):=by rw [List.nil_append];exact her
     refine wk ?_
     (apply st1 L rfl;exact bq (sl:=0) (old:= []) (new:=ce) rfl rfl (SlR.of (c:= []) lkp (by simp) rfl) (SlR.of (c:=ce) lkp (by rw [q.elen];omega) (by rw [List.drop_zero,Nat.mul_one,←q.elen,List.take_length])) (by omega) (by decide) (by omega);rfl)
     refine wk ?_
     refine ret X.f13 ?_
     refine⟨_,by rw [Nat.zero_add];rfl,⟨ok.row (i:=j) (s:=1) (nx:=0) (er:=(D.bl j).er+1) ⟨rfl,rfl,rfl,rfl⟩ hn rfl rfl rfl (by omega) (by omega),fb,pb',h3.n+1,Ac+1,_,_,(by first|rfl|(unfold rvC rvL;rw [hoff])),.inr rfl,
      (q.fw (K0.fwe (κ:= κ) kps)).row (rcap:=D.P) (pg:=Fk 1) hj rfl rfl rfl lkp (Da (by omega)) (.inl rfl) ⟨lkp,Da (by omega),w2.len,fun m hm=>⟨by rw [w2.st m hm,if_pos hm];rfl,fun _ _=>w2.nil m hm,fun hs=>absurd hs (by show¬(1=2∨1=3);omega)⟩⟩ lkp (Da (by omega))⟩,kps⟩
 ·have e0:D.erase i=(D,2):=by unfold Dv.erase;rw [if_neg hi]
  rw [e0]
  refine Af L X.f13 X.k13 rfl rfl fun Q x cs G=>?_
  refine wk ?_
  refine cal (c:=D0 L X) (g:=?_)
  rintro _ h1 ⟨rfl,hk⟩
  have n1:=hk.n
  simp only [Ah]at n1
  rw [decide_eq_false hi]
  refine wk ?_
  refine ret X.f13 ?_
  exact⟨_,rfl,⟨ok,fb,pb,eb,ecap,cp,ce,rfl,hecap,q.fw (K0.fwe kps)⟩,kps⟩
end
end
section
variable {P0:Program}{E:Env}{F:T CFn}{K:T (List AV×AV)}(L:Lg P0 E F K)(X:Fx F K)
include L X
def mbL (g0 g1 g2 g3 fb:Nat)(fv:AV)(eb:Nat):List AV:= [.int .i64 ((g0:Nat):Int),.int .i64 ((g1:Nat):Int),.int .i64 ((g2:Nat):Int),.int .i64 ((g3:Nat):Int),.slc fb 0 0 0,fv,.slc eb 0 g0 g0,.int .i64 ((0:Nat):Int),.int .i64 (-1),.int .i64 ((0:Nat):Int),.bool false]
def zbL:List AV:= [.int .i64 ((0:Nat):Int),.int .i64 ((0:Nat):Int),.int .i64 ((0:Nat):Int),.int .i64 ((0:Nat):Int),.nils,.nils,.nils,.int .i64 ((0:Nat):Int),.int .i64 ((0:Nat):Int),.int .i64 ((0:Nat):Int),.bool false]
structure Rows (m:Nat)(h:H)(P i:Nat)(pb:Nat)(cp:List AV):Prop where
 k:Bk h pb cp
 len:cp.length=i
 new:m<pb
 row: ∀j,j<i→ ∃rb c,cp[j]?=some (.slc rb 0 P P)∧Bk h rb c∧RpRow P P 1 c∧m<rb∧rb<pb
section
variable {κ: Nat→Nat}{h:H}{D:Dv}{g0 g1 g2 g3:Nat}
theorem rm (h0:2≤g0∧g0≤6)(h1:2≤g1∧g1≤6)(h2:12≤g2∧g2≤30)(h3:1≤g3∧g3≤1000):Ct P0 E F K 36 [.agg (Hc g0 g1 g2 g3),.nils] h fun v h'=> ∃rv,v= .tup [.agg rv,.int .i64 ((0:Nat):Int)]∧RDev (ext κ h.n) h' (Dv.new g0 g1 g2 g3) rv∧K0 h h':=by
 refine Af L X.f36 X.k36 rfl rfl fun Q x cs G=>?_
 refine wk ?_
 refine cal (c:=jw L X h0 h1 h2 h3) (g:=?_)
 rintro _ h4 ⟨rfl,hk⟩
 have n4:=hk.n
 simp only [Ah]at n4
 refine wk ?_
 refine A4 L ?_
 refine wk ?_
 have main: ∀(h5:H) (lq:List (Nat×Option AV)) (mb eb fb:Nat),Bk h5 h.n (Hc g0 g1 g2 g3)→Bk h5 (h.n+1) zbL→Bk h5 mb (mbL g0 g1 g2 g3 fb .nils eb)→Bk h5 eb (rl [.int .i64 ((0:Nat):Int)] g0)→K0 h h5→h.n+1<mb→h.n+1<eb→eb≠mb→
   TSub (tms [(8,some (.int .i64 ((0:Nat):Int))),(2,some (.ptr h.n 0)),(4,some (.ptr (h.n+1) 0)),(7,some (.ptr mb 0))]) (tms lq)→
   Good P0 E Q ⟨⟨36,48,tms lq,[.code c36_32,.inBlock 2,.code c36_36],[],.run,false,none⟩,x::cs,h5⟩:=by
  rintro h5 lq mb eb fb k1 k2 k3 k4 k5 l1 l2 l3 ht
  have l4:=k3.lt
  have l5:=k4.lt
  have l6:=k5.n
  refine Bb L (α:= Unit) (T:=fun i _=> [(8,some (.int .i64 ((i:Nat):Int))),(2,some (.ptr h.n 0)),(4,some (.ptr (h.n+1) 0)),(7,some (.ptr mb 0))]) (n:=g0)
   (R:=fun i _ h6=> ∃fv pb cp,Bk h6 h.n (Hc g0 g1 g2 g3)∧Bk h6 (h.n+1) zbL∧Bk h6 mb (mbL g0 g1 g2 g3 fb fv eb)∧Bk h6 eb (rl [.int .i64 ((0:Nat):Int)] g0)∧K0 h h6∧(i=0∧fv= .nils∨0<i∧fv= .slc pb 0 i (Ac+1)∧mb<pb∧eb<pb∧h.n+1<pb∧Rows mb h6 g1 i pb cp)) (i0:=0) () ht ⟨.nils,0,[],k1,k2,k3,k4,k5,.inl ⟨rfl,rfl⟩⟩ (Nat.zero_le _) ?_ ?_
  ·rintro i _ h6 hi ⟨fv,pb,cp,w1,w2,w3,w4,w5,w6⟩ ih
   have m1:=w1.lt
   have m3:=w3.lt
   have m4:=w4.lt
   rcases w6 with⟨w6,w7⟩|⟨w6,w7,w8,w9,wa,wb⟩
   ·subst w6
    subst w7
    refine wk ?_
    refine cal (c:=J5 L X (s:=1) (by omega)) (g:=?_)
    rintro _ h7 ⟨rb,c,rfl,u1,u2,u3,u4⟩
    have n7:=u4.n
    have m5:=u1.lt
    simp only [Ah]at u3 n7
    refine wk ?_
    (apply B5 L rfl rfl;exact D8 (n2:=1) (new:= [.slc rb 0 g1 g1]) rfl rfl (SlR.of (c:= [.slc rb 0 g1 g1]) lkp (by simp) rfl) (by omega) (by omega))
    refine wk ?_
    refine ih () _ _ ⟨_,h7.n+1,_,lkp,lkp,lkp,lkp,kps,.inr ⟨by omega,rfl,by omega,by omega,by omega,lkp,rfl,by omega,fun j hj=>⟨rb,c,?_,lkp,u2,by omega,by omega⟩⟩⟩ tsb
    rw [show j=0 by omega];rfl
   ·subst w7
    have wk1:=wb.k
    have m6:=wk1.lt
    refine wk ?_
    refine cal (c:=J5 L X (s:=1) (by omega)) (g:=?_)
    rintro _ h7 ⟨rb,c,rfl,u1,u2,u3,u4⟩
    have n7:=u4.n
    have m5:=u1.lt
    simp only [Ah]at u3 n7
    refine wk ?_
    (apply B5 L rfl rfl;exact C2 (n2:=1) (old:=cp) (new:= [.slc rb 0 g1 g1]) rfl rfl (SlR.of (c:=cp) lkp (by rw [wb.len];omega) (by rw [List.drop_zero,Nat.mul_one,←wb.len,List.take_length])) (SlR.of (c:= [.slc rb 0 g1 g1]) lkp (by simp) rfl) (by omega) (by omega) rfl)
    refine wk ?_
    refine ih () _ _ ⟨_,h7.n+1,_,lkp,lkp,lkp,lkp,kps,.inr ⟨by omega,rfl,by omega,by omega,by omega,lkp,by rw [List.length_append,wb.len];rfl,by omega,fun j hj=>?_⟩⟩ tsb
    by_cases e:j<i
    ·obtain⟨rb',c',v1,v2,v3,v4,v5⟩:=wb.row j e
     have m7:=v2.lt
     exact⟨rb',c',by rw [List.getElem?_append_left (by rw [wb.len];exact e)];exact v1,lkp,v3,v4,by omega⟩
    ·have e:j=i:=by omega
     subst e
     exact⟨rb,c,by rw [List.getElem?_append_right (by rw [wb.len];exact Nat.le_refl _),wb.len,Nat.sub_self];rfl,lkp,u2,by omega,by omega⟩
  ·rintro _ h6 ⟨fv,pb,cp,w1,w2,w3,w4,w5,w6⟩
   rcases w6 with⟨w6,w7⟩|⟨w6,w7,w8,w9,wa,wb⟩
   ·omega
   ·subst w7
    have m1:=w1.lt
    have m2:=wb.k.lt
    have wk2:=wb.k
    refine wk ?_
    refine ret X.f36 ?_
    refine⟨_,rfl,⟨⟨⟨h0,h1,h2,h3⟩,by show(0:Nat)<1000;omega,Nat.zero_le _,by show(-1:Int)≤ -1∧(-1:Int)<1000;omega,fun i hi=>⟨Nat.zero_le _,fun j hj=>absurd hj (Nat.not_lt_zero j),fun j _ _=>rfl,fun j _=>⟨fun hs=>absurd hs (by show¬(1=2∨1=3);omega),fun _ _=>rfl,(by show 1≤1∧1≤5;omega)⟩,Nat.zero_le _⟩⟩,
     fb,pb,eb,g0,cp,_,rfl,.inl rfl,⟨by exact lkp,Da (by omega),wb.len,fun i hi=>?_,lkp,Da (by omega),by rw [Pk];exact Nat.mul_one _,fun i hi=>?_⟩⟩,kps⟩
    ·obtain⟨rb',c',v1,v2,v3,v4,v5⟩:=wb.row i hi
     have m7:=v2.lt
     have m8:mb≠rb':=by omega
     exact⟨rb',g1,c',v1,.inl rfl,lkp,Da (by omega),v3.len,fun j hj=>⟨by rw [v3.st j hj,if_pos (show j<g1 from hj)];rfl,fun _ _=>v3.nil j hj,fun hs=>absurd hs (by show¬(1=2∨1=3);omega)⟩⟩
    ·rw [Tf _ _ _ (by show i<g0*1;rw [Nat.mul_one];exact hi),show i % [AV.int .i64 ((0:Nat):Int)].length=0 from Nat.mod_one i];rfl
 refine rf L ?_ ?_ ?_ ?_
 ·refine wk ?_
  exact main _ _ (h4.n+1+1) (h4.n+1) h4.n lkp lkp lkp lkp kps (by omega) (by omega) (by omega) tsb
 ·refine wk ?_
  exact main _ _ (h4.n+1+1) (h4.n+1) h4.n lkp lkp lkp lkp kps (by omega) (by omega) (by omega) tsb
 ·refine wk ?_
  exact main _ _ (h4.n+1) (h4.n+1+1) h4.n lkp lkp lkp lkp kps (by omega) (by omega) (by omega) tsb
 ·refine wk ?_
  exact main _ _ (h4.n+1+1) (h4.n+1) h4.n lkp lkp lkp lkp kps (by omega) (by omega) (by omega) tsb
end
end
section
variable {P0:Program}{E:Env}{F:T CFn}{K:T (List AV×AV)}(L:Lg P0 E F K)(X:Fx F K)
include L X
section
variable {κ: Nat→Nat}{h:H}{D:Dv}{fb pb eb ecap sz en n byt:Nat}{cut:Int}{off:Bool}{cp ce:List AV}
theorem Hn {i j:Nat}(q:RDevC κ h D pb eb cp ce)(ok:D.Ok)(hi:i<D.nb)(hj:j<D.P):Ct P0 E F K 67 [.agg (rvL D.nb D.P sz en fb pb eb ecap n cut byt off),.int .i64 ((i:Nat):Int),.int .i64 ((j:Nat):Int)] h fun v h'=>v= .int .i64 ((((D.bl i).pg j).st:Nat):Int)∧K0 h h':=by
 have hgP:=ok.g.P
 have hnb:=ok.g.nb
 obtain⟨rb,rcap,c,hc0,hrc,hr⟩:=q.rows i hi
 have hpk:=q.pk
 have hrk:=hr.k
 have hs':c[j*2+0]?=some (.int .i64 ((((D.bl i).pg j).st:Nat):Int)):=(hr.pg j hj).st
 refine A6 L X.f67 X.k67 rfl rfl fun Q x cs G=>?_
 refine wk ?_
 refine cal (c:=D0 L X) (g:=?_)
 rintro _ h1 ⟨rfl,hk⟩
 have n1:=hk.n
 simp only [Ah]at n1
 rw [decide_eq_true (show 0≤(i:Int)∧(i:Int)<D.nb by omega)]
 refine wk ?_
 refine ret X.f67 ?_
 exact⟨rfl,kps⟩
theorem bt {i j:Nat}{rv:List AV}(r:RDev κ h D rv)(hi:i<D.nb)(hj:j<D.P)(he:D.off=true∨(((D.bl i).pg j).st≠2∧((D.bl i).pg j).st≠3)):Ct P0 E F K 71 [.agg rv,.int .i64 ((i:Nat):Int),.int .i64 ((j:Nat):Int)] h fun v h'=>(∃e:Nat,v= .tup [.nils,.nils,.int .i64 ((e:Nat):Int)]∧0<e∧e<1000)∧K0 h h':=by
 obtain⟨ok,fb,pb,eb,ecap,cp,ce,rfl,hecap,q⟩:=r
 have hst:=((ok.bl i hi).pg j hj).st
 have hgP:=ok.g.P
 have e1: ∀o,D.off=o→rvC D fb pb eb ecap=rvL D.nb D.P D.sz D.en fb pb eb ecap D.n D.cut D.byt o:=fun o ho=>by unfold rvC;rw [ho]
 have l1:=q.pk.lt
 cases hoff:D.off with
 |true=>
  rw [e1 _ hoff]
  refine A6 L X.f71 X.k71 rfl rfl fun Q x cs G=>?_
  refine wk ?_
  refine cal (c:=Hn L X (fb:=fb) (ecap:=ecap) (q.fw (K0.fwe (κ:= κ) kps)) ok hi hj) (g:=?_)
  rintro _ h1 ⟨rfl,hk⟩
  have n1:=hk.n
  simp only [Ah]at n1
  refine wk ?_
  refine ret X.f71 ?_
  exact⟨⟨50,rfl,by omega,by omega⟩,kps⟩
 |false=>
  obtain⟨s2,s3⟩:((D.bl i).pg j).st≠2∧((D.bl i).pg j).st≠3:=by
   rcases he with e|e
   ·rw [hoff]at e;cases e
   ·exact e
  rw [e1 _ hoff]
  refine A6 L X.f71 X.k71 rfl rfl fun Q x cs G=>?_
  refine wk ?_
  refine cal (c:=Hn L X (fb:=fb) (ecap:=ecap) (q.fw (K0.fwe (κ:= κ) kps)) ok hi hj) (g:=?_)
  rintro _ h1 ⟨rfl,hk⟩
  have n1:=hk.n
  simp only [Ah]at n1
  refine wk ?_
  by_cases s1:((D.bl i).pg j).st=1
  ·refine wk ?_
   refine ret X.f71 ?_
   exact⟨⟨52,rfl,by omega,by omega⟩,kps⟩
  ·refine wk ?_
   by_cases s4:((D.bl i).pg j).st=4
   ·refine wk ?_
    refine ret X.f71 ?_
    exact⟨⟨53,rfl,by omega,by omega⟩,kps⟩
   ·refine wk ?_
    refine ret X.f71 ?_
    exact⟨⟨53,rfl,by omega,by omega⟩,kps⟩
theorem bu {i j:Nat}{rv:List AV}(r:RDev κ h D rv)(hi:i<D.nb)(hj:j<D.P)(hoff:D.off=false)(hs:((D.bl i).pg j).st=2∨((D.bl i).pg j).st=3):Ct P0 E F K 71 [.agg rv,.int .i64 ((i:Nat):Int),.int .i64 ((j:Nat):Int)] h fun v h'=> ∃b,v= .tup [.slc b 0 D.sz (Ac+1),.slc b D.sz 64 (Ac+1),.int .i64 ((0:Nat):Int)]∧κ b=0∧BS h b 0 ((D.bl i).pg j).b∧K0 h h':=by
 obtain⟨ok,fb,pb,eb,ecap,cp,ce,rfl,hecap,q⟩:=r
 have hl:=((ok.bl i hi).pg j hj).full hs
 have hgP:=ok.g.P
 have hsz:=ok.g.sz
 have e1:rvC D fb pb eb ecap=rvL D.nb D.P D.sz D.en fb pb eb ecap D.n D.cut D.byt false:=by unfold rvC;rw [hoff]
 have l1:=q.pk.lt
 have hpk:=q.pk
 obtain⟨rb,rcap,c,hc0,hrc,hr⟩:=q.rows i hi
 have hrk:=hr.k
 have l2:=hrk.lt
 obtain⟨b,hc1,hcol,hb⟩:=(hr.pg j hj).full hs
 rw [hl]at hc1
 rw [e1]
 refine A6 L X.f71 X.k71 rfl rfl fun Q x cs G=>?_
 refine wk ?_
 refine cal (c:=Hn L X (fb:=fb) (ecap:=ecap) (q.fw (K0.fwe (κ:= κ) kps)) ok hi hj) (g:=?_)
 rintro _ h1 ⟨rfl,hk⟩
 have n1:=hk.n
 simp only [Ah]at n1
 refine wk ?_
 refine ret X.f71 ?_
 exact⟨b,by rw [show D.sz+64 - D.sz=64 by omega,Nat.zero_add];rfl,hcol,hb,kps⟩
end
end
section
variable {P0:Program}{E:Env}{F:T CFn}{K:T (List AV×AV)}(L:Lg P0 E F K)(X:Fx F K)
include L X
omit L X in
theorem RDevC.page {κ: Nat→Nat}{h:H}{D D':Dv}{pb eb pb' i rb rcap nx:Nat}{cp ce c:List AV}{pg:Nat→Pg}(q:RDevC κ h D pb eb cp ce)(hi:i<D.nb)(hnb:D'.nb=D.nb)(hP:D'.P=D.P)(hbl:D'.bl=upd D.bl i ⟨pg,nx,(D.bl i).er⟩)
  (pk:Bk h pb' (cp.set i (.slc rb 0 D.P rcap))) (pc:κ pb'=0) (hrc:rcap=D.P∨rcap=Ac+2) (rr:RRow κ h D.P pg rb c):RDevC κ h D' pb' eb (cp.set i (.slc rb 0 D.P rcap)) ce:=by
 have l1:=q.plen
 refine⟨pk,pc,by rw [List.length_set,hnb];exact l1,fun j hj=>?_,q.ek,q.ecol,by rw [hnb];exact q.elen,fun j hj=>?_⟩
 ·rw [hnb]at hj
  rw [hP,hbl]
  by_cases e:j=i
  ·subst e
   rw [upd_eq]
   exact⟨rb,rcap,c,List.getElem?_set_self (by omega),hrc,rr⟩
  ·rw [upd_ne _ _ e,List.getElem?_set_ne (by omega)]
   exact q.rows j hj
 ·rw [hnb]at hj
  rw [hbl]
  by_cases e:j=i
  ·subst e
   rw [upd_eq];exact q.er j hj
  ·rw [upd_ne _ _ e];exact q.er j hj
omit L X in
theorem RRow.set {κ: Nat→Nat}{h:H}{P rb j nb ab:Nat}{c:List AV}{pg:Nat→Pg}{p:Pg}(q:RRow κ h P pg rb c)(hj:j<P)(hs:p.st=2∨p.st=3)(k:Bk h nb ((c.set (j*2) (.int .i64 ((p.st:Nat):Int))).set (j*2+1) (.slc ab 0 p.b.length (Ac+1))))(hc:κ nb=0)(ak:BS h ab 0 p.b)(ac:κ ab=0):
  RRow κ h P (upd pg j p) nb ((c.set (j*2) (.int .i64 ((p.st:Nat):Int))).set (j*2+1) (.slc ab 0 p.b.length (Ac+1))):=by
 have l:=q.len
 refine⟨k,hc,by rw [List.length_set,List.length_set];exact l,fun m hm=>?_⟩
 by_cases e:m=j
 ·subst e
  rw [upd_eq]
  exact⟨by rw [List.getElem?_set_ne (by omega),List.getElem?_set_self (by omega)],fun h1 h2=>by omega,fun _=>⟨ab,by rw [List.getElem?_set_self (by rw [List.length_set];omega)],ac,ak⟩⟩
 ·rw [upd_ne _ _ e]
  have h1:=q.pg m hm
  exact⟨by rw [List.getElem?_set_ne (by omega),List.getElem?_set_ne (by omega)];exact h1.st,fun a b=>by rw [List.getElem?_set_ne (by omega),List.getElem?_set_ne (by omega)];exact h1.none a b,fun a=>by rw [List.getElem?_set_ne (by omega),List.getElem?_set_ne (by omega)];exact h1.full a⟩
section
variable {κ: Nat→Nat}{h:H}{D:Dv}
theorem bw {j:Nat}{b1 o1 c1 b2 o2 c2 fb pb eb ecap:Nat}{cp ce:List AV}{data extra:List Nat}(ok:D.Ok)(hecap:ecap=D.nb∨ecap=Ac+1)(q:RDevC κ h D pb eb cp ce)(hn:D.n+1<1000)(hj:j<D.nb)(hnx:(D.bl j).nx<D.P)(hoff:D.off=false)(k1:BS h b1 o1 data)(k2:BS h b2 o2 extra)(e1:data.length=D.sz)(e2:extra.length=64):
  Ct P0 E F K 40 [.agg (rvL D.nb D.P D.sz D.en fb pb eb ecap D.n D.cut D.byt false),.int .i64 ((j:Nat):Int),.int .i64 (((D.bl j).nx:Nat):Int),.slc b1 o1 D.sz c1,.slc b2 o2 64 c2] h fun v h'=> ∃rv',v= .tup [.agg rv',.int .i64 ((if(D.n:Int)=D.cut then 50 else 0:Nat):Int)]∧RDev (ext κ h.n) h' (D.wr j (data++extra)) rv'∧K0 h h':=by
 have hgP:=ok.g.P
 have hnb:=ok.g.nb
 have hsz:=ok.g.sz
 have hby:=ok.byt
 have l1:=q.pk.lt
 have l2:=q.ek.lt
 have hpk:=q.pk
 have hek:=q.ek
 have l3:=k1.lt_n
 have l4:=k2.lt_n
 have a1:=k1.all
 have a2:=k2.all
 have hal:(data++extra).length=D.sz+64:=by rw [List.length_append];omega
 obtain⟨rb,rcap,c,hc0,hrc,hr⟩:=q.rows j hj
 have hrk:=hr.k
 have l5:=hrk.lt
 have hij:0≤(j:Int)∧(j:Int)<D.nb:=by omega
 refine Mz L X.f40 X.k40 rfl rfl fun Q x cs G=>?_
 refine wk ?_
 refine cal (c:=D0 L X) (g:=?_)
 rintro _ h1 ⟨rfl,hk1⟩
 have n1:=hk1.n
 simp only [Ah]at n1
 rw [decide_eq_true hij]
 refine wk ?_
 refine cal (c:=Vk L X (fb:=fb) (ecap:=ecap) (q.fw (K0.fwe (κ:= κ) kps)) ok) (g:=?_)
 rintro _ h2 ⟨rfl,hk2⟩
 have n2:=hk2.n
 simp only [Ah]at n2
 rw [if_pos hij,Int.toNat_natCast]
 refine wk ?_
 have f1:BS (hp (h2.n+1) h2.t [(h2.n,some (cl []))]) b1 o1 data:=lkb
 (apply st1 L rfl;exact M0 rfl rfl (f1.slr e1) (by omega) (by omega);rfl)
 refine wk ?_
 have f2:BS (hp (h2.n+1+1) h2.t [(h2.n+1,some (cl (Ax data))),(h2.n,some (cl []))]) b2 o2 extra:=lkb
 have f3:BS (hp (h2.n+1+1) h2.t [(h2.n+1,some (cl (Ax data))),(h2.n,some (cl []))]) (h2.n+1) 0 data:=Fs a1
 (apply st1 L rfl;exact C2 rfl rfl (f3.slr (by omega)) (f2.slr e2) (by omega) (by omega) (Ec _);rfl)
 refine wk ?_
 have main: ∀(h5:H) (lq:List (Nat×Option AV)) (off:Bool) (kb:Nat),Bk h5 h.n (rvL D.nb D.P D.sz D.en fb pb eb ecap D.n D.cut D.byt off)→Bk h5 (h.n+1) zbL→Bk h5 (h2.n+1+1+1) [.int .i64 (((D.pgW (data++extra)).st:Nat):Int),.slc (h2.n+1+1) 0 (D.sz+64) (Ac+1)]→BS h5 (h2.n+1+1) 0 (D.pgW (data++extra)).b→Bk h5 kb []→kb≠h.n→kb≠h.n+1→
   K0 h h5→off=decide ((D.n:Int)=D.cut)→TSub (tms [(1,some (.int .i64 ((j:Nat):Int))),(2,some (.int .i64 (((D.bl j).nx:Nat):Int))),(5,some (.ptr h.n 0)),(10,some (.ptr (h.n+1) 0)),(13,some (.ptr (h2.n+1+1+1) 0)),(14,some (.int .i64 ((if(D.n:Int)=D.cut then 50 else 0:Nat):Int))),(88,some (.slc kb 0 0 0)),(93,some (.slc rb 0 D.P rcap))]) (tms lq)→
   Good P0 E Q ⟨⟨40,109,tms lq,[.ops [⟨some 94,none,.append 2 32 (.t 88) (.t 93)⟩,⟨some 16,none,.mv (.t 94)⟩],.code c40_52],[],.run,false,none⟩,x::cs,h5⟩:=by
  intro h5 lq off kb w1 w2 w3 w4 w5 w6 w7 w8 w9 ht
  refine Oc L ht ?_
  refine Od L (h':=hp h5.n h5.t []) (.refl _) ?_
  have m1:=w1.lt
  have m2:=w2.lt
  have m3:=w3.lt
  have m4:=w4.lt_n
  have m5:=w5.lt
  have lc:=hr.len
  (apply st1 L rfl;exact M0 (new:=c) rfl rfl (SlR.of (c:=c) lkp (by omega) (by rw [List.drop_zero,←lc,List.take_length])) (by omega) (by omega);rfl)
  have lc2:(D.bl j).nx*2+1<c.length:=by omega
  refine wk ?_
  refine cal (c:=Tv L X (i:=j) (cp:=cp) lkp q.plen hnb hj) (g:=?_)
  rintro _ h6 ⟨pb',rfl,u5,u6,u7⟩
  have n6:=u7.n
  have m6:=u5.lt
  simp only [Ah]at n6 u6
  refine wk ?_
  refine ret X.f40 ?_
  have hpl:=D.pgW_len (data++extra) (by omega)
  refine⟨_,rfl,⟨ok.setPage (D':=D.wr j (data++extra)) (p:=D.pgW (data++extra)) hj hnx (D.pgW_st _) (by rw [hpl,hal]) ⟨rfl,rfl,rfl,rfl⟩ hn rfl rfl rfl,fb,pb',eb,ecap,_,_,?_,hecap,
   (q.fw (K0.fwe (κ:= κ) kps)).page (rcap:=Ac+2) (pg:=upd (D.bl j).pg (D.bl j).nx (D.pgW (data++extra))) (nx:=(D.bl j).nx+1) hj rfl rfl rfl lkp (Da (by omega)) (.inr rfl)
    ((hr.fw (K0.fwe (κ:= κ) kps)).set (ab:=h2.n+1+1) hnx (D.pgW_st _) ?_ (Da (by omega)) ?_ (Da (by omega)))⟩,kps⟩
  ·show _=rvC _ _ _ _ _
   unfold rvC Dv.wr
   rw [hoff,Bool.false_or,←w9];rfl
  ·rw [hpl,hal];exact lkp
  ·exact lkb
 by_cases hc:(D.n:Int)=D.cut
 ·have e2:D.pgW (data++extra)=⟨if D.byt=(data++extra).length then 2 else 3,Tt D.byt (data++extra)⟩:=if_pos hc
  have hb0:BS (hp (h2.n+1+1+1) h2.t [(h2.n+1+1,some (cl (Ax data++Ax extra))),(h2.n+1,none),(h2.n+1,some (cl (Ax data))),(h2.n,some (cl []))]) (h2.n+1+1) 0 (data++extra):=by
   rw [Fl];exact Fs (a1.app a2)
  have hlb:(Ax data++Ax extra).length=D.sz+64:=by rw [Fl];simp only [Ax,List.length_map];exact hal
  have hcb: ∀m,m<D.sz+64→(Ax data++Ax extra)[m]?=some (.int .u8 (((data++extra).getD m 0:Nat):Int)):=fun m hm=>by rw [Fl];exact Qd _ m (by omega)
  refine wk ?_
  refine Bb L (α:= Unit) (T:=fun i _=> [(15,some (.int .i64 ((i:Nat):Int))),(12,some (.slc (h2.n+1+1) 0 (D.sz+64) (Ac+1))),(5,some (.ptr h.n 0)),(10,some (.ptr (h.n+1) 0)),(13,some (.ptr (h2.n+1+1+1) 0)),(1,some (.int .i64 ((j:Nat):Int))),(2,some (.int .i64 (((D.bl j).nx:Nat):Int)))]) (n:=D.sz+64)
   (R:=fun i _ h3=>(∃cc,Bk h3 (h2.n+1+1) cc∧D.byt≤i∧cc.length=D.sz+64∧ ∀m,m<D.sz+64→cc[m]?=some (.int .u8 ((if D.byt≤m∧m<i then 255 else(data++extra).getD m 0:Nat):Int)))∧Bk h3 h.n (rvL D.nb D.P D.sz D.en fb pb eb ecap D.n D.cut D.byt false)∧Bk h3 (h.n+1) zbL∧
    Bk h3 (h2.n+1+1+1) [.int .i64 ((2:Nat):Int),.slc (h2.n+1+1) 0 (D.sz+64) (Ac+1)]∧K0 h h3) (i0:=D.byt) () tsb ⟨⟨_,lkp,Nat.le_refl _,hlb,fun m hm=>by rw [if_neg (by omega)];exact hcb m hm⟩,lkp,lkp,lkp,kps⟩ hby ?_ ?_
  ·rintro i _ h3 hi ⟨⟨cc,w1,w0,w2,w3⟩,w4,w5,w6,w7⟩ ih
   have hlen:i<cc.length:=by omega
   have m1:=w1.lt
   have m2:=w4.lt
   have m3:=w6.lt
   refine wk ?_
   refine ih () _ _ ⟨⟨_,lkp,by omega,by rw [List.length_set];exact w2,fun m hm=>?_⟩,lkp,lkp,lkp,kps⟩ tsb
   by_cases e:m=i
   ·subst e
    rw [List.getElem?_set_self hlen,if_pos (by omega)]
   ·rw [List.getElem?_set_ne (by omega),w3 m hm]
    by_cases e3:D.byt≤m∧m<i
    ·rw [if_pos e3,if_pos (by omega)]
    ·rw [if_neg e3,if_neg (by omega)]
  ·rintro _ h3 ⟨⟨cc,w1,w0,w2,w3⟩,w4,w5,w6,w7⟩
   have m1:=w1.lt
   have m2:=w4.lt
   have m3:=w6.lt
   have hbs:BS h3 (h2.n+1+1) 0 (Tt D.byt (data++extra)):=by
    refine⟨⟨cc,w1,by rw [Gp _ _ (by omega)];omega,fun m hm=>?_⟩,fun m hm=>?_⟩
    ·rw [Gp _ _ (by omega)]at hm
     rw [Nat.zero_add,w3 m (by omega),Lr _ _ (by omega) _ hm]
     by_cases e3:D.byt≤m
     ·rw [if_pos e3,if_pos (by omega)]
     ·rw [if_neg e3,if_neg (by omega)]
    ·rw [Gp _ _ (by omega)]at hm
     rw [Lr _ _ (by omega) _ hm]
     split
     ·omega
     ·exact(a1.app a2) m hm
   refine wk ?_
   by_cases hbt:D.byt<D.sz+64
   ·refine wk ?_
    refine main _ _ true h3.n lkp lkp ?_ ?_ lkp (by omega) (by omega) kps (decide_eq_true hc).symm ?_
    ·rw [e2,hal,if_neg (by omega)];exact lkp
    ·rw [e2];exact lkb
    ·rw [if_pos hc];exact tsb
   ·refine wk ?_
    refine main _ _ true h3.n lkp lkp ?_ ?_ lkp (by omega) (by omega) kps (decide_eq_true hc).symm ?_
    ·rw [e2,hal,if_pos (by omega)];exact lkp
    ·rw [e2];exact lkb
    ·rw [if_pos hc];exact tsb
 ·have e2:D.pgW (data++extra)=⟨2,data++extra⟩:=if_neg hc
  refine wk ?_
  refine cal (c:=Vi L X) (g:=?_)
  rintro _ h3 ⟨rfl,hk3⟩
  have n3:=hk3.n
  simp only [Ah]at n3
  refine wk ?_
  refine main _ _ false h3.n lkp lkp ?_ ?_ lkp (by omega) (by omega) kps (decide_eq_false hc).symm ?_
  ·rw [e2];exact lkp
  ·rw [e2]
   have hb:BS (hp (h2.n+1+1+1+1) h2.t [(h2.n+1+1+1,some (cl [.int .i64 ((2:Nat):Int),.slc (h2.n+1+1) 0 (D.sz+64) (Ac+1)])),(h2.n+1+1+1,some (cl [.int .i64 ((0:Nat):Int),.nils])),(h2.n+1+1,some (cl (Ax data++Ax extra))),(h2.n+1,none),(h2.n+1,some (cl (Ax data))),(h2.n,some (cl []))]) (h2.n+1+1) 0 (data++extra):=by
    rw [Fl]
    exact ri (by omega) (xj (Fs (a1.app a2)))
   exact lkb
  ·rw [if_neg hc];exact tsb
theorem Vl {i:Int}{rv:List AV}{b1 o1 c1 b2 o2 c2 p:Nat}{data extra:List Nat}(r:RDev κ h D rv)(hn:D.n+1<1000)(hp1:0≤i∧i<D.nb→p=(D.bl i.toNat).nx)(k1:BS h b1 o1 data)(k2:BS h b2 o2 extra)(e1:data.length=D.sz)(e2:extra.length=64):
  Ct P0 E F K 40 [.agg rv,.int .i64 i,.int .i64 ((p:Nat):Int),.slc b1 o1 D.sz c1,.slc b2 o2 64 c2] h fun v h'=> ∃rv',v= .tup [.agg rv',.int .i64 (((D.prog i (data++extra)).2:Nat):Int)]∧RDev (ext κ h.n) h' (D.prog i (data++extra)).1 rv'∧K0 h h':=by
 obtain⟨ok,fb,pb,eb,ecap,cp,ce,rfl,hecap,q⟩:=r
 have hgP:=ok.g.P
 have hnb:=ok.g.nb
 have hsz:=ok.g.sz
 have hby:=ok.byt
 have l1:=q.pk.lt
 have l2:=q.ek.lt
 have hpk:=q.pk
 have hek:=q.ek
 have l3:=k1.lt_n
 have l4:=k2.lt_n
 have eo: ∀o,D.off=o→rvC D fb pb eb ecap=rvL D.nb D.P D.sz D.en fb pb eb ecap D.n D.cut D.byt o:=fun o ho=>by unfold rvC;rw [ho]
 by_cases hi:(0≤i∧i<D.nb)∧p<D.P
 ·obtain⟨hi1,hi3⟩:=hi
  have hpe:=hp1 hi1
  have hcond:0≤i∧i<D.nb∧(D.bl i.toNat).nx<D.P:=⟨hi1.1,hi1.2,by omega⟩
  obtain⟨j,rfl⟩: ∃j:Nat,i=j:=⟨i.toNat,by omega⟩
  have hj:j<D.nb:=by omega
  cases hoff:D.off with
  |true=>
   have e0:D.prog j (data++extra)=(D,50):=by unfold Dv.prog;rw [if_pos hcond,if_pos hoff]
   rw [e0,eo _ hoff]
   refine Mz L X.f40 X.k40 rfl rfl fun Q x cs G=>?_
   refine wk ?_
   refine cal (c:=D0 L X) (g:=?_)
   rintro _ h1 ⟨rfl,hk⟩
   have n1:=hk.n
   simp only [Ah]at n1
   rw [decide_eq_true hi1]
   refine wk ?_
   refine ret X.f40 ?_
   exact⟨_,rfl,⟨ok,fb,pb,eb,ecap,cp,ce,(eo _ hoff).symm,hecap,q.fw (K0.fwe kps)⟩,kps⟩
  |false=>
   rw [Int.toNat_natCast]at hpe hcond
   subst hpe
   have e0:D.prog j (data++extra)=(D.wr j (data++extra),if(D.n:Int)=D.cut then 50 else 0):=by unfold Dv.prog;rw [Int.toNat_natCast,if_pos hcond,if_neg (by rw [hoff];simp)]
   rw [e0,eo _ hoff]
   exact bw L X ok hecap q hn hj hcond.2.2 hoff k1 k2 e1 e2
 ·have e0:D.prog i (data++extra)=(D,2):=by
   unfold Dv.prog
   rw [if_neg]
   rintro⟨a1,a2,a3⟩
   have:=hp1 ⟨a1,a2⟩
   exact hi ⟨⟨a1,a2⟩,by omega⟩
  rw [e0]
  refine Mz L X.f40 X.k40 rfl rfl fun Q x cs G=>?_
  refine wk ?_
  refine cal (c:=D0 L X) (g:=?_)
  rintro _ h1 ⟨rfl,hk⟩
  have n1:=hk.n
  simp only [Ah]at n1
  by_cases hi2:0≤i∧i<D.nb
  ·rw [decide_eq_true hi2]
   refine wk ?_
   refine ret X.f40 ?_
   exact⟨_,rfl,⟨ok,fb,pb,eb,ecap,cp,ce,rfl,hecap,q.fw (K0.fwe kps)⟩,kps⟩
  ·rw [decide_eq_false hi2]
   refine wk ?_
   refine ret X.f40 ?_
   exact⟨_,rfl,⟨ok,fb,pb,eb,ecap,cp,ce,rfl,hecap,q.fw (K0.fwe kps)⟩,kps⟩
end
end
section
variable {l:List (Nat×Option AV)}{lh:List (Nat×Option Blk)}{n:Nat}{t:T Blk}{h:H}{x y z:O}{v u:AV}{b o:Nat}{c lv:List AV}{k j:IntKind}{sh:Sh}{q:Bool}
theorem Aaz (hs:k.signed=false){a d:Nat}(e:evO l x=some (.int k ((a:Nat):Int)))(e1:evO l y=some (.int k ((d:Nat):Int)))(ha:a<pw k)(hc:d<pw k)(hx:(a ||| d)<pw k):XV (.bin .or x y q sh) h l (.int k ((a ||| d:Nat):Int)) h:=by
 refine⟨?_⟩
 simp only [exec,Ag,Ad e,Ad e1,F0,En,A7,vo,Lm ha,Lm hc]
 have:wr k (Int.ofNat (Nat.lor a d))=((a ||| d:Nat):Int):=by
  show wr k ((a ||| d:Nat):Int)=_
  rw [P8 hs hx]
 rw [this]
theorem up (hs:k.signed=false){a s:Nat}(e:evO l x=some (.int k ((a:Nat):Int)))(e1:evO l y=some (.int j ((s:Nat):Int)))(hb:s≤bits k):XV (.bin .shl x y q sh) h l (.int k (((a*2 ^ s) % pw k:Nat):Int)) h:=by
 refine⟨?_⟩
 have e1':evL l y= .int j (Int.ofNat s):=Ad e1
 simp only [exec,Ag,Ad e,e1',F0,En,vo]
 have h1:Kk s (bits k)=s:=by rw [La];exact Nat.min_eq_left hb
 have h2:Int.mul ((a:Nat):Int) (Int.ofNat (Nat.pow 2 s))=((a*2 ^ s:Nat):Int):=by
  show((a:Nat):Int)*((2 ^ s:Nat):Int)=_
  rw [←Int.natCast_mul]
 rw [h1,h2,Tp hs]
def u64 (p:Int):Nat:=(p % 18446744073709551616).toNat
theorem Tw {a:Nat}(h:a<18446744073709551616):u64 ((a:Nat):Int)=a:=by unfold u64;omega
theorem Xi (p:Int):u64 p<18446744073709551616:=by unfold u64;omega
theorem Jj {p:Int}(e:evO l x=some (.int j p)):XV (.conv .u64 x) h l (.int .u64 ((u64 p:Nat):Int)) h:=by
 refine⟨ig (Ad e) ?_⟩
 rw [Gh]
 show IntKind.wrap .u64 p=_
 unfold IntKind.wrap u64
 simp only [IntKind.signed,Bool.false_and,Bool.false_eq_true,if_false,false_and,IntKind.bits]
 omega
theorem xk {size sn so scap dn dcap:Nat}(e:evO l x=some (.slc b o dn dcap)){bs:Nat}(e1:evO l y=some (.slc bs so sn scap)){cs:List AV}(k1:SlR size (hp n t lh) (.slc bs so sn scap) sn lv)(hb:Bk (hp n t lh) b c)(hle:sn≤dn)(hp1:As lv=true)(hk:o+lv.length≤c.length)(hpos:0<lv.length)(hs:Gx lv c o=cs):
  ∃h',exec (.copy size x y) (hp n t lh) (tms l)= .val (.int .i64 ((sn:Nat):Int)) h'∧HSub (hp n t ((b,some (cl cs))::lh)) h':=by
 obtain⟨h',q1,q2⟩:=Ot (n:=n) (t:=t) (lh:=lh) hp1 hb.e hk hs
 refine⟨h',?_,q2⟩
 have hm:Kk sn dn=sn:=by rw [La];exact Nat.min_eq_left hle
 simp only [exec,Ag,Ad e,Ad e1,k1.lenV,hm,k1.cells,q1]
 rfl
theorem Si {bs:List Nat}{cap m:Nat}(e:evO l x=some (.slc b o m cap))(k:BS h b o bs)(hm:bs.length=m):XV (.b2s x) h l (.str bs) h:=
 ⟨zw e (k.slr hm) fun v hv=>by
  obtain⟨i,hi,e⟩:=List.getElem_of_mem hv
  have:=k.all i hi
  rw [List.getD_eq_getElem?_getD,List.getElem?_eq_getElem hi]at this
  rw [←e];exact this⟩
theorem uq {a d:List Nat}(e:evO l x=some (.str a))(e1:evO l y=some (.str d)):XV (.bin .neq x y q .pstr) h l (.bool (decide (a≠d))) h:=⟨zx e e1 rfl⟩
structure Rk (h:H)(b:Nat)(c:List AV):Prop where
 e: ∃r,H.get h b=some (.cells r c.length (ofL 0 .leaf c))
 lt:b<h.n
theorem Bk.rk {h:H}{b:Nat}{c:List AV}(k:Bk h b c):Rk h b c:=⟨⟨_,k.e⟩,k.lt⟩
theorem Rk.keep {h h':H}{b:Nat}{c:List AV}(k:Rk h b c)(hn:h.n≤h'.n)(e:H.get h' b=H.get h b):Rk h' b c:=⟨let⟨r,q⟩:=k.e;⟨r,e.trans q⟩,Nat.lt_of_lt_of_le k.lt hn⟩
theorem Rk.kp {h h':H}{b:Nat}{c:List AV}{S:Nat→Prop}(k:Rk h b c)(q:Kp S h h')(hs: ¬S b):Rk h' b c:=k.keep q.n (q.old b k.lt hs)
theorem Rk.k0 {h h':H}{b:Nat}{c:List AV}(k:Rk h b c)(q:K0 h h'):Rk h' b c:=k.kp q fun f=>f
section
variable {i:Nat}{x:Option Blk}{h':H}{S:Nat→Prop}
theorem Abn (k:Rk h b c):Rk (hp h.n h.t []) b c:=k
theorem Abo (k:Rk (hp n t lh) i c):Rk (hp (n+1) t ((n,x)::lh)) i c:=⟨let⟨r,q⟩:=k.e;⟨r,(D6 _ _ _ _ (Nat.ne_of_lt k.lt)).trans q⟩,Nat.lt_succ_of_lt k.lt⟩
theorem Abp (hne:i≠b)(k:Rk (hp n t lh) i c):Rk (hp n t ((b,x)::lh)) i c:=⟨let⟨r,q⟩:=k.e;⟨r,(D6 _ _ _ _ hne).trans q⟩,k.lt⟩
theorem Aa0 (q:Kp S h h')(hs: ¬S i)(k:Rk h i c):Rk h' i c:=k.kp q hs
theorem jx (q:K0 h h')(k:Rk h i c):Rk h' i c:=k.k0 q
end
theorem F4 (e:evO l x=some (.ptr b o))(hb:Rk h b c)(hv:c[o]?=some v):XV (.load1 x) h l v h:=by
 refine⟨?_⟩
 have:Nat.ble (Nat.succ o) c.length=true:=by rw [Nat.ble_eq];exact(List.getElem?_eq_some_iff.1 hv).1
 obtain⟨r,q⟩:=hb.e
 simp only [exec,Ag,Ad e,q,G9,hv,this]
 rfl
theorem Xj {m:Nat}(hb:Rk h b c)(hk:o+m≤c.length):cellsAt h b o m=some ((c.drop o).take m):=by
 have h1:=Id (h:=hp (b+1) .leaf [(b,some (cl c))]) (b:=b) (c:=c) (Ha _ _ _ _ _) hk
 rw [←h1]
 cases m with
 |zero=>rfl
 |succ m=>
  obtain⟨r,q⟩:=hb.e
  simp only [cellsAt,q]
  rw [Ha]
  rfl
end
theorem lkr {p:Prop}(h:p:=by
 (repeat(first|assumption|(apply Abn;first|assumption|(apply jx;assumption)|(apply Aa0;assumption;(first|omega|(dsimp only;omega))))|apply Abo|(apply Abp;first|omega|assumption)))):p:=h
noncomputable def Xk (x:AFr)(c:List (AV×Bool)):AFr:=match x with
 |⟨fn,nt,tm,todo,ds,mode,dfd,ro⟩=>match todo with
  | .drawn p _::_=>⟨fn,nt,O4 p.chk tm,[.gone],ds,raise mode c,dfd,ro⟩
  |_=>⟨fn,nt,tm,todo,ds,raise mode c,dfd,ro⟩
def CtP (P:Program)(E:Env)(F:T CFn)(K:T (List AV×AV))(f:Nat)(args:List AV)(h:H)(post:AV→H→Prop):Prop:=
 ∀(Q:Nat→AV→Prop) (x:AFr) (cs:List AFr),(∀v h',post v h'→Good P E Q ⟨Xk x [(v,false)],cs,h'⟩)→GO P E Q (C1 F K (.func f) args false x cs h)
def CtA (P:Program)(E:Env)(F:T CFn)(K:T (List AV×AV))(f:AFn)(args:List AV)(h:H)(post:AV→H→Prop):Prop:=
 ∀(Q:Nat→AV→Prop) (x:AFr) (cs:List AFr),(∀v h',post v h'→GO P E Q (finish v cs h' x))→GO P E Q (C1 F K f args false x cs h)
section
variable {P:Program}{E:Env}{F:T CFn}{K:T (List AV×AV)}{Q:Nat→AV→Prop}
variable {fn nt:Nat}{l l':List (Nat×Option AV)}{k td':List AItem}{ds:List ADef}{dfd:Bool}{ro:Option Nat}{cs:List AFr}{h h':H}{gd:Option (Nat×Bool)}{op:COp}{v:AV}{d:Option Nat}{r:List CI}
variable {n b o:Nat}{t:T Blk}{lh:List (Nat×Option Blk)}{x y:O}{c c' lv:List AV}{post:AV→H→Prop}
variable (L:Lg P E F K)
theorem Ct.A {f:Nat}{args:List AV}(c:Ct P E F K f args h post):CtA P E F K (.func f) args h post:=c
theorem CtA.mono {post':AV→H→Prop}{f:AFn}{args:List AV}(c:CtA P E F K f args h post')(m: ∀v h',post' v h'→post v h'):CtA P E F K f args h post:=fun Q x cs g=>c Q x cs fun v h' p=>g v h' (m v h' p)
theorem CtP.mono {post':AV→H→Prop}{f:Nat}{args:List AV}(c:CtP P E F K f args h post')(m: ∀v h',post' v h'→post v h'):CtP P E F K f args h post:=fun Q x cs g=>c Q x cs fun v h' p=>g v h' (m v h' p)
theorem Yv {f:AFn}{a:List O}{fst va cp r0 r:List AV}(e:evO l x=some (.fn f fst cp))(ha:Fj l a=some va)(h0:Fq va cp=some r0)(hr:Fq fst r0=some r):exec (.callv x a) h (tms l)= .call f r:=by
 simp only [exec,Ag,Ll,Ad e,Mt ha]
 have h1:=Ie h0
 have h2:=Ie hr
 simp only [h1,h2]
include L
theorem Qg {d:Nat}{f:AFn}{a:List O}{fst va cp r0 args:List AV}(hg:gdO gd l=some true)(e:evO l x=some (.fn f fst cp))(ha:Fj l a=some va)(h0:Fq va cp=some r0)(hr:Fq fst r0=some args)(hc:CtA P E F K f args h post)
  (g: ∀v h',post v h'→Good P E Q ⟨⟨fn,nt,tms ((d,some v)::l),.ops r::k,ds,.run,dfd,ro⟩,cs,hp h'.n h'.t []⟩):
  Good P E Q ⟨⟨fn,nt,tms l,.ops (⟨some d,gd,.callv x a⟩::r)::k,ds,.run,dfd,ro⟩,cs,h⟩:=
 Sb L (A1 hg) (Yv e ha h0 hr) (hc Q _ cs fun v h' p=>Ku L cvb (g v h' p))
theorem Ex {f:Nat}{a:List O}{fst va cp r0 args:List AV}(hg:gdO gd l=some true)(e:evO l x=some (.fn (.func f) fst cp))(ha:Fj l a=some va)(h0:Fq va cp=some r0)(hr:Fq fst r0=some args)(hc:CtP P E F K f args h post)
  (g: ∀v h',post v h'→Good P E Q ⟨⟨fn,nt,tms l,.ops (⟨d,gd,.callv x a⟩::r)::k,ds,.panicking [(v,false)],dfd,ro⟩,cs,h'⟩):
  Good P E Q ⟨⟨fn,nt,tms l,.ops (⟨d,gd,.callv x a⟩::r)::k,ds,.run,dfd,ro⟩,cs,h⟩:=
 Sb L (A1 hg) (Yv e ha h0 hr) (hc Q _ cs fun v h' p=>g v h' p)
theorem Ls {q:Nat}(hg:gdO gd l=some true)(e:evO l x=some (.ifc q v))(g:Good P E Q ⟨⟨fn,nt,tms l,.ops (⟨d,gd,.panic x⟩::r)::k,ds,.panicking [(.ifc q v,false)],dfd,ro⟩,cs,h⟩):
  Good P E Q ⟨⟨fn,nt,tms l,.ops (⟨d,gd,.panic x⟩::r)::k,ds,.run,dfd,ro⟩,cs,h⟩:=
 Ms L (zd (A1 hg) (by simp only [exec,Ag,Ad e]) g)
theorem F5 {g:CFn}{z:AFr}{tm:T AV}{todo:List AItem}{ch:List (AV×Bool)}(hf:T.get F fn=some g)(h1:Good P E Q ⟨Xk z ch,cs,h⟩):Good P E Q ⟨⟨fn,nt,tm,todo,[],.panicking ch,dfd,ro⟩,z::cs,h⟩:=by
 obtain⟨yfn,ynt,ytm,ytodo,yds,ym,ydfd,yro⟩:=z
 refine A9 L ?_
 simp only [Ev.step,Ev.unwind,hf]
 cases ytodo with
 |nil=>exact h1
 |cons i r=>cases i <;> exact h1
theorem Jk {f:Nat}{a:List O}{va cp args:List AV}(hg:gdO gd l=some true)(e:evO l x=some (.fn (.func f) [] cp))(ha:Fj l a=some va)(hr:Fq va cp=some args)
  (g:Good P E Q ⟨⟨fn,nt,tms (ins d (.tup []) l),.ops r::k,.call f args::ds,.run,dfd,none⟩,cs,h⟩):
  Good P E Q ⟨⟨fn,nt,tms l,.ops (⟨d,gd,.defer x a⟩::r)::k,ds,.run,dfd,none⟩,cs,h⟩:=by
 refine Ms L (zc (f:=f) (args:=args) (A1 hg) ?_ ?_)
 ·simp only [exec,Ag,Ll,Ad e,Mt ha]
  show R.dfr f (List.append va cp)=_
  rw [Ie hr]
 ·rw [qr];exact g
theorem Gq {todo:List AItem}(g:Good P E Q ⟨⟨fn,nt,tms l,.code .ret::k,ds,.returning,dfd,none⟩,cs,h⟩):Good P E Q ⟨⟨fn,nt,tms l,.code .ret::k,ds,.run,dfd,none⟩,cs,h⟩:=A9 L g
theorem Db {f:Nat}{g:CFn}{args:List AV}{mode:AMode}{tm:T AV}{todo:List AItem}{l0 l1:List (Nat×Option AV)}{td:List AItem}(hm:mode≠ .run)(hf:T.get F f=some g)(hn:Nat.ble args.length g.ntmps=true)(hl:jl 0 args []=l0)(ha:adv 1000 [.code g.body] l0=(td,l1))
  (h1:Good P E Q ⟨⟨f,g.ntmps,tms l1,td,[],.run,true,none⟩,⟨fn,nt,tm,todo,ds,mode,dfd,ro⟩::cs,hp h.n h.t []⟩):
  Good P E Q ⟨⟨fn,nt,tm,todo,.call f args::ds,mode,dfd,ro⟩,cs,h⟩:=by
 have e1:ofL 0 .leaf args=tms l0:=by rw [←hl];exact Ou args 0 []
 have h2:=Br L 1000 ha h1
 refine A9 L ?_
 have:GO P E Q (C1 F K (.func f) args true ⟨fn,nt,tm,todo,ds,mode,dfd,ro⟩ cs h):=by
  simp only [C1,hf,Um,hn,e1]
  exact h2
 cases mode with
 |run=>exact absurd rfl hm
 |returning=>exact this
 |panicking c=>exact this
theorem Ii {yfn ynt:Nat}{ytm:T AV}{ytodo:List AItem}{yds:List ADef}{ydfd:Bool}{yro:Option Nat}{ch:List (AV×Bool)}{d:Nat}(hg:gdO gd l=some true)
  (g:Good P E Q ⟨⟨fn,nt,tms ((d,some v)::l),.ops r::k,ds,.run,true,none⟩,⟨yfn,ynt,ytm,ytodo,yds,.panicking ((v,true)::ch),ydfd,yro⟩::cs,h⟩):
  Good P E Q ⟨⟨fn,nt,tms l,.ops (⟨some d,gd,.recover⟩::r)::k,ds,.run,true,none⟩,⟨yfn,ynt,ytm,ytodo,yds,.panicking ((v,false)::ch),ydfd,yro⟩::cs,h⟩:=by
 refine Ms L ?_
 have hx:exec .recover h (tms l)= .recover:=rfl
 unfold P5
 simp only [Dq,A1 hg,hx]
 exact g
theorem Fm {yfn ynt:Nat}{ytm:T AV}{ytodo:List AItem}{yds:List ADef}{ydfd:Bool}{yro:Option Nat}{d:Nat}(hg:gdO gd l=some true)
  (g:Good P E Q ⟨⟨fn,nt,tms ((d,some .nili)::l),.ops r::k,ds,.run,true,none⟩,⟨yfn,ynt,ytm,ytodo,yds,.returning,ydfd,yro⟩::cs,h⟩):
  Good P E Q ⟨⟨fn,nt,tms l,.ops (⟨some d,gd,.recover⟩::r)::k,ds,.run,true,none⟩,⟨yfn,ynt,ytm,ytodo,yds,.returning,ydfd,yro⟩::cs,h⟩:=by
 refine Ms L ?_
 have hx:exec .recover h (tms l)= .recover:=rfl
 unfold P5
 simp only [Dq,A1 hg,hx]
 exact g
theorem Ij {g:CFn}{vs:List AV}{yfn ynt:Nat}{ytm:T AV}{ytodo:List AItem}{yds:List ADef}{ym:AMode}{ydfd:Bool}{yro:Option Nat}(hf:T.get F fn=some g)(hr:results (tms l) h g.results=some vs)
  (h1:Good P E Q ⟨⟨yfn,ynt,ytm,ytodo,yds,settle ym,ydfd,yro⟩,cs,h⟩):
  Good P E Q ⟨⟨fn,nt,tms l,[],[],.run,true,none⟩,⟨yfn,ynt,ytm,ytodo,yds,ym,ydfd,yro⟩::cs,h⟩:=by
 refine A9 L (show Good P E Q ⟨⟨fn,nt,tms l,[],[],.returning,true,none⟩,_::cs,h⟩ from ?_)
 refine A9 L ?_
 show GO P E Q (match T.get F fn with|none=> .fail|some g=>match results (tms l) h g.results with|some l=>Ev.doReturn fn true (single l) (_::cs) h|none=> .fail)
 rw [hf];simp only [hr]
 exact h1
theorem Gr {g:CFn}{z:AFr}{vs:List AV}{todo:List AItem}(hf:T.get F fn=some g)(hr:results (tms l) h g.results=some vs)(hG: ∀v h',post v h'→GO P E Q (finish v cs h' z))(p:post (single vs) h):
  Good P E Q ⟨⟨fn,nt,tms l,todo,[],.returning,false,none⟩,z::cs,h⟩:=P6 L hf hr (hG _ _ p)
theorem Yw {f:AFn}{fst cp r0 args:List AV}{ps:List Nat}{a bd:CC}(e:evO l x=some (.fn f fst cp))(h0:Fq [.fn (.yield (n+1)) [] []] cp=some r0)(hr:Fq fst r0=some args)
  (hc:CtA P E F K f args (hp (n+2) t ((n+1,some (.loop ⟨.ready,none,fn,nt,tms l,ps,a,bd,n⟩))::(n,some (.dfr (some [])))::lh)) post)
  (g: ∀v h',post v h'→Good P E Q ⟨⟨fn,nt,tms l,.endRF (n+1)::k,.mark n::ds,.run,dfd,none⟩,cs,h'⟩):
  Good P E Q ⟨⟨fn,nt,tms l,.code (.rangeFunc x ps a bd)::k,ds,.run,dfd,none⟩,cs,hp n t lh⟩:=by
 refine A9 L ?_
 have e1:evL l x= .fn f fst cp:=Ad e
 have e2:List.append fst (.fn (.yield (Nat.succ n)) [] []::cp)=args:=by
  have q0:=Ie h0
  have q1:=Ie hr
  rw [←q0]at q1;exact q1
 simp only [Ev.step,B3,Cw,enterLoop,Ag,e1,e2]
 exact hc Q _ cs fun v h' p=>g v h' p
theorem Vm {lp:Nat}{ps:List Nat}{args:List AV}{a bd:CC}{l0 l1:List (Nat×Option AV)}{d:Nat}{st:LS}{pd:Option CC}(hl:H.get h lp=some (.loop ⟨st,pd,fn,nt,tms l0,ps,a,bd,d⟩))(hs:Dg ps args (tms l0)=some (tms l1))
  (body: ∀(Q:Nat→AV→Prop) (z:AFr) (cs:List AFr),(∀v h',post v h'→GO P E Q (finish v cs h' z))→Good P E Q ⟨⟨fn,nt,tms l1,[.code a,.beginRound,.code bd],[],.run,false,some lp⟩,z::cs,hp h.n h.t []⟩):CtA P E F K (.yield lp) args h post:=by
 intro Q z cs hG
 simp only [C1,hl,hs]
 exact body Q z cs hG
theorem Vn {lp:Nat}{f m:Nat}{tm tm0:T AV}{ps:List Nat}{a bd:CC}{d:Nat}{pd:Option CC}(hl:H.get (hp n t lh) lp=some (.loop ⟨.ready,pd,f,m,tm0,ps,a,bd,d⟩))
  (g:Good P E Q ⟨⟨fn,nt,tm,k,ds,.run,dfd,some lp⟩,cs,hp n t ((lp,some (.loop ⟨.busy,pd,f,m,tm0,ps,a,bd,d⟩))::lh)⟩):Good P E Q ⟨⟨fn,nt,tm,.beginRound::k,ds,.run,dfd,some lp⟩,cs,hp n t lh⟩:=by
 refine A9 L ?_
 simp only [Ev.step,B3,hl]
 exact g
theorem Tx {lp:Nat}{f m:Nat}{tm tm0:T AV}{ps:List Nat}{a bd:CC}{d:Nat}{st:LS}{pd:Option CC}{z:AFr}(hl:H.get (hp n t lh) lp=some (.loop ⟨st,pd,f,m,tm0,ps,a,bd,d⟩))
  (hG: ∀v h',post v h'→GO P E Q (finish v cs h' z)) (p:post (.bool true) (hp n t ((lp,some (.loop ⟨.ready,none,f,m,tm0,ps,a,bd,d⟩))::lh))):Good P E Q ⟨⟨fn,nt,tm,[],ds,.run,false,some lp⟩,z::cs,hp n t lh⟩:=by
 refine A9 L ?_
 simp only [Ev.step,leave,hl,O5]
 exact hG _ _ p
theorem Yx {lp:Nat}{f m:Nat}{tm tm0:T AV}{ps:List Nat}{a bd:CC}{d:Nat}{st:LS}(hl:H.get (hp n t lh) lp=some (.loop ⟨st,none,f,m,tm0,ps,a,bd,d⟩))(hst:st≠ .busy)
  (g:Good P E Q ⟨⟨fn,nt,tm,k,ds,.run,dfd,ro⟩,cs,hp n t ((lp,some (.loop ⟨.exhausted,none,f,m,tm0,ps,a,bd,d⟩))::lh)⟩):Good P E Q ⟨⟨fn,nt,tm,.endRF lp::k,ds,.run,dfd,ro⟩,cs,hp n t lh⟩:=by
 refine A9 L ?_
 simp only [Ev.step,B3,hl]
 cases st with
 |busy=>exact absurd rfl hst
 |_=>exact g
theorem jy {b:Nat}{tm:T AV}{todo:List AItem}{mode:AMode}(hm:mode≠ .run)(hb:H.get (hp n t lh) b=some (.dfr (some [])))(g:Good P E Q ⟨⟨fn,nt,tm,todo,ds,mode,dfd,ro⟩,cs,hp n t ((b,some (.dfr none))::lh)⟩):
  Good P E Q ⟨⟨fn,nt,tm,todo,.mark b::ds,mode,dfd,ro⟩,cs,hp n t lh⟩:=by
 refine A9 L ?_
 cases mode with
 |run=>exact absurd rfl hm
 |returning=>simp only [Ev.step,Ev.unwind,hb];exact g
 |panicking c=>simp only [Ev.step,Ev.unwind,hb];exact g
theorem Yy {g:CFn}{vs:List AV}{todo:List AItem}(hf:T.get F fn=some g)(hr:results (tms l) h g.results=some vs)(q:Q fn (single vs)):Good P E Q ⟨⟨fn,nt,tms l,todo,[],.returning,false,none⟩,[],h⟩:=by
 refine A9 L ?_
 show GO P E Q (match T.get F fn with|none=> .fail|some g=>match results (tms l) h g.results with|some l=>Ev.doReturn fn false (single l) [] h|none=> .fail)
 rw [hf];simp only [hr]
 exact q
end
section
variable {P:Program}{E:Env}{F:T CFn}{K:T (List AV×AV)}{Q:Nat→AV→Prop}
variable {fn nt:Nat}{l q:List (Nat×Option AV)}{k:List AItem}{ds:List ADef}{dfd:Bool}{ro:Option Nat}{cs:List AFr}{gd:Option (Nat×Bool)}{v:AV}
variable {n b o m:Nat}{t:T Blk}{lh:List (Nat×Option Blk)}{x y:O}{c c' lv:List AV}{nm:List Nat}{pre chk:List DI}{ps:List Ph}
variable (L:Lg P E F K)
include L
theorem Qh (ho:Cq l nm=some q)(hg:gdO gd q=some true)(e:evO q x=some (.ptr b o))(e1:evO q y=some v)(hc:Bi v=some lv)(hm:Nat.beq lv.length m=true)(hp1:As lv=true)
  (hb:Bk (hp n t lh) b c) (hs:P9 lv c o=some c') (g: ∀h',HSub (hp n t ((b,some (cl c'))::lh)) h'→A8 P E Q pre chk ps k fn nt (tms l) ds dfd ro cs h'):
  Good P E Q ⟨⟨fn,nt,tms l,.drawn ⟨⟨⟨none,gd,.store m x y⟩,nm⟩,pre,chk⟩ ps::k,ds,.run,dfd,ro⟩,cs,hp n t lh⟩:=
 zt L ho (A1 hg) e e1 hc hm hp1 hb.e hs g
variable {h:H}{post:AV→H→Prop}
theorem Il {f:Nat}{g:CFn}{args:List AV}{l0 l1:List (Nat×Option AV)}{td:List AItem}(hf:T.get F f=some g)(hm:T.get K f=none)(hn:Nat.ble args.length g.ntmps=true)(hl:jl 0 args []=l0)(ha:adv 1000 [.code g.body] l0=(td,l1))
  (body: ∀(Q:Nat→AV→Prop) (x:AFr) (cs:List AFr),(∀v h',post v h'→Good P E Q ⟨Xk x [(v,false)],cs,h'⟩)→Good P E Q ⟨⟨f,g.ntmps,tms l1,td,[],.run,false,none⟩,x::cs,hp h.n h.t []⟩):CtP P E F K f args h post:=by
 intro Q x cs hG
 have h1:ofL 0 .leaf args=tms l0:=by rw [←hl];exact Ou args 0 []
 exact zj L hf hm hn h1 (Br L 1000 ha (body Q x cs hG))
end
def leb:Nat→Nat→List Nat
 |0,_=> []
 |n+1,v=>v % 256::leb n (v / 256)
theorem Do: ∀(n v:Nat),(leb n v).length=n
 |0,_=>rfl
 |n+1,v=>by rw [leb,List.length_cons,Do n]
theorem Qi (n:Nat):256 ^ n=2 ^ (8*n):=by rw [Nat.pow_mul]
theorem Qj: ∀(n v:Nat),leb (n+1) v=leb n v++ [(v >>> (8*n)) % 256]
 |0,v=>by simp [leb]
 |n+1,v=>by
  rw [leb,Qj n (v / 256),leb,List.cons_append]
  have:(v / 256) >>> (8*n)=v >>> (8*(n+1)):=by
   rw [Nat.shiftRight_eq_div_pow,Nat.shiftRight_eq_div_pow,←Qi,←Qi,Nat.div_div_eq_div_mul,Nat.pow_succ,Nat.mul_comm 256]
  rw [this]
theorem Fb (n v:Nat):AllB (leb n v):=by
 induction n generalizing v with
 |zero=>intro i hi;exact absurd hi (Nat.not_lt_zero i)
 |succ n ih=>
  intro i hi
  cases i with
  |zero=>show v % 256<256;omega
  |succ i=>show(leb n (v / 256)).getD i 0<256;exact ih _ i (by rw [Do]at hi ⊢;omega)
def leF (f:List Nat):Nat→Nat→Nat
 |_,0=>0
 |a,n+1=>f.getD a 0+256*leF f (a+1) n
theorem Lu (f:List Nat): ∀(n a:Nat),leF f a (n+1)=leF f a n+f.getD (a+n) 0*256 ^ n
 |0,a=>by simp [leF]
 |n+1,a=>by
  rw [leF,Lu f n (a+1),leF,show a+1+n=a+(n+1) by omega,Nat.pow_succ,Nat.mul_add]
  have:256*(f.getD (a+(n+1)) 0*256 ^ n)=f.getD (a+(n+1)) 0*(256 ^ n*256):=by
   rw [Nat.mul_comm 256,Nat.mul_assoc]
  omega
theorem C0 {f:List Nat}(h:AllB f)(i:Nat):f.getD i 0<256:=by
 by_cases hi:i<f.length
 ·exact h i hi
 ·rw [List.getD_eq_getElem?_getD,List.getElem?_eq_none (by omega)];show 0<256;omega
theorem Dc {f:List Nat}(h:AllB f): ∀(n a:Nat),leF f a n<256 ^ n
 |0,a=>by simp [leF]
 |n+1,a=>by
  have h1:=Dc h n (a+1)
  have h2:=C0 h a
  rw [leF,Nat.pow_succ];omega
theorem Fc {f:List Nat}(h:AllB f): ∀(n a:Nat),a+n≤f.length→leb n (leF f a n)=(f.drop a).take n
 |0,a,_=>by simp [leb]
 |n+1,a,hn=>by
  have h2:=C0 h a
  rw [leF,leb,show(f.getD a 0+256*leF f (a+1) n) % 256=f.getD a 0 by omega,show(f.getD a 0+256*leF f (a+1) n) / 256=leF f (a+1) n by omega,Fc h n (a+1) (by omega)]
  rw [List.drop_eq_getElem_cons (show a<f.length by omega),List.take_succ_cons]
  congr 1
  rw [List.getD_eq_getElem?_getD,List.getElem?_eq_getElem (by omega)];rfl
theorem Qk (p s:List Nat)(x y m:Nat)(hm:m=p.length):(Ax (p++x::s)).set m (.int .u8 ((y:Nat):Int))=Ax (p++y::s):=by
 subst hm
 simp [Ax,List.set_append]
theorem Jl (l:List Nat):(Ax l).length=l.length:=by simp [Ax]
structure Sp where
 kind:Nat
 sec:Int
 seq:Nat
 prev:Nat
 idx:Int
 len:Int
def spC (s:Sp):List AV:= [.int .u8 ((s.kind:Nat):Int),.int .i64 s.sec,.int .u64 ((s.seq:Nat):Int),.int .u64 ((s.prev:Nat):Int),.int .i64 s.idx,.int .i64 s.len]
structure Sp.Ok (s:Sp):Prop where
 kind:s.kind<256
 seq:s.seq<18446744073709551616
 prev:s.prev<18446744073709551616
def sp0:Sp:=⟨0,0,0,0,0,0⟩
def mag (k:Nat):List Nat:= [67,70,84,76,k,0,0,0]
def Ft (s:Sp):List Nat:=mag s.kind++leb 8 s.seq++leb 8 s.prev++leb 4 (u64 s.sec)++leb 4 (u64 s.idx)++leb 4 (u64 s.len)++List.replicate 24 0
theorem Im (s:Sp):(Ft s).length=60:=by
 simp only [Ft,mag,List.length_append,Do,List.length_replicate,List.length_cons,List.length_nil]
theorem rn {k:Nat}(h:k<256):AllB (mag k):=by
 intro i hi
 have hi':i<8:=hi
 rcases i with _|_|_|_|_|_|_|_|i
 all_goals first|(show _<256;simp [mag];done)|(simp [mag];exact h)|omega
theorem Kx {s:Sp}(h:s.kind<256):AllB (Ft s):=
 ((((((rn h).app (Fb _ _)).app (Fb _ _)).app (Fb _ _)).app (Fb _ _)).app (Fb _ _)).app (AllB.rep (by omega))
def Sp.Valid (s:Sp):Prop:=1≤s.seq∧1≤s.len∧s.len≤65535∧0≤s.idx∧s.idx<s.len∧((s.kind=1∧0≤s.sec∧s.sec≤4294967294∧s.prev=0∧s.len=1)∨((s.kind=2∨s.kind=3)∧s.sec=0∧s.prev<s.seq∧s.idx.toNat<s.seq - s.prev))
instance (s:Sp):Decidable s.Valid:=by unfold Sp.Valid;infer_instance
section
variable {P:Program}{E:Env}{F:T CFn}{K:T (List AV×AV)}{Q:Nat→AV→Prop}
variable {fn nt:Nat}{l l':List (Nat×Option AV)}{k td':List AItem}{ds:List ADef}{dfd:Bool}{ro:Option Nat}{cs:List AFr}{h:H}{gd:Option (Nat×Bool)}{r:List CI}
variable {n b o:Nat}{t:T Blk}{lh:List (Nat×Option Blk)}{x y:O}{c lv:List AV}
variable (L:Lg P E F K)
include L
theorem rp {d size sn so scap dn dcap bs:Nat}{cs1:List AV}(hg:gdO gd l=some true)(e:evO l x=some (.slc b o dn dcap))(e1:evO l y=some (.slc bs so sn scap))(k1:SlR size (hp n t lh) (.slc bs so sn scap) sn lv)(hb:Bk (hp n t lh) b c)(hle:sn≤dn)(hp1:As lv=true)(hk:o+lv.length≤c.length)(hpos:0<lv.length)(hs:Gx lv c o=cs1)
  (ha:adv 1000 (.ops r::k) ((d,some (.int .i64 ((sn:Nat):Int)))::l)=(td',l')) (g:Good P E Q ⟨⟨fn,nt,tms l',td',ds,.run,dfd,ro⟩,cs,hp n t ((b,some (cl cs1))::lh)⟩):
  Good P E Q ⟨⟨fn,nt,tms l,.ops (⟨some d,gd,.copy size x y⟩::r)::k,ds,.run,dfd,ro⟩,cs,hp n t lh⟩:=by
 obtain⟨h',q1,q2⟩:=xk e e1 k1 hb hle hp1 hk hpos hs
 exact N1 L (A1 hg) q1 (Od L q2 (Br L 1000 ha g))
end
section
variable {P0:Program}{E:Env}{F:T CFn}{K:T (List AV×AV)}(L:Lg P0 E F K)(X:Fx F K)
include L X
section
variable {h:H}
theorem Lv {b o n c:Nat}{bs:List Nat}(k:BS h b o bs)(e:bs.length=n)(h1:0<n∧n<1000):
  Ct P0 E F K 152 [.slc b o n c] h fun v h'=> ∃r cb,v= .ptr r 0∧Bk h' r [.slc cb 0 n (Ac+1),.int .i64 ((0:Nat):Int)]∧BS h' cb 0 bs∧h.n≤cb∧h.n≤r∧cb≠r∧K0 h h':=by
 refine Ao L X.f152 X.k152 rfl rfl fun Q x cs G=>?_
 refine wk ?_
 refine cal (c:=Qf L X lkb e h1) (g:=?_)
 rintro _ h2 ⟨cb,rfl,w1,w2,w3⟩
 have n2:=w3.n
 have l2:=w1.lt_n
 simp only [Ah]at w2 n2
 refine wk ?_
 refine ret X.f152 ?_
 exact⟨h2.n,cb,rfl,lkp,lkb,by omega,by omega,by omega,kps⟩
theorem Lw {r:Nat}:Ct P0 E F K 202 [.ptr r 0] h fun v h'=>v= .ptr r 0∧h'=h:=by
 refine Ao L X.f202 X.k202 rfl rfl fun Q x cs G=>?_
 refine wk ?_
 refine ret X.f202 ?_
 exact⟨rfl,rfl⟩
theorem Yz {r cb o n at_ m:Nat}(k:Bk h r [.slc cb o n (Ac+1),.int .i64 ((at_:Nat):Int)])(hm:m≤n)(hn:n<1000)(ha:at_<1000):
  Ct P0 E F K 203 [.ptr r 0,.int .i64 ((m:Nat):Int)] h fun v h'=>v= .tup [.slc cb o m m,.int .i64 ((0:Nat):Int)]∧Bk h' r [.slc cb (o+m) (n - m) (Ac+1),.int .i64 ((at_+m:Nat):Int)]∧Kp (fun j=>j=r) h h':=by
 refine Af L X.f203 X.k203 rfl rfl fun Q x cs G=>?_
 refine wk ?_
 (apply Qh L rfl rfl rfl rfl rfl rfl rfl;exact lkp;rfl;intro h9 hs9;(repeat(first|(apply Au rfl rfl;exact opv)|(apply Kv rfl rfl)));(first|(apply p_0;exact chk)|(refine Tr L ?_ rfl ?_;exact chk));refine Od L hs9 ?_)
 refine wk ?_
 refine ret X.f203 ?_
 exact⟨rfl,lkp,kps⟩
theorem Y0 {b o n c:Nat}{bs:List Nat}{a:Nat}(k:BS h b o ((bs.drop a).take n))(hl:a+n≤bs.length)(hn:1≤n∧n≤8):
  Ct P0 E F K 156 [.slc b o n c] h fun v h'=>v= .tup [.int .u64 ((leF bs a n:Nat):Int),.int .i64 ((0:Nat):Int)]∧h'=h:=by
 have hall:=k.all
 have hkl:((bs.drop a).take n).length=n:=by rw [List.length_take,List.length_drop];omega
 have hgd: ∀i,i<n→((bs.drop a).take n).getD i 0=bs.getD (a+i) 0:=fun i hi=>by
  simp only [List.getD_eq_getElem?_getD]
  rw [List.getElem?_take_of_lt hi,List.getElem?_drop]
 have hlt: ∀i,i≤n→leF bs a i<256 ^ i:=by
  intro i
  induction i with
  |zero=>intro _;simp [leF]
  |succ i ih=>
   intro hi
   have h1:=ih (by omega)
   have h2:=C0 hall i
   rw [hgd i (by omega)]at h2
   rw [Lu,Nat.pow_succ]
   have:bs.getD (a+i) 0*256 ^ i≤255*256 ^ i:=Nat.mul_le_mul_right _ (by omega)
   omega
 refine Ao L X.f156 X.k156 rfl rfl fun Q x cs G=>?_
 refine wk ?_
 refine Bb L (α:= Nat) (T:=fun i u=> [(16,some (.int .i64 ((i:Nat):Int))),(15,some (.int .i64 ((n:Nat):Int))),(14,some (.slc b o n c)),(2,some (.int .u64 ((u:Nat):Int)))]) (n:=n)
  (R:=fun i u h1=>h1=h∧u=leF bs a i) (i0:=0) 0 tsb ⟨rfl,rfl⟩ (Nat.zero_le _) ?_ ?_
 ·rintro i u h1 hi ⟨rfl,w1⟩ ih
  have h1':=hlt i (by omega)
  rw [←w1]at h1'
  have hb:=C0 hall i
  rw [hgd i hi]at hb
  have hlt2:=hlt (i+1) (by omega)
  rw [Lu,←w1]at hlt2
  have hp:256 ^ (i+1)≤256 ^ 8:=Nat.pow_le_pow_right (by omega) (by omega)
  have hp2:(256:Nat) ^ 8=18446744073709551616:=by decide
  have hpe:2 ^ (8*i)=256 ^ i:=(Qi i).symm
  refine wk ?_
  (apply st1 L rfl;exact F3 k rfl (by omega);rfl)
  rw [hgd i hi]
  refine wk ?_
  (apply st1 L rfl;exact up (s:=8*i) rfl rfl rfl (by show 8*i≤64;omega);rfl)
  rw [hpe,show(bs.getD (a+i) 0*256 ^ i) % pw .u64=bs.getD (a+i) 0*256 ^ i from Nat.mod_eq_of_lt (by simp only [pw];omega)]
  have hor:u ||| bs.getD (a+i) 0*256 ^ i=u+bs.getD (a+i) 0*256 ^ i:=by
   have:=Nat.shiftLeft_add_eq_or_of_lt (i:=8*i) (show u<2 ^ (8*i) by rw [hpe];exact h1') (bs.getD (a+i) 0)
   rw [Nat.shiftLeft_eq,hpe]at this
   rw [Nat.or_comm,←this,Nat.add_comm]
  refine wk ?_
  (apply st1 L rfl;exact Aaz rfl rfl rfl (by simp only [pw];omega) (by simp only [pw];omega) (by rw [hor];simp only [pw];omega);rfl)
  rw [hor]
  refine wk ?_
  refine ih _ _ _ ⟨rfl,?_⟩ tsb
  rw [Lu,←w1]
 ·rintro u h1 ⟨rfl,w1⟩
  refine wk ?_
  refine ret X.f156 ?_
  rw [w1]
  exact⟨rfl,rfl⟩
theorem j0 {r cb o n at_ m a:Nat}{bs:List Nat}(k:Bk h r [.slc cb o n (Ac+1),.int .i64 ((at_:Nat):Int)])(kb:BS h cb o ((bs.drop a).take m))(hl:a+m≤bs.length)(hm:m≤n)(hm1:1≤m∧m≤8)(hn:n<1000)(ha:at_<1000)(hne:cb≠r):
  Ct P0 E F K 223 [.ptr r 0,.int .i64 ((m:Nat):Int)] h fun v h'=> ∃b,v= .tup [.slc b 0 1 1,.int .i64 ((0:Nat):Int)]∧Bk h' b [.int .u64 ((leF bs a m:Nat):Int)]∧h.n≤b∧Bk h' r [.slc cb (o+m) (n - m) (Ac+1),.int .i64 ((at_+m:Nat):Int)]∧Kp (fun j=>j=r) h h':=by
 have l1:=k.lt
 refine Af L X.f223 X.k223 rfl rfl fun Q x cs G=>?_
 refine wk ?_
 refine cal (c:=Yz L X lkp hm hn ha) (g:=?_)
 rintro _ h2 ⟨rfl,w1,w2⟩
 have n2:=w2.n
 simp only [Ah]at n2
 refine wk ?_
 refine cal (c:=Y0 L X lkb hl hm1) (g:=?_)
 rintro _ rfl
 refine wk ?_
 refine ret X.f223 ?_
 exact⟨h2.n,rfl,lkp,by omega,lkp,kps⟩
theorem rt {r cb o n at_ m a sb:Nat}{bs:List Nat}(ks:Bk h sb [.int .i64 ((m:Nat):Int)])(k:Bk h r [.slc cb o n (Ac+1),.int .i64 ((at_:Nat):Int)])(kb:BS h cb o ((bs.drop a).take m))(hl:a+m≤bs.length)(hm:m≤n)(hm1:1≤m∧m≤8)(hn:n<1000)(ha:at_<1000)(hne:cb≠r):
  Ct P0 E F K 222 [.slc sb 0 1 1,.fn (.func 223) [.ptr r 0] []] h fun v h'=> ∃b,v= .tup [.slc b 0 1 (Ac+1),.int .i64 ((0:Nat):Int)]∧Bk h' b [.int .u64 ((leF bs a m:Nat):Int)]∧h.n≤b∧Bk h' r [.slc cb (o+m) (n - m) (Ac+1),.int .i64 ((at_+m:Nat):Int)]∧Kp (fun j=>j=r) h h':=by
 have l1:=k.lt
 refine Af L X.f222 X.k222 rfl rfl fun Q x cs G=>?_
 refine wk ?_
 refine A4 L ?_
 refine wk ?_
 refine Qg L rfl rfl rfl rfl rfl (Ct.A (j0 L X (bs:=bs) (a:=a) k (by exact kb) hl hm hm1 hn ha hne)) ?_
 rintro _ h2 ⟨b,rfl,w1,w2,w3,w4⟩
 have n2:=w4.n
 have l3:=w3.lt
 have l4:=w1.lt
 refine wk ?_
 (apply st1 L rfl;exact D8 (n2:=1) (new:= [.int .u64 ((leF bs a m:Nat):Int)]) rfl rfl (SlR.of (c:= [.int .u64 ((leF bs a m:Nat):Int)]) lkp (Nat.le_refl _) rfl) (by omega) (by omega);rfl)
 refine wk ?_
 refine C7 L ?_
 refine wk ?_
 refine ret X.f222 ?_
 exact⟨h2.n,rfl,lkp,by omega,lkp,kps⟩
end
end
end Go.Ev
