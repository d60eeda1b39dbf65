/- Part of the proof. -/
import Derived.Test.YtgkianlpkdfhkaaGreatM15
import Derived.Test.YtgkianlpkdfhkaaGreatM13
import Derived.Test.YtgkianlpkdfhkaaGreatM10
set_option linter.unusedVariables false
set_option linter.unusedSectionVars false
set_option linter.unusedSimpArgs false
set_option maxRecDepth 10000
set_option maxHeartbeats 4000000
namespace Go.Ev
section
variable {P0:Program}{E:Env}{F:T CFn}{K:T (List AV×AV)}(L:Lg P0 E F K)(X:Fx F K)
include L X
section
variable {h:H}{κ: Nat→Nat}{I:Ai}
theorem Y7 {S0:Ap}{b1 o1 c1:Nat}{sp:Sp}{data:List Nat}(T:Tb P0 E F K)(r0:ApR κ h I S0)(wi:WI S0 true)(q:sp.Fit)(hk:sp.kind≠1)(kd:BS h b1 o1 data)(hc:κ b1=0)(hd:data.length=S0.D.sz)(hn:S0.D.n+muW S0 true+2<100000):
  CtX P0 E F K 104 [.ptr I.s 0,.ptr I.s 10,.agg (spC sp),.slc b1 o1 S0.D.sz c1] h
   (fun v h'=> ∃p S' κ',v=AI ((p:Nat):Int)∧p<1000∧WrP true (data++Ax sp data) S0 S' (.done p)∧ApR κ' h' I S'∧AChg κ h κ' h')
   (fun v h'=> ∃(e:Nat) (S':Ap) (κ':Nat→Nat),v= .ifc 44 (AI ((e:Nat):Int))∧((e=7∧WrP true (data++Ax sp data) S0 S' .full)∨(e=50∧WrP true (data++Ax sp data) S0 S' .pow))∧ApR κ' h' I S'∧AChg κ h κ' h'):=by
 have hsz:=r0.dv.ok.g.sz
 have l1:=kd.lt_n
 have l0:=r0.sk.lt
 refine Bu L X.f104 X.k104 rfl rfl rfl fun Q x cs G Gp=>?_
 refine wk ?_
 refine cal (c:=Qh L X (data:=data) T q lkb hd (by omega)) (g:=?_)
 rintro _ h2 ⟨eb,rfl,w1,w2,w3⟩
 simp only [Al]at w2
 have n2:=w3.n
 simp only [Al]at n2
 refine wk ?_
 refine cal (c:=Ao L X) (g:=?_)
 rintro _ rfl
 refine wk ?_
 have lenx:(Ax sp data).length=64:=by unfold Ax;rw [List.length_append,Bj,Jl]
 refine o5 L (α:= Ap×(Nat→Nat)) (T:=fun s=> [(0,some (.ptr I.s 0)),(1,some (.ptr I.s 10)),(3,some (.slc b1 o1 S0.D.sz c1)),(6,some (.ptr h.n 0)),(9,some (.slc eb 0 64 (Aa+1)))]) (mu:=fun s=>muW s.1 true)
  (R:=fun s hh=>ApR s.2 hh I s.1∧AChg κ h s.2 hh∧(∀S' r,WrP true (data++Ax sp data) s.1 S' r→WrP true (data++Ax sp data) S0 S' r)∧WI s.1 true∧s.1.D.sz=S0.D.sz∧BS hh b1 o1 data∧s.2 b1=0∧BS hh eb 0 (Ax sp data)∧s.2 eb=0∧Bk hh h.n (spC sp)∧s.2 h.n=0∧s.1.D.n+muW s.1 true+2<100000) (S0,ext κ h.n) tsb
  ⟨r0.k0 (by exact Kp.tr0 w3 kps) (fun b hb=>Af hb),AChg.k0 (by exact Kp.tr0 w3 kps) (fun b hb=>Af hb),fun _ _ h=>h,wi,rfl,lkb,(by show ext κ h.n b1=0;rw [Af l1];exact hc),lkb,Bs (by omega),lkp,Bs (Nat.le_refl _),hn⟩ ?_
 rintro⟨S,κs⟩ hh ⟨r,ch,hw,wi,esz,kd2,hc2,ke2,hce,ksp,hcs,hn⟩ ih
 simp only at r ch hw wi esz hc2 hce hcs hn ih
 have sk:=r.sk
 obtain⟨cb,po⟩:=r.po
 have lt:=r.lt
 have col:=r.col
 have ok:=r.dv.ok
 obtain⟨v1,v2⟩:=wi
 obtain⟨_,fm,bb,db,dc⟩:=r.dv
 have hnb:=ok.g.nb
 have hP:=ok.g.P
 have prog: ∀(S2:Ap) (κ2:Nat→Nat) (h4:H) (lq:List (Nat×Option AV)) (b:Nat),(S.cls true).opn true=some S2→S2.log=((b:Nat):Int)→b<S2.D.nb→S2.ps b=2→ApR κ2 h4 I S2→AChg κs hh κ2 h4→S2.D=S.D→2*frees S2+1≤muW S true→TSub (tms [(96,some (AI ((b:Nat):Int))),(95,some (.ptr I.d 0)),(13,some (AI ((b:Nat):Int))),(0,some (.ptr I.s 0)),(1,some (.ptr I.s 10)),(3,some (.slc b1 o1 S0.D.sz c1)),(6,some (.ptr h.n 0)),(9,some (.slc eb 0 64 (Aa+1)))]) (tms lq)→
   Good P0 E Q ⟨⟨104,cf104.ntmps,tms lq,[.ops [Cc 97 20 [(.t 95),(.t 96)],Cv 14 97],.code c104_38,.inBlock 1,.inLoop c104_43,.inBlock 0],[],.run,false,none⟩,x::cs,hp h4.n h4.t []⟩:=by
  intro S2 κ2 h4 lq b e1 e2 hb hps r2 ch2 eD hmu ht
  refine En L ht ?_
  have r2':=r2.dv
  obtain⟨ok2,fm2,bb2,db2,dc2⟩:=r2'
  obtain⟨pn,c,hr⟩:=dc2.rows b hb
  have kd4:=ch2.bs kd2 hc2
  have ke4:=ch2.bs ke2 hce
  have ksp4:Bk h4 h.n (spC sp):=As ch2.k (by omega) ksp
  have hcs4:κ2 h.n=0:=(ch2.col _ ksp.lt).trans hcs
  have sk2:=r2.sk
  have ls2:=sk2.lt
  have hsel:S2.sel true=((b:Nat):Int):=e2
  refine cal (c:=Iw L X dc2.dk dc2.bk hb hr.c1) (g:=?_)
  rintro _ rfl
  unfold apC at sk2
  refine wk ?_
  have hsz2:S2.D.sz=S0.D.sz:=by rw [eD,esz]
  have fp:=Mq (h:=hp h4.n h4.t []) (c1:=c1) (c2:=Aa+1) L X (i:=((b:Nat):Int)) (p:=(S2.D.bl b).nx) (data:=data) (extra:=Ax sp data) r2.dv (by rw [eD];omega) (fun _=>by rw [Int.toNat_natCast]) kd4.1 ke4.1 (by rw [hsz2];exact hd) lenx
  rw [hsz2]at fp
  refine cal (c:=fp) (g:=?_)
  rintro _ h5 ⟨rfl,κ5,dv5,ch5⟩
  obtain⟨g1,g2⟩:=S2.D.prog_geo ((b:Nat):Int) (data++Ax sp data)
  have r5:=r2.dev ch5 dv5 g1
  have a5:AChg κs hh κ5 h5:=ch2.trans ch5.a
  have sk5:=r5.sk
  have ls5:=sk5.lt
  by_cases hpow:(S2.D.prog ((b:Nat):Int) (data++Ax sp data)).2=50
  ·have ew:S.w1 true (data++Ax sp data)=({S2 with D:=(S2.D.prog ((b:Nat):Int) (data++Ax sp data)).1,down:=true},.pow):=by
    unfold Ap.w1;rw [e1];simp only [hsel];rw [if_pos hpow]
   rw [hpow]
   refine wk ?_
   refine Ib L rfl rfl rfl rfl rfl (I0 L X r5) ?_
   rintro _ h6 ⟨rfl,r6,k6⟩
   refine An L X.f104 ?_
   have hst:WrP true (data++Ax sp data) S {S2 with D:=(S2.D.prog ((b:Nat):Int) (data++Ax sp data)).1,down:=true} .pow:=by
    have h1:=WrP.stop (k:=true) (all:=data++Ax sp data) (S:=S) (by rw [ew];intro e;cases e)
    rw [ew]at h1;exact h1
   exact Gp _ _ ⟨50,_,κ5,rfl,.inr ⟨rfl,hw _ _ hst⟩,r6,ch.trans (a5.trans (AChg.kp k6 fun b _ e=>by subst e;have:=r5.col;omega))⟩
  ·by_cases h0:(S2.D.prog ((b:Nat):Int) (data++Ax sp data)).2=0
   ·have ew:S.w1 true (data++Ax sp data)=({S2 with D:=(S2.D.prog ((b:Nat):Int) (data++Ax sp data)).1},.done (b*S2.D.P+(S2.D.bl b).nx)):=by
     unfold Ap.w1;rw [e1];simp only [hsel,Int.toNat_natCast];rw [if_neg hpow,if_pos h0]
    rw [h0]
    unfold apC at sk5
    refine wk ?_
    refine cal (c:=E5 L X (e:=((0:Nat):Int)) (by omega)) (g:=?_)
    rintro _ rfl
    have hbn:=ok2.bl b hb
    have hnx:=hbn.nx
    have hP2:=ok2.g.P
    have hnb2:=ok2.g.nb
    have hmul:b*S2.D.P≤12*6:=Nat.mul_le_mul (by omega) (by omega)
    have g1':(S2.D.prog ((b:Nat):Int) (data++Ax sp data)).1.P=S2.D.P:=g1.2.1
    simp only [g1']at sk5
    refine wk ?_
    refine ret X.f104 ?_
    have hst:WrP true (data++Ax sp data) S {S2 with D:=(S2.D.prog ((b:Nat):Int) (data++Ax sp data)).1} (.done (b*S2.D.P+(S2.D.bl b).nx)):=by
     have h1:=WrP.stop (k:=true) (all:=data++Ax sp data) (S:=S) (by rw [ew];intro e;cases e)
     rw [ew]at h1;exact h1
    exact⟨_,_,κ5,rfl,by omega,hw _ _ hst,r5.k0 kps fun _ _=>rfl,ch.trans (a5.trans (AChg.k0 kps fun _ _=>rfl))⟩
   ·have ew:S.w1 true (data++Ax sp data)=({S2 with D:=(S2.D.prog ((b:Nat):Int) (data++Ax sp data)).1,su:=Bb S2.su ((b:Nat):Int) true,ps:=upd S2.ps b 3,log:= -1},.again):=by
     unfold Ap.w1;rw [e1];simp only [hsel,Int.toNat_natCast];rw [if_neg hpow,if_neg h0];rfl
    have hpos:0<(S2.D.prog ((b:Nat):Int) (data++Ax sp data)).2:=by omega
    have hlt9:(S2.D.prog ((b:Nat):Int) (data++Ax sp data)).2<1000:=by
     unfold Dv.prog;split
     ·split
      ·show 50<1000;omega
      ·show(if _ then 50 else if _ then 54 else 0)<1000
       split
       ·omega
       ·split <;> omega
     ·show 2<1000;omega
    unfold apC at sk5
    generalize hE:(S2.D.prog ((b:Nat):Int) (data++Ax sp data)).2=er at*
    refine wk ?_
    refine cal (c:=E5 L X (e:=((er:Nat):Int)) (by omega)) (g:=?_)
    rintro _ rfl
    obtain⟨M,ck,m1,m2,m3⟩:=r5.ms.ex
    have lm:=m1.lt
    have nms:I.s≠I.rs:=fun e=>by have:=r5.col;rw [e]at this;omega
    refine wk ?_
    (apply Jj L rfl;exact Hb (KE.int .i64) m2 rfl rfl rfl lkq;rfl)
    have k6:Kp (fun j=>j=I.rs) h5 (hp h5.n h5.t [(I.rs,some (.map ((Dp M ck ((b:Nat):Int) (.bool true)).map (mE AI)) (mCk M ck ((b:Nat):Int))))]):=kps
    have r6:=r5.sset k6 (SetR.set (k:=((b:Nat):Int)) lkq m2 m3)
    obtain⟨cb6,po6⟩:=r6.po
    have hb6:b<(S2.D.prog ((b:Nat):Int) (data++Ax sp data)).1.nb:=by rw [g1.1];exact hb
    refine wk ?_
    refine cal (c:=Gt L X po6 hb6 hps) (g:=?_)
    rintro _ h7 ⟨rfl,po7,k7⟩
    have r7:=r6.pool k7 po7
    have sk7:=r7.sk
    have ls7:=sk7.lt
    unfold apC at sk7
    refine wk ?_
    have k8:Kp (fun j=>j=I.s) h7 (hp h7.n h7.t [(I.s,some (cl (apC I {S2 with D:=(S2.D.prog ((b:Nat):Int) (data++Ax sp data)).1,su:=Bb S2.su ((b:Nat):Int) true,ps:=upd S2.ps b 3,log:= -1})))]):=kps
    have r8:=r7.st (S':= {S2 with D:=(S2.D.prog ((b:Nat):Int) (data++Ax sp data)).1,su:=Bb S2.su ((b:Nat):Int) true,ps:=upd S2.ps b 3,log:= -1}) k8 lkp ⟨rfl,rfl,rfl,rfl,rfl,rfl,rfl,rfl⟩
    have a6:AChg κ5 h5 κ5 _:=AChg.kp k6 fun b _ e=>by subst e;have:=r5.col;omega
    have a7:AChg κ5 _ κ5 h7:=AChg.kp k7 fun b _ e=>by rcases e with e|e <;> subst e <;> (have:=r6.col;omega)
    have a8:AChg κ5 h7 κ5 _:=AChg.kp k8 fun b _ e=>by subst e;have:=r7.col;omega
    have aa:=a5.trans (a6.trans (a7.trans a8))
    have kd8:=aa.bs kd2 hc2
    have ke8:=aa.bs ke2 hce
    have hmu8:muW {S2 with D:=(S2.D.prog ((b:Nat):Int) (data++Ax sp data)).1,su:=Bb S2.su ((b:Nat):Int) true,ps:=upd S2.ps b 3,log:= -1} true=2*frees S2:=by
     unfold muW frees Ap.sel
     simp only [g1.1]
     have:=Bp S2.ps b 3 1 S2.D.nb hb
     rw [hps]at this
     simp at this
     simp [this]
    refine ih ({S2 with D:=(S2.D.prog ((b:Nat):Int) (data++Ax sp data)).1,su:=Bb S2.su ((b:Nat):Int) true,ps:=upd S2.ps b 3,log:= -1},κ5) _ _ ?_ ⟨r8,ch.trans aa,fun S' r' hw'=>hw _ _ (.more (by rw [ew]) (by rw [ew];exact hw')),⟨fun e=>absurd e (by unfold Ap.sel;simp),by unfold Ap.sel;simp⟩,?_,kd8.1,kd8.2,ke8.1,ke8.2,As aa.k (by omega) ksp,(aa.col _ ksp.lt).trans hcs,?_⟩ tsb
    ·simp only [hmu8];omega
    ·simp only [g1.2.2.1];exact hsz2
    ·have eDn:S2.D.n=S.D.n:=by rw [eD]
     simp only [hmu8];omega
 have take: ∀(h4:H) (lq:List (Nat×Option AV)),(S.cls true).log<0→ApR κs h4 I (S.cls true)→AChg κs hh κs h4→(S.cls true).D=S.D→2*frees (S.cls true)≤muW S true→TSub (tms [(69,some (.ptr I.p 0)),(0,some (.ptr I.s 0)),(1,some (.ptr I.s 10)),(3,some (.slc b1 o1 S0.D.sz c1)),(6,some (.ptr h.n 0)),(9,some (.slc eb 0 64 (Aa+1)))]) (tms lq)→
   Good P0 E Q ⟨⟨104,cf104.ntmps,tms lq,[.ops [Cc 70 146 [(.t 69)],Cv 65 70,Ce 71 65 0,Ce 72 65 1,Cv 11 71,Cv 12 72],.code c104_18,.code c104_40,.inBlock 1,.inLoop c104_43,.inBlock 0],[],.run,false,none⟩,x::cs,hp h4.n h4.t []⟩:=by
  intro h4 lq hneg r2 ch2 eD hmu ht
  refine En L ht ?_
  generalize hS1:S.cls true=S1 at*
  obtain⟨cb2,po2⟩:=r2.po
  have ksp4:Bk h4 h.n (spC sp):=As ch2.k (by omega) ksp
  have lsp:=ksp4.lt
  refine cal (c:=W5 L X po2) (g:=?_)
  rintro _ h5 (⟨e1,e2,rfl,k5⟩|⟨b,e1,hb,e2,rfl,po5,k5⟩)
  ·refine wk ?_
   refine Ib L rfl rfl rfl rfl rfl (Bc L X) ?_
   rintro _ _ ⟨rfl,rfl⟩
   refine An L X.f104 ?_
   have ew:S.w1 true (data++Ax sp data)=(S1,.full):=by
    unfold Ap.w1;rw [hS1]
    have:S1.opn true=none:=by unfold Ap.opn;rw [if_pos (show S1.sel true<0 from hneg),if_pos (by rw [e1];omega)]
    rw [this]
   have hst:WrP true (data++Ax sp data) S S1 .full:=by
    have h1:=WrP.stop (k:=true) (all:=data++Ax sp data) (S:=S) (by rw [ew];intro e;cases e)
    rw [ew]at h1;exact h1
   exact Gp _ _ ⟨7,S1,κs,rfl,.inl ⟨rfl,hw _ _ hst⟩,r2.k0 kps fun _ _=>rfl,ch.trans (ch2.trans (AChg.k0 kps fun _ _=>rfl))⟩
  ·have r5:=r2.pool k5 po5
   have a5:AChg κs h4 κs h5:=AChg.kp k5 fun b _ e=>by rcases e with e|e <;> subst e <;> (have:=r2.col;omega)
   have ksp5:Bk h5 h.n (spC sp):=As a5.k (by have:=ch2.col _ ksp.lt;omega) ksp4
   have sk5:=r5.sk
   have ls5:=sk5.lt
   have nsp:h.n≠I.s:=fun e=>by have:=r5.col;rw [←e]at this;omega
   unfold apC at sk5
   unfold spC at ksp5
   refine wk ?_
   refine cal (c:=Ao L X) (g:=?_)
   rintro _ rfl
   have k6:Kp (fun j=>j=I.s) h5 (hp h5.n h5.t [(I.s,some (cl (apC I {S1 with ps:=upd S1.ps b 2,log:=((b:Nat):Int)})))]):=kps
   have r6:=r5.st (S':= {S1 with ps:=upd S1.ps b 2,log:=((b:Nat):Int)}) k6 (by unfold apC;exact lkp) ⟨rfl,rfl,rfl,rfl,rfl,rfl,rfl,rfl⟩
   have a6:AChg κs h5 κs _:=AChg.kp k6 fun b _ e=>by subst e;have:=r5.col;omega
   obtain⟨M,ck,m1,m2,m3⟩:=r6.mj.ex
   have lm:=m1.lt
   simp only [Al]at lm
   have nms:I.s≠I.rj:=fun e=>by have:=r5.col;rw [e]at this;omega
   obtain⟨M5,ck5,p1,p2,p3⟩:=r5.mj.ex
   refine wk ?_
   (apply Jj L rfl;exact Hb (KE.int .i64) p2 rfl rfl rfl lkq;rfl)
   have k7:Kp (fun j=>j=I.rj) (hp h5.n h5.t [(I.s,some (cl (apC I {S1 with ps:=upd S1.ps b 2,log:=((b:Nat):Int)})))]) (hp h5.n h5.t [(I.rj,some (.map ((Dp M5 ck5 ((b:Nat):Int) (.bool true)).map (mE AI)) (mCk M5 ck5 ((b:Nat):Int)))),(I.s,some (cl (apC I {S1 with ps:=upd S1.ps b 2,log:=((b:Nat):Int)})))]):=kps
   have r7:=r6.jset k7 (SetR.set (k:=((b:Nat):Int)) lkq p2 p3)
   have a7:AChg κs _ κs _:=AChg.kp k7 fun b _ e=>by subst e;have:=r6.col;omega
   have sk7:=r7.sk
   refine wk ?_
   refine prog {S1 with ps:=upd S1.ps b 2,log:=((b:Nat):Int),jr:=Bb S1.jr ((b:Nat):Int) true} κs _ _ b ?_ rfl hb (upd_eq _ _ _) r7 (ch2.trans (a5.trans (a6.trans a7))) eD ?_ tsb
   ·unfold Ap.opn;rw [if_pos (show S1.sel true<0 from hneg),if_neg (by rw [e1];omega),e1,Int.toNat_natCast];rfl
   ·have:=Bp S1.ps b 2 1 S1.D.nb hb
    rw [e2]at this
    simp at this
    unfold frees at hmu ⊢
    simp only
    omega
 by_cases hb0:0≤S.log
 ·obtain⟨b,hbe⟩: ∃b:Nat,S.log=((b:Nat):Int):=⟨S.log.toNat,by omega⟩
  have hsel:S.sel true=((b:Nat):Int):=hbe
  obtain⟨v3,v4⟩:=v1 (by rw [hsel];omega)
  rw [hsel]at v3
  rw [hsel,Int.toNat_natCast]at v4
  have hb:b<S.D.nb:=by omega
  obtain⟨pn,c,hr⟩:=dc.rows b hb
  have hmu:muW S true=2*frees S+1:=by unfold muW;rw [hsel,if_pos (by omega)]
  unfold apC at sk
  rw [hbe]at sk
  refine wk ?_
  refine cal (c:=Iw L X dc.dk dc.bk hb hr.c1) (g:=?_)
  rintro _ rfl
  by_cases hfull:(S.D.bl b).nx=S.D.P
  ·have ec:S.cls true= {S with ps:=upd S.ps b 3,log:= -1}:=by
    unfold Ap.cls;rw [hsel,Int.toNat_natCast,if_pos ⟨by omega,hfull⟩];rfl
   refine wk ?_
   refine cal (c:=Gt L X po hb v4) (g:=?_)
   rintro _ h4 ⟨rfl,po4,k4⟩
   have r4:=r.pool k4 po4
   have sk4:=r4.sk
   have ls4:=sk4.lt
   unfold apC at sk4
   refine wk ?_
   have k5:Kp (fun j=>j=I.s) h4 (hp h4.n h4.t [(I.s,some (cl (apC I {S with ps:=upd S.ps b 3,log:= -1})))]):=kps
   have r5:=r4.st (S':= {S with ps:=upd S.ps b 3,log:= -1}) k5 (by unfold apC;exact lkp) ⟨rfl,rfl,rfl,rfl,rfl,rfl,rfl,rfl⟩
   have a4:AChg κs hh κs h4:=AChg.kp k4 fun b _ e=>by rcases e with e|e <;> subst e <;> omega
   have a5:AChg κs h4 κs _:=AChg.kp k5 fun b _ e=>by subst e;omega
   refine take _ _ (by rw [ec];show(-1:Int)<0;omega) (by rw [ec];exact r5) (a4.trans a5) (by rw [ec]) ?_ tsb
   rw [ec,hmu]
   have:=Bp S.ps b 3 1 S.D.nb hb
   rw [v4]at this
   simp at this
   unfold frees;simp only;omega
  ·have ec:S.cls true=S:=by
    unfold Ap.cls;rw [hsel,Int.toNat_natCast,if_neg (by omega)]
   have eo:(S.cls true).opn true=some S:=by rw [ec];unfold Ap.opn;rw [hsel,if_neg (by omega)]
   refine wk ?_
   exact prog S κs _ _ b eo hbe hb v4 (r.k0 kps fun _ _=>rfl) (AChg.k0 kps fun _ _=>rfl) rfl (by omega) tsb
 ·have ec:S.cls true=S:=by
   unfold Ap.cls;rw [if_neg];rintro⟨e,-⟩;exact hb0 e
  have hneg:S.log= -1:=by have: -1≤S.log:=v2;omega
  unfold apC at sk
  rw [hneg]at sk
  refine wk ?_
  refine take _ _ (by rw [ec,hneg];omega) (by rw [ec];exact r.k0 kps fun _ _=>rfl) (AChg.k0 kps fun _ _=>rfl) (by rw [ec]) ?_ tsb
  rw [ec];unfold muW;omega
end
end
section
variable {P0:Program}{E:Env}{F:T CFn}{K:T (List AV×AV)}(L:Lg P0 E F K)(X:Fx F K)
include L X
def spD (sec:Int)(n:Nat):Sp:=⟨1,sec,n,0,0,1⟩
omit L X in
theorem pj {sec:Int}{n:Nat}(h1:0≤sec∧sec≤4294967294)(h2:1≤n∧n<1000000000):(spD sec n).Fit:=
 ⟨⟨h2.1,by unfold spD;simp,by unfold spD;simp,by unfold spD;simp,by unfold spD;simp,.inl ⟨rfl,h1.1,h1.2,rfl,rfl⟩⟩,⟨by unfold spD;simp,by unfold spD;simp only;omega,by unfold spD;simp⟩⟩
inductive StP (sec:Int)(data:List Nat):Ap→Ap→WO→Prop where
 |ok {S S1:Ap} {p:Nat} (h:WrP false (data++Ax (spD sec S.next) data) {S with next:=S.next+1} S1 (.done p)):StP sec data S {S1 with wr:=Ls S1.wr ((p / S1.D.P:Nat):Int) (some S.next)} (.done p)
 |bad {S S1:Ap} {r:WO} (h:WrP false (data++Ax (spD sec S.next) data) {S with next:=S.next+1} S1 r) (hr:r= .full∨r= .pow):StP sec data S S1 r
def eOf:WO→Nat
 | .full=>7
 | .pow=>50
 |_=>0
omit L X in
theorem NumR.set {n:Nat}{t:T Blk}{lh:List (Nat×Option Blk)}{r ck v:Nat}{f:Int→Option Nat}{M:List (Int×AV×Nat)}{k:Int}(q1:Mk (hp n t lh) r ((Dp M ck k (.int .u64 ((v:Nat):Int))).map (mE AI)) (mCk M ck k))(q2:MOk M ck)(q3: ∀k:Int,Bo M k=(f k).map fun n=> .int .u64 ((n:Nat):Int)):NumR (hp n t lh) r (Ls f k (some v)):=by
 refine⟨_,_,q1,q2.set _ _,fun j=>?_⟩
 rw [Cu,q3];unfold Ls
 by_cases e:j=k
 ·rw [if_pos e,if_pos e];rfl
 ·rw [if_neg e,if_neg e]
omit L X in
theorem NumR.del {n:Nat}{t:T Blk}{lh:List (Nat×Option Blk)}{r ck:Nat}{f:Int→Option Nat}{M:List (Int×AV×Nat)}{k:Int}(q1:Mk (hp n t lh) r ((Ha M k).map (mE AI)) ck)(q2:MOk M ck)(q3: ∀k:Int,Bo M k=(f k).map fun n=> .int .u64 ((n:Nat):Int)):NumR (hp n t lh) r (Ls f k none):=by
 refine⟨_,_,q1,q2.del _,fun j=>?_⟩
 rw [H8,q3];unfold Ls
 by_cases e:j=k
 ·rw [if_pos e,if_pos e];rfl
 ·rw [if_neg e,if_neg e]
omit L X in
theorem SetR.del {n:Nat}{t:T Blk}{lh:List (Nat×Option Blk)}{r ck:Nat}{f:Int→Bool}{M:List (Int×AV×Nat)}{k:Int}(q1:Mk (hp n t lh) r ((Ha M k).map (mE AI)) ck)(q2:MOk M ck)(q3: ∀k:Int,Bo M k=if f k=true then some (.bool true)else none):SetR (hp n t lh) r (Bb f k false):=by
 refine⟨_,_,q1,q2.del _,fun j=>?_⟩
 rw [H8,q3];unfold Bb
 by_cases e:j=k
 ·rw [if_pos e,if_pos e];rfl
 ·rw [if_neg e,if_neg e]
omit L X in
theorem ApR.out {κ: Nat→Nat}{h h':H}{I:Ai}{S:Ap}{B:Nat→Prop}(q:ApR κ h I S)(k:Kp B h h')(hb: ∀b,b<h.n→B b→200≤κ b):ApR κ h' I S:=by
 obtain⟨c0,c1,c2,c3,c4,c5,c6,c7,c8,c9⟩:=q.col
 obtain⟨l0,l1,l2,l3,l4,l5,l6,l7,l8,l9⟩:=q.lt
 obtain⟨cb,q1⟩:=q.po
 have ne: ∀{b:Nat},b<h.n→κ b<200→ ¬B b:=fun hl hk e=>by have:=hb _ hl e;omega
 exact⟨As k (ne l0 (by omega)) q.sk,⟨cb,q1.kp k (ne l1 (by omega)) (ne l2 (by omega))⟩,q.dvk k fun b hl e=>by have:=hb b hl e;omega,q.mp.kp k (ne l3 (by omega)) (ne l4 (by omega)) (ne l5 (by omega)) (ne l6 (by omega)),
  q.mj.kp k (ne l7 (by omega)),q.ms.kp k (ne l8 (by omega)),q.mw.kp k (ne l9 (by omega)),q.col⟩
section
variable {h:H}{κ: Nat→Nat}{I:Ai}{S:Ap}
theorem To {b1 o1 c1:Nat}{sec:Int}{data:List Nat}(T:Tb P0 E F K)(r:ApR κ h I S)(wi:WI S false)(hs:0≤sec∧sec≤4294967294)(hx:1≤S.next∧S.next<999999999)(kd:BS h b1 o1 data)(hc:κ b1=0)(hd:data.length=S.D.sz)(hn:S.D.n+muW S false+2<100000):
  CtX P0 E F K 51 [.ptr I.s 0,AI sec,.slc b1 o1 S.D.sz c1] h
   (fun v h'=> ∃p S' κ',v= .agg [AI sec,AI ((p:Nat):Int)]∧StP sec data S S' (.done p)∧ApR κ' h' I S'∧AChg κ h κ' h')
   (fun v h'=> ∃(o:WO) (S':Ap) (κ':Nat→Nat),v= .ifc 44 (AI ((eOf o:Nat):Int))∧(o= .full∨o= .pow)∧StP sec data S S' o∧ApR κ' h' I S'∧AChg κ h κ' h'):=by
 have sk:=r.sk
 have l0:=sk.lt
 have l1:=kd.lt_n
 have col:=r.col
 have nb1:b1≠I.s:=fun e=>by rw [e]at hc;omega
 unfold apC at sk
 refine Bu L X.f51 X.k51 rfl rfl rfl fun Q x cs G Gp=>?_
 refine wk ?_
 (apply st1 L rfl;exact Kk rfl rfl (by omega);rfl)
 refine wk ?_
 have r1:ApR (upd (ext κ h.n) h.n 200) (hp (h.n+1) h.t [(h.n,some (cl [AI ((0:Nat):Int),AI ((0:Nat):Int)]))]) I S:=r.k0 kps fun b hb=>(upd_ne _ _ (by omega)).trans (Af hb)
 have k2:Kp (fun j=>j=I.s) (hp (h.n+1) h.t [(h.n,some (cl [AI ((0:Nat):Int),AI ((0:Nat):Int)]))]) (hp (h.n+1) h.t [(I.s,some (cl (apC I {S with next:=S.next+1}))),(h.n,some (cl [AI ((0:Nat):Int),AI ((0:Nat):Int)]))]):=kps
 have r2:=r1.st (S':= {S with next:=S.next+1}) k2 (by unfold apC;exact lkp) ⟨rfl,rfl,rfl,rfl,rfl,rfl,rfl,rfl⟩
 have a2:AChg κ h (upd (ext κ h.n) h.n 200) (hp (h.n+1) h.t [(I.s,some (cl (apC I {S with next:=S.next+1}))),(h.n,some (cl [AI ((0:Nat):Int),AI ((0:Nat):Int)]))]):=
  AChg.trans (κ1:=upd (ext κ h.n) h.n 200) (h1:=hp (h.n+1) h.t [(h.n,some (cl [AI ((0:Nat):Int),AI ((0:Nat):Int)]))]) (AChg.k0 kps fun b hb=>(upd_ne _ _ (by omega)).trans (Af hb)) (AChg.kp k2 fun b _ e=>by subst e;rw [upd_ne _ _ (by omega),Af l0];omega)
 have kd2:=a2.bs kd hc
 have kr:Bk (hp (h.n+1) h.t [(I.s,some (cl (apC I {S with next:=S.next+1}))),(h.n,some (cl [AI ((0:Nat):Int),AI ((0:Nat):Int)]))]) h.n [AI ((0:Nat):Int),AI ((0:Nat):Int)]:=lkp
 have hfit:=pj hs ⟨hx.1,by omega⟩
 have fp:=Y6 (c1:=c1) (sp:=spD sec S.next) (data:=data) L X T r2 ⟨wi.sel,wi.lo⟩ hfit rfl kd2.1 kd2.2 hd (by exact hn)
 refine Hg L (c:=fp) (g:=?_) (gp:=?_)
 ·rintro _ h3 ⟨p,S3,κ3,rfl,hp1000,hw,r3,a3⟩
  have ok3:=r3.dv.ok
  have hP3:=ok3.g.P
  have sk3:=r3.sk
  have ls3:=sk3.lt
  have kr3:Bk h3 h.n [AI ((0:Nat):Int),AI ((0:Nat):Int)]:=As a3.k (by rw [upd_eq];omega) kr
  obtain⟨M,ck,m1,m2,m3⟩:=r3.mw.ex
  have lm:=m1.lt
  have nrw:h.n≠I.rw:=fun e=>by have:=r.lt;omega
  unfold apC at sk3
  refine wk ?_
  (apply I8 L rfl rfl;exact Hb (KE.int .i64) m2 rfl rfl rfl lkq)
  have k4:Kp (fun j=>j=I.rw) h3 (hp h3.n h3.t [(I.rw,some (.map ((Dp M ck ((p / S3.D.P:Nat):Int) (.int .u64 ((S.next:Nat):Int))).map (mE AI)) (mCk M ck ((p / S3.D.P:Nat):Int))))]):=kps
  have r4:=r3.wset k4 (NumR.set (k:=((p / S3.D.P:Nat):Int)) lkq m2 m3)
  have a4:AChg κ3 h3 κ3 _:=AChg.kp k4 fun b _ e=>by subst e;have:=r3.col;omega
  refine wk ?_
  refine ret X.f51 ?_
  have hk200:κ3 h.n=200:=(a3.col _ (by simp only [Al];omega)).trans (upd_eq _ _ _)
  have k5:Kp (fun j=>j=h.n) (hp h3.n h3.t [(I.rw,some (.map ((Dp M ck ((p / S3.D.P:Nat):Int) (.int .u64 ((S.next:Nat):Int))).map (mE AI)) (mCk M ck ((p / S3.D.P:Nat):Int))))]) (hp h3.n h3.t [(h.n,some (cl [AI sec,AI ((p:Nat):Int)])),(I.rw,some (.map ((Dp M ck ((p / S3.D.P:Nat):Int) (.int .u64 ((S.next:Nat):Int))).map (mE AI)) (mCk M ck ((p / S3.D.P:Nat):Int))))]):=kps
  have a5:=a2.trans (a3.trans a4)
  have a6:AChg κ h κ3 (hp h3.n h3.t [(h.n,some (cl [AI sec,AI ((p:Nat):Int)])),(I.rw,some (.map ((Dp M ck ((p / S3.D.P:Nat):Int) (.int .u64 ((S.next:Nat):Int))).map (mE AI)) (mCk M ck ((p / S3.D.P:Nat):Int))))]):=
   ⟨Kp.trS k5 (fun i hi e=>by omega) a5.k,a5.col⟩
  exact⟨p,{S3 with wr:=Ls S3.wr ((p / S3.D.P:Nat):Int) (some S.next)},κ3,rfl,.ok hw,r4.out k5 (fun b _ e=>by subst e;omega),a6⟩
 ·rintro _ h3 ⟨e,S3,κ3,rfl,hw,r3,a3⟩
  refine An L X.f51 ?_
  rcases hw with⟨rfl,hw⟩|⟨rfl,hw⟩
  ·exact Gp _ _ ⟨.full,S3,κ3,rfl,.inl rfl,.bad hw (.inl rfl),r3,a2.trans a3⟩
  ·exact Gp _ _ ⟨.pow,S3,κ3,rfl,.inr rfl,.bad hw (.inr rfl),r3,a2.trans a3⟩
end
end
section
variable {P0:Program}{E:Env}{F:T CFn}{K:T (List AV×AV)}(L:Lg P0 E F K)(X:Fx F K)
include L X
def Ap.ers (S:Ap)(b:Nat):Ap×WO:=
 if S.su ((b:Nat):Int)=true then({S with su:=Bb S.su ((b:Nat):Int) false,ps:=upd S.ps b 4},.done 0)
 else if(S.D.erase ((b:Nat):Int)).2=50 then({S with D:=(S.D.erase ((b:Nat):Int)).1,down:=true},.pow)
 else if(S.D.erase ((b:Nat):Int)).2=0 then({S with D:=(S.D.erase ((b:Nat):Int)).1,wr:=Ls S.wr ((b:Nat):Int) none,ps:=upd S.ps b 1,pe:=upd S.pe b (S.pe b+1)},.done 0)
 else({S with D:=(S.D.erase ((b:Nat):Int)).1,wr:=Ls S.wr ((b:Nat):Int) none,ps:=upd S.ps b 4},.done 0)
omit L X in
theorem Dv.erase_geo (D:Dv)(i:Int):((D.erase i).1.nb=D.nb∧(D.erase i).1.P=D.P∧(D.erase i).1.sz=D.sz∧(D.erase i).1.en=D.en)∧(D.erase i).1.n≤D.n+1∧(D.erase i).2<1000:=by
 unfold Dv.erase
 split
 ·split
  ·exact⟨⟨rfl,rfl,rfl,rfl⟩,Nat.le_succ _,by simp⟩
  ·split
   ·exact⟨⟨rfl,rfl,rfl,rfl⟩,Nat.le_succ _,by simp⟩
   ·split
    ·exact⟨⟨rfl,rfl,rfl,rfl⟩,Nat.le_refl _,by simp⟩
    ·split
     ·exact⟨⟨rfl,rfl,rfl,rfl⟩,Nat.le_refl _,by simp⟩
     ·exact⟨⟨rfl,rfl,rfl,rfl⟩,Nat.le_refl _,by simp⟩
 ·exact⟨⟨rfl,rfl,rfl,rfl⟩,Nat.le_succ _,by simp⟩
section
variable {h:H}{κ: Nat→Nat}{I:Ai}{S:Ap}
theorem Vj {d i j:Nat}{D:Dv}(r:DevR κ h d D)(hi:i<D.nb)(hj:j<D.P)(hoff:D.off=true):
  Ct P0 E F K 23 [.ptr d 0,.int .i64 ((i:Nat):Int),.int .i64 ((j:Nat):Int)] h fun v h'=>v= .tup [.nils,.nils,AI ((50:Nat):Int)]∧K0 h h':=by
 obtain⟨ok,fm,bb,cb,q⟩:=r
 have hd:=q.dk
 refine B3 L X.f23 X.k23 rfl rfl fun Q x cs G=>?_
 refine wk ?_
 refine cal (c:=F4 L X hd) (g:=?_)
 rintro _ rfl
 refine wk ?_
 refine cal (c:=Jm L X hd) (g:=?_)
 rintro _ rfl
 rw [decide_eq_true (show(0≤(i:Int)∧(i:Int)<D.nb)∧0≤(j:Int)∧(j:Int)<D.P by omega)]
 unfold dvC dvL at hd
 rw [hoff]at hd
 refine wk ?_
 refine ret X.f23 ?_
 exact⟨rfl,kps⟩
theorem W6 {p:Nat}(r:ApR κ h I S)(hp1:p<100000)(hb:p / S.D.P<S.D.nb)(hj:p % S.D.P<(S.D.bl (p / S.D.P)).nx)(hs:S.D.off=false→((S.D.bl (p / S.D.P)).pg (p % S.D.P)).st=2∨((S.D.bl (p / S.D.P)).pg (p % S.D.P)).st=3):
  CtX P0 E F K 52 [.ptr I.s 0,AI ((p:Nat):Int)] h
   (fun v h'=>S.D.off=false∧ ∃b,v= .slc b 0 S.D.sz (Aa+1)∧BS h' b 0 (((S.D.bl (p / S.D.P)).pg (p % S.D.P)).b.take S.D.sz)∧h.n≤b∧K0 h h')
   (fun v h'=>v= .ifc 44 (AI ((50:Nat):Int))∧S.D.off=true∧ApR (ext κ h.n) h' I {S with down:=true}∧AChg κ h (ext κ h.n) h'):=by
 have sk:=r.sk
 have dv:=r.dv
 have hP:=r.dv.ok.g.P
 have hbn:=r.dv.ok.bl _ hb
 have hnx:=hbn.nx
 have hcol:=r.col
 have ls:=sk.lt
 unfold apC at sk
 cases hoff:S.D.off with
 |false=>
  refine Bu L X.f52 X.k52 rfl rfl rfl fun Q x cs G Gp=>?_
  refine wk ?_
  refine cal (c:=gm L X (i:=p / S.D.P) (j:=p % S.D.P) dv hb hj hoff (hs hoff)) (g:=?_)
  rintro _ h2 ⟨b1,b2,rfl,w1,w2,w3,w4,w5⟩
  refine wk ?_
  refine cal (c:=E5 L X (e:=((0:Nat):Int)) (by omega)) (g:=?_)
  rintro _ rfl
  refine wk ?_
  refine cal (c:=Ao L X) (g:=?_)
  rintro _ rfl
  refine wk ?_
  refine ret X.f52 ?_
  exact⟨rfl,b1,rfl,lkb,w3,kps⟩
 |true=>
  refine Bu L X.f52 X.k52 rfl rfl rfl fun Q x cs G Gp=>?_
  refine wk ?_
  refine cal (c:=Vj L X (i:=p / S.D.P) (j:=p % S.D.P) dv hb (by omega) hoff) (g:=?_)
  rintro _ h2 ⟨rfl,w5⟩
  have r2:ApR (ext κ h.n) h2 I S:=r.k0 w5 fun b hb=>Af hb
  have hc2:ext κ h.n I.s=101:=(Af ls).trans hcol.1
  refine wk ?_
  refine Ib L rfl rfl rfl rfl rfl (I0 L X r2) ?_
  rintro _ h3 ⟨rfl,r3,k3⟩
  refine An L X.f52 ?_
  exact Gp _ _ ⟨rfl,rfl,r3,(AChg.k0 (κ':=ext κ h.n) w5 fun b hb=>Af hb).trans (AChg.kp k3 fun b _ e=>by subst e;omega)⟩
theorem Lu {b:Nat}(r:ApR κ h I S)(hb:b<S.D.nb)(hps:S.ps b=2∨S.ps b=3)(hpe:S.pe b<100000)(hn:S.D.n+1<100000):
  CtX P0 E F K 54 [.ptr I.s 0,AI ((b:Nat):Int)] h
   (fun v h'=>(S.ers b).2= .done 0∧ ∃κ',ApR κ' h' I (S.ers b).1∧AChg κ h κ' h')
   (fun v h'=>v= .ifc 44 (AI ((50:Nat):Int))∧(S.ers b).2= .pow∧ ∃κ',ApR κ' h' I (S.ers b).1∧AChg κ h κ' h'):=by
 have sk:=r.sk
 have dv:=r.dv
 have hcol:=r.col
 have ls:=sk.lt
 obtain⟨cb,po⟩:=r.po
 obtain⟨M,ck,m1,m2,m3⟩:=r.ms.ex
 have lm:=m1.lt
 have hg:=m3 ((b:Nat):Int)
 have nss:I.s≠I.rs:=fun e=>by rw [e]at hcol;omega
 unfold apC at sk
 cases hsu:S.su ((b:Nat):Int)with
 |true=>
  have ee:S.ers b=({S with su:=Bb S.su ((b:Nat):Int) false,ps:=upd S.ps b 4},.done 0):=by unfold Ap.ers;rw [if_pos hsu]
  rw [hsu,if_pos rfl]at hg
  refine Bu L X.f54 X.k54 rfl rfl rfl fun Q x cs G Gp=>?_
  refine wk ?_
  (apply st1 L rfl;exact Dy (KE.int .i64) rfl rfl lkq;rfl)
  rw [hg,Option.getD_some]
  refine wk ?_
  (apply Jj L rfl;exact F9 (KE.int .i64) m2 rfl rfl lkq;rfl)
  have k2:Kp (fun j=>j=I.rs) h (hp h.n h.t [(I.rs,some (.map ((Ha M ((b:Nat):Int)).map (mE AI)) ck))]):=kps
  have r2:=r.sset k2 (SetR.del (k:=((b:Nat):Int)) lkq m2 m3)
  obtain⟨cb2,po2⟩:=r2.po
  refine wk ?_
  refine cal (c:=Oz L X po2 hb (by show S.ps b≠4;omega)) (g:=?_)
  rintro _ h3 ⟨rfl,po3,k3⟩
  have r3:=r2.pool k3 po3
  refine wk ?_
  refine ret X.f54 ?_
  rw [ee]
  exact⟨rfl,κ,r3,(AChg.kp k2 fun b _ e=>by subst e;omega).trans (AChg.kp k3 fun b _ e=>by rcases e with e|e <;> subst e <;> omega)⟩
 |false=>
  rw [hsu,if_neg (by simp)]at hg
  obtain⟨g1,g2,g3⟩:=S.D.erase_geo ((b:Nat):Int)
  refine Bu L X.f54 X.k54 rfl rfl rfl fun Q x cs G Gp=>?_
  refine wk ?_
  (apply st1 L rfl;exact Dy (KE.int .i64) rfl rfl lkq;rfl)
  rw [hg,Option.getD_none]
  refine wk ?_
  refine cal (c:=Yn L X (i:=((b:Nat):Int)) dv hn) (g:=?_)
  rintro _ h2 ⟨rfl,κ2,dv2,ch2⟩
  have r2:=r.dev ch2 dv2 g1
  have a2:AChg κ h κ2 h2:=ch2.a
  have hcol2:=r2.col
  by_cases hpow:(S.D.erase ((b:Nat):Int)).2=50
  ·have ee:S.ers b=({S with D:=(S.D.erase ((b:Nat):Int)).1,down:=true},.pow):=by unfold Ap.ers;rw [if_neg (by rw [hsu];simp),if_pos hpow]
   rw [hpow]
   refine wk ?_
   refine Ib L rfl rfl rfl rfl rfl (I0 L X r2) ?_
   rintro _ h3 ⟨rfl,r3,k3⟩
   refine An L X.f54 ?_
   refine Gp _ _ ⟨rfl,?_⟩
   rw [ee]
   exact⟨rfl,κ2,r3,a2.trans (AChg.kp k3 fun b _ e=>by subst e;omega)⟩
  ·have sk2:=r2.sk
   have ls2:=sk2.lt
   unfold apC at sk2
   generalize hE:(S.D.erase ((b:Nat):Int)).2=er at*
   refine wk ?_
   refine cal (c:=E5 L X (e:=((er:Nat):Int)) (by omega)) (g:=?_)
   rintro _ rfl
   obtain⟨M2,ck2,p1,p2,p3⟩:=r2.mw.ex
   have lm2:=p1.lt
   refine wk ?_
   (apply Jj L rfl;exact F9 (KE.int .i64) p2 rfl rfl lkq;rfl)
   have k3:Kp (fun j=>j=I.rw) h2 (hp h2.n h2.t [(I.rw,some (.map ((Ha M2 ((b:Nat):Int)).map (mE AI)) ck2))]):=kps
   have r3:=r2.wset k3 (NumR.del (k:=((b:Nat):Int)) lkq p2 p3)
   have a3:=a2.trans (AChg.kp k3 fun b _ e=>by subst e;omega)
   obtain⟨cb3,po3⟩:=r3.po
   have hb3:b<(S.D.erase ((b:Nat):Int)).1.nb:=by rw [g1.1];exact hb
   have nsw:I.s≠I.rw:=fun e=>by rw [e]at hcol2;omega
   by_cases h0:er=0
   ·have ee:S.ers b=({S with D:=(S.D.erase ((b:Nat):Int)).1,wr:=Ls S.wr ((b:Nat):Int) none,ps:=upd S.ps b 1,pe:=upd S.pe b (S.pe b+1)},.done 0):=by unfold Ap.ers;rw [if_neg (by rw [hsu];simp),if_neg (by rw [hE];exact hpow),if_pos (by rw [hE];exact h0)]
    subst h0
    refine wk ?_
    refine cal (c:=Ti L X po3 hb3 hps hpe) (g:=?_)
    rintro _ h4 ⟨rfl,⟨cb4,po4⟩,k4⟩
    have r4:=r3.pool k4 po4
    refine wk ?_
    refine ret X.f54 ?_
    rw [ee]
    exact⟨rfl,κ2,r4,a3.trans (AChg.kp k4 fun b _ e=>by rcases e with e|e <;> subst e <;> omega)⟩
   ·have ee:S.ers b=({S with D:=(S.D.erase ((b:Nat):Int)).1,wr:=Ls S.wr ((b:Nat):Int) none,ps:=upd S.ps b 4},.done 0):=by unfold Ap.ers;rw [if_neg (by rw [hsu];simp),if_neg (by rw [hE];exact hpow),if_neg (by rw [hE];exact h0)]
    refine wk ?_
    refine cal (c:=Oz L X po3 hb3 (by show S.ps b≠4;omega)) (g:=?_)
    rintro _ h4 ⟨rfl,po4,k4⟩
    have r4:=r3.pool k4 po4
    refine wk ?_
    refine ret X.f54 ?_
    rw [ee]
    exact⟨rfl,κ2,r4,a3.trans (AChg.kp k4 fun b _ e=>by rcases e with e|e <;> subst e <;> omega)⟩
end
end
section
variable {P0:Program}{E:Env}{F:T CFn}{K:T (List AV×AV)}(L:Lg P0 E F K)(X:Fx F K)
include L X
omit L X in
theorem C3 (S:Ap)(k:Bool)(b:Int):(S.put k b).sel k=b:=by unfold Ap.sel Ap.put;cases k <;> rfl
omit L X in
theorem Gu (S:Ap)(k:Bool)(b:Int):(S.put k b).sel (!k)=S.sel (!k):=by unfold Ap.sel Ap.put;cases k <;> rfl
structure Fr (k:Bool)(S S':Ap):Prop where
 nb:S'.D.nb=S.D.nb
 P:S'.D.P=S.D.P
 sz:S'.D.sz=S.D.sz
 en:S'.D.en=S.D.en
 secs:S'.S=S.S
 A:S'.A=S.A
 next:S'.next=S.next
 last:S'.last=S.last
 pe:S'.pe=S.pe
 wr:S'.wr=S.wr
 o:S'.sel (!k)=S.sel (!k)
 flt:S'.D.flt=S.D.flt
omit L X in
theorem Fr.refl (k:Bool)(S:Ap):Fr k S S:=⟨rfl,rfl,rfl,rfl,rfl,rfl,rfl,rfl,rfl,rfl,rfl,rfl⟩
omit L X in
theorem Fr.trans {k:Bool}{S S1 S2:Ap}(a:Fr k S S1)(b:Fr k S1 S2):Fr k S S2:=
 ⟨b.nb.trans a.nb,b.P.trans a.P,b.sz.trans a.sz,b.en.trans a.en,b.secs.trans a.secs,b.A.trans a.A,b.next.trans a.next,b.last.trans a.last,b.pe.trans a.pe,b.wr.trans a.wr,b.o.trans a.o,b.flt.trans a.flt⟩
omit L X in
theorem iq (S:Ap)(k:Bool):Fr k S (S.cls k):=by
 unfold Ap.cls
 split
 ·exact⟨by cases k <;> rfl,by cases k <;> rfl,by cases k <;> rfl,by cases k <;> rfl,by cases k <;> rfl,by cases k <;> rfl,by cases k <;> rfl,by cases k <;> rfl,by cases k <;> rfl,by cases k <;> rfl,Gu _ _ _,by cases k <;> rfl⟩
 ·exact Fr.refl _ _
omit L X in
theorem vr {S S2:Ap}{k:Bool}(h:S.opn k=some S2):Fr k S S2:=by
 unfold Ap.opn at h
 split at h
 ·split at h
  ·cases h
  ·cases h
   exact⟨by cases k <;> rfl,by cases k <;> rfl,by cases k <;> rfl,by cases k <;> rfl,by cases k <;> rfl,by cases k <;> rfl,by cases k <;> rfl,by cases k <;> rfl,by cases k <;> rfl,by cases k <;> rfl,Gu _ _ _,by cases k <;> rfl⟩
 ·cases h;exact Fr.refl _ _
omit L X in
theorem Dv.prog_flt (D:Dv)(i:Int)(all:List Nat):(D.prog i all).1.flt=D.flt:=by
 unfold Dv.prog;split
 ·split <;> rfl
 ·rfl
omit L X in
theorem ir (S:Ap)(k:Bool)(all:List Nat):Fr k S (S.w1 k all).1:=by
 unfold Ap.w1
 split
 ·exact iq S k
 ·rename_i S2 h2
  have f:=(iq S k).trans (vr h2)
  obtain⟨⟨g1,g2,g3,g4⟩,-⟩:=S2.D.prog_geo (S2.sel k) all
  have g5:=S2.D.prog_flt (S2.sel k) all
  split
  ·exact f.trans ⟨g1,g2,g3,g4,rfl,rfl,rfl,rfl,rfl,rfl,rfl,g5⟩
  ·split
   ·exact f.trans ⟨g1,g2,g3,g4,rfl,rfl,rfl,rfl,rfl,rfl,rfl,g5⟩
   ·exact f.trans ⟨by cases k <;> exact g1,by cases k <;> exact g2,by cases k <;> exact g3,by cases k <;> exact g4,by cases k <;> rfl,by cases k <;> rfl,by cases k <;> rfl,by cases k <;> rfl,by cases k <;> rfl,by cases k <;> rfl,Gu _ _ _,by cases k <;> exact g5⟩
omit L X in
theorem WrP.fr {k:Bool}{all:List Nat}{S S':Ap}{r:WO}(h:WrP k all S S' r):Fr k S S':=by
 induction h with
 |stop h=>exact ir _ _ _
 |more h _ ih=>exact(ir _ _ _).trans ih
structure IW (S:Ap):Prop where
 wi: ∀k,WI S k
 ne: ∀k,0≤S.sel k→S.sel k≠S.sel (!k)
omit L X in
theorem IW.cls {S:Ap}(q:IW S)(k:Bool):IW (S.cls k)∧muW (S.cls k) k≤muW S k∧(S.cls k).D=S.D∧2*frees (S.cls k)≤muW S k:=by
 have w:=q.wi k
 have w':=q.wi (!k)
 have hne:=q.ne k
 by_cases hc:0≤S.sel k∧(S.D.bl (S.sel k).toNat).nx=S.D.P
 ·have e:S.cls k=({S with ps:=upd S.ps (S.sel k).toNat 3}).put k (-1):=by unfold Ap.cls;rw [if_pos hc]
  obtain⟨h1,h2⟩:=w.sel hc.1
  have hb:(S.sel k).toNat<S.D.nb:=by omega
  have hf:=Bp S.ps (S.sel k).toNat 3 1 S.D.nb hb
  rw [h2]at hf
  simp at hf
  have eD:(S.cls k).D=S.D:=by rw [e];cases k <;> rfl
  have eps:(S.cls k).ps=upd S.ps (S.sel k).toNat 3:=by rw [e];cases k <;> rfl
  have es:(S.cls k).sel k= -1:=by rw [e];exact C3 _ _ _
  have es':(S.cls k).sel (!k)=S.sel (!k):=by rw [e];exact Gu _ _ _
  have ef:frees (S.cls k)=frees S:=by unfold frees;rw [eD,eps];exact hf
  refine⟨⟨fun j=>?_,fun j hj=>?_⟩,?_,eD,?_⟩
  ·by_cases ej:j=k
   ·subst ej;exact⟨fun h=>by rw [es]at h;omega,by rw [es];exact Int.le_refl _⟩
   ·have:j=!k:=by cases j <;> cases k <;> simp_all
    subst this
    refine⟨fun h=>?_,by rw [es'];exact w'.lo⟩
    rw [es']at h ⊢
    obtain⟨g1,g2⟩:=w'.sel h
    rw [eD,eps]
    refine⟨g1,?_⟩
    rw [upd_ne _ _ (by have:=hne hc.1;omega)];exact g2
  ·by_cases ej:j=k
   ·subst ej;rw [es]at hj;omega
   ·have:j=!k:=by cases j <;> cases k <;> simp_all
    subst this
    rw [Bool.not_not,es']
    rw [es']at hj
    rw [es];omega
  ·unfold muW;rw [ef,es];split <;> split <;> omega
  ·rw [ef];unfold muW;omega
 ·have e:S.cls k=S:=by unfold Ap.cls;rw [if_neg hc]
  rw [e]
  exact⟨q,Nat.le_refl _,rfl,by unfold muW;omega⟩
omit L X in
theorem IW.opn {S S2:Ap}{k:Bool}(q:IW S)(h:S.opn k=some S2):IW S2∧S2.D=S.D∧0≤S2.sel k∧muW S2 k≤muW S k:=by
 have w:=q.wi k
 have w':=q.wi (!k)
 have hne:=q.ne (!k)
 unfold Ap.opn at h
 split at h
 ·rename_i hs
  split at h
  ·cases h
  ·rename_i hcold
   rcases Fq S.ps S.pe 1 S.D.nb with⟨h1,-⟩|⟨c,hc,h1,h2⟩
   ·rw [h1]at hcold;omega
   ·rw [h1,Int.toNat_natCast]at h
    have hf:=Bp S.ps c 2 1 S.D.nb hc
    rw [h2]at hf
    simp at hf
    cases h
    have eo:(({S with ps:=upd S.ps c 2,jr:=if k=true then Bb S.jr ((c:Nat):Int) true else S.jr}:Ap).put k ((c:Nat):Int)).sel (!k)=S.sel (!k):=(Gu _ _ _).trans (by cases k <;> rfl)
    refine⟨⟨fun j=>?_,fun j hj=>?_⟩,by cases k <;> rfl,by rw [C3];omega,?_⟩
    ·by_cases ej:j=k
     ·subst ej
      refine⟨fun _=>?_,by rw [C3];omega⟩
      rw [C3,Int.toNat_natCast]
      exact⟨by cases j <;> (show((c:Nat):Int)<((S.D.nb:Nat):Int);omega),by cases j <;> exact upd_eq _ _ _⟩
     ·have:j=!k:=by cases j <;> cases k <;> simp_all
      subst this
      refine⟨fun hj=>?_,by rw [eo];exact w'.lo⟩
      rw [eo]at hj ⊢
      obtain⟨g1,g2⟩:=w'.sel hj
      have hcb:(S.sel (!k)).toNat≠c:=fun e=>by rw [e]at g2;omega
      exact⟨by cases k <;> exact g1,by cases k <;> exact(upd_ne _ _ hcb).trans g2⟩
    ·have hcb:0≤S.sel (!k)→S.sel (!k)≠((c:Nat):Int):=by
      intro hj e
      obtain⟨g1,g2⟩:=w'.sel hj
      rw [e,Int.toNat_natCast]at g2;omega
     by_cases ej:j=k
     ·subst ej
      rw [C3,eo]
      intro e
      exact hcb (by rw [←e];show(0:Int)≤((c:Nat):Int);omega) e.symm
     ·have:j=!k:=by cases j <;> cases k <;> simp_all
      subst this
      rw [eo]at hj ⊢
      rw [Bool.not_not,C3]
      exact hcb hj
    ·unfold muW
     rw [C3]
     have e1:frees (({S with ps:=upd S.ps c 2,jr:=if k=true then Bb S.jr ((c:Nat):Int) true else S.jr}:Ap).put k ((c:Nat):Int))=cntS (upd S.ps c 2) 1 S.D.nb:=by cases k <;> rfl
     rw [e1]
     have e2:frees S=cntS S.ps 1 S.D.nb:=rfl
     rw [e2]
     split <;> split <;> omega
 ·cases h
  exact⟨q,rfl,by omega,Nat.le_refl _⟩
omit L X in
theorem Lv (S:Ap)(k:Bool):muW S k≤2*S.D.nb+1:=by
 unfold muW frees
 have:=Iz S.ps 1 S.D.nb
 split <;> omega
omit L X in
theorem IW.w1 {S:Ap}(q:IW S)(k:Bool)(all:List Nat):IW (S.w1 k all).1∧(S.w1 k all).1.D.n≤S.D.n+1∧((S.w1 k all).2= .again→(S.w1 k all).1.D.n+muW (S.w1 k all).1 k≤S.D.n+muW S k):=by
 obtain⟨q1,m1,e1,-⟩:=q.cls k
 unfold Ap.w1
 split
 ·exact⟨q1,by rw [e1];omega,fun h=>by cases h⟩
 ·rename_i S2 h2
  obtain⟨q2,e2,s2,m2⟩:=q1.opn h2
  obtain⟨⟨g1,g2,g3,g4⟩,g5⟩:=S2.D.prog_geo (S2.sel k) all
  have eD:S2.D=S.D:=e2.trans e1
  have hD: ∀d:Bool,IW {S2 with D:=(S2.D.prog (S2.sel k) all).1,down:=d}:=fun d=>⟨fun j=>⟨fun h=>by show S2.sel j<(S2.D.prog (S2.sel k) all).1.nb∧_;rw [g1];exact(q2.wi j).sel h,(q2.wi j).lo⟩,q2.ne⟩
  split
  ·exact⟨hD true,by show(S2.D.prog (S2.sel k) all).1.n≤_;rw [←eD];exact g5,fun h=>by cases h⟩
  ·split
   ·exact⟨hD S2.down,by show(S2.D.prog (S2.sel k) all).1.n≤_;rw [←eD];exact g5,fun h=>by cases h⟩
   ·obtain⟨v1,v2⟩:=(q2.wi k).sel s2
    have hb:(S2.sel k).toNat<S2.D.nb:=by omega
    have hf:=Bp S2.ps (S2.sel k).toNat 3 1 S2.D.nb hb
    rw [v2]at hf
    simp at hf
    have en:(({S2 with D:=(S2.D.prog (S2.sel k) all).1,su:=Bb S2.su (S2.sel k) true,ps:=upd S2.ps (S2.sel k).toNat 3}:Ap).put k (-1)).D=(S2.D.prog (S2.sel k) all).1:=by cases k <;> rfl
    have eps:(({S2 with D:=(S2.D.prog (S2.sel k) all).1,su:=Bb S2.su (S2.sel k) true,ps:=upd S2.ps (S2.sel k).toNat 3}:Ap).put k (-1)).ps=upd S2.ps (S2.sel k).toNat 3:=by cases k <;> rfl
    have eo:(({S2 with D:=(S2.D.prog (S2.sel k) all).1,su:=Bb S2.su (S2.sel k) true,ps:=upd S2.ps (S2.sel k).toNat 3}:Ap).put k (-1)).sel (!k)=S2.sel (!k):=(Gu _ _ _).trans (by cases k <;> rfl)
    have w':=q2.wi (!k)
    have hne:=q2.ne k s2
    refine⟨⟨fun j=>?_,fun j hj=>?_⟩,by simp only [en];rw [←eD];exact g5,fun _=>?_⟩
    ·by_cases ej:j=k
     ·subst ej;exact⟨fun h=>by rw [C3]at h;omega,by rw [C3];exact Int.le_refl _⟩
     ·have:j=!k:=by cases j <;> cases k <;> simp_all
      subst this
      refine⟨fun h=>?_,by rw [eo];exact w'.lo⟩
      rw [eo]at h ⊢
      obtain⟨a1,a2⟩:=w'.sel h
      rw [en,eps,g1]
      refine⟨a1,?_⟩
      rw [upd_ne _ _ (by omega)];exact a2
    ·by_cases ej:j=k
     ·subst ej;rw [C3]at hj;omega
     ·have:j=!k:=by cases j <;> cases k <;> simp_all
      subst this
      rw [Bool.not_not,C3,eo]
      rw [eo]at hj;omega
    ·simp only [en]
     have ef:frees (({S2 with D:=(S2.D.prog (S2.sel k) all).1,su:=Bb S2.su (S2.sel k) true,ps:=upd S2.ps (S2.sel k).toNat 3}:Ap).put k (-1))=frees S2:=by
      unfold frees;rw [en,eps,g1];exact hf
     have em:muW (({S2 with D:=(S2.D.prog (S2.sel k) all).1,su:=Bb S2.su (S2.sel k) true,ps:=upd S2.ps (S2.sel k).toNat 3}:Ap).put k (-1)) k=2*frees S2:=by
      unfold muW;rw [C3,ef,if_neg (by omega)];rfl
     rw [em]
     have em2:muW S2 k=2*frees S2+1:=by unfold muW;rw [if_pos s2]
     rw [eD]at g5
     rw [eD]
     omega
omit L X in
theorem WrP.iw {k:Bool}{all:List Nat}{S S':Ap}{r:WO}(h:WrP k all S S' r)(q:IW S):IW S'∧S'.D.n≤S.D.n+muW S k+1:=by
 induction h with
 |stop h=>
  obtain⟨a,b,-⟩:=q.w1 k all
  exact⟨a,by omega⟩
 |more h _ ih=>
  obtain⟨a,b,c⟩:=q.w1 k all
  obtain⟨d,e⟩:=ih a
  have:=c h
  exact⟨d,by omega⟩
end
section
variable {P0:Program}{E:Env}{F:T CFn}{K:T (List AV×AV)}(L:Lg P0 E F K)(X:Fx F K)
include L X
omit L X in
theorem Y8 {sz:Nat}{l:List Ent}(h:4+8*l.length≤sz):(D0 sz l).length=sz:=ga h
inductive RlP (sz:Nat):List JPg→Ap→Ap→WO→Prop where
 |nil {S:Ap}:RlP sz [] S S (.done 0)
 |cons {x:JPg} {r:List JPg} {S S1 S':Ap} {p:Nat} {o:WO} (h:WrP true (D0 sz x.2++Ax x.1 (D0 sz x.2)) S S1 (.done p)) (t:RlP sz r S1 S' o):RlP sz (x::r) S S' o
 |bad {x:JPg} {r:List JPg} {S S1:Ap} {o:WO} (h:WrP true (D0 sz x.2++Ax x.1 (D0 sz x.2)) S S1 o) (ho:o= .full∨o= .pow):RlP sz (x::r) S S1 o
def recN (S:Ap)(es:List Ent):Nat:=cntJ S.D.sz es.length
def Hh (k:Nat)(S:Ap)(es:List Ent):List JPg:=Kl k S.D.sz S.next S.last es (recN S es)
inductive RcP (k:Nat)(es:List Ent):Ap→Ap→WO→Prop where
 |ok {S S1:Ap} (h:RlP S.D.sz (Hh k S es) {S with next:=S.next+recN S es} S1 (.done 0)):RcP k es S {S1 with last:=S.next+recN S es - 1} (.done 0)
 |bad {S S1:Ap} {o:WO} (h:RlP S.D.sz (Hh k S es) {S with next:=S.next+recN S es} S1 o) (ho:o= .full∨o= .pow):RcP k es S S1 o
section
variable {h:H}{κ: Nat→Nat}{I:Ai}{S:Ap}
theorem Vk {lo qb:Nat}{sp:Sp}{ev:AV}{es:List Ent}(T:Tb P0 E F K)(r:ApR κ h I S)(wi:WI S true)(kq:Bk h qb [.ptr I.s 0])(q:sp.Fit)(hk:sp.kind≠1)(he:EL h lo ev es)(hok: ∀e∈es,e.Ok)(hfit:4+8*es.length≤S.D.sz)(hn:S.D.n+muW S true+2<100000):
  CtX P0 E F K 142 [.agg (jpC ((sp,es),ev)),.ptr qb 0] h
   (fun v h'=> ∃p S' κ',WrP true (D0 S.D.sz es++Ax sp (D0 S.D.sz es)) S S' (.done p)∧ApR κ' h' I S'∧AChg κ h κ' h')
   (fun v h'=> ∃(o:WO) (S':Ap) (κ':Nat→Nat),v= .ifc 44 (AI ((eOf o:Nat):Int))∧(o= .full∨o= .pow)∧WrP true (D0 S.D.sz es++Ax sp (D0 S.D.sz es)) S S' o∧ApR κ' h' I S'∧AChg κ h κ' h'):=by
 have sk:=r.sk
 have ls:=sk.lt
 have lq:=kq.lt
 have hsz:=r.dv.ok.g.sz
 have hpl:=he.plain
 unfold apC at sk
 obtain⟨sk1,ssec,sseq,sprev,sidx,slen⟩:=sp
 have he2:=he
 have main: ∀(ev':AV),ev=ev'→A5 ev'=some [ev']→(∀(h1:H),K0 h h1→EL h1 lo ev' es)→(ev'= .nils∨ ∃b n c,ev'= .slc b 0 n c)→CtX P0 E F K 142 [.agg (jpC ((⟨sk1,ssec,sseq,sprev,sidx,slen⟩,es),ev')),.ptr qb 0] h
   (fun v h'=> ∃p S' κ',WrP true (D0 S.D.sz es++Ax ⟨sk1,ssec,sseq,sprev,sidx,slen⟩ (D0 S.D.sz es)) S S' (.done p)∧ApR κ' h' I S'∧AChg κ h κ' h')
   (fun v h'=> ∃(o:WO) (S':Ap) (κ':Nat→Nat),v= .ifc 44 (AI ((eOf o:Nat):Int))∧(o= .full∨o= .pow)∧WrP true (D0 S.D.sz es++Ax ⟨sk1,ssec,sseq,sprev,sidx,slen⟩ (D0 S.D.sz es)) S S' o∧ApR κ' h' I S'∧AChg κ h κ' h'):=by
  intro ev' e1 hcv hel hsh
  unfold jpC spC
  rcases hsh with rfl|⟨eb,en,ec,rfl⟩
  all_goals
   refine Bu L X.f142 X.k142 rfl rfl rfl fun Q x cs G Gp=>?_
   refine wk ?_
   refine cal (c:=Vh L X (sz:=S.D.sz) (hel _ (by exact kps)) hok (by omega) hfit) (g:=?_)
   rintro _ h2 ⟨b2,rfl,w1,w2,w3⟩
   simp only [Al]at w2
   have n2:=w3.n
   simp only [Al]at n2
   refine wk ?_
   refine cal (c:=Ao L X) (g:=?_)
   rintro _ rfl
   have k2:K0 h h2:=Kp.tr0 w3 kps
   have r2:ApR (ext κ h.n) h2 I S:=r.k0 k2 fun b hb=>Af hb
   have a2:AChg κ h (ext κ h.n) h2:=AChg.k0 k2 fun b hb=>Af hb
   have fp:=Y7 (c1:=Aa+1) (sp:=⟨sk1,ssec,sseq,sprev,sidx,slen⟩) (data:=D0 S.D.sz es) L X T r2 wi q hk w1 (Bs (by omega)) (Y8 hfit) hn
   clear k2
   refine wk ?_
   refine Hg L (c:=fp) (g:=?_) (gp:=?_)
   ·rintro _ h3 ⟨p,S3,κ3,rfl,hp1000,hw,r3,a3⟩
    refine wk ?_
    refine ret X.f142 ?_
    exact⟨p,S3,κ3,hw,r3,a2.trans a3⟩
   ·rintro _ h3 ⟨e,S3,κ3,rfl,hw,r3,a3⟩
    refine An L X.f142 ?_
    rcases hw with⟨rfl,hw⟩|⟨rfl,hw⟩
    ·exact Gp _ _ ⟨.full,S3,κ3,rfl,.inl rfl,hw,r3,a2.trans a3⟩
    ·exact Gp _ _ ⟨.pow,S3,κ3,rfl,.inr rfl,hw,r3,a2.trans a3⟩
 exact main ev rfl hpl.1 (fun h1 k1=>he2.k0 k1) (by
  rcases he.len with⟨_,e⟩|⟨_,b,e,_⟩
  ·exact .inl e
  ·exact .inr ⟨b,_,_,e⟩)
end
end
section
variable {P0:Program}{E:Env}{F:T CFn}{K:T (List AV×AV)}(L:Lg P0 E F K)(X:Fx F K)
include L X
omit L X in
theorem iu {sz:Nat}{es:List Ent}(hok: ∀e∈es,e.Ok)(i:Nat): ∀e∈Et sz es i,e.Ok:=fun e he=>hok e (List.mem_of_mem_drop (List.mem_of_mem_take he))
omit L X in
theorem Y9 {sz:Nat}{es:List Ent}(hsz:12≤sz)(i:Nat):4+8*(Et sz es i).length≤sz:=by
 unfold Et mostJ
 rw [List.length_take]
 have:min ((sz - 4) / 8) (es.drop ((sz - 4) / 8*i)).length≤(sz - 4) / 8:=Nat.min_le_left _ _
 omega
omit L X in
theorem pp {sz n:Nat}(hsz:12≤sz∧sz<900)(hn:n<1000):0<cntJ sz n∧cntJ sz n<2000:=by
 have hm:0<mostJ sz:=by unfold mostJ;omega
 have hm2:mostJ sz<200:=by unfold mostJ;omega
 unfold cntJ
 have:(n+mostJ sz - 1) / mostJ sz≤n+mostJ sz - 1:=Nat.div_le_self _ _
 omega
omit L X in
theorem Za {k sz first prev i:Nat}{es:List Ent}(hk:k=2∨k=3)(hf:prev<first∧first<1000000000)(hi:i<cntJ sz es.length)(hn:cntJ sz es.length<2000):(Cp k sz first prev es i).1.Fit:=by
 have hk2:k=2∨k=3:=hk
 refine⟨⟨by show 1≤first+i;omega,by show(1:Int)≤((cntJ sz es.length:Nat):Int);omega,by show((cntJ sz es.length:Nat):Int)≤65535;omega,by show(0:Int)≤((i:Nat):Int);omega,by show((i:Nat):Int)<((cntJ sz es.length:Nat):Int);omega,.inr ⟨hk,rfl,by show prev<first+i;omega,?_⟩⟩,⟨by show k<256;omega,by show first+i<18446744073709551616;omega,by show prev<18446744073709551616;omega⟩⟩
 show(((i:Nat):Int)).toNat<first+i - prev
 rw [Int.toNat_natCast];omega
section
variable {h:H}{κ: Nat→Nat}{I:Ai}{S:Ap}
theorem Jo {k:Nat}{ev:AV}{es:List Ent}(T:Tb P0 E F K)(r:ApR κ h I S)(iw:IW S)(hk:k=2∨k=3)(he:EL h 0 ev es)(hok: ∀e∈es,e.Ok)(hlen:es.length<1000)(hf:S.last<S.next∧S.next<100000000)(hn:S.D.n+30*recN S es+60<100000):
  CtX P0 E F K 95 [.ptr I.s 0,.int .u8 ((k:Nat):Int),ev] h
   (fun v h'=> ∃S' κ',RcP k es S S' (.done 0)∧ApR κ' h' I S'∧AChg κ h κ' h')
   (fun v h'=> ∃(o:WO) (S':Ap) (κ':Nat→Nat),v= .ifc 44 (AI ((eOf o:Nat):Int))∧(o= .full∨o= .pow)∧RcP k es S S' o∧ApR κ' h' I S'∧AChg κ h κ' h'):=by
 have sk:=r.sk
 have ls:=sk.lt
 have hsz:=r.dv.ok.g.sz
 have hcol:=r.col
 have hcn:=pp (sz:=S.D.sz) (n:=es.length) (by omega) hlen
 have hN:recN S es=cntJ S.D.sz es.length:=rfl
 unfold apC at sk
 refine Bu L X.f95 X.k95 rfl rfl rfl fun Q x cs G Gp=>?_
 refine wk ?_
 refine cal (c:=Y5 L X (k:=k) (sz:=S.D.sz) (first:=S.next) (prev:=S.last) (he.k0 (by exact kps)) hok hk (by omega) hlen (by omega)) (g:=?_)
 rintro _ h2 ⟨pb,l,rfl,hl,pr,k2⟩
 have hll:l.length=recN S es:=by
  have:=congrArg List.length hl
  rw [List.length_map,Kl,List.length_map,List.length_range]at this;exact this
 rw [hll]
 have n2:=k2.n
 simp only [Al]at n2
 have hplo:=pr.lo
 simp only [Al]at hplo
 refine wk ?_
 refine cal (c:=Ao L X) (g:=?_)
 rintro _ rfl
 refine wk ?_
 (apply st1 L rfl;exact Kk rfl rfl (by omega);rfl)
 refine wk ?_
 have k20:K0 h h2:=Kp.tr0 k2 kps
 have r2:ApR (ext κ h.n) h2 I S:=r.k0 k20 fun b hb=>Af hb
 have k4:Kp (fun j=>j=I.s) h2 (hp h2.n h2.t [(I.s,some (cl (apC I {S with next:=S.next+recN S es})))]):=kps
 have r4:=r2.st (S':= {S with next:=S.next+recN S es}) k4 (by unfold apC;exact lkp) ⟨rfl,rfl,rfl,rfl,rfl,rfl,rfl,rfl⟩
 have hs4:ext κ h.n I.s=101:=(Af ls).trans hcol.1
 have a4:AChg κ h (ext κ h.n) (hp h2.n h2.t [(I.s,some (cl (apC I {S with next:=S.next+recN S es})))]):=(AChg.k0 (κ':=ext κ h.n) k20 fun b hb=>Af hb).trans (AChg.kp k4 fun b _ e=>by subst e;omega)
 clear k20
 have kpb4:Bk (hp h2.n h2.t [(I.s,some (cl (apC I {S with next:=S.next+recN S es})))]) pb (l.flatMap jpC):=by have:=pr.k;exact lkp
 have kq4:Bk (hp h2.n h2.t [(I.s,some (cl (apC I {S with next:=S.next+recN S es})))]) h.n [.ptr I.s 0]:=lkp
 have el4: ∀x∈l,EL (hp h2.n h2.t [(I.s,some (cl (apC I {S with next:=S.next+recN S es})))]) (h.n+1) x.2 x.1.2:=fun x hx=>(pr.el x hx).kS (S:=fun j=>j=I.s) k4 (by intro b hb;simp only [Al]at hb;omega)
 have iw4:IW {S with next:=S.next+recN S es}:=⟨fun k=>⟨(iw.wi k).sel,(iw.wi k).lo⟩,iw.ne⟩
 have hLlen:(Hh k S es).length=recN S es:=by unfold Hh Kl;rw [List.length_map,List.length_range]
 refine Co L (α:= Ap×(Nat→Nat)) (T:=fun i _=> [(47,some (AI ((i:Nat):Int))),(46,some (AI ((recN S es:Nat):Int))),(45,some (.slc pb 0 (recN S es) (Aa+7))),(8,some (.fn (.func 142) [] [.ptr h.n 0])),(6,some (.slc pb 0 (recN S es) (Aa+7))),(3,some (.ptr h.n 0))]) (n:=recN S es)
  (R:=fun i s hh=>ApR s.2 hh I s.1∧AChg (ext κ h.n) (hp h2.n h2.t [(I.s,some (cl (apC I {S with next:=S.next+recN S es})))]) s.2 hh∧IW s.1∧Fr true {S with next:=S.next+recN S es} s.1∧s.1.D.n+30*(recN S es - i)+30<100000∧(∀S' o,RlP S.D.sz ((Hh k S es).drop i) s.1 S' o→RlP S.D.sz (Hh k S es) {S with next:=S.next+recN S es} S' o)) (i0:=0) ({S with next:=S.next+recN S es},ext κ h.n) tsb
  ⟨r4,AChg.refl _ _,iw4,Fr.refl _ _,by simp only;omega,fun S' o h=>by rw [List.drop_zero]at h;exact h⟩ (Nat.zero_le _) ?_ ?_
 ·rintro i ⟨Si,κi⟩ hh hi ⟨ri,ai,iwi,fri,hbi,chi⟩ ih
  simp only at ri ai iwi fri hbi chi
  have kpb:Bk hh pb (l.flatMap jpC):=As ai.k (by rw [Bs (by omega)];omega) kpb4
  have kq:Bk hh h.n [.ptr I.s 0]:=As ai.k (by rw [Bs (by omega)];omega) kq4
  have lpb:=kpb.lt
  have lkq':=kq.lt
  have hx:l[i]?=some l[i]:=List.getElem?_eq_getElem (by omega)
  have hel:=el4 _ (List.getElem_mem (show i<l.length by omega))
  have hdt:=E0 l (Rp l) i _ hx
  have hLi:(Hh k S es)[i]?=some (l[i].1):=by
   have:=congrArg (fun q=>q[i]?) hl
   simp only [List.getElem?_map,hx,Option.map_some]at this
   exact this.symm
  have hpg:l[i].1=Cp k S.D.sz S.next S.last es i:=by
   have h1:(Hh k S es)[i]?=some (Cp k S.D.sz S.next S.last es i):=by unfold Hh Kl;rw [List.getElem?_map,List.getElem?_range hi];rfl
   rw [h1]at hLi;exact(Option.some.inj hLi).symm
  have hdrop:(Hh k S es).drop i=l[i].1::(Hh k S es).drop (i+1):=by
   have hlt:i<(Hh k S es).length:=by omega
   rw [List.drop_eq_getElem_cons hlt]
   rw [List.getElem?_eq_getElem hlt]at hLi
   rw [Option.some.inj hLi]
  have hfit:=Za (k:=k) (sz:=S.D.sz) (first:=S.next) (prev:=S.last) (i:=i) (es:=es) hk (by omega) hi hcn.2
  have hkk:(Cp k S.D.sz S.next S.last es i).1.kind≠1:=by show k≠1;omega
  have hpo:=iu (sz:=S.D.sz) hok i
  have hpf:=Y9 (sz:=S.D.sz) (es:=es) (by omega) i
  have hp2:(Cp k S.D.sz S.next S.last es i).2=Et S.D.sz es i:=rfl
  rw [←hp2]at hpo hpf
  rw [←hpg]at hfit hkk hpo hpf
  have hmu:=Lv Si true
  have hnbi:=ri.dv.ok.g.nb
  have eli:EL hh (h.n+1) l[i].2 l[i].1.2:=by
   rcases hel.ex with q|⟨q1,b,q2,q3,q4⟩
   ·exact⟨.inl q⟩
   ·exact⟨.inr ⟨q1,b,q2,As ai.k (by rw [Bs (by omega)];omega) q3,q4⟩⟩
  clear hel hpg hLi
  generalize hxe:l[i]=xx at*
  obtain⟨⟨⟨xk,xs,xq,xp,xi,xl⟩,xes⟩,xev⟩:=xx
  simp only at hfit hkk hpo hpf eli hdrop
  have e1:=eli
  have call: ∀h5,K0 hh h5→CtX P0 E F K 142 [.agg (jpC ((⟨xk,xs,xq,xp,xi,xl⟩,xes),xev)),.ptr h.n 0] h5
   (fun v h'=> ∃p S' κ',WrP true (D0 Si.D.sz xes++Ax ⟨xk,xs,xq,xp,xi,xl⟩ (D0 Si.D.sz xes)) Si S' (.done p)∧ApR κ' h' I S'∧AChg (ext κi hh.n) h5 κ' h')
   (fun v h'=> ∃(o:WO) (S':Ap) (κ':Nat→Nat),v= .ifc 44 (AI ((eOf o:Nat):Int))∧(o= .full∨o= .pow)∧WrP true (D0 Si.D.sz xes++Ax ⟨xk,xs,xq,xp,xi,xl⟩ (D0 Si.D.sz xes)) Si S' o∧ApR κ' h' I S'∧AChg (ext κi hh.n) h5 κ' h'):=
   fun h5 k5=>Vk (lo:=h.n+1) L X T (ri.k0 k5 fun b hb=>Af hb) (iwi.wi true) (Ah k5 kq) hfit hkk (eli.k0 k5) hpo (by rw [fri.sz];exact hpf) (by omega)
  have okc: ∀(p:Nat) (S':Ap) (κ':Nat→Nat) (h5 h':H),K0 hh h5→WrP true (D0 Si.D.sz xes++Ax ⟨xk,xs,xq,xp,xi,xl⟩ (D0 Si.D.sz xes)) Si S' (.done p)→ApR κ' h' I S'→AChg (ext κi hh.n) h5 κ' h'→
    ApR κ' h' I S'∧AChg (ext κ h.n) (hp h2.n h2.t [(I.s,some (cl (apC I {S with next:=S.next+recN S es})))]) κ' h'∧IW S'∧Fr true {S with next:=S.next+recN S es} S'∧S'.D.n+30*(recN S es - (i+1))+30<100000∧(∀S'' o,RlP S.D.sz ((Hh k S es).drop (i+1)) S' S'' o→RlP S.D.sz (Hh k S es) {S with next:=S.next+recN S es} S'' o):=by
   intro p S' κ' h5 h' k5 hw r' a'
   obtain⟨q1,q2⟩:=hw.iw iwi
   refine⟨r',ai.trans ((AChg.k0 k5 fun b hb=>Af hb).trans a'),q1,fri.trans hw.fr,by omega,fun S'' o ho=>chi _ _ ?_⟩
   rw [hdrop]
   refine .cons (p:=p) ?_ ho
   rw [fri.sz]at hw;exact hw
  have badc: ∀(o:WO) (S':Ap),(o= .full∨o= .pow)→WrP true (D0 Si.D.sz xes++Ax ⟨xk,xs,xq,xp,xi,xl⟩ (D0 Si.D.sz xes)) Si S' o→RcP k es S S' o:=by
   intro o S' ho hw
   refine .bad (chi _ _ ?_) ho
   rw [hdrop]
   refine .bad ?_ ho
   rw [fri.sz]at hw;exact hw
  clear chi
  have hsh:xev= .nils∨ ∃b n c,xev= .slc b 0 n c:=by
   rcases e1.len with⟨_,e⟩|⟨_,b,e,_⟩
   ·exact .inl e
   ·exact .inr ⟨b,_,_,e⟩
  unfold jpC spC at call
  have hdt7:i*7+7≤(l.flatMap jpC).length∧((l.flatMap jpC).drop (i*7)).take 7= [.int .u8 ((xk:Nat):Int),.int .i64 xs,.int .u64 ((xq:Nat):Int),.int .u64 ((xp:Nat):Int),.int .i64 xi,.int .i64 xl,xev]:=hdt
  clear e1 eli hdt
  rcases hsh with rfl|⟨eb,en,ec,rfl⟩
  all_goals
   refine wk ?_
   (apply st1 L rfl;exact Br kpb.rk hdt7 rfl;rfl)
   refine wk ?_
   refine Hg L (c:=call _ (by exact kps)) (g:=?_) (gp:=?_)
   ·rintro _ h5 ⟨p,S',κ',hw,r',a'⟩
    refine wk ?_
    refine ih (S',κ') _ _ (okc p S' κ' _ _ ?_ hw r' a') tsb
    exact kps
   ·rintro _ h5 ⟨o,S',κ',rfl,ho,hw,r',a'⟩
    refine An L X.f95 ?_
    exact Gp _ _ ⟨o,S',κ',rfl,ho,badc o S' ho hw,r',a4.trans (ai.trans ((AChg.k0 (κ':=ext κi hh.n) kps fun b hb=>Af hb).trans a'))⟩
 ·rintro⟨Si,κi⟩ hh ⟨ri,ai,iwi,fri,hbi,chi⟩
  simp only at ri ai iwi fri hbi chi
  have kpb:Bk hh pb (l.flatMap jpC):=As ai.k (by rw [Bs (by omega)];omega) kpb4
  have kq:Bk hh h.n [.ptr I.s 0]:=As ai.k (by rw [Bs (by omega)];omega) kq4
  have ski:=ri.sk
  have lsi:=ski.lt
  have hrl:RlP S.D.sz (Hh k S es) {S with next:=S.next+recN S es} Si (.done 0):=chi _ _ (by rw [List.drop_of_length_le (by omega)];exact .nil)
  have hlast:(l.flatMap jpC)[(recN S es - 1)*7+0+2]?=some (.int .u64 ((S.next+(recN S es - 1):Nat):Int)):=by
   have hx:l[recN S es - 1]?=some l[recN S es - 1]:=List.getElem?_eq_getElem (by omega)
   have h1:(Hh k S es)[recN S es - 1]?=some (Cp k S.D.sz S.next S.last es (recN S es - 1)):=by unfold Hh Kl;rw [List.getElem?_map,List.getElem?_range (by omega)];rfl
   have h2:=congrArg (fun q=>q[recN S es - 1]?) hl
   simp only [List.getElem?_map,hx,Option.map_some]at h2
   have h3:some l[recN S es - 1].1=some (Cp k S.D.sz S.next S.last es (recN S es - 1)):=h2.trans h1
   cases h3e:l[recN S es - 1]with
   |mk a b=>
    rw [h3e]at h3 hx
    simp only [Option.some.injEq]at h3
    subst h3
    rw [Nat.add_zero,Cw l (Rp l) (recN S es - 1) 2 _ hx (by omega)]
    rfl
  unfold apC at ski
  refine wk ?_
  have e9:S.next+(recN S es - 1)=S.next+recN S es - 1:=by omega
  refine ret X.f95 ?_
  have k9:Kp (fun j=>j=I.s) hh (hp hh.n hh.t [(I.s,some (cl (apC I {Si with last:=S.next+(recN S es - 1)})))]):=kps
  have r9:=ri.st (S':= {Si with last:=S.next+(recN S es - 1)}) k9 (by unfold apC;exact lkp) ⟨rfl,rfl,rfl,rfl,rfl,rfl,rfl,rfl⟩
  have a9:=a4.trans (ai.trans (AChg.kp k9 fun b _ e=>by subst e;have:=ri.col;omega))
  have rc:RcP k es S {Si with last:=S.next+recN S es - 1} (.done 0):= .ok hrl
  rw [←e9]at rc
  exact⟨_,κi,rc,r9,a9⟩
end
end
section
variable {P0:Program}{E:Env}{F:T CFn}{K:T (List AV×AV)}(L:Lg P0 E F K)(X:Fx F K)
include L X
omit L X in
theorem RlP.fr {sz:Nat}{l:List JPg}{S S':Ap}{o:WO}(h:RlP sz l S S' o)(iw:IW S):Fr true S S'∧IW S'∧S'.D.n≤S.D.n+(2*S.D.nb+2)*l.length:=by
 induction h with
 |nil=>exact⟨Fr.refl _ _,iw,by simp⟩
 | @cons x r S S1 S' p o h _ ih=>
  obtain⟨a,b⟩:=h.iw iw
  obtain⟨c,d,e⟩:=ih a
  have f:=h.fr
  have m:=Lv S true
  refine⟨f.trans c,d,?_⟩
  rw [f.nb]at e
  rw [List.length_cons,Nat.mul_add]
  omega
 | @bad x r S S1 o h _=>
  obtain⟨a,b⟩:=h.iw iw
  have m:=Lv S true
  refine⟨h.fr,a,?_⟩
  rw [List.length_cons,Nat.mul_add]
  omega
structure FrR (S S':Ap):Prop where
 nb:S'.D.nb=S.D.nb
 P:S'.D.P=S.D.P
 sz:S'.D.sz=S.D.sz
 en:S'.D.en=S.D.en
 secs:S'.S=S.S
 A:S'.A=S.A
 pe:S'.pe=S.pe
 wr:S'.wr=S.wr
 dat:S'.dat=S.dat
 flt:S'.D.flt=S.D.flt
omit L X in
theorem RcP.fr {k:Nat}{es:List Ent}{S S':Ap}{o:WO}(h:RcP k es S S' o)(iw:IW S):FrR S S'∧IW S'∧S'.D.n≤S.D.n+(2*S.D.nb+2)*recN S es∧S'.next=S.next+recN S es:=by
 have iw4:IW {S with next:=S.next+recN S es}:=⟨fun k=>⟨(iw.wi k).sel,(iw.wi k).lo⟩,iw.ne⟩
 have hL:(Hh k S es).length=recN S es:=by unfold Hh Kl;rw [List.length_map,List.length_range]
 cases h with
 |ok h=>
  obtain⟨a,b,c⟩:=h.fr iw4
  rw [hL]at c
  exact⟨⟨a.nb,a.P,a.sz,a.en,a.secs,a.A,a.pe,a.wr,a.o,a.flt⟩,⟨fun k=>⟨(b.wi k).sel,(b.wi k).lo⟩,b.ne⟩,c,a.next⟩
 |bad h _=>
  obtain⟨a,b,c⟩:=h.fr iw4
  rw [hL]at c
  exact⟨⟨a.nb,a.P,a.sz,a.en,a.secs,a.A,a.pe,a.wr,a.o,a.flt⟩,b,c,a.next⟩
inductive CmP (es:List Ent):Ap→Ap→WO→Prop where
 |nil {S:Ap} (h:es= []):CmP es S S (.done 0)
 |ok {S S1:Ap} (h:RcP 2 es S S1 (.done 0)) (hn:es≠[]):CmP es S {S1 with A:=stA S1.A es es.length} (.done 0)
 |bad {S S1:Ap} {o:WO} (h:RcP 2 es S S1 o) (ho:o= .full∨o= .pow):CmP es S S1 o
section
variable {h:H}{κ: Nat→Nat}{I:Ai}{S:Ap}
theorem Qo {lo:Nat}{ev:AV}{es:List Ent}(T:Tb P0 E F K)(r:ApR κ h I S)(iw:IW S)(he:EL h lo ev es)(hlo:I.r1<lo∧I.r2<lo∧I.vb<lo∧I.m<lo)(hc: ∀b n c,ev= .slc b 0 n c→κ b=0∨200≤κ b)(hok: ∀e∈es,e.Ok)(hlen:es.length≤150)(hA: ∀j x,es[j]?=some x→okE S.S (S.D.nb*S.D.P) (stA S.A es j) x)
  (hf:S.last<S.next∧S.next<100000000) (hn:S.D.n+30*recN S es+60<100000):
  CtX P0 E F K 53 [.ptr I.s 0,ev] h
   (fun v h'=> ∃S' κ',CmP es S S' (.done 0)∧ApR κ' h' I S'∧AChg κ h κ' h')
   (fun v h'=> ∃(o:WO) (S':Ap) (κ':Nat→Nat),v= .ifc 44 (AI ((eOf o:Nat):Int))∧(o= .full∨o= .pow)∧CmP es S S' o∧ApR κ' h' I S'∧AChg κ h κ' h'):=by
 have he0:=he.mono (Nat.zero_le lo)
 rcases he.len with⟨e0,rfl⟩|⟨hpos,b,rfl,hb,hblo⟩
 ·refine Bu L X.f53 X.k53 rfl rfl rfl fun Q x cs G Gp=>?_
  refine wk ?_
  refine ret X.f53 ?_
  exact⟨S,κ,.nil e0,r.k0 kps fun _ _=>rfl,AChg.k0 kps fun _ _=>rfl⟩
 ·have hc0:=hc _ _ _ rfl
  have lb:=hb.lt
  refine Bu L X.f53 X.k53 rfl rfl rfl fun Q x cs G Gp=>?_
  refine wk ?_
  refine Hg L (c:=Jo (k:=2) L X T r iw (.inl rfl) he0 hok (by omega) hf hn) (g:=?_) (gp:=?_)
  ·rintro _ h2 ⟨S1,κ1,hr,r1,a1⟩
   obtain⟨fr,iw1,-,-⟩:=hr.fr iw
   have sk1:=r1.sk
   have ls1:=sk1.lt
   have hb1:Bk h2 b (es.flatMap Ay):=As a1.k (by omega) hb
   have he1:EL h2 lo (.slc b 0 es.length (Aa+2)) es:=⟨.inr ⟨List.length_pos_iff.1 hpos,b,rfl,hb1,hblo⟩⟩
   have mp:=r1.mp
   unfold apC at sk1
   have hA1: ∀j x,es[j]?=some x→okE S1.S (S1.D.nb*S1.D.P) (stA S1.A es j) x:=by rw [fr.secs,fr.nb,fr.P,fr.A];exact hA
   refine wk ?_
   refine cal (c:=Qk L X mp he1 hlen hlo hA1) (g:=?_)
   rintro _ h3 ⟨rfl,k3,mp3⟩
   have r3:=r1.map k3 mp3
   refine wk ?_
   refine cal (c:=Ao L X) (g:=?_)
   rintro _ rfl
   refine wk ?_
   refine ret X.f53 ?_
   exact⟨_,κ1,.ok hr (List.length_pos_iff.1 hpos),r3,a1.trans (AChg.kp k3 fun b _ e=>by have:=r1.col;rcases e with e|e|e <;> subst e <;> omega)⟩
  ·rintro _ h2 ⟨o,S1,κ1,rfl,ho,hr,r1,a1⟩
   refine An L X.f53 ?_
   exact Gp _ _ ⟨o,S1,κ1,rfl,ho,.bad hr ho,r1,a1⟩
end
end
section
variable {P0:Program}{E:Env}{F:T CFn}{K:T (List AV×AV)}(L:Lg P0 E F K)(X:Fx F K)
include L X
abbrev GW:=Int×Option (Nat×Nat×Nat)
def gwV (sz:Nat):Option (Nat×Nat×Nat)→AV
 |none=> .nils
 |some q=> .slc q.1 q.2.1 sz q.2.2
def gwC (sz:Nat)(x:GW):List AV:= [AI x.1,gwV sz x.2]
omit L X in
theorem I1 {sz:Nat}(l:List GW): ∀x∈l,(gwC sz x).length=2:=fun _ _=>rfl
def De (S:Nat)(down:Bool)(l:List Int):Nat:=if l= []∨ ¬l.Nodup then 2 else if∃s∈l,s<0∨(S:Int)≤s then 3 else if down=true then 50 else 0
omit L X in
theorem Jp {l:List Int}{a:Int}(h:l.Nodup)(ha:a∉l):(l++ [a]).Nodup:=by
 rw [List.nodup_append]
 exact⟨h,by simp,fun x hx y hy=>by rw [List.mem_singleton.1 hy];exact fun e=>ha (e ▸ hx)⟩
structure DkR (h:H)(U:Nat→Prop)(v:AV)(sz:Nat)(L:List (List Nat)):Prop where
 ex:(L= []∧v= .nils)∨(0<L.length∧ ∃(lb:Nat) (rows:List Nat),v= .slc lb 0 L.length (Aa+1)∧Bk h lb (rows.map fun b=>AV.slc b 0 sz sz)∧U lb∧rows.length=L.length∧ ∀(i b:Nat) (d:List Nat),rows[i]?=some b→L[i]?=some d→BS h b 0 d∧d.length=sz∧U b∧b≠lb)
omit L X in
theorem DkR.kp {h h':H}{U:Nat→Prop}{sz:Nat}{v:AV}{L:List (List Nat)}{B:Nat→Prop}(q:DkR h U v sz L)(k:Kp B h h')(hb: ∀b,B b→b<h.n→ ¬U b):DkR h' U v sz L:=by
 rcases q.ex with h1|⟨h1,lb,rows,h2,h3,h4,h5,h6⟩
 ·exact⟨.inl h1⟩
 ·refine⟨.inr ⟨h1,lb,rows,h2,As k (fun e=>hb _ e h3.lt h4) h3,h4,h5,fun i b d e1 e2=>?_⟩⟩
  obtain⟨g1,g2,g3⟩:=h6 i b d e1 e2
  exact⟨Rj k (fun e=>hb _ e g1.lt_n g3.1) g1,g2,g3⟩
omit L X in
theorem DkR.k0 {h h':H}{U:Nat→Prop}{sz:Nat}{v:AV}{L:List (List Nat)}(q:DkR h U v sz L)(k:K0 h h'):DkR h' U v sz L:=q.kp k fun _ e=>e.elim
omit L X in
theorem DkR.mono {h:H}{U U':Nat→Prop}{sz:Nat}{v:AV}{L:List (List Nat)}(q:DkR h U v sz L)(k: ∀b,b<h.n→U b→U' b):DkR h U' v sz L:=by
 rcases q.ex with h1|⟨h1,lb,rows,h2,h3,h4,h5,h6⟩
 ·exact⟨.inl h1⟩
 ·exact⟨.inr ⟨h1,lb,rows,h2,h3,k lb h3.lt h4,h5,fun i b d e1 e2=>let⟨g1,g2,g3,g4⟩:=h6 i b d e1 e2;⟨g1,g2,k b g1.lt_n g3,g4⟩⟩⟩
omit L X in
theorem DkR.app {h:H}{U:Nat→Prop}{sz N b n:Nat}{rows:List Nat}{L:List (List Nat)}{d:List Nat}(hb:Bk h N (rows.map (fun b=>AV.slc b 0 sz sz)++ [AV.slc b 0 sz sz]))(hN:U N)(hl:rows.length=L.length)(hn:L.length=n)(hr: ∀(i b:Nat) (d:List Nat),rows[i]?=some b→L[i]?=some d→BS h b 0 d∧d.length=sz∧U b∧b≠N)(hd:BS h b 0 d)(hdl:d.length=sz)(hlb:U b∧b≠N):
  DkR h U (.slc N 0 (n+1) (Aa+1)) sz (L++ [d]):=by
 refine⟨.inr ⟨by simp,N,rows++ [b],by simp [hn],by rw [List.map_append];exact hb,hN,by simp [hl],fun i b' d' e1 e2=>?_⟩⟩
 by_cases hi:i<rows.length
 ·rw [List.getElem?_append_left hi]at e1
  rw [List.getElem?_append_left (by omega)]at e2
  exact hr i b' d' e1 e2
 ·rw [List.getElem?_append_right (by omega)]at e1 e2
  have:i - rows.length=0:=by
   have:=(List.getElem?_eq_some_iff.1 e1).1
   simp at this;omega
  rw [←hl]at e2
  rw [this]at e1 e2
  simp at e1 e2
  subst e1;subst e2
  exact⟨hd,hdl,hlb⟩
omit L X in
theorem I2 {rows:List Nat}{sz:Nat}:(rows.map fun b=>AV.slc b 0 sz sz).length=rows.length:=List.length_map _
omit L X in
theorem DkR.plain {h:H}{U:Nat→Prop}{sz:Nat}{v:AV}{L:List (List Nat)}(q:DkR h U v sz L){z:Int}:Ar [AI z,v]=true:=by
 rcases q.ex with⟨_,rfl⟩|⟨_,lb,rows,rfl,_⟩ <;> rfl
section
variable {h:H}
theorem pq {sz S:Nat}(hsz:1≤sz∧sz≤30)(hS:1≤S∧S≤10):Ct P0 E F K 36 [AI ((sz:Nat):Int),AI ((S:Nat):Int)] h fun v h'=> ∃dv,v= .agg [AI ((sz:Nat):Int),dv]∧DkR h' (fun b=>h.n≤b) dv sz (List.replicate S (List.replicate sz 0))∧K0 h h':=by
 refine Ae L X.f36 X.k36 rfl rfl fun Q x cs G=>?_
 refine wk ?_
 refine Co L (α:= AV) (T:=fun i _=> [(6,some (AI ((i:Nat):Int))),(5,some (.ptr (h.n+1) 0)),(4,some (.ptr h.n 0)),(1,some (AI ((S:Nat):Int))),(0,some (AI ((sz:Nat):Int)))]) (n:=S)
  (R:=fun i dv h2=>Bk h2 (h.n+1) [AI ((sz:Nat):Int),dv]∧Bk h2 h.n [AI ((0:Nat):Int),.nils]∧DkR h2 (fun b=>h.n+2≤b) dv sz (List.replicate i (List.replicate sz 0))∧K0 h h2) (i0:=0) .nils tsb ⟨lkp,lkp,⟨.inl ⟨rfl,rfl⟩⟩,kps⟩ (Nat.zero_le _) ?_ ?_
 ·rintro i dv h2 hi ⟨q1,q2,q3,q4⟩ ih
  have l1:=q1.lt
  have l2:=q2.lt
  have n4:=q4.n
  rcases q3.ex with⟨e0,rfl⟩|⟨h1,lb,rows,rfl,h3,h4,h5,h6⟩
  ·have:i=0:=by simpa using e0
   subst this
   refine wk ?_
   (apply H6 L rfl rfl;exact Ft (new:= [.slc h2.n 0 sz sz]) rfl rfl (SlR.of (c:= [.slc h2.n 0 sz sz]) lkp (Nat.le_refl _) rfl) (by omega) (by omega))
   refine wk ?_
   refine ih _ _ _ ⟨lkp,lkp,DkR.app (rows:= []) (L:= []) (n:=0) (b:=h2.n) (d:=List.replicate sz 0) lkp (by omega) rfl rfl (fun i b d e=>by simp at e) (Ke ?_ (AllB.rep (by omega))) (by simp) ⟨by omega,by omega⟩,kps⟩ tsb
   rw [←D9]
   exact lkp
  ·have hrl:(List.replicate i (List.replicate sz 0)).length=i:=List.length_replicate
   rw [hrl]at h1 h5 q1
   have l3:=h3.lt
   refine wk ?_
   (apply H6 L rfl rfl;exact Fi (old:=rows.map fun b=>AV.slc b 0 sz sz) (new:= [.slc h2.n 0 sz sz]) rfl rfl (SlR.of (c:=rows.map fun b=>AV.slc b 0 sz sz) lkp (by rw [I2];omega) (by rw [List.drop_zero,List.take_of_length_le (by rw [I2];omega)])) (SlR.of (c:= [.slc h2.n 0 sz sz]) lkp (Nat.le_refl _) rfl) (by omega) (by omega) rfl)
   refine wk ?_
   have kk:Kp (fun j=>j=lb∨j=h.n+1) h2 (hp (h2.n+1+1+1) h2.t [(h.n+1,some (cl [AI ((sz:Nat):Int),.slc (h2.n+1+1) 0 (i+1) (Aa+1)])),(h2.n+1+1,some (cl (rows.map (fun b=>AV.slc b 0 sz sz)++ [.slc h2.n 0 sz sz]))),(lb,none),(h2.n+1,some (cl [.slc h2.n 0 sz sz])),(h2.n,some (cl (rl [.int .u8 ((0:Nat):Int)] sz)))]):=kps
   refine ih _ _ _ ⟨lkp,lkp,?_,kps⟩ tsb
   rw [List.replicate_succ']
   refine DkR.app (rows:=rows) (n:=i) (b:=h2.n) (d:=List.replicate sz 0) lkp (by omega) (by rw [h5,hrl]) hrl (fun j b d e1 e2=>?_) (Ke ?_ (AllB.rep (by omega))) (by simp) ⟨by omega,by omega⟩
   ·obtain⟨g1,g2,g3,g4⟩:=h6 j b d e1 (by rw [List.getElem?_replicate]at e2 ⊢;exact e2)
    have:=g1.lt_n
    exact⟨Rj kk (by omega) g1,g2,g3,by omega⟩
   ·rw [←D9]
    exact lkp
 ·rintro dv h2 ⟨q1,q2,q3,q4⟩
  have l1:=q1.lt
  have l2:=q2.lt
  have n4:=q4.n
  have hp9:=q3.plain (z:=((sz:Nat):Int))
  refine wk ?_
  (apply stS L rfl rfl rfl rfl rfl hp9;exact lkp;rfl;rfl)
  refine wk ?_
  refine ret X.f36 ?_
  refine⟨dv,rfl,(q3.kp (B:=fun j=>j=h.n) kps (fun b e _=>by omega)).mono fun b _ e=>by omega,kps⟩
end
end
end Go.Ev
