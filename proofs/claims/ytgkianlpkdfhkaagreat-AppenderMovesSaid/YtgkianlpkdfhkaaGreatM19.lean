/- Part of the proof. -/
import Derived.Test.YtgkianlpkdfhkaaGreatM18
import Derived.Test.YtgkianlpkdfhkaaGreatM13
set_option linter.unusedVariables false
set_option linter.unusedSectionVars false
set_option linter.unusedSimpArgs false
set_option maxRecDepth 10000
set_option maxHeartbeats 4000000
namespace Go.Ev
section
variable {P0:Program}{E:Env}{F:T CFn}{K:T (List AV×AV)}(L:Lg P0 E F K)(X:Fx F K)
include L X
theorem je {h:H}:Ct P0 E F K 165 [.nils,AI ((0:Nat):Int)] h fun v h'=>v= .nils∧K0 h h':=by
 refine Ae L X.f165 X.k165 rfl rfl fun Q x cs G=>?_
 refine wk ?_
 refine ret X.f165 ?_
 exact⟨rfl,kps⟩
theorem Vr {h:H}{pb:Nat}(hp1:Bk h pb [.nils,.nils]):Ct P0 E F K 134 [.slc pb 0 2 2] h fun v h'=>v= .nils∧K0 h h':=by
 have l1:=hp1.lt
 refine Am L X.f134 X.k134 rfl rfl fun Q x cs G=>?_
 refine wk ?_
 refine A9 L ?_
 refine wk ?_
 refine C6 L ?_
 refine wk ?_
 refine C6 L ?_
 refine wk ?_
 refine cal (c:=je L X) (g:=?_)
 rintro _ h3 ⟨rfl,hk⟩
 refine wk ?_
 refine A9 L ?_
 refine wk ?_
 refine C6 L ?_
 refine wk ?_
 refine C6 L ?_
 refine wk ?_
 refine ret X.f134 ?_
 exact⟨rfl,kps⟩
def Vs:List AV:= [.nils,.int .u64 ((0:Nat):Int),.int .u64 ((1:Nat):Int),.nils,.nils]
noncomputable def Zh (bx a mk:Nat)(st:LS):Blk:= .loop ⟨st,none,87,cf87.ntmps,tms [(20,some (.fn (.func 162) [] [.ptr a 0])),(5,some (.ptr (bx+3) 0)),(4,some (.ptr (bx+2) 0)),(3,some (.ptr (bx+1) 0)),(2,some (.ptr bx 0))],[21,22],c87_3,c87_5,mk⟩
structure RSt (h hh:H)(s a b mk nb:Nat)(er:Nat→Nat)(i:Nat):Prop where
 k:K0 h hh
 dk:Gk hh mk (.dfr (some []))
 lp:Gk hh (mk+1) (Zh h.n a mk .ready)
 ka:Bk hh a [.slc b 0 nb (Aa+1)]
 kb:Bk hh b (Hq er nb)
 k2:Bk hh h.n [.ptr s 0]
 k3:Bk hh (h.n+1) Vs
 k4:Bk hh (h.n+2) [.bool false]
 ex: ∃w,Bk hh (h.n+3) [w]∧((i=0∧w= .nils)∨(0<i∧ ∃x,w= .slc x 0 i (Aa+1)∧Bk hh x (Hq er i)∧mk+2≤x))
noncomputable def jf (bx a b mk:Nat)(st:LS):Blk:= .loop ⟨st,none,87,cf87.ntmps,tms [(109,some (.fn (.func 101) [] [.ptr a 0,.ptr b 0])),(4,some (.ptr (bx+2) 0)),(2,some (.ptr bx 0))],[110,111],c87_60,c87_66,mk⟩
def stC (p d:Nat)(nb P sz en m nx la rj rs rw:Nat):List AV:= [.ptr p 0,.ptr d 0,AI ((nb:Nat):Int),AI ((P:Nat):Int),AI ((sz:Nat):Int),AI ((en:Nat):Int),.ptr m 0,.int .u64 ((nx:Nat):Int),.int .u64 ((la:Nat):Int),AI (-1),AI (-1),.map rj,.map rs,.map rw,.bool false]
def stN (d:Nat)(nb P sz en m nx la rj rs rw:Nat):List AV:= [.nilp,.ptr d 0,AI ((nb:Nat):Int),AI ((P:Nat):Int),AI ((sz:Nat):Int),AI ((en:Nat):Int),.ptr m 0,.int .u64 ((nx:Nat):Int),.int .u64 ((la:Nat):Int),AI (-1),AI (-1),.map rj,.map rs,.map rw,.bool false]
structure RS2 (h hh:H)(s a b lb mk mk1 p pb nb:Nat)(er:Nat→Nat)(sc cb:List AV)(i:Nat):Prop where
 k:Kp (fun j=>j=s) h hh
 dk:Gk hh mk (.dfr (some []))
 d1:Gk hh mk1 (.dfr (some []))
 lp:Gk hh (mk+1) (jf h.n a b mk .ready)
 ka:Bk hh a [.slc lb 0 nb (Aa+2)]
 kb:Bk hh b [eI ((1:Nat):Int)]
 kl:Bk hh lb cb
 k2:Bk hh h.n [.ptr s 0]
 k4:Bk hh (h.n+2) [.bool false]
 ks:Bk hh s sc
 po:PoC hh p pb nb (fun _=>1) er cb
section
variable {h:H}
theorem jg {κ: Nat→Nat}{s d fm bb m rj rs rw nx la:Nat}{D:Dv}{cb:List AV}(q:DevC κ h d D fm bb cb)(hnb:2≤D.nb∧D.nb≤12)(hnx: ∀i,i<D.nb→(D.bl i).nx=0)(her: ∀i,i<D.nb→(D.bl i).er≤100000)
  (ks:Bk h s (stN d D.nb D.P D.sz D.en m nx la rj rs rw)) (hne:d≠s∧bb≠s∧fm≠s):
  Ct P0 E F K 87 [.ptr s 0,.agg Vs] h fun v h'=>v= .bool true∧ ∃p pb cb',PoC h' p pb D.nb (fun _=>1) (fun i=>(D.bl i).er) cb'∧Bk h' s (stC p d D.nb D.P D.sz D.en m nx la rj rs rw)∧h.n≤p∧h.n≤pb∧Kp (fun j=>j=s) h h':=by
 have ls:=ks.lt
 unfold Vs
 unfold stN at ks
 refine Ae L X.f87 X.k87 rfl rfl fun Q x cs G=>?_
 refine wk ?_
 refine cal (c:=o9 L X (q.kb (Kp.mono (S:=fun _=>False) (fun _ f=>f.elim) (by exact kps))) (by omega)) (g:=?_)
 rintro _ h2 ⟨a,b,rfl,w1,w2,w3,w4,w5⟩
 have n5:=w5.n
 simp only [Al]at n5 w3 w4
 have la1:=w1.lt
 have lb1:=w2.lt
 refine wk ?_
 refine En L (tm':=tms [(20,some (.fn (.func 162) [] [.ptr a 0])),(5,some (.ptr (h.n+3) 0)),(4,some (.ptr (h.n+2) 0)),(3,some (.ptr (h.n+1) 0)),(2,some (.ptr h.n 0))]) tsb ?_
 refine Hd L (post:=fun _ h'=>RSt h h' s a b h2.n D.nb (fun i=>(D.bl i).er) D.nb) rfl rfl rfl ?_ ?_
 ·refine Ct.A ((ik L X (f:=fun i=>(D.bl i).er) hnb.2 (fun i hh=>RSt h hh s a b h2.n D.nb (fun i=>(D.bl i).er) i) (fun i hh r=>⟨r.ka,r.kb⟩) (fun i hh h' r k=>?_) (fun i hh hi r=>?_) ⟨kps,lkg,(by unfold Zh;exact lkg),lkp,lkp,lkp,(by unfold Vs;exact lkp),lkp,.nils,lkp,.inl ⟨rfl,rfl⟩⟩).mono fun v h' p=>p)
  ·exact⟨Kp.tr0 k r.k,Es k r.dk,Es k r.lp,Ah k r.ka,Ah k r.kb,Ah k r.k2,Ah k r.k3,Ah k r.k4,by
    obtain⟨w,e1,e2⟩:=r.ex
    refine⟨w,Ah k e1,?_⟩
    rcases e2 with e2|⟨e2,x,e3,e4,e5⟩
    ·exact .inl e2
    ·exact .inr ⟨e2,x,e3,Ah k e4,e5⟩⟩
  ·obtain⟨r1,r2,r3,r4,r5,r6,r7,r8,w,r9,r10⟩:=r
   have hle:=r3.e
   unfold Zh at hle
   have g1:=r2.lt
   have g2:=r3.lt
   have g3:=r4.lt
   have g4:=r5.lt
   have g6:=r6.lt
   have g7:=r7.lt
   have g8:=r8.lt
   have g9:=r9.lt
   refine Fl L (l1:= [(22,some (AI (((D.bl i).er:Nat):Int))),(21,some (AI ((i:Nat):Int))),(20,some (.fn (.func 162) [] [.ptr a 0])),(5,some (.ptr (h.n+3) 0)),(4,some (.ptr (h.n+2) 0)),(3,some (.ptr (h.n+1) 0)),(2,some (.ptr h.n 0))]) hle rfl ?_
   intro Q z2 cs G2
   refine wk ?_
   refine Ej L (Gk.e lkg) ?_
   rcases r10 with⟨rfl,rfl⟩|⟨r10,x,rfl,r11,r12⟩
   ·refine wk ?_
    (apply st1 L rfl;exact Ft (new:= [AI (((D.bl 0).er:Nat):Int)]) rfl rfl (SlR.of (c:= [AI (((D.bl 0).er:Nat):Int)]) lkp (Nat.le_refl _) rfl) (by omega) (by omega);rfl)
    refine wk ?_
    refine C8 L (Gk.e lkg) G2 ⟨rfl,?_⟩
    refine⟨kps,lkg,(by unfold Zh;exact Dw (by omega)),lkp,lkp,lkp,lkp,lkp,_,lkp,.inr ⟨by omega,_,rfl,?_,by omega⟩⟩
    rw [Lo];exact lkp
   ·have lx:=r11.lt
    refine wk ?_
    (apply st1 L rfl;exact Fi (old:=Hq (fun i=>(D.bl i).er) i) (new:= [AI (((D.bl i).er:Nat):Int)]) rfl rfl (SlR.of (c:=Hq (fun i=>(D.bl i).er) i) lkp (by rw [Ki];omega) (by rw [List.drop_zero,List.take_of_length_le (by rw [Ki];omega)])) (SlR.of (c:= [AI (((D.bl i).er:Nat):Int)]) lkp (Nat.le_refl _) rfl) (by omega) (by omega) rfl;rfl)
    refine wk ?_
    refine C8 L (Gk.e lkg) G2 ⟨rfl,?_⟩
    refine⟨kps,lkg,(by unfold Zh;exact Dw (by omega)),lkp,lkp,lkp,lkp,lkp,_,lkp,.inr ⟨by omega,_,rfl,?_,by omega⟩⟩
    rw [Lo];exact lkp
 ·rintro v h3 ⟨r1,r2,r3,r4,r5,r6,r7,r8,w,r9,r10⟩
  have hle:=r3.e
  unfold Zh at hle
  unfold Vs at r7
  have g2:=r2.lt
  have g3:=r3.lt
  have g6:=r6.lt
  have g7:=r7.lt
  have g8:=r8.lt
  have g9:=r9.lt
  rcases r10 with⟨e0,-⟩|⟨r10,x,rfl,r11,r12⟩
  ·omega
  have lx:=r11.lt
  have ks3:=Ah r1 ks
  have ls3:=ks3.lt
  refine F3 L (n:=h3.n) (t:=h3.t) (lh:= []) hle (by intro q;cases q) ?_
  refine wk ?_
  refine cal (c:=pc L X (eb:=x) (nb:=D.nb) (pe:=fun i=>(D.bl i).er) (by exact lkp) ⟨by omega,hnb.2⟩ her) (g:=?_)
  rintro _ h4 ⟨p,pb,cb',rfl,po,w6,w7,w8⟩
  have n8:=w8.n
  simp only [Al]at n8 w6 w7
  have lpo:=po.pk.lt
  have lpb:=po.bk.lt
  have dk4:Gk h4 h2.n (.dfr (some [])):=Es w8 (by exact lkg)
  have kd4:Kp (fun j=>j=s) h h4:=kps
  clear r3 hle w1 w2 w5 r4 r5 r11
  refine wk ?_
  refine cal (c:=Vr L X (by exact lkp)) (g:=?_)
  rintro _ h5 ⟨rfl,w9⟩
  have n9:=w9.n
  simp only [Al]at n9
  have k45:Kp (fun j=>j=s) h4 h5:=kps
  have po5:=po.kp k45 (by omega) (by omega)
  have ks5:Bk h5 s (stC p d D.nb D.P D.sz D.en m nx la rj rs rw):=by unfold stC;exact lkp
  have kd5:Kp (fun j=>j=s) h h5:=kps
  have dk5:Gk h5 h2.n (.dfr (some [])):=H7 k45 (by omega) dk4
  have q2:Bk h5 h.n [.ptr s 0]:=lkp
  have q3:Bk h5 (h.n+1) [.nils,.int .u64 ((0:Nat):Int),.int .u64 ((1:Nat):Int),.nils,.nils]:=lkp
  have q4:Bk h5 (h.n+2) [.bool false]:=lkp
  clear w9 k45 dk4 kd4 w8 po ks3 r2 r6 r7 r8 r9
  refine wk ?_
  refine A9 L ?_
  refine wk ?_
  refine A9 L ?_
  refine wk ?_
  refine cal (c:=Jn L X (s:=1) (po5.k0 (by exact kps))) (g:=?_)
  rintro _ h6 ⟨a2,b2,lb2,rfl,v1,v2,v3,v4,v5,v6,v7⟩
  have n7:=v7.n
  simp only [Al]at n7 v4 v5 v6
  have dk6:Gk h6 h2.n (.dfr (some [])):=Es (by exact kps) dk5
  have kd6:Kp (fun j=>j=s) h h6:=kps
  have po6:PoC h6 p pb D.nb (fun _=>1) (fun i=>(D.bl i).er) cb':=po5.k0 (by exact kps)
  have e6:Bk h6 s (stC p d D.nb D.P D.sz D.en m nx la rj rs rw):=lkp
  have e2:Bk h6 h.n [.ptr s 0]:=lkp
  have e4:Bk h6 (h.n+2) [.bool false]:=lkp
  have f1:=v1.lt
  have f2:=v2.lt
  have f3:=v3.lt
  have f4:=e2.lt
  have f5:=e4.lt
  have f6:=dk6.lt
  clear q2 q3 q4 ks5 po5 dk5 v7
  refine wk ?_
  refine En L (tm':=tms [(109,some (.fn (.func 101) [] [.ptr a2 0,.ptr b2 0])),(4,some (.ptr (h.n+2) 0)),(2,some (.ptr h.n 0))]) tsb ?_
  refine Hd L (post:=fun _ h'=>RS2 h h' s a2 b2 lb2 h6.n h2.n p pb D.nb (fun i=>(D.bl i).er) (stC p d D.nb D.P D.sz D.en m nx la rj rs rw) cb' D.nb) rfl rfl rfl ?_ ?_
  ·refine Ct.A ((Ig L X (ps:=fun _=>1) (pe:=fun i=>(D.bl i).er) (cb:=cb') po6.len hnb.2 po6.c0 po6.c1 (fun i hh=>RS2 h hh s a2 b2 lb2 h6.n h2.n p pb D.nb (fun i=>(D.bl i).er) (stC p d D.nb D.P D.sz D.en m nx la rj rs rw) cb' i) (fun i hh r=>⟨r.ka,r.kb,r.kl⟩) (fun i hh h' r k=>?_) (fun i hh hi e r=>?_) (fun i hh hi e r=>absurd rfl e) ⟨kps,lkg,lkg,(by unfold jf;exact lkg),lkp,lkp,lkp,lkp,lkp,lkp,po6.k0 (by exact kps)⟩).mono fun v h' p=>p)
   ·exact⟨Kp.tr0 k r.k,Es k r.dk,Es k r.d1,Es k r.lp,Ah k r.ka,Ah k r.kb,Ah k r.kl,Ah k r.k2,Ah k r.k4,Ah k r.ks,r.po.k0 k⟩
   ·obtain⟨r1,r2,r3,r4,r5,r6,r7,r8,r9,r10,r11⟩:=r
    have hle:=r4.e
    unfold jf at hle
    have g1:=r2.lt
    have g2:=r3.lt
    have g3:=r4.lt
    have g4:=r5.lt
    have g5:=r6.lt
    have g7:=r7.lt
    have g8:=r8.lt
    have g9:=r9.lt
    have g10:=r10.lt
    have g11:=r11.pk.lt
    have g12:=r11.bk.lt
    have hd:Bk hh d (dvC D fm bb):=As r1 (by omega) q.dk
    have hbb:Bk hh bb cb:=As r1 (by omega) q.bk
    have hdl:=hd.lt
    have hbl:=hbb.lt
    have hdo:=q.dk.lt
    have hbo:=q.bk.lt
    obtain⟨pn,c,hrow⟩:=q.rows i hi
    have hc1:=hrow.c1
    rw [hnx i hi]at hc1
    unfold stC at r10
    refine Fl L (l1:= [(111,some (eI (((D.bl i).er:Nat):Int))),(110,some (eI ((i:Nat):Int))),(109,some (.fn (.func 101) [] [.ptr a2 0,.ptr b2 0])),(4,some (.ptr (h.n+2) 0)),(2,some (.ptr h.n 0))]) hle rfl ?_
    intro Q z2 cs G2
    refine wk ?_
    refine Ej L (Gk.e lkg) ?_
    refine wk ?_
    refine cal (c:=Iw L X (D:=D) (fm:=fm) (bb:=bb) (cb:=cb) (i:=i) (nx:=0) (by exact lkp) (by exact lkp) hi hc1) (g:=?_)
    rintro _ rfl
    refine wk ?_
    refine C8 L (Gk.e lkg) G2 ⟨rfl,?_⟩
    refine⟨kps,lkg,lkg,(by unfold jf;exact Dw (by omega)),lkp,lkp,lkp,lkp,lkp,(by unfold stC;exact lkp),r11.kp (S:=fun j=>j=h6.n+1) kps (by omega) (by omega)⟩
  ·rintro v h7 ⟨r1,r2,r3,r4,r5,r6,r7,r8,r9,r10,r11⟩
   have hle:=r4.e
   unfold jf at hle
   have g1:=r2.lt
   have g2:=r3.lt
   have g3:=r4.lt
   have g9:=r9.lt
   have g10:=r10.lt
   have g11:=r11.pk.lt
   have g12:=r11.bk.lt
   refine F3 L (n:=h7.n) (t:=h7.t) (lh:= []) hle (by intro q;cases q) ?_
   refine wk ?_
   refine Fj L (todo:= []) ?_
   refine Fm L (by intro q;cases q) (Gk.e lkg) ?_
   refine Fm L (by intro q;cases q) (Gk.e lkg) ?_
   refine Fk L X.f87 (F1 (b:=h.n+2) rfl (Bk.e lkp) rfl Ml) G ⟨rfl,p,pb,cb',r11.kp (S:=fun j=>j=h6.n+1∨j=h.n+2∨j=h6.n∨j=h2.n) ?_ (by omega) (by omega),lkp,by omega,by omega,kps⟩
   exact kps
end
end
section
variable {P0:Program}{E:Env}{F:T CFn}{K:T (List AV×AV)}(L:Lg P0 E F K)(X:Fx F K)
include L X
section
variable {h:H}
theorem pu {S nb P:Nat}(hS:1≤S∧S≤1000)(hn:2≤nb∧nb≤12)(hP:2≤P∧P≤6):Ct P0 E F K 21 [AI ((S:Nat):Int),AI ((nb:Nat):Int),AI ((P:Nat):Int)] h fun v h'=> ∃m r1 r2 vb,v= .tup [.ptr m 0,AI ((0:Nat):Int)]∧MpR S nb P h' m r1 r2 vb (fun _=>none)∧K0 h h'∧h.n≤m∧h.n≤r1∧h.n≤r2∧h.n≤vb:=by
 refine B3 L X.f21 X.k21 rfl rfl fun Q x cs G=>?_
 refine wk ?_
 refine ret X.f21 ?_
 refine⟨h.n+1+1+1,h.n,h.n+1,h.n+1+1,rfl,⟨lkp,by omega,fun s p e=>(by cases e),by omega,[],[],0,0,List.replicate nb (AI 0),lkq,MOk.nil,lkq,MOk.nil,?_,by simp,?_,⟨fun _=>rfl,fun s p e=>(by cases e),fun p u e=>(by cases e)⟩⟩,kps,by omega,by omega,by omega,by omega⟩
 ·have e: ∀n,rl [AI ((0:Nat):Int)] n=List.replicate n (AI 0):=by
   intro n
   induction n with
   |zero=>rfl
   |succ k ih=>show AI 0::rl [AI 0] k=_;rw [List.replicate_succ];exact congrArg _ ih
  rw [←e]
  exact lkp
 ·intro i hi
  have e0:valA (fun _=>none) P i=0:=by
   have: ∀n,Kg (fun j=>Hp (fun _=>none) ((i*P+j:Nat):Int)) n=0:=by
    intro n
    induction n with
    |zero=>rfl
    |succ n ih=>simp only [Kg,ih];rw [if_neg];intro hq;obtain⟨s,hs⟩:=hasP_t.1 hq;cases hs
   exact this P
  rw [e0];simp [hi]
end
end
section
variable {P0:Program}{E:Env}{F:T CFn}{K:T (List AV×AV)}(L:Lg P0 E F K)(X:Fx F K)
include L X
def Ap.new (D:Dv)(S:Nat):Ap:=⟨D,S,fun _=>1,fun i=>(D.bl i).er,fun _=>none,1,0,-1,-1,fun _=>false,fun _=>false,fun _=>none,false⟩
def pv (κ: Nat→Nat)(n:Nat)(I:Ai):Nat→Nat:=fun b=>if b<n then κ b else if b=I.s then 101 else if b=I.p then 102 else if b=I.pb then 103 else if b=I.m then 104 else if b=I.r1 then 105 else if b=I.r2 then 106 else if b=I.vb then 107 else if b=I.rj then 108 else if b=I.rs then 109 else if b=I.rw then 110 else 0
omit L X in
theorem W8 {κ: Nat→Nat}{n b:Nat}{I:Ai}(h:b<n):pv κ n I b=κ b:=if_pos h
section
variable {h:H}
theorem px {κ: Nat→Nat}{d S:Nat}{D:Dv}(r:DevR κ h d D)(hS:1≤S∧S≤1000)(hoff:D.off=false)(hnx: ∀i,i<D.nb→(D.bl i).nx=0)(her: ∀i,i<D.nb→(D.bl i).er≤100000):
  Ct P0 E F K 31 [.ptr d 0,AI ((S:Nat):Int),.agg Vs] h fun v h'=> ∃ab I κ',v= .tup [.ptr ab 0,AI ((0:Nat):Int)]∧Bk h' ab [.ptr I.s 0]∧κ' ab=0∧I.d=d∧ApR κ' h' I (Ap.new D S)∧K0 h h'∧(∀b,b<h.n→κ' b=κ b):=by
 obtain⟨ok,fm,bb,cb,q⟩:=r
 have hd:=q.dk
 have hnb:=ok.g.nb
 have hP:=ok.g.P
 have hsz:=ok.g.sz
 unfold Vs
 refine B3 L X.f31 X.k31 rfl rfl fun Q x cs G=>?_
 refine wk ?_
 refine cal (c:=S9 L X (D:=D) (fm:=fm) (bb:=bb) (Ah (by exact kps) hd)) (g:=?_)
 rintro _ h2 ⟨rfl,k2⟩
 have n2:=k2.n
 simp only [Al]at n2
 refine wk ?_
 refine cal (c:=pu L X hS hnb hP) (g:=?_)
 rintro _ h3 ⟨m,r1,r2,vb,rfl,mp,k3,l1,l2,l3,l4⟩
 have n3:=k3.n
 simp only [Al]at n3 l1 l2 l3 l4
 have hml:=mp.lt
 refine wk ?_
 refine cal (c:=F5 L X (sz:=D.sz) (by omega)) (g:=?_)
 rintro _ rfl
 refine wk ?_
 refine cal (c:=Qk (lo:=h3.n) (es:= []) L X (mp.k0 (by exact kps)) (EL.nil _ _) (by simp) ⟨hml.2.1,hml.2.2.1,hml.2.2.2,hml.1⟩ (by intro j x e;cases e)) (g:=?_)
 rintro _ h4 ⟨rfl,k4,mp4⟩
 have n4:=k4.n
 simp only [Al]at n4
 rw [show stA (fun _=>none) ([]:List Ent) ([]:List Ent).length=fun _=>none from rfl]at mp4
 refine wk ?_
 have hm4:=mp4.lt
 have hne:=mp4.ne
 have ldh:=q.dk.lt
 have lbh:=q.bk.lt
 have lfh:=q.fk.lt
 refine cal (c:=jg (κ:= κ) (s:=h4.n+1+1+1) (m:=m) (rj:=h4.n) (rs:=h4.n+1) (rw:=h4.n+1+1) (nx:=1) (la:=0) L X (q.kb (Kp.mono (S:=fun _=>False) (fun _ f=>f.elim) (by exact kps))) hnb hnx her (by unfold stN;exact lkp) ⟨by omega,by omega,by omega⟩) (g:=?_)
 rintro _ h5 ⟨rfl,p,pb,cb',po,ks,l5,l6,k5⟩
 have n5:=k5.n
 simp only [Al]at n5 l5 l6
 have lpo:=po.pk.lt
 have lpb:=po.bk.lt
 have pne:=po.ne
 have hd5:Bk h5 d (dvC D fm bb):=As k5 (by omega) (by exact lkp)
 refine wk ?_
 refine cal (c:=U8 L X (D:=D) (fm:=fm) (bb:=bb) (by exact lkp)) (g:=?_)
 rintro _ rfl
 rw [hoff]
 refine wk ?_
 refine ret X.f31 ?_
 have kF:Kp (fun j=>j=h4.n+1+1+1) h (hp (h5.n+1) h5.t [(h5.n,some (cl [.ptr (h4.n+1+1+1) 0]))]):=kps
 have k0F:K0 h (hp (h5.n+1) h5.t [(h5.n,some (cl [.ptr (h4.n+1+1+1) 0]))]):=⟨kF.n,fun b hb hn=>kF.old b hb (by omega)⟩
 have mpF:MpR S D.nb D.P (hp (h5.n+1) h5.t [(h5.n,some (cl [.ptr (h4.n+1+1+1) 0]))]) m r1 r2 vb (fun _=>none):=mp4.kp (B:=fun j=>j=h4.n+1+1+1) kps (by omega) (by omega) (by omega) (by omega)
 refine⟨h5.n,⟨h4.n+1+1+1,p,pb,m,r1,r2,vb,h4.n,h4.n+1,h4.n+1+1,d⟩,pv κ h.n ⟨h4.n+1+1+1,p,pb,m,r1,r2,vb,h4.n,h4.n+1,h4.n+1+1,d⟩,rfl,lkp,?_,rfl,?_,k0F,fun b hb=>W8 hb⟩
 ·simp only [pv]
  repeat rw [if_neg (by omega)]
 ·refine⟨?_,⟨cb',po.k0 kps⟩,⟨ok,fm,bb,cb,(q.rc fun b hb=>W8 hb).kb (k0F.mono fun _ f=>f.elim)⟩,mpF,⟨[],0,?_,MOk.nil,fun k=>rfl⟩,⟨[],0,?_,MOk.nil,fun k=>rfl⟩,⟨[],0,?_,MOk.nil,fun k=>rfl⟩,?_⟩
  ·show Bk _ _ (stC p d D.nb D.P D.sz D.en m 1 0 h4.n (h4.n+1) (h4.n+1+1))
   exact lkp
  ·exact lkq
  ·exact lkq
  ·exact lkq
  ·refine⟨?_,?_,?_,?_,?_,?_,?_,?_,?_,?_⟩ <;> (simp only [pv];repeat(first|rw [if_pos trivial]|rw [if_pos (by omega)]|rw [if_neg (by omega)]))
end
end
section
variable {P0:Program}{E:Env}{F:T CFn}{K:T (List AV×AV)}(L:Lg P0 E F K)(X:Fx F K)
include L X
omit L X in
structure AInv (S:Ap):Prop where
 geo:S.D.Geo
 off:S.D.off=false
 cut:S.D.cut= -1
 dn:S.down=false
 iw:IW S
 nxP: ∀b,b<S.D.nb→(S.D.bl b).nx≤S.D.P
 op2: ∀b:Nat,b<S.D.nb→S.ps b=2→((b:Nat):Int)=S.dat∨((b:Nat):Int)=S.log
 free: ∀b,b<S.D.nb→S.ps b=1→(S.D.bl b).nx=0
 jr: ∀k,S.jr k=true→ ∃b:Nat,k=((b:Nat):Int)∧b<S.D.nb∧(S.ps b=3∨S.ps b=2∧S.log=((b:Nat):Int))
 jlog:0≤S.log→S.jr S.log=true
 jdat:0≤S.dat→S.jr S.dat=false
 map: ∀s p,S.A s=some p→0≤s∧s<S.S∧ ∃b j:Nat,p=((b*S.D.P+j:Nat):Int)∧b<S.D.nb∧j<S.D.P∧(S.ps b=2∨S.ps b=3)∧S.jr ((b:Nat):Int)=false∧j<(S.D.bl b).nx∧((S.D.bl b).pg j).st=2
 inj: ∀s s' p,S.A s=some p→S.A s'=some p→s=s'
structure Keep (S S':Ap):Prop where
 nx: ∀b,b<S.D.nb→(S.D.bl b).nx≤(S'.D.bl b).nx
 pg: ∀b j,b<S.D.nb→j<(S.D.bl b).nx→(S'.D.bl b).pg j=(S.D.bl b).pg j
 ps3: ∀b,b<S.D.nb→S.ps b=3→S'.ps b=3
 psm: ∀b,b<S.D.nb→S.ps b=2∨S.ps b=3→S'.ps b=2∨S'.ps b=3
 jrm: ∀b:Nat,b<S.D.nb→S.ps b≠1→S'.jr ((b:Nat):Int)=S.jr ((b:Nat):Int)
 n1: ∀b:Nat,b<S.D.nb→S.ps b≠1→S'.ps b≠1
omit L X in
theorem Keep.refl (S:Ap):Keep S S:=⟨fun _ _=>Nat.le_refl _,fun _ _ _ _=>rfl,fun _ _ h=>h,fun _ _ h=>h,fun _ _ _=>rfl,fun _ _ h=>h⟩
omit L X in
theorem Keep.trans {S S1 S2:Ap}(a:Keep S S1)(b:Keep S1 S2)(hn:S1.D.nb=S.D.nb):Keep S S2:=
 ⟨fun i hi=>Nat.le_trans (a.nx i hi) (b.nx i (by omega)),fun i j hi hj=>(b.pg i j (by omega) (Nat.lt_of_lt_of_le hj (a.nx i hi))).trans (a.pg i j hi hj),fun i hi h=>b.ps3 i (by omega) (a.ps3 i hi h),fun i hi h=>b.psm i (by omega) (a.psm i hi h),fun i hi h=>(b.jrm i (by omega) (a.n1 i hi h)).trans (a.jrm i hi h),fun i hi h=>b.n1 i (by omega) (a.n1 i hi h)⟩
omit L X in
theorem AInv.close {S:Ap}{k:Bool}(q:AInv S)(hs:0≤S.sel k)(hiw:IW (({S with ps:=upd S.ps (S.sel k).toNat 3}).put k (-1))):AInv (({S with ps:=upd S.ps (S.sel k).toNat 3}).put k (-1))∧Keep S (({S with ps:=upd S.ps (S.sel k).toNat 3}).put k (-1)):=by
 obtain⟨w1,w2⟩:=(q.iw.wi k).sel hs
 obtain⟨b,hb⟩:=Int.eq_ofNat_of_zero_le hs
 rw [hb,Int.toNat_natCast]at hiw ⊢
 rw [hb,Int.toNat_natCast]at w2
 rw [hb]at w1
 have p2: ∀i,upd S.ps b 3 i=2→i≠b∧S.ps i=2:=fun i h=>by
  by_cases ei:i=b
  ·subst ei;rw [upd_eq]at h;cases h
  ·rw [upd_ne _ _ ei]at h;exact⟨ei,h⟩
 have p1: ∀i,upd S.ps b 3 i=1→S.ps i=1:=fun i h=>by
  by_cases ei:i=b
  ·subst ei;rw [upd_eq]at h;cases h
  ·rw [upd_ne _ _ ei]at h;exact h
 have p3: ∀i,S.ps i=3→upd S.ps b 3 i=3:=fun i h=>by
  by_cases ei:i=b
  ·subst ei;exact upd_eq _ _ _
  ·rw [upd_ne _ _ ei];exact h
 have pm: ∀i,S.ps i=2∨S.ps i=3→upd S.ps b 3 i=2∨upd S.ps b 3 i=3:=fun i h=>by
  by_cases ei:i=b
  ·subst ei;exact .inr (upd_eq _ _ _)
  ·rw [upd_ne _ _ ei];exact h
 cases k with
 |true=>
  have hl:S.log=((b:Nat):Int):=hb
  refine⟨⟨q.geo,q.off,q.cut,q.dn,hiw,q.nxP,fun i hi h=>?_,fun i hi h=>q.free i hi (p1 i h),fun y hy=>?_,fun h=>absurd h (by show¬(0:Int)≤ -1;omega),q.jdat,fun s p h=>?_,q.inj⟩,⟨fun _ _=>Nat.le_refl _,fun _ _ _ _=>rfl,fun i _ h=>p3 i h,fun i _ h=>pm i h,fun _ _ _=>rfl,fun i _ h e=>h (p1 i e)⟩⟩
  ·obtain⟨h1,h2⟩:=p2 i h
   rcases q.op2 i hi h2 with h3|h3
   ·exact .inl h3
   ·rw [hl]at h3;exact absurd (by omega) h1
  ·obtain⟨i,h1,h2,h3⟩:=q.jr y hy
   refine⟨i,h1,h2,.inl ?_⟩
   rcases h3 with h3|⟨h3,h4⟩
   ·exact p3 i h3
   ·rw [hl]at h4
    have:i=b:=by omega
    subst this;exact upd_eq _ _ _
  ·obtain⟨h1,h2,i,j,h3,h4,h5,h6,h7⟩:=q.map s p h
   exact⟨h1,h2,i,j,h3,h4,h5,pm i h6,h7⟩
 |false=>
  have hl:S.dat=((b:Nat):Int):=hb
  refine⟨⟨q.geo,q.off,q.cut,q.dn,hiw,q.nxP,fun i hi h=>?_,fun i hi h=>q.free i hi (p1 i h),fun y hy=>?_,q.jlog,fun h=>absurd h (by show¬(0:Int)≤ -1;omega),fun s p h=>?_,q.inj⟩,⟨fun _ _=>Nat.le_refl _,fun _ _ _ _=>rfl,fun i _ h=>p3 i h,fun i _ h=>pm i h,fun _ _ _=>rfl,fun i _ h e=>h (p1 i e)⟩⟩
  ·obtain⟨h1,h2⟩:=p2 i h
   rcases q.op2 i hi h2 with h3|h3
   ·rw [hl]at h3;exact absurd (by omega) h1
   ·exact .inr h3
  ·obtain⟨i,h1,h2,h3⟩:=q.jr y hy
   refine⟨i,h1,h2,?_⟩
   by_cases ei:i=b
   ·subst ei;exact .inl (upd_eq _ _ _)
   ·show upd S.ps b 3 i=3∨upd S.ps b 3 i=2∧_
    rw [upd_ne _ _ ei];exact h3
  ·obtain⟨h1,h2,i,j,h3,h4,h5,h6,h7⟩:=q.map s p h
   exact⟨h1,h2,i,j,h3,h4,h5,pm i h6,h7⟩
omit L X in
theorem AInv.cls {S:Ap}(q:AInv S)(k:Bool):AInv (S.cls k)∧Keep S (S.cls k):=by
 have hiw:=(q.iw.cls k).1
 by_cases hc:0≤S.sel k∧(S.D.bl (S.sel k).toNat).nx=S.D.P
 ·have e:S.cls k=({S with ps:=upd S.ps (S.sel k).toNat 3}).put k (-1):=by unfold Ap.cls;rw [if_pos hc]
  rw [e]at hiw ⊢
  exact q.close hc.1 hiw
 ·have e:S.cls k=S:=by unfold Ap.cls;rw [if_neg hc]
  rw [e];exact⟨q,.refl _⟩
end
section
variable {P0:Program}{E:Env}{F:T CFn}{K:T (List AV×AV)}(L:Lg P0 E F K)(X:Fx F K)
include L X
omit L X in
theorem AInv.opn {S S2:Ap}{k:Bool}(q:AInv S)(h:S.opn k=some S2):AInv S2∧Keep S S2∧S2.jr (S2.sel k)=k:=by
 obtain⟨hiw,hD,hs0,-⟩:=q.iw.opn h
 unfold Ap.opn at h
 split at h
 ·rename_i hs
  split at h
  ·cases h
  ·rename_i hcold
   rcases Fq S.ps S.pe 1 S.D.nb with⟨h1,-⟩|⟨c,hc,h1,h2⟩
   ·rw [h1]at hcold;omega
   ·rw [h1,Int.toNat_natCast]at h
    have hjc:S.jr ((c:Nat):Int)=false:=by
     cases hj:S.jr ((c:Nat):Int)with
     |false=>rfl
     |true=>
      obtain⟨i,e1,e2,e3⟩:=q.jr _ hj
      have:i=c:=by omega
      subst this
      rcases e3 with e3|⟨e3,-⟩ <;> omega
    have p2: ∀i,upd S.ps c 2 i=2→i=c∨S.ps i=2:=fun i h=>by
     by_cases ei:i=c
     ·exact .inl ei
     ·rw [upd_ne _ _ ei]at h;exact .inr h
    have p1: ∀i,upd S.ps c 2 i=1→S.ps i=1:=fun i h=>by
     by_cases ei:i=c
     ·subst ei;exact h2
     ·rw [upd_ne _ _ ei]at h;exact h
    have p3: ∀i,S.ps i=3→upd S.ps c 2 i=3:=fun i h=>by
     rw [upd_ne _ _ (fun e=>by subst e;omega)];exact h
    have pm: ∀i,S.ps i=2∨S.ps i=3→upd S.ps c 2 i=2∨upd S.ps c 2 i=3:=fun i h=>by
     rw [upd_ne _ _ (fun e=>by subst e;omega)];exact h
    have nc: ∀i,S.ps i=2∨S.ps i=3→i≠c:=fun i h e=>by subst e;omega
    cases k with
    |true=>
     cases h
     have hlg:S.log<0:=hs
     refine⟨⟨q.geo,q.off,q.cut,q.dn,hiw,q.nxP,fun i hi h=>?_,fun i hi h=>q.free i hi (p1 i h),fun y hy=>?_,fun _=>?_,fun hd=>?_,fun s p h=>?_,q.inj⟩,⟨fun _ _=>Nat.le_refl _,fun _ _ _ _=>rfl,fun i _ h=>p3 i h,fun i _ h=>pm i h,fun i hi hne=>?_,fun i _ h e=>h (p1 i e)⟩,?_⟩
     ·rcases p2 i h with h3|h3
      ·exact .inr (by rw [h3];rfl)
      ·rcases q.op2 i hi h3 with h4|h4
       ·exact .inl h4
       ·omega
     ·have hy':Bb S.jr ((c:Nat):Int) true y=true:=hy
      unfold Bb at hy'
      by_cases ey:y=((c:Nat):Int)
      ·exact⟨c,ey,hc,.inr ⟨upd_eq _ _ _,rfl⟩⟩
      ·rw [if_neg ey]at hy'
       obtain⟨i,e1,e2,e3⟩:=q.jr y hy'
       refine⟨i,e1,e2,?_⟩
       rcases e3 with e3|⟨e3,e4⟩
       ·exact .inl (p3 i e3)
       ·omega
     ·show Bb S.jr ((c:Nat):Int) true ((c:Nat):Int)=true
      unfold Bb;rw [if_pos rfl]
     ·show Bb S.jr ((c:Nat):Int) true S.dat=false
      have hd':0≤S.dat:=hd
      obtain⟨g1,g2⟩:=(q.iw.wi false).sel hd'
      have g2':S.ps S.dat.toNat=2:=g2
      unfold Bb;rw [if_neg (fun e=>nc _ (.inl g2') (by omega))]
      exact q.jdat hd'
     ·obtain⟨e1,e2,i,j,h3,h4,h5,h6,h7,h8⟩:=q.map s p h
      refine⟨e1,e2,i,j,h3,h4,h5,pm i h6,?_,h8⟩
      show Bb S.jr ((c:Nat):Int) true ((i:Nat):Int)=false
      unfold Bb;rw [if_neg (fun e=>nc i h6 (by omega))]
      exact h7
     ·show Bb S.jr ((c:Nat):Int) true ((i:Nat):Int)=S.jr ((i:Nat):Int)
      unfold Bb;rw [if_neg (fun e=>hne (by
                           have:i=c:=by omega
                           subst this;exact h2))]
     ·show Bb S.jr ((c:Nat):Int) true ((c:Nat):Int)=true
      unfold Bb;rw [if_pos rfl]
    |false=>
     cases h
     have hdt:S.dat<0:=hs
     refine⟨⟨q.geo,q.off,q.cut,q.dn,hiw,q.nxP,fun i hi h=>?_,fun i hi h=>q.free i hi (p1 i h),fun y hy=>?_,q.jlog,fun hd=>hjc,fun s p h=>?_,q.inj⟩,⟨fun _ _=>Nat.le_refl _,fun _ _ _ _=>rfl,fun i _ h=>p3 i h,fun i _ h=>pm i h,fun i hi hne=>rfl,fun i _ h e=>h (p1 i e)⟩,hjc⟩
     ·rcases p2 i h with h3|h3
      ·exact .inl (by rw [h3];rfl)
      ·rcases q.op2 i hi h3 with h4|h4
       ·omega
       ·exact .inr h4
     ·obtain⟨i,e1,e2,e3⟩:=q.jr y hy
      refine⟨i,e1,e2,?_⟩
      rcases e3 with e3|⟨e3,e4⟩
      ·exact .inl (p3 i e3)
      ·refine .inr ⟨?_,e4⟩
       show upd S.ps c 2 i=2
       rw [upd_ne _ _ (nc i (.inl e3))];exact e3
     ·obtain⟨e1,e2,i,j,h3,h4,h5,h6,h7⟩:=q.map s p h
      exact⟨e1,e2,i,j,h3,h4,h5,pm i h6,h7⟩
 ·rename_i hs
  cases h
  refine⟨q,.refl _,?_⟩
  cases k with
  |true=>exact q.jlog (Int.not_lt.1 hs)
  |false=>exact q.jdat (Int.not_lt.1 hs)
end
section
variable {P0:Program}{E:Env}{F:T CFn}{K:T (List AV×AV)}(L:Lg P0 E F K)(X:Fx F K)
include L X
omit L X in
theorem Dv.prog_ok {D:Dv}{b:Nat}{all:List Nat}(hoff:D.off=false)(hcut:D.cut= -1)(hb:b<D.nb)(hx:(D.bl b).nx<D.P):
  D.prog ((b:Nat):Int) all=(D.wr b all,if D.flt D.n=true then 54 else 0)∧(D.wr b all).off=false∧D.pgW all=if D.flt D.n=true then⟨4,[]⟩else⟨2,all⟩:=by
 have hn: ¬((D.n:Int)=D.cut):=by rw [hcut];omega
 refine⟨?_,?_,?_⟩
 ·unfold Dv.prog
  rw [if_pos ⟨by omega,by omega,by rw [Int.toNat_natCast];exact hx⟩,if_neg (by rw [hoff];simp),if_neg hn,Int.toNat_natCast]
 ·show(D.off || decide ((D.n:Int)=D.cut))=false
  rw [hoff,decide_eq_false hn];rfl
 ·unfold Dv.pgW;rw [if_neg hn]
omit L X in
theorem AInv.wr {S:Ap}{b:Nat}{all:List Nat}(q:AInv S)(hb:b<S.D.nb)(hp:S.ps b=2)(hx:(S.D.bl b).nx<S.D.P)(su:Int→Bool):
  AInv {S with D:=S.D.wr b all,su:=su}∧Keep S {S with D:=S.D.wr b all,su:=su}:=by
 have ho:=(Dv.prog_ok (all:=all) q.off q.cut hb hx).2.1
 have hbl: ∀i,i≠b→(S.D.wr b all).bl i=S.D.bl i:=fun i h=>upd_ne _ _ h
 have hbb:(S.D.wr b all).bl b=⟨upd (S.D.bl b).pg (S.D.bl b).nx (S.D.pgW all),(S.D.bl b).nx+1,(S.D.bl b).er⟩:=upd_eq _ _ _
 have hpg: ∀i j,j<(S.D.bl i).nx→((S.D.wr b all).bl i).pg j=(S.D.bl i).pg j:=by
  intro i j hj
  by_cases e:i=b
  ·subst e;rw [hbb];exact upd_ne _ _ (by omega)
  ·rw [hbl i e]
 have hnx: ∀i,(S.D.bl i).nx≤((S.D.wr b all).bl i).nx:=by
  intro i
  by_cases e:i=b
  ·subst e;rw [hbb];exact Nat.le_succ _
  ·rw [hbl i e];exact Nat.le_refl _
 refine⟨⟨⟨q.geo.nb,q.geo.P,q.geo.sz,q.geo.en⟩,ho,q.cut,q.dn,⟨fun k=>⟨(q.iw.wi k).sel,(q.iw.wi k).lo⟩,q.iw.ne⟩,fun i hi=>?_,q.op2,fun i hi h=>?_,q.jr,q.jlog,q.jdat,fun s p h=>?_,q.inj⟩,⟨fun i _=>hnx i,fun i j _ hj=>hpg i j hj,fun _ _ h=>h,fun _ _ h=>h,fun _ _ _=>rfl,fun _ _ h=>h⟩⟩
 ·show((S.D.wr b all).bl i).nx≤S.D.P
  by_cases e:i=b
  ·subst e;rw [hbb];exact hx
  ·rw [hbl i e];exact q.nxP i hi
 ·show((S.D.wr b all).bl i).nx=0
  have h':S.ps i=1:=h
  rw [hbl i (fun e=>by subst e;omega)]
  exact q.free i hi h'
 ·obtain⟨e1,e2,i,j,h3,h4,h5,h6,h7,h8,h9⟩:=q.map s p h
  exact⟨e1,e2,i,j,h3,h4,h5,h6,h7,Nat.lt_of_lt_of_le h8 (hnx i),by show(((S.D.wr b all).bl i).pg j).st=2;rw [hpg i j h8];exact h9⟩
end
section
variable {P0:Program}{E:Env}{F:T CFn}{K:T (List AV×AV)}(L:Lg P0 E F K)(X:Fx F K)
include L X
omit L X in
theorem AInv.nx_lt {S S2:Ap}{k:Bool}(q:AInv S)(h:(S.cls k).opn k=some S2):(S2.D.bl (S2.sel k).toNat).nx<S2.D.P:=by
 have q1:=(q.cls k).1
 have hP:=q1.geo.P
 obtain⟨hiw,hD,hs0,-⟩:=q1.iw.opn h
 by_cases hs:(S.cls k).sel k<0
 ·unfold Ap.opn at h
  rw [if_pos hs]at h
  split at h
  ·cases h
  ·rename_i hcold
   rcases Fq (S.cls k).ps (S.cls k).pe 1 (S.cls k).D.nb with⟨h1,-⟩|⟨c,hc,h1,h2⟩
   ·rw [h1]at hcold;omega
   ·rw [hD]
    have e:S2.sel k=((c:Nat):Int):=by
     rw [h1]at h
     cases h
     exact C3 _ _ _
    rw [e,Int.toNat_natCast,q1.free c hc h2]
    omega
 ·have e2:S2=S.cls k:=by
   unfold Ap.opn at h
   rw [if_neg hs]at h
   cases h;rfl
  subst e2
  by_cases hc:0≤S.sel k∧(S.D.bl (S.sel k).toNat).nx=S.D.P
  ·have e:S.cls k=({S with ps:=upd S.ps (S.sel k).toNat 3}).put k (-1):=by unfold Ap.cls;rw [if_pos hc]
   rw [e,C3]at hs
   omega
  ·have e:S.cls k=S:=by unfold Ap.cls;rw [if_neg hc]
   rw [e]at hs ⊢
   obtain⟨g1,g2⟩:=(q.iw.wi k).sel (by omega)
   have:=q.nxP (S.sel k).toNat (by omega)
   have hne:(S.D.bl (S.sel k).toNat).nx≠S.D.P:=fun e=>hc ⟨by omega,e⟩
   omega
omit L X in
theorem zl (S:Ap)(k:Bool):(S.cls k).D=S.D:=by unfold Ap.cls;split <;> cases k <;> rfl
omit L X in
theorem AInv.w1 {S:Ap}(q:AInv S)(k:Bool)(all:List Nat):AInv (S.w1 k all).1∧Keep S (S.w1 k all).1∧(S.w1 k all).2≠ .pow∧((S.w1 k all).2= .full→ ∀i,i<S.D.nb→(S.w1 k all).1.ps i≠1)∧
  (∀p,(S.w1 k all).2= .done p→ ∃b j:Nat,p=b*S.D.P+j∧b<S.D.nb∧j<S.D.P∧(S.w1 k all).1.ps b=2∧(S.w1 k all).1.jr ((b:Nat):Int)=k∧j<((S.w1 k all).1.D.bl b).nx∧((S.w1 k all).1.D.bl b).pg j=⟨2,all⟩∧(S.D.bl b).nx=j):=by
 obtain⟨q1,k1⟩:=q.cls k
 have hiw:=(q.iw.w1 k all).1
 have hn1:(S.cls k).D=S.D:=zl S k
 cases ho:(S.cls k).opn k with
 |none=>
  have e:S.w1 k all=(S.cls k,.full):=by unfold Ap.w1;rw [ho]
  rw [e]
  refine⟨q1,k1,(by simp),fun _ i hi=>?_,fun p h=>by cases h⟩
  unfold Ap.opn at ho
  split at ho
  ·split at ho
   ·rename_i hcold
    rcases Fq (S.cls k).ps (S.cls k).pe 1 (S.cls k).D.nb with⟨h1,h2⟩|⟨c,hc,h1,h2⟩
    ·exact h2 i (by rw [hn1];exact hi)
    ·rw [h1]at hcold;omega
   ·cases ho
  ·cases ho
 |some S2=>
  obtain⟨q2,k2,hj2⟩:=q1.opn ho
  have hx:=q.nx_lt ho
  obtain⟨-,hD2,hs0,-⟩:=q1.iw.opn ho
  obtain⟨g1,g2⟩:=(q2.iw.wi k).sel hs0
  obtain⟨b,hb⟩:=Int.eq_ofNat_of_zero_le hs0
  have hsame:S2.D=S.D:=hD2.trans hn1
  rw [hb,Int.toNat_natCast]at hx g2
  rw [hb]at hj2
  have hbn:b<S2.D.nb:=by omega
  obtain⟨f1,f2,f3⟩:=Dv.prog_ok (all:=all) q2.off q2.cut hbn hx
  have kk:Keep S S2:=k1.trans k2 (by rw [hn1])
  by_cases hfl:S2.D.flt S2.D.n=true
  ·have e:S.w1 k all=(({S2 with D:=S2.D.wr b all,su:=Bb S2.su ((b:Nat):Int) true,ps:=upd S2.ps b 3}:Ap).put k (-1),.again):=by
    unfold Ap.w1
    rw [ho]
    simp only [hb,f1,if_pos hfl,Int.toNat_natCast]
    rfl
   obtain⟨q3,k3⟩:=q2.wr (all:=all) hbn g2 hx (Bb S2.su ((b:Nat):Int) true)
   have hse:({S2 with D:=S2.D.wr b all,su:=Bb S2.su ((b:Nat):Int) true}:Ap).sel k=((b:Nat):Int):=by cases k <;> exact hb
   rw [e]at hiw ⊢
   have hcl:=q3.close (k:=k) (by rw [hse];omega)
   rw [hse,Int.toNat_natCast]at hcl
   obtain⟨q4,k4⟩:=hcl hiw
   exact⟨q4,(kk.trans k3 (by rw [hsame])).trans k4 (by show S2.D.nb=S.D.nb;rw [hsame]),by simp,(fun h=>by cases h),fun p h=>by cases h⟩
  ·have e:S.w1 k all=({S2 with D:=S2.D.wr b all},.done (b*S2.D.P+(S2.D.bl b).nx)):=by
    unfold Ap.w1
    rw [ho]
    simp only [hb,f1,if_neg hfl,Int.toNat_natCast]
    rfl
   obtain⟨q3,k3⟩:=q2.wr (all:=all) hbn g2 hx S2.su
   rw [e]
   refine⟨q3,kk.trans k3 (by rw [hsame]),by simp,(fun h=>by cases h),fun p h=>?_⟩
   cases h
   rw [if_neg hfl]at f3
   refine⟨b,(S2.D.bl b).nx,by rw [←hsame],by rw [←hsame];exact hbn,by rw [←hsame];exact hx,g2,hj2,?_,?_,by rw [hsame]⟩
   ·show(S2.D.bl b).nx<((upd S2.D.bl b ⟨upd (S2.D.bl b).pg (S2.D.bl b).nx (S2.D.pgW all),(S2.D.bl b).nx+1,(S2.D.bl b).er⟩) b).nx
    rw [upd_eq];exact Nat.lt_succ_self _
   ·show((upd S2.D.bl b ⟨upd (S2.D.bl b).pg (S2.D.bl b).nx (S2.D.pgW all),(S2.D.bl b).nx+1,(S2.D.bl b).er⟩) b).pg (S2.D.bl b).nx=_
    rw [upd_eq]
    show upd (S2.D.bl b).pg (S2.D.bl b).nx (S2.D.pgW all) (S2.D.bl b).nx=_
    rw [upd_eq];exact f3
omit L X in
theorem WrP.inv {k:Bool}{all:List Nat}{S S':Ap}{r:WO}(h:WrP k all S S' r)(q:AInv S):AInv S'∧Keep S S'∧r≠ .pow∧(r= .full→ ∀i,i<S.D.nb→S'.ps i≠1)∧
  (∀p,r= .done p→ ∃b j:Nat,p=b*S.D.P+j∧b<S.D.nb∧j<S.D.P∧S'.ps b=2∧S'.jr ((b:Nat):Int)=k∧j<(S'.D.bl b).nx∧(S'.D.bl b).pg j=⟨2,all⟩∧(S.D.bl b).nx≤j):=by
 induction h with
 |stop h=>
  obtain⟨a,b,c,d,e⟩:=q.w1 k all
  exact⟨a,b,c,d,fun p hp=>let⟨b,j,e1,e2,e3,e4,e5,e6,e7,e8⟩:=e p hp;⟨b,j,e1,e2,e3,e4,e5,e6,e7,by omega⟩⟩
 | @more S S' r h _ ih=>
  obtain⟨a,b,c,d,e⟩:=q.w1 k all
  obtain⟨a',b',c',d',e'⟩:=ih a
  have f:=ir S k all
  refine⟨a',b.trans b' f.nb,c',fun hr i hi=>d' hr i (by rw [f.nb];exact hi),fun p hp=>?_⟩
  obtain⟨i,j,e1,e2,e3,e4,e5,e6,e7,e8⟩:=e' p hp
  rw [f.nb]at e2
  rw [f.P]at e1 e3
  exact⟨i,j,e1,e2,e3,e4,e5,e6,e7,Nat.le_trans (b.nx i e2) e8⟩
end
section
variable {P0:Program}{E:Env}{F:T CFn}{K:T (List AV×AV)}(L:Lg P0 E F K)(X:Fx F K)
include L X
omit L X in
theorem AInv.nw {S:Ap}(q:AInv S)(n l:Nat)(w:Int→Option Nat):AInv {S with next:=n,last:=l,wr:=w}:=
 ⟨q.geo,q.off,q.cut,q.dn,⟨fun k=>⟨(q.iw.wi k).sel,(q.iw.wi k).lo⟩,q.iw.ne⟩,q.nxP,q.op2,q.free,q.jr,q.jlog,q.jdat,q.map,q.inj⟩
omit L X in
theorem StP.inv {sec:Int}{data:List Nat}{S S':Ap}{o:WO}(h:StP sec data S S' o)(q:AInv S):AInv S'∧Keep S S'∧o≠ .pow∧(o= .full→ ∀i,i<S.D.nb→S'.ps i≠1)∧
  (∀p,o= .done p→ ∃b j:Nat,p=b*S.D.P+j∧b<S.D.nb∧j<S.D.P∧S'.ps b=2∧S'.jr ((b:Nat):Int)=false∧j<(S'.D.bl b).nx∧(S'.D.bl b).pg j=⟨2,data++Ax (spD sec S.next) data⟩∧(S.D.bl b).nx≤j):=by
 have q1:AInv {S with next:=S.next+1}:=q.nw (S.next+1) S.last S.wr
 cases h with
 |ok h=>
  obtain⟨a,b,c,d,e⟩:=h.inv q1
  refine⟨a.nw _ _ _,⟨b.nx,b.pg,b.ps3,b.psm,b.jrm,b.n1⟩,c,d,e⟩
 |bad h hr=>
  obtain⟨a,b,c,d,e⟩:=h.inv q1
  exact⟨a,⟨b.nx,b.pg,b.ps3,b.psm,b.jrm,b.n1⟩,c,d,e⟩
omit L X in
structure PgOk (S:Ap)(sec:Int)(data:List Nat)(p:Int):Prop where
 ex: ∃b j n:Nat,p=((b*S.D.P+j:Nat):Int)∧b<S.D.nb∧j<S.D.P∧(S.ps b=2∨S.ps b=3)∧S.jr ((b:Nat):Int)=false∧j<(S.D.bl b).nx∧(S.D.bl b).pg j=⟨2,data++Ax (spD sec n) data⟩
omit L X in
theorem PgOk.keep {S S':Ap}{sec:Int}{data:List Nat}{p:Int}(q:PgOk S sec data p)(k:Keep S S')(hP:S'.D.P=S.D.P)(hnb:S'.D.nb=S.D.nb):PgOk S' sec data p:=by
 obtain⟨b,j,n,h1,h2,h3,h4,h5,h6,h7⟩:=q.ex
 exact⟨b,j,n,by rw [hP];exact h1,by rw [hnb];exact h2,by rw [hP];exact h3,k.psm b h2 h4,by rw [k.jrm b h2 (by omega)];exact h5,Nat.lt_of_lt_of_le h6 (k.nx b h2),by rw [k.pg b j h2 h6];exact h7⟩
omit L X in
theorem StP.pg {sec:Int}{data:List Nat}{S S':Ap}{p:Nat}(h:StP sec data S S' (.done p))(q:AInv S):PgOk S' sec data ((p:Nat):Int)∧(∃b j:Nat,p=b*S.D.P+j∧b<S.D.nb∧j<S.D.P∧(S.D.bl b).nx≤j):=by
 have f:=(h.fr q.iw).1
 obtain⟨a,b,c,d,e⟩:=h.inv q
 obtain⟨i,j,e1,e2,e3,e4,e5,e6,e7,e8⟩:=e p rfl
 exact⟨⟨i,j,S.next,by rw [f.P,e1],by rw [f.nb];exact e2,by rw [f.P];exact e3,.inl e4,e5,e6,e7⟩,i,j,e1,e2,e3,e8⟩
end
section
variable {P0:Program}{E:Env}{F:T CFn}{K:T (List AV×AV)}(L:Lg P0 E F K)(X:Fx F K)
include L X
omit L X in
theorem AppP.inv {l:List (Int×Option (List Nat))}{S S':Ap}{es:List Ent}{o:WO}(h:AppP l S es S' o)(q:AInv S):AInv S'∧Keep S S'∧FrS S S'∧o≠ .pow∧(o= .full→ ∀i,i<S.D.nb→S'.ps i≠1):=by
 induction h with
 |nil=>exact⟨q,.refl _,.refl _,by simp,fun h=>by cases h⟩
 |put h _ ih=>
  obtain⟨a,b,c,d,-⟩:=h.inv q
  have f:=(h.fr q.iw).1
  obtain⟨a',b',c',d',e'⟩:=ih a
  exact⟨a',b.trans b' f.nb,f.trans c',d',fun hr i hi=>e' hr i (by rw [f.nb];exact hi)⟩
 |bad h ho=>
  obtain⟨a,b,c,d,-⟩:=h.inv q
  exact⟨a,b,(h.fr q.iw).1,c,d⟩
 |trim _ _ ih=>exact ih q
 |skip _ _ ih=>exact ih q
omit L X in
theorem AppP.es {l:List (Int×Option (List Nat))}{S S':Ap}{es:List Ent}{o:WO}(h:AppP l S es S' o)(q:AInv S): ∀e∈es,(∃x∈l,x.1=e.1)∧(e.2= -1∨ ∃b j:Nat,e.2=((b*S.D.P+j:Nat):Int)∧b<S.D.nb∧j<S.D.P∧(S.D.bl b).nx≤j):=by
 induction h with
 |nil=>intro e he;cases he
 |put h _ ih=>
  intro e he
  obtain⟨a,b,-⟩:=h.inv q
  have f:=(h.fr q.iw).1
  rcases List.mem_cons.1 he with rfl|he
  ·obtain⟨-,i,j,e1,e2,e3,e4⟩:=h.pg q
   exact⟨⟨_,List.mem_cons_self ..,rfl⟩,.inr ⟨i,j,by rw [e1],e2,e3,e4⟩⟩
  ·obtain⟨⟨x,hx,e1⟩,e2⟩:=ih a e he
   refine⟨⟨x,List.mem_cons_of_mem _ hx,e1⟩,?_⟩
   rcases e2 with e2|⟨i,j,g1,g2,g3,g4⟩
   ·exact .inl e2
   ·rw [f.nb]at g2
    rw [f.P]at g1 g3
    exact .inr ⟨i,j,g1,g2,g3,Nat.le_trans (b.nx i g2) g4⟩
 |bad h ho=>intro e he;cases he
 |trim _ _ ih=>
  intro e he
  rcases List.mem_cons.1 he with rfl|he
  ·exact⟨⟨_,List.mem_cons_self ..,rfl⟩,.inl rfl⟩
  ·obtain⟨⟨x,hx,e1⟩,e2⟩:=ih q e he
   exact⟨⟨x,List.mem_cons_of_mem _ hx,e1⟩,e2⟩
 |skip _ _ ih=>
  intro e he
  obtain⟨⟨x,hx,e1⟩,e2⟩:=ih q e he
  exact⟨⟨x,List.mem_cons_of_mem _ hx,e1⟩,e2⟩
end
section
variable {P0:Program}{E:Env}{F:T CFn}{K:T (List AV×AV)}(L:Lg P0 E F K)(X:Fx F K)
include L X
omit L X in
theorem Ij {P b j b' j':Nat}(hj:j<P)(hj':j'<P)(h:b*P+j=b'*P+j'):b=b'∧j=j':=by
 rcases Nat.lt_trichotomy b b' with q|q|q
 ·have:=Nat.mul_le_mul_right P (show b+1≤b' from q)
  rw [Nat.succ_mul]at this;omega
 ·subst q;exact⟨rfl,by omega⟩
 ·have:=Nat.mul_le_mul_right P (show b'+1≤b from q)
  rw [Nat.succ_mul]at this;omega
omit L X in
theorem AppP.nd {l:List (Int×Option (List Nat))}{S S':Ap}{es:List Ent}{o:WO}(h:AppP l S es S' o)(q:AInv S):es.Pairwise fun x y=>0≤x.2→x.2≠y.2:=by
 induction h with
 |nil=>exact .nil
 | @put sec data l S S1 S' p es o h r ih=>
  obtain⟨a,b,c,d,e⟩:=h.inv q
  have f:=(h.fr q.iw).1
  obtain⟨i,j,e1,e2,e3,-,-,e6,-,-⟩:=e p rfl
  refine .cons (fun y hy _ e=>?_) (ih a)
  have e:((p:Nat):Int)=y.2:=e
  rcases(r.es a y hy).2 with g|⟨i',j',g1,g2,g3,g4⟩
  ·omega
  ·rw [f.P]at g1 g3
   obtain⟨rfl,rfl⟩:=Ij e3 g3 (show i*S.D.P+j=i'*S.D.P+j' by omega)
   omega
 |bad h ho=>exact .nil
 |trim _ _ ih=>exact .cons (fun y hy h _=>by simp only at h;omega) (ih q)
 |skip _ _ ih=>exact ih q
omit L X in
theorem Gv {A:Int→Option Int}{l:List Ent}: ∀i s p,stA A l i s=some p→A s=some p∨ ∃j e,j<i∧l[j]?=some e∧e.1=s∧e.2=p∧0≤p
 |0,s,p,h=> .inl h
 |i+1,s,p,h=>by
  cases hx:l[i]? with
  |none=>
   have:stA A l (i+1)=stA A l i:=by unfold stA;rw [List.take_add_one,hx];simp
   rw [this]at h
   rcases Gv i s p h with h|⟨j,e,h1,h2⟩
   ·exact .inl h
   ·exact .inr ⟨j,e,by omega,h2⟩
  |some x=>
   rw [Ox hx]at h
   unfold Cr at h
   by_cases e1:s=x.1
   ·rw [if_pos e1]at h
    by_cases e2:0≤x.2
    ·rw [if_pos e2]at h;cases h
     exact .inr ⟨i,x,by omega,hx,e1.symm,rfl,e2⟩
    ·rw [if_neg e2]at h;cases h
   ·rw [if_neg e1]at h
    rcases Gv i s p h with h|⟨j,e,h1,h2⟩
    ·exact .inl h
    ·exact .inr ⟨j,e,by omega,h2⟩
end
section
variable {P0:Program}{E:Env}{F:T CFn}{K:T (List AV×AV)}(L:Lg P0 E F K)(X:Fx F K)
include L X
omit L X in
theorem AppP.ok {l:List (Int×Option (List Nat))}{S S':Ap}{es:List Ent}{o:WO}(h:AppP l S es S' o)(q:AInv S)(hr: ∀y∈l,0≤y.1∧y.1<((S.S:Nat):Int)): ∀j x,es[j]?=some x→okE S.S (S.D.nb*S.D.P) (stA S.A es j) x:=by
 intro j x hx
 have hm:=List.mem_of_getElem? hx
 obtain⟨⟨y,hy,hy1⟩,hp⟩:=h.es q x hm
 have hrg:=hr y hy
 rw [hy1]at hrg
 have hnd:=h.nd q
 refine⟨⟨hrg.1,hrg.2,?_,?_⟩,?_⟩
 ·rcases hp with e|⟨b,k,e,-⟩ <;> omega
 ·rcases hp with e|⟨b,k,e,hb,hk,-⟩
  ·rw [e];omega
  ·rw [e]
   have:=Nat.mul_le_mul_right S.D.P (show b+1≤S.D.nb from hb)
   rw [Nat.succ_mul]at this
   omega
 ·rintro⟨s,hs,hne⟩
  rcases Gv j s x.2 hs with h1|⟨j',e,h1,h2,h3,h4,h5⟩
  ·obtain⟨-,-,i,m,g1,g2,g3,g4,g5,g6,-⟩:=q.map s x.2 h1
   rcases hp with e|⟨b,k,e,hb,hk,hk2⟩
   ·omega
   ·obtain⟨rfl,rfl⟩:=Ij g3 hk (show i*S.D.P+m=b*S.D.P+k by omega)
    omega
  ·obtain⟨l1,l2⟩:=List.getElem?_eq_some_iff.1 h2
   obtain⟨l3,l4⟩:=List.getElem?_eq_some_iff.1 hx
   have:=List.pairwise_iff_getElem.1 hnd j' j l1 l3 h1
   rw [l2,l4]at this
   exact this (by omega) h4
end
section
variable {P0:Program}{E:Env}{F:T CFn}{K:T (List AV×AV)}(L:Lg P0 E F K)(X:Fx F K)
include L X
omit L X in
theorem RlP.inv {sz:Nat}{l:List JPg}{S S':Ap}{o:WO}(h:RlP sz l S S' o)(q:AInv S):AInv S'∧Keep S S'∧o≠ .pow∧(o= .full→ ∀i,i<S.D.nb→S'.ps i≠1):=by
 induction h with
 |nil=>exact⟨q,.refl _,by simp,fun h=>by cases h⟩
 |cons h _ ih=>
  obtain⟨a,b,c,d,-⟩:=h.inv q
  have f:=h.fr
  obtain⟨a',b',c',d'⟩:=ih a
  exact⟨a',b.trans b' f.nb,c',fun hr i hi=>d' hr i (by rw [f.nb];exact hi)⟩
 |bad h ho=>
  obtain⟨a,b,c,d,-⟩:=h.inv q
  exact⟨a,b,c,d⟩
omit L X in
theorem RcP.inv {k:Nat}{es:List Ent}{S S':Ap}{o:WO}(h:RcP k es S S' o)(q:AInv S):AInv S'∧Keep S S'∧o≠ .pow∧(o= .full→ ∀i,i<S.D.nb→S'.ps i≠1):=by
 have q1:AInv {S with next:=S.next+recN S es}:=q.nw (S.next+recN S es) S.last S.wr
 cases h with
 |ok h=>
  obtain⟨a,b,c,d⟩:=h.inv q1
  exact⟨a.nw _ _ _,⟨b.nx,b.pg,b.ps3,b.psm,b.jrm,b.n1⟩,c,fun h=>by cases h⟩
 |bad h _=>
  obtain⟨a,b,c,d⟩:=h.inv q1
  exact⟨a,⟨b.nx,b.pg,b.ps3,b.psm,b.jrm,b.n1⟩,c,d⟩
end
section
variable {P0:Program}{E:Env}{F:T CFn}{K:T (List AV×AV)}(L:Lg P0 E F K)(X:Fx F K)
include L X
omit L X in
theorem AInv.app {S:Ap}{es:List Ent}(q:AInv S)(ok: ∀j x,es[j]?=some x→okE S.S (S.D.nb*S.D.P) (stA S.A es j) x)
  (hp: ∀e∈es,0≤e.2→ ∃data,PgOk S e.1 data e.2):AInv {S with A:=stA S.A es es.length}:=by
 have hinv:InvA S.S (S.D.nb*S.D.P) S.A:=by
  refine⟨fun s p h=>?_,q.inj⟩
  obtain⟨h1,h2,b,j,h3,h4,h5,-⟩:=q.map s p h
  refine⟨h1,h2,by omega,?_⟩
  have:=Nat.mul_le_mul_right S.D.P (show b+1≤S.D.nb from h4)
  rw [Nat.succ_mul]at this
  omega
 have hinv2:=hinv.st es.length (Nat.le_refl _) fun j x _ hx=>ok j x hx
 refine⟨q.geo,q.off,q.cut,q.dn,⟨fun k=>⟨(q.iw.wi k).sel,(q.iw.wi k).lo⟩,q.iw.ne⟩,q.nxP,q.op2,q.free,q.jr,q.jlog,q.jdat,fun s p h=>?_,hinv2.inj⟩
 obtain⟨h1,h2,-,-⟩:=hinv2.rg s p h
 refine⟨h1,h2,?_⟩
 rcases Gv es.length s p h with g|⟨j,e,g1,g2,g3,g4,g5⟩
 ·exact(q.map s p g).2.2
 ·obtain⟨data,hd⟩:=hp e (List.mem_of_getElem? g2) (by omega)
  obtain⟨b,i,n,f1,f2,f3,f4,f5,f6,f7⟩:=hd.ex
  exact⟨b,i,by rw [←g4];exact f1,f2,f3,f4,f5,f6,by rw [f7]⟩
end
section
variable {P0:Program}{E:Env}{F:T CFn}{K:T (List AV×AV)}(L:Lg P0 E F K)(X:Fx F K)
include L X
omit L X in
theorem AppP.pg {l:List (Int×Option (List Nat))}{S S':Ap}{es:List Ent}{o:WO}(h:AppP l S es S' o)(q:AInv S): ∀e∈es,0≤e.2→ ∃data,(e.1,some data)∈l∧PgOk S' e.1 data e.2:=by
 induction h with
 |nil=>intro e he;cases he
 | @put sec data l S S1 S' p es o h r ih=>
  obtain⟨a,b,-⟩:=h.inv q
  obtain⟨-,k',f',-⟩:=r.inv a
  intro e he h0
  rcases List.mem_cons.1 he with rfl|he
  ·obtain⟨g,-⟩:=h.pg q
   exact⟨data,List.mem_cons_self ..,g.keep k' f'.P f'.nb⟩
  ·obtain⟨d,h1,h2⟩:=ih a e he h0
   exact⟨d,List.mem_cons_of_mem _ h1,h2⟩
 |bad h ho=>intro e he;cases he
 |trim _ _ ih=>
  intro e he h0
  rcases List.mem_cons.1 he with rfl|he
  ·simp only at h0;omega
  ·obtain⟨d,h1,h2⟩:=ih q e he h0
   exact⟨d,List.mem_cons_of_mem _ h1,h2⟩
 |skip _ _ ih=>
  intro e he h0
  obtain⟨d,h1,h2⟩:=ih q e he h0
  exact⟨d,List.mem_cons_of_mem _ h1,h2⟩
omit L X in
theorem CmP.inv {es:List Ent}{S S':Ap}{o:WO}(h:CmP es S S' o)(q:AInv S)(ok: ∀j x,es[j]?=some x→okE S.S (S.D.nb*S.D.P) (stA S.A es j) x)(hp: ∀e∈es,0≤e.2→ ∃data,PgOk S e.1 data e.2):
  AInv S'∧Keep S S'∧o≠ .pow∧(o= .full→(∀i,i<S.D.nb→S'.ps i≠1)∧S'.A=S.A)∧(o= .done 0→S'.A=stA S.A es es.length):=by
 cases h with
 |nil h=>subst h;exact⟨q,.refl _,by simp,(fun h=>by cases h),fun _=>rfl⟩
 |ok h hn=>
  obtain⟨a,b,c,d⟩:=h.inv q
  obtain⟨f,-⟩:=h.fr q.iw
  have e:=f.A
  refine⟨a.app (es:=es) ?_ fun x hx h0=>?_,⟨b.nx,b.pg,b.ps3,b.psm,b.jrm,b.n1⟩,by simp,(fun h=>by cases h),fun _=>by show stA _ _ _=_;rw [e]⟩
  ·rw [f.secs,f.nb,f.P,e];exact ok
  ·obtain⟨data,hd⟩:=hp x hx h0
   exact⟨data,hd.keep b f.P f.nb⟩
 |bad h ho=>
  obtain⟨a,b,c,d⟩:=h.inv q
  obtain⟨f,-⟩:=h.fr q.iw
  exact⟨a,b,c,fun hr=>⟨d hr,f.A⟩,fun hr=>by rcases ho with e|e <;> rw [e]at hr <;> cases hr⟩
end
section
variable {P0:Program}{E:Env}{F:T CFn}{K:T (List AV×AV)}(L:Lg P0 E F K)(X:Fx F K)
include L X
omit L X in
theorem ApdP.inv {l:List (Int×Option (List Nat))}{S S':Ap}{o:WO}(h:ApdP l S S' o)(q:AInv S)(hr: ∀y∈l,0≤y.1∧y.1<((S.S:Nat):Int)):
  AInv S'∧Keep S S'∧o≠ .pow∧(o= .full→(∀i,i<S.D.nb→S'.ps i≠1)∧S'.A=S.A)∧
   (o= .done 0→ ∃es S1,AppP l S es S1 (.done 0)∧S'.A=stA S.A es es.length∧ ∀e∈es,0≤e.2→ ∃data,(e.1,some data)∈l∧PgOk S' e.1 data e.2):=by
 have key: ∀{es:List Ent} {S1 S2:Ap} {o:WO},AppP l S es S1 (.done 0)→CmP es S1 S2 o→AInv S2∧Keep S S2∧o≠ .pow∧(o= .full→(∀i,i<S.D.nb→S2.ps i≠1)∧S2.A=S.A)∧
   (o= .done 0→S2.A=stA S.A es es.length∧ ∀e∈es,0≤e.2→ ∃data,(e.1,some data)∈l∧PgOk S2 e.1 data e.2):=by
  intro es S1 S2 o a c
  obtain⟨q1,k1,f1,-,-⟩:=a.inv q
  have hp:=a.pg q
  obtain⟨q2,k2,h2,h3,h4⟩:=c.inv q1 (by rw [f1.secs,f1.nb,f1.P,f1.A];exact a.ok q hr) fun e he h0=>let⟨d,_,h⟩:=hp e he h0;⟨d,h⟩
  obtain⟨⟨g1,g2,-⟩,-⟩:=c.fr q1.iw
  refine⟨q2,k1.trans k2 f1.nb,h2,fun ho=>⟨fun i hi=>(h3 ho).1 i (by rw [f1.nb];exact hi),(h3 ho).2.trans f1.A⟩,fun ho=>⟨by rw [h4 ho,f1.A],fun e he h0=>?_⟩⟩
  obtain⟨d,e1,e2⟩:=hp e he h0
  exact⟨d,e1,e2.keep k2 g2 g1⟩
 cases h with
 |ok a c=>
  obtain⟨h1,h2,h3,h4,h5⟩:=key a c
  exact⟨h1,h2,h3,h4,fun ho=>⟨_,_,a,(h5 ho).1,(h5 ho).2⟩⟩
 |bad a ho=>
  obtain⟨q1,k1,f1,h4,h5⟩:=a.inv q
  exact⟨q1,k1,h4,fun hr=>⟨h5 hr,f1.A⟩,fun hr=>by rcases ho with e|e <;> rw [e]at hr <;> cases hr⟩
 |bad2 a c ho=>
  obtain⟨h1,h2,h3,h4,h5⟩:=key a c
  exact⟨h1,h2,h3,h4,fun hr=>by rcases ho with e|e <;> rw [e]at hr <;> cases hr⟩
end
section
variable {P0:Program}{E:Env}{F:T CFn}{K:T (List AV×AV)}(L:Lg P0 E F K)(X:Fx F K)
include L X
omit L X in
theorem O1 {P b j:Nat}(hj:j<P):(b*P+j) / P=b∧(b*P+j) % P=j:=by
 rw [Nat.add_comm]
 exact⟨by rw [Nat.add_mul_div_right _ _ (by omega),Nat.div_eq_of_lt hj,Nat.zero_add],by rw [Nat.add_mul_mod_self_right,Nat.mod_eq_of_lt hj]⟩
omit L X in
theorem PgOk.rd {S:Ap}{s:Int}{data:List Nat}{p:Int}(q:PgOk S s data p)(h:S.A s=some p)(hd:data.length=S.D.sz):S.rd s=data:=by
 obtain⟨b,j,n,h1,h2,h3,h4,h5,h6,h7⟩:=q.ex
 obtain⟨g1,g2⟩:=O1 (b:=b) h3
 unfold Ap.rd
 rw [h]
 simp only [h1,Int.toNat_natCast,g1,g2,h7]
 rw [←hd,List.take_left']
 rfl
omit L X in
theorem Hi {S S':Ap}(q:AInv S)(k:Keep S S')(g:S'.D.P=S.D.P∧S'.D.sz=S.D.sz){s:Int}(h:S'.A s=S.A s):S'.rd s=S.rd s:=by
 unfold Ap.rd
 rw [h,g.1,g.2]
 cases hs:S.A s with
 |none=>rfl
 |some p=>
  obtain⟨-,-,b,j,h1,h2,h3,h4,h5,h6,h7⟩:=q.map s p hs
  obtain⟨g1,g2⟩:=O1 (b:=b) h3
  simp only [h1,Int.toNat_natCast,g1,g2]
  rw [k.pg b j h2 h6]
omit L X in
theorem AInv.rdOk {S:Ap}(q:AInv S){s:Int}: ∀p:Int,S.A s=some p→p.toNat / S.D.P<S.D.nb∧p.toNat % S.D.P<(S.D.bl (p.toNat / S.D.P)).nx∧(((S.D.bl (p.toNat / S.D.P)).pg (p.toNat % S.D.P)).st=2∨((S.D.bl (p.toNat / S.D.P)).pg (p.toNat % S.D.P)).st=3):=by
 intro p hp
 obtain⟨-,-,b,j,h1,h2,h3,h4,h5,h6,h7⟩:=q.map s p hp
 obtain⟨g1,g2⟩:=O1 (b:=b) h3
 rw [h1,Int.toNat_natCast,g1,g2]
 exact⟨h2,h6,.inl h7⟩
end
section
variable {P0:Program}{E:Env}{F:T CFn}{K:T (List AV×AV)}(L:Lg P0 E F K)(X:Fx F K)
include L X
omit L X in
theorem AInv.ers {S:Ap}{b:Nat}(q:AInv S)(hb:b<S.D.nb)(h3:S.ps b=3)(hm: ∀s p,S.A s=some p→ ∀j:Nat,j<S.D.P→p≠((b*S.D.P+j:Nat):Int))(hj:S.jr ((b:Nat):Int)=false):
  AInv (S.ers b).1∧(S.ers b).2= .done 0:=by
 have nb2:((b:Nat):Int)≠S.dat∨S.dat<0:=by
  by_cases h:0≤S.dat
  ·obtain⟨g1,g2⟩:=(q.iw.wi false).sel h
   have g2':S.ps S.dat.toNat=2:=g2
   exact .inl fun e=>by rw [←e,Int.toNat_natCast]at g2';omega
  ·exact .inr (by omega)
 have nb3:((b:Nat):Int)≠S.log∨S.log<0:=by
  by_cases h:0≤S.log
  ·obtain⟨g1,g2⟩:=(q.iw.wi true).sel h
   have g2':S.ps S.log.toNat=2:=g2
   exact .inl fun e=>by rw [←e,Int.toNat_natCast]at g2';omega
  ·exact .inr (by omega)
 have key: ∀(D':Dv) (su:Int→Bool) (wr:Int→Option Nat) (v:Nat) (pe:Nat→Nat),D'.nb=S.D.nb→D'.P=S.D.P→D'.sz=S.D.sz→D'.en=S.D.en→D'.off=false→D'.cut= -1→(∀i,i≠b→D'.bl i=S.D.bl i)→(D'.bl b).nx≤S.D.P→v≠2→(v=1→(D'.bl b).nx=0)→
   AInv {S with D:=D',su:=su,wr:=wr,ps:=upd S.ps b v,pe:=pe}:=by
  intro D' su wr v pe h1 h2 h3' h4 h5 h6 h7 h8 h9 h10
  have ps: ∀i,S.ps i=2→upd S.ps b v i=2:=fun i h=>by rw [upd_ne _ _ (fun e=>by subst e;omega)];exact h
  refine⟨⟨by show 2≤D'.nb∧D'.nb≤12;rw [h1];exact q.geo.nb,by show 2≤D'.P∧D'.P≤6;rw [h2];exact q.geo.P,by show 12≤D'.sz∧D'.sz≤30;rw [h3'];exact q.geo.sz,by show 1≤D'.en∧D'.en≤1000;rw [h4];exact q.geo.en⟩,h5,h6,q.dn,⟨fun k=>⟨fun h=>?_,(q.iw.wi k).lo⟩,q.iw.ne⟩,fun i hi=>?_,fun i hi h=>?_,fun i hi h=>?_,fun y hy=>?_,q.jlog,q.jdat,fun s p h=>?_,q.inj⟩
  ·obtain⟨g1,g2⟩:=(q.iw.wi k).sel h
   exact⟨by show S.sel k<((D'.nb:Nat):Int);rw [h1];exact g1,ps _ g2⟩
  ·show(D'.bl i).nx≤D'.P
   have hi':i<D'.nb:=hi
   rw [h2]
   by_cases e:i=b
   ·subst e;exact h8
   ·rw [h7 i e];exact q.nxP i (by omega)
  ·have hi':i<D'.nb:=hi
   have h':upd S.ps b v i=2:=h
   by_cases e:i=b
   ·subst e;rw [upd_eq]at h';exact absurd h' h9
   ·rw [upd_ne _ _ e]at h';exact q.op2 i (by omega) h'
  ·have hi':i<D'.nb:=hi
   have h':upd S.ps b v i=1:=h
   show(D'.bl i).nx=0
   by_cases e:i=b
   ·subst e;rw [upd_eq]at h';exact h10 h'
   ·rw [upd_ne _ _ e]at h';rw [h7 i e];exact q.free i (by omega) h'
  ·obtain⟨i,e1,e2,e3⟩:=q.jr y hy
   have hib:i≠b:=fun e=>by subst e;have hy':S.jr y=true:=hy;rw [e1,hj]at hy';cases hy'
   refine⟨i,e1,by show i<D'.nb;rw [h1];exact e2,?_⟩
   show upd S.ps b v i=3∨upd S.ps b v i=2∧_
   rw [upd_ne _ _ hib];exact e3
  ·obtain⟨e1,e2,i,j,g1,g2,g3,g4,g5,g6,g7⟩:=q.map s p h
   have hib:i≠b:=fun e=>by subst e;exact hm s p h j g3 g1
   refine⟨e1,e2,i,j,by show p=((i*D'.P+j:Nat):Int);rw [h2];exact g1,by show i<D'.nb;rw [h1];exact g2,by show j<D'.P;rw [h2];exact g3,?_,g5,by show j<(D'.bl i).nx;rw [h7 i hib];exact g6,by show((D'.bl i).pg j).st=2;rw [h7 i hib];exact g7⟩
   show upd S.ps b v i=2∨upd S.ps b v i=3
   rw [upd_ne _ _ hib];exact g4
 have hn: ¬((S.D.n:Int)=S.D.cut):=by rw [q.cut];omega
 unfold Ap.ers
 by_cases hs:S.su ((b:Nat):Int)=true
 ·rw [if_pos hs]
  exact⟨key S.D _ S.wr 4 S.pe rfl rfl rfl rfl q.off q.cut (fun _ _=>rfl) (q.nxP b hb) (by omega) (fun h=>by cases h),rfl⟩
 ·rw [if_neg hs]
  have he:S.D.erase ((b:Nat):Int)=if S.D.en≤(S.D.bl b).er then(S.D,56)else if S.D.flt S.D.n=true then({S.D with bl:=upd S.D.bl b ⟨Dg 5,S.D.P,(S.D.bl b).er+1⟩,n:=S.D.n+1},55)else({S.D with bl:=upd S.D.bl b ⟨Dg 1,0,(S.D.bl b).er+1⟩,n:=S.D.n+1},0):=by
   unfold Dv.erase
   rw [if_pos ⟨by omega,by omega⟩,if_neg (by rw [q.off];simp),if_neg hn]
   simp only [Int.toNat_natCast]
  rw [he]
  by_cases c1:S.D.en≤(S.D.bl b).er
  ·simp only [if_pos c1]
   exact⟨key S.D S.su _ 4 S.pe rfl rfl rfl rfl q.off q.cut (fun _ _=>rfl) (q.nxP b hb) (by omega) (fun h=>by cases h),rfl⟩
  ·by_cases c2:S.D.flt S.D.n=true
   ·simp only [if_neg c1,if_pos c2]
    exact⟨key {S.D with bl:=upd S.D.bl b ⟨Dg 5,S.D.P,(S.D.bl b).er+1⟩,n:=S.D.n+1} S.su _ 4 S.pe rfl rfl rfl rfl q.off q.cut (fun i h=>upd_ne _ _ h) (by show(upd S.D.bl b _ b).nx≤_;rw [upd_eq];exact Nat.le_refl _) (by omega) (fun h=>by cases h),rfl⟩
   ·simp only [if_neg c1,if_neg c2]
    exact⟨key {S.D with bl:=upd S.D.bl b ⟨Dg 1,0,(S.D.bl b).er+1⟩,n:=S.D.n+1} S.su _ 1 _ rfl rfl rfl rfl q.off q.cut (fun i h=>upd_ne _ _ h) (by show(upd S.D.bl b _ b).nx≤_;rw [upd_eq];exact Nat.zero_le _) (by omega) (fun _=>by show(upd S.D.bl b _ b).nx=0;rw [upd_eq]),rfl⟩
end
section
variable {P0:Program}{E:Env}{F:T CFn}{K:T (List AV×AV)}(L:Lg P0 E F K)(X:Fx F K)
include L X
omit L X in
theorem AInv.unj {S:Ap}{b:Nat}(q:AInv S)(h3:S.ps b=3):AInv {S with jr:=Bb S.jr ((b:Nat):Int) false}:=by
 have ne: ∀k,0≤S.sel k→S.sel k≠((b:Nat):Int):=fun k h e=>by
  obtain⟨g1,g2⟩:=(q.iw.wi k).sel h
  rw [e,Int.toNat_natCast]at g2;omega
 refine⟨q.geo,q.off,q.cut,q.dn,⟨fun k=>⟨(q.iw.wi k).sel,(q.iw.wi k).lo⟩,q.iw.ne⟩,q.nxP,q.op2,q.free,fun y hy=>?_,fun h=>?_,fun h=>?_,fun s p h=>?_,q.inj⟩
 ·have hy':Bb S.jr ((b:Nat):Int) false y=true:=hy
  unfold Bb at hy'
  split at hy'
  ·cases hy'
  ·exact q.jr y hy'
 ·show Bb S.jr ((b:Nat):Int) false S.log=true
  unfold Bb;rw [if_neg (show¬S.log=((b:Nat):Int) from ne true h)];exact q.jlog h
 ·show Bb S.jr ((b:Nat):Int) false S.dat=false
  unfold Bb;rw [if_neg (show¬S.dat=((b:Nat):Int) from ne false h)];exact q.jdat h
 ·obtain⟨e1,e2,i,j,g1,g2,g3,g4,g5,g6⟩:=q.map s p h
  refine⟨e1,e2,i,j,g1,g2,g3,g4,?_,g6⟩
  show Bb S.jr ((b:Nat):Int) false ((i:Nat):Int)=false
  unfold Bb;split
  ·rfl
  ·exact g5
omit L X in
theorem vw (S:Ap)(b:Nat)(f:Int→Bool):({S with jr:=f}:Ap).ers b=({(S.ers b).1 with jr:=f},(S.ers b).2):=by
 unfold Ap.ers
 by_cases h1:S.su ((b:Nat):Int)=true
 ·rw [if_pos h1,if_pos h1]
 ·rw [if_neg h1,if_neg h1]
  by_cases h2:(S.D.erase ((b:Nat):Int)).2=50
  ·rw [if_pos h2,if_pos h2]
  ·rw [if_neg h2,if_neg h2]
   by_cases h3:(S.D.erase ((b:Nat):Int)).2=0
   ·rw [if_pos h3,if_pos h3]
   ·rw [if_neg h3,if_neg h3]
omit L X in
theorem Rt (S:Ap)(b:Nat):(S.ers b).1.jr=S.jr:=by
 unfold Ap.ers
 split
 ·rfl
 ·split
  ·rfl
  ·split <;> rfl
omit L X in
theorem AInv.ersJ {S:Ap}{b:Nat}(q:AInv S)(hb:b<S.D.nb)(h3:S.ps b=3)(hj:S.jr ((b:Nat):Int)=true):
  AInv {(S.ers b).1 with jr:=Bb (S.ers b).1.jr ((b:Nat):Int) false}∧(S.ers b).2= .done 0:=by
 have q1:=q.unj h3
 have h:=q1.ers (b:=b) hb h3 (fun s p h j hj2 e=>?_) (by show Bb _ _ _ _=_;unfold Bb;rw [if_pos rfl])
 ·rw [vw]at h
  rw [Rt]
  exact h
 ·obtain⟨-,-,i,m,g1,g2,g3,g4,g5,-⟩:=q.map s p h
  obtain⟨rfl,-⟩:=Ij g3 hj2 (show i*S.D.P+m=b*S.D.P+j by have e':p=((b*S.D.P+j:Nat):Int):=e;omega)
  rw [hj]at g5;cases g5
end
section
variable {P0:Program}{E:Env}{F:T CFn}{K:T (List AV×AV)}(L:Lg P0 E F K)(X:Fx F K)
include L X
omit L X in
structure Bd (S:Ap)(k:Nat):Prop where
 last:S.last<S.next
 wr: ∀b n,S.wr b=some n→n<S.next
 pe: ∀b,S.pe b≤k
 nx:S.next≤k+1
 dn:S.D.n≤k
omit L X in
theorem Bd.mono {S:Ap}{k k':Nat}(q:Bd S k)(h:k≤k'):Bd S k':=⟨q.last,q.wr,fun b=>Nat.le_trans (q.pe b) h,by have:=q.nx;omega,Nat.le_trans q.dn h⟩
omit L X in
theorem StP.bd {sec:Int}{data:List Nat}{S S':Ap}{o:WO}{k:Nat}(h:StP sec data S S' o)(iw:IW S)(hn:S.D.nb≤12)(q:Bd S k):Bd S' (k+30):=by
 obtain⟨f,-,h1,h2⟩:=h.fr iw
 have l1:=q.last
 have l2:=q.nx
 have l3:=q.dn
 refine⟨by rw [f.last,h2];omega,fun b n e=>?_,fun b=>by rw [f.pe];have:=q.pe b;omega,by rw [h2];omega,by omega⟩
 rw [h2]
 cases h with
 |ok h=>
  have g:=h.fr.wr
  simp only [Ls]at e
  split at e
  ·cases e;omega
  ·rw [g]at e;have:=q.wr b n e;omega
 |bad h _=>have g:=h.fr.wr;rw [g]at e;have:=q.wr b n e;omega
omit L X in
theorem AppP.bd {l:List (Int×Option (List Nat))}{S S':Ap}{es:List Ent}{o:WO}(h:AppP l S es S' o): ∀{k:Nat},IW S→S.D.nb≤12→Bd S k→Bd S' (k+30*l.length):=by
 induction h with
 |nil=>intro k _ _ q;exact q.mono (Nat.le_add_right _ _)
 |put h _ ih=>
  intro k iw hn q
  obtain⟨f,iw1,-⟩:=h.fr iw
  exact(ih iw1 (by rw [f.nb];exact hn) (h.bd iw hn q)).mono (by rw [List.length_cons];omega)
 |bad h _=>intro k iw hn q;exact(h.bd iw hn q).mono (by rw [List.length_cons];omega)
 |trim _ _ ih=>intro k iw hn q;exact(ih iw hn q).mono (by rw [List.length_cons];omega)
 |skip _ _ ih=>intro k iw hn q;exact(ih iw hn q).mono (by rw [List.length_cons];omega)
omit L X in
theorem AppP.len {l:List (Int×Option (List Nat))}{S S':Ap}{es:List Ent}{o:WO}(h:AppP l S es S' o):es.length≤l.length:=by
 induction h with
 |nil=>exact Nat.le_refl _
 |put _ _ ih=>exact Nat.succ_le_succ ih
 |bad _ _=>exact Nat.zero_le _
 |trim _ _ ih=>exact Nat.succ_le_succ ih
 |skip _ _ ih=>exact Nat.le_succ_of_le ih
omit L X in
theorem RcP.bd {t:Nat}{es:List Ent}{S S':Ap}{o:WO}{k:Nat}(h:RcP t es S S' o)(iw:IW S)(hn:S.D.nb≤12)(q:Bd S k):Bd S' (k+30*recN S es):=by
 obtain⟨f,-,h1,h2⟩:=h.fr iw
 have l1:=q.last
 have l2:=q.nx
 have l3:=q.dn
 have hm:(2*S.D.nb+2)*recN S es≤30*recN S es:=Nat.mul_le_mul_right _ (by omega)
 have hl:S'.last<S'.next:=by
  rw [h2]
  cases h with
  |ok h=>simp only;omega
  |bad h _=>have:=(h.fr (S:= {S with next:=S.next+recN S es}) ⟨fun k=>⟨(iw.wi k).sel,(iw.wi k).lo⟩,iw.ne⟩).1.last;rw [this];simp only;omega
 exact⟨hl,fun b n e=>by rw [f.wr]at e;have:=q.wr b n e;omega,fun b=>by rw [f.pe];have:=q.pe b;omega,by omega,by omega⟩
omit L X in
theorem CmP.bd {es:List Ent}{S S':Ap}{o:WO}{k:Nat}(h:CmP es S S' o)(iw:IW S)(hn:S.D.nb≤12)(q:Bd S k):Bd S' (k+30*recN S es):=by
 cases h with
 |nil h=>exact q.mono (Nat.le_add_right _ _)
 |ok h _=>have:=h.bd iw hn q;exact⟨this.last,this.wr,this.pe,this.nx,this.dn⟩
 |bad h _=>exact h.bd iw hn q
omit L X in
theorem Vt {S:Ap}{k:Nat}(b:Nat)(q:Bd S k):Bd (S.ers b).1 (k+1):=by
 have l2:=q.nx
 have l3:=q.dn
 have g:=(S.D.erase_geo ((b:Nat):Int)).2.1
 have hp: ∀i,S.pe i≤k+1:=fun i=>by have:=q.pe i;omega
 have hw: ∀i n,Ls S.wr ((b:Nat):Int) none i=some n→n<S.next:=fun i n e=>by
  simp only [Ls]at e
  split at e
  ·cases e
  ·exact q.wr i n e
 unfold Ap.ers
 split
 ·exact⟨q.last,q.wr,hp,by simp only;omega,by simp only;omega⟩
 ·split
  ·exact⟨q.last,q.wr,hp,by simp only;omega,by simp only;omega⟩
  ·split
   ·refine⟨q.last,hw,fun i=>?_,by simp only;omega,by simp only;omega⟩
    show upd S.pe b (S.pe b+1) i≤k+1
    by_cases e:i=b
    ·subst e;rw [upd_eq];have:=q.pe i;omega
    ·rw [upd_ne _ _ e];exact hp i
   ·exact⟨q.last,hw,hp,by simp only;omega,by simp only;omega⟩
omit L X in
theorem ErP.bd {l:List Int}{S S':Ap}{o:WO}(h:ErP l S S' o): ∀{k:Nat},Bd S k→Bd S' (k+l.length):=by
 induction h with
 |nil=>intro k q;exact q
 | @cons b l S S' o h t ih=>
  intro k q
  have q1:=Vt b q
  exact(ih ⟨q1.last,q1.wr,q1.pe,q1.nx,q1.dn⟩).mono (by rw [List.length_cons];omega)
 | @bad b l S h=>intro k q;exact(Vt b q).mono (by rw [List.length_cons];omega)
omit L X in
theorem Nb {S:Ap}{es:List Ent}(h:12≤S.D.sz):recN S es≤es.length+1:=Km h
omit L X in
theorem ApdP.bd {l:List (Int×Option (List Nat))}{S S':Ap}{o:WO}{k:Nat}(h:ApdP l S S' o)(q:AInv S)(b:Bd S k)(hl:l.length≤6):Bd S' (k+1000):=by
 have hn:=q.geo.nb.2
 have key: ∀{es:List Ent} {S1 S2:Ap} {o:WO},AppP l S es S1 (.done 0)→CmP es S1 S2 o→Bd S2 (k+1000):=by
  intro es S1 S2 o a c
  obtain⟨q1,k1,f1,-,-⟩:=a.inv q
  have b1:=a.bd q.iw hn b
  have b2:=c.bd q1.iw (by rw [f1.nb];exact hn) b1
  have hr:recN S1 es≤es.length+1:=Nb (by rw [f1.sz];exact q.geo.sz.1)
  have he:=a.len
  exact b2.mono (by omega)
 cases h with
 |ok a c=>exact key a c
 |bad a ho=>exact(a.bd q.iw hn b).mono (by omega)
 |bad2 a c ho=>exact key a c
end
section
variable {P0:Program}{E:Env}{F:T CFn}{K:T (List AV×AV)}(L:Lg P0 E F K)(X:Fx F K)
include L X
omit L X in
structure Sm (S S':Ap):Prop where
 nb:S'.D.nb=S.D.nb
 P:S'.D.P=S.D.P
 sz:S'.D.sz=S.D.sz
 en:S'.D.en=S.D.en
 secs:S'.S=S.S
omit L X in
theorem Sm.trans {S S1 S2:Ap}(a:Sm S S1)(b:Sm S1 S2):Sm S S2:=⟨b.nb.trans a.nb,b.P.trans a.P,b.sz.trans a.sz,b.en.trans a.en,b.secs.trans a.secs⟩
omit L X in
theorem FrS.sm {S S':Ap}(f:FrS S S'):Sm S S':=⟨f.nb,f.P,f.sz,f.en,f.secs⟩
omit L X in
theorem Vu: ∀(es:List Ent) (A:Int→Option Int),(es.map (·.1)).Nodup→(∀s,s∉es.map (·.1)→es.foldl Cr A s=A s)∧ ∀e∈es,es.foldl Cr A e.1=if 0≤e.2 then some e.2 else none
 | [],A,_=>⟨fun _ _=>rfl,fun e he=>by cases he⟩
 |x::r,A,h=>by
  rw [List.map_cons,List.nodup_cons]at h
  obtain⟨h1,h2⟩:=Vu r (Cr A x) h.2
  refine⟨fun s hs=>?_,fun e he=>?_⟩
  ·rw [List.map_cons,List.mem_cons,not_or]at hs
   rw [List.foldl_cons,h1 s hs.2]
   unfold Cr;rw [if_neg hs.1]
  ·rw [List.foldl_cons]
   rcases List.mem_cons.1 he with rfl|he
   ·rw [h1 _ h.1];unfold Cr;rw [if_pos rfl]
   ·exact h2 e he
omit L X in
theorem W9 (es:List Ent)(A:Int→Option Int):stA A es es.length=es.foldl Cr A:=by unfold stA;rw [List.take_length]
omit L X in
theorem jh {S:Ap}(q:AInv S)(ok:S.D.Ok)(s:Int):(S.rd s).length=S.D.sz:=by
 unfold Ap.rd
 cases hs:S.A s with
 |none=>exact List.length_replicate
 |some p=>
  obtain⟨-,-,b,j,h1,h2,h3,h4,h5,h6,h7⟩:=q.map s p hs
  obtain⟨g1,g2⟩:=O1 (b:=b) h3
  have:=((ok.bl b h2).pg j h3).full (.inl h7)
  simp only [h1,Int.toNat_natCast,g1,g2,List.length_take]
  omega
omit L X in
theorem AppP.keys {l:List (Int×Option (List Nat))}{S S':Ap}{es:List Ent}{o:WO}(h:AppP l S es S' o)(q:AInv S)(ho:o= .done 0):
  (es.map (·.1)).Sublist (l.map (·.1))∧(∀s d,(s,some d)∈l→ ∃p:Nat,(s,((p:Nat):Int))∈es)∧(∀s,(s,none)∈l→(s,-1)∈es∨S.A s=none):=by
 induction h with
 |nil=>exact⟨.slnil,(fun s d h=>by cases h),fun s h=>by cases h⟩
 | @put sec data l S S1 S' p es o h r ih=>
  obtain⟨a,-⟩:=h.inv q
  have f:=(h.fr q.iw).1
  obtain⟨h1,h2,h3⟩:=ih a ho
  refine⟨h1.cons_cons _,fun s d hm=>?_,fun s hm=>?_⟩
  ·rcases List.mem_cons.1 hm with e|hm
   ·cases e;exact⟨p,List.mem_cons_self ..⟩
   ·obtain⟨p',h⟩:=h2 s d hm;exact⟨p',List.mem_cons_of_mem _ h⟩
  ·rcases List.mem_cons.1 hm with e|hm
   ·cases e
   ·rcases h3 s hm with h|h
    ·exact .inl (List.mem_cons_of_mem _ h)
    ·exact .inr (by rw [f.A]at h;exact h)
 |bad h ho'=>rcases ho' with e|e <;> rw [e]at ho <;> cases ho
 | @trim sec l S S' es o h r ih=>
  obtain⟨h1,h2,h3⟩:=ih q ho
  refine⟨h1.cons_cons _,fun s d hm=>?_,fun s hm=>?_⟩
  ·rcases List.mem_cons.1 hm with e|hm
   ·cases e
   ·obtain⟨p',h⟩:=h2 s d hm;exact⟨p',List.mem_cons_of_mem _ h⟩
  ·rcases List.mem_cons.1 hm with e|hm
   ·cases e;exact .inl (List.mem_cons_self ..)
   ·rcases h3 s hm with h|h
    ·exact .inl (List.mem_cons_of_mem _ h)
    ·exact .inr h
 | @skip sec l S S' es o h r ih=>
  obtain⟨h1,h2,h3⟩:=ih q ho
  refine⟨h1.cons _,fun s d hm=>?_,fun s hm=>?_⟩
  ·rcases List.mem_cons.1 hm with e|hm
   ·cases e
   ·exact h2 s d hm
  ·rcases List.mem_cons.1 hm with e|hm
   ·cases e;exact .inr h
   ·exact h3 s hm
omit L X in
theorem ApdP.sm {l:List (Int×Option (List Nat))}{S S':Ap}{o:WO}(h:ApdP l S S' o)(q:AInv S):Sm S S':=by
 have key: ∀{es:List Ent} {S1 S2:Ap} {o:WO},AppP l S es S1 (.done 0)→CmP es S1 S2 o→Sm S S2:=by
  intro es S1 S2 o a c
  obtain⟨q1,k1,f1,-,-⟩:=a.inv q
  obtain⟨⟨g1,g2,g3,g4,g5,-⟩,-⟩:=c.fr q1.iw
  exact f1.sm.trans ⟨g1,g2,g3,g4,g5⟩
 cases h with
 |ok a c=>exact key a c
 |bad a ho=>exact(a.inv q).2.2.1.sm
 |bad2 a c ho=>exact key a c
omit L X in
theorem ApdP.rd {l:List (Int×Option (List Nat))}{S S':Ap}(h:ApdP l S S' (.done 0))(q:AInv S)(hr: ∀y∈l,0≤y.1∧y.1<((S.S:Nat):Int))(hnd:(l.map (·.1)).Nodup)(hd: ∀s d,(s,some d)∈l→d.length=S.D.sz):
  (∀s,s∉l.map (·.1)→S'.rd s=S.rd s)∧(∀s d,(s,some d)∈l→S'.rd s=d)∧(∀s,(s,none)∈l→S'.rd s=List.replicate S.D.sz 0):=by
 obtain⟨q',k',-,-,hok⟩:=h.inv q hr
 obtain⟨es,S1,a,hA,hp⟩:=hok rfl
 have sm:=h.sm q
 obtain⟨h1,h2,h3⟩:=a.keys q rfl
 obtain⟨n1,n2⟩:=Vu es S.A (hnd.sublist h1)
 rw [W9]at hA
 refine⟨fun s hs=>?_,fun s d hm=>?_,fun s hm=>?_⟩
 ·refine Hi q k' ⟨sm.P,sm.sz⟩ ?_
  rw [hA];exact n1 s fun e=>hs (h1.subset e)
 ·obtain⟨p,he⟩:=h2 s d hm
  obtain⟨d',g1,g2⟩:=hp _ he (by simp only;omega)
  have e:d'=d:=by
   obtain⟨i,hi,ei⟩:=List.getElem_of_mem hm
   obtain⟨j,hj,ej⟩:=List.getElem_of_mem g1
   have:=(List.pairwise_iff_getElem.1 hnd)
   have hij:i=j:=by
    rcases Nat.lt_trichotomy i j with c|c|c
    ·exact absurd (by rw [List.getElem_map,List.getElem_map,ei,ej]) (this i j (by simpa using hi) (by simpa using hj) c)
    ·exact c
    ·exact absurd (by rw [List.getElem_map,List.getElem_map,ei,ej]) (this j i (by simpa using hj) (by simpa using hi) c)
   subst hij
   rw [ei]at ej;cases ej;rfl
  rw [e]at g2
  have hs:S'.A s=some ((p:Nat):Int):=by rw [hA,n2 _ he,if_pos (by simp only;omega)]
  exact g2.rd hs (by rw [sm.sz];exact hd s d hm)
 ·have hs:S'.A s=none:=by
   rw [hA]
   rcases h3 s hm with he|he
   ·rw [n2 _ he,if_neg (by simp)]
   ·by_cases hk:s∈es.map (·.1)
    ·obtain⟨e,e1,e2⟩:=List.mem_map.1 hk
     subst e2
     rw [n2 _ e1]
     by_cases h0:0≤e.2
     ·obtain⟨d',g1,g2⟩:=hp _ e1 h0
      obtain⟨i,hi,ei⟩:=List.getElem_of_mem hm
      obtain⟨j,hj,ej⟩:=List.getElem_of_mem g1
      have:=(List.pairwise_iff_getElem.1 hnd)
      rcases Nat.lt_trichotomy i j with c|c|c
      ·exact absurd (by rw [List.getElem_map,List.getElem_map,ei,ej]) (this i j (by simpa using hi) (by simpa using hj) c)
      ·subst c;rw [ei]at ej;cases ej
      ·exact absurd (by rw [List.getElem_map,List.getElem_map,ei,ej]) (this j i (by simpa using hj) (by simpa using hi) c)
     ·rw [if_neg h0]
    ·rw [n1 s hk,he]
  unfold Ap.rd
  rw [hs]
  simp only [sm.sz]
end
end Go.Ev
