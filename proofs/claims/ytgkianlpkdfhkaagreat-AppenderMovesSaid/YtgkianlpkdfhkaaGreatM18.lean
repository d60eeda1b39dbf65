/- Part of the proof. -/
import Derived.Test.YtgkianlpkdfhkaaGreatM17
set_option linter.unusedVariables false
set_option linter.unusedSectionVars false
set_option linter.unusedSimpArgs false
set_option maxRecDepth 10000
set_option maxHeartbeats 4000000
namespace Go.Ev
section
variable {P0:Program}{E:Env}{F:T CFn}{K:T (List AV×AV)}(L:Lg P0 E F K)(X:Fx F K)
include L X
inductive MvS (g:Int→Int):Ap→List Int→List Ent→Ap→Prop where
 |nil {S:Ap}:MvS g S [] [] S
 |snoc {S S1 S2:Ap} {ps:List Int} {es:List Ent} {p:Int} {q:Nat} (r:MvS g S ps es S1) (h:StP (g p) (((S1.D.bl (p.toNat / S1.D.P)).pg (p.toNat % S1.D.P)).b.take S1.D.sz) S1 S2 (.done q)):MvS g S (ps++ [p]) (es++ [(g p,((q:Nat):Int))]) S2
noncomputable def Ap.mv (S:Ap)(b:Nat):List Int:=Do S.A S.D.P b S.D.P
inductive MovO (b:Nat)(S:Ap):Ap→WO→Prop where
 |bad {S1 S':Ap} {i:Nat} {p:Int} {es:List Ent} {o:WO} (m:MvS (B7 S.A) S ((S.mv b).take i) es S1) (hp:(S.mv b)[i]?=some p) (h:StP (B7 S.A p) (((S1.D.bl (p.toNat / S1.D.P)).pg (p.toNat % S1.D.P)).b.take S1.D.sz) S1 S' o) (ho:o= .full∨o= .pow):MovO b S S' o
 |badc {S1 S':Ap} {es:List Ent} {o:WO} (m:MvS (B7 S.A) S (S.mv b) es S1) (c:CmP es S1 S' o) (ho:o= .full∨o= .pow):MovO b S S' o
 |ok {S1 S2:Ap} {es:List Ent} (m:MvS (B7 S.A) S (S.mv b) es S1) (c:CmP es S1 S2 (.done 0)):MovO b S (S2.ers b).1 (S2.ers b).2
omit L X in
theorem CmP.fr {es:List Ent}{S S':Ap}{o:WO}(h:CmP es S S' o)(iw:IW S):(S'.D.nb=S.D.nb∧S'.D.P=S.D.P∧S'.D.sz=S.D.sz∧S'.D.en=S.D.en∧S'.S=S.S∧S'.pe=S.pe∧S'.wr=S.wr∧S'.dat=S.dat∧S'.D.flt=S.D.flt)∧IW S'∧S'.D.n≤S.D.n+(2*S.D.nb+2)*recN S es∧S.next≤S'.next∧S'.next≤S.next+recN S es:=by
 cases h with
 |nil h=>exact⟨⟨rfl,rfl,rfl,rfl,rfl,rfl,rfl,rfl,rfl⟩,iw,Nat.le_add_right _ _,Nat.le_refl _,Nat.le_add_right _ _⟩
 |ok h _=>
  obtain⟨a,b,c,d⟩:=h.fr iw
  exact⟨⟨a.nb,a.P,a.sz,a.en,a.secs,a.pe,a.wr,a.dat,a.flt⟩,⟨fun k=>⟨(b.wi k).sel,(b.wi k).lo⟩,b.ne⟩,c,by simp only;omega,by simp only;omega⟩
 |bad h _=>
  obtain⟨a,b,c,d⟩:=h.fr iw
  exact⟨⟨a.nb,a.P,a.sz,a.en,a.secs,a.pe,a.wr,a.dat,a.flt⟩,b,c,by omega,by omega⟩
def Ii (κ: Nat→Nat)(n:Nat):Nat→Nat:=fun b=>if b<n then κ b else 200
omit L X in
theorem E4 {κ: Nat→Nat}{n b:Nat}(h:b<n):Ii κ n b=κ b:=if_pos h
omit L X in
theorem Dz {κ: Nat→Nat}{n b:Nat}(h:n≤b):Ii κ n b=200:=if_neg (by omega)
noncomputable def Ko (s cb bx a b mk:Nat)(st:LS):Blk:= .loop ⟨st,none,47,cf47.ntmps,tms [(46,some (.fn (.func 144) [] [.ptr a 0,.ptr b 0])),(3,some (.ptr (bx+1) 0)),(2,some (.ptr bx 0)),(1,some (.ptr cb 0)),(0,some (.ptr s 0))],[47,48],c47_8,c47_10,mk⟩
structure RMv (κ: Nat→Nat)(h:H)(I:Ai)(S:Ap)(blk cb a b mk:Nat)(va vb':AV)(i:Nat)(hh:H):Prop where
 ka:Bk hh a [va]
 kb:Bk hh b [vb']
 ra:RowN hh (h.n+2) va (S.mv blk)
 rb:RowN hh (h.n+2) vb' ((S.mv blk).map (B7 S.A))
 dk:Gk hh mk (.dfr (some []))
 lp:Gk hh (mk+1) (Ko I.s cb h.n a b mk .ready)
 kx:Bk hh h.n [.ptr I.s 0]
 kc:Bk hh cb [AI ((blk:Nat):Int)]
 ex: ∃κi Si es ev,Bk hh (h.n+1) [ev]∧ApR κi hh I Si∧AChg κ h κi hh∧(∀x,h.n≤x→x<mk+2→κi x=200)∧IW Si∧MvS (B7 S.A) S ((S.mv blk).take i) es Si∧FrS S Si∧(Si.next≤S.next+i∧S.next≤Si.next)∧Si.D.n≤S.D.n+30*i∧EL hh (mk+2) ev es∧(∀x n c,ev= .slc x 0 n c→κi x=200)∧es.length=i
omit L X in
theorem RMv.k0 {κ: Nat→Nat}{h hh h':H}{I:Ai}{S:Ap}{blk cb a b mk:Nat}{va vb':AV}{i:Nat}(q:RMv κ h I S blk cb a b mk va vb' i hh)(k:K0 hh h'):RMv κ h I S blk cb a b mk va vb' i h':=by
 obtain⟨q1,q2,q3,q4,q5,q6,q7,q8,κi,Si,es,ev,e1,e2,e3,e4,e5,e6,e7,e8,e9,e10,e11,e12⟩:=q
 have l6:=q6.lt
 exact⟨Ah k q1,Ah k q2,q3.k0 k,q4.k0 k,Es k q5,Es k q6,Ah k q7,Ah k q8,ext κi hh.n,Si,es,ev,Ah k e1,e2.k0 k fun b hb=>Af hb,e3.trans (AChg.k0 k fun b hb=>Af hb),fun x h1 h2=>(Af (by omega)).trans (e4 x h1 h2),e5,e6,e7,e8,e9,e10.k0 k,fun x n c e=>by
  have h1:=e11 x n c e
  subst e
  exact(Af e10.blt.1).trans h1,e12⟩
structure MvOk (S:Ap)(blk:Nat)(i:Nat)(p:Int)(S1:Ap):Prop where
 pg: ∃pn:Nat,p=((pn:Nat):Int)∧pn<100000∧pn / S1.D.P<S1.D.nb∧pn % S1.D.P<(S1.D.bl (pn / S1.D.P)).nx∧(((S1.D.bl (pn / S1.D.P)).pg (pn % S1.D.P)).st=2∨((S1.D.bl (pn / S1.D.P)).pg (pn % S1.D.P)).st=3)∧(((S1.D.bl (pn / S1.D.P)).pg (pn % S1.D.P)).b.take S1.D.sz).length=S1.D.sz
 sec:0≤B7 S.A p∧B7 S.A p≤4294967294
 off:S1.D.off=false
section
variable {h:H}{κ: Nat→Nat}{I:Ai}{S:Ap}
theorem ja {cb b:Nat}(T:Tb P0 E F K)(r:ApR κ h I S)(iw:IW S)(kc:Bk h cb [AI ((b:Nat):Int)])(hcc:κ cb=0∨200≤κ cb)(hb:b<S.D.nb)(hdn:S.down=false)(hps:S.ps b=3)(hjr:S.jr ((b:Nat):Int)=false)
  (hf:S.last<S.next∧S.next<10000000) (hn:S.D.n+1000<100000) (hlen:(S.mv b).length≤6)
  (hL: ∀i es S1 p,MvS (B7 S.A) S ((S.mv b).take i) es S1→(S.mv b)[i]?=some p→MvOk S b i p S1)
  (hA: ∀es S1,MvS (B7 S.A) S (S.mv b) es S1→ ∀j x,es[j]?=some x→okE S.S (S.D.nb*S.D.P) (stA S.A es j) x) (hpe:S.pe b<100000) (hS:S.S<1000)
  (hE: ∀es S1 S2,MvS (B7 S.A) S (S.mv b) es S1→CmP es S1 S2 (.done 0)→S2.ps b=3):
  CtX P0 E F K 47 [.ptr I.s 0,.ptr cb 0] h
   (fun v h'=> ∃S' κ',MovO b S S' (.done 0)∧ApR κ' h' I S'∧AChg κ h κ' h')
   (fun v h'=> ∃(o:WO) (S':Ap) (κ':Nat→Nat),v= .ifc 44 (AI ((eOf o:Nat):Int))∧(o= .full∨o= .pow)∧MovO b S S' o∧ApR κ' h' I S'∧AChg κ h κ' h'):=by
 have sk:=r.sk
 have ls:=sk.lt
 have lc:=kc.lt
 have hcol:=r.col
 obtain⟨cbl,po⟩:=r.po
 obtain⟨M,ck,m1,m2,m3⟩:=r.mj.ex
 have lm:=m1.lt
 have hg:=m3 ((b:Nat):Int)
 rw [hjr,if_neg (by simp)]at hg
 unfold apC at sk
 rw [hdn]at sk
 refine Bu L X.f47 X.k47 rfl rfl rfl fun Q x cs G Gp=>?_
 refine wk ?_
 refine cal (c:=Ao L X) (g:=?_)
 rintro _ rfl
 refine wk ?_
 refine cal (c:=Ao L X) (g:=?_)
 rintro _ rfl
 refine wk ?_
 refine cal (c:=Lp L X (po.k0 (by exact kps)) hb) (g:=?_)
 rintro _ rfl
 rw [hps]
 refine wk ?_
 (apply C0 rfl rfl;exact Dy (KE.int .i64) rfl rfl lkq)
 rw [hg,Option.getD_none]
 refine wk ?_
 refine cal (c:=Ao L X) (g:=?_)
 rintro _ rfl
 refine wk ?_
 refine cal (c:=Yy L X (r.mp.k0 (by exact kps)) hb) (g:=?_)
 rintro _ h2 ⟨a,b',va,vb',rfl,w1,w2,w3,w4,w5,w6,w7⟩
 refine wk ?_
 have n5:=w5.n
 simp only [Al]at n5 w3 w4 w6 w7
 have la:=w1.lt
 have lb':=w2.lt
 refine En L (tm':=tms [(46,some (.fn (.func 144) [] [.ptr a 0,.ptr b' 0])),(3,some (.ptr (h.n+1) 0)),(2,some (.ptr h.n 0)),(1,some (.ptr cb 0)),(0,some (.ptr I.s 0))]) tsb ?_
 refine iz L (post:=fun _ h'=>RMv κ h I S b cb a b' h2.n va vb' (S.mv b).length h') (pan:=fun v h'=> ∃(o:WO) (S':Ap) (κ':Nat→Nat),v= .ifc 44 (AI ((eOf o:Nat):Int))∧(o= .full∨o= .pow)∧MovO b S S' o∧ApR κ' h' I S'∧AChg κ h κ' h'∧Gk h' h2.n (.dfr (some []))∧κ' h2.n=200) rfl rfl rfl ?_ ?_ ?_
 ·refine(Vq L X (g:=B7 S.A) (lo:=h.n+2) (by omega) (fun i hh=>RMv κ h I S b cb a b' h2.n va vb' i hh) (fun i hh r=>⟨r.ka,r.kb,r.ra,r.rb⟩) (fun i hh h' r k=>r.k0 k) (fun i s hh hx r=>?_) ?_).Y
  ·obtain⟨r1,r2,r3,r4,r5,r6,r7,r8,κi,Si,es,ev,r9,ri,ai,hci,iwi,mvi,fri,hnx,hni,el,hev,hel⟩:=r
   have hle:=r6.e
   unfold Ko at hle
   have g1:=r1.lt
   have g2:=r2.lt
   have g5:=r5.lt
   have g6:=r6.lt
   have g7:=r7.lt
   have g8:=r8.lt
   have g9:=r9.lt
   have hi:=(List.getElem?_eq_some_iff.1 hx).1
   obtain⟨⟨pn,rfl,p1,p2,p3,p4,p5⟩,hsec,hoff⟩:=hL i es Si s mvi hx
   have hmu:=Lv Si false
   have hnbi:=ri.dv.ok.g.nb
   have hdata:(((pn:Nat):Int)).toNat=pn:=Int.toNat_natCast pn
   have e1:(S.mv b).take (i+1)=(S.mv b).take i++ [((pn:Nat):Int)]:=by rw [List.take_add_one,hx];rfl
   have hcbx:κi cb=κ cb:=ai.col cb lc
   refine Ze L (l1:= [(48,some (AI (B7 S.A ((pn:Nat):Int)))),(47,some (AI ((pn:Nat):Int))),(46,some (.fn (.func 144) [] [.ptr a 0,.ptr b' 0])),(3,some (.ptr (h.n+1) 0)),(2,some (.ptr h.n 0)),(1,some (.ptr cb 0)),(0,some (.ptr I.s 0))]) hle rfl ?_
   intro Q z2 cs G2 Gp2
   refine wk ?_
   refine Ej L (Gk.e lkg) ?_
   have kb5:Kp (fun j=>j=h2.n+1) hh (hp hh.n hh.t [(h2.n+1,some (Ko I.s cb h.n a b' h2.n .busy))]):=kps
   have hc6: ∀x,x<hh.n→ext κi hh.n x=κi x:=fun x hx=>Af hx
   have rA: ∀h6,Kp (fun j=>j=h2.n+1) hh h6→ApR (ext κi hh.n) h6 I Si:=fun h6 k6=>ri.own k6 (fun j hj e=>by subst e;rw [hci _ (by omega) (by omega)];omega) hc6
   have ldc: ∀h5,Kp (fun j=>j=h2.n+1) hh h5→CtX P0 E F K 52 [.ptr I.s 0,AI ((pn:Nat):Int)] h5
     (fun v h'=> ∃b1,v= .slc b1 0 Si.D.sz (Aa+1)∧BS h' b1 0 (((Si.D.bl (pn / Si.D.P)).pg (pn % Si.D.P)).b.take Si.D.sz)∧hh.n≤b1∧K0 h5 h') (fun v h'=>False):=fun h5 k5=>
    (W6 L X (rA h5 k5) p1 p2 p3 (fun _=>p4)).mono (fun v h' q=>let⟨_,b1,q2,q3,q4,q5⟩:=q;⟨b1,q2,q3,Nat.le_trans k5.n q4,q5⟩) fun v h' q=>by rw [hoff]at q;exact absurd q.2.1 (by simp)
   have stc: ∀h6 b1,Kp (fun j=>j=h2.n+1) hh h6→hh.n≤b1→BS h6 b1 0 (((Si.D.bl (pn / Si.D.P)).pg (pn % Si.D.P)).b.take Si.D.sz)→CtX P0 E F K 51 [.ptr I.s 0,AI (B7 S.A ((pn:Nat):Int)),.slc b1 0 Si.D.sz (Aa+1)] h6
     (fun v h'=> ∃p S' κ',v= .agg [AI (B7 S.A ((pn:Nat):Int)),AI ((p:Nat):Int)]∧StP (B7 S.A ((pn:Nat):Int)) (((Si.D.bl (pn / Si.D.P)).pg (pn % Si.D.P)).b.take Si.D.sz) Si S' (.done p)∧ApR κ' h' I S'∧AChg (ext κi hh.n) h6 κ' h')
     (fun v h'=> ∃(o:WO) (S':Ap) (κ':Nat→Nat),v= .ifc 44 (AI ((eOf o:Nat):Int))∧(o= .full∨o= .pow)∧StP (B7 S.A ((pn:Nat):Int)) (((Si.D.bl (pn / Si.D.P)).pg (pn % Si.D.P)).b.take Si.D.sz) Si S' o∧ApR κ' h' I S'∧AChg (ext κi hh.n) h6 κ' h'):=fun h6 b1 k6 hb1 hbs=>
    To L X T (rA h6 k6) (iwi.wi false) hsec ⟨by omega,by omega⟩ hbs (Bs hb1) p5 (by omega)
   have n6: ∀x,h.n≤x→x<h2.n+2→ ¬(1≤ext κi hh.n x∧ext κi hh.n x<200):=fun x q1 q2=>by rw [hc6 _ (by omega),hci x q1 q2];omega
   have nc6: ¬(1≤ext κi hh.n cb∧ext κi hh.n cb<200):=by rw [hc6 _ (by omega),hcbx];omega
   have hle5:Gk (hp hh.n hh.t [(h2.n+1,some (Ko I.s cb h.n a b' h2.n .busy))]) (h2.n+1) (Ko I.s cb h.n a b' h2.n .busy):=Dw (by omega)
   have okc: ∀(p:Nat) (S':Ap) (κ':Nat→Nat) (h6 h7 h9:H) (w:AV) (N:Nat),Kp (fun j=>j=h2.n+1) hh h6→StP (B7 S.A ((pn:Nat):Int)) (((Si.D.bl (pn / Si.D.P)).pg (pn % Si.D.P)).b.take Si.D.sz) Si S' (.done p)→ApR κ' h7 I S'→AChg (ext κi hh.n) h6 κ' h7→Kp (fun j=>j=h2.n+1∨j=h.n+1∨ ∃n c,ev= .slc j 0 n c) h7 h9→EL h9 (h2.n+2) w (es++ [(B7 S.A ((pn:Nat):Int),((p:Nat):Int))])→h7.n≤N→w= .slc N 0 (es.length+1) (Aa+2)→
     Gk h9 (h2.n+1) (Ko I.s cb h.n a b' h2.n .ready)→Bk h9 (h.n+1) [w]→RMv κ h I S b cb a b' h2.n va vb' (i+1) h9:=by
    intro p S' κ' h6 h7 h9 w N k6 hst r' a' k9 hel9 hN hw hlp hec
    obtain⟨f1,f2,f3,f4⟩:=hst.fr iwi
    have nn1:=a'.k.n
    have nn0:=k6.n
    have hnn:=ai.k.n
    have hev2: ∀j n c,ev= .slc j 0 n c→j<hh.n∧h2.n+2≤j∧κi j=200:=by
     intro j n c e
     have h200:=hev j n c e
     subst e
     exact⟨el.blt.1,el.blt.2,h200⟩
    have kk: ∀x,x<hh.n→ ¬(1≤ext κi hh.n x∧ext κi hh.n x<200)→x≠h2.n+1→x≠h.n+1→x<h2.n+2→(¬(fun j=>j=h2.n+1) x)∧(¬(1≤ext κi hh.n x∧ext κi hh.n x<200))∧ ¬(x=h2.n+1∨x=h.n+1∨ ∃n c,ev= .slc x 0 n c):=by
     intro x q1 q2 q3 q4 q5
     refine⟨q3,q2,?_⟩
     rintro(e|e|⟨n,c,e⟩)
     ·exact q3 e
     ·exact q4 e
     ·have:=hev2 x n c e;omega
    have mvB: ∀x c,Bk hh x c→h.n≤x→x≠h2.n+1→x≠h.n+1→x<h2.n+2→Bk h9 x c:=fun x c q q1 q2 q3 q4=>
     have t:=kk x q.lt (n6 x q1 q4) q2 q3 q4
     As k9 t.2.2 (As a'.k t.2.1 (As k6 t.1 q))
    have mvR: ∀v D,RowN hh (h.n+2) v D→(∀x n c,v= .slc x 0 n c→x<h2.n)→RowN h9 (h.n+2) v D:=by
     intro v D q hb
     rcases q.ex with q1|⟨q1,x,q2,q3,q4⟩
     ·exact⟨.inl q1⟩
     ·have:=hb _ _ _ q2
      exact⟨.inr ⟨q1,x,q2,mvB x _ q3 (by omega) (by omega) (by omega) (by omega),q4⟩⟩
    have tk:=kk h2.n (by omega) (n6 _ (by omega) (by omega)) (by omega) (by omega) (by omega)
    have tc:=kk cb (by omega) nc6 (by omega) (by omega) (by omega)
    refine⟨mvB a _ r1 (by omega) (by omega) (by omega) (by omega),mvB b' _ r2 (by omega) (by omega) (by omega) (by omega),mvR _ _ r3 w3.bd,mvR _ _ r4 w4.bd,H7 k9 tk.2.2 (H7 a'.k tk.2.1 (H7 k6 tk.1 r5)),hlp,mvB h.n _ r7 (by omega) (by omega) (by omega) (by omega),As k9 tc.2.2 (As a'.k tc.2.1 (As k6 tc.1 r8)),upd κ' N 200,S',_,w,hec,r'.own k9 (fun j hj e=>?_) (fun j hj=>upd_ne _ _ (by omega)),?_,fun x q1 q2=>?_,f2,?_,fri.trans f1,⟨by omega,by omega⟩,by have:=fri.nb;omega,hel9,fun x n c e=>?_,by simp [hel]⟩
    ·have hj':j<hh.n∧ext κi hh.n j=200:=by
      rcases e with rfl|rfl|⟨n,c,e⟩
      ·exact⟨by omega,by rw [hc6 _ (by omega),hci _ (by omega) (by omega)]⟩
      ·exact⟨by omega,by rw [hc6 _ (by omega),hci _ (by omega) (by omega)]⟩
      ·have:=hev2 j n c e
       exact⟨this.1,by rw [hc6 _ this.1];exact this.2.2⟩
     rw [a'.col j (by omega),hj'.2];omega
    ·refine AChg.own (AChg.trans (AChg.own ai k6 (fun j e=>by subst e;omega) hc6) a') k9 (fun j e=>?_) fun j hj=>upd_ne _ _ (by omega)
     rcases e with rfl|rfl|⟨n,c,e⟩
     ·omega
     ·omega
     ·have:=hev2 j n c e;omega
    ·rw [upd_ne _ _ (by omega),a'.col x (by omega),hc6 _ (by omega)];exact hci x q1 q2
    ·rw [e1];exact .snoc mvi (by rw [hdata];exact hst)
    ·rw [hw]at e;cases e;exact upd_eq _ _ _
   have badc: ∀(o':WO) (S':Ap) (κ':Nat→Nat) (h6 h7:H),Kp (fun j=>j=h2.n+1) hh h6→(o'= .full∨o'= .pow)→StP (B7 S.A ((pn:Nat):Int)) (((Si.D.bl (pn / Si.D.P)).pg (pn % Si.D.P)).b.take Si.D.sz) Si S' o'→ApR κ' h7 I S'→AChg (ext κi hh.n) h6 κ' h7→
     MovO b S S' o'∧ApR κ' h7 I S'∧AChg κ h κ' h7∧Gk h7 h2.n (.dfr (some []))∧κ' h2.n=200:=by
    intro o' S' κ' h6 h7 k6 ho hst r' a'
    have nn0:=k6.n
    have hnn:=ai.k.n
    refine⟨.bad mvi hx (by rw [hdata];exact hst) ho,r',(AChg.own ai k6 (fun j e=>by subst e;omega) hc6).trans a',H7 a'.k (n6 _ (by omega) (by omega)) (H7 k6 (by omega) r5),?_⟩
    rw [a'.col _ (by omega),hc6 _ (by omega)];exact hci _ (by omega) (by omega)
   rcases el.len with⟨e0,rfl⟩|⟨hpos,eb,rfl,hb1,hblo1⟩
   ·subst e0
    refine wk ?_
    refine Hg L (c:=ldc _ (by exact kps)) (g:=?_) (gp:=?_)
    ·rintro _ h6 ⟨b1,rfl,q3,q4,q5⟩
     have k6:Kp (fun j=>j=h2.n+1) hh h6:=kps
     have n6':=q5.n
     simp only [Al]at n6'
     have lb1:=q3.lt_n
     refine wk ?_
     refine Hg L (c:=stc _ b1 (by exact kps) q4 (by exact lkb)) (g:=?_) (gp:=?_)
     ·rintro _ h7 ⟨p,S',κ',rfl,hst,r',a'⟩
      have n7:=a'.k.n
      simp only [Al]at n7
      have ke7:Bk h7 (h.n+1) [.nils]:=As a'.k (n6 _ (by omega) (by omega)) (by exact lkp)
      have lp7:Gk h7 (h2.n+1) (Ko I.s cb h.n a b' h2.n .busy):=H7 a'.k (n6 _ (by omega) (by omega)) (by exact lkg)
      unfold Ko at lp7
      have le7:=ke7.lt
      have ll7:=lp7.lt
      refine wk ?_
      (apply H6 L rfl rfl;exact Ft (new:=Ay (B7 S.A ((pn:Nat):Int),((p:Nat):Int))) rfl rfl (SlR.of (c:=Ay (B7 S.A ((pn:Nat):Int),((p:Nat):Int))) lkp (Nat.le_refl _) rfl) (by omega) (by omega))
      refine wk ?_
      refine C8 L (Gk.e lkg) G2 ⟨rfl,okc p S' κ' _ h7 _ _ (h7.n+1) ?_ hst r' a' (Kp.mono (S:=fun j=>j=h2.n+1∨j=h.n+1) (fun j e=>by rcases e with e|e;exact .inl e;exact .inr (.inl e)) ?_) (EL.app (l:= []) ?_ (by omega) rfl) (by omega) rfl ?_ ?_⟩
      ·exact kps
      ·exact kps
      ·exact lkp
      ·unfold Ko;exact Dw (by omega)
      ·exact lkp
     ·rintro _ h7 ⟨o',S',κ',rfl,ho,hst,r',a'⟩
      refine An L X.f47 ?_
      exact Gp2 _ _ ⟨o',S',κ',rfl,ho,badc o' S' κ' _ h7 (by exact kps) ho hst r' a'⟩
    ·intro v h6 q;exact q.elim
   ·have lbe:=hb1.lt
    have h200:=hev eb _ _ rfl
    refine wk ?_
    refine Hg L (c:=ldc _ (by exact kps)) (g:=?_) (gp:=?_)
    ·rintro _ h6 ⟨b1,rfl,q3,q4,q5⟩
     have k6:Kp (fun j=>j=h2.n+1) hh h6:=kps
     have n6':=q5.n
     simp only [Al]at n6'
     have lb1:=q3.lt_n
     refine wk ?_
     refine Hg L (c:=stc _ b1 (by exact kps) q4 (by exact lkb)) (g:=?_) (gp:=?_)
     ·rintro _ h7 ⟨p,S',κ',rfl,hst,r',a'⟩
      have n7:=a'.k.n
      simp only [Al]at n7
      have ke7:Bk h7 (h.n+1) [.slc eb 0 es.length (Aa+2)]:=As a'.k (n6 _ (by omega) (by omega)) (by exact lkp)
      have lp7:Gk h7 (h2.n+1) (Ko I.s cb h.n a b' h2.n .busy):=H7 a'.k (n6 _ (by omega) (by omega)) (by exact lkg)
      unfold Ko at lp7
      have le7:=ke7.lt
      have ll7:=lp7.lt
      have hb7:Bk h7 eb (es.flatMap Ay):=As a'.k (by rw [hc6 _ (by omega)];omega) (by exact lkp)
      have lb7:=hb7.lt
      refine wk ?_
      (apply H6 L rfl rfl;exact Fi (old:=es.flatMap Ay) (new:=Ay (B7 S.A ((pn:Nat):Int),((p:Nat):Int))) rfl rfl (SlR.of (c:=es.flatMap Ay) lkp (by rw [A4];omega) (by rw [List.drop_zero,List.take_of_length_le (by rw [A4];exact Nat.le_refl _)])) (SlR.of (c:=Ay (B7 S.A ((pn:Nat):Int),((p:Nat):Int))) lkp (Nat.le_refl _) rfl) (by omega) (by omega) rfl)
      refine wk ?_
      refine C8 L (Gk.e lkg) G2 ⟨rfl,okc p S' κ' _ h7 _ _ (h7.n+1) ?_ hst r' a' (Kp.mono (S:=fun j=>j=h2.n+1∨j=h.n+1∨j=eb) (fun j e=>by rcases e with e|e|e;exact .inl e;exact .inr (.inl e);exact .inr (.inr ⟨_,_,by rw [e]⟩)) ?_) (EL.app (l:=es) ?_ (by omega) rfl) (by omega) rfl ?_ ?_⟩
      ·exact kps
      ·exact kps
      ·exact lkp
      ·unfold Ko;exact Dw (by omega)
      ·exact lkp
     ·rintro _ h7 ⟨o',S',κ',rfl,ho,hst,r',a'⟩
      refine An L X.f47 ?_
      exact Gp2 _ _ ⟨o',S',κ',rfl,ho,badc o' S' κ' _ h7 (by exact kps) ho hst r' a'⟩
    ·intro v h6 q;exact q.elim
  ·refine⟨lkp,lkp,w3.k0 ?_,w4.k0 ?_,lkg,(by unfold Ko;exact lkg),by exact lkp,by exact lkp,Ii κ h.n,S,[],.nils,by exact lkp,r.k0 ?_ fun x hx=>E4 hx,AChg.k0 ?_ fun x hx=>E4 hx,fun x q1 q2=>Dz q1,iw,.nil,FrS.refl _,⟨by omega,Nat.le_refl _⟩,by omega,EL.nil _ _,(by intro x n c e;cases e),rfl⟩
   ·exact kps
   ·exact kps
   ·exact kps
   ·exact kps
 ·rintro v h3 ⟨r1,r2,r3,r4,r5,r6,r7,r8,κi,Si,es,ev,r9,ri,ai,hci,iwi,mvi,fri,hnx,hni,el,hev,hel⟩
  rw [List.take_length]at mvi
  have hle:=r6.e
  unfold Ko at hle
  have g5:=r5.lt
  have g6:=r6.lt
  have g7:=r7.lt
  have g8:=r8.lt
  have g9:=r9.lt
  have hlti:=r.lt
  have hnn:=ai.k.n
  have hnbi:=ri.dv.ok.g.nb
  have hszi:=ri.dv.ok.g.sz
  have hAe:=hA es Si mvi
  have hok: ∀e∈es,e.Ok:=by
   intro e he
   obtain⟨j,hj⟩:=List.mem_iff_getElem?.1 he
   obtain⟨⟨f1,f2,f3,f4⟩,-⟩:=hAe j e hj
   have hm:S.D.nb*S.D.P≤12*6:=Nat.mul_le_mul r.dv.ok.g.nb.2 (by have:=r.dv.ok.g.P;omega)
   exact⟨f1,by omega,f3,by omega⟩
  have hrec:recN Si es≤es.length+1:=Km (by omega)
  have hmul:(2*Si.D.nb+2)*recN Si es≤26*7:=Nat.mul_le_mul (by omega) (by omega)
  refine F3 L (n:=h3.n) (t:=h3.t) (lh:= []) hle (by intro q;cases q) ?_
  have rE: ∀h5,Kp (fun j=>j=h2.n+1) h3 h5→ApR (ext κi h3.n) h5 I Si:=fun h6 k6=>ri.own k6 (fun j hj e=>by subst e;rw [hci _ (by omega) (by omega)];omega) fun x hx=>Af hx
  have aE: ∀h5,Kp (fun j=>j=h2.n+1) h3 h5→AChg κ h (ext κi h3.n) h5:=fun h6 k6=>AChg.own ai k6 (fun j e=>by subst e;omega) fun x hx=>Af hx
  have cmc: ∀h5,Kp (fun j=>j=h2.n+1) h3 h5→EL h5 (h2.n+2) ev es→_:=fun h5 k5 el5=>Qo (lo:=h2.n+2) (ev:=ev) (es:=es) L X T (rE h5 k5) iwi el5 (by omega) (fun x n c e=> .inr (by have h200:=hev x n c e;subst e;rw [Af el.blt.1];omega)) hok (by omega) (by rw [fri.secs,fri.nb,fri.P,fri.A];exact hAe) (by have:=fri.last;omega) (by omega)
  have kcb: ∀κ5 h5 h6 κ6,(∀x,x<h3.n→κ5 x=κi x)→AChg κ5 h5 κ6 h6→Kp (fun j=>j=h2.n+1) h3 h5→Bk h6 h.n [.ptr I.s 0]∧Bk h6 cb [AI ((b:Nat):Int)]∧Gk h6 h2.n (.dfr (some []))∧κ6 h2.n=200:=by
   intro κ5 h5 h6 κ6 hc a k
   have hcb:κi cb=κ cb:=ai.col cb lc
   refine⟨As a.k ?_ (As k (by omega) r7),As a.k ?_ (As k (by omega) r8),H7 a.k ?_ (H7 k (by omega) r5),?_⟩
   ·rw [hc _ (by omega),hci _ (by omega) (by omega)];omega
   ·rw [hc _ (by omega)];omega
   ·rw [hc _ (by omega),hci _ (by omega) (by omega)];omega
   ·have:=k.n
    rw [a.col _ (by omega),hc _ (by omega),hci _ (by omega) (by omega)]
  have el3:=el
  rcases(show ev= .nils∨ ∃b n c,ev= .slc b 0 n c by rcases el.len with⟨_,e⟩|⟨_,b,e,_⟩;exact .inl e;exact .inr ⟨b,_,_,e⟩)with rfl|⟨eb,en,ec,rfl⟩
  all_goals
   refine wk ?_
   refine Hg L (c:=cmc _ (by exact kps) (el3.kS (S:=fun j=>j=h2.n+1) (by exact kps) (by intro j q1 q2;omega))) (g:=?_) (gp:=?_)
   ·rintro _ h5 ⟨S2,κ2,hc,r',a'⟩
    obtain⟨⟨f1,f2,f3,f4,f5,f6,f7,f8,f9⟩,iw2,f10,f11,f12⟩:=hc.fr iwi
    obtain⟨x1,x2,x3,x4⟩:=kcb _ _ _ _ (fun x hx=>Af hx) a' (by exact kps)
    have a2:AChg κ h κ2 h5:=(aE _ (by exact kps)).trans a'
    have hps2:=hE es Si S2 mvi hc
    have l1:=x1.lt
    have l2:=x2.lt
    have l3:=x3.lt
    refine wk ?_
    refine Hg L (c:=Lu (b:=b) L X (r'.k0 (κ':=κ2) (by exact kps) fun _ _=>rfl) (by rw [f1,fri.nb];exact hb) (.inr hps2) (by rw [f6,fri.pe];exact hpe) (by omega)) (g:=?_) (gp:=?_)
    ·rintro _ h6 ⟨q1,κ6,q2,q3⟩
     have hk2:Gk h6 h2.n (.dfr (some [])):=H7 q3.k (by omega) (by exact lkg)
     have hk6:κ6 h2.n=200:=(q3.col _ (by simp only [Al];omega)).trans x4
     have hl6:=hk2.lt
     have a6:AChg κ h κ6 h6:=a2.trans ((AChg.k0 (κ':=κ2) (by exact kps) fun _ _=>rfl).trans q3)
     have hm:=MovO.ok mvi hc
     rw [q1]at hm
     refine wk ?_
     refine A0 L (show Good P0 E Q ⟨⟨_,_,_,_,_,.returning,false,none⟩,_,_⟩ from ?_)
     refine Fm L (by intro q;cases q) (Gk.e lkg) ?_
     refine Fk L X.f47 (Dd rfl) G ⟨_,κ6,hm,q2.out (B:=fun j=>j=h2.n) ?_ (fun j _ e=>by subst e;omega),AChg.own (B:=fun j=>j=h2.n) a6 ?_ (fun j e=>by subst e;omega) fun _ _=>rfl⟩
     ·exact kps
     ·exact kps
    ·rintro _ h6 ⟨rfl,q1,κ6,q2,q3⟩
     have hk2:Gk h6 h2.n (.dfr (some [])):=H7 q3.k (by omega) (by exact lkg)
     have hk6:κ6 h2.n=200:=(q3.col _ (by simp only [Al];omega)).trans x4
     have hl6:=hk2.lt
     have a6:AChg κ h κ6 h6:=a2.trans ((AChg.k0 (κ':=κ2) (by exact kps) fun _ _=>rfl).trans q3)
     have hm:=MovO.ok mvi hc
     rw [q1]at hm
     refine Fm L (n:=h6.n) (t:=h6.t) (lh:= []) (by intro q;cases q) hk2.e ?_
     refine An L X.f47 ?_
     refine Gp _ _ ⟨.pow,_,κ6,rfl,.inr rfl,hm,q2.out (B:=fun j=>j=h2.n) ?_ (fun j _ e=>by subst e;omega),AChg.own (B:=fun j=>j=h2.n) a6 ?_ (fun j e=>by subst e;omega) fun _ _=>rfl⟩
     ·exact kps
     ·exact kps
   ·rintro _ h5 ⟨o,S2,κ2,rfl,ho,hc,r',a'⟩
    obtain⟨x1,x2,x3,x4⟩:=kcb _ _ _ _ (fun x hx=>Af hx) a' (by exact kps)
    refine Fm L (n:=h5.n) (t:=h5.t) (lh:= []) (by intro q;cases q) x3.e ?_
    have hl3:=x3.lt
    refine An L X.f47 ?_
    refine Gp _ _ ⟨o,S2,κ2,rfl,ho,.badc mvi hc ho,r'.out (B:=fun j=>j=h2.n) ?_ (fun j _ e=>by subst e;omega),AChg.own (B:=fun j=>j=h2.n) ((aE _ (by exact kps)).trans a') ?_ (fun j e=>by subst e;omega) fun _ _=>rfl⟩
    ·exact kps
    ·exact kps
 ·rintro v h3 ⟨o,S',κ',rfl,ho,hm,r',a',gk,hk2⟩
  refine Fm L (n:=h3.n) (t:=h3.t) (lh:= []) (by intro q;cases q) gk.e ?_
  have hl3:=gk.lt
  refine An L X.f47 ?_
  refine Gp _ _ ⟨o,S',κ',rfl,ho,hm,r'.out (B:=fun j=>j=h2.n) ?_ (fun j _ e=>by subst e;omega),AChg.own (B:=fun j=>j=h2.n) a' ?_ (fun j e=>by subst e;omega) fun _ _=>rfl⟩
  ·exact kps
  ·exact kps
end
end
section
variable {P0:Program}{E:Env}{F:T CFn}{K:T (List AV×AV)}(L:Lg P0 E F K)(X:Fx F K)
include L X
section
variable {h:H}{κ: Nat→Nat}{I:Ai}{S:Ap}
theorem Zf {cb:Nat}{x:Int}(r:ApR κ h I S)(kc:Bk h cb [AI x])(hb: ¬(0≤x∧x<S.D.nb)):
  CtP P0 E F K 47 [.ptr I.s 0,.ptr cb 0] h fun v h'=>v= .ifc 44 (AI ((3:Nat):Int))∧K0 h h':=by
 have sk:=r.sk
 have ls:=sk.lt
 have lc:=kc.lt
 unfold apC at sk
 by_cases c1:x<0
 ·refine Ea L X.f47 X.k47 rfl rfl rfl fun Q x cs G=>?_
  refine wk ?_
  refine Gb L rfl rfl rfl rfl rfl (Bc L X) ?_
  rintro _ h4 ⟨rfl,rfl⟩
  refine An L X.f47 ?_
  exact G _ _ ⟨rfl,kps⟩
 ·refine Ea L X.f47 X.k47 rfl rfl rfl fun Q x cs G=>?_
  refine wk ?_
  refine Gb L rfl rfl rfl rfl rfl (Bc L X) ?_
  rintro _ h4 ⟨rfl,rfl⟩
  refine An L X.f47 ?_
  exact G _ _ ⟨rfl,kps⟩
theorem jc {cb b:Nat}(r:ApR κ h I S)(kc:Bk h cb [AI ((b:Nat):Int)])(hb:b<S.D.nb)(hdn:S.down=false)(hs:S.ps b≠3∨S.jr ((b:Nat):Int)=true):
  CtP P0 E F K 47 [.ptr I.s 0,.ptr cb 0] h fun v h'=>v= .ifc 44 (AI ((8:Nat):Int))∧K0 h h':=by
 have sk:=r.sk
 have ls:=sk.lt
 have lc:=kc.lt
 obtain⟨cbl,po⟩:=r.po
 obtain⟨M,ck,m1,m2,m3⟩:=r.mj.ex
 have lm:=m1.lt
 have hg:=m3 ((b:Nat):Int)
 unfold apC at sk
 rw [hdn]at sk
 by_cases h3:S.ps b=3
 ·have hjr:S.jr ((b:Nat):Int)=true:=hs.resolve_left fun q=>q h3
  rw [hjr,if_pos rfl]at hg
  refine Ea L X.f47 X.k47 rfl rfl rfl fun Q x cs G=>?_
  refine wk ?_
  refine cal (c:=Ao L X) (g:=?_)
  rintro _ rfl
  refine wk ?_
  refine cal (c:=Ao L X) (g:=?_)
  rintro _ rfl
  refine wk ?_
  refine cal (c:=Lp L X (po.k0 (by exact kps)) hb) (g:=?_)
  rintro _ rfl
  rw [h3]
  refine wk ?_
  (apply C0 rfl rfl;exact Dy (KE.int .i64) rfl rfl lkq)
  rw [hg,Option.getD_some]
  refine wk ?_
  refine Gb L rfl rfl rfl rfl rfl (Bc L X) ?_
  rintro _ h4 ⟨rfl,rfl⟩
  refine An L X.f47 ?_
  exact G _ _ ⟨rfl,kps⟩
 ·refine Ea L X.f47 X.k47 rfl rfl rfl fun Q x cs G=>?_
  refine wk ?_
  refine cal (c:=Ao L X) (g:=?_)
  rintro _ rfl
  refine wk ?_
  refine cal (c:=Ao L X) (g:=?_)
  rintro _ rfl
  refine wk ?_
  refine cal (c:=Lp L X (po.k0 (by exact kps)) hb) (g:=?_)
  rintro _ rfl
  refine wk ?_
  refine Gb L rfl rfl rfl rfl rfl (Bc L X) ?_
  rintro _ h4 ⟨rfl,rfl⟩
  refine An L X.f47 ?_
  exact G _ _ ⟨rfl,kps⟩
inductive MoveO (x:Int)(S:Ap):Nat→Ap→Prop where
 |rng (h: ¬(0≤x∧x<S.D.nb)):MoveO x S 3 S
 |st {b:Nat} (e:x=((b:Nat):Int)) (hb:b<S.D.nb) (h:S.ps b≠3∨S.jr ((b:Nat):Int)=true):MoveO x S 8 S
 |run {b:Nat} {S':Ap} {o:WO} (e:x=((b:Nat):Int)) (hb:b<S.D.nb) (h1:S.ps b=3) (h2:S.jr ((b:Nat):Int)=false) (ho:o= .done 0∨o= .full∨o= .pow) (m:MovO b S S' o):MoveO x S (eOf o) S'
theorem Rs {ab:Nat}{y:Int}(T:Tb P0 E F K)(r:ApR κ h I S)(ka:Bk h ab [.ptr I.s 0])(iw:IW S)(hdn:S.down=false)
  (hf:S.last<S.next∧S.next<10000000) (hn:S.D.n+1000<100000) (hS:S.S<1000)
  (hM: ∀b:Nat,y=((b:Nat):Int)→b<S.D.nb→S.ps b=3→S.jr ((b:Nat):Int)=false→(S.mv b).length≤6∧S.pe b<100000∧
   (∀i es S1 p,MvS (B7 S.A) S ((S.mv b).take i) es S1→(S.mv b)[i]?=some p→MvOk S b i p S1)∧
   (∀es S1,MvS (B7 S.A) S (S.mv b) es S1→ ∀j y,es[j]?=some y→okE S.S (S.D.nb*S.D.P) (stA S.A es j) y)∧
   (∀es S1 S2,MvS (B7 S.A) S (S.mv b) es S1→CmP es S1 S2 (.done 0)→S2.ps b=3)):
  Ct P0 E F K 15 [.ptr ab 0,AI y] h (fun v h'=> ∃e S' κ',v=AI ((e:Nat):Int)∧MoveO y S e S'∧ApR κ' h' I S'∧AChg κ h κ' h'):=by
 have lk:=ka.lt
 refine Ae L X.f15 X.k15 rfl rfl fun Q x cs G=>?_
 refine wk ?_
 have k1:K0 h (hp (h.n+1) h.t [(h.n,some (cl [AI y]))]):=kps
 have r1:ApR (ext κ h.n) (hp (h.n+1) h.t [(h.n,some (cl [AI y]))]) I S:=r.k0 k1 fun b hb=>Af hb
 have a1:AChg κ h (ext κ h.n) (hp (h.n+1) h.t [(h.n,some (cl [AI y]))]):=AChg.k0 k1 fun b hb=>Af hb
 have kc1:Bk (hp (h.n+1) h.t [(h.n,some (cl [AI y]))]) h.n [AI y]:=lkp
 have cl1: ∀κ2 h2,K0 (hp (h.n+1) h.t [(h.n,some (cl [AI y]))]) h2→(hp (h.n+1) h.t [(h.n,some (cl [AI y]))]).n<h2.n→(∀b,b<(hp (h.n+1) h.t [(h.n,some (cl [AI y]))]).n→κ2 b=ext κ h.n b)→ApR κ2 h2 I S→CtX P0 E F K 47 (.ptr I.s 0:: [.ptr h.n 0]) h2
   (fun v h'=> ∃κ' S',ApR κ' h' I S'∧AChX (fun _=>False) κ2 h2 κ' h'∧MoveO y S 0 S')
   (fun v h'=> ∃κ' S' e,v= .ifc 44 (AI e)∧ApR κ' h' I S'∧AChX (fun _=>False) κ2 h2 κ' h'∧ ∃e':Nat,e=((e':Nat):Int)∧MoveO y S e' S'):=by
  intro κ2 h2 k2 n2 c2 r2
  have hk:κ2 h.n=0:=(c2 _ (by simp only [Al];omega)).trans (Bs (Nat.le_refl _))
  by_cases hr:0≤y∧y<S.D.nb
  ·obtain⟨b,rfl⟩:=Int.eq_ofNat_of_zero_le hr.1
   by_cases hs:S.ps b≠3∨S.jr ((b:Nat):Int)=true
   ·refine(jc L X r2 (Ah k2 kc1) (by omega) hdn hs).X.mono (fun v h' q=>q) ?_
    rintro v h' ⟨rfl,k3⟩
    exact⟨ext κ2 h2.n,S,_,rfl,r2.k0 k3 fun b hb=>Af hb,(AChg.k0 k3 fun b hb=>Af hb).x,_,rfl,.st rfl (by omega) hs⟩
   ·have h3:S.ps b=3:=Decidable.byContradiction fun q=>hs (.inl q)
    have hj:S.jr ((b:Nat):Int)=false:=Bool.eq_false_iff.2 fun q=>hs (.inr q)
    obtain⟨m1,m2,m3,m4,m5⟩:=hM b rfl (by omega) h3 hj
    refine(ja L X T r2 iw (Ah k2 kc1) (.inl hk) (by omega) hdn h3 hj hf hn m1 m3 m4 m2 hS m5).mono ?_ ?_
    ·rintro v h' ⟨S',κ',q1,q2,q3⟩
     exact⟨κ',S',q2,q3.x,.run rfl (by omega) h3 hj (.inl rfl) q1⟩
    ·rintro v h' ⟨o,S',κ',rfl,ho,q1,q2,q3⟩
     exact⟨κ',S',_,rfl,q2,q3.x,_,rfl,.run rfl (by omega) h3 hj (.inr ho) q1⟩
  ·refine(Zf L X r2 (Ah k2 kc1) hr).X.mono (fun v h' q=>q) ?_
   rintro v h' ⟨rfl,k3⟩
   exact⟨ext κ2 h2.n,S,_,rfl,r2.k0 k3 fun b hb=>Af hb,(AChg.k0 k3 fun b hb=>Af hb).x,_,rfl,.rng hr⟩
 refine cal (c:=E3 L X r1 (Ah k1 ka) (fun b e=>e.elim) cl1) (g:=?_)
 rintro v h2 ⟨κ',S',h1,r',a',-,hv⟩
 have a2:=a'.own a1 fun b e=>e.elim
 rcases hv with⟨rfl,u,q1⟩|⟨e,rfl,e',rfl,q⟩
 ·refine wk ?_
  refine ret X.f15 ?_
  exact⟨0,S',κ',rfl,q1,r'.k0 kps fun _ _=>rfl,a2.trans (AChg.k0 kps fun _ _=>rfl)⟩
 ·refine wk ?_
  refine ret X.f15 ?_
  exact⟨e',S',κ',rfl,q,r'.k0 kps fun _ _=>rfl,a2.trans (AChg.k0 kps fun _ _=>rfl)⟩
end
end
section
variable {P0:Program}{E:Env}{F:T CFn}{K:T (List AV×AV)}(L:Lg P0 E F K)(X:Fx F K)
include L X
structure DomB (f:Int→Bool)(J:List Int):Prop where
 lt:J.Pairwise (· < ·)
 mem: ∀s,s∈J↔f s=true
omit L X in
theorem SetR.dom {M:List (Int×AV×Nat)}{ck:Nat}{f:Int→Bool}(o:MOk M ck)(q: ∀k:Int,Bo M k=if f k=true then some (.bool true)else none){J:List Int}(p:J.Perm (M.map (·.1))):DomB f (E2 J):=by
 refine⟨W3 (p.nodup_iff.2 o.keys),fun s=>?_⟩
 rw [(Iy J).mem_iff,p.mem_iff,←mHas_mem,Cy]
 have h1:=q s
 unfold Bo at h1
 by_cases hf:f s=true
 ·rw [if_pos hf]at h1
  cases hx:M.find? fun x=>decide (s=x.1)with
  |none=>rw [hx]at h1;cases h1
  |some x=>simp [hf]
 ·rw [if_neg hf,Option.map_eq_none_iff]at h1
  rw [h1];simp [hf]
def Ap.clg (S:Ap):Ap:=if 0≤S.log then {S with ps:=upd S.ps S.log.toNat 3,log:= -1}else S
inductive ErP:List Int→Ap→Ap→WO→Prop where
 |nil {S:Ap}:ErP [] S S (.done 0)
 |cons {b:Nat} {l:List Int} {S S':Ap} {o:WO} (h:(S.ers b).2= .done 0) (t:ErP l {(S.ers b).1 with jr:=Bb (S.ers b).1.jr ((b:Nat):Int) false} S' o):ErP (((b:Nat):Int)::l) S S' o
 |bad {b:Nat} {l:List Int} {S:Ap} (h:(S.ers b).2= .pow):ErP (((b:Nat):Int)::l) S (S.ers b).1 .pow
omit L X in
theorem ErP.app {l l':List Int}{S S1 S':Ap}{o o1:WO}(h:ErP l S S1 o1)(e:o1= .done 0)(t:ErP l' S1 S' o):ErP (l++l') S S' o:=by
 induction h with
 |nil=>exact t
 |cons h _ ih=>exact .cons h (ih e t)
 |bad=>cases e
inductive CkO (S:Ap):Ap→WO→Prop where
 |bad {D:List Int} {S1:Ap} {o:WO} (hD:DomA S.A D) (h:RcP 3 (B4 S.A D) S.clg S1 o) (ho:o= .full∨o= .pow):CkO S S1 o
 |run {D J:List Int} {S1 S':Ap} {o:WO} (hD:DomA S.A D) (h:RcP 3 (B4 S.A D) S.clg S1 (.done 0)) (hJ:DomB S.jr J) (e:ErP J S1 S' o):CkO S S' o
section
variable {h:H}{κ: Nat→Nat}{I:Ai}{S:Ap}
theorem Zg (T:Tb P0 E F K)(U:SortOk P0 E F 129)(r:ApR κ h I S)(iw:IW S)(hdn:S.down=false)(hS:S.S<1000)(hj: ∀k,S.jr k=true→0≤k∧k<S.D.nb)(hf:S.last<S.next∧S.next<10000000)(hn:S.D.n+40000<100000)
  (hE: ∀D J S1 i Si,DomA S.A D→RcP 3 (B4 S.A D) S.clg S1 (.done 0)→DomB S.jr J→ErP (J.take i) S1 Si (.done 0)→ ∀y,J[i]?=some y→ ∃b:Nat,y=((b:Nat):Int)∧b<Si.D.nb∧(Si.ps b=2∨Si.ps b=3)∧Si.pe b<100000∧Si.D.n+1<100000):
  CtX P0 E F K 92 [.ptr I.s 0] h
   (fun v h'=> ∃S' κ',CkO S S' (.done 0)∧ApR κ' h' I S'∧AChg κ h κ' h')
   (fun v h'=> ∃(o:WO) (S':Ap) (κ':Nat→Nat),v= .ifc 44 (AI ((eOf o:Nat):Int))∧(o= .full∨o= .pow)∧CkO S S' o∧ApR κ' h' I S'∧AChg κ h κ' h'):=by
 have sk:=r.sk
 have ls:=sk.lt
 have hcol:=r.col
 have hlt:=r.lt
 have hnb:=r.dv.ok.g.nb
 have hsz:=r.dv.ok.g.sz
 obtain⟨M,ck,m1,m2,m3⟩:=r.mj.ex
 have lm:=m1.lt
 have hM:M.length≤S.D.nb:=by
  have:=Fp S.D.nb (M.map (·.1)) m2.keys fun k hk=>by
   refine hj k ?_
   have h2:=mHas_mem.2 hk
   rw [Cy]at h2
   have h1:=m3 k
   unfold Bo at h1
   by_cases q:S.jr k=true
   ·exact q
   ·rw [if_neg q,Option.map_eq_none_iff]at h1;rw [h1]at h2;cases h2
  rwa [List.length_map]at this
 unfold apC at sk
 rw [hdn]at sk
 refine Bu L X.f92 X.k92 rfl rfl rfl fun Q x cs G Gp=>?_
 refine wk ?_
 refine cal (c:=Ao L X) (g:=?_)
 rintro _ rfl
 refine wk ?_
 refine cal (c:=Vf L X U m2 (Oj (by exact kps) m1) (by omega)) (g:=?_)
 rintro _ h2 ⟨J0,p,k2,w2⟩
 have hJ:=SetR.dom m2 m3 p
 have hJl:(E2 J0).length≤S.D.nb:=by rw [(Iy J0).length_eq,p.length_eq,List.length_map];exact hM
 generalize E2 J0=J at*
 have r2:ApR (ext κ h.n) h2 I S:=r.k0 k2 fun b hb=>Af hb
 have a2:AChg κ h (ext κ h.n) h2:=AChg.k0 k2 fun b hb=>Af hb
 have w3:=w2.bd
 by_cases hlog:0≤S.log
 ·obtain⟨hl1,hl2⟩:=(iw.wi true).sel hlog
  have hsl:S.sel true=S.log:=rfl
  rw [hsl]at hl1 hl2
  obtain⟨lg,hlg⟩:=Int.eq_ofNat_of_zero_le hlog
  have ec:S.clg= {S with ps:=upd S.ps lg 3,log:= -1}:=by unfold Ap.clg;rw [if_pos hlog,hlg,Int.toNat_natCast]
  have iwc:IW S.clg:=by
   rw [ec]
   refine⟨fun k=>?_,fun k=>?_⟩
   ·cases k with
    |true=>exact⟨fun h=>absurd h (by show¬(0:Int)≤ -1;omega),by show(-1:Int)≤ -1;omega⟩
    |false=>
     refine⟨fun h=>?_,(iw.wi false).lo⟩
     obtain⟨f1,f2⟩:=(iw.wi false).sel h
     refine⟨f1,?_⟩
     show upd S.ps lg 3 (S.sel false).toNat=2
     have hne:=iw.ne false h
     rw [upd_ne _ _ (fun e=>hne ?_)]
     ·exact f2
     ·show S.sel false=S.log
      have:0≤S.sel false:=h
      rw [hlg];omega
   ·cases k with
    |true=>intro h;exact absurd h (by show¬(0:Int)≤ -1;omega)
    |false=>intro h;show S.dat≠ -1;have:0≤S.dat:=h;omega
  have hcD:S.clg.D=S.D:=by rw [ec]
  have hcl:S.clg.last=S.last:=by rw [ec]
  have hcx:S.clg.next=S.next:=by rw [ec]
  have hcA:S.clg.A=S.A:=by rw [ec]
  rw [hlg]at sk hl2
  rw [Int.toNat_natCast]at hl2
  obtain⟨cb2,po2⟩:=r2.po
  refine wk ?_
  refine cal (c:=Gt L X (i:=lg) (po2.k0 (by exact kps)) (by omega) hl2) (g:=?_)
  rintro _ h3 ⟨rfl,po3,k3⟩
  have r3:=(r2.k0 (κ':=ext κ h.n) (h':=hp h2.n h2.t []) (by exact kps) fun _ _=>rfl).pool k3 po3
  have sk3:=r3.sk
  have ls3:=sk3.lt
  have hcol3:=r3.col
  have nn3:=k3.n
  simp only [Al]at nn3
  unfold apC at sk3
  refine wk ?_
  have k4:Kp (fun j=>j=I.s) h3 (hp h3.n h3.t [(I.s,some (cl (apC I {S with ps:=upd S.ps lg 3,log:= -1})))]):=kps
  have r4:ApR (ext κ h.n) (hp h3.n h3.t [(I.s,some (cl (apC I {S with ps:=upd S.ps lg 3,log:= -1})))]) I S.clg:=by rw [ec];exact r3.st k4 lkp ⟨rfl,rfl,rfl,rfl,rfl,rfl,rfl,rfl⟩
  have a4:AChg κ h (ext κ h.n) (hp h3.n h3.t [(I.s,some (cl (apC I {S with ps:=upd S.ps lg 3,log:= -1})))]):=a2.trans ((AChg.kp (κ:= ext κ h.n) k3 fun j _ e=>by rcases e with e|e <;> subst e <;> omega).trans (AChg.kp k4 fun j _ e=>by subst e;omega))
  have mp4:=r4.mp
  rw [hcA]at mp4
  refine cal (c:=If L X U (mp4.k0 (by exact kps))) (g:=?_)
  rintro v5 h5 ⟨D,hD,hDl,el,k5⟩
  have r5:ApR (ext κ h.n) h5 I S.clg:=r4.k0 (by exact kps) fun _ _=>rfl
  have a5:AChg κ h (ext κ h.n) h5:=a4.trans (AChg.k0 (κ':=ext κ h.n) (by exact kps) fun _ _=>rfl)
  have hok: ∀e∈B4 S.A D,e.Ok:=by
   intro e he
   unfold B4 at he
   obtain⟨s,hs,rfl⟩:=List.mem_map.1 he
   have:=(hD.mem s).1 hs
   obtain⟨q,hq⟩:=Option.isSome_iff_exists.1 this
   have hrg:=r.mp.rg s q hq
   have hm:S.D.nb*S.D.P≤12*6:=Nat.mul_le_mul r.dv.ok.g.nb.2 (by have:=r.dv.ok.g.P;omega)
   have hat:atA S.A s=q:=by unfold atA;rw [hq];rfl
   exact⟨by show 0≤s;omega,by show s≤_;omega,by show -1≤atA S.A s;omega,by show atA S.A s≤_;omega⟩
  have hel:(B4 S.A D).length≤S.S:=by
   unfold B4;rw [List.length_map]
   refine Fp S.S D (hD.lt.imp fun h=>Int.ne_of_lt h) fun s hs=>?_
   obtain⟨q,hq⟩:=Option.isSome_iff_exists.1 ((hD.mem s).1 hs)
   have hrg:=r.mp.rg s q hq
   exact⟨hrg.1,hrg.2.1⟩
  have hrec:recN S.clg (B4 S.A D)≤(B4 S.A D).length+1:=Km (by rw [hcD];omega)
  refine wk ?_
  refine Hg L (c:=Jo (k:=3) L X T (r5.k0 (κ':=ext κ h.n) (by exact kps) fun _ _=>rfl) iwc (.inr rfl) ((el.mono (Nat.zero_le _)).k0 (by exact kps)) hok (by omega) (by rw [hcl,hcx];omega) (by rw [hcD];omega)) (g:=?_) (gp:=?_)
  ·rintro _ h6 ⟨S1,κ6,hrc,r6,a6⟩
   have a7:AChg κ h κ6 h6:=a5.trans ((AChg.k0 (κ':=ext κ h.n) (by exact kps) fun _ _=>rfl).trans a6)
   have n6:=a6.k.n
   have n5:=k5.n
   simp only [Al]at n5 n6
   rcases w2.ex with⟨rfl,rfl⟩|⟨hpJ,jb,rfl,w4,w5⟩
   ·refine wk ?_
    refine A9 L ?_
    refine wk ?_
    refine ret X.f92 ?_
    exact⟨S1,κ6,.run hD hrc hJ .nil,r6.k0 kps fun _ _=>rfl,a7.trans (AChg.k0 kps fun _ _=>rfl)⟩
   ·simp only [Al]at w5
    have hj0:ext κ h.n jb=0:=Bs w5
    have hjb2:=w4.lt
    have wj5:Bk h5 jb (J.map AI):=Ah k5 (As k4 (by omega) (As k3 (by omega) w4))
    have wj6:Bk h6 jb (J.map AI):=As a6.k (by rw [hj0];omega) (by exact lkp)
    have hj6:κ6 jb=0:=(a6.col jb (by simp only [Al];omega)).trans hj0
    refine wk ?_
    refine Co L (α:= Ap×(Nat→Nat)) (T:=fun i _=> [(45,some (AI ((i:Nat):Int))),(44,some (AI ((J.length:Nat):Int))),(43,some (.slc jb 0 J.length (Aa+1))),(0,some (.ptr I.s 0))]) (n:=J.length)
     (R:=fun i s hh=>ApR s.2 hh I s.1∧AChg κ h s.2 hh∧ErP (J.take i) S1 s.1 (.done 0)∧Bk hh jb (J.map AI)∧s.2 jb=0) (i0:=0) (S1,κ6) tsb
     ⟨r6.k0 (by exact kps) fun _ _=>rfl,a7.trans (AChg.k0 (by exact kps) fun _ _=>rfl),.nil,by exact lkp,hj6⟩ (Nat.zero_le _) ?_ ?_
    ·rintro i ⟨Si,κi⟩ hh hi ⟨ri,ai,eri,kj,hcj⟩ ih
     simp only at ri ai eri hcj
     have hx:J[i]?=some J[i]:=List.getElem?_eq_getElem hi
     obtain⟨b,hy,q1,q2,q3,q4⟩:=hE D J S1 i Si hD hrc hJ eri _ hx
     rw [hy]at hx
     have hja:(J.map AI)[i]?=some (AI ((b:Nat):Int)):=by rw [List.getElem?_map,hx];rfl
     have htk:J.take (i+1)=J.take i++ [((b:Nat):Int)]:=by rw [List.take_add_one,hx];rfl
     have hsp:J=J.take i++(((b:Nat):Int)::J.drop (i+1)):=by
      have h1:=(List.take_append_drop i J).symm
      rw [List.drop_eq_getElem_cons hi,hy]at h1
      exact h1
     have lj:=kj.lt
     refine wk ?_
     refine Hg L (c:=Lu (b:=b) L X (ri.k0 (κ':=κi) (by exact kps) fun _ _=>rfl) q1 q2 q3 q4) (g:=?_) (gp:=?_)
     ·rintro _ h7 ⟨g1,κ7,r7,a8⟩
      have a9:AChg κ h κ7 h7:=ai.trans ((AChg.k0 (κ':=κi) (by exact kps) fun _ _=>rfl).trans a8)
      have kj7:Bk h7 jb (J.map AI):=As a8.k (by rw [hcj];omega) (by exact lkp)
      have hc7:κ7 jb=0:=(a8.col jb (by simp only [Al];omega)).trans hcj
      obtain⟨M7,ck7,o1,o2,o3⟩:=r7.mj.ex
      have lo1:=o1.lt
      have sk7:=r7.sk
      have ls7:=sk7.lt
      have hcol7:=r7.col
      have nsj:I.s≠I.rj:=fun e=>by rw [e]at hcol7;omega
      have njj:jb≠I.rj:=fun e=>by rw [←e]at hcol7;omega
      have lj7:=kj7.lt
      unfold apC at sk7
      refine wk ?_
      (apply Jj L rfl;exact F9 (KE.int .i64) o2 rfl rfl lkq;rfl)
      have k8:Kp (fun j=>j=I.rj) h7 (hp h7.n h7.t [(I.rj,some (.map ((Ha M7 ((b:Nat):Int)).map (mE AI)) ck7))]):=kps
      have r8:=r7.jset k8 (SetR.del (k:=((b:Nat):Int)) lkq o2 o3)
      have a10:AChg κ h κ7 _:=a9.trans (AChg.kp k8 fun j _ e=>by subst e;omega)
      refine wk ?_
      refine ih ({(Si.ers b).1 with jr:=Bb (Si.ers b).1.jr ((b:Nat):Int) false},κ7) _ _ ⟨r8.k0 ?_ fun _ _=>rfl,a10.trans (AChg.k0 ?_ fun _ _=>rfl),?_,?_,hc7⟩ tsb
      ·exact kps
      ·exact kps
      ·rw [htk];exact eri.app rfl (.cons g1 .nil)
      ·exact lkp
     ·rintro _ h7 ⟨rfl,g1,κ7,r7,a8⟩
      refine An L X.f92 ?_
      exact Gp _ _ ⟨.pow,_,κ7,rfl,.inr rfl,.run hD hrc hJ (by rw [hsp];exact eri.app rfl (.bad g1)),r7,ai.trans ((AChg.k0 (κ':=κi) kps fun _ _=>rfl).trans a8)⟩
    ·rintro⟨Si,κi⟩ hh ⟨ri,ai,eri,kj,hcj⟩
     rw [List.take_length]at eri
     refine wk ?_
     refine ret X.f92 ?_
     exact⟨Si,κi,.run hD hrc hJ eri,ri.k0 kps fun _ _=>rfl,ai.trans (AChg.k0 kps fun _ _=>rfl)⟩
  ·rintro _ h6 ⟨o,S1,κ6,rfl,ho,hrc,r6,a6⟩
   refine An L X.f92 ?_
   exact Gp _ _ ⟨o,S1,κ6,rfl,ho,.bad hD hrc ho,r6,a5.trans ((AChg.k0 (κ':=ext κ h.n) kps fun _ _=>rfl).trans a6)⟩
 ·have ec:S.clg=S:=by unfold Ap.clg;rw [if_neg hlog]
  have iwc:IW S.clg:=by rw [ec];exact iw
  have hcD:S.clg.D=S.D:=by rw [ec]
  have hcl:S.clg.last=S.last:=by rw [ec]
  have hcx:S.clg.next=S.next:=by rw [ec]
  have hcA:S.clg.A=S.A:=by rw [ec]
  have r4:ApR (ext κ h.n) (hp h2.n h2.t []) I S.clg:=by rw [ec];exact r2.k0 (by exact kps) fun _ _=>rfl
  have a4:AChg κ h (ext κ h.n) (hp h2.n h2.t []):=a2.trans (AChg.k0 (by exact kps) fun _ _=>rfl)
  refine wk ?_
  have mp4:=r4.mp
  rw [hcA]at mp4
  refine cal (c:=If L X U (mp4.k0 (by exact kps))) (g:=?_)
  rintro v5 h5 ⟨D,hD,hDl,el,k5⟩
  have r5:ApR (ext κ h.n) h5 I S.clg:=r4.k0 (by exact kps) fun _ _=>rfl
  have a5:AChg κ h (ext κ h.n) h5:=a4.trans (AChg.k0 (κ':=ext κ h.n) (by exact kps) fun _ _=>rfl)
  have hok: ∀e∈B4 S.A D,e.Ok:=by
   intro e he
   unfold B4 at he
   obtain⟨s,hs,rfl⟩:=List.mem_map.1 he
   have:=(hD.mem s).1 hs
   obtain⟨q,hq⟩:=Option.isSome_iff_exists.1 this
   have hrg:=r.mp.rg s q hq
   have hm:S.D.nb*S.D.P≤12*6:=Nat.mul_le_mul r.dv.ok.g.nb.2 (by have:=r.dv.ok.g.P;omega)
   have hat:atA S.A s=q:=by unfold atA;rw [hq];rfl
   exact⟨by show 0≤s;omega,by show s≤_;omega,by show -1≤atA S.A s;omega,by show atA S.A s≤_;omega⟩
  have hel:(B4 S.A D).length≤S.S:=by
   unfold B4;rw [List.length_map]
   refine Fp S.S D (hD.lt.imp fun h=>Int.ne_of_lt h) fun s hs=>?_
   obtain⟨q,hq⟩:=Option.isSome_iff_exists.1 ((hD.mem s).1 hs)
   have hrg:=r.mp.rg s q hq
   exact⟨hrg.1,hrg.2.1⟩
  have hrec:recN S.clg (B4 S.A D)≤(B4 S.A D).length+1:=Km (by rw [hcD];omega)
  refine wk ?_
  refine Hg L (c:=Jo (k:=3) L X T (r5.k0 (κ':=ext κ h.n) (by exact kps) fun _ _=>rfl) iwc (.inr rfl) ((el.mono (Nat.zero_le _)).k0 (by exact kps)) hok (by omega) (by rw [hcl,hcx];omega) (by rw [hcD];omega)) (g:=?_) (gp:=?_)
  ·rintro _ h6 ⟨S1,κ6,hrc,r6,a6⟩
   have a7:AChg κ h κ6 h6:=a5.trans ((AChg.k0 (κ':=ext κ h.n) (by exact kps) fun _ _=>rfl).trans a6)
   have n6:=a6.k.n
   have n5:=k5.n
   simp only [Al]at n5 n6
   rcases w2.ex with⟨rfl,rfl⟩|⟨hpJ,jb,rfl,w4,w5⟩
   ·refine wk ?_
    refine A9 L ?_
    refine wk ?_
    refine ret X.f92 ?_
    exact⟨S1,κ6,.run hD hrc hJ .nil,r6.k0 kps fun _ _=>rfl,a7.trans (AChg.k0 kps fun _ _=>rfl)⟩
   ·simp only [Al]at w5
    have hj0:ext κ h.n jb=0:=Bs w5
    have hjb2:=w4.lt
    have wj5:Bk h5 jb (J.map AI):=Ah k5 w4
    have wj6:Bk h6 jb (J.map AI):=As a6.k (by rw [hj0];omega) (by exact lkp)
    have hj6:κ6 jb=0:=(a6.col jb (by simp only [Al];omega)).trans hj0
    refine wk ?_
    refine Co L (α:= Ap×(Nat→Nat)) (T:=fun i _=> [(45,some (AI ((i:Nat):Int))),(44,some (AI ((J.length:Nat):Int))),(43,some (.slc jb 0 J.length (Aa+1))),(0,some (.ptr I.s 0))]) (n:=J.length)
     (R:=fun i s hh=>ApR s.2 hh I s.1∧AChg κ h s.2 hh∧ErP (J.take i) S1 s.1 (.done 0)∧Bk hh jb (J.map AI)∧s.2 jb=0) (i0:=0) (S1,κ6) tsb
     ⟨r6.k0 (by exact kps) fun _ _=>rfl,a7.trans (AChg.k0 (by exact kps) fun _ _=>rfl),.nil,by exact lkp,hj6⟩ (Nat.zero_le _) ?_ ?_
    ·rintro i ⟨Si,κi⟩ hh hi ⟨ri,ai,eri,kj,hcj⟩ ih
     simp only at ri ai eri hcj
     have hx:J[i]?=some J[i]:=List.getElem?_eq_getElem hi
     obtain⟨b,hy,q1,q2,q3,q4⟩:=hE D J S1 i Si hD hrc hJ eri _ hx
     rw [hy]at hx
     have hja:(J.map AI)[i]?=some (AI ((b:Nat):Int)):=by rw [List.getElem?_map,hx];rfl
     have htk:J.take (i+1)=J.take i++ [((b:Nat):Int)]:=by rw [List.take_add_one,hx];rfl
     have hsp:J=J.take i++(((b:Nat):Int)::J.drop (i+1)):=by
      have h1:=(List.take_append_drop i J).symm
      rw [List.drop_eq_getElem_cons hi,hy]at h1
      exact h1
     have lj:=kj.lt
     refine wk ?_
     refine Hg L (c:=Lu (b:=b) L X (ri.k0 (κ':=κi) (by exact kps) fun _ _=>rfl) q1 q2 q3 q4) (g:=?_) (gp:=?_)
     ·rintro _ h7 ⟨g1,κ7,r7,a8⟩
      have a9:AChg κ h κ7 h7:=ai.trans ((AChg.k0 (κ':=κi) (by exact kps) fun _ _=>rfl).trans a8)
      have kj7:Bk h7 jb (J.map AI):=As a8.k (by rw [hcj];omega) (by exact lkp)
      have hc7:κ7 jb=0:=(a8.col jb (by simp only [Al];omega)).trans hcj
      obtain⟨M7,ck7,o1,o2,o3⟩:=r7.mj.ex
      have lo1:=o1.lt
      have sk7:=r7.sk
      have ls7:=sk7.lt
      have hcol7:=r7.col
      have nsj:I.s≠I.rj:=fun e=>by rw [e]at hcol7;omega
      have njj:jb≠I.rj:=fun e=>by rw [←e]at hcol7;omega
      have lj7:=kj7.lt
      unfold apC at sk7
      refine wk ?_
      (apply Jj L rfl;exact F9 (KE.int .i64) o2 rfl rfl lkq;rfl)
      have k8:Kp (fun j=>j=I.rj) h7 (hp h7.n h7.t [(I.rj,some (.map ((Ha M7 ((b:Nat):Int)).map (mE AI)) ck7))]):=kps
      have r8:=r7.jset k8 (SetR.del (k:=((b:Nat):Int)) lkq o2 o3)
      have a10:AChg κ h κ7 _:=a9.trans (AChg.kp k8 fun j _ e=>by subst e;omega)
      refine wk ?_
      refine ih ({(Si.ers b).1 with jr:=Bb (Si.ers b).1.jr ((b:Nat):Int) false},κ7) _ _ ⟨r8.k0 ?_ fun _ _=>rfl,a10.trans (AChg.k0 ?_ fun _ _=>rfl),?_,?_,hc7⟩ tsb
      ·exact kps
      ·exact kps
      ·rw [htk];exact eri.app rfl (.cons g1 .nil)
      ·exact lkp
     ·rintro _ h7 ⟨rfl,g1,κ7,r7,a8⟩
      refine An L X.f92 ?_
      exact Gp _ _ ⟨.pow,_,κ7,rfl,.inr rfl,.run hD hrc hJ (by rw [hsp];exact eri.app rfl (.bad g1)),r7,ai.trans ((AChg.k0 (κ':=κi) kps fun _ _=>rfl).trans a8)⟩
    ·rintro⟨Si,κi⟩ hh ⟨ri,ai,eri,kj,hcj⟩
     rw [List.take_length]at eri
     refine wk ?_
     refine ret X.f92 ?_
     exact⟨Si,κi,.run hD hrc hJ eri,ri.k0 kps fun _ _=>rfl,ai.trans (AChg.k0 kps fun _ _=>rfl)⟩
  ·rintro _ h6 ⟨o,S1,κ6,rfl,ho,hrc,r6,a6⟩
   refine An L X.f92 ?_
   exact Gp _ _ ⟨o,S1,κ6,rfl,ho,.bad hD hrc ho,r6,a5.trans ((AChg.k0 (κ':=ext κ h.n) kps fun _ _=>rfl).trans a6)⟩
end
end
section
variable {P0:Program}{E:Env}{F:T CFn}{K:T (List AV×AV)}(L:Lg P0 E F K)(X:Fx F K)
include L X
section
variable {h:H}{κ: Nat→Nat}{I:Ai}{S:Ap}
theorem Pb {ab:Nat}(T:Tb P0 E F K)(U:SortOk P0 E F 129)(r:ApR κ h I S)(ka:Bk h ab [.ptr I.s 0])(iw:IW S)(hdn:S.down=false)(hS:S.S<1000)(hj: ∀k,S.jr k=true→0≤k∧k<S.D.nb)(hf:S.last<S.next∧S.next<10000000)(hn:S.D.n+40000<100000)
  (hE: ∀D J S1 i Si,DomA S.A D→RcP 3 (B4 S.A D) S.clg S1 (.done 0)→DomB S.jr J→ErP (J.take i) S1 Si (.done 0)→ ∀y,J[i]?=some y→ ∃b:Nat,y=((b:Nat):Int)∧b<Si.D.nb∧(Si.ps b=2∨Si.ps b=3)∧Si.pe b<100000∧Si.D.n+1<100000):
  Ct P0 E F K 40 [.ptr ab 0] h (fun v h'=> ∃(o:WO) (S':Ap) (κ':Nat→Nat),v=AI ((eOf o:Nat):Int)∧(o= .done 0∨o= .full∨o= .pow)∧CkO S S' o∧ApR κ' h' I S'∧AChg κ h κ' h'):=by
 have lk:=ka.lt
 refine Am L X.f40 X.k40 rfl rfl fun Q x cs G=>?_
 refine wk ?_
 have cl1: ∀κ2 h2,K0 (hp h.n h.t []) h2→(hp h.n h.t []).n<h2.n→(∀b,b<(hp h.n h.t []).n→κ2 b=κ b)→ApR κ2 h2 I S→CtX P0 E F K 92 (.ptr I.s 0:: []) h2
   (fun v h'=> ∃κ' S',ApR κ' h' I S'∧AChX (fun _=>False) κ2 h2 κ' h'∧CkO S S' (.done 0))
   (fun v h'=> ∃κ' S' e,v= .ifc 44 (AI e)∧ApR κ' h' I S'∧AChX (fun _=>False) κ2 h2 κ' h'∧ ∃o:WO,e=((eOf o:Nat):Int)∧(o= .full∨o= .pow)∧CkO S S' o):=by
  intro κ2 h2 k2 n2 c2 r2
  refine(Zg L X T U r2 iw hdn hS hj hf hn hE).mono ?_ ?_
  ·rintro v h' ⟨S',κ',q1,q2,q3⟩
   exact⟨κ',S',q2,q3.x,q1⟩
  ·rintro v h' ⟨o,S',κ',rfl,ho,q1,q2,q3⟩
   exact⟨κ',S',_,rfl,q2,q3.x,o,rfl,ho,q1⟩
 refine cal (c:=E3 L X (r.k0 (κ':=κ) (h':=hp h.n h.t []) (by exact kps) fun _ _=>rfl) (Ah (by exact kps) ka) (fun b e=>e.elim) cl1) (g:=?_)
 rintro v h2 ⟨κ',S',h1,r',a',-,hv⟩
 have a2:AChg κ h κ' h2:=a'.own (AChg.k0 (κ':=κ) (by exact kps) fun _ _=>rfl) fun b e=>e.elim
 rcases hv with⟨rfl,u,q1⟩|⟨e,rfl,o,rfl,ho,q⟩
 ·refine wk ?_
  refine ret X.f40 ?_
  exact⟨.done 0,S',κ',rfl,.inl rfl,q1,r'.k0 kps fun _ _=>rfl,a2.trans (AChg.k0 kps fun _ _=>rfl)⟩
 ·refine wk ?_
  refine ret X.f40 ?_
  exact⟨o,S',κ',rfl,.inr ho,q,r'.k0 kps fun _ _=>rfl,a2.trans (AChg.k0 kps fun _ _=>rfl)⟩
end
end
section
variable {P0:Program}{E:Env}{F:T CFn}{K:T (List AV×AV)}(L:Lg P0 E F K)(X:Fx F K)
include L X
def Ap.age (S:Ap)(b:Nat):Nat:=min (S.next - (S.wr ((b:Nat):Int)).getD 0) 1099511627776
def Ap.cds (S:Ap):Nat→List Nat
 |0=> []
 |i+1=>if S.ps i=3∧S.jr ((i:Nat):Int)=false then S.cds i++ [i]else S.cds i
noncomputable def cdC (S:Ap)(b:Nat):List AV:= [AI ((b:Nat):Int),AI ((valA S.A S.D.P b:Nat):Int),AI ((S.D.P:Nat):Int),AI ((S.age b:Nat):Int)]
omit L X in
theorem I3 (S:Ap)(l:List Nat): ∀x∈l,(cdC S x).length=4:=fun _ _=>rfl
omit L X in
theorem Kq (S:Ap): ∀i,(S.cds i).length≤i
 |0=>Nat.le_refl _
 |i+1=>by
  have:=Kq S i
  simp only [Ap.cds]
  split
  ·rw [List.length_append,List.length_singleton];omega
  ·omega
structure CdR (S:Ap)(h:H)(lo:Nat)(v:AV)(l:List Nat):Prop where
 ex:(l= []∧v= .nils)∨(0<l.length∧ ∃b,v= .slc b 0 l.length (Aa+4)∧Bk h b (l.flatMap (cdC S))∧lo≤b)
omit L X in
theorem CdR.k0 {S:Ap}{h h':H}{lo:Nat}{v:AV}{l:List Nat}(q:CdR S h lo v l)(k:K0 h h'):CdR S h' lo v l:=by
 rcases q.ex with h1|⟨h2,b,h3,h4,h5⟩
 ·exact⟨.inl h1⟩
 ·exact⟨.inr ⟨h2,b,h3,Ah k h4,h5⟩⟩
omit L X in
theorem CdR.app {S:Ap}{h:H}{lo N n i:Nat}{l:List Nat}(hb:Bk h N (l.flatMap (cdC S)++cdC S i))(hlo:lo≤N)(hn:l.length=n):CdR S h lo (.slc N 0 (n+1) (Aa+4)) (l++ [i]):=
 ⟨.inr ⟨by simp,N,by simp [hn],by rw [List.flatMap_append];simpa using hb,hlo⟩⟩
noncomputable def Tq (s c bx a b mk:Nat)(st:LS):Blk:= .loop ⟨st,none,43,cf43.ntmps,tms [(9,some (.fn (.func 101) [] [.ptr a 0,.ptr b 0])),(2,some (.ptr bx 0)),(1,some (.ptr c 0)),(0,some (.ptr s 0))],[10,11],c43_2,c43_9,mk⟩
structure RCd (h hh:H)(I:Ai)(S:Ap)(c a b lb mk:Nat)(cb:List AV)(i:Nat):Prop where
 k:Kp (fun j=>j=c) h hh
 dk:Gk hh mk (.dfr (some []))
 lp:Gk hh (mk+1) (Tq I.s c h.n a b mk .ready)
 ka:Bk hh a [.slc lb 0 S.D.nb (Aa+2)]
 kb:Bk hh b [eI ((3:Nat):Int)]
 kl:Bk hh lb cb
 kx:Bk hh h.n [.ptr I.s 0]
 ex: ∃w,Bk hh c [w]∧CdR S hh (mk+2) w (S.cds i)
omit L X in
theorem Kr {l:List (Nat×Option AV)}{h:H}{x y:O}{M:List (Int×AV×Nat)}{k:Int}{r ck:Nat}{zero v:AV}(hx:evO l x=some (.map r))(hy:evO l y=some (AI k))(hb:Mk h r (M.map (mE AI)) ck)(hv:(Bo M k).getD zero=v):XV (.lookup .pint zero x y false) h l v h:=hv ▸ Dy (KE.int .i64) hx hy hb
section
variable {h:H}{κ: Nat→Nat}{I:Ai}{S:Ap}
theorem jd {c:Nat}(r:ApR κ h I S)(kc:Bk h c [.nils])(hc:200≤κ c)(hw: ∀b n,S.wr b=some n→n≤S.next)(hnx:S.next<10000000):
  Ct P0 E F K 43 [.ptr I.s 0,.ptr c 0] h
   (fun v h'=>Kp (fun j=>j=c) h h'∧ ∃w,Bk h' c [w]∧CdR S h' h.n w (S.cds S.D.nb)):=by
 have sk:=r.sk
 have ls:=sk.lt
 have lc:=kc.lt
 have hcol:=r.col
 have hlt:=r.lt
 have hnbd:=r.dv.ok.g.nb
 obtain⟨cb,po⟩:=r.po
 have ncs:c≠I.s:=fun e=>by rw [←e]at hcol;omega
 unfold apC at sk
 refine Ae L X.f43 X.k43 rfl rfl fun Q x cs G=>?_
 refine wk ?_
 refine cal (c:=Jn L X (s:=3) (po.k0 (by exact kps))) (g:=?_)
 rintro _ h2 ⟨a,b,lb,rfl,w1,w2,w3,w4,w5,w6,w7⟩
 have n5:=w7.n
 simp only [Al]at n5 w4 w5 w6
 have la:=w1.lt
 have lb':=w2.lt
 have lc':=w3.lt
 refine wk ?_
 refine En L (tm':=tms [(9,some (.fn (.func 101) [] [.ptr a 0,.ptr b 0])),(2,some (.ptr h.n 0)),(1,some (.ptr c 0)),(0,some (.ptr I.s 0))]) tsb ?_
 refine Hd L (post:=fun _ h'=>RCd h h' I S c a b lb h2.n cb S.D.nb) rfl rfl rfl ?_ ?_
 ·refine Ct.A ((Ig L X (ps:=S.ps) (pe:=S.pe) (cb:=cb) po.len hnbd.2 po.c0 po.c1 (fun i hh=>RCd h hh I S c a b lb h2.n cb i) (fun i hh r=>⟨r.ka,r.kb,r.kl⟩) (fun i hh h' r k=>?_) (fun i hh hi e r=>?_) (fun i hh hi e r=>?_) ⟨kps,lkg,(by unfold Tq;exact lkg),lkp,lkp,lkp,lkp,.nils,lkp,⟨.inl ⟨rfl,rfl⟩⟩⟩).mono fun v h' p=>p)
  ·exact⟨Kp.tr0 k r.k,Es k r.dk,Es k r.lp,Ah k r.ka,Ah k r.kb,Ah k r.kl,Ah k r.kx,let⟨w,e1,e2⟩:=r.ex;⟨w,Ah k e1,e2.k0 k⟩⟩
  ·obtain⟨r1,r2,r3,r4,r5,r6,r7,w,r8,r9⟩:=r
   have hle:=r3.e
   unfold Tq at hle
   have g1:=r2.lt
   have g2:=r3.lt
   have g3:=r4.lt
   have g4:=r5.lt
   have g5:=r6.lt
   have g7:=r7.lt
   have g8:=r8.lt
   have hcl:=Kq S i
   have rr:ApR (ext κ h.n) hh I S:=r.own r1 (fun j _ e=>by subst e;exact hc) fun b hb=>Af hb
   obtain⟨M,ck,m1,m2,m3⟩:=rr.mj.ex
   obtain⟨N,nk,o1,o2,o3⟩:=rr.mw.ex
   have sk2:=rr.sk
   have lm1:=m1.lt
   have lo1:=o1.lt
   have ls2:=sk2.lt
   have hg:=m3 ((i:Nat):Int)
   have hgw:=o3 ((i:Nat):Int)
   unfold apC at sk2
   refine Fl L (l1:= [(11,some (eI ((S.pe i:Nat):Int))),(10,some (eI ((i:Nat):Int))),(9,some (.fn (.func 101) [] [.ptr a 0,.ptr b 0])),(2,some (.ptr h.n 0)),(1,some (.ptr c 0)),(0,some (.ptr I.s 0))]) hle rfl ?_
   intro Q z2 cs G2
   refine wk ?_
   refine Ej L (Gk.e lkg) ?_
   have mpb:MpR S.S S.D.nb S.D.P (hp hh.n hh.t [(h2.n+1,some (Tq I.s c h.n a b h2.n .busy))]) I.m I.r1 I.r2 I.vb S.A:=by
    have:=rr.lt
    exact rr.mp.kp (B:=fun j=>j=h2.n+1) kps (by omega) (by omega) (by omega) (by omega)
   cases hjr:S.jr ((i:Nat):Int)with
   |true=>
    have e1:S.cds (i+1)=S.cds i:=by simp only [Ap.cds];rw [if_neg (by rw [hjr];simp)]
    rw [hjr,if_pos rfl]at hg
    refine wk ?_
    (apply st1 L rfl;exact Kr (v:= .bool true) (k:=((i:Nat):Int)) rfl rfl lkq (by first|(rw [hg];done)|(rw [hg];rfl));rfl)
    refine wk ?_
    refine C8 L (Gk.e lkg) G2 ⟨rfl,?_⟩
    refine⟨kps,lkg,(by unfold Tq;exact Dw (by omega)),lkp,lkp,lkp,lkp,w,lkp,?_⟩
    rw [e1]
    rcases r9.ex with h1|⟨h2',x,rfl,h4,h5⟩
    ·exact⟨.inl h1⟩
    ·have hlx:=h4.lt
     exact⟨.inr ⟨h2',x,rfl,lkp,h5⟩⟩
   |false=>
    have e1:S.cds (i+1)=S.cds i++ [i]:=by simp only [Ap.cds];rw [if_pos ⟨e,hjr⟩]
    rw [hjr,if_neg (by simp)]at hg
    obtain⟨wn,hwn,hwl,hwe⟩: ∃wn:Nat,(∀z:AV,z= .int .u64 ((0:Nat):Int)→(Bo N ((i:Nat):Int)).getD z= .int .u64 ((wn:Nat):Int))∧wn≤S.next∧S.age i=min (S.next - wn) 1099511627776:=by
     cases hwi:S.wr ((i:Nat):Int)with
     |none=>rw [hwi]at hgw;exact⟨0,by rintro z rfl;rw [hgw];rfl,Nat.zero_le _,by unfold Ap.age;rw [hwi];rfl⟩
     |some n=>rw [hwi]at hgw;exact⟨n,by rintro z rfl;rw [hgw];rfl,hw _ _ hwi,by unfold Ap.age;rw [hwi];rfl⟩
    have hcc:cdC S i= [AI ((i:Nat):Int),AI ((valA S.A S.D.P i:Nat):Int),AI ((S.D.P:Nat):Int),AI ((min (S.next - wn) 1099511627776:Nat):Int)]:=by unfold cdC;rw [hwe]
    rcases r9.ex with⟨e0,rfl⟩|⟨h2',x,rfl,h4,h5⟩
    ·refine wk ?_
     (apply st1 L rfl;exact Kr (v:= .bool false) (k:=((i:Nat):Int)) rfl rfl lkq (by first|(rw [hg];done)|(rw [hg];rfl));rfl)
     refine wk ?_
     (apply C0 rfl rfl;exact Kr (k:=((i:Nat):Int)) rfl rfl lkq (hwn _ rfl))
     (apply C0 rfl rfl;exact Ut rfl rfl rfl hwl (by show S.next<18446744073709551616;omega))
     (apply C0 rfl rfl;exact Uu rfl rfl)
     (apply C0 rfl rfl;exact opv)
     (apply Ri L;exact chk;rfl)
     refine wk ?_
     refine cal (c:=Ln L X mpb hi) (g:=?_)
     rintro _ rfl
     refine wk ?_
     (apply H6 L rfl rfl;exact Ft (new:=cdC S i) rfl rfl (SlR.of (c:=cdC S i) (by rw [hcc];exact lkp) (Nat.le_refl _) rfl) (by omega) (by omega))
     refine wk ?_
     refine C8 L (Gk.e lkg) G2 ⟨rfl,?_⟩
     refine⟨kps,lkg,(by unfold Tq;exact Dw (by omega)),lkp,lkp,lkp,lkp,_,lkp,?_⟩
     rw [e1]
     rw [e0]
     exact CdR.app (l:= []) (by exact lkp) (by omega) rfl
    ·have hlx:=h4.lt
     refine wk ?_
     (apply st1 L rfl;exact Kr (v:= .bool false) (k:=((i:Nat):Int)) rfl rfl lkq (by first|(rw [hg];done)|(rw [hg];rfl));rfl)
     refine wk ?_
     (apply C0 rfl rfl;exact Kr (k:=((i:Nat):Int)) rfl rfl lkq (hwn _ rfl))
     (apply C0 rfl rfl;exact Ut rfl rfl rfl hwl (by show S.next<18446744073709551616;omega))
     (apply C0 rfl rfl;exact Uu rfl rfl)
     (apply C0 rfl rfl;exact opv)
     (apply Ri L;exact chk;rfl)
     refine wk ?_
     refine cal (c:=Ln L X mpb hi) (g:=?_)
     rintro _ rfl
     refine wk ?_
     (apply H6 L rfl rfl;exact Fi (old:=(S.cds i).flatMap (cdC S)) (new:=cdC S i) rfl rfl (SlR.of (c:=(S.cds i).flatMap (cdC S)) lkp (by rw [Dh _ (I3 S _)];omega) (by rw [List.drop_zero,List.take_of_length_le (by rw [Dh _ (I3 S _)];exact Nat.le_refl _)])) (SlR.of (c:=cdC S i) (by rw [hcc];exact lkp) (Nat.le_refl _) rfl) (by omega) (by omega) (by rw [hcc];rfl))
     refine wk ?_
     refine C8 L (Gk.e lkg) G2 ⟨rfl,?_⟩
     refine⟨kps,lkg,(by unfold Tq;exact Dw (by omega)),lkp,lkp,lkp,lkp,_,lkp,?_⟩
     rw [e1]
     exact CdR.app (by exact lkp) (by omega) rfl
  ·obtain⟨r1,r2,r3,r4,r5,r6,r7,r8⟩:=r
   have e1:S.cds (i+1)=S.cds i:=by simp only [Ap.cds];rw [if_neg (by omega)]
   exact⟨r1,r2,r3,r4,r5,r6,r7,by rw [e1];exact r8⟩
 ·rintro v h3 ⟨r1,r2,r3,r4,r5,r6,r7,w,r8,r9⟩
  have hle:=r3.e
  unfold Tq at hle
  have l5:=r2.lt
  have l8:=r8.lt
  refine F3 L (n:=h3.n) (t:=h3.t) (lh:= []) hle (by intro q;cases q) ?_
  refine wk ?_
  refine A0 L (show Good P0 E Q ⟨⟨_,_,_,_,_,.returning,false,none⟩,_,_⟩ from ?_)
  refine Fm L (by intro q;cases q) (Gk.e lkg) ?_
  refine Fk L X.f43 (Dd rfl) G ⟨kps,w,lkp,?_⟩
  rcases r9.ex with h1|⟨h2',x,rfl,h4,h5⟩
  ·exact⟨.inl h1⟩
  ·have hlx:=h4.lt
   exact⟨.inr ⟨h2',x,rfl,lkp,by omega⟩⟩
end
end
section
variable {P0:Program}{E:Env}{F:T CFn}{K:T (List AV×AV)}(L:Lg P0 E F K)(X:Fx F K)
include L X
section
variable {h:H}{κ: Nat→Nat}{I:Ai}{S:Ap}
theorem W7 {ab:Nat}(r:ApR κ h I S)(ka:Bk h ab [.ptr I.s 0])(hw: ∀b n,S.wr b=some n→n≤S.next)(hnx:S.next<10000000):
  Ct P0 E F K 13 [.ptr ab 0] h (fun v h'=> ∃κ',CdR S h' h.n v (S.cds S.D.nb)∧(∀b n c,v= .slc b 0 n c→κ' b=0)∧ApR κ' h' I S∧AChg κ h κ' h'):=by
 have lk:=ka.lt
 refine Am L X.f13 X.k13 rfl rfl fun Q x cs G=>?_
 refine wk ?_
 have k1:K0 h (hp (h.n+1) h.t [(h.n,some (cl [.nils]))]):=kps
 have hc1: ∀b,b<h.n→Ii κ h.n b=κ b:=fun b hb=>E4 hb
 have r1:ApR (Ii κ h.n) (hp (h.n+1) h.t [(h.n,some (cl [.nils]))]) I S:=r.k0 k1 hc1
 have a1:AChg κ h (Ii κ h.n) (hp (h.n+1) h.t [(h.n,some (cl [.nils]))]):=AChg.k0 k1 hc1
 have kc1:Bk (hp (h.n+1) h.t [(h.n,some (cl [.nils]))]) h.n [.nils]:=lkp
 have hn1:(hp (h.n+1) h.t [(h.n,some (cl [.nils]))]).n=h.n+1:=rfl
 have cl1: ∀κ2 h2,K0 (hp (h.n+1) h.t [(h.n,some (cl [.nils]))]) h2→(hp (h.n+1) h.t [(h.n,some (cl [.nils]))]).n<h2.n→(∀b,b<(hp (h.n+1) h.t [(h.n,some (cl [.nils]))]).n→κ2 b=Ii κ h.n b)→ApR κ2 h2 I S→CtX P0 E F K 43 (.ptr I.s 0:: [.ptr h.n 0]) h2
   (fun v h'=> ∃κ' S',ApR κ' h' I S'∧AChX (fun j=>j=h.n) κ2 h2 κ' h'∧(S'=S∧ ∃w,Bk h' h.n [w]∧CdR S h' (h.n+2) w (S.cds S.D.nb)∧ ∀b n c,w= .slc b 0 n c→κ' b=0))
   (fun v h'=> ∃κ' S' e,v= .ifc 44 (AI e)∧ApR κ' h' I S'∧AChX (fun j=>j=h.n) κ2 h2 κ' h'∧False):=by
  intro κ2 h2 k2 n2 c2 r2
  rw [hn1]at n2 c2
  have hk1:κ2 h.n=200:=(c2 _ (by omega)).trans (Dz (Nat.le_refl _))
  refine((jd L X r2 (Ah k2 kc1) (by omega) hw hnx).mono ?_).X
  rintro v h' ⟨q1,w,q2,q3⟩
  refine⟨ext κ2 h2.n,S,r2.own q1 (fun j _ e=>by subst e;omega) fun b hb=>Af hb,⟨q1.mono fun b e=> .inr e,fun b hb=>Af hb⟩,rfl,w,q2,?_,?_⟩
  ·rcases q3.ex with h1|⟨g1,x,g2,g3,g4⟩
   ·exact⟨.inl h1⟩
   ·exact⟨.inr ⟨g1,x,g2,g3,by omega⟩⟩
  ·rintro b n c rfl
   rcases q3.ex with⟨_,e⟩|⟨g1,x,g2,g3,g4⟩
   ·cases e
   ·cases g2;exact Bs g4
 refine cal (c:=E3 L X r1 (Ah k1 ka) (fun b e=>by subst e;exact Nat.lt_succ_self _) cl1) (g:=?_)
 rintro v h2 ⟨κ',S',h1,r',a',k',hv⟩
 rw [hn1]at k'
 rcases hv with⟨rfl,u,rfl,w,q1,q2,q3⟩|⟨e,rfl,q⟩
 ·have a2:AChg κ h κ' h2:=a'.own a1 fun b e=>by subst e;exact Nat.le_refl _
  have q1':Bk h2 h.n [w]:=As k' (by omega) q1
  have lq:=q1'.lt
  have hk1:κ' h.n=200:=(a'.col _ (by rw [hn1];omega)).trans (Dz (Nat.le_refl _))
  rcases q2.ex with⟨e0,rfl⟩|⟨g1,x2,rfl,g3,g4⟩
  ·refine wk ?_
   refine ret X.f13 ?_
   refine⟨κ',⟨.inl ⟨e0,rfl⟩⟩,q3,r'.out (B:=fun j=>j=h.n) ?_ (fun b _ e=>by subst e;omega),AChg.own (B:=fun j=>j=h.n) a2 ?_ (fun b e=>by subst e;exact Nat.le_refl _) fun _ _=>rfl⟩
   ·exact kps
   ·exact kps
  ·have g3':Bk h2 x2 _:=As k' (by omega) g3
   have lx2:=g3'.lt
   refine wk ?_
   refine ret X.f13 ?_
   refine⟨κ',⟨.inr ⟨g1,x2,rfl,by exact lkp,by omega⟩⟩,q3,r'.out (B:=fun j=>j=h.n) ?_ (fun b _ e=>by subst e;omega),AChg.own (B:=fun j=>j=h.n) a2 ?_ (fun b e=>by subst e;exact Nat.le_refl _) fun _ _=>rfl⟩
   ·exact kps
   ·exact kps
 ·exact q.elim
end
end
end Go.Ev
