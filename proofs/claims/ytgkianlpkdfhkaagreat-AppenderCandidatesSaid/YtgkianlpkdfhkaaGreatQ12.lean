/- Part of the proof. -/
import Derived.Test.YtgkianlpkdfhkaaGreatQ11
set_option linter.unusedVariables false
set_option linter.unusedSectionVars false
set_option linter.unusedSimpArgs false
set_option maxRecDepth 10000
set_option maxHeartbeats 4000000
namespace Go.Ev
section
variable {P0:Program}{E:Env}{F:T CFn}{K:T (List AV×AV)}(L:Lg P0 E F K)(X:Fx F K)
include L X
omit L X in
def pcl (ab:Nat)(p:Pg):AV:=if p.st=4 then .nils else .slc ab 0 p.b.length (Aa+1)
omit L X in
theorem DevC.setPage {κ: Nat→Nat}{h h':H}{d fm bb i pn ab:Nat}{D D':Dv}{cb c:List AV}{p:Pg}(q:DevC κ h d D fm bb cb)(hi:i<D.nb)(hr:BlR κ h D.P i (D.bl i) cb pn c)(hj:(D.bl i).nx<D.P)(hs:p.st=2∨p.st=3∨p.st=4)
  (hnb:D'.nb=D.nb) (hP:D'.P=D.P) (hfl:D'.flt=D.flt) (hbl:D'.bl=upd D.bl i ⟨upd (D.bl i).pg (D.bl i).nx p,(D.bl i).nx+1,(D.bl i).er⟩)
  (k:Kp (fun j=>j=d∨j=bb∨j=pn) h h') (dk:Bk h' d (dvC D' fm bb)) (bk:Bk h' bb (cb.set (i*3+1) (.int .i64 (((D.bl i).nx+1:Nat):Int))))
  (rk:Bk h' pn ((c.set ((D.bl i).nx*2) (pcl ab p)).set ((D.bl i).nx*2+1) (.int .i64 ((p.st:Nat):Int)))) (ak:BS h' ab 0 p.b) (hab:h.n≤ab): ∃κ' cb',DevC κ' h' d D' fm bb cb'∧Ch κ h κ' h':=by
 have b1:=q.dk.lt
 have b2:=q.bk.lt
 have b3:=q.fk.lt
 have b4:=hr.row.k.lt
 have l:=q.blen
 have lc:=hr.row.len
 have c1:=q.dcol
 have c2:=q.bcol
 have c3:=q.fcol
 have c4:=hr.row.col
 have nb:=q.nb
 have hch:Ch κ h (upd κ ab 0) h':=⟨k.mono fun j hj=>by rcases hj with e|e|e <;> subst e <;> omega,fun b hb=>upd_ne _ _ (by omega)⟩
 refine⟨upd κ ab 0,_,⟨dk,(upd_ne _ _ (by omega)).trans c1,by rw [hfl];exact q.fk.kp k (by intro e;rcases e with e|e|e <;> subst e <;> omega),(upd_ne _ _ (by omega)).trans c3,bk,(upd_ne _ _ (by omega)).trans c2,?_,by rw [hnb];exact q.nb,fun j hj=>?_⟩,hch⟩
 ·rw [List.length_set,hnb];exact l
 ·rw [hnb]at hj
  by_cases e:j=i
  ·subst e
   rw [hP,hbl,upd_eq]
   refine⟨pn,_,?_,?_,?_,rk,(upd_ne _ _ (by omega)).trans c4,by rw [List.length_set,List.length_set];exact lc,fun m hm=>?_⟩
   ·rw [List.getElem?_set_ne (by omega)];exact hr.c0
   ·rw [List.getElem?_set_self (by omega)]
   ·rw [List.getElem?_set_ne (by omega)];exact hr.c2
   ·by_cases em:m=(D.bl j).nx
    ·subst em
     show PgR _ _ _ _ (upd (D.bl j).pg (D.bl j).nx p (D.bl j).nx)
     rw [upd_eq]
     refine⟨?_,fun h1 h2=>?_,fun h1=>⟨ab,?_,upd_eq _ _ _,ak⟩⟩
     ·rw [List.getElem?_set_self (by rw [List.length_set];omega)]
     ·rw [List.getElem?_set_ne (by omega),List.getElem?_set_self (by omega)];unfold pcl;rw [if_pos (by omega)]
     ·rw [List.getElem?_set_ne (by omega),List.getElem?_set_self (by omega)];unfold pcl;rw [if_neg (by omega)]
    ·show PgR _ _ _ _ (upd (D.bl j).pg (D.bl j).nx p m)
     rw [upd_ne _ _ em]
     have h5:=(hr.row.pg m hm).fw hch.fw
     refine⟨?_,fun h1 h2=>?_,fun h1=>?_⟩
     ·rw [List.getElem?_set_ne (by omega),List.getElem?_set_ne (by omega)];exact h5.st
     ·rw [List.getElem?_set_ne (by omega),List.getElem?_set_ne (by omega)];exact h5.none h1 h2
     ·rw [List.getElem?_set_ne (by omega),List.getElem?_set_ne (by omega)];exact h5.full h1
  ·obtain⟨pm,c',hr'⟩:=q.rows j hj
   have h7:=hr'.row.col
   have h8:=hr'.fw hch.fw (k.old pm hr'.row.k.lt (by intro e;rcases e with e|e|e <;> subst e <;> omega))
   rw [hP,hbl,upd_ne _ _ e]
   refine⟨pm,c',?_,?_,?_,h8.row⟩
   ·rw [List.getElem?_set_ne (by omega)];exact h8.c0
   ·rw [List.getElem?_set_ne (by omega)];exact h8.c1
   ·rw [List.getElem?_set_ne (by omega)];exact h8.c2
omit L X in
theorem Dv.Ok.setPage {D D':Dv}{i:Nat}{p:Pg}(q:D.Ok)(hi:i<D.nb)(hj:(D.bl i).nx<D.P)(hs:p.st=2∨p.st=3∨p.st=4)(hl:p.st≠4→p.b.length=D.sz+64)(hl4:p.st=4→p.b= [])(hg:D'.nb=D.nb∧D'.P=D.P∧D'.sz=D.sz∧D'.en=D.en)(hn:D'.n<100000)(hb:D'.byt=D.byt)(hc:D'.cut=D.cut)
  (hbl:D'.bl=upd D.bl i ⟨upd (D.bl i).pg (D.bl i).nx p,(D.bl i).nx+1,(D.bl i).er⟩):D'.Ok:=by
 obtain⟨g1,g2,g3,g4⟩:=hg
 refine⟨⟨by rw [g1];exact q.g.nb,by rw [g2];exact q.g.P,by rw [g3];exact q.g.sz,by rw [g4];exact q.g.en⟩,hn,by rw [hb,g3];exact q.byt,by rw [hc];exact q.cut,fun j hj2=>?_⟩
 rw [g1]at hj2
 rw [hbl]
 by_cases e:j=i
 ·subst e
  rw [upd_eq]
  have h1:=q.bl j hj2
  refine⟨by rw [g2];exact hj,fun m hm=>?_,fun m h2 h3=>?_,fun m hm=>?_,by rw [g4];exact h1.er⟩
  ·show(upd (D.bl j).pg (D.bl j).nx p m).st≠1
   by_cases em:m=(D.bl j).nx
   ·subst em;rw [upd_eq];omega
   ·rw [upd_ne _ _ em];exact h1.lo m (by have:m<(D.bl j).nx+1:=hm;omega)
  ·have h2':(D.bl j).nx+1≤m:=h2
   show(upd (D.bl j).pg (D.bl j).nx p m).st=1
   rw [upd_ne _ _ (by omega)]
   exact h1.hi m (by omega) (by rw [g2]at h3;exact h3)
  ·rw [g2]at hm
   show(upd (D.bl j).pg (D.bl j).nx p m).Ok D'.sz
   rw [g3]
   by_cases em:m=(D.bl j).nx
   ·subst em;rw [upd_eq];exact⟨fun h8=>hl (by omega),fun a b=>hl4 (by omega),by omega⟩
   ·rw [upd_ne _ _ em];exact h1.pg m hm
 ·rw [upd_ne _ _ e]
  have h1:=q.bl j hj2
  exact⟨by rw [g2];exact h1.nx,h1.lo,by rw [g2];exact h1.hi,by rw [g2,g3];exact h1.pg,by rw [g4];exact h1.er⟩
def Dv.pgW (D:Dv)(all:List Nat):Pg:=if(D.n:Int)=D.cut then⟨if D.byt=all.length then 2 else 3,T9 D.byt all⟩else if D.flt D.n=true then⟨4,[]⟩else⟨2,all⟩
def Dv.wr (D:Dv)(i:Nat)(all:List Nat):Dv:=
 {D with bl:=upd D.bl i ⟨upd (D.bl i).pg (D.bl i).nx (D.pgW all),(D.bl i).nx+1,(D.bl i).er⟩,n:=D.n+1,off:=D.off || decide ((D.n:Int)=D.cut)}
def Dv.prog (D:Dv)(i:Int)(all:List Nat):Dv×Nat:=
 if 0≤i∧i<D.nb∧(D.bl i.toNat).nx<D.P then
  if D.off=true then(D,50)
  else(D.wr i.toNat all,if(D.n:Int)=D.cut then 50 else if D.flt D.n=true then 54 else 0)
 else(D,2)
omit L X in
theorem Dv.pgW_st (D:Dv)(all:List Nat):(D.pgW all).st=2∨(D.pgW all).st=3∨(D.pgW all).st=4:=by
 unfold Dv.pgW
 split
 ·show(if D.byt=all.length then 2 else 3)=2∨(if D.byt=all.length then 2 else 3)=3∨_
  split
  ·exact .inl rfl
  ·exact .inr (.inl rfl)
 ·split
  ·exact .inr (.inr rfl)
  ·exact .inl rfl
omit L X in
theorem Dv.pgW_len (D:Dv)(all:List Nat)(h:D.byt≤all.length)(h4:(D.pgW all).st≠4):(D.pgW all).b.length=all.length:=by
 unfold Dv.pgW at*
 split
 ·exact Is _ _ h
 ·rename_i h1
  rw [if_neg h1]at h4
  split
  ·rename_i h2
   rw [if_pos h2]at h4
   exact absurd rfl h4
  ·rfl
omit L X in
theorem Dv.pgW_4 (D:Dv)(all:List Nat)(h4:(D.pgW all).st=4):(D.pgW all).b= []:=by
 unfold Dv.pgW at*
 split
 ·rename_i h1
  rw [if_pos h1]at h4
  have:(if D.byt=all.length then 2 else 3)=4:=h4
  split at this <;> omega
 ·rename_i h1
  rw [if_neg h1]at h4
  split
  ·rfl
  ·rename_i h2
   rw [if_neg h2]at h4
   exact absurd h4 (by show¬2=4;omega)
theorem V1 {κ: Nat→Nat}{h:H}{d fm bb i pn ab n:Nat}{D:Dv}{cb c:List AV}{all:List Nat}(q:DevC κ h d D fm bb cb)(ok:D.Ok)(hn:D.n+1<100000)(hi:i<D.nb)(hr:BlR κ h D.P i (D.bl i) cb pn c)(hj:(D.bl i).nx<D.P)(hoff:D.off=false)
  (hb:BS h ab 0 all) (hl:all.length=n) (hln:n=D.sz+64) (hcol:κ ab=0):
  Ct P0 E F K 174 [.ptr d 0,.int .i64 ((i:Nat):Int),.int .i64 (((D.bl i).nx:Nat):Int),.slc ab 0 n (Aa+1)] h fun v h'=>v= .int .i64 ((if(D.n:Int)=D.cut then 50 else if D.flt D.n=true then 54 else 0:Nat):Int)∧
   Bk h' d (dvC (D.wr i all) fm bb)∧Bk h' bb (cb.set (i*3+1) (.int .i64 (((D.bl i).nx+1:Nat):Int)))∧
   Bk h' pn ((c.set ((D.bl i).nx*2) (pcl ab (D.pgW all))).set ((D.bl i).nx*2+1) (.int .i64 (((D.pgW all).st:Nat):Int)))∧BS h' ab 0 (D.pgW all).b∧Kp (fun b=>b=d∨b=bb∨b=pn∨b=ab) h h':=by
 have b1:=q.dk.lt
 have b2:=q.bk.lt
 have b3:=q.fk.lt
 have b4:=hr.row.k.lt
 have b5:=hb.lt_n
 have l:=q.blen
 have lc:=hr.row.len
 have c1:=q.dcol
 have c2:=q.bcol
 have c3:=q.fcol
 have c4:=hr.row.col
 have hP:=ok.g.P
 have hsz:=ok.g.sz
 have hby:=ok.byt
 have hdk:=q.dk
 have hbk:=q.bk
 have hfk:=q.fk
 have hpk:=hr.row.k
 have hc0:=hr.c0
 have hc1:=hr.c1
 have hdb:d≠bb:=fun e=>by rw [e]at c1;omega
 have hdp:d≠pn:=fun e=>by rw [e]at c1;omega
 have hbp:bb≠pn:=fun e=>by rw [e]at c2;omega
 have hda:d≠ab:=fun e=>by rw [e]at c1;omega
 have hba:bb≠ab:=fun e=>by rw [e]at c2;omega
 have hpa:ab≠pn:=fun e=>by rw [e]at hcol;omega
 have hdf:fm≠d:=fun e=>by rw [e]at c3;omega
 have hbf:fm≠bb:=fun e=>by rw [e]at c3;omega
 have l1:i*3+1<cb.length:=by omega
 have l2:(D.bl i).nx*2+1<c.length:=by omega
 have hc0':(cb.set (i*3+1) (.int .i64 (((D.bl i).nx+1:Nat):Int)))[i*3+0]?=some (.slc pn 0 D.P D.P):=by rw [List.getElem?_set_ne (by omega)];exact hc0
 refine xc L X.f174 X.k174 rfl rfl fun Q x cs G=>?_
 refine wk ?_
 by_cases hc:(D.n:Int)=D.cut
 ·refine cal (c:=Mx L X lkp (by omega) hc fun h2 k1 k2=>jx L X (h:=h2) (a7:=h.n+1) (a10:=h.n+1+1) (a4:=h.n) lkp lkp lkp k1 lkp l2 lkb hl (by omega) (by show D.byt≤n;omega) ⟨by omega,by omega,by omega,hdp,hpa,by omega,by omega,hda⟩) (g:=?_)
  rintro _ h2 ⟨rfl,h1,u,r1,r2,r3,r4,r5⟩
  refine wk ?_
  refine ret X.f174 ?_
  have e1:D.pgW all=⟨if D.byt=all.length then 2 else 3,T9 D.byt all⟩:=if_pos hc
  have e2:dvC (D.wr i all) fm bb=dvC {D with n:=D.n+1,off:=true} fm bb:=by
   unfold dvC Dv.wr;rw [decide_eq_true hc,Bool.or_true]
  have e3:pcl ab (D.pgW all)= .slc ab 0 n (Aa+1):=by
   unfold pcl;rw [e1,if_neg (by show¬(if D.byt=all.length then 2 else 3)=4;split <;> omega)];show AV.slc ab 0 (T9 D.byt all).length _=_;rw [Is _ _ (by omega),hl]
  rw [if_pos hc,e3,e1,e2,hl]
  exact⟨rfl,lkp,lkp,r3,r4,Kp.trS r5 (fun _ _ e=> .inr (.inr e)) (Kp.trS r2 (fun _ _ e=> .inl e) kps)⟩
 ·have e2:dvC (D.wr i all) fm bb=dvC {D with n:=D.n+1} fm bb:=by
   unfold dvC Dv.wr;rw [decide_eq_false hc,Bool.or_false]
  cases hq:D.flt D.n with
  |true=>
   refine cal (c:=Mz L X lkp (hfk.kp (S:=fun j=>j=bb) kps hbf) hdf (by omega) hc hq fun h2 k1 k2=>jw L X (h:=h2) (a10:=h.n+1+1) lkp lkp l2) (g:=?_)
   rintro _ h2 ⟨rfl,h1,u,r1,r2,r3,r5⟩
   refine wk ?_
   refine ret X.f174 ?_
   have e1:D.pgW all=⟨4,[]⟩:=by unfold Dv.pgW;rw [if_neg hc,if_pos hq]
   have e3:pcl ab (D.pgW all)= .nils:=by unfold pcl;rw [e1,if_pos rfl]
   obtain⟨cc,q1,q2,q3⟩:=hb.ex
   rw [if_neg hc,if_pos hq,e3,e1,e2]
   exact⟨rfl,lkp,lkp,r3,⟨⟨cc,lkp,(by simp),fun i hi=>absurd hi (Nat.not_lt_zero i)⟩,fun i hi=>absurd hi (Nat.not_lt_zero i)⟩,Kp.trS r5 (fun _ _ e=> .inr (.inr (.inl e))) (Kp.trS r2 (fun _ _ e=> .inl e) kps)⟩
  |false=>
   refine cal (c:=My L X lkp (hfk.kp (S:=fun j=>j=bb) kps hbf) hdf (by omega) hc hq fun h2 k1 k2=>jv L X (h:=h2) (a7:=h.n+1) (a10:=h.n+1+1) lkp lkp lkp l2) (g:=?_)
   rintro _ h2 ⟨rfl,h1,u,r1,r2,r3,r5⟩
   refine wk ?_
   refine ret X.f174 ?_
   have e1:D.pgW all=⟨2,all⟩:=by unfold Dv.pgW;rw [if_neg hc,if_neg (by rw [hq];simp)]
   have e3:pcl ab (D.pgW all)= .slc ab 0 n (Aa+1):=by unfold pcl;rw [e1,if_neg (by show¬2=4;omega),←hl]
   rw [if_neg hc,if_neg (by rw [hq];simp),e3,e1,e2]
   exact⟨rfl,lkp,lkp,r3,lkb,Kp.trS r5 (fun _ _ e=> .inr (.inr (.inl e))) (Kp.trS r2 (fun _ _ e=> .inl e) kps)⟩
end
section
variable {P0:Program}{E:Env}{F:T CFn}{K:T (List AV×AV)}(L:Lg P0 E F K)(X:Fx F K)
include L X
theorem M0 {κ: Nat→Nat}{h:H}{d b1 o1 c1 b2 o2 c2 p:Nat}{D:Dv}{i:Int}{data extra:List Nat}(r:DevR κ h d D)(hn:D.n+1<100000)(hp1:0≤i∧i<D.nb→p=(D.bl i.toNat).nx)(k1:BS h b1 o1 data)(k2:BS h b2 o2 extra)(e1:data.length=D.sz)(e2:extra.length=64):
  Ct P0 E F K 147 [.ptr d 0,.int .i64 i,.int .i64 ((p:Nat):Int),.slc b1 o1 D.sz c1,.slc b2 o2 64 c2] h fun v h'=>v= .int .i64 (((D.prog i (data++extra)).2:Nat):Int)∧ ∃κ',DevR κ' h' d (D.prog i (data++extra)).1∧Ch κ h κ' h':=by
 obtain⟨ok,fm,bb,cb,q⟩:=r
 have hd:=q.dk
 have gsz:=ok.g.sz
 refine Jy L X.f147 X.k147 rfl rfl fun Q x cs G=>?_
 refine wk ?_
 refine cal (c:=Fg L X hd) (g:=?_)
 rintro _ rfl
 refine wk ?_
 refine cal (c:=Hs L X hd) (g:=?_)
 rintro _ rfl
 by_cases hi:(0≤i∧i<D.nb)∧0≤(p:Int)∧(p:Int)<D.P
 ·rw [decide_eq_true hi]
  obtain⟨hi1,hi2,hi3⟩:=hi
  have hpe:=hp1 hi1
  have hcond:0≤i∧i<D.nb∧(D.bl i.toNat).nx<D.P:=⟨hi1.1,hi1.2,by omega⟩
  cases hoff:D.off with
  |true=>
   have e0:D.prog i (data++extra)=(D,50):=by unfold Dv.prog;rw [if_pos hcond,if_pos hoff]
   unfold dvC dvL at hd
   rw [hoff]at hd
   refine wk ?_
   refine ret X.f147 ?_
   rw [e0]
   exact⟨rfl,κ,⟨ok,fm,bb,cb,q⟩,.refl _ _⟩
  |false=>
   unfold dvC dvL at hd
   rw [hoff]at hd
   obtain⟨j,rfl⟩: ∃j:Nat,i=j:=⟨i.toNat,by omega⟩
   rw [Int.toNat_natCast]at hpe hcond
   have hj:j<D.nb:=by omega
   obtain⟨pn,c,hr⟩:=q.rows j hj
   have hc1:=hr.c1
   have hbk:=q.bk
   subst hpe
   have e0:D.prog j (data++extra)=(D.wr j (data++extra),if(D.n:Int)=D.cut then 50 else if D.flt D.n=true then 54 else 0):=by unfold Dv.prog;rw [Int.toNat_natCast,if_pos hcond,if_neg (by rw [hoff];simp)]
   have l1:=k1.lt_n
   have l2:=k2.lt_n
   refine wk ?_
   refine cal (c:=Ja L X (b1:=b1) (o1:=o1) (n1:=D.sz) (c1:=c1) (b2:=b2) (o2:=o2) (n2:=64) (c2:=c2) (bs1:=data) (bs2:=extra) lkp lkb lkb e1 e2 (by omega) (by omega)) (g:=?_)
   rintro _ h1 ⟨ab,rfl,w1,w2,w3⟩
   simp only [Am]at w2
   have n1:=w3.n
   simp only [Am]at n1
   have w3':K0 h h1:=Kp.tr0 w3 kps
   have hch:Ch κ h (upd κ ab 0) h1:=⟨w3'.mono fun _ e=>e.elim,fun b hb=>upd_ne _ _ (by omega)⟩
   have q1:DevC (upd κ ab 0) h1 d D fm bb cb:=by
    have hk:Kp (fun _=>False) h h1:=w3'
    exact⟨Ag hk q.dk,(upd_ne _ _ (by have:=q.dk.lt;omega)).trans q.dcol,q.fk.k0 hk,(upd_ne _ _ (by have:=q.fk.lt;omega)).trans q.fcol,Ag hk q.bk,(upd_ne _ _ (by have:=q.bk.lt;omega)).trans q.bcol,q.blen,q.nb,
     fun i hi=>let⟨pn,c,h1⟩:=q.rows i hi;⟨pn,c,h1.fw hch.fw (hk.old pn h1.row.k.lt fun f=>f)⟩⟩
   have hr1:BlR (upd κ ab 0) h1 D.P j (D.bl j) cb pn c:=hr.fw hch.fw (w3'.old pn hr.row.k.lt fun f=>f)
   refine wk ?_
   refine cal (c:=V1 L X (n:=D.sz+64) q1 ok hn hj hr1 hcond.2.2 hoff w1 (by rw [List.length_append];omega) rfl (upd_eq _ _ _)) (g:=?_)
   rintro _ h2 ⟨rfl,u1,u2,u3,u4,u5⟩
   refine wk ?_
   refine ret X.f147 ?_
   rw [e0]
   refine⟨rfl,?_⟩
   have hal:(data++extra).length=D.sz+64:=by rw [List.length_append];omega
   have hby:=ok.byt
   have hpl:=D.pgW_len (data++extra) (by omega)
   obtain⟨κ',cb',z1,z2⟩:=q.setPage (D':=D.wr j (data++extra)) (p:=D.pgW (data++extra)) (ab:=ab) hj hr (by omega) (D.pgW_st _) rfl rfl rfl rfl (k:=Kp.trS u5 (fun i hi e=>by rcases e with e|e|e|e <;> first|exact .inl e|exact .inr (.inl e)|exact .inr (.inr e)|omega) (w3'.mono fun _ e=>e.elim)) u1 u2 u3 u4 (by omega)
   exact⟨κ',⟨ok.setPage (D':=D.wr j (data++extra)) (p:=D.pgW (data++extra)) hj (by omega) (D.pgW_st _) (fun h8=>by rw [hpl h8,hal]) (D.pgW_4 _) ⟨rfl,rfl,rfl,rfl⟩ hn rfl rfl rfl,_,_,_,z1⟩,z2⟩
 ·rw [decide_eq_false hi]
  have e0:D.prog i (data++extra)=(D,2):=by
   unfold Dv.prog
   rw [if_neg]
   rintro⟨a1,a2,a3⟩
   have:=hp1 ⟨a1,a2⟩
   exact hi ⟨⟨a1,a2⟩,by omega,by omega⟩
  refine wk ?_
  refine ret X.f147 ?_
  rw [e0]
  exact⟨rfl,κ,⟨ok,fm,bb,cb,q⟩,.refl _ _⟩
end
section
variable {P0:Program}{E:Env}{F:T CFn}{K:T (List AV×AV)}(L:Lg P0 E F K)(X:Fx F K)
include L X
theorem Kv {h:H}{b o n c:Nat}{bs:List Nat}(k:BS h b o bs)(e:bs.length=n)(h1:0<n∧n<1000):Ct P0 E F K 63 [.slc b o n c] h fun v h'=> ∃b',v= .slc b' 0 n (Aa+1)∧BS h' b' 0 bs∧h.n≤b'∧K0 h h':=by
 have a1:=k.all
 refine Al L X.f63 X.k63 rfl rfl fun Q x cs G=>?_
 refine wk ?_
 have f1:BS (hp (h.n+1) h.t [(h.n,some (cl []))]) b o bs:=xj k
 (apply st1 L rfl;exact qv (b:=h.n) (o:=0) (sl:=0) (old:= []) rfl rfl (SlR.of (c:= []) lkp (by simp) rfl) (f1.slr e) h1.1 (by decide) (by omega);rfl)
 refine wk ?_
 refine ret X.f63 ?_
 refine⟨h.n+1,by rw [Nat.zero_add];rfl,Gm a1,by omega,kps⟩
theorem Ub {κ: Nat→Nat}{h:H}{d i j:Nat}{D:Dv}(r:DevR κ h d D)(hi:i<D.nb)(hj:j<(D.bl i).nx)(hoff:D.off=false)(hs:((D.bl i).pg j).st=2∨((D.bl i).pg j).st=3):
  Ct P0 E F K 23 [.ptr d 0,.int .i64 ((i:Nat):Int),.int .i64 ((j:Nat):Int)] h fun v h'=> ∃b1 b2,v= .tup [.slc b1 0 D.sz (Aa+1),.slc b2 0 64 (Aa+1),.int .i64 ((0:Nat):Int)]∧BS h' b1 0 (((D.bl i).pg j).b.take D.sz)∧BS h' b2 0 (((D.bl i).pg j).b.drop D.sz)∧h.n≤b1∧h.n≤b2∧K0 h h':=by
 obtain⟨ok,fm,bb,cb,q⟩:=r
 have hd:=q.dk
 have hbk:=q.bk
 obtain⟨pn,c,hr⟩:=q.rows i hi
 have hnx:=(ok.bl i hi).nx
 have hpg:=(ok.bl i hi).pg j (by omega)
 have hP:=ok.g.P
 have hsz:=ok.g.sz
 have hpk:=hr.row.k
 have hc0:=hr.c0
 have hc0':cb[i*3+0]?=some (.slc pn 0 D.P D.P):=hc0
 have hp1:=(hr.row.pg j (by omega)).st
 obtain⟨ab,hp0,hcol,hab⟩:=(hr.row.pg j (by omega)).full hs
 have hl:=hpg.full hs
 rw [hl]at hp0
 have l1:=hab.lt_n
 have l2:=hd.lt
 have l3:=hbk.lt
 have l4:=hpk.lt
 unfold dvC dvL at hd
 rw [hoff]at hd
 refine Bz L X.f23 X.k23 rfl rfl fun Q x cs G=>?_
 refine wk ?_
 refine cal (c:=Fg L X (D:= {D with off:=false}) hd) (g:=?_)
 rintro _ rfl
 refine wk ?_
 refine cal (c:=Hs L X (D:= {D with off:=false}) hd) (g:=?_)
 rintro _ rfl
 rw [decide_eq_true (show(0≤(i:Int)∧(i:Int)<D.nb)∧0≤(j:Int)∧(j:Int)<D.P by omega)]
 refine wk ?_
 have f1:BS (hp (h.n+1) h.t [(h.n,some (cl [.slc ab 0 (D.sz+64) (Aa+1),.int .i64 ((((D.bl i).pg j).st:Nat):Int)])),(h.n,some (cl [.nils,.int .i64 ((0:Nat):Int)]))]) ab (0+0) ((((D.bl i).pg j).b.drop 0).take D.sz):=BS.part (k:=by exact lkb) (by omega)
 refine cal (c:=Kv L X f1 (by rw [List.length_take,List.length_drop];omega) (by omega)) (g:=?_)
 rintro _ h1 ⟨b1,rfl,w1,w2,w3⟩
 simp only [Am]at w2
 have n1:=w3.n
 simp only [Am]at n1
 refine wk ?_
 have f2:BS (hp h1.n h1.t []) ab (0+D.sz) ((((D.bl i).pg j).b.drop D.sz).take 64):=BS.part (k:=by exact lkb) (by omega)
 refine cal (c:=Kv L X f2 (by rw [List.length_take,List.length_drop];omega) (by omega)) (g:=?_)
 rintro _ h2 ⟨b2,rfl,w4,w5,w6⟩
 simp only [Am]at w5
 refine wk ?_
 refine ret X.f23 ?_
 refine⟨b1,b2,by rw [show D.sz+64 - D.sz=64 by omega];rfl,?_,?_,by omega,by omega,Kp.tr0 w6 (Kp.tr0 w3 kps)⟩
 ·exact w1.k0 w6
 ·rwa [List.take_of_length_le (by rw [List.length_drop];omega)]at w4
end
end Go.Ev
