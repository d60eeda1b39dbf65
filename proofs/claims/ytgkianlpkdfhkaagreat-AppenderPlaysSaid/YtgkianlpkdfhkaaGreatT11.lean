/- Part of the proof. -/
import Derived.Test.YtgkianlpkdfhkaaGreatT10
import Derived.Test.YtgkianlpkdfhkaaGreatT09
set_option linter.unusedVariables false
set_option linter.unusedSectionVars false
set_option linter.unusedSimpArgs false
set_option maxRecDepth 10000
set_option maxHeartbeats 4000000
namespace Go.Ev
section
variable {P0:Program}{E:Env}{F:T CFn}{K:T (List AV×AV)}(L:Lg P0 E F K)(X:Fx F K)
include L X
section
variable {κ: Nat→Nat}{h:H}{d fm bb:Nat}{D:Dv}{cb:List AV}
theorem F3 (hd:Bk h d (dvC D fm bb)):Ct P0 E F K 57 [.ptr d 0] h fun v h'=>v= .bool false∧h'=h:=by
 refine An L X.f57 X.k57 rfl rfl fun Q x cs G=>?_
 refine wk ?_
 refine ret X.f57 ?_
 exact⟨rfl,rfl⟩
theorem U1 (hd:Bk h d (dvC D fm bb)){i:Int}:Ct P0 E F K 58 [.ptr d 0,.int .i64 i] h fun v h'=>v= .bool (decide (0≤i∧i<D.nb))∧h'=h:=by
 refine Ae L X.f58 X.k58 rfl rfl fun Q x cs G=>?_
 refine wk ?_
 by_cases hi:0≤i
 ·refine wk ?_
  by_cases hj:i<D.nb
  ·refine wk ?_
   refine ret X.f58 ?_
   exact⟨by simp [single,hi,hj],rfl⟩
  ·refine wk ?_
   refine ret X.f58 ?_
   exact⟨by simp [single,hi,hj],rfl⟩
 ·refine wk ?_
  refine ret X.f58 ?_
  exact⟨by simp [single,hi],rfl⟩
theorem Jk (hd:Bk h d (dvC D fm bb)){i p:Int}:Ct P0 E F K 62 [.ptr d 0,.int .i64 i,.int .i64 p] h fun v h'=>v= .bool (decide ((0≤i∧i<D.nb)∧0≤p∧p<D.P))∧h'=h:=by
 refine B0 L X.f62 X.k62 rfl rfl fun Q x cs G=>?_
 refine wk ?_
 refine cal (c:=U1 L X hd) (g:=?_)
 rintro _ rfl
 by_cases hi:0≤i∧i<D.nb
 ·rw [decide_eq_true hi]
  refine wk ?_
  by_cases h1:0≤p
  ·refine wk ?_
   by_cases h2:p<D.P
   ·refine wk ?_
    refine ret X.f62 ?_
    exact⟨by simp [single,hi,h1,h2],rfl⟩
   ·refine wk ?_
    refine ret X.f62 ?_
    exact⟨by simp [single,h2],rfl⟩
  ·refine wk ?_
   refine ret X.f62 ?_
   exact⟨by simp [single,h1],rfl⟩
 ·rw [decide_eq_false hi]
  refine wk ?_
  refine ret X.f62 ?_
  exact⟨by simp [single,hi],rfl⟩
theorem Tc (hd:Bk h d (dvC D fm bb)):Ct P0 E F K 85 [.ptr d 0] h fun v h'=>v= .agg [.int .i64 ((D.nb:Nat):Int),.int .i64 ((D.P:Nat):Int),.int .i64 ((D.sz:Nat):Int),.int .i64 ((D.en:Nat):Int)]∧K0 h h':=by
 refine An L X.f85 X.k85 rfl rfl fun Q x cs G=>?_
 refine wk ?_
 refine cal (c:=F3 L X lkp) (g:=?_)
 rintro _ rfl
 refine wk ?_
 refine ret X.f85 ?_
 exact⟨rfl,kps⟩
theorem Kg (hd:Bk h d (dvC D fm bb))(hb:Bk h bb cb){i nx:Nat}(hi:i<D.nb)(hc:cb[i*3+1]?=some (.int .i64 ((nx:Nat):Int))):Ct P0 E F K 20 [.ptr d 0,.int .i64 ((i:Nat):Int)] h fun v h'=>v= .int .i64 ((nx:Nat):Int)∧h'=h:=by
 refine Ae L X.f20 X.k20 rfl rfl fun Q x cs G=>?_
 refine wk ?_
 refine cal (c:=F3 L X hd) (g:=?_)
 rintro _ rfl
 refine wk ?_
 refine cal (c:=U1 L X hd) (g:=?_)
 rintro _ rfl
 rw [decide_eq_true (show 0≤(i:Int)∧(i:Int)<D.nb from⟨by omega,by omega⟩)]
 refine wk ?_
 refine ret X.f20 ?_
 exact⟨rfl,rfl⟩
end
end
section
variable {P0:Program}{E:Env}{F:T CFn}{K:T (List AV×AV)}(L:Lg P0 E F K)(X:Fx F K)
include L X
section
variable {h:H}
theorem Is {v a b:Nat}(h1:a≤v)(h2:v≤b):Ct P0 E F K 130 [.int .i64 ((v:Nat):Int),.int .i64 ((a:Nat):Int),.int .i64 ((b:Nat):Int)] h fun u h'=>u= .bool true∧h'=h:=by
 refine B0 L X.f130 X.k130 rfl rfl fun Q x cs G=>?_
 refine wk ?_
 refine ret X.f130 ?_
 exact⟨rfl,rfl⟩
def I1 (g0 g1 g2 g3:Nat):List AV:= [.int .i64 ((g0:Nat):Int),.int .i64 ((g1:Nat):Int),.int .i64 ((g2:Nat):Int),.int .i64 ((g3:Nat):Int)]
theorem ft {g0 g1 g2 g3:Nat}(h0:2≤g0∧g0≤12)(h1:2≤g1∧g1≤6)(h2:12≤g2∧g2≤30)(h3:1≤g3∧g3≤1000):Ct P0 E F K 81 [.agg (I1 g0 g1 g2 g3)] h fun u h'=>u= .bool true∧K0 h h':=by
 refine An L X.f81 X.k81 rfl rfl fun Q x cs G=>?_
 refine wk ?_
 refine cal (c:=Is L X (by omega) (by omega)) (g:=?_)
 rintro _ rfl
 refine wk ?_
 refine cal (c:=Is L X (by omega) (by omega)) (g:=?_)
 rintro _ rfl
 refine wk ?_
 refine cal (c:=Is L X (by omega) (by omega)) (g:=?_)
 rintro _ rfl
 refine wk ?_
 refine cal (c:=Is L X (by omega) (by omega)) (g:=?_)
 rintro _ rfl
 refine wk ?_
 refine ret X.f81 ?_
 exact⟨rfl,kps⟩
structure IntsR (κ: Nat→Nat)(h:H)(v:AV)(l:List Int):Prop where
 ex:(l= []∧v= .nils)∨(l= []∧ ∃a,v= .opq (.slice (some a) 0 0))∨ ∃b cap,v= .slc b 0 l.length cap∧Rk h b (l.map eI)∧κ b=0
omit L X in
theorem IntsR.fw {κ κ':Nat→Nat}{h h':H}{v:AV}{l:List Int}(q:IntsR κ h v l)(f:Fw κ h κ' h'):IntsR κ' h' v l:=by
 refine⟨?_⟩
 rcases q.ex with h1|h1|⟨b,cap,h1,h2,h3⟩
 ·exact .inl h1
 ·exact .inr (.inl h1)
 ·exact .inr (.inr ⟨b,cap,h1,h2.keep f.n (f.old b h2.lt h3),(f.col b h2.lt).trans h3⟩)
theorem od {z:Int}(hz:0≤z):Ct P0 E F K 83 [eI z] h fun u h'=>u= .bool false∧h'=h:=by
 refine An L X.f83 X.k83 rfl rfl fun Q x cs G=>?_
 refine wk ?_
 refine ret X.f83 ?_
 exact⟨rfl,rfl⟩
theorem Yi {κ: Nat→Nat}{v:AV}{l:List Int}{f:Nat}(q:IntsR κ h v l)(hlen:l.length<1000)(hf: ∀x∈l,∀h2,Ct P0 E F K f [eI x] h2 fun u h'=>u= .bool false∧h'=h2):Ct P0 E F K 131 [v,.fn (.func f) [] []] h fun u h'=>u= .int .i64 (-1)∧K0 h h':=by
 rcases q.ex with⟨rfl,rfl⟩|⟨rfl,a,rfl⟩|⟨b,cap,rfl,hb,-⟩
 ·refine Ae L X.f131 X.k131 rfl rfl fun Q x cs G=>?_
  refine wk ?_
  refine Ba L ?_
  refine wk ?_
  refine ret X.f131 ?_
  exact⟨rfl,kps⟩
 ·refine Ae L X.f131 X.k131 rfl rfl fun Q x cs G=>?_
  refine wk ?_
  refine Ba L ?_
  refine wk ?_
  refine ret X.f131 ?_
  exact⟨rfl,kps⟩
 ·refine Ae L X.f131 X.k131 rfl rfl fun Q x cs G=>?_
  refine wk ?_
  refine Cr L (α:= Unit) (T:=fun i _=> [(8,some (.int .i64 ((i:Nat):Int))),(7,some (.int .i64 ((l.length:Nat):Int))),(0,some (.slc b 0 l.length cap)),(1,some (.fn (.func f) [] []))]) (n:=l.length)
   (R:=fun i _ h2=>True∧K0 h h2) (i0:=0) () tsb ⟨trivial,kps⟩ (Nat.zero_le _) ?_ ?_
  ·rintro i _ h2 hi ⟨-,k2⟩ ih
   have hk:=Ou k2 hb
   have hx:(l.map eI)[i]?=some (eI l[i]):=by rw [List.getElem?_map,List.getElem?_eq_getElem hi];rfl
   (try refine B4 L 1000 rfl ?_);(repeat(first|(apply st1 L rfl;exact⟨Ol rfl⟩;rfl)|(apply st1 L rfl;exact St rfl rfl rfl;rfl)|(apply st1 L rfl;exact Oo rfl rfl (by omega);rfl)|(apply st1 L rfl;exact Gm rfl rfl (by omega);rfl)|(apply st1 L rfl;exact H3 rfl rfl (by omega);rfl)))
   (apply st1 L rfl;exact E1 rfl lkr hx;rfl)
   refine wk ?_
   refine cal (c:=hf _ (List.getElem_mem hi) _) (g:=?_)
   rintro _ rfl
   refine wk ?_
   exact ih () _ _ ⟨trivial,kps⟩ tsb
  ·rintro _ h2 ⟨-,k2⟩
   refine wk ?_
   refine ret X.f131 ?_
   exact⟨rfl,k2⟩
theorem Kh {κ: Nat→Nat}{v:AV}{l:List Int}{f:Nat}(q:IntsR κ h v l)(hlen:l.length<1000)(hf: ∀x∈l,∀h2,Ct P0 E F K f [eI x] h2 fun u h'=>u= .bool false∧h'=h2):Ct P0 E F K 82 [v,.fn (.func f) [] []] h fun u h'=>u= .bool false∧K0 h h':=by
 refine Ae L X.f82 X.k82 rfl rfl fun Q x cs G=>?_
 refine wk ?_
 refine cal (c:=Yi L X q hlen hf) (g:=?_)
 rintro _ h2 ⟨rfl,k2⟩
 refine wk ?_
 refine ret X.f82 ?_
 exact⟨rfl,k2⟩
end
structure PgRow (P i:Nat)(s:Nat)(c:List AV):Prop where
 len:c.length=P*2
 nil: ∀j,j<P→c[j*2]?=some .nils
 st: ∀j,j<P→c[j*2+1]?=some (.int .i64 ((if j<i then s else 0:Nat):Int))
omit L X in
theorem PgRow.step {P i s:Nat}{c:List AV}(r:PgRow P i s c)(hi:i<P):PgRow P (i+1) s (c.set (i*2+1) (.int .i64 ((s:Nat):Int))):=by
 refine⟨by rw [List.length_set];exact r.len,fun j hj=>?_,fun j hj=>?_⟩
 ·rw [List.getElem?_set_ne (by omega)];exact r.nil j hj
 ·by_cases e:j=i
  ·subst e
   rw [List.getElem?_set_self (by rw [r.len];omega),if_pos (Nat.lt_succ_self j)]
  ·rw [List.getElem?_set_ne (by omega),r.st j hj]
   by_cases h1:j<i
   ·rw [if_pos h1,if_pos (by omega)]
   ·rw [if_neg h1,if_neg (by omega)]
omit L X in
theorem PgRow.init (s:Nat): ∀P,PgRow P 0 s (rl [.nils,.int .i64 ((0:Nat):Int)] P)
 |0=>⟨rfl,fun j hj=>by omega,fun j hj=>by omega⟩
 |P+1=>by
  have ih:=PgRow.init s P
  have e:rl [.nils,.int .i64 ((0:Nat):Int)] (P+1)= .nils:: .int .i64 ((0:Nat):Int)::rl [.nils,.int .i64 ((0:Nat):Int)] P:=rfl
  rw [e]
  have hl:=ih.len
  refine⟨by rw [List.length_cons,List.length_cons];omega,fun j hj=>?_,fun j hj=>?_⟩
  ·cases j with
   |zero=>rfl
   |succ j=>rw [show(j+1)*2=j*2+1+1 by omega];simpa using ih.nil j (by omega)
  ·cases j with
   |zero=>rfl
   |succ j=>rw [show(j+1)*2+1=j*2+1+1+1 by omega];simpa using ih.st j (by omega)
theorem U2 {h:H}{bb q P s:Nat}{cb:List AV}(hb:Bk h bb cb)(hq:q+1<cb.length)(hP:P<1000):
  Ct P0 E F K 84 [.ptr bb q,.int .i64 ((P:Nat):Int),.int .i64 ((s:Nat):Int)] h fun v h'=>v= .tup []∧ ∃pn c',h.n≤pn∧Bk h' bb ((cb.set q (.slc pn 0 P P)).set (q+1) (.int .i64 ((if s=1 then 0 else P:Nat):Int)))∧Bk h' pn c'∧PgRow P P s c'∧Kp (fun j=>j=bb) h h':=by
 have hbb:=hb.lt
 refine B0 L X.f84 X.k84 rfl rfl fun Q x cs G=>?_
 have hq0:q+0<cb.length:=by omega
 refine wk ?_
 have e1:(cb.set (q+0) (.slc h.n 0 P P))[q+0]?=some (.slc h.n 0 P P):=List.getElem?_set_self hq0
 refine wk ?_
 refine Cr L (α:= Unit) (T:=fun i _=> [(17,some (.int .i64 ((i:Nat):Int))),(16,some (.int .i64 ((P:Nat):Int))),(0,some (.ptr bb q)),(1,some (.int .i64 ((P:Nat):Int))),(2,some (.int .i64 ((s:Nat):Int)))]) (n:=P)
  (R:=fun i _ h1=>Bk h1 bb (cb.set (q+0) (.slc h.n 0 P P))∧(∃c,Bk h1 h.n c∧PgRow P i s c)∧Kp (fun j=>j=bb) h h1) (i0:=0) () tsb ⟨lkp,⟨_,lkp,PgRow.init s P⟩,kps⟩ (Nat.zero_le _) ?_ ?_
 ·rintro i _ h1 hi ⟨hb1,⟨c,hc,hr⟩,hk⟩ ih
  have hlen:i*2+1<c.length:=by rw [hr.len];omega
  refine wk ?_
  exact ih () _ _ ⟨lkp,⟨_,lkp,hr.step hi⟩,kps⟩ tsb
 ·rintro _ h1 ⟨hb1,⟨c,hc,hr⟩,hk⟩
  have hlen:q+1<(cb.set (q+0) (.slc h.n 0 P P)).length:=by simpa using hq
  refine wk ?_
  by_cases hs:s=1
  ·refine wk ?_
   refine ret X.f84 ?_
   refine⟨rfl,h.n,c,Nat.le_refl _,?_,lkp,hr,kps⟩
   rw [if_pos hs];exact lkp
  ·have hlen2:q+1<((cb.set (q+0) (.slc h.n 0 P P)).set (q+1) (.int .i64 ((0:Nat):Int))).length:=by simpa using hq
   refine wk ?_
   refine ret X.f84 ?_
   refine⟨rfl,h.n,c,Nat.le_refl _,?_,lkp,hr,kps⟩
   rw [if_neg hs]
   exact Om (List.set_set _) lkp
def Mt (l:List Int)(n:Nat):Bool:=decide (((n:Nat):Int)∈l)
omit L X in
theorem U3 (n:Nat):Mt [] n=false:=by simp [Mt]
omit L X in
theorem Yj {l:List Int}{i:Nat}{z:Int}(h:l[i]?=some z)(n:Nat):Mt (l.take (i+1)) n=(decide (((n:Nat):Int)=z) || Mt (l.take i) n):=by
 unfold Mt
 rw [List.take_add_one,h]
 by_cases e:((n:Nat):Int)=z
 ·simp [e]
 ·simp [e]
theorem O0 {κ: Nat→Nat}{h h0:H}{g0 g1 g2 g3 fm bb dv s2:Nat}{fl:List Int}{x:AFr}{cs:List AFr}{Q:Nat→AV→Prop}(h0':2≤g0∧g0≤12)(h1:2≤g1∧g1≤6)(h2:12≤g2∧g2≤30)(h3:1≤g3∧g3≤1000)
  (G: ∀v h',(∃d κ',v= .tup [.ptr d 0,.int .i64 ((0:Nat):Int)]∧K0 h0 h'∧DevR κ' h' d (Dv.new g0 g1 g2 g3 (Mt fl))∧ ∀b,b<h0.n→κ' b=κ b)→GO P0 E Q (finish v cs h' x))
  (kg:Bk h s2 (I1 g0 g1 g2 g3)) (kd:Bk h dv (dvL g0 g1 g2 g3 fm bb 0 (-1) 0 false)) (qfm:FltR h fm (Mt fl)) (kb:Bk h bb (rl [.nils,.int .i64 ((0:Nat):Int),.int .i64 ((0:Nat):Int)] g0)) (hne:dv≠bb∧dv≠fm∧bb≠fm∧s2≠bb∧h0.n≤dv∧h0.n≤bb∧h0.n≤fm) (k0:K0 h0 h)
  {lq:List (Nat×Option AV)} (ht:TSub (tms [(41,some (.int .i64 ((0:Nat):Int))),(40,some (.int .i64 ((g0:Nat):Int))),(6,some (.ptr dv 0)),(2,some (.ptr s2 0))]) (tms lq)):
  Good P0 E Q ⟨⟨30,cf30.ntmps,tms lq,[.code (.loop c30_31),.inBlock 2,.code c30_36],[],.run,false,none⟩,x::cs,h⟩:=by
 refine Ek L ht ?_
 have w1:=kd.lt
 have w2:=kb.lt
 have w3:=qfm.lt
 obtain⟨e1,e2,e3,e4,e5,e6,e7⟩:=hne
 refine Cr L (α:= Nat→Nat) (T:=fun i _=> [(41,some (.int .i64 ((i:Nat):Int))),(40,some (.int .i64 ((g0:Nat):Int))),(6,some (.ptr dv 0)),(2,some (.ptr s2 0))]) (n:=g0)
  (R:=fun i κ' h5=>Bk h5 s2 (I1 g0 g1 g2 g3)∧Bk h5 (dv) (dvL g0 g1 g2 g3 fm bb 0 (-1) 0 false)∧FltR h5 fm (Mt fl)∧
   (∃cb,Bk h5 (bb) cb∧cb.length=g0*3∧(∀j,j<g0→cb[j*3+2]?=some (.int .i64 ((0:Nat):Int)))∧ ∀j,j<i→ ∃pn c,BlR κ' h5 g1 j ⟨Df 1,0,0⟩ cb pn c)∧
   (κ' (dv)=1∧κ' (bb)=2∧κ' fm=0∧ ∀b,b<h0.n→κ' b=κ b)∧K0 h0 h5) (i0:=0)
  (fun b=>if b=dv then 1 else if b=bb then 2 else if b=fm then 0 else κ b) tsb ⟨lkp,lkp,(by exact qfm.k0 kps),⟨_,lkp,?_,?_,fun j hj=>by omega⟩,⟨?_,?_,?_,fun b hb=>?_⟩,kps⟩ (Nat.zero_le _) ?_ ?_
 ·rw [Q6];rfl
 ·intro j hj
  rw [T2 _ _ _ (by show _<_*3;omega),show(j*3+2) % [AV.nils,AV.int .i64 ((0:Nat):Int),AV.int .i64 ((0:Nat):Int)].length=2 by show(j*3+2) % 3=2;omega];rfl
 ·exact if_pos rfl
 ·rw [if_neg (by omega),if_pos rfl]
 ·rw [if_neg (by omega),if_neg (by omega),if_pos rfl]
 ·rw [if_neg (by omega),if_neg (by omega),if_neg (by omega)]
 ·rintro i κ1 h5 hi ⟨q1,q2,q3,⟨cb,q4,q5,q6,q7⟩,⟨q8,q9,q10,q11⟩,q12⟩ ih
  have b1:=q2.lt
  have b3:=q3.lt
  have b4:=q4.lt
  refine wk ?_
  refine cal (c:=U2 L X (s:=1) lkp (by omega) (by omega)) (g:=?_)
  rintro _ h6 ⟨rfl,pn,c',r1,r3,r2x,r4,r5⟩
  have b2:=r5.n
  simp only [Al]at r1 b2
  refine wk ?_
  have hw:Fw κ1 h5 (upd κ1 pn (3+i)) h6:=⟨b2,fun b hb hc=>r5.old b hb fun e=>(by rw [e,q9]at hc;omega),fun b hb=>upd_ne _ _ (by omega)⟩
  have hbl:i*3+1<cb.length:=by rw [q5];omega
  refine ih (upd κ1 pn (3+i)) _ _ ⟨lkp,lkp,q3.kp r5 (by omega),⟨_,lkp,?_,?_,?_⟩,⟨?_,?_,?_,?_⟩,kps⟩ tsb
  ·rw [List.length_set,List.length_set];exact q5
  ·intro j hj
   rw [List.getElem?_set_ne (by omega),List.getElem?_set_ne (by omega)];exact q6 j hj
  ·intro j hj
   have hj1:j<g0:=by omega
   by_cases hji:j=i
   ·subst hji
    refine⟨pn,c',?_,?_,?_,⟨r2x,upd_eq _ _ _,r4.len,fun m hm=>⟨?_,fun _ _=>r4.nil m hm,fun hs=>?_⟩⟩⟩
    ·rw [List.getElem?_set_ne (by omega),List.getElem?_set_self (by omega)]
    ·rw [List.getElem?_set_self (by rw [List.length_set];omega)];rfl
    ·rw [List.getElem?_set_ne (by omega),List.getElem?_set_ne (by omega)];exact q6 j hj1
    ·rw [r4.st m hm,if_pos hm];rfl
    ·exact absurd hs (by show¬(1=2∨1=3);omega)
   ·obtain⟨pm,c,hr⟩:=q7 j (by omega)
    have h7:pm≠bb:=fun e=>by have:=hr.row.col;rw [e,q9]at this;omega
    have h8:=hr.fw hw (r5.old pm hr.row.k.lt (by omega))
    refine⟨pm,c,?_,?_,?_,h8.row⟩
    ·rw [List.getElem?_set_ne (by omega),List.getElem?_set_ne (by omega)];exact h8.c0
    ·rw [List.getElem?_set_ne (by omega),List.getElem?_set_ne (by omega)];exact h8.c1
    ·rw [List.getElem?_set_ne (by omega),List.getElem?_set_ne (by omega)];exact h8.c2
  ·rw [upd_ne _ _ (by omega)];exact q8
  ·rw [upd_ne _ _ (by omega)];exact q9
  ·rw [upd_ne _ _ (by omega)];exact q10
  ·intro b hb;rw [upd_ne _ _ (by omega)];exact q11 b hb
 ·rintro κ1 h5 ⟨q1,q2,q3,⟨cb,q4,q5,q6,q7⟩,⟨q8,q9,q10,q11⟩,q12⟩
  refine wk ?_
  refine ret X.f30 ?_
  have b1:=q2.lt
  refine⟨dv,κ1,rfl,q12,⟨⟨⟨h0',h1,h2,h3⟩,by show(0:Nat)<100000;omega,Nat.zero_le _,by show(-1:Int)≤ -1∧(-1:Int)<100000;omega,fun i hi=>⟨Nat.zero_le _,fun j hj=>absurd hj (Nat.not_lt_zero j),fun j _ _=>rfl,fun j _=>⟨fun hs=>absurd hs (by show¬(1=2∨1=3);omega),fun _ _=>rfl,(by show 1≤1∧1≤5;omega)⟩,Nat.zero_le _⟩⟩,fm,bb,cb,q2,q8,q3,q10,q4,q9,q5,h0'.2,q7⟩,q11⟩
theorem uw {κ: Nat→Nat}{h:H}{g0 g1 g2 g3:Nat}(h0:2≤g0∧g0≤12)(h1:2≤g1∧g1≤6)(h2:12≤g2∧g2≤30)(h3:1≤g3∧g3≤1000){v:AV}{fl:List Int}(qf:IntsR κ h v fl)(hf: ∀x∈fl,0≤x)(hfn:fl.length<1000):
  Ct P0 E F K 30 [.agg (I1 g0 g1 g2 g3),v] h fun v h'=> ∃d κ',v= .tup [.ptr d 0,.int .i64 ((0:Nat):Int)]∧K0 h h'∧DevR κ' h' d (Dv.new g0 g1 g2 g3 (Mt fl))∧ ∀b,b<h.n→κ' b=κ b:=by
 rcases qf.ex with⟨rfl,rfl⟩|⟨rfl,a,rfl⟩|⟨b,cap,rfl,hb,-⟩
 all_goals
  refine Ae L X.f30 X.k30 rfl rfl fun Q x cs G=>?_
  refine wk ?_
  refine cal (c:=ft L X h0 h1 h2 h3) (g:=?_)
  rintro _ h4 ⟨rfl,hk4⟩
  have n4:=hk4.n
  simp only [Al]at n4
  refine wk ?_
  refine cal (c:=Kh L X (qf.fw (Kp.fw0 (by exact kps))) hfn (fun x hx h2=>od L X (hf x hx))) (g:=?_)
  rintro _ h5 ⟨rfl,hk5⟩
  have n5:=hk5.n
  simp only [Al]at n5
  refine wk ?_
 ·refine Ba L ?_
  refine wk ?_
  exact O0 L X (κ:= κ) (h0:=h) (dv:=h5.n+1+1) (bb:=h5.n+1) (fm:=h5.n) (s2:=h.n) h0 h1 h2 h3 G lkp lkp ⟨[],0,lkm,fun i=>by rw [U3];rfl⟩ lkp (by omega) kps tsb
 ·refine Ba L ?_
  refine wk ?_
  exact O0 L X (κ:= κ) (h0:=h) (dv:=h5.n+1+1) (bb:=h5.n+1) (fm:=h5.n) (s2:=h.n) h0 h1 h2 h3 G lkp lkp ⟨[],0,lkm,fun i=>by rw [U3];rfl⟩ lkp (by omega) kps tsb
 ·have lb:=hb.lt
  refine Cr L (α:= Unit) (T:=fun i _=> [(26,some (.int .i64 ((i:Nat):Int))),(25,some (.int .i64 ((fl.length:Nat):Int))),(24,some (.slc b 0 fl.length cap)),(6,some (.ptr (h5.n+1+1) 0)),(2,some (.ptr h.n 0))]) (n:=fl.length)
   (R:=fun i _ h6=>Bk h6 h.n (I1 g0 g1 g2 g3)∧Bk h6 (h5.n+1+1) (dvL g0 g1 g2 g3 h5.n (h5.n+1) 0 (-1) 0 false)∧(∃M ck,Mk h6 h5.n (M.map (mE eI)) ck∧MOk M ck∧ ∀j:Nat,Bq M ((j:Nat):Int)=if Mt (fl.take i) j=true then some (.bool true)else none)∧Bk h6 (h5.n+1) (rl [.nils,.int .i64 ((0:Nat):Int),.int .i64 ((0:Nat):Int)] g0)∧K0 h h6) (i0:=0)
   () tsb ⟨lkp,lkp,⟨[],0,lkm,MOk.nil,fun i=>by rw [List.take_zero,U3];rfl⟩,lkp,kps⟩ (Nat.zero_le _) ?_ ?_
  ·rintro i _ h6 hi ⟨q1,q2,⟨M,ck,q3,q4,q5⟩,q6,q7⟩ ih
   have l2:=q2.lt
   have l3:=q3.lt
   have l6:=q6.lt
   have l1:=q1.lt
   have hk:=Ou q7 hb
   have hx:(fl.map eI)[i]?=some (eI fl[i]):=by rw [List.getElem?_map,List.getElem?_eq_getElem hi];rfl
   (try refine B4 L 1000 rfl ?_);(repeat(first|(apply st1 L rfl;exact⟨Ol rfl⟩;rfl)|(apply st1 L rfl;exact St rfl rfl rfl;rfl)|(apply st1 L rfl;exact Oo rfl rfl (by omega);rfl)|(apply st1 L rfl;exact Gm rfl rfl (by omega);rfl)|(apply st1 L rfl;exact H3 rfl rfl (by omega);rfl)))
   (apply st1 L rfl;exact E1 rfl lkr hx;rfl)
   refine wk ?_
   (apply Jh L rfl;exact G8 (KE.int .i64) q4 rfl rfl rfl lkq;rfl)
   refine wk ?_
   refine ih () _ _ ⟨lkp,lkp,⟨_,_,lkq,q4.set _ _,fun j=>?_⟩,lkp,kps⟩ tsb
   rw [Cw,q5,Yj (List.getElem?_eq_getElem hi)]
   by_cases e:((j:Nat):Int)=fl[i]
   ·rw [if_pos e,decide_eq_true e];rfl
   ·rw [if_neg e,decide_eq_false e];rfl
  ·rintro _ h6 ⟨q1,q2,⟨M,ck,q3,q4,q5⟩,q6,q7⟩
   refine wk ?_
   exact O0 L X (κ:= κ) (h0:=h) (dv:=h5.n+1+1) (bb:=h5.n+1) (fm:=h5.n) (s2:=h.n) h0 h1 h2 h3 G lkp lkp ⟨M,ck,lkq,fun i=>by rw [q5,List.take_length]⟩ lkp (by omega) kps tsb
end
section
variable {P0:Program}{E:Env}{F:T CFn}{K:T (List AV×AV)}(L:Lg P0 E F K)(X:Fx F K)
include L X
section
variable {h:H}{d fm bb b2 b3 q:Nat}{D:Dv}{cb:List AV}
theorem Qg (hb3:Bk h b3 [.ptr bb q])(hb2:Bk h b2 [.ptr d 0])(hd:Bk h d (dvC D fm bb))(hb:Bk h bb cb)(hq:q+1<cb.length)(hP:D.P<1000):
  Ct P0 E F K 175 [.ptr b3 0,.ptr b2 0] h fun v h'=> ∃pn c',h.n≤pn∧Bk h' bb ((cb.set q (.slc pn 0 D.P D.P)).set (q+1) (.int .i64 ((D.P:Nat):Int)))∧Bk h' pn c'∧PgRow D.P D.P 5 c'∧Kp (fun j=>j=bb) h h':=by
 refine Ae L X.f175 X.k175 rfl rfl fun Q x cs G=>?_
 refine wk ?_
 refine cal (c:=U2 L X (s:=5) lkp hq hP) (g:=?_)
 rintro _ h1 ⟨rfl,r⟩
 refine wk ?_
 refine ret X.f175 ?_
 exact r
theorem Yk (hb3:Bk h b3 [.ptr bb q])(hb2:Bk h b2 [.ptr d 0])(hd:Bk h d (dvC D fm bb))(hb:Bk h bb cb)(hq:q+1<cb.length)(hP:D.P<1000):
  Ct P0 E F K 177 [.ptr b3 0,.ptr b2 0] h fun v h'=> ∃pn c',h.n≤pn∧Bk h' bb ((cb.set q (.slc pn 0 D.P D.P)).set (q+1) (.int .i64 ((0:Nat):Int)))∧Bk h' pn c'∧PgRow D.P D.P 1 c'∧Kp (fun j=>j=bb) h h':=by
 refine Ae L X.f177 X.k177 rfl rfl fun Q x cs G=>?_
 refine wk ?_
 refine cal (c:=U2 L X (s:=1) lkp hq hP) (g:=?_)
 rintro _ h1 ⟨rfl,r⟩
 refine wk ?_
 refine ret X.f177 ?_
 exact r
section
variable {fi:Nat}{cp:List AV}{f1 f2:AV}{e:Int}{post:H→AV→H→Prop}
theorem Mm (hd:Bk h d (dvC D fm bb))(hn:D.n<100000)(hc:((D.n:Nat):Int)=D.cut)
  (hi: ∀h1,Bk h1 d (dvC {D with n:=D.n+1,off:=true} fm bb)→Kp (fun j=>j=d) h h1→Ct P0 E F K fi cp h1 (post h1)):
  Ct P0 E F K 176 [.ptr d 0,f1,f2,.fn (.func fi) [] cp,.int .i64 e] h fun v h'=>v= .int .i64 ((50:Nat):Int)∧ ∃h1 u,Bk h1 d (dvC {D with n:=D.n+1,off:=true} fm bb)∧Kp (fun j=>j=d) h h1∧post h1 u h':=by
 refine Jg L X.f176 X.k176 rfl rfl fun Q x cs G=>?_
 refine wk ?_
 refine cal (c:=hi _ lkp kps) (g:=?_)
 rintro u h2 hp2
 refine wk ?_
 refine ret X.f176 ?_
 exact⟨rfl,_,u,lkp,kps,hp2⟩
theorem Mn (hd:Bk h d (dvC D fm bb))(hf:FltR h fm D.flt)(hfd:fm≠d)(hn:D.n<100000)(hc:((D.n:Nat):Int)≠D.cut)(hq:D.flt D.n=false)
  (hi: ∀h1,Bk h1 d (dvC {D with n:=D.n+1} fm bb)→Kp (fun j=>j=d) h h1→Ct P0 E F K fi cp h1 (post h1)):
  Ct P0 E F K 176 [.ptr d 0,.fn (.func fi) [] cp,f1,f2,.int .i64 e] h fun v h'=>v= .int .i64 ((0:Nat):Int)∧ ∃h1 u,Bk h1 d (dvC {D with n:=D.n+1} fm bb)∧Kp (fun j=>j=d) h h1∧post h1 u h':=by
 obtain⟨M,ck,k1,k2⟩:=hf.ex
 have k3:=k2 D.n
 rw [hq]at k3
 refine Jg L X.f176 X.k176 rfl rfl fun Q x cs G=>?_
 refine wk ?_
 (apply st1 L rfl;exact Dx (KE.int .i64) rfl rfl lkq;rfl)
 rw [k3]
 refine wk ?_
 refine cal (c:=hi _ lkp kps) (g:=?_)
 rintro u h2 hp2
 refine wk ?_
 refine ret X.f176 ?_
 exact⟨rfl,_,u,lkp,kps,hp2⟩
theorem Mo (hd:Bk h d (dvC D fm bb))(hf:FltR h fm D.flt)(hfd:fm≠d)(hn:D.n<100000)(hc:((D.n:Nat):Int)≠D.cut)(hq:D.flt D.n=true)
  (hi: ∀h1,Bk h1 d (dvC {D with n:=D.n+1} fm bb)→Kp (fun j=>j=d) h h1→Ct P0 E F K fi cp h1 (post h1)):
  Ct P0 E F K 176 [.ptr d 0,f1,.fn (.func fi) [] cp,f2,.int .i64 e] h fun v h'=>v= .int .i64 e∧ ∃h1 u,Bk h1 d (dvC {D with n:=D.n+1} fm bb)∧Kp (fun j=>j=d) h h1∧post h1 u h':=by
 obtain⟨M,ck,k1,k2⟩:=hf.ex
 have k3:=k2 D.n
 rw [hq]at k3
 refine Jg L X.f176 X.k176 rfl rfl fun Q x cs G=>?_
 refine wk ?_
 (apply st1 L rfl;exact Dx (KE.int .i64) rfl rfl lkq;rfl)
 rw [k3]
 refine wk ?_
 refine cal (c:=hi _ lkp kps) (g:=?_)
 rintro u h2 hp2
 refine wk ?_
 refine ret X.f176 ?_
 exact⟨rfl,_,u,lkp,kps,hp2⟩
end
end
end
section
variable {P0:Program}{E:Env}{F:T CFn}{K:T (List AV×AV)}(L:Lg P0 E F K)(X:Fx F K)
include L X
omit L X in
theorem DevC.newRow {κ: Nat→Nat}{h h':H}{d fm bb i s nx er pn:Nat}{D D':Dv}{cb c':List AV}(q:DevC κ h d D fm bb cb)(hi:i<D.nb)(hnb:D'.nb=D.nb)(hP:D'.P=D.P)(hfl:D'.flt=D.flt)(hbl:D'.bl=upd D.bl i ⟨Df s,nx,er⟩)(hs:s≠2∧s≠3)
  (k:Kp (fun j=>j=d∨j=bb) h h') (dk:Bk h' d (dvC D' fm bb)) (bk:Bk h' bb (((cb.set (i*3+2) (.int .i64 ((er:Nat):Int))).set (i*3) (.slc pn 0 D.P D.P)).set (i*3+1) (.int .i64 ((nx:Nat):Int))))
  (rk:Bk h' pn c') (r:PgRow D.P D.P s c') (hp:h.n≤pn): ∃κ' cb',DevC κ' h' d D' fm bb cb'∧Ch κ h κ' h':=by
 have b1:=q.dk.lt
 have b2:=q.bk.lt
 have b3:=q.fk.lt
 have l:=q.blen
 have c1:=q.dcol
 have c2:=q.bcol
 have c3:=q.fcol
 have hch:Ch κ h (upd κ pn (3+i)) h':=⟨k.mono fun j hj=>by rcases hj with e|e <;> subst e <;> omega,fun b hb=>upd_ne _ _ (by omega)⟩
 refine⟨upd κ pn (3+i),_,⟨dk,(upd_ne _ _ (by omega)).trans c1,by rw [hfl];exact q.fk.kp k (by intro e;rcases e with e|e <;> subst e <;> omega),(upd_ne _ _ (by omega)).trans c3,bk,(upd_ne _ _ (by omega)).trans c2,?_,by rw [hnb];exact q.nb,fun j hj=>?_⟩,hch⟩
 ·rw [List.length_set,List.length_set,List.length_set,hnb];exact l
 ·rw [hnb]at hj
  by_cases e:j=i
  ·subst e
   refine⟨pn,c',?_,?_,?_,rk,upd_eq _ _ _,by rw [hP];exact r.len,fun m hm=>?_⟩
   ·rw [List.getElem?_set_ne (by omega),List.getElem?_set_self (by rw [List.length_set];omega),hP]
   ·rw [List.getElem?_set_self (by rw [List.length_set,List.length_set];omega),hbl,upd_eq]
   ·rw [List.getElem?_set_ne (by omega),List.getElem?_set_ne (by omega),List.getElem?_set_self (by omega),hbl,upd_eq]
   ·rw [hP]at hm
    rw [hbl,upd_eq]
    refine⟨?_,fun _ _=>r.nil m hm,fun h1=>absurd h1 (by show¬(s=2∨s=3);omega)⟩
    rw [r.st m hm,if_pos hm];rfl
  ·obtain⟨pm,c,hr⟩:=q.rows j hj
   have h7:=hr.row.col
   have h8:=hr.fw hch.fw (k.old pm hr.row.k.lt (by intro e;rcases e with e|e <;> subst e <;> omega))
   rw [hP,hbl,upd_ne _ _ e]
   refine⟨pm,c,?_,?_,?_,h8.row⟩
   ·rw [List.getElem?_set_ne (by omega),List.getElem?_set_ne (by omega),List.getElem?_set_ne (by omega)];exact h8.c0
   ·rw [List.getElem?_set_ne (by omega),List.getElem?_set_ne (by omega),List.getElem?_set_ne (by omega)];exact h8.c1
   ·rw [List.getElem?_set_ne (by omega),List.getElem?_set_ne (by omega),List.getElem?_set_ne (by omega)];exact h8.c2
omit L X in
theorem Dv.Ok.row {D D':Dv}{i s nx er:Nat}(q:D.Ok)(hg:D'.nb=D.nb∧D'.P=D.P∧D'.sz=D.sz∧D'.en=D.en)(hn:D'.n<100000)(hb:D'.byt=D.byt)(hc:D'.cut=D.cut)(hbl:D'.bl=upd D.bl i ⟨Df s,nx,er⟩)(hs:s=1∧nx=0∨s=5∧nx=D.P)(he:er≤D.en):D'.Ok:=by
 obtain⟨g1,g2,g3,g4⟩:=hg
 refine⟨⟨by rw [g1];exact q.g.nb,by rw [g2];exact q.g.P,by rw [g3];exact q.g.sz,by rw [g4];exact q.g.en⟩,hn,by rw [hb,g3];exact q.byt,by rw [hc];exact q.cut,fun j hj=>?_⟩
 rw [g1]at hj
 rw [hbl]
 by_cases e:j=i
 ·subst e
  rw [upd_eq]
  have hpg: ∀m,((Df s) m).Ok D'.sz:=fun m=>⟨fun h1=>absurd h1 (by show¬(s=2∨s=3);omega),fun _ _=>rfl,(by show 1≤s∧s≤5;omega)⟩
  rcases hs with⟨h1,h2⟩|⟨h1,h2⟩ <;> subst h1 <;> subst h2
  ·exact⟨Nat.zero_le _,fun m hm=>absurd hm (Nat.not_lt_zero m),fun m _ _=>rfl,fun m _=>hpg m,by rw [g4];exact he⟩
  ·exact⟨by rw [g2];exact Nat.le_refl _,fun m _=>(by show 5≠1;omega),fun m h1 h2=>absurd h2 (by rw [g2];show¬m<D.P;exact Nat.not_lt.2 h1),fun m _=>hpg m,by rw [g4];exact he⟩
 ·rw [upd_ne _ _ e]
  have h1:=q.bl j hj
  exact⟨by rw [g2];exact h1.nx,h1.lo,by rw [g2];exact h1.hi,by rw [g2,g3];exact h1.pg,by rw [g4];exact h1.er⟩
theorem fu {κ: Nat→Nat}{h:H}{d fm bb i:Nat}{D:Dv}{cb:List AV}(q:DevC κ h d D fm bb cb)(ok:D.Ok)(hn:D.n+1<100000)(hi:i<D.nb)(hoff:D.off=false)(he:(D.bl i).er<D.en):
  Ct P0 E F K 149 [.ptr d 0,.ptr bb (i*3)] h fun v h'=>v= .int .i64 (((D.erase i).2:Nat):Int)∧ ∃κ',DevR κ' h' d (D.erase i).1∧Ch κ h κ' h':=by
 obtain⟨pn,c,hr⟩:=q.rows i hi
 have hc2:=hr.c2
 have b1:=q.dk.lt
 have b2:=q.bk.lt
 have b3:=q.fk.lt
 have l:=q.blen
 have l2:i*3+2<cb.length:=by omega
 have c1:=q.dcol
 have c2:=q.bcol
 have c3:=q.fcol
 have hdk:=q.dk
 have hbk:=q.bk
 have hfk:=q.fk
 have hen:=ok.g.en
 have hgP:=ok.g.P
 have hdb:d≠bb:=fun e=>by rw [e]at c1;omega
 have hdf:fm≠d:=fun e=>by rw [e]at c3;omega
 have hbf:fm≠bb:=fun e=>by rw [e]at c3;omega
 have l3:i*3+1<(cb.set (i*3+2) (.int .i64 (((D.bl i).er+1:Nat):Int))).length:=by rw [List.length_set];omega
 have e0:D.erase i=if(D.n:Int)=D.cut then({D with bl:=upd D.bl i ⟨Df 5,D.P,(D.bl i).er+1⟩,n:=D.n+1,off:=true},50)else if D.flt D.n=true then({D with bl:=upd D.bl i ⟨Df 5,D.P,(D.bl i).er+1⟩,n:=D.n+1},55)else({D with bl:=upd D.bl i ⟨Df 1,0,(D.bl i).er+1⟩,n:=D.n+1},0):=by
  unfold Dv.erase
  rw [if_pos ⟨by omega,by omega⟩,hoff,if_neg (by simp),Int.toNat_natCast,if_neg (by omega)]
 refine Ae L X.f149 X.k149 rfl rfl fun Q x cs G=>?_
 refine wk ?_
 by_cases hc:(D.n:Int)=D.cut
 ·refine cal (c:=Mm L X lkp (by omega) hc fun h2 k1 k2=>Qg L X (b3:=h.n+1) (b2:=h.n) lkp lkp k1 lkp l3 (by show D.P<1000;omega)) (g:=?_)
  rintro _ h2 ⟨rfl,h1,u,r1,r2,pn',c',r3,r4,r5,r6,r7⟩
  refine wk ?_
  refine ret X.f149 ?_
  rw [e0,if_pos hc]
  refine⟨rfl,?_⟩
  have k2:Kp (fun j=>j=d∨j=bb) h h2:=Kp.trS r7 (fun _ _ e=> .inr e) (Kp.trS r2 (fun _ _ e=> .inl e) (Kp.st (.inr (.inr rfl)) (Kp.nw (Kp.nw (.refl _)))))
  have n2:=r2.n
  simp only [Al]at n2
  obtain⟨κ',cb',w1,w2⟩:=q.newRow (D':= {D with bl:=upd D.bl i ⟨Df 5,D.P,(D.bl i).er+1⟩,n:=D.n+1,off:=true}) hi rfl rfl rfl rfl (by omega) k2 (As r7 hdb r1) r4 r5 r6 (by omega)
  exact⟨κ',⟨ok.row (D':= {D with bl:=upd D.bl i ⟨Df 5,D.P,(D.bl i).er+1⟩,n:=D.n+1,off:=true}) ⟨rfl,rfl,rfl,rfl⟩ hn rfl rfl rfl (.inr ⟨rfl,rfl⟩) (by omega),_,_,_,w1⟩,w2⟩
 ·cases hq:D.flt D.n with
  |true=>
   refine cal (c:=Mo L X lkp (hfk.kp (S:=fun j=>j=bb) kps hbf) hdf (by omega) hc hq fun h2 k1 k2=>Qg L X (b3:=h.n+1) (b2:=h.n) lkp lkp k1 lkp l3 (by show D.P<1000;omega)) (g:=?_)
   rintro _ h2 ⟨rfl,h1,u,r1,r2,pn',c',r3,r4,r5,r6,r7⟩
   refine wk ?_
   refine ret X.f149 ?_
   rw [e0,if_neg hc,if_pos hq]
   refine⟨rfl,?_⟩
   have k2:Kp (fun j=>j=d∨j=bb) h h2:=Kp.trS r7 (fun _ _ e=> .inr e) (Kp.trS r2 (fun _ _ e=> .inl e) (Kp.st (.inr (.inr rfl)) (Kp.nw (Kp.nw (.refl _)))))
   have n2:=r2.n
   simp only [Al]at n2
   obtain⟨κ',cb',w1,w2⟩:=q.newRow (D':= {D with bl:=upd D.bl i ⟨Df 5,D.P,(D.bl i).er+1⟩,n:=D.n+1}) hi rfl rfl rfl rfl (by omega) k2 (As r7 hdb r1) r4 r5 r6 (by omega)
   exact⟨κ',⟨ok.row (D':= {D with bl:=upd D.bl i ⟨Df 5,D.P,(D.bl i).er+1⟩,n:=D.n+1}) ⟨rfl,rfl,rfl,rfl⟩ hn rfl rfl rfl (.inr ⟨rfl,rfl⟩) (by omega),_,_,_,w1⟩,w2⟩
  |false=>
   refine cal (c:=Mn L X lkp (hfk.kp (S:=fun j=>j=bb) kps hbf) hdf (by omega) hc hq fun h2 k1 k2=>Yk L X (b3:=h.n+1) (b2:=h.n) lkp lkp k1 lkp l3 (by show D.P<1000;omega)) (g:=?_)
   rintro _ h2 ⟨rfl,h1,u,r1,r2,pn',c',r3,r4,r5,r6,r7⟩
   refine wk ?_
   refine ret X.f149 ?_
   rw [e0,if_neg hc,if_neg (by rw [hq];simp)]
   refine⟨rfl,?_⟩
   have k2:Kp (fun j=>j=d∨j=bb) h h2:=Kp.trS r7 (fun _ _ e=> .inr e) (Kp.trS r2 (fun _ _ e=> .inl e) (Kp.st (.inr (.inr rfl)) (Kp.nw (Kp.nw (.refl _)))))
   have n2:=r2.n
   simp only [Al]at n2
   obtain⟨κ',cb',w1,w2⟩:=q.newRow (D':= {D with bl:=upd D.bl i ⟨Df 1,0,(D.bl i).er+1⟩,n:=D.n+1}) hi rfl rfl rfl rfl (by omega) k2 (As r7 hdb r1) r4 r5 r6 (by omega)
   exact⟨κ',⟨ok.row (D':= {D with bl:=upd D.bl i ⟨Df 1,0,(D.bl i).er+1⟩,n:=D.n+1}) ⟨rfl,rfl,rfl,rfl⟩ hn rfl rfl rfl (.inl ⟨rfl,rfl⟩) (by omega),_,_,_,w1⟩,w2⟩
end
section
variable {P0:Program}{E:Env}{F:T CFn}{K:T (List AV×AV)}(L:Lg P0 E F K)(X:Fx F K)
include L X
theorem Yl {κ: Nat→Nat}{h:H}{d:Nat}{D:Dv}{i:Int}(r:DevR κ h d D)(hn:D.n+1<100000):
  Ct P0 E F K 107 [.ptr d 0,.int .i64 i] h fun v h'=>v= .int .i64 (((D.erase i).2:Nat):Int)∧ ∃κ',DevR κ' h' d (D.erase i).1∧Ch κ h κ' h':=by
 obtain⟨ok,fm,bb,cb,q⟩:=r
 have hd:=q.dk
 refine Ae L X.f107 X.k107 rfl rfl fun Q x cs G=>?_
 refine wk ?_
 refine cal (c:=F3 L X hd) (g:=?_)
 rintro _ rfl
 refine wk ?_
 refine cal (c:=U1 L X hd) (g:=?_)
 rintro _ rfl
 by_cases hi:0≤i∧i<D.nb
 ·rw [decide_eq_true hi]
  cases hoff:D.off with
  |true=>
   have e0:D.erase i=(D,50):=by unfold Dv.erase;rw [if_pos hi,if_pos hoff]
   unfold dvC dvL at hd
   rw [hoff]at hd
   refine wk ?_
   refine ret X.f107 ?_
   rw [e0]
   exact⟨rfl,κ,⟨ok,fm,bb,cb,q⟩,.refl _ _⟩
  |false=>
   unfold dvC dvL at hd
   rw [hoff]at hd
   obtain⟨j,rfl⟩: ∃j:Nat,i=j:=⟨i.toNat,by omega⟩
   have hj:j<D.nb:=by omega
   obtain⟨pn,c,hr⟩:=q.rows j hj
   have hc2:=hr.c2
   have hbk:=q.bk
   have hen:=ok.g.en
   have hbe:=(ok.bl j hj).er
   refine wk ?_
   by_cases he:D.en≤(D.bl j).er
   ·have e0:D.erase j=(D,56):=by unfold Dv.erase;rw [if_pos hi,if_neg (by rw [hoff];simp),Int.toNat_natCast,if_pos he]
    refine wk ?_
    refine ret X.f107 ?_
    rw [e0]
    exact⟨rfl,κ,⟨ok,fm,bb,cb,q⟩,.refl _ _⟩
   ·refine wk ?_
    refine cal (c:=fu L X q ok hn hj hoff (by omega)) (g:=?_)
    rintro _ h1 ⟨rfl,r⟩
    refine wk ?_
    refine ret X.f107 ?_
    exact⟨rfl,r⟩
 ·rw [decide_eq_false hi]
  have e0:D.erase i=(D,2):=by unfold Dv.erase;rw [if_neg hi]
  refine wk ?_
  refine ret X.f107 ?_
  rw [e0]
  exact⟨rfl,κ,⟨ok,fm,bb,cb,q⟩,.refl _ _⟩
end
section
variable {P0:Program}{E:Env}{F:T CFn}{K:T (List AV×AV)}(L:Lg P0 E F K)(X:Fx F K)
include L X
theorem oe {h:H}{n:Nat}(h0:0<n)(hn:n<10000):Ct P0 E F K 156 [.nils,.int .i64 ((n:Nat):Int)] h fun v h'=> ∃b,v= .slc b 0 0 (Aa+1)∧(∃c,Bk h' b c)∧h.n≤b∧K0 h h':=by
 refine Ae L X.f156 X.k156 rfl rfl fun Q x cs G=>?_
 refine wk ?_
 (apply st1 L rfl;exact za rfl rfl (by omega) (by omega) (by omega) (by omega);rfl)
 refine wk ?_
 refine ret X.f156 ?_
 exact⟨h.n,rfl,⟨_,lkp⟩,Nat.le_refl _,kps⟩
theorem Lm {h:H}{pb b1 o1 n1 c1 b2 o2 n2 c2:Nat}{bs1 bs2:List Nat}(hp1:Bk h pb [.slc b1 o1 n1 c1,.slc b2 o2 n2 c2])(k1:BS h b1 o1 bs1)(k2:BS h b2 o2 bs2)(e1:bs1.length=n1)(e2:bs2.length=n2)(h1:0<n1∧n1<1000)(h2:0<n2∧n2<1000):
  Ct P0 E F K 114 [.slc pb 0 2 2] h fun v h'=> ∃b,v= .slc b 0 (n1+n2) (Aa+1)∧BS h' b 0 (bs1++bs2)∧h.n≤b∧K0 h h':=by
 have l1:=hp1.lt
 have l2:=k1.lt_n
 have l3:=k2.lt_n
 have a1:=k1.all
 have a2:=k2.all
 refine An L X.f114 X.k114 rfl rfl fun Q x cs G=>?_
 refine wk ?_
 refine Ba L ?_
 refine wk ?_
 refine C6 L ?_
 refine wk ?_
 refine C6 L ?_
 refine wk ?_
 refine cal (c:=oe L X (by omega) (by omega)) (g:=?_)
 rintro _ h3 ⟨gb,rfl,⟨c,hc⟩,hg,hk⟩
 have hn3:=hk.n
 simp only [Al]at hg hn3
 refine wk ?_
 refine Ba L ?_
 refine wk ?_
 have f1:BS (hp h3.n h3.t []) b1 o1 bs1:=lkb
 (apply st1 L rfl;exact Fi rfl rfl (SlR.of (b:=gb) (o:=0) (n:=0) (c:=c) (xs:= []) lkp (by omega) (by simp)) (f1.slr e1) h1.1 (by omega) (D6 _);rfl)
 refine wk ?_
 refine C6 L ?_
 refine wk ?_
 have f2:BS (hp (h3.n+1) h3.t [(h3.n,some (cl ([]++Bp bs1))),(gb,none)]) b2 o2 bs2:=lkb
 have f3:BS (hp (h3.n+1) h3.t [(h3.n,some (cl ([]++Bp bs1))),(gb,none)]) h3.n 0 bs1:=Ga a1
 (apply st1 L rfl;exact Fi rfl rfl (f3.slr (by omega)) (f2.slr e2) h2.1 (by omega) (D6 _);rfl)
 refine wk ?_
 refine C6 L ?_
 refine wk ?_
 refine ret X.f114 ?_
 refine⟨h3.n+1,by rw [show 0+n1+n2=n1+n2 by omega];rfl,?_,by omega,?_⟩
 ·rw [H7]
  exact Ga (a1.app a2)
 ·have hk2:K0 h h3:=Kp.tr0 hk kps
  exact kps
end
section
variable {P0:Program}{E:Env}{F:T CFn}{K:T (List AV×AV)}(L:Lg P0 E F K)(X:Fx F K)
include L X
def Td (byt:Nat)(bs:List Nat):List Nat:=bs.take byt++List.replicate (bs.length - byt) 255
omit L X in
theorem Ib (byt:Nat)(bs:List Nat)(h:byt≤bs.length):(Td byt bs).length=bs.length:=by
 unfold Td;rw [List.length_append,List.length_take,List.length_replicate];omega
omit L X in
theorem Te (byt:Nat)(bs:List Nat)(h:byt≤bs.length)(i:Nat)(hi:i<bs.length):(Td byt bs).getD i 0=if byt≤i then 255 else bs.getD i 0:=by
 unfold Td
 rw [Sx,List.length_take,Nat.min_eq_left h]
 by_cases h1:i<byt
 ·rw [if_pos h1,if_neg (by omega)]
  simp only [List.getD_eq_getElem?_getD];rw [List.getElem?_take_of_lt h1]
 ·rw [if_neg h1,if_pos (by omega)]
  simp only [List.getD_eq_getElem?_getD];rw [List.getElem?_replicate_of_lt (by omega)];rfl
section
variable {h:H}{d fm bb pn ab a4 a7 a10 o n:Nat}{D:Dv}{c:List AV}{all:List Nat}
theorem fz (h7:Bk h a7 [.slc ab 0 n (Aa+1)])(h10:Bk h a10 [.ptr pn o])(hp1:Bk h pn c)(ho:o+1<c.length):
  Ct P0 E F K 196 [.ptr a7 0,.ptr a10 0] h fun v h'=>Bk h' pn ((c.set o (.slc ab 0 n (Aa+1))).set (o+1) (.int .i64 ((2:Nat):Int)))∧Kp (fun b=>b=pn) h h':=by
 have l1:=hp1.lt
 refine Ae L X.f196 X.k196 rfl rfl fun Q x cs G=>?_
 refine wk ?_
 refine ret X.f196 ?_
 exact⟨lkp,kps⟩
theorem f0 (h10:Bk h a10 [.ptr pn o])(hp1:Bk h pn c)(ho:o+1<c.length):
  Ct P0 E F K 197 [.ptr a10 0] h fun v h'=>Bk h' pn ((c.set o .nils).set (o+1) (.int .i64 ((4:Nat):Int)))∧Kp (fun b=>b=pn) h h':=by
 have l1:=hp1.lt
 refine An L X.f197 X.k197 rfl rfl fun Q x cs G=>?_
 refine wk ?_
 refine ret X.f197 ?_
 exact⟨lkp,kps⟩
theorem ga (h7:Bk h a7 [.slc ab 0 n (Aa+1)])(h10:Bk h a10 [.ptr pn o])(h4:Bk h a4 [.ptr d 0])(hd:Bk h d (dvC D fm bb))(hp1:Bk h pn c)(ho:o+1<c.length)(hb:BS h ab 0 all)(hn:all.length=n)(hn1:n<1000)(hby:D.byt≤n)
  (hne:a4≠pn∧a7≠pn∧a10≠pn∧d≠pn∧ab≠pn∧a4≠ab∧a7≠ab∧d≠ab):
  Ct P0 E F K 198 [.ptr a7 0,.ptr a10 0,.ptr a4 0] h fun v h'=>Bk h' pn ((c.set o (.slc ab 0 n (Aa+1))).set (o+1) (.int .i64 ((if D.byt=n then 2 else 3:Nat):Int)))∧BS h' ab 0 (Td D.byt all)∧Kp (fun b=>b=pn∨b=ab) h h':=by
 obtain⟨n1,n2,n3,n4,n5,n6,n7,n8⟩:=hne
 have l1:=hp1.lt
 have l2:=hb.lt_n
 obtain⟨cc,q1,q2,q3⟩:=hb.ex
 refine B0 L X.f198 X.k198 rfl rfl fun Q x cs G=>?_
 refine wk ?_
 have key: ∀h1,Kp (fun b=>b=pn∨b=ab) h h1→Bk h1 pn ((c.set o (.slc ab 0 n (Aa+1))).set (o+1) (.int .i64 ((if D.byt=n then 2 else 3:Nat):Int)))→
   (∃c2,Bk h1 ab c2∧n≤c2.length∧ ∀m,m<n→c2[m]?=some (.int .u8 ((if D.byt≤m∧m<D.byt+(n - D.byt)then 255 else all.getD m 0:Nat):Int)))→
   GO P0 E Q (finish (single []) cs h1 x):=by
  rintro h1 hk hp2 ⟨c2,r1,r2,r3⟩
  refine G _ _ ⟨hp2,⟨⟨c2,r1,by rw [Ib _ _ (by omega)];omega,fun m hm=>?_⟩,fun m hm=>?_⟩,hk⟩
  ·rw [Ib _ _ (by omega)]at hm
   rw [Nat.zero_add,r3 m (by omega),Te _ _ (by omega) _ hm]
   by_cases e2:D.byt≤m
   ·rw [if_pos e2,if_pos (by omega)]
   ·rw [if_neg e2,if_neg (by omega)]
  ·rw [Ib _ _ (by omega)]at hm
   rw [Te _ _ (by omega) _ hm]
   split
   ·omega
   ·exact hb.lt m hm
 have cell: ∀(i:Nat) (c2:List AV),i<n - D.byt→n≤c2.length→(∀m,m<n→c2[m]?=some (.int .u8 ((if D.byt≤m∧m<D.byt+i then 255 else all.getD m 0:Nat):Int)))→
   ∀m,m<n→(c2.set (D.byt+i) (.int .u8 ((255:Nat):Int)))[m]?=some (.int .u8 ((if D.byt≤m∧m<D.byt+(i+1)then 255 else all.getD m 0:Nat):Int)):=by
  intro i c2 hi r2 r3 m hm
  by_cases e:m=D.byt+i
  ·subst e
   rw [List.getElem?_set_self (by omega),if_pos (by omega)]
  ·rw [List.getElem?_set_ne (by omega),r3 m hm]
   by_cases e2:D.byt≤m∧m<D.byt+i
   ·rw [if_pos e2,if_pos (by omega)]
   ·rw [if_neg e2,if_neg (by omega)]
 have e0: ∀m,m<n→cc[m]?=some (.int .u8 ((if D.byt≤m∧m<D.byt+0 then 255 else all.getD m 0:Nat):Int)):=fun m hm=>by
  rw [if_neg (by omega)];simpa using q3 m (by omega)
 by_cases hc:D.byt=n
 case' pos=>
  have hlen:o+1<((c.set o (.slc ab 0 n (Aa+1))).set (o+1) (.int .i64 ((3:Nat):Int))).length:=by rw [List.length_set,List.length_set];exact ho
  refine wk ?_
 case' neg=>
  refine wk ?_
 all_goals
  refine Cr L (α:= Unit) (T:=fun i _=> [(26,some (.int .i64 ((i:Nat):Int))),(25,some (.int .i64 ((n - D.byt:Nat):Int))),(0,some (.ptr a7 0)),(2,some (.ptr a4 0))]) (n:=n - D.byt)
   (R:=fun i _ h2=>(∃c2,Bk h2 ab c2∧n≤c2.length∧ ∀m,m<n→c2[m]?=some (.int .u8 ((if D.byt≤m∧m<D.byt+i then 255 else all.getD m 0:Nat):Int)))∧Bk h2 pn ((c.set o (.slc ab 0 n (Aa+1))).set (o+1) (.int .i64 ((if D.byt=n then 2 else 3:Nat):Int)))∧Kp (fun b=>b=pn∨b=ab) h h2) (i0:=0) () tsb
   ⟨⟨cc,lkp,by omega,e0⟩,?_,Kp.st (.inr (.inl rfl)) (by first|exact .refl _|exact Kp.st (.inr (.inl rfl)) (.refl _))⟩ (Nat.zero_le _) ?_ ?_
  ·first
    |(rw [if_pos hc];exact Om (List.set_set _) lkp)
    |(rw [if_neg hc];exact lkp)
  ·rintro i _ h2 hi ⟨⟨c2,r1,r2,r3⟩,r4,r5⟩ ih
   have hlen2:D.byt+i<c2.length:=by omega
   refine wk ?_
   exact ih () _ _ ⟨⟨_,lkp,by rw [List.length_set];exact r2,cell i c2 hi r2 r3⟩,lkp,Kp.st (.inr (.inr rfl)) r5⟩ tsb
  ·rintro _ h2 ⟨r1,r4,r5⟩
   refine wk ?_
   first
    |(refine qh L X.f198 rfl ?_;exact key _ r5 r4 r1)
end
end
section
variable {P0:Program}{E:Env}{F:T CFn}{K:T (List AV×AV)}(L:Lg P0 E F K)(X:Fx F K)
include L X
omit L X in
def pcl (ab:Nat)(p:Pg):AV:=if p.st=4 then .nils else .slc ab 0 p.b.length (Aa+1)
omit L X in
theorem DevC.setPage {κ: Nat→Nat}{h h':H}{d fm bb i pn ab:Nat}{D D':Dv}{cb c:List AV}{p:Pg}(q:DevC κ h d D fm bb cb)(hi:i<D.nb)(hr:BlR κ h D.P i (D.bl i) cb pn c)(hj:(D.bl i).nx<D.P)(hs:p.st=2∨p.st=3∨p.st=4)
  (hnb:D'.nb=D.nb) (hP:D'.P=D.P) (hfl:D'.flt=D.flt) (hbl:D'.bl=upd D.bl i ⟨upd (D.bl i).pg (D.bl i).nx p,(D.bl i).nx+1,(D.bl i).er⟩)
  (k:Kp (fun j=>j=d∨j=bb∨j=pn) h h') (dk:Bk h' d (dvC D' fm bb)) (bk:Bk h' bb (cb.set (i*3+1) (.int .i64 (((D.bl i).nx+1:Nat):Int))))
  (rk:Bk h' pn ((c.set ((D.bl i).nx*2) (pcl ab p)).set ((D.bl i).nx*2+1) (.int .i64 ((p.st:Nat):Int)))) (ak:BS h' ab 0 p.b) (hab:h.n≤ab): ∃κ' cb',DevC κ' h' d D' fm bb cb'∧Ch κ h κ' h':=by
 have b1:=q.dk.lt
 have b2:=q.bk.lt
 have b3:=q.fk.lt
 have b4:=hr.row.k.lt
 have l:=q.blen
 have lc:=hr.row.len
 have c1:=q.dcol
 have c2:=q.bcol
 have c3:=q.fcol
 have c4:=hr.row.col
 have nb:=q.nb
 have hch:Ch κ h (upd κ ab 0) h':=⟨k.mono fun j hj=>by rcases hj with e|e|e <;> subst e <;> omega,fun b hb=>upd_ne _ _ (by omega)⟩
 refine⟨upd κ ab 0,_,⟨dk,(upd_ne _ _ (by omega)).trans c1,by rw [hfl];exact q.fk.kp k (by intro e;rcases e with e|e|e <;> subst e <;> omega),(upd_ne _ _ (by omega)).trans c3,bk,(upd_ne _ _ (by omega)).trans c2,?_,by rw [hnb];exact q.nb,fun j hj=>?_⟩,hch⟩
 ·rw [List.length_set,hnb];exact l
 ·rw [hnb]at hj
  by_cases e:j=i
  ·subst e
   rw [hP,hbl,upd_eq]
   refine⟨pn,_,?_,?_,?_,rk,(upd_ne _ _ (by omega)).trans c4,by rw [List.length_set,List.length_set];exact lc,fun m hm=>?_⟩
   ·rw [List.getElem?_set_ne (by omega)];exact hr.c0
   ·rw [List.getElem?_set_self (by omega)]
   ·rw [List.getElem?_set_ne (by omega)];exact hr.c2
   ·by_cases em:m=(D.bl j).nx
    ·subst em
     show PgR _ _ _ _ (upd (D.bl j).pg (D.bl j).nx p (D.bl j).nx)
     rw [upd_eq]
     refine⟨?_,fun h1 h2=>?_,fun h1=>⟨ab,?_,upd_eq _ _ _,ak⟩⟩
     ·rw [List.getElem?_set_self (by rw [List.length_set];omega)]
     ·rw [List.getElem?_set_ne (by omega),List.getElem?_set_self (by omega)];unfold pcl;rw [if_pos (by omega)]
     ·rw [List.getElem?_set_ne (by omega),List.getElem?_set_self (by omega)];unfold pcl;rw [if_neg (by omega)]
    ·show PgR _ _ _ _ (upd (D.bl j).pg (D.bl j).nx p m)
     rw [upd_ne _ _ em]
     have h5:=(hr.row.pg m hm).fw hch.fw
     refine⟨?_,fun h1 h2=>?_,fun h1=>?_⟩
     ·rw [List.getElem?_set_ne (by omega),List.getElem?_set_ne (by omega)];exact h5.st
     ·rw [List.getElem?_set_ne (by omega),List.getElem?_set_ne (by omega)];exact h5.none h1 h2
     ·rw [List.getElem?_set_ne (by omega),List.getElem?_set_ne (by omega)];exact h5.full h1
  ·obtain⟨pm,c',hr'⟩:=q.rows j hj
   have h7:=hr'.row.col
   have h8:=hr'.fw hch.fw (k.old pm hr'.row.k.lt (by intro e;rcases e with e|e|e <;> subst e <;> omega))
   rw [hP,hbl,upd_ne _ _ e]
   refine⟨pm,c',?_,?_,?_,h8.row⟩
   ·rw [List.getElem?_set_ne (by omega)];exact h8.c0
   ·rw [List.getElem?_set_ne (by omega)];exact h8.c1
   ·rw [List.getElem?_set_ne (by omega)];exact h8.c2
omit L X in
theorem Dv.Ok.setPage {D D':Dv}{i:Nat}{p:Pg}(q:D.Ok)(hi:i<D.nb)(hj:(D.bl i).nx<D.P)(hs:p.st=2∨p.st=3∨p.st=4)(hl:p.st≠4→p.b.length=D.sz+64)(hl4:p.st=4→p.b= [])(hg:D'.nb=D.nb∧D'.P=D.P∧D'.sz=D.sz∧D'.en=D.en)(hn:D'.n<100000)(hb:D'.byt=D.byt)(hc:D'.cut=D.cut)
  (hbl:D'.bl=upd D.bl i ⟨upd (D.bl i).pg (D.bl i).nx p,(D.bl i).nx+1,(D.bl i).er⟩):D'.Ok:=by
 obtain⟨g1,g2,g3,g4⟩:=hg
 refine⟨⟨by rw [g1];exact q.g.nb,by rw [g2];exact q.g.P,by rw [g3];exact q.g.sz,by rw [g4];exact q.g.en⟩,hn,by rw [hb,g3];exact q.byt,by rw [hc];exact q.cut,fun j hj2=>?_⟩
 rw [g1]at hj2
 rw [hbl]
 by_cases e:j=i
 ·subst e
  rw [upd_eq]
  have h1:=q.bl j hj2
  refine⟨by rw [g2];exact hj,fun m hm=>?_,fun m h2 h3=>?_,fun m hm=>?_,by rw [g4];exact h1.er⟩
  ·show(upd (D.bl j).pg (D.bl j).nx p m).st≠1
   by_cases em:m=(D.bl j).nx
   ·subst em;rw [upd_eq];omega
   ·rw [upd_ne _ _ em];exact h1.lo m (by have:m<(D.bl j).nx+1:=hm;omega)
  ·have h2':(D.bl j).nx+1≤m:=h2
   show(upd (D.bl j).pg (D.bl j).nx p m).st=1
   rw [upd_ne _ _ (by omega)]
   exact h1.hi m (by omega) (by rw [g2]at h3;exact h3)
  ·rw [g2]at hm
   show(upd (D.bl j).pg (D.bl j).nx p m).Ok D'.sz
   rw [g3]
   by_cases em:m=(D.bl j).nx
   ·subst em;rw [upd_eq];exact⟨fun h8=>hl (by omega),fun a b=>hl4 (by omega),by omega⟩
   ·rw [upd_ne _ _ em];exact h1.pg m hm
 ·rw [upd_ne _ _ e]
  have h1:=q.bl j hj2
  exact⟨by rw [g2];exact h1.nx,h1.lo,by rw [g2];exact h1.hi,by rw [g2,g3];exact h1.pg,by rw [g4];exact h1.er⟩
def Dv.pgW (D:Dv)(all:List Nat):Pg:=if(D.n:Int)=D.cut then⟨if D.byt=all.length then 2 else 3,Td D.byt all⟩else if D.flt D.n=true then⟨4,[]⟩else⟨2,all⟩
def Dv.wr (D:Dv)(i:Nat)(all:List Nat):Dv:=
 {D with bl:=upd D.bl i ⟨upd (D.bl i).pg (D.bl i).nx (D.pgW all),(D.bl i).nx+1,(D.bl i).er⟩,n:=D.n+1,off:=D.off || decide ((D.n:Int)=D.cut)}
def Dv.prog (D:Dv)(i:Int)(all:List Nat):Dv×Nat:=
 if 0≤i∧i<D.nb∧(D.bl i.toNat).nx<D.P then
  if D.off=true then(D,50)
  else(D.wr i.toNat all,if(D.n:Int)=D.cut then 50 else if D.flt D.n=true then 54 else 0)
 else(D,2)
omit L X in
theorem Dv.pgW_st (D:Dv)(all:List Nat):(D.pgW all).st=2∨(D.pgW all).st=3∨(D.pgW all).st=4:=by
 unfold Dv.pgW
 split
 ·show(if D.byt=all.length then 2 else 3)=2∨(if D.byt=all.length then 2 else 3)=3∨_
  split
  ·exact .inl rfl
  ·exact .inr (.inl rfl)
 ·split
  ·exact .inr (.inr rfl)
  ·exact .inl rfl
omit L X in
theorem Dv.pgW_len (D:Dv)(all:List Nat)(h:D.byt≤all.length)(h4:(D.pgW all).st≠4):(D.pgW all).b.length=all.length:=by
 unfold Dv.pgW at*
 split
 ·exact Ib _ _ h
 ·rename_i h1
  rw [if_neg h1]at h4
  split
  ·rename_i h2
   rw [if_pos h2]at h4
   exact absurd rfl h4
  ·rfl
omit L X in
theorem Dv.pgW_4 (D:Dv)(all:List Nat)(h4:(D.pgW all).st=4):(D.pgW all).b= []:=by
 unfold Dv.pgW at*
 split
 ·rename_i h1
  rw [if_pos h1]at h4
  have:(if D.byt=all.length then 2 else 3)=4:=h4
  split at this <;> omega
 ·rename_i h1
  rw [if_neg h1]at h4
  split
  ·rfl
  ·rename_i h2
   rw [if_neg h2]at h4
   exact absurd h4 (by show¬2=4;omega)
theorem U4 {κ: Nat→Nat}{h:H}{d fm bb i pn ab n:Nat}{D:Dv}{cb c:List AV}{all:List Nat}(q:DevC κ h d D fm bb cb)(ok:D.Ok)(hn:D.n+1<100000)(hi:i<D.nb)(hr:BlR κ h D.P i (D.bl i) cb pn c)(hj:(D.bl i).nx<D.P)(hoff:D.off=false)
  (hb:BS h ab 0 all) (hl:all.length=n) (hln:n=D.sz+64) (hcol:κ ab=0):
  Ct P0 E F K 174 [.ptr d 0,.int .i64 ((i:Nat):Int),.int .i64 (((D.bl i).nx:Nat):Int),.slc ab 0 n (Aa+1)] h fun v h'=>v= .int .i64 ((if(D.n:Int)=D.cut then 50 else if D.flt D.n=true then 54 else 0:Nat):Int)∧
   Bk h' d (dvC (D.wr i all) fm bb)∧Bk h' bb (cb.set (i*3+1) (.int .i64 (((D.bl i).nx+1:Nat):Int)))∧
   Bk h' pn ((c.set ((D.bl i).nx*2) (pcl ab (D.pgW all))).set ((D.bl i).nx*2+1) (.int .i64 (((D.pgW all).st:Nat):Int)))∧BS h' ab 0 (D.pgW all).b∧Kp (fun b=>b=d∨b=bb∨b=pn∨b=ab) h h':=by
 have b1:=q.dk.lt
 have b2:=q.bk.lt
 have b3:=q.fk.lt
 have b4:=hr.row.k.lt
 have b5:=hb.lt_n
 have l:=q.blen
 have lc:=hr.row.len
 have c1:=q.dcol
 have c2:=q.bcol
 have c3:=q.fcol
 have c4:=hr.row.col
 have hP:=ok.g.P
 have hsz:=ok.g.sz
 have hby:=ok.byt
 have hdk:=q.dk
 have hbk:=q.bk
 have hfk:=q.fk
 have hpk:=hr.row.k
 have hc0:=hr.c0
 have hc1:=hr.c1
 have hdb:d≠bb:=fun e=>by rw [e]at c1;omega
 have hdp:d≠pn:=fun e=>by rw [e]at c1;omega
 have hbp:bb≠pn:=fun e=>by rw [e]at c2;omega
 have hda:d≠ab:=fun e=>by rw [e]at c1;omega
 have hba:bb≠ab:=fun e=>by rw [e]at c2;omega
 have hpa:ab≠pn:=fun e=>by rw [e]at hcol;omega
 have hdf:fm≠d:=fun e=>by rw [e]at c3;omega
 have hbf:fm≠bb:=fun e=>by rw [e]at c3;omega
 have l1:i*3+1<cb.length:=by omega
 have l2:(D.bl i).nx*2+1<c.length:=by omega
 have hc0':(cb.set (i*3+1) (.int .i64 (((D.bl i).nx+1:Nat):Int)))[i*3+0]?=some (.slc pn 0 D.P D.P):=by rw [List.getElem?_set_ne (by omega)];exact hc0
 refine uj L X.f174 X.k174 rfl rfl fun Q x cs G=>?_
 refine wk ?_
 by_cases hc:(D.n:Int)=D.cut
 ·refine cal (c:=Mm L X lkp (by omega) hc fun h2 k1 k2=>ga L X (h:=h2) (a7:=h.n+1) (a10:=h.n+1+1) (a4:=h.n) lkp lkp lkp k1 lkp l2 lkb hl (by omega) (by show D.byt≤n;omega) ⟨by omega,by omega,by omega,hdp,hpa,by omega,by omega,hda⟩) (g:=?_)
  rintro _ h2 ⟨rfl,h1,u,r1,r2,r3,r4,r5⟩
  refine wk ?_
  refine ret X.f174 ?_
  have e1:D.pgW all=⟨if D.byt=all.length then 2 else 3,Td D.byt all⟩:=if_pos hc
  have e2:dvC (D.wr i all) fm bb=dvC {D with n:=D.n+1,off:=true} fm bb:=by
   unfold dvC Dv.wr;rw [decide_eq_true hc,Bool.or_true]
  have e3:pcl ab (D.pgW all)= .slc ab 0 n (Aa+1):=by
   unfold pcl;rw [e1,if_neg (by show¬(if D.byt=all.length then 2 else 3)=4;split <;> omega)];show AV.slc ab 0 (Td D.byt all).length _=_;rw [Ib _ _ (by omega),hl]
  rw [if_pos hc,e3,e1,e2,hl]
  exact⟨rfl,lkp,lkp,r3,r4,Kp.trS r5 (fun _ _ e=> .inr (.inr e)) (Kp.trS r2 (fun _ _ e=> .inl e) kps)⟩
 ·have e2:dvC (D.wr i all) fm bb=dvC {D with n:=D.n+1} fm bb:=by
   unfold dvC Dv.wr;rw [decide_eq_false hc,Bool.or_false]
  cases hq:D.flt D.n with
  |true=>
   refine cal (c:=Mo L X lkp (hfk.kp (S:=fun j=>j=bb) kps hbf) hdf (by omega) hc hq fun h2 k1 k2=>f0 L X (h:=h2) (a10:=h.n+1+1) lkp lkp l2) (g:=?_)
   rintro _ h2 ⟨rfl,h1,u,r1,r2,r3,r5⟩
   refine wk ?_
   refine ret X.f174 ?_
   have e1:D.pgW all=⟨4,[]⟩:=by unfold Dv.pgW;rw [if_neg hc,if_pos hq]
   have e3:pcl ab (D.pgW all)= .nils:=by unfold pcl;rw [e1,if_pos rfl]
   obtain⟨cc,q1,q2,q3⟩:=hb.ex
   rw [if_neg hc,if_pos hq,e3,e1,e2]
   exact⟨rfl,lkp,lkp,r3,⟨⟨cc,lkp,(by simp),fun i hi=>absurd hi (Nat.not_lt_zero i)⟩,fun i hi=>absurd hi (Nat.not_lt_zero i)⟩,Kp.trS r5 (fun _ _ e=> .inr (.inr (.inl e))) (Kp.trS r2 (fun _ _ e=> .inl e) kps)⟩
  |false=>
   refine cal (c:=Mn L X lkp (hfk.kp (S:=fun j=>j=bb) kps hbf) hdf (by omega) hc hq fun h2 k1 k2=>fz L X (h:=h2) (a7:=h.n+1) (a10:=h.n+1+1) lkp lkp lkp l2) (g:=?_)
   rintro _ h2 ⟨rfl,h1,u,r1,r2,r3,r5⟩
   refine wk ?_
   refine ret X.f174 ?_
   have e1:D.pgW all=⟨2,all⟩:=by unfold Dv.pgW;rw [if_neg hc,if_neg (by rw [hq];simp)]
   have e3:pcl ab (D.pgW all)= .slc ab 0 n (Aa+1):=by unfold pcl;rw [e1,if_neg (by show¬2=4;omega),←hl]
   rw [if_neg hc,if_neg (by rw [hq];simp),e3,e1,e2]
   exact⟨rfl,lkp,lkp,r3,lkb,Kp.trS r5 (fun _ _ e=> .inr (.inr (.inl e))) (Kp.trS r2 (fun _ _ e=> .inl e) kps)⟩
end
section
variable {P0:Program}{E:Env}{F:T CFn}{K:T (List AV×AV)}(L:Lg P0 E F K)(X:Fx F K)
include L X
theorem Mp {κ: Nat→Nat}{h:H}{d b1 o1 c1 b2 o2 c2 p:Nat}{D:Dv}{i:Int}{data extra:List Nat}(r:DevR κ h d D)(hn:D.n+1<100000)(hp1:0≤i∧i<D.nb→p=(D.bl i.toNat).nx)(k1:BS h b1 o1 data)(k2:BS h b2 o2 extra)(e1:data.length=D.sz)(e2:extra.length=64):
  Ct P0 E F K 147 [.ptr d 0,.int .i64 i,.int .i64 ((p:Nat):Int),.slc b1 o1 D.sz c1,.slc b2 o2 64 c2] h fun v h'=>v= .int .i64 (((D.prog i (data++extra)).2:Nat):Int)∧ ∃κ',DevR κ' h' d (D.prog i (data++extra)).1∧Ch κ h κ' h':=by
 obtain⟨ok,fm,bb,cb,q⟩:=r
 have hd:=q.dk
 have gsz:=ok.g.sz
 refine Jg L X.f147 X.k147 rfl rfl fun Q x cs G=>?_
 refine wk ?_
 refine cal (c:=F3 L X hd) (g:=?_)
 rintro _ rfl
 refine wk ?_
 refine cal (c:=Jk L X hd) (g:=?_)
 rintro _ rfl
 by_cases hi:(0≤i∧i<D.nb)∧0≤(p:Int)∧(p:Int)<D.P
 ·rw [decide_eq_true hi]
  obtain⟨hi1,hi2,hi3⟩:=hi
  have hpe:=hp1 hi1
  have hcond:0≤i∧i<D.nb∧(D.bl i.toNat).nx<D.P:=⟨hi1.1,hi1.2,by omega⟩
  cases hoff:D.off with
  |true=>
   have e0:D.prog i (data++extra)=(D,50):=by unfold Dv.prog;rw [if_pos hcond,if_pos hoff]
   unfold dvC dvL at hd
   rw [hoff]at hd
   refine wk ?_
   refine ret X.f147 ?_
   rw [e0]
   exact⟨rfl,κ,⟨ok,fm,bb,cb,q⟩,.refl _ _⟩
  |false=>
   unfold dvC dvL at hd
   rw [hoff]at hd
   obtain⟨j,rfl⟩: ∃j:Nat,i=j:=⟨i.toNat,by omega⟩
   rw [Int.toNat_natCast]at hpe hcond
   have hj:j<D.nb:=by omega
   obtain⟨pn,c,hr⟩:=q.rows j hj
   have hc1:=hr.c1
   have hbk:=q.bk
   subst hpe
   have e0:D.prog j (data++extra)=(D.wr j (data++extra),if(D.n:Int)=D.cut then 50 else if D.flt D.n=true then 54 else 0):=by unfold Dv.prog;rw [Int.toNat_natCast,if_pos hcond,if_neg (by rw [hoff];simp)]
   have l1:=k1.lt_n
   have l2:=k2.lt_n
   refine wk ?_
   refine cal (c:=Lm L X (b1:=b1) (o1:=o1) (n1:=D.sz) (c1:=c1) (b2:=b2) (o2:=o2) (n2:=64) (c2:=c2) (bs1:=data) (bs2:=extra) lkp lkb lkb e1 e2 (by omega) (by omega)) (g:=?_)
   rintro _ h1 ⟨ab,rfl,w1,w2,w3⟩
   simp only [Al]at w2
   have n1:=w3.n
   simp only [Al]at n1
   have w3':K0 h h1:=Kp.tr0 w3 kps
   have hch:Ch κ h (upd κ ab 0) h1:=⟨w3'.mono fun _ e=>e.elim,fun b hb=>upd_ne _ _ (by omega)⟩
   have q1:DevC (upd κ ab 0) h1 d D fm bb cb:=by
    have hk:Kp (fun _=>False) h h1:=w3'
    exact⟨Ah hk q.dk,(upd_ne _ _ (by have:=q.dk.lt;omega)).trans q.dcol,q.fk.k0 hk,(upd_ne _ _ (by have:=q.fk.lt;omega)).trans q.fcol,Ah hk q.bk,(upd_ne _ _ (by have:=q.bk.lt;omega)).trans q.bcol,q.blen,q.nb,
     fun i hi=>let⟨pn,c,h1⟩:=q.rows i hi;⟨pn,c,h1.fw hch.fw (hk.old pn h1.row.k.lt fun f=>f)⟩⟩
   have hr1:BlR (upd κ ab 0) h1 D.P j (D.bl j) cb pn c:=hr.fw hch.fw (w3'.old pn hr.row.k.lt fun f=>f)
   refine wk ?_
   refine cal (c:=U4 L X (n:=D.sz+64) q1 ok hn hj hr1 hcond.2.2 hoff w1 (by rw [List.length_append];omega) rfl (upd_eq _ _ _)) (g:=?_)
   rintro _ h2 ⟨rfl,u1,u2,u3,u4,u5⟩
   refine wk ?_
   refine ret X.f147 ?_
   rw [e0]
   refine⟨rfl,?_⟩
   have hal:(data++extra).length=D.sz+64:=by rw [List.length_append];omega
   have hby:=ok.byt
   have hpl:=D.pgW_len (data++extra) (by omega)
   obtain⟨κ',cb',z1,z2⟩:=q.setPage (D':=D.wr j (data++extra)) (p:=D.pgW (data++extra)) (ab:=ab) hj hr (by omega) (D.pgW_st _) rfl rfl rfl rfl (k:=Kp.trS u5 (fun i hi e=>by rcases e with e|e|e|e <;> first|exact .inl e|exact .inr (.inl e)|exact .inr (.inr e)|omega) (w3'.mono fun _ e=>e.elim)) u1 u2 u3 u4 (by omega)
   exact⟨κ',⟨ok.setPage (D':=D.wr j (data++extra)) (p:=D.pgW (data++extra)) hj (by omega) (D.pgW_st _) (fun h8=>by rw [hpl h8,hal]) (D.pgW_4 _) ⟨rfl,rfl,rfl,rfl⟩ hn rfl rfl rfl,_,_,_,z1⟩,z2⟩
 ·rw [decide_eq_false hi]
  have e0:D.prog i (data++extra)=(D,2):=by
   unfold Dv.prog
   rw [if_neg]
   rintro⟨a1,a2,a3⟩
   have:=hp1 ⟨a1,a2⟩
   exact hi ⟨⟨a1,a2⟩,by omega,by omega⟩
  refine wk ?_
  refine ret X.f147 ?_
  rw [e0]
  exact⟨rfl,κ,⟨ok,fm,bb,cb,q⟩,.refl _ _⟩
end
section
variable {P0:Program}{E:Env}{F:T CFn}{K:T (List AV×AV)}(L:Lg P0 E F K)(X:Fx F K)
include L X
theorem O1 {h:H}{b o n c:Nat}{bs:List Nat}(k:BS h b o bs)(e:bs.length=n)(h1:0<n∧n<1000):Ct P0 E F K 63 [.slc b o n c] h fun v h'=> ∃b',v= .slc b' 0 n (Aa+1)∧BS h' b' 0 bs∧h.n≤b'∧K0 h h':=by
 have a1:=k.all
 refine An L X.f63 X.k63 rfl rfl fun Q x cs G=>?_
 refine wk ?_
 have f1:BS (hp (h.n+1) h.t [(h.n,some (cl []))]) b o bs:=uu k
 (apply st1 L rfl;exact nv (b:=h.n) (o:=0) (sl:=0) (old:= []) rfl rfl (SlR.of (c:= []) lkp (by simp) rfl) (f1.slr e) h1.1 (by decide) (by omega);rfl)
 refine wk ?_
 refine ret X.f63 ?_
 refine⟨h.n+1,by rw [Nat.zero_add];rfl,Ga a1,by omega,kps⟩
theorem ge {κ: Nat→Nat}{h:H}{d i j:Nat}{D:Dv}(r:DevR κ h d D)(hi:i<D.nb)(hj:j<(D.bl i).nx)(hoff:D.off=false)(hs:((D.bl i).pg j).st=2∨((D.bl i).pg j).st=3):
  Ct P0 E F K 23 [.ptr d 0,.int .i64 ((i:Nat):Int),.int .i64 ((j:Nat):Int)] h fun v h'=> ∃b1 b2,v= .tup [.slc b1 0 D.sz (Aa+1),.slc b2 0 64 (Aa+1),.int .i64 ((0:Nat):Int)]∧BS h' b1 0 (((D.bl i).pg j).b.take D.sz)∧BS h' b2 0 (((D.bl i).pg j).b.drop D.sz)∧h.n≤b1∧h.n≤b2∧K0 h h':=by
 obtain⟨ok,fm,bb,cb,q⟩:=r
 have hd:=q.dk
 have hbk:=q.bk
 obtain⟨pn,c,hr⟩:=q.rows i hi
 have hnx:=(ok.bl i hi).nx
 have hpg:=(ok.bl i hi).pg j (by omega)
 have hP:=ok.g.P
 have hsz:=ok.g.sz
 have hpk:=hr.row.k
 have hc0:=hr.c0
 have hc0':cb[i*3+0]?=some (.slc pn 0 D.P D.P):=hc0
 have hp1:=(hr.row.pg j (by omega)).st
 obtain⟨ab,hp0,hcol,hab⟩:=(hr.row.pg j (by omega)).full hs
 have hl:=hpg.full hs
 rw [hl]at hp0
 have l1:=hab.lt_n
 have l2:=hd.lt
 have l3:=hbk.lt
 have l4:=hpk.lt
 unfold dvC dvL at hd
 rw [hoff]at hd
 refine B0 L X.f23 X.k23 rfl rfl fun Q x cs G=>?_
 refine wk ?_
 refine cal (c:=F3 L X (D:= {D with off:=false}) hd) (g:=?_)
 rintro _ rfl
 refine wk ?_
 refine cal (c:=Jk L X (D:= {D with off:=false}) hd) (g:=?_)
 rintro _ rfl
 rw [decide_eq_true (show(0≤(i:Int)∧(i:Int)<D.nb)∧0≤(j:Int)∧(j:Int)<D.P by omega)]
 refine wk ?_
 have f1:BS (hp (h.n+1) h.t [(h.n,some (cl [.slc ab 0 (D.sz+64) (Aa+1),.int .i64 ((((D.bl i).pg j).st:Nat):Int)])),(h.n,some (cl [.nils,.int .i64 ((0:Nat):Int)]))]) ab (0+0) ((((D.bl i).pg j).b.drop 0).take D.sz):=BS.part (k:=by exact lkb) (by omega)
 refine cal (c:=O1 L X f1 (by rw [List.length_take,List.length_drop];omega) (by omega)) (g:=?_)
 rintro _ h1 ⟨b1,rfl,w1,w2,w3⟩
 simp only [Al]at w2
 have n1:=w3.n
 simp only [Al]at n1
 refine wk ?_
 have f2:BS (hp h1.n h1.t []) ab (0+D.sz) ((((D.bl i).pg j).b.drop D.sz).take 64):=BS.part (k:=by exact lkb) (by omega)
 refine cal (c:=O1 L X f2 (by rw [List.length_take,List.length_drop];omega) (by omega)) (g:=?_)
 rintro _ h2 ⟨b2,rfl,w4,w5,w6⟩
 simp only [Al]at w5
 refine wk ?_
 refine ret X.f23 ?_
 refine⟨b1,b2,by rw [show D.sz+64 - D.sz=64 by omega];rfl,?_,?_,by omega,by omega,Kp.tr0 w6 (Kp.tr0 w3 kps)⟩
 ·exact w1.k0 w6
 ·rwa [List.take_of_length_le (by rw [List.length_drop];omega)]at w4
end
end Go.Ev
