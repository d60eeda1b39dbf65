/- Part of the proof. -/
import Derived.Test.YtgkianlpkdfhkaaGreatQ14
import Derived.Test.YtgkianlpkdfhkaaGreatQ12
import Derived.Test.YtgkianlpkdfhkaaGreatQ09
import Derived.Test.YtgkianlpkdfhkaaGreatQ10
import Derived.Test.YtgkianlpkdfhkaaGreatQ11
set_option linter.unusedVariables false
set_option linter.unusedSectionVars false
set_option linter.unusedSimpArgs false
set_option maxRecDepth 10000
set_option maxHeartbeats 4000000
namespace Go.Ev
section
variable {P0:Program}{E:Env}{F:T CFn}{K:T (List AV×AV)}(L:Lg P0 E F K)(X:Fx F K)
include L X
noncomputable def B9 (A:Int→Option Int)(p:Int):Int:= @dite Int (∃s,A s=some p) (Classical.propDecidable _) (fun h=>Classical.choose h) fun _=>0
omit L X in
theorem Fj {A:Int→Option Int}{p s:Int}(h:A s=some p)(inj: ∀s s' p,A s=some p→A s'=some p→s=s'):B9 A p=s:=by
 have hx: ∃s,A s=some p:=⟨s,h⟩
 unfold B9
 rw [dif_pos hx]
 exact inj _ _ p (Classical.choose_spec hx) h
noncomputable def Do (A:Int→Option Int)(P i j:Nat):List Int:=((List.range j).map fun k=>((i*P+k:Nat):Int)).filter (H0 A)
omit L X in
theorem Px (A:Int→Option Int)(P i j:Nat):Do A P i (j+1)=Do A P i j++if H0 A ((i*P+j:Nat):Int)=true then [((i*P+j:Nat):Int)]else []:=by
 unfold Do
 rw [List.range_succ,List.map_append,List.filter_append]
 congr 1
 show List.filter (H0 A) [((i*P+j:Nat):Int)]=_
 by_cases h:H0 A ((i*P+j:Nat):Int)=true
 ·rw [if_pos h,List.filter_cons_of_pos h];rfl
 ·rw [if_neg h,List.filter_cons_of_neg h];rfl
omit L X in
theorem Jc (A:Int→Option Int)(P i:Nat): ∀j,(Do A P i j).length=Kx (fun k=>H0 A ((i*P+k:Nat):Int)) j
 |0=>rfl
 |j+1=>by
  rw [Px,List.length_append,Jc A P i j]
  simp only [Kx]
  by_cases h:H0 A ((i*P+j:Nat):Int)=true
  ·rw [if_pos h,if_pos h];rfl
  ·rw [if_neg h,if_neg h];rfl
section
variable {h:H}
theorem aj:Ct P0 E F K 103 [.nils,.nils] h fun v h'=>v= .fn (.func 144) [] [.ptr h.n 0,.ptr (h.n+1) 0]∧Bk h' h.n [.nils]∧Bk h' (h.n+1) [.nils]∧K0 h h':=by
 refine Ad L X.f103 X.k103 rfl rfl fun Q x cs G=>?_
 refine wk ?_
 refine ret X.f103 ?_
 exact⟨rfl,lkp,lkp,kps⟩
theorem am {a0 b0 k0 l0:Nat}:Ct P0 E F K 103 [.slc a0 0 k0 (Aa+1),.slc b0 0 l0 (Aa+1)] h fun v h'=>v= .fn (.func 144) [] [.ptr h.n 0,.ptr (h.n+1) 0]∧Bk h' h.n [.slc a0 0 k0 (Aa+1)]∧Bk h' (h.n+1) [.slc b0 0 l0 (Aa+1)]∧K0 h h':=by
 refine Ad L X.f103 X.k103 rfl rfl fun Q x cs G=>?_
 refine wk ?_
 refine ret X.f103 ?_
 exact⟨rfl,lkp,lkp,kps⟩
variable {S nb P m r1 r2 vb:Nat}{A:Int→Option Int}
theorem md (q:MpR S nb P h m r1 r2 vb A){s:Int}:Ct P0 E F K 91 [.ptr m 0,AI s] h fun v h'=>(v=match A s with|some p=> .tup [AI p,.bool true]|none=> .tup [AI ((0:Nat):Int),.bool false])∧h'=h:=by
 obtain⟨km,-,rg,nz,M1,M2,c1,c2,cv,k1,o1,k2,o2,kv,vl,vv,mr⟩:=q
 have ha:=mr.a1 s
 refine Ad L X.f91 X.k91 rfl rfl fun Q x cs G=>?_
 refine wk ?_
 (apply st1 L rfl;exact Dy (KE.int .i64) rfl rfl lkq;rfl)
 rw [ha]
 cases hA:A s with
 |none=>
  refine wk ?_
  refine ret X.f91 ?_
  refine⟨?_,rfl⟩;rw [hA];rfl
 |some p=>
  refine wk ?_
  refine ret X.f91 ?_
  refine⟨?_,rfl⟩;rw [hA];rfl
theorem Gg (q:MpR S nb P h m r1 r2 vb A):Ct P0 E F K 97 [.ptr m 0] h fun v h'=>v=AI ((S:Nat):Int)∧h'=h:=by
 have km:=q.km
 refine Al L X.f97 X.k97 rfl rfl fun Q x cs G=>?_
 refine wk ?_
 refine ret X.f97 ?_
 exact⟨rfl,rfl⟩
theorem G5 (q:MpR S nb P h m r1 r2 vb A){i:Nat}(hi:i<nb):Ct P0 E F K 25 [.ptr m 0,AI ((i:Nat):Int)] h fun v h'=>v=AI ((valA A P i:Nat):Int)∧h'=h:=by
 obtain⟨km,-,rg,nz,M1,M2,c1,c2,cv,k1,o1,k2,o2,kv,vl,vv,mr⟩:=q
 have hv:=vv i hi
 refine Ad L X.f25 X.k25 rfl rfl fun Q x cs G=>?_
 refine wk ?_
 refine ret X.f25 ?_
 exact⟨rfl,rfl⟩
theorem an (q:MpR S nb P h m r1 r2 vb A){i:Nat}(hi:i<nb):Ct P0 E F K 50 [.ptr m 0,AI ((i:Nat):Int)] h fun v h'=> ∃a b va vb',v= .fn (.func 144) [] [.ptr a 0,.ptr b 0]∧Bk h' a [va]∧Bk h' b [vb']∧RowN h' h.n va (Do A P i P)∧RowN h' h.n vb' ((Do A P i P).map (B9 A))∧K0 h h'∧h.n≤a∧h.n≤b:=by
 have q0:=q
 have inj:=q.inv.inj
 obtain⟨km,-,rg,nz,M1,M2,c1,c2,cv,k1,o1,k2,o2,kv,vl,vv,mr⟩:=q
 have l1:=km.lt
 have l3:=k2.lt
 have hlen:=Jc A P i P
 have hm:i*P≤12*6:=Nat.mul_le_mul (by omega) (by omega)
 have e1:(i+1)*P=i*P+P:=by rw [Nat.add_mul,Nat.one_mul]
 refine Ad L X.f50 X.k50 rfl rfl fun Q x cs G=>?_
 refine wk ?_
 refine cal (c:=G5 L X q0 hi) (g:=?_)
 rintro _ rfl
 by_cases hz:valA A P i=0
 ·have hD:Do A P i P= []:=List.length_eq_zero_iff.1 (by rw [hlen];exact hz)
  rw [hz]
  refine wk ?_
  refine cal (c:=aj L X) (g:=?_)
  rintro _ h3 ⟨rfl,u1,u2,u3⟩
  refine wk ?_
  refine ret X.f50 ?_
  rw [hD]
  exact⟨_,_,.nils,.nils,rfl,by exact lkp,by exact lkp,⟨.inl ⟨rfl,rfl⟩⟩,⟨.inl ⟨rfl,rfl⟩⟩,kps,by first|omega|(simp only [Am]at *;omega),by first|omega|(simp only [Am]at *;omega)⟩
 ·refine wk ?_
  refine Co L (α:= AV×AV) (T:=fun j s=> [(7,some (AI ((i*P+j:Nat):Int))),(5,some s.1),(6,some s.2),(1,some (AI ((i:Nat):Int))),(0,some (.ptr m 0))]) (n:=P)
   (R:=fun j s h3=>((Do A P i j= []∧s.1= .nils∧s.2= .nils)∨(0<(Do A P i j).length∧ ∃b c,s.1= .slc b 0 (Do A P i j).length (Aa+1)∧s.2= .slc c 0 (Do A P i j).length (Aa+1)∧Bk h3 b ((Do A P i j).map AI)∧Bk h3 c (((Do A P i j).map (B9 A)).map AI)∧b≠c∧h.n≤b∧h.n≤c))∧Kp (fun j=>h.n≤j) h h3) (i0:=0) (.nils,.nils) tsb ⟨.inl ⟨rfl,rfl,rfl⟩,kps⟩ (Nat.zero_le _) ?_ ?_
  ·rintro j ⟨sa,sb⟩ h3 hj ⟨u1,u2⟩ ih
   simp only at u1
   have n3:=u2.n
   have km3:=As u2 (by omega) km
   have k23:=Sc u2 (by omega) k2
   have hjl:=Jc A P i j
   have hcl:=No (fun k=>H0 A ((i*P+k:Nat):Int)) j
   have hs:=Px A P i j
   have e2:((i*P+j:Nat):Int)+((1:Nat):Int)=((i*P+(j+1):Nat):Int):=by omega
   generalize hp:Do A P i j=D at*
   refine wk ?_
   (apply st1 L rfl;exact Dy (KE.int .i64) rfl rfl lkq;rfl)
   cases hg:Bp M2 ((i*P+j:Nat):Int)with
   |none=>
    have hno:H0 A ((i*P+j:Nat):Int)=false:=hasP_f.2 fun⟨s,hs⟩=>by rw [mr.a2 s _ hs]at hg;cases hg
    rw [hno,if_neg (by simp),List.append_nil]at hs
    rw [hs]at ih
    refine wk ?_
    exact ih (sa,sb) _ _ ⟨u1,kps⟩ tsb
   |some u=>
    obtain⟨s,rfl,e3⟩:=mr.a3 _ u hg
    have hyes:H0 A ((i*P+j:Nat):Int)=true:=hasP_t.2 ⟨s,e3⟩
    rw [if_pos hyes]at hs
    rw [hs]at ih
    have hinv:B9 A ((i*P+j:Nat):Int)=s:=Fj e3 inj
    rcases u1 with⟨rfl,rfl,rfl⟩|⟨gn,b,c,rfl,rfl,g1,g2,g3,g4,g5⟩
    ·refine wk ?_
     (apply st1 L rfl;exact F0 (new:= [AI ((i*P+j:Nat):Int)]) rfl rfl (SlR.of (c:= [AI ((i*P+j:Nat):Int)]) lkp (Nat.le_refl _) rfl) (by omega) (by omega);rfl)
     refine wk ?_
     (apply st1 L rfl;exact F0 (new:= [AI s]) rfl rfl (SlR.of (c:= [AI s]) lkp (Nat.le_refl _) rfl) (by omega) (by omega);rfl)
     refine wk ?_
     refine ih (.slc (h3.n+1) 0 1 (Aa+1),.slc (h3.n+1+1+1) 0 1 (Aa+1)) _ _ ⟨.inr ⟨by simp,h3.n+1,h3.n+1+1+1,rfl,rfl,by exact lkp,?_,by omega,by omega,by omega⟩,kps⟩ tsb
     have e9:List.map AI (List.map (B9 A) ([]++ [((i*P+j:Nat):Int)]))= [AI s]:=by simp only [List.nil_append,List.map_cons,List.map_nil,hinv]
     rw [e9]
     exact lkp
    ·have t1:=g1.lt
     have t2:=g2.lt
     refine wk ?_
     (apply st1 L rfl;exact Fz (old:=D.map AI) (new:= [AI ((i*P+j:Nat):Int)]) rfl rfl (SlR.of (c:=D.map AI) lkp (by simp) (by rw [List.drop_zero,List.take_of_length_le (by simp)])) (SlR.of (c:= [AI ((i*P+j:Nat):Int)]) lkp (Nat.le_refl _) rfl) (by omega) (by omega) rfl;rfl)
     refine wk ?_
     (apply st1 L rfl;exact Fz (old:=(D.map (B9 A)).map AI) (new:= [AI s]) rfl rfl (SlR.of (c:=(D.map (B9 A)).map AI) lkp (by simp) (by rw [List.drop_zero,List.take_of_length_le (by simp)])) (SlR.of (c:= [AI s]) lkp (Nat.le_refl _) rfl) (by omega) (by omega) rfl;rfl)
     refine wk ?_
     refine ih (.slc (h3.n+1) 0 (D.length+1) (Aa+1),.slc (h3.n+1+1+1) 0 (D.length+1) (Aa+1)) _ _ ⟨.inr ⟨by simp,h3.n+1,h3.n+1+1+1,by simp,by simp,?_,?_,by omega,by omega,by omega⟩,kps⟩ tsb
     ·rw [List.map_append];exact lkp
     ·have e9:List.map AI (List.map (B9 A) [((i*P+j:Nat):Int)])= [AI s]:=by simp only [List.nil_append,List.map_cons,List.map_nil,hinv]
      rw [List.map_append,List.map_append,e9];exact lkp
  ·rintro⟨sa,sb⟩ h3 ⟨u1,u2⟩
   simp only at u1
   have n3:=u2.n
   have km3:=As u2 (by omega) km
   rcases u1 with⟨e0,-,-⟩|⟨gn,b,c,rfl,rfl,g1,g2,g3,g4,g5⟩
   ·rw [e0]at hlen;exact absurd hlen.symm hz
   ·refine wk ?_
    refine cal (c:=am L X (a0:=b) (b0:=c) (k0:=(Do A P i P).length) (l0:=(Do A P i P).length)) (g:=?_)
    rintro _ h4 ⟨rfl,w1,w2,w3⟩
    refine wk ?_
    refine ret X.f50 ?_
    refine⟨_,_,_,_,rfl,by exact lkp,by exact lkp,⟨.inr ⟨gn,b,rfl,by exact lkp,g4⟩⟩,⟨.inr ⟨by rw [List.length_map];exact gn,c,by rw [List.length_map],by exact lkp,g5⟩⟩,Kp.cut (Kp.tr0 w3 u2) (Nat.le_refl _),by simp only [Am]at *;omega,by simp only [Am]at *;omega⟩
end
end
section
variable {P0:Program}{E:Env}{F:T CFn}{K:T (List AV×AV)}(L:Lg P0 E F K)(X:Fx F K)
include L X
def H2 (f:Nat→Nat)(n:Nat):List AV:=(List.range n).map fun i=>AI ((f i:Nat):Int)
omit L X in
theorem Ky (f:Nat→Nat)(n:Nat):(H2 f n).length=n:=by simp [H2]
omit L X in
theorem Ui (f:Nat→Nat){n i:Nat}(hi:i<n):(H2 f n)[i]?=some (AI ((f i:Nat):Int)):=by simp [H2,hi]
omit L X in
theorem Lz (f:Nat→Nat)(n:Nat):H2 f (n+1)=H2 f n++ [AI ((f n:Nat):Int)]:=by simp [H2,List.range_succ]
omit L X in
theorem dt3 {c:List AV}{o:Nat}{u v w:AV}(h1:c[o]?=some u)(h2:c[o+1]?=some v)(h3:c[o+2]?=some w):o+3≤c.length∧(c.drop o).take 3= [u,v,w]:=by
 have l3:=(List.getElem?_eq_some_iff.1 h3).1
 refine⟨by omega,List.ext_getElem? fun i=>?_⟩
 rcases i with _|_|_|i
 ·rw [List.getElem?_take_of_lt (by omega),List.getElem?_drop];exact h1
 ·rw [List.getElem?_take_of_lt (by omega),List.getElem?_drop];exact h2
 ·rw [List.getElem?_take_of_lt (by omega),List.getElem?_drop];exact h3
 ·rw [List.getElem?_take_eq_none (by omega)];rfl
section
variable {h:H}
theorem me {pn P nx er:Nat}:Ct P0 E F K 161 [.agg [.slc pn 0 P P,AI ((nx:Nat):Int),AI ((er:Nat):Int)]] h fun v h'=>v=AI ((er:Nat):Int)∧K0 h h':=by
 refine Al L X.f161 X.k161 rfl rfl fun Q x cs G=>?_
 refine wk ?_
 refine ret X.f161 ?_
 exact⟨rfl,kps⟩
theorem ap {κ: Nat→Nat}{d fm bb:Nat}{D:Dv}{cb:List AV}(q:DevC κ h d D fm bb cb):Ct P0 E F K 160 [.slc bb 0 D.nb D.nb,.fn (.func 161) [] []] h fun v h'=>((D.nb=0∧v= .nils)∨ ∃b,v= .slc b 0 D.nb (Aa+1)∧Bk h' b (H2 (fun i=>(D.bl i).er) D.nb)∧h.n≤b)∧K0 h h':=by
 have hb:=q.bk
 have hl:=q.blen
 have hn:=q.nb
 have lb:=hb.lt
 refine Ad L X.f160 X.k160 rfl rfl fun Q x cs G=>?_
 refine wk ?_
 refine Co L (α:= AV) (T:=fun i v=> [(9,some (AI ((i:Nat):Int))),(8,some (AI ((D.nb:Nat):Int))),(7,some (.slc bb 0 D.nb D.nb)),(4,some v),(1,some (.fn (.func 161) [] []))]) (n:=D.nb)
  (R:=fun i v h3=>((i=0∧v= .nils)∨(0<i∧ ∃b,v= .slc b 0 i (Aa+1)∧Bk h3 b (H2 (fun i=>(D.bl i).er) i)∧h.n≤b))∧Kp (fun j=>h.n≤j) h h3) (i0:=0) .nils tsb ⟨.inl ⟨rfl,rfl⟩,kps⟩ (Nat.zero_le _) ?_ ?_
 ·rintro i v h3 hi ⟨u1,u2⟩ ih
  have hb3:=As u2 (by omega) hb
  have n3:=u2.n
  obtain⟨pn,c,hr⟩:=q.rows i hi
  have hdt:=dt3 hr.c0 hr.c1 hr.c2
  have hrl:=Ky (fun i=>(D.bl i).er) i
  refine wk ?_
  (apply st1 L rfl;exact Bs hb3.rk hdt rfl;rfl)
  refine wk ?_
  refine cal (c:=me L X) (g:=?_)
  rintro _ h4 ⟨rfl,w1⟩
  have n4:=w1.n
  simp only [Am]at n4
  rcases u1 with⟨rfl,rfl⟩|⟨hi0,b,rfl,g1,g2⟩
  ·refine wk ?_
   (apply st1 L rfl;exact F0 (new:= [AI (((D.bl 0).er:Nat):Int)]) rfl rfl (SlR.of (c:= [AI (((D.bl 0).er:Nat):Int)]) lkp (Nat.le_refl _) rfl) (by omega) (by omega);rfl)
   refine wk ?_
   refine ih (.slc (h4.n+1) 0 1 (Aa+1)) _ _ ⟨.inr ⟨by omega,h4.n+1,rfl,?_,by omega⟩,kps⟩ tsb
   exact lkp
  ·have t1:=g1.lt
   refine wk ?_
   (apply st1 L rfl;exact Fz (old:=H2 (fun i=>(D.bl i).er) i) (new:= [AI (((D.bl i).er:Nat):Int)]) rfl rfl (SlR.of (c:=H2 (fun i=>(D.bl i).er) i) lkp (by omega) (by rw [List.drop_zero,List.take_of_length_le (by omega)])) (SlR.of (c:= [AI (((D.bl i).er:Nat):Int)]) lkp (Nat.le_refl _) rfl) (by omega) (by omega) rfl;rfl)
   refine wk ?_
   refine ih (.slc (h4.n+1) 0 (i+1) (Aa+1)) _ _ ⟨.inr ⟨by omega,h4.n+1,rfl,?_,by omega⟩,kps⟩ tsb
   rw [Lz];exact lkp
 ·rintro v h3 ⟨u1,u2⟩
  have n3:=u2.n
  rcases u1 with⟨e,rfl⟩|⟨hi0,b,rfl,g1,g2⟩
  ·refine wk ?_
   refine ret X.f160 ?_
   exact⟨.inl ⟨e,rfl⟩,Kp.cut u2 (Nat.le_refl _)⟩
  ·refine wk ?_
   refine ret X.f160 ?_
   exact⟨.inr ⟨b,rfl,lkp,g2⟩,Kp.cut u2 (Nat.le_refl _)⟩
theorem sd {κ: Nat→Nat}{d fm bb:Nat}{D:Dv}{cb:List AV}(q:DevC κ h d D fm bb cb)(hnb:0<D.nb):Ct P0 E F K 132 [.ptr d 0] h fun v h'=> ∃a b,v= .fn (.func 162) [] [.ptr a 0]∧Bk h' a [.slc b 0 D.nb (Aa+1)]∧Bk h' b (H2 (fun i=>(D.bl i).er) D.nb)∧h.n≤a∧h.n≤b∧K0 h h':=by
 have hd:=q.dk
 refine Al L X.f132 X.k132 rfl rfl fun Q x cs G=>?_
 refine wk ?_
 refine cal (c:=Fg L X (D:=D) lkp) (g:=?_)
 rintro _ rfl
 unfold dvC dvL at hd
 have hk:K0 h (hp (h.n+1) h.t [(h.n,some (cl [.nils]))]):=kps
 have q2:DevC κ (hp (h.n+1) h.t [(h.n,some (cl [.nils]))]) d D fm bb cb:=q.kb (hk.mono fun _ f=>f.elim)
 refine wk ?_
 refine cal (c:=ap L X q2) (g:=?_)
 rintro _ h3 ⟨u1,u2⟩
 rcases u1 with⟨e,_⟩|⟨b,rfl,g1,g2⟩
 ·omega
 ·simp only [Am]at g2
  have n3:=u2.n
  simp only [Am]at n3
  refine wk ?_
  refine ret X.f132 ?_
  exact⟨h.n,b,rfl,lkp,lkp,Nat.le_refl _,by omega,kps⟩
theorem mf {lp a b nb:Nat}{f:Nat→Nat}(hnb:nb≤12)(I:Nat→H→Prop)
  (hI: ∀i hh,I i hh→Bk hh a [.slc b 0 nb (Aa+1)]∧Bk hh b (H2 f nb)) (hK: ∀i hh h',I i hh→K0 hh h'→I i h')
  (hY: ∀i hh,i<nb→I i hh→CtA P0 E F K (.yield lp) [AI ((i:Nat):Int),AI ((f i:Nat):Int)] hh fun u h'=>u= .bool true∧I (i+1) h') (h0:I 0 h):
  Ct P0 E F K 162 [.fn (.yield lp) [] [],.ptr a 0] h fun v h'=>I nb h':=by
 obtain⟨k1,k2⟩:=hI _ _ h0
 refine Ad L X.f162 X.k162 rfl rfl fun Q x cs G=>?_
 refine wk ?_
 refine Co L (α:= Unit) (T:=fun i _=> [(7,some (AI ((i:Nat):Int))),(6,some (AI ((nb:Nat):Int))),(5,some (.slc b 0 nb (Aa+1))),(0,some (.fn (.yield lp) [] []))]) (n:=nb)
  (R:=fun i _ hh=>I i hh) (i0:=0) () tsb (hK _ _ _ h0 kps) (Nat.zero_le _) ?_ ?_
 ·rintro i _ h2 hi w ih
  obtain⟨j1,j2⟩:=hI _ _ w
  have hx:=Ui f hi
  refine wk ?_
  refine Pj L rfl rfl rfl rfl rfl (hY i _ hi (hK i _ _ w (by exact kps))) ?_
  rintro _ h3 ⟨rfl,w3⟩
  refine wk ?_
  refine ih () _ _ w3 ?_;exact tsb
 ·rintro _ h2 w
  refine wk ?_
  refine ret X.f162 ?_
  exact w
end
end
section
variable {P0:Program}{E:Env}{F:T CFn}{K:T (List AV×AV)}(L:Lg P0 E F K)(X:Fx F K)
include L X
def cntS (ps:Nat→Nat)(s:Nat):Nat→Nat
 |0=>0
 |n+1=>cntS ps s n+if ps n=s then 1 else 0
omit L X in
theorem Gh (ps:Nat→Nat)(s:Nat): ∀n,cntS ps s n≤n
 |0=>Nat.le_refl _
 |n+1=>by have:=Gh ps s n;simp only [cntS];split <;> omega
omit L X in
theorem Uj {ps:Nat→Nat}{s i:Nat}: ∀{n},i<n→ps i=s→0<cntS ps s n
 |n+1,hi,e=>by
  simp only [cntS]
  by_cases h:i=n
  ·subst h;rw [if_pos e];omega
  ·have:=Uj (ps:=ps) (s:=s) (n:=n) (by omega) e;omega
omit L X in
theorem Uk (ps:Nat→Nat)(i t s:Nat): ∀n,n≤i→cntS (upd ps i t) s n=cntS ps s n
 |0,_=>rfl
 |n+1,h=>by simp only [cntS,Uk ps i t s n (by omega),upd_ne ps t (show n≠i by omega)]
omit L X in
theorem B3 (ps:Nat→Nat)(i t s:Nat): ∀n,i<n→cntS (upd ps i t) s n+(if ps i=s then 1 else 0)=cntS ps s n+(if t=s then 1 else 0)
 |n+1,h=>by
  simp only [cntS]
  by_cases e:i=n
  ·subst e;rw [Uk ps i t s i (Nat.le_refl _),upd_eq];omega
  ·have:=B3 ps i t s n (by omega)
   rw [upd_ne ps t (show n≠i by omega)];omega
def pcC (ps:Nat→Nat)(pb nb:Nat):List AV:= [.slc pb 0 nb (Aa+2),eI ((cntS ps 0 nb:Nat):Int),eI ((cntS ps 1 nb:Nat):Int),eI ((cntS ps 2 nb:Nat):Int),eI ((cntS ps 3 nb:Nat):Int),eI ((cntS ps 4 nb:Nat):Int)]
structure PoC (h:H)(p pb nb:Nat)(ps pe:Nat→Nat)(cb:List AV):Prop where
 pk:Bk h p (pcC ps pb nb)
 bk:Bk h pb cb
 ne:p≠pb
 len:cb.length=nb*2
 nbd:0<nb∧nb≤12
 c0: ∀i,i<nb→cb[i*2]?=some (eI ((pe i:Nat):Int))
 c1: ∀i,i<nb→cb[i*2+1]?=some (eI ((ps i:Nat):Int))
 st: ∀i,i<nb→1≤ps i∧ps i≤4
 er: ∀i,i<nb→pe i≤100000
omit L X in
theorem PoC.kp {h h':H}{p pb nb:Nat}{ps pe:Nat→Nat}{cb:List AV}{S:Nat→Prop}(k:Kp S h h')(h1: ¬S p)(h2: ¬S pb)(q:PoC h p pb nb ps pe cb):PoC h' p pb nb ps pe cb:=
 ⟨As k h1 q.pk,As k h2 q.bk,q.ne,q.len,q.nbd,q.c0,q.c1,q.st,q.er⟩
omit L X in
theorem PoC.k0 {h h':H}{p pb nb:Nat}{ps pe:Nat→Nat}{cb:List AV}(k:K0 h h')(q:PoC h p pb nb ps pe cb):PoC h' p pb nb ps pe cb:=q.kp k id id
omit L X in
theorem PoC.c0s {h:H}{p pb nb:Nat}{ps pe:Nat→Nat}{cb:List AV}(q:PoC h p pb nb ps pe cb){i t:Nat}(hi:i<nb)(j:Nat)(hj:j<nb):(cb.set (i*2+1) (eI ((t:Nat):Int)))[j*2]?=some (eI ((pe j:Nat):Int)):=by
 rw [List.getElem?_set_ne (by omega)];exact q.c0 j hj
omit L X in
theorem PoC.c1s {h:H}{p pb nb:Nat}{ps pe:Nat→Nat}{cb:List AV}(q:PoC h p pb nb ps pe cb){i t:Nat}(hi:i<nb)(j:Nat)(hj:j<nb):(cb.set (i*2+1) (eI ((t:Nat):Int)))[j*2+1]?=some (eI ((upd ps i t j:Nat):Int)):=by
 have:=q.len
 by_cases e:j=i
 ·subst e;rw [List.getElem?_set_self (by omega),upd_eq]
 ·rw [List.getElem?_set_ne (by omega),upd_ne _ _ e];exact q.c1 j hj
section
variable {h:H}{p pb nb:Nat}{ps pe:Nat→Nat}{cb:List AV}
theorem Iu (q:PoC h p pb nb ps pe cb):Ct P0 E F K 99 [.ptr p 0] h fun v h'=>v= .bool false∧h'=h:=by
 have hd:=q.pk
 have hn:=q.nbd
 unfold pcC at hd
 refine Al L X.f99 X.k99 rfl rfl fun Q x cs G=>?_
 refine wk ?_
 refine ret X.f99 ?_
 exact⟨rfl,rfl⟩
theorem X5 (q:PoC h p pb nb ps pe cb){i:Int}:Ct P0 E F K 102 [.ptr p 0,.int .i64 i] h fun v h'=>v= .bool (decide (0≤i∧i<nb))∧h'=h:=by
 have hd:=q.pk
 unfold pcC at hd
 refine Ad L X.f102 X.k102 rfl rfl fun Q x cs G=>?_
 refine wk ?_
 by_cases hi:0≤i
 ·refine wk ?_
  by_cases hj:i<nb
  ·refine wk ?_
   refine ret X.f102 ?_
   exact⟨by simp [single,hi,hj],rfl⟩
  ·refine wk ?_
   refine ret X.f102 ?_
   exact⟨by simp [single,hi,hj],rfl⟩
 ·refine wk ?_
  refine ret X.f102 ?_
  exact⟨by simp [single,hi],rfl⟩
theorem Ul {n:Nat}(hn:n≤1099511627776):Ct P0 E F K 164 [eI ((n:Nat):Int)] h fun v h'=>v= .bool true∧h'=h:=by
 refine Al L X.f164 X.k164 rfl rfl fun Q x cs G=>?_
 refine wk ?_
 refine ret X.f164 ?_
 exact⟨rfl,rfl⟩
theorem L0 (q:PoC h p pb nb ps pe cb){i:Nat}(hi:i<nb):Ct P0 E F K 49 [.ptr p 0,eI ((i:Nat):Int)] h fun v h'=>v=eI ((ps i:Nat):Int)∧h'=h:=by
 have hd:=q.pk
 have hb:=q.bk
 have hc:=q.c1 i hi
 unfold pcC at hd
 refine Ad L X.f49 X.k49 rfl rfl fun Q x cs G=>?_
 refine wk ?_
 refine cal (c:=X5 L X q) (g:=?_)
 rintro _ rfl
 rw [decide_eq_true (show 0≤(i:Int)∧(i:Int)<nb by omega)]
 refine wk ?_
 refine ret X.f49 ?_
 exact⟨rfl,rfl⟩
end
end
section
variable {P0:Program}{E:Env}{F:T CFn}{K:T (List AV×AV)}(L:Lg P0 E F K)(X:Fx F K)
include L X
omit L X in
theorem F4 {l:List (Nat×Option AV)}{h:H}{x y:O}{b o len size i:Nat}{k:IntKind}(e:evO l x=some (.ptr b o))(e1:evO l y=some (.int k ((i:Nat):Int)))(hi:i<len):XV (.iaddrA len size x y) h l (.ptr b (o+i*size)) h:=⟨Tw (Ab e) (Ab e1) hi rfl⟩
section
variable {h:H}{p pb nb:Nat}{ps pe:Nat→Nat}{cb:List AV}
theorem Np (q:PoC h p pb nb ps pe cb){i t:Nat}(hi:i<nb)(ht:1≤t∧t≤4):Ct P0 E F K 140 [.ptr p 0,eI ((i:Nat):Int),eI ((t:Nat):Int)] h fun v h'=>v= .tup []∧PoC h' p pb nb (upd ps i t) pe (cb.set (i*2+1) (eI ((t:Nat):Int)))∧Kp (fun j=>j=p∨j=pb) h h':=by
 have hd:=q.pk
 have hb:=q.bk
 have hc:=q.c1 i hi
 have hl:=q.len
 have hne:=q.ne
 have hst:=q.st i hi
 have l1:=hd.lt
 have l2:=hb.lt
 have c0s:=q.c0s (t:=t) hi
 have c1s:=q.c1s (t:=t) hi
 have hnb:=q.nbd
 have hpos:=Uj (ps:=ps) (s:=ps i) hi rfl
 have e0:=B3 ps i t 0 nb hi
 have e1:=B3 ps i t 1 nb hi
 have e2:=B3 ps i t 2 nb hi
 have e3:=B3 ps i t 3 nb hi
 have e4:=B3 ps i t 4 nb hi
 have b1:=Gh ps 1 nb
 have b2:=Gh ps 2 nb
 have b3:=Gh ps 3 nb
 have b4:=Gh ps 4 nb
 have hlt:i*2+1<cb.length:=by omega
 have st2: ∀j,j<nb→1≤upd ps i t j∧upd ps i t j≤4:=fun j hj=>by
  by_cases e:j=i
  ·subst e;rw [upd_eq];exact ht
  ·rw [upd_ne _ _ e];exact q.st j hj
 have her:=q.er
 unfold pcC at hd
 have hs:ps i=1∨ps i=2∨ps i=3∨ps i=4:=by omega
 have htt:t=1∨t=2∨t=3∨t=4:=by omega
 rcases hs with hs|hs|hs|hs <;> rw [hs]at hc hpos e0 e1 e2 e3 e4 <;> rcases htt with rfl|rfl|rfl|rfl <;> simp at e0 e1 e2 e3 e4
 all_goals
  refine Bz L X.f140 X.k140 rfl rfl fun Q x cs G=>?_
  refine wk ?_
  (apply Cp rfl rfl;exact F4 rfl rfl (by omega))
  refine wk ?_
  (apply Cp rfl rfl;exact F4 rfl rfl (by omega))
  refine wk ?_
  (apply Cp rfl rfl;exact F4 rfl rfl (by omega))
  refine wk ?_
  (apply Cp rfl rfl;exact F4 rfl rfl (by omega))
  refine wk ?_
  refine ret X.f140 ?_
  refine⟨rfl,⟨O6 ?_ lkp,lkp,hne,(by rw [List.length_set];exact hl),hnb,c0s,c1s,st2,her⟩,kps⟩
  unfold pcC
  simp only [List.cons.injEq,and_true,true_and,eI,AV.int.injEq]
  omega
end
end
section
variable {P0:Program}{E:Env}{F:T CFn}{K:T (List AV×AV)}(L:Lg P0 E F K)(X:Fx F K)
include L X
section
variable {h:H}{p pb nb:Nat}{ps pe:Nat→Nat}{cb:List AV}
theorem Rf {a b:Nat}:Ct P0 E F K 139 [.agg [eI ((a:Nat):Int),eI ((b:Nat):Int)]] h fun v h'=>v= .bool (decide (b=2))∧K0 h h':=by
 refine Al L X.f139 X.k139 rfl rfl fun Q x cs G=>?_
 by_cases e:b=2
 ·refine wk ?_
  refine ret X.f139 ?_
  exact⟨by rw [decide_eq_true e];rfl,kps⟩
 ·refine wk ?_
  refine ret X.f139 ?_
  exact⟨by rw [decide_eq_false e];rfl,kps⟩
theorem aq {a b:Nat}:Ct P0 E F K 148 [.agg [eI ((a:Nat):Int),eI ((b:Nat):Int)]] h fun v h'=>v= .bool (decide (b≠4))∧K0 h h':=by
 refine Al L X.f148 X.k148 rfl rfl fun Q x cs G=>?_
 by_cases e:b=4
 ·refine wk ?_
  refine ret X.f148 ?_
  exact⟨by rw [decide_eq_false (by simpa using e)];rfl,kps⟩
 ·refine wk ?_
  refine ret X.f148 ?_
  exact⟨by rw [decide_eq_true (by simpa using e)];rfl,kps⟩
theorem Qb {a b:Nat}(ha:a<1099511627776):Ct P0 E F K 150 [.agg [eI ((a:Nat):Int),eI ((b:Nat):Int)]] h fun v h'=>v= .bool (decide (b=2∨b=3))∧K0 h h':=by
 refine Al L X.f150 X.k150 rfl rfl fun Q x cs G=>?_
 refine wk ?_
 refine cal (c:=Rf L X) (g:=?_)
 rintro _ h2 ⟨rfl,k2⟩
 by_cases e:b=2
 ·rw [decide_eq_true e]
  refine wk ?_
  refine ret X.f150 ?_
  exact⟨by rw [decide_eq_true (.inl e)];rfl,kps⟩
 ·rw [decide_eq_false e]
  by_cases e2:b=3
  ·refine wk ?_
   refine ret X.f150 ?_
   exact⟨by rw [decide_eq_true (.inr e2)];rfl,kps⟩
  ·refine wk ?_
   refine ret X.f150 ?_
   exact⟨by rw [decide_eq_false (by omega)];rfl,kps⟩
theorem L1 {f i:Nat}{W:Bool}(q:PoC h p pb nb ps pe cb)(hi:i<nb)(hw: ∀h2,Ct P0 E F K f [.agg [eI ((pe i:Nat):Int),eI ((ps i:Nat):Int)]] h2 fun v h'=>v= .bool W∧K0 h2 h'):
  Ct P0 E F K 138 [.ptr p 0,eI ((i:Nat):Int),.fn (.func f) [] []] h fun v h'=>v=eI ((if W=true then 0 else 8:Nat):Int)∧K0 h h':=by
 have hd:=q.pk
 have hb:=q.bk
 have hc0:=q.c0 i hi
 have hc1:=q.c1 i hi
 unfold pcC at hd
 refine Bz L X.f138 X.k138 rfl rfl fun Q x cs G=>?_
 refine wk ?_
 refine cal (c:=Iu L X q) (g:=?_)
 rintro _ rfl
 refine wk ?_
 refine cal (c:=X5 L X q) (g:=?_)
 rintro _ rfl
 rw [decide_eq_true (show 0≤(i:Int)∧(i:Int)<nb by omega)]
 refine wk ?_
 refine cal (c:=hw _) (g:=?_)
 rintro _ h2 ⟨rfl,k2⟩
 cases W with
 |true=>
  refine wk ?_
  refine ret X.f138 ?_
  exact⟨rfl,kps⟩
 |false=>
  refine wk ?_
  refine ret X.f138 ?_
  exact⟨rfl,kps⟩
theorem G6 {i:Nat}(q:PoC h p pb nb ps pe cb)(hi:i<nb)(hs:ps i=2):
  Ct P0 E F K 94 [.ptr p 0,eI ((i:Nat):Int)] h fun v h'=>v=eI ((0:Nat):Int)∧PoC h' p pb nb (upd ps i 3) pe (cb.set (i*2+1) (eI ((3:Nat):Int)))∧Kp (fun j=>j=p∨j=pb) h h':=by
 refine Ad L X.f94 X.k94 rfl rfl fun Q x cs G=>?_
 refine wk ?_
 refine cal (c:=L1 L X (W:=true) q hi (fun h2=>(Rf L X).mono fun v h' e=>by rw [decide_eq_true hs]at e;exact e)) (g:=?_)
 rintro _ h2 ⟨rfl,k2⟩
 rw [if_pos rfl]
 refine wk ?_
 refine cal (c:=Np L X (t:=3) (q.k0 (by exact kps)) hi (by omega)) (g:=?_)
 rintro _ h3 ⟨rfl,w1,w2⟩
 refine wk ?_
 refine ret X.f94 ?_
 exact⟨rfl,w1,Kp.trS w2 (fun _ _ e=>e) kps⟩
theorem Py {i:Nat}(q:PoC h p pb nb ps pe cb)(hi:i<nb)(hs:ps i≠4):
  Ct P0 E F K 106 [.ptr p 0,eI ((i:Nat):Int)] h fun v h'=>v=eI ((0:Nat):Int)∧PoC h' p pb nb (upd ps i 4) pe (cb.set (i*2+1) (eI ((4:Nat):Int)))∧Kp (fun j=>j=p∨j=pb) h h':=by
 refine Ad L X.f106 X.k106 rfl rfl fun Q x cs G=>?_
 refine wk ?_
 refine cal (c:=L1 L X (W:=true) q hi (fun h2=>(aq L X).mono fun v h' e=>by rw [decide_eq_true hs]at e;exact e)) (g:=?_)
 rintro _ h2 ⟨rfl,k2⟩
 rw [if_pos rfl]
 refine wk ?_
 refine cal (c:=Np L X (t:=4) (q.k0 (by exact kps)) hi (by omega)) (g:=?_)
 rintro _ h3 ⟨rfl,w1,w2⟩
 refine wk ?_
 refine ret X.f106 ?_
 exact⟨rfl,w1,Kp.trS w2 (fun _ _ e=>e) kps⟩
theorem Um {i:Nat}(q:PoC h p pb nb ps pe cb)(hi:i<nb)(hs:ps i=2∨ps i=3)(he:pe i<100000):
  Ct P0 E F K 108 [.ptr p 0,eI ((i:Nat):Int)] h fun v h'=>v=eI ((0:Nat):Int)∧(∃cb',PoC h' p pb nb (upd ps i 1) (upd pe i (pe i+1)) cb')∧Kp (fun j=>j=p∨j=pb) h h':=by
 refine Ad L X.f108 X.k108 rfl rfl fun Q x cs G=>?_
 refine wk ?_
 refine cal (c:=L1 L X (W:=true) q hi (fun h2=>(Qb L X (by omega)).mono fun v h' e=>by rw [decide_eq_true hs]at e;exact e)) (g:=?_)
 rintro _ h2 ⟨rfl,k2⟩
 rw [if_pos rfl]
 refine wk ?_
 refine cal (c:=Np L X (t:=1) (q.k0 (by exact kps)) hi (by omega)) (g:=?_)
 rintro _ h3 ⟨rfl,w1,w2⟩
 have hd:=w1.pk
 have hb:=w1.bk
 have hc0:=w1.c0 i hi
 have hl:=w1.len
 have hne:=w1.ne
 have l1:=hd.lt
 have l2:=hb.lt
 have c0:=w1.c0
 have c1:=w1.c1
 have hlt:i*2<(cb.set (i*2+1) (eI ((1:Nat):Int))).length:=by omega
 unfold pcC at hd
 refine wk ?_
 refine ret X.f108 ?_
 refine⟨rfl,⟨(cb.set (i*2+1) (eI ((1:Nat):Int))).set (i*2) (eI ((pe i+1:Nat):Int)),⟨lkp,by exact lkp,hne,(by rw [List.length_set];exact hl),q.nbd,fun j hj=>?_,fun j hj=>?_,w1.st,fun j hj=>?_⟩⟩,Kp.st (.inr (.inr rfl)) (Kp.trS w2 (fun _ _ e=>e) kps)⟩
 ·by_cases e:j=i
  ·subst e;rw [List.getElem?_set_self (by omega),upd_eq]
  ·rw [List.getElem?_set_ne (by omega),upd_ne _ _ e];exact c0 j hj
 ·rw [List.getElem?_set_ne (by omega)];exact c1 j hj
 ·by_cases e:j=i
  ·subst e;rw [upd_eq];omega
  ·rw [upd_ne _ _ e];exact w1.er j hj
end
end
section
variable {P0:Program}{E:Env}{F:T CFn}{K:T (List AV×AV)}(L:Lg P0 E F K)(X:Fx F K)
include L X
section
variable {h:H}{p pb nb:Nat}{ps pe:Nat→Nat}{cb:List AV}
theorem ar (q:PoC h p pb nb ps pe cb):Ct P0 E F K 100 [.slc pb 0 nb (Aa+2)] h fun v h'=> ∃b,v= .slc b 0 nb (Aa+2)∧Bk h' b cb∧h.n≤b∧K0 h h':=by
 have hb:=q.bk
 have hl:=q.len
 have hn:=q.nbd
 refine Al L X.f100 X.k100 rfl rfl fun Q x cs G=>?_
 refine wk ?_
 (apply st1 L rfl;exact xh (new:=cb) rfl rfl (SlR.of (c:=cb) lkp (by omega) (by rw [List.drop_zero,List.take_of_length_le (by omega)])) (by omega) (by omega);rfl)
 refine wk ?_
 refine ret X.f100 ?_
 exact⟨_,rfl,lkp,by omega,kps⟩
theorem J2 (q:PoC h p pb nb ps pe cb){s:Nat}:Ct P0 E F K 44 [.ptr p 0,eI ((s:Nat):Int)] h fun v h'=> ∃a b lb,v= .fn (.func 101) [] [.ptr a 0,.ptr b 0]∧Bk h' a [.slc lb 0 nb (Aa+2)]∧Bk h' b [eI ((s:Nat):Int)]∧Bk h' lb cb∧h.n≤a∧h.n≤b∧h.n≤lb∧K0 h h':=by
 have hd:=q.pk
 unfold pcC at hd
 refine Ad L X.f44 X.k44 rfl rfl fun Q x cs G=>?_
 refine wk ?_
 refine cal (c:=Iu L X (q.k0 (by exact kps))) (g:=?_)
 rintro _ rfl
 refine wk ?_
 refine cal (c:=ar L X (q.k0 (by exact kps))) (g:=?_)
 rintro _ h2 ⟨lb,rfl,w1,w2,w3⟩
 have n3:=w3.n
 simp only [Am]at w2 n3
 refine wk ?_
 refine ret X.f44 ?_
 exact⟨_,_,lb,rfl,lkp,lkp,lkp,by omega,by omega,by omega,kps⟩
theorem Iv {lp a b lb cap nb s:Nat}{ps pe:Nat→Nat}{cb:List AV}(hl:cb.length=nb*2)(hnb:nb≤12)(hc0: ∀i,i<nb→cb[i*2]?=some (eI ((pe i:Nat):Int)))(hc1: ∀i,i<nb→cb[i*2+1]?=some (eI ((ps i:Nat):Int)))(I:Nat→H→Prop)
  (hI: ∀i hh,I i hh→Bk hh a [.slc lb 0 nb cap]∧Bk hh b [eI ((s:Nat):Int)]∧Bk hh lb cb) (hK: ∀i hh h',I i hh→K0 hh h'→I i h')
  (hY: ∀i hh,i<nb→ps i=s→I i hh→CtA P0 E F K (.yield lp) [eI ((i:Nat):Int),eI ((pe i:Nat):Int)] hh fun u h'=>u= .bool true∧I (i+1) h') (hN: ∀i hh,i<nb→ps i≠s→I i hh→I (i+1) hh) (h0:I 0 h):
  Ct P0 E F K 101 [.fn (.yield lp) [] [],.ptr a 0,.ptr b 0] h fun v h'=>I nb h':=by
 obtain⟨k1,k2,k3⟩:=hI _ _ h0
 refine Bz L X.f101 X.k101 rfl rfl fun Q x cs G=>?_
 refine wk ?_
 refine Co L (α:= Unit) (T:=fun i _=> [(8,some (eI ((i:Nat):Int))),(7,some (eI ((nb:Nat):Int))),(6,some (.slc lb 0 nb cap)),(2,some (.ptr b 0)),(0,some (.fn (.yield lp) [] []))]) (n:=nb)
  (R:=fun i _ hh=>I i hh) (i0:=0) () tsb (hK _ _ _ h0 kps) (Nat.zero_le _) ?_ ?_
 ·rintro i _ h2 hi w ih
  obtain⟨j1,j2,j3⟩:=hI _ _ w
  have t1:=j1.lt
  have t2:=j2.lt
  have t3:=j3.lt
  have c0:=hc0 i hi
  have c1:=hc1 i hi
  by_cases e:ps i=s
  ·refine wk ?_
   refine Pj L rfl rfl rfl rfl rfl (hY i _ hi e (hK i _ _ w (by exact kps))) ?_
   rintro _ h3 ⟨rfl,w3⟩
   refine wk ?_
   refine ih () _ _ w3 ?_;exact tsb
  ·refine wk ?_
   refine ih () _ _ (hN i _ hi e (hK i _ _ w (by exact kps))) ?_;exact tsb
 ·rintro _ h2 w
  refine wk ?_
  refine ret X.f101 ?_
  exact w
end
end
section
variable {P0:Program}{E:Env}{F:T CFn}{K:T (List AV×AV)}(L:Lg P0 E F K)(X:Fx F K)
include L X
def Cw (ps pe:Nat→Nat)(s:Nat):Nat→Int×Nat
 |0=>(-1,0)
 |i+1=>if ps i=s∧((Cw ps pe s i).1<0∨pe i<(Cw ps pe s i).2)then(((i:Nat):Int),pe i)else Cw ps pe s i
omit L X in
theorem Ex (ps pe:Nat→Nat)(s:Nat): ∀n,((Cw ps pe s n).1= -1∧ ∀i,i<n→ps i≠s)∨ ∃i,i<n∧(Cw ps pe s n).1=((i:Nat):Int)∧ps i=s
 |0=> .inl ⟨rfl,fun i hi=>absurd hi (Nat.not_lt_zero i)⟩
 |n+1=>by
  simp only [Cw]
  by_cases h:ps n=s∧((Cw ps pe s n).1<0∨pe n<(Cw ps pe s n).2)
  ·rw [if_pos h];exact .inr ⟨n,Nat.lt_succ_self n,rfl,h.1⟩
  ·rw [if_neg h]
   rcases Ex ps pe s n with⟨h1,h2⟩|⟨i,h1,h2,h3⟩
   ·refine .inl ⟨h1,fun i hi e=>?_⟩
    by_cases e2:i=n
    ·subst e2;exact h ⟨e,.inl (by omega)⟩
    ·exact h2 i (by omega) e
   ·exact .inr ⟨i,by omega,h2,h3⟩
omit L X in
theorem Un (ps pe:Nat→Nat)(s:Nat)(B:Nat): ∀n,(∀i,i<n→pe i≤B)→(Cw ps pe s n).2≤B
 |0,_=>Nat.zero_le _
 |n+1,h=>by
  simp only [Cw]
  split
  ·exact h n (Nat.lt_succ_self n)
  ·exact Un ps pe s B n fun i hi=>h i (by omega)
section
variable {h:H}{p pb nb:Nat}{ps pe:Nat→Nat}{cb:List AV}
noncomputable def L2 (p s hn a b mk:Nat)(st:LS):Blk:= .loop ⟨st,none,173,cf173.ntmps,tms [(11,some (.fn (.func 101) [] [.ptr a 0,.ptr b 0])),(10,some (eI ((s:Nat):Int))),(9,some (.ptr p 0)),(6,some (.ptr (hn+1) 0)),(5,some (.ptr hn 0)),(4,some (eI ((0:Nat):Int))),(1,some (eI ((s:Nat):Int))),(0,some (.ptr p 0))],[12,13],c173_5,c173_10,mk⟩
omit L X in
structure RCold (h hh:H)(p s a b lb mk nb:Nat)(ps pe:Nat→Nat)(cb:List AV)(i:Nat):Prop where
 k:K0 h hh
 dk:Gk hh mk (.dfr (some []))
 lp:Gk hh (mk+1) (L2 p s h.n a b mk .ready)
 ka:Bk hh a [.slc lb 0 nb (Aa+2)]
 kb:Bk hh b [eI ((s:Nat):Int)]
 kl:Bk hh lb cb
 k5:Bk hh h.n [eI (Cw ps pe s i).1]
 k6:Bk hh (h.n+1) [eI (((Cw ps pe s i).2:Nat):Int)]
theorem Wa (q:PoC h p pb nb ps pe cb){s:Nat}(hs:s≤4):Ct P0 E F K 173 [.ptr p 0,eI ((s:Nat):Int)] h fun v h'=>v=eI (Cw ps pe s nb).1∧K0 h h':=by
 have hq:=q.nbd
 refine Ad L X.f173 X.k173 rfl rfl fun Q x cs G=>?_
 refine wk ?_
 refine cal (c:=J2 L X (s:=s) (q.k0 (by exact kps))) (g:=?_)
 rintro _ h2 ⟨a,b,lb,rfl,w1,w2,w3,w4,w5,w6,w7⟩
 have n5:=w7.n
 simp only [Am]at n5 w4 w5 w6
 have la:=w1.lt
 have lb':=w2.lt
 have lc:=w3.lt
 refine wk ?_
 refine Hq L (post:=fun _ h'=>RCold h h' p s a b lb h2.n nb ps pe cb nb) rfl rfl rfl ?_ ?_
 ·refine Ct.A ((Iv L X (ps:=ps) (pe:=pe) (cb:=cb) q.len hq.2 q.c0 q.c1 (fun i hh=>RCold h hh p s a b lb h2.n nb ps pe cb i) (fun i hh r=>⟨r.ka,r.kb,r.kl⟩) (fun i hh h' r k=>?_) (fun i hh hi e r=>?_) (fun i hh hi e r=>?_) ⟨kps,lkg,lkg,lkp,lkp,lkp,lkp,lkp⟩).mono fun v h' p=>p)
  ·exact⟨Kp.tr0 k r.k,E5 k r.dk,E5 k r.lp,Ag k r.ka,Ag k r.kb,Ag k r.kl,Ag k r.k5,Ag k r.k6⟩
  ·obtain⟨r1,r2,r3,r4,r5,r6,r7,r8⟩:=r
   have hle:=r3.e
   unfold L2 at hle
   have g1:=r2.lt
   have g2:=r3.lt
   have g3:=r4.lt
   have g4:=r5.lt
   have g5:=r6.lt
   have g7:=r7.lt
   have g8:=r8.lt
   have her:=Un ps pe s 100000 i fun j hj=>q.er j (by omega)
   have hei:=q.er i hi
   refine F1 L (l1:= [(13,some (eI ((pe i:Nat):Int))),(12,some (eI ((i:Nat):Int))),(11,some (.fn (.func 101) [] [.ptr a 0,.ptr b 0])),(10,some (eI ((s:Nat):Int))),(9,some (.ptr p 0)),(6,some (.ptr (h.n+1) 0)),(5,some (.ptr h.n 0)),(4,some (eI ((0:Nat):Int))),(1,some (eI ((s:Nat):Int))),(0,some (.ptr p 0))]) hle rfl ?_
   intro Q z2 cs G
   refine wk ?_
   refine Eu L (Gk.e lkg) ?_
   have hat:=Ex ps pe s i
   have e1:Cw ps pe s (i+1)=if ps i=s∧((Cw ps pe s i).1<0∨pe i<(Cw ps pe s i).2)then(((i:Nat):Int),pe i)else Cw ps pe s i:=rfl
   generalize hc:Cw ps pe s i=ck at*
   obtain⟨ck,cl'⟩:=ck
   simp only at hat r7 r8 her e1
   by_cases hneg:ck<0
   ·rw [if_pos ⟨e,.inl hneg⟩]at e1
    refine wk ?_
    refine Da L (Gk.e lkg) G ⟨rfl,?_⟩
    refine⟨kps,lkg,(by unfold L2;exact Dx (by omega)),lkp,lkp,lkp,?_,?_⟩
    ·rw [e1];exact lkp
    ·rw [e1];exact lkp
   ·obtain⟨c,rfl⟩: ∃c:Nat,ck=((c:Nat):Int):=⟨ck.toNat,by omega⟩
    by_cases hlt:pe i<cl'
    ·rw [if_pos ⟨e,.inr hlt⟩]at e1
     refine wk ?_
     refine Da L (Gk.e lkg) G ⟨rfl,?_⟩
     refine⟨kps,lkg,(by unfold L2;exact Dx (by omega)),lkp,lkp,lkp,?_,?_⟩
     ·rw [e1];exact lkp
     ·rw [e1];exact lkp
    ·rw [if_neg (by omega)]at e1
     refine wk ?_
     refine Da L (Gk.e lkg) G ⟨rfl,?_⟩
     refine⟨kps,lkg,(by unfold L2;exact Dx (by omega)),lkp,lkp,lkp,?_,?_⟩
     ·rw [e1];exact lkp
     ·rw [e1];exact lkp
  ·obtain⟨r1,r2,r3,r4,r5,r6,r7,r8⟩:=r
   have e1:Cw ps pe s (i+1)=Cw ps pe s i:=by simp only [Cw];rw [if_neg (by omega)]
   exact⟨r1,r2,r3,r4,r5,r6,by rw [e1];exact r7,by rw [e1];exact r8⟩
 ·rintro v h3 ⟨r1,r2,r3,r4,r5,r6,r7,r8⟩
  have hle:=r3.e
  unfold L2 at hle
  have l5:=r2.lt
  have l7:=r7.lt
  refine Gd L (n:=h3.n) (t:=h3.t) (lh:= []) hle (by intro q;cases q) ?_
  refine wk ?_
  refine D0 L (todo:= []) ?_
  refine F2 L (by intro q;cases q) (Gk.e lkg) ?_
  refine Eb L X.f173 (C0 rfl) G ⟨rfl,kps⟩
theorem X6 (q:PoC h p pb nb ps pe cb):Ct P0 E F K 146 [.ptr p 0] h fun v h'=>
  ((Cw ps pe 1 nb).1= -1∧(∀i,i<nb→ps i≠1)∧v= .tup [eI ((0:Nat):Int),eI ((9:Nat):Int)]∧K0 h h')∨ ∃i,(Cw ps pe 1 nb).1=((i:Nat):Int)∧i<nb∧ps i=1∧v= .tup [eI ((i:Nat):Int),eI ((0:Nat):Int)]∧PoC h' p pb nb (upd ps i 2) pe (cb.set (i*2+1) (eI ((2:Nat):Int)))∧Kp (fun j=>j=p∨j=pb) h h':=by
 refine Al L X.f146 X.k146 rfl rfl fun Q x cs G=>?_
 refine wk ?_
 refine cal (c:=Iu L X q) (g:=?_)
 rintro _ rfl
 refine wk ?_
 refine cal (c:=Wa L X q (s:=1) (by omega)) (g:=?_)
 rintro _ h2 ⟨rfl,k2⟩
 rcases Ex ps pe 1 nb with⟨h1,h2'⟩|⟨i,hi,h1,h3⟩
 ·rw [h1]
  refine wk ?_
  refine ret X.f146 ?_
  exact .inl ⟨h1,h2',rfl,kps⟩
 ·rw [h1]
  refine wk ?_
  refine cal (c:=Np L X (t:=2) (q.k0 (by exact kps)) hi (by omega)) (g:=?_)
  rintro _ h4 ⟨rfl,w1,w2⟩
  refine wk ?_
  refine ret X.f146 ?_
  exact .inr ⟨i,h1,hi,h3,rfl,w1,Kp.trS w2 (fun _ _ e=>e) kps⟩
end
end
section
variable {P0:Program}{E:Env}{F:T CFn}{K:T (List AV×AV)}(L:Lg P0 E F K)(X:Fx F K)
include L X
def pbC (pe:Nat→Nat)(n:Nat):List AV:=(List.range n).flatMap fun i=> [AI ((pe i:Nat):Int),AI ((1:Nat):Int)]
omit L X in
theorem Pz (pe:Nat→Nat)(n:Nat):pbC pe (n+1)=pbC pe n++ [AI ((pe n:Nat):Int),AI ((1:Nat):Int)]:=by simp [pbC,List.range_succ]
omit L X in
theorem Nq (pe:Nat→Nat): ∀n,(pbC pe n).length=n*2
 |0=>rfl
 |n+1=>by rw [Pz,List.length_append,Nq pe n];show n*2+2=_;omega
omit L X in
theorem Sq (pe:Nat→Nat): ∀{n i:Nat},i<n→(pbC pe n)[i*2]?=some (AI ((pe i:Nat):Int))∧(pbC pe n)[i*2+1]?=some (AI ((1:Nat):Int))
 |n+1,i,hi=>by
  have hl:=Nq pe n
  rw [Pz]
  by_cases e:i=n
  ·subst e
   rw [List.getElem?_append_right (by omega),List.getElem?_append_right (by omega),hl,Nat.sub_self,show i*2+1 - i*2=1 by omega]
   exact⟨rfl,rfl⟩
  ·rw [List.getElem?_append_left (by omega),List.getElem?_append_left (by omega)]
   exact Sq pe (by omega)
omit L X in
theorem Uo (s:Nat): ∀n,cntS (fun _=>1) s n=if 1=s then n else 0
 |0=>by simp [cntS]
 |n+1=>by simp only [cntS,Uo s n];split <;> rfl
section
variable {h:H}
theorem mg {n:Nat}(hn:n≤1099511627776):Ct P0 E F K 163 [AI ((n:Nat):Int)] h fun v h'=>v= .bool false∧h'=h:=by
 refine Al L X.f163 X.k163 rfl rfl fun Q x cs G=>?_
 refine wk ?_
 refine cal (c:=Ul L X hn) (g:=?_)
 rintro _ rfl
 refine wk ?_
 refine ret X.f163 ?_
 exact⟨rfl,rfl⟩
theorem se {eb nb:Nat}{pe:Nat→Nat}(hb:Bk h eb (H2 pe nb))(hnb:0<nb∧nb≤12)(he: ∀i,i<nb→pe i≤100000):
  Ct P0 E F K 133 [.slc eb 0 nb (Aa+1)] h fun v h'=> ∃p pb cb,v= .tup [.ptr p 0,AI ((0:Nat):Int)]∧PoC h' p pb nb (fun _=>1) pe cb∧h.n≤p∧h.n≤pb∧K0 h h':=by
 have lb:=hb.lt
 have hrl:=Ky pe nb
 have q:IntsR (fun _=>0) h (.slc eb 0 nb (Aa+1)) ((List.range nb).map fun i=>((pe i:Nat):Int)):=⟨.inr (.inr ⟨eb,Aa+1,by simp,by rw [List.map_map];exact hb.rk,rfl⟩)⟩
 refine Al L X.f133 X.k133 rfl rfl fun Q x cs G=>?_
 refine wk ?_
 refine cal (c:=Ku L X (f:=163) q (by simp;omega) (fun x hx h2=>by obtain⟨i,hi,rfl⟩:=List.mem_map.1 hx;exact mg L X (by have:=he i (List.mem_range.1 hi);omega))) (g:=?_)
 rintro _ h2 ⟨rfl,k2⟩
 have n2:=k2.n
 refine wk ?_
 refine Co L (α:= AV) (T:=fun i _=> [(23,some (AI ((i:Nat):Int))),(22,some (AI ((nb:Nat):Int))),(21,some (.slc eb 0 nb (Aa+1))),(4,some (.ptr h2.n 0)),(0,some (.slc eb 0 nb (Aa+1)))]) (n:=nb)
  (R:=fun i v h3=>Bk h3 h2.n [v,AI ((0:Nat):Int),AI ((0:Nat):Int),AI ((0:Nat):Int),AI ((0:Nat):Int),AI ((0:Nat):Int)]∧((i=0∧v= .nils)∨(0<i∧ ∃b,v= .slc b 0 i (Aa+2)∧Bk h3 b (pbC pe i)∧h.n≤b∧b≠h2.n))∧Kp (fun j=>h.n≤j) h h3) (i0:=0) .nils tsb ⟨lkp,.inl ⟨rfl,rfl⟩,kps⟩ (Nat.zero_le _) ?_ ?_
 ·rintro i v h3 hi ⟨u0,u1,u2⟩ ih
  have hb3:=As u2 (by omega) hb
  have n3:=u2.n
  have t0:=u0.lt
  have hx:=Ui pe hi
  have hpl:=Nq pe i
  have t2:=hb3.lt
  rcases u1 with⟨rfl,rfl⟩|⟨hi0,b,rfl,g1,g2,g3⟩
  ·refine wk ?_
   (apply st1 L rfl;exact F0 (new:= [AI ((pe 0:Nat):Int),AI ((1:Nat):Int)]) rfl rfl (SlR.of (c:= [AI ((pe 0:Nat):Int),AI ((1:Nat):Int)]) lkp (Nat.le_refl _) rfl) (by omega) (by omega);rfl)
   refine wk ?_
   refine ih (.slc (h3.n+1) 0 1 (Aa+2)) _ _ ⟨lkp,.inr ⟨by omega,h3.n+1,rfl,?_,by omega,by omega⟩,kps⟩ tsb
   exact lkp
  ·have t1:=g1.lt
   refine wk ?_
   (apply st1 L rfl;exact Fz (old:=pbC pe i) (new:= [AI ((pe i:Nat):Int),AI ((1:Nat):Int)]) rfl rfl (SlR.of (c:=pbC pe i) lkp (by omega) (by rw [List.drop_zero,List.take_of_length_le (by omega)])) (SlR.of (c:= [AI ((pe i:Nat):Int),AI ((1:Nat):Int)]) lkp (Nat.le_refl _) rfl) (by omega) (by omega) rfl;rfl)
   refine wk ?_
   refine ih (.slc (h3.n+1) 0 (i+1) (Aa+2)) _ _ ⟨lkp,.inr ⟨by omega,h3.n+1,rfl,?_,by omega,by omega⟩,kps⟩ tsb
   rw [Pz];exact lkp
 ·rintro v h3 ⟨u0,u1,u2⟩
  rcases u1 with⟨e,_⟩|⟨hi0,b,rfl,g1,g2,g3⟩
  ·omega
  ·have n3:=u2.n
   have t0:=u0.lt
   have t1:=g1.lt
   refine wk ?_
   (apply st1 L rfl;exact F4 (i:=1) rfl rfl (by omega);rfl)
   refine wk ?_
   refine ret X.f133 ?_
   refine⟨h2.n,b,pbC pe nb,rfl,⟨?_,lkp,by omega,Nq pe nb,hnb,fun i hi=>(Sq pe hi).1,fun i hi=>(Sq pe hi).2,fun i hi=>by omega,he⟩,n2,g2,?_⟩
   ·refine O6 ?_ lkp
    unfold pcC
    simp only [Uo]
    rfl
   ·have k4:Kp (fun j=>h.n≤j) h (hp h3.n h3.t [(h2.n,some (cl [.slc b 0 nb (Aa+2),AI ((0:Nat):Int),AI ((nb:Nat):Int),AI ((0:Nat):Int),AI ((0:Nat):Int),AI ((0:Nat):Int)]))]):=kps
    exact k4.cut (Nat.le_refl _)
end
end
section
variable {P0:Program}{E:Env}{F:T CFn}{K:T (List AV×AV)}(L:Lg P0 E F K)(X:Fx F K)
include L X
section
variable {h:H}
theorem au {mb r1 lp ck:Nat}{M:List (Int×AV×Nat)}(q:MOk M ck)(I:List Int→H→Prop)
  (hI: ∀S hh,I S hh→Bk hh mb [.map r1]∧Mk hh r1 (M.map (mE AI)) ck)
  (hK: ∀S hh h',I S hh→Kp (fun j=>j=h.n) hh h'→I S h')
  (hY: ∀S k hh,I S hh→S.length<M.length→h.n<hh.n→CtA P0 E F K (.yield lp) [AI k] hh fun u h'=>u= .bool true∧I (S++ [k]) h'∧hh.n≤h'.n∧(∀x,Gk hh h.n x→Gk h' h.n x)) (h0:I [] h):
  Ct P0 E F K 167 [.fn (.yield lp) [] [],.ptr mb 0] h fun v h'=> ∃S,List.Perm S (M.map (·.1))∧I S h':=by
 obtain⟨k1,k2⟩:=hI _ _ h0
 have l1:=k1.lt
 have l2:=k2.lt
 refine Ad L X.f167 X.k167 rfl rfl fun Q x cs G=>?_
 refine wk ?_
 (apply st1 L rfl;exact Xt rfl lkq;rfl)
 refine wk ?_
 refine ru L (α:= List (Int×AV×Nat)) (T:=fun Y=> [(5,some (.ptr h.n 0)),(0,some (.fn (.yield lp) [] []))]) (mu:=muM M) (R:=fun Y hh=>I (Y.map (·.1)) hh∧Gk hh h.n (.miter (some r1) ck (Y.map (·.2.2)) ck)∧(∀y∈Y,y∈M)∧(Y.map (·.2.2)).Nodup∧h.n<hh.n∧Y.length+muM M Y≤M.length) [] tsb ⟨hK _ _ _ h0 kps,lkg,(fun y hy=>by cases hy),List.nodup_nil,Nat.lt_succ_self _,by rw [List.length_nil,Nat.zero_add];exact List.length_filter_le _ _⟩ ?_
 rintro Y hh ⟨i1,i2,i3,i4,i5,i6⟩ ih
 obtain⟨k3,k4⟩:=hI _ _ i1
 refine wk ?_
 refine Xv L rfl rfl (M:=M) (enc:=AI) (ck:=ck) (it:=h.n) (m:=r1) (seen:=Y.map (·.2.2)) lkg lkq q.lt ?_ ?_
 ·intro hall
  refine wk ?_
  refine ret X.f167 ?_
  exact⟨_,(Re q i3 i4 hall).map _,hK _ _ _ i1 kps⟩
 ·intro y hy hn
  have hmu:=So hy hn
  refine wk ?_
  (apply st1 L rfl;exact Xw q rfl lkg lkq hy;rfl)
  refine wk ?_
  refine Pj L rfl rfl rfl rfl rfl (hY _ y.1 _ (hK _ _ _ i1 (by exact kps)) (by rw [List.length_map];omega) (by simp only [Am];omega)) ?_
  rintro _ h3 ⟨rfl,w1,w2,w3⟩
  simp only [Am]at w2
  refine wk ?_
  refine ih (Y++ [y]) _ _ (So hy hn) ⟨?_,?_,?_,ma i4 hn,by simp only [Am];omega,by rw [List.length_append,List.length_singleton];omega⟩ tsb
  ·rw [List.map_append];exact hK _ _ _ w1 kps
  ·rw [List.map_append];exact w3 _ (by exact lkg)
  ·intro z hz
   rcases List.mem_append.1 hz with hz|hz
   ·exact i3 z hz
   ·rw [List.mem_singleton.1 hz];exact hy
end
section
variable {h:H}
noncomputable def mh (hn mb:Nat)(st:LS):Blk:= .loop ⟨st,none,191,cf191.ntmps,tms [(6,some (.fn (.func 167) [] [.ptr mb 0])),(4,some .nils),(2,some (.ptr hn 0)),(1,some (.fn (.func 167) [] [.ptr mb 0])),(0,some .nils)],[7],c191_2,c191_4,hn+1⟩
omit L X in
structure RAB (h hh:H)(mb:Nat)(S:List Int):Prop where
 k:K0 h hh
 dk:Gk hh (h.n+1) (.dfr (some []))
 lp:Gk hh (h.n+2) (mh h.n mb .ready)
 ex: ∃v,Bk hh h.n [v]∧((S= []∧v= .nils)∨(0<S.length∧ ∃b,v= .slc b 0 S.length (Aa+1)∧Bk hh b (S.map AI)∧h.n+4≤b))
theorem Wb {mb r1 ck:Nat}{M:List (Int×AV×Nat)}(q:MOk M ck)(k1:Bk h mb [.map r1])(k2:Mk h r1 (M.map (mE AI)) ck)(hlen:M.length<2000):
  Ct P0 E F K 191 [.nils,.fn (.func 167) [] [.ptr mb 0]] h fun v h'=> ∃S,List.Perm S (M.map (·.1))∧K0 h h'∧((S= []∧v= .nils)∨(0<S.length∧ ∃b,v= .slc b 0 S.length (Aa+1)∧Bk h' b (S.map AI)∧h.n≤b)):=by
 have l1:=k1.lt
 have l2:=k2.lt
 refine Ad L X.f191 X.k191 rfl rfl fun Q x cs G=>?_
 refine wk ?_
 refine Hq L (post:=fun _ h'=> ∃S,List.Perm S (M.map (·.1))∧RAB h h' mb S) rfl rfl rfl ?_ ?_
 ·refine Ct.A ((au L X q (fun S hh=>RAB h hh mb S) (fun S hh r=>⟨Ag r.k k1,O7 r.k k2⟩) (fun S hh h' r k=>?_) (fun S z hh r hSl hlt=>?_) ⟨kps,lkg,lkg,.nils,lkp,.inl ⟨rfl,rfl⟩⟩).mono fun v h' p=>p)
  ·obtain⟨r1,r2,r3,v,r4,r5⟩:=r
   simp only [Am]at k
   have l3:=r4.lt
   refine⟨Kp.trS k (fun i hi e=>by omega) r1,Il k (by omega) r2,Il k (by omega) r3,v,As k (by omega) r4,?_⟩
   rcases r5 with r5|⟨r5,b,r6,r7,r8⟩
   ·exact .inl r5
   ·exact .inr ⟨r5,b,r6,As k (by omega) r7,r8⟩
  ·obtain⟨r1,r2,r3,v,r4,r5⟩:=r
   simp only [Am]at hlt
   have l3:=r4.lt
   have l4:=r3.lt
   have hle:=r3.e
   unfold mh at hle
   refine F1 L (l1:= [(7,some (AI z)),(6,some (.fn (.func 167) [] [.ptr mb 0])),(4,some .nils),(2,some (.ptr h.n 0)),(1,some (.fn (.func 167) [] [.ptr mb 0])),(0,some .nils)]) hle rfl ?_
   intro Q z2 cs G
   refine wk ?_
   refine Eu L (Gk.e lkg) ?_
   rcases r5 with⟨rfl,rfl⟩|⟨r5,b,rfl,r7,r8⟩
   ·refine wk ?_
    (apply st1 L rfl;exact F0 (new:= [AI z]) rfl rfl (SlR.of (c:= [AI z]) lkp (Nat.le_refl _) rfl) (by omega) (by omega);rfl)
    refine wk ?_
    refine Da L (Gk.e lkg) G ⟨rfl,?_,by simp only [Am];omega,fun x hx=>(fun hx2:Gk hh (h.n+3) x=>(show Gk _ (h.n+3) x from by exact lkg)) hx⟩
    exact⟨kps,lkg,(by unfold mh;exact Dx (by omega)),_,lkp,.inr ⟨by simp,hh.n+1,rfl,by exact lkp,by omega⟩⟩
   ·have l6:=r7.lt
    refine wk ?_
    (apply st1 L rfl;exact Fz (old:=S.map AI) (new:= [AI z]) rfl rfl (SlR.of (c:=S.map AI) lkp (by simp) (by rw [List.drop_zero,List.take_of_length_le (by simp)])) (SlR.of (c:= [AI z]) lkp (Nat.le_refl _) rfl) (by omega) (by omega) rfl;rfl)
    refine wk ?_
    refine Da L (Gk.e lkg) G ⟨rfl,?_,by simp only [Am];omega,fun x hx=>(fun hx2:Gk hh (h.n+3) x=>(show Gk _ (h.n+3) x from by exact lkg)) hx⟩
    exact⟨kps,lkg,(by unfold mh;exact Dx (by omega)),_,lkp,.inr ⟨by simp,hh.n+1,by simp,(by rw [List.map_append];exact lkp),by omega⟩⟩
 ·rintro v h3 ⟨S,p,r1,r2,r3,v2,r4,r5⟩
  have hle:=r3.e
  unfold mh at hle
  have l4:=r4.lt
  have l5:=r2.lt
  refine Gd L (n:=h3.n) (t:=h3.t) (lh:= []) hle (by intro q;cases q) ?_
  refine wk ?_
  refine D0 L (todo:= []) ?_
  refine F2 L (by intro q;cases q) (Gk.e lkg) ?_
  refine Eb L X.f191 (C0 rfl) G ⟨S,p,kps,?_⟩
  rcases r5 with r5|⟨r5,b,r6,r7,r8⟩
  ·exact .inl r5
  ·exact .inr ⟨r5,b,r6,by exact lkp,by omega⟩
end
section
variable {h:H}
theorem Up {mb r1 ck:Nat}{M:List (Int×AV×Nat)}(q:MOk M ck)(k1:Bk h mb [.map r1])(k2:Mk h r1 (M.map (mE AI)) ck)(hlen:M.length<2000):
  Ct P0 E F K 166 [.fn (.func 167) [] [.ptr mb 0]] h fun v h'=> ∃S,List.Perm S (M.map (·.1))∧K0 h h'∧RowN h' h.n v S:=by
 refine Al L X.f166 X.k166 rfl rfl fun Q x cs G=>?_
 refine wk ?_
 refine cal (c:=Wb L X q k1 k2 hlen) (g:=?_)
 rintro _ h2 ⟨S,p,w1,w2⟩
 rcases w2 with⟨rfl,rfl⟩|⟨w2,b,rfl,w3,w4⟩
 ·refine wk ?_
  refine ret X.f166 ?_
  exact⟨_,p,kps,⟨.inl ⟨by first|rfl|exact List.mergeSort_nil,rfl⟩⟩⟩
 ·refine wk ?_
  refine ret X.f166 ?_
  exact⟨_,p,kps,⟨.inr ⟨w2,b,rfl,by exact lkp,w4⟩⟩⟩
theorem Wc {mb r1 ck:Nat}{M:List (Int×AV×Nat)}(U:SortOk P0 E F 129)(q:MOk M ck)(k1:Bk h mb [.map r1])(k2:Mk h r1 (M.map (mE AI)) ck)(hlen:M.length<2000):
  Ct P0 E F K 136 [.fn (.func 167) [] [.ptr mb 0]] h fun v h'=> ∃S,List.Perm S (M.map (·.1))∧K0 h h'∧RowN h' h.n v (Fi S):=by
 obtain⟨g0,hg0⟩:=U.g
 refine Al L X.f136 X.k136 rfl rfl fun Q x cs G=>?_
 refine wk ?_
 refine cal (c:=Up L X q k1 k2 hlen) (g:=?_)
 rintro _ h2 ⟨S,p,w1,w2⟩
 have pl:=p.length_eq
 rw [List.length_map]at pl
 rcases w2.ex with⟨rfl,rfl⟩|⟨w3,b,rfl,w4,w5⟩
 ·refine wk ?_
  refine Xq L rfl rfl rfl rfl hg0 (U.x0 _) ?_
  rintro _ _ ⟨rfl,rfl⟩
  refine wk ?_
  refine ret X.f136 ?_
  exact⟨_,p,kps,⟨.inl ⟨by first|rfl|exact List.mergeSort_nil,rfl⟩⟩⟩
 ·refine wk ?_
  refine Xq L rfl rfl rfl rfl hg0 (U.x _ _ S (by exact lkp) w3 (by omega)) ?_
  rintro _ h3 ⟨rfl,w6,w7⟩
  refine wk ?_
  refine ret X.f136 ?_
  exact⟨_,p,kps,⟨.inr ⟨by rw [Ew];exact w3,b,by rw [Ew];rfl,by exact lkp,w5⟩⟩⟩
theorem Wd {r1 ck:Nat}{M:List (Int×AV×Nat)}(U:SortOk P0 E F 129)(q:MOk M ck)(k2:Mk h r1 (M.map (mE AI)) ck)(hlen:M.length<2000):
  Ct P0 E F K 93 [.map r1] h fun v h'=> ∃S,List.Perm S (M.map (·.1))∧K0 h h'∧RowN h' h.n v (Fi S):=by
 have l2:=k2.lt
 have hkeys:Ct P0 E F K 137 [.map r1] h fun v h'=>v= .fn (.func 167) [] [.ptr h.n 0]∧Bk h' h.n [.map r1]∧K0 h h'∧h'.n=h.n+1:=by
  refine Al L X.f137 X.k137 rfl rfl fun Q x cs G=>?_
  refine wk ?_
  refine ret X.f137 ?_
  exact⟨rfl,lkp,kps,rfl⟩
 refine Al L X.f93 X.k93 rfl rfl fun Q x cs G=>?_
 refine wk ?_
 refine cal (c:=hkeys) (g:=?_)
 rintro _ h2 ⟨rfl,w1,w2,w3⟩
 refine wk ?_
 refine cal (c:=Wc L X U q w1 (O7 w2 k2) hlen) (g:=?_)
 rintro _ h3 ⟨S,p,w4,w5⟩
 have w6:=w5
 rcases w5.ex with⟨e0,rfl⟩|⟨w7,b,rfl,w8,w9⟩
 ·refine wk ?_
  refine ret X.f93 ?_
  exact⟨_,p,kps,⟨.inl ⟨e0,rfl⟩⟩⟩
 ·refine wk ?_
  refine ret X.f93 ?_
  exact⟨_,p,kps,⟨.inr ⟨w7,b,rfl,by exact lkp,by omega⟩⟩⟩
end
end
def ext (κ: Nat→Nat)(n:Nat):Nat→Nat:=fun b=>if b<n then κ b else 0
theorem Af {κ: Nat→Nat}{n b:Nat}(h:b<n):ext κ n b=κ b:=if_pos h
theorem B4 {κ: Nat→Nat}{n b:Nat}(h:n≤b):ext κ n b=0:=if_neg (by omega)
def CtX (P:Program)(E:Env)(F:T CFn)(K:T (List AV×AV))(f:Nat)(args:List AV)(h:H)(post pan:AV→H→Prop):Prop:=
 ∀(Q:Nat→AV→Prop) (x:AFr) (cs:List AFr),(∀v h',post v h'→GO P E Q (finish v cs h' x))→(∀v h',pan v h'→Good P E Q ⟨J1 x [(v,false)],cs,h'⟩)→GO P E Q (Br F K (.func f) args false x cs h)
section
variable {P:Program}{E:Env}{F:T CFn}{K:T (List AV×AV)}{Q:Nat→AV→Prop}
variable {fn nt:Nat}{l q:List (Nat×Option AV)}{k:List AItem}{ds:List ADef}{dfd:Bool}{ro:Option Nat}{cs:List AFr}{h:H}{gd:Option (Nat×Bool)}{x:O}{r:List CI}{nm:List Nat}{pre chk:List DI}{ps:List Ph}
variable {post pan:AV→H→Prop}
variable (L:Lg P E F K)
theorem Ct.X {f:Nat}{args:List AV}(c:Ct P E F K f args h post):CtX P E F K f args h post pan:=fun Q x cs g _=>c Q x cs g
theorem CtP.X {f:Nat}{args:List AV}(c:CtP P E F K f args h pan):CtX P E F K f args h post pan:=fun Q x cs _ g=>c Q x cs g
theorem CtX.mono {post' pan':AV→H→Prop}{f:Nat}{args:List AV}(c:CtX P E F K f args h post' pan')(m: ∀v h',post' v h'→post v h')(mp: ∀v h',pan' v h'→pan v h'):CtX P E F K f args h post pan:=
 fun Q x cs g gp=>c Q x cs (fun v h' p=>g v h' (m v h' p)) fun v h' p=>gp v h' (mp v h' p)
include L
theorem mi {d:Nat}{f:Nat}{a:List O}{fst va cp r0 args:List AV}(hg:gdO gd l=some true)(e:evO l x=some (.fn (.func f) fst cp))(ha:E1 l a=some va)(h0:D3 va cp=some r0)(hr:D3 fst r0=some args)(hc:CtX P E F K f args h post pan)
  (g: ∀v h',post v h'→Good P E Q ⟨⟨fn,nt,tms ((d,some v)::l),.ops r::k,ds,.run,dfd,ro⟩,cs,hp h'.n h'.t []⟩)
  (gp: ∀v h',pan v h'→Good P E Q ⟨⟨fn,nt,tms l,.ops (⟨some d,gd,.callv x a⟩::r)::k,ds,.panicking [(v,false)],dfd,ro⟩,cs,h'⟩):
  Good P E Q ⟨⟨fn,nt,tms l,.ops (⟨some d,gd,.callv x a⟩::r)::k,ds,.run,dfd,ro⟩,cs,h⟩:=
 Q1 L (Ax hg) (Nm e ha h0 hr) (hc Q _ cs (fun v h' p=>Jx L cvb (g v h' p)) fun v h' p=>gp v h' p)
theorem x9 {di:Nat}{f:Nat}{a:List O}{va cp args:List AV}(ho:Cd l nm=some q)(hg:gdO gd q=some true)(e:evO q x=some (.fn (.func f) [] cp))(ha:E1 q a=some va)(hr:D3 va cp=some args)(hc:CtX P E F K f args h post pan)
  (g: ∀v h',post v h'→Bi P E Q pre chk ps k fn nt (tms ((di,some v)::l)) ds dfd ro cs (hp h'.n h'.t []))
  (gp: ∀v h',pan v h'→Good P E Q ⟨⟨fn,nt,Me chk (tms l),[.gone],ds,.panicking [(v,false)],dfd,ro⟩,cs,h'⟩):
  Good P E Q ⟨⟨fn,nt,tms l,.drawn ⟨⟨⟨some di,gd,.callv x a⟩,nm⟩,pre,chk⟩ ps::k,ds,.run,dfd,ro⟩,cs,h⟩:=
 e_c L ho (Ax hg) (Hl e ha hr) (hc Q _ cs (fun v h' p=>fd cvb (g v h' p)) fun v h' p=>gp v h' p)
theorem Ca {f:Nat}{g:CFn}{args:List AV}{l0 l1:List (Nat×Option AV)}{td:List AItem}(hf:T.get F f=some g)(hm:T.get K f=none)(hn:Nat.ble args.length g.ntmps=true)(hl:Zp 0 args []=l0)(ha:adv 1000 [.code g.body] l0=(td,l1))
  (body: ∀(Q:Nat→AV→Prop) (x:AFr) (cs:List AFr),(∀v h',post v h'→GO P E Q (finish v cs h' x))→(∀v h',pan v h'→Good P E Q ⟨J1 x [(v,false)],cs,h'⟩)→Good P E Q ⟨⟨f,g.ntmps,tms l1,td,[],.run,false,none⟩,x::cs,hp h.n h.t []⟩):CtX P E F K f args h post pan:=by
 intro Q x cs hG hP
 have h1:ofL 0 .leaf args=tms l0:=by rw [←hl];exact Ko args 0 []
 exact vx L hf hm hn h1 (B6 L 1000 ha (body Q x cs hG hP))
theorem H3 {p B1 B2 A:Prop}(h:p→Lft B1→Lft B2→A:=by
 intro hc_ g_ gp_
 first
  |(apply mi L rfl rfl rfl rfl rfl;exact hc_;exact g_.g;exact gp_.g)
  |(apply callcX0 L rfl rfl rfl rfl rfl;exact hc_;exact g_.g;exact gp_.g)
  |(apply x9 L rfl rfl rfl rfl rfl;exact hc_;exact g_.g;exact gp_.g)
  |(apply dcallX0 L rfl rfl rfl rfl rfl;exact hc_;exact g_.g;exact gp_.g)) (c:p) (g:B1) (gp:B2):A:=h c ⟨g⟩ ⟨gp⟩
end
section
variable {P0:Program}{E:Env}{F:T CFn}{K:T (List AV×AV)}(L:Lg P0 E F K)(X:Fx F K)
include L X
omit L X in
theorem We (l:List Ent)(a n:Nat):((l.flatMap Az).drop (a*2)).take (n*2)=((l.drop a).take n).flatMap Az:=by
 induction l generalizing a with
 |nil=>simp
 |cons e r ih=>
  cases a with
  |succ a=>
   rw [List.flatMap_cons,show(a+1)*2=a*2+1+1 by omega]
   show((_::_::r.flatMap Az).drop (a*2+1+1)).take _=_
   rw [List.drop_succ_cons,List.drop_succ_cons,ih a,List.drop_succ_cons]
  |zero=>
   have h0:=ih 0
   rw [Nat.zero_mul,List.drop_zero,List.drop_zero]at h0 ⊢
   clear ih
   induction n generalizing e r with
   |zero=>simp
   |succ n ih2=>
    rw [List.take_succ_cons,List.flatMap_cons,List.flatMap_cons,show(n+1)*2=n*2+1+1 by omega]
    show(_::_::r.flatMap Az).take (n*2+1+1)=_::_::(r.take n).flatMap Az
    rw [List.take_succ_cons,List.take_succ_cons]
    congr 2
    cases r with
    |nil=>simp
    |cons e2 r2=>
     have:=ih2 e2 r2 (by
      have key: ∀(q:List Ent) (m:Nat),(q.flatMap Az).take (m*2)=(q.take m).flatMap Az:=by
       intro q
       induction q with
       |nil=>intro m;simp
       |cons a b ihq=>
        intro m
        cases m with
        |zero=>simp
        |succ m=>
         rw [List.take_succ_cons,List.flatMap_cons,List.flatMap_cons,show(m+1)*2=m*2+1+1 by omega]
         show(_::_::b.flatMap Az).take (m*2+1+1)=_::_::(b.take m).flatMap Az
         rw [List.take_succ_cons,List.take_succ_cons,ihq m]
      exact key r2 n)
     exact this
def Iw (l:List Ent)(n:Nat):List Nat:=n::l.flatMap fun e=> [e.1.toNat,(e.2+1).toNat]
omit L X in
theorem Uq (l:List Ent)(n:Nat):(Iw l n).length=1+2*l.length:=by
 unfold Iw
 rw [List.length_cons]
 have: ∀r:List Ent,(r.flatMap fun e=> [e.1.toNat,(e.2+1).toNat]).length=2*r.length:=by
  intro r
  induction r with
  |nil=>rfl
  |cons a r ih=>rw [List.flatMap_cons,List.length_append,ih];simp only [List.length_cons,List.length_nil];omega
 rw [this];omega
omit L X in
theorem av {l:List Ent}{i n:Nat}{e:Ent}(h:l[i]?=some e):Iw (l.take (i+1)) n=Iw (l.take i) n++ [e.1.toNat,(e.2+1).toNat]:=by
 unfold Iw
 rw [List.take_add_one,h,List.flatMap_append];simp
omit L X in
theorem ml (sz:Nat)(l:List Ent):(Iw l l.length).flatMap (leb 4)++List.replicate (sz - 4*(1+2*l.length)) 0=D4 sz l:=by
 unfold Iw D4
 rw [List.flatMap_cons,show sz - 4*(1+2*l.length)=sz - 4 - 8*l.length by omega]
 congr 2
 induction l with
 |nil=>rfl
 |cons e r ih=>
  rw [List.flatMap_cons,List.flatMap_cons,List.flatMap_append,ih]
  simp [jo]
section
variable {h:H}
theorem Wf {lo sz:Nat}{v:AV}{l:List Ent}(q:EL h lo v l)(hok: ∀e∈l,e.Ok)(hsz:12≤sz∧sz<900)(hfit:4+8*l.length≤sz):
  Ct P0 E F K 143 [eI ((sz:Nat):Int),v] h fun u h'=> ∃b,u= .tup [.slc b 0 sz (Aa+1),eI ((0:Nat):Int)]∧BS h' b 0 (D4 sz l)∧h.n≤b∧K0 h h':=by
 have hlen:l.length<1000:=by omega
 have cell: ∀(e:Ent),e.Ok→ ∃a b:Nat,e=(((a:Nat):Int),((b:Nat):Int) - 1)∧a<4294967296∧b<4294967296:=by
  rintro⟨a,b⟩ ⟨h1,h2,h3,h4⟩
  simp only at h1 h2 h3 h4
  refine⟨a.toNat,(b+1).toNat,?_,by omega,by omega⟩
  rw [Prod.mk.injEq];omega
 have hall: ∀x∈Iw l l.length,x<4294967296:=by
  intro x hx
  unfold Iw at hx
  rcases List.mem_cons.1 hx with rfl|hx
  ·omega
  ·obtain⟨e,he,hx⟩:=List.mem_flatMap.1 hx
   obtain⟨a,b,rfl,ha,hb⟩:=cell e (hok e he)
   simp only [List.mem_cons,List.not_mem_nil,or_false]at hx
   omega
 have hfl:=Uq l l.length
 have fin: ∀(Q:Nat→AV→Prop) (x:AFr) (cs:List AFr) (h2:H) (lq:List (Nat×Option AV)) (fb cap:Nat),(∀u h',(∃b,u= .tup [.slc b 0 sz (Aa+1),eI ((0:Nat):Int)]∧BS h' b 0 (D4 sz l)∧h.n≤b∧K0 h h')→GO P0 E Q (finish u cs h' x))→
   Bk h2 fb ((Iw l l.length).map fun n=>eI ((n:Nat):Int))→Kp (fun j=>h.n≤j) h h2→TSub (tms [(42,some (.slc fb 0 (1+2*l.length) cap)),(41,some (eI ((sz:Nat):Int)))]) (tms lq)→
   Good P0 E Q ⟨⟨143,cf143.ntmps,tms lq,[.ops [Cc 43 171 [(.t 41),(.t 42)],Cv 4 43,Cm 5 0],.code .ret],[],.run,false,none⟩,x::cs,hp h2.n h2.t []⟩:=by
  intro Q x cs h2 lq fb cap G kb k2 ht
  have n2:=k2.n
  refine E0 L ht ?_
  refine cal (c:=Z8 L X (sz:=sz) (k:=1+2*l.length) kb hfl (by omega) hall (by omega)) (g:=?_)
  rintro _ h3 ⟨b3,rfl,w1,w2,w3⟩
  refine wk ?_
  refine ret X.f143 ?_
  rw [ml]at w1
  exact⟨b3,rfl,w1,by omega,Kp.cut (Kp.tr0 w3 k2) (Nat.le_refl _)⟩
 rcases q.len with⟨rfl,rfl⟩|⟨hpos,b,rfl,hb,-⟩
 ·refine Ad L X.f143 X.k143 rfl rfl fun Q x cs G=>?_
  refine wk ?_
  refine cal (c:=Gf L X (sz:=sz) (by omega)) (g:=?_)
  rintro _ rfl
  refine wk ?_
  refine cal (c:=Fh L X q hlen hok) (g:=?_)
  rintro _ h2 ⟨rfl,k2⟩
  refine wk ?_
  refine cal (c:=Gf L X (sz:=sz) (by omega)) (g:=?_)
  rintro _ rfl
  refine wk ?_
  refine A2 L ?_
  refine wk ?_
  have n2:=k2.n
  exact fin Q x cs (hp (h2.n+1) h2.t [(h2.n,some (cl [eI ((0:Nat):Int)]))]) _ h2.n 1 G lkp kps tsb
 ·have hl2:=A8 l
  have lb:=hb.lt
  refine Ad L X.f143 X.k143 rfl rfl fun Q x cs G=>?_
  refine wk ?_
  refine cal (c:=Gf L X (sz:=sz) (by omega)) (g:=?_)
  rintro _ rfl
  refine wk ?_
  refine cal (c:=Fh L X q hlen hok) (g:=?_)
  rintro _ h2 ⟨rfl,k2⟩
  refine wk ?_
  refine cal (c:=Gf L X (sz:=sz) (by omega)) (g:=?_)
  rintro _ rfl
  have n2:=k2.n
  refine wk ?_
  refine Co L (α:= Nat×Nat) (T:=fun i s=> [(28,some (eI ((i:Nat):Int))),(27,some (eI ((l.length:Nat):Int))),(26,some (.slc b 0 l.length (Aa+2))),(6,some (.slc s.1 0 (1+2*i) s.2)),(0,some (eI ((sz:Nat):Int)))]) (n:=l.length)
   (R:=fun i s h3=>Bk h3 s.1 ((Iw (l.take i) l.length).map fun n=>eI ((n:Nat):Int))∧h.n≤s.1∧s.2=(if i=0 then 1 else Aa+1)∧Kp (fun j=>h.n≤j) h h3) (i0:=0) (h2.n,1) tsb ⟨by simp only [Iw,List.take_zero,List.flatMap_nil,List.map_cons,List.map_nil];exact lkp,by simp only;omega,rfl,kps⟩ (Nat.zero_le _) ?_ ?_
  ·rintro i ⟨fb,cap⟩ h3 hi ⟨q1,q2,q3,q4⟩ ih
   simp only at q1 q2 q3
   have hx:l[i]?=some l[i]:=List.getElem?_eq_getElem hi
   have hdt:=Ff l (Ks l) i _ hx
   obtain⟨ea,eb,he,ha1,hb1⟩:=cell _ (hok _ (List.getElem_mem hi))
   have hb2:Bk h3 b (l.flatMap Az):=As q4 (by omega) hb
   have n3:=q4.n
   have lf:=q1.lt
   have hfi:=Uq (l.take i) l.length
   rw [List.length_take]at hfi
   rw [av hx,he]at ih
   rw [he]at hdt
   have hdt':i*2+2≤(l.flatMap Az).length∧((l.flatMap Az).drop (i*2)).take 2= [eI ((ea:Nat):Int),eI (((eb:Nat):Int) - 1)]:=hdt
   have e5:(((eb:Nat):Int) - 1)+((1:Nat):Int)=((eb:Nat):Int):=by omega
   simp only at ih
   rw [show(((ea:Nat):Int)).toNat=ea from Int.toNat_natCast ea,show(((eb:Nat):Int) - 1+1).toNat=eb by omega]at ih
   refine wk ?_
   (apply st1 L rfl;exact Bs hb2.rk hdt' rfl;rfl)
   refine wk ?_
   rw [e5]
   have hlf:((Iw (l.take i) l.length).map fun n=>eI ((n:Nat):Int)).length=1+2*i:=by rw [List.length_map,hfi];omega
   have hin: ∀hh:H,Bk hh fb ((Iw (l.take i) l.length).map fun n=>eI ((n:Nat):Int))→SlR 1 hh (.slc fb 0 (1+2*i) cap) (1+2*i) ((Iw (l.take i) l.length).map fun n=>eI ((n:Nat):Int)):=fun hh k=>SlR.of k (by omega) (by rw [List.drop_zero,List.take_of_length_le (by omega)])
   by_cases hi0:i=0
   ·rw [if_pos hi0]at q3
    subst q3
    subst hi0
    (apply st1 L rfl;exact qv (old:=(Iw (l.take 0) l.length).map fun n=>eI ((n:Nat):Int)) (new:= [eI ((ea:Nat):Int),eI ((eb:Nat):Int)]) rfl rfl (hin _ (by exact lkp)) (SlR.of (c:= [eI ((ea:Nat):Int),eI ((eb:Nat):Int)]) lkp (Nat.le_refl _) rfl) (by omega) (by decide) (by omega);rfl)
    refine wk ?_
    refine ih (h3.n+1+1,Aa+1) _ _ ⟨?_,by simp only;omega,rfl,kps⟩ tsb
    rw [List.map_append]
    exact lkp
   ·rw [if_neg hi0]at q3
    subst q3
    (apply st1 L rfl;exact Fz (old:=(Iw (l.take i) l.length).map fun n=>eI ((n:Nat):Int)) (new:= [eI ((ea:Nat):Int),eI ((eb:Nat):Int)]) rfl rfl (hin _ (by exact lkp)) (SlR.of (c:= [eI ((ea:Nat):Int),eI ((eb:Nat):Int)]) lkp (Nat.le_refl _) rfl) (by omega) (by omega) rfl;rfl)
    refine wk ?_
    refine ih (h3.n+1+1,Aa+1) _ _ ⟨?_,by simp only;omega,(by rw [if_neg (by omega)]),kps⟩ ?_
    ·rw [List.map_append]
     exact lkp
    ·rw [show 1+2*(i+1)=1+2*i+2 by omega];exact tsb
  ·rintro⟨fb,cap⟩ h3 ⟨q1,q2,q3,q4⟩
   simp only at q1 q2 q3
   rw [List.take_length]at q1
   have n3:=q4.n
   have lf:=q1.lt
   refine wk ?_
   exact fin Q x cs _ _ fb cap G (by exact lkp) kps tsb
end
end
end Go.Ev
