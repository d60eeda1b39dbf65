/- Part of the proof. -/
import Derived.Test.YtclfgfpebplncaaGreatH07
import Derived.Test.YtclfgfpebplncaaGreatH04
import Derived.Test.YtclfgfpebplncaaGreatH06
import Derived.Test.YtclfgfpebplncaaGreatH05
set_option linter.unusedVariables false
set_option linter.unusedSectionVars false
set_option linter.unusedSimpArgs false
set_option maxRecDepth 10000
set_option maxHeartbeats 4000000
namespace Go.Ev
variable {B:Nat→Prop}{D:Dv}{E:Env}{F:T CFn}{K:T (List AV×AV)}{M:List (Int×AV×Nat)}{P b f fm i lp mb nb o r r1:Nat}{args cb:List AV}{h h':H}{s:Int}{κ κ':Nat→Nat}
section
variable {P0:Program}(L:Lg P0 E F K)(X:Fx F K)
include L X
noncomputable def invA (A:Int→Option Int)(p:Int):Int:= @dite Int (∃s,A s=some p) (Classical.propDecidable _) (fun h=>Classical.choose h) fun _=>0
omit L X in
theorem E8 {A:Int→Option Int}{p:Int}(h:A s=some p)(inj: ∀s s' p,A s=some p→A s'=some p→s=s'):invA A p=s:=by have hx: ∃s,A s=some p:=⟨s,h⟩;unfold invA;rw [dif_pos hx];exact inj _ _ p (Classical.choose_spec hx) h
noncomputable def Eb (A:Int→Option Int)(P i j:Nat):List Int:=((List.range j).map fun k=>((i*P+k:Nat):Int)).filter (I6 A)
omit L X in
theorem R2 (A:Int→Option Int)(P i j:Nat):Eb A P i (j+1)=Eb A P i j++if I6 A ((i*P+j:Nat):Int)=true then [((i*P+j:Nat):Int)]else []:=by
 unfold Eb;rw [List.range_succ,List.map_append,List.filter_append];congr 1;show List.filter (I6 A) [((i*P+j:Nat):Int)]=_;by_cases h:I6 A ((i*P+j:Nat):Int)=true;·rw [if_pos h,List.filter_cons_of_pos h];rfl
 ·rw [if_neg h,List.filter_cons_of_neg h];rfl
omit L X in
theorem Kn (A:Int→Option Int)(P i:Nat): ∀j,(Eb A P i j).length=M0 (fun k=>I6 A ((i*P+k:Nat):Int)) j
 |0=>rfl
 |j+1=>by
  rw [R2,List.length_append,Kn A P i j];simp only [M0];by_cases h:I6 A ((i*P+j:Nat):Int)=true;·rw [if_pos h,if_pos h];rfl
  ·rw [if_neg h,if_neg h];rfl
section
theorem li:Ct P0 E F K 174 [.nils,.nils] h fun v h'=>v= .fn (.func 209) [] [.ptr h.n 0,.ptr (h.n+1) 0]∧Bk h' h.n [.nils]∧Bk h' (h.n+1) [.nils]∧K0 h h':=by exact Abc
theorem ly {a0 b0 k0 l0:Nat}:Ct P0 E F K 174 [.slc a0 0 k0 (Aa+1),.slc b0 0 l0 (Aa+1)] h fun v h'=>v= .fn (.func 209) [] [.ptr h.n 0,.ptr (h.n+1) 0]∧Bk h' h.n [.slc a0 0 k0 (Aa+1)]∧Bk h' (h.n+1) [.slc b0 0 l0 (Aa+1)]∧K0 h h':=by exact Abc
variable {S m r2 vb:Nat}{A:Int→Option Int}
theorem vu (q:MpR S nb P h m r1 r2 vb A):Ct P0 E F K 89 [.ptr m 0,AI s] h fun v h'=>(v=match A s with|some p=> .tup [AI p,.bool true]|none=> .tup [Zi,.bool false])∧h'=h:=by
 obtain⟨km,-,rg,nz,M1,M2,c1,c2,cv,k1,o1,k2,o2,kv,vl,vv,mr⟩:=q;have ha:=mr.a1 s;refine Af L X.f89 fun Q x cs G=>?_;refine wk ?_;(apply st1 L rfl;exact D6 (KE.int .i64) rfl rfl lkq;rfl);rw [ha]
 cases hA:A s with
 |none=>refine ret X.f89.1 ?_;refine⟨?_,rfl⟩;rw [hA];rfl
 |some p=>refine ret X.f89.1 ?_;refine⟨?_,rfl⟩;rw [hA];rfl
theorem Fj (q:MpR S nb P h m r1 r2 vb A):Ct P0 E F K 88 [.ptr m 0] h fun v h'=>v=AN S∧h'=h:=by have km:=q.km;refine Ao L X.f88 fun Q x cs G=>?_;refine ret X.f88.1 ?_;exact⟨rfl,rfl⟩
theorem Oc (q:MpR S nb P h m r1 r2 vb A)(hi:i<nb):Ct P0 E F K 134 [.ptr m 0,AN i] h fun v h'=>v=AN (valA A P i)∧h'=h:=by obtain⟨km,-,rg,nz,M1,M2,c1,c2,cv,k1,o1,k2,o2,kv,vl,vv,mr⟩:=q;have hv:=vv i hi;refine Af L X.f134 fun Q x cs G=>?_;refine ret X.f134.1 ?_;exact⟨rfl,rfl⟩
theorem lz (q:MpR S nb P h m r1 r2 vb A)(hi:i<nb):Ct P0 E F K 136 [.ptr m 0,AN i] h fun v h'=> ∃a b va vb',v= .fn (.func 209) [] [.ptr a 0,.ptr b 0]∧Bk h' a [va]∧Bk h' b [vb']∧RowN h' h.n va (Eb A P i P)∧RowN h' h.n vb' ((Eb A P i P).map (invA A))∧K0 h h'∧h.n≤a∧h.n≤b:=by
 have q0:=q;have inj:=q.inv.inj;obtain⟨km,-,rg,nz,M1,M2,c1,c2,cv,k1,o1,k2,o2,kv,vl,vv,mr⟩:=q;have l1:=km.lt;have l3:=k2.lt;have hlen:=Kn A P i P;have hm:i*P≤12*6:=Nat.mul_le_mul (by omega) (by omega);have e1:(i+1)*P=i*P+P:=by rw [Nat.add_mul,Nat.one_mul]
 refine Af L X.f136 fun Q x cs G=>?_;refine cal ?_ (c:=Oc L X q0 hi);rintro _ rfl;by_cases hz:valA A P i=0;·have hD:Eb A P i P= []:=List.length_eq_zero_iff.1 (by rw [hlen];exact hz);rw [hz];refine cal ?_ (c:=li L X);rintro _ h3 ⟨rfl,u1,u2,u3⟩;refine ret X.f136.1 ?_;rw [hD];exact⟨_,_,.nils,.nils,rfl,by exact lkp,by exact lkp,⟨.inl ⟨rfl,rfl⟩⟩,⟨.inl ⟨rfl,rfl⟩⟩,kps,by first|omega|(simp only [Al]at *;omega),by first|omega|(simp only [Al]at *;omega)⟩
 ·refine wk ?_;refine Bs L (α:= AV×AV) (T:=fun j s=> [(7,some (AN (i*P+j))),(5,some s.1),(6,some s.2),(1,some (AN i)),(0,some (.ptr m 0))]) (n:=P) (R:=fun j s h3=>((Eb A P i j= []∧s.1= .nils∧s.2= .nils)∨(0<(Eb A P i j).length∧ ∃b c,s.1= .slc b 0 (Eb A P i j).length (Aa+1)∧s.2= .slc c 0 (Eb A P i j).length (Aa+1)∧Bk h3 b ((Eb A P i j).map AI)∧Bk h3 c (((Eb A P i j).map (invA A)).map AI)∧b≠c∧h.n≤b∧h.n≤c))∧Kp (fun j=>h.n≤j) h h3) (i0:=0) (.nils,.nils) tsb ⟨.inl ⟨rfl,rfl,rfl⟩,kps⟩ (Nat.zero_le _) ?_ ?_
  ·rintro j ⟨sa,sb⟩ h3 hj ⟨u1,u2⟩ ih;simp only at u1;have n3:=u2.n;have km3:=Aq u2 (by omega) km;have k23:=Me u2 (by omega) k2;have hjl:=Kn A P i j;have hcl:=P4 (fun k=>I6 A ((i*P+k:Nat):Int)) j;have hs:=R2 A P i j;have e2:((i*P+j:Nat):Int)+((1:Nat):Int)=((i*P+(j+1):Nat):Int):=(by omega);generalize hp:Eb A P i j=D at*;refine wk ?_;(apply st1 L rfl;exact D6 (KE.int .i64) rfl rfl lkq;rfl)
   cases hg:A5 M2 ((i*P+j:Nat):Int)with
   |none=>
    have hno:I6 A ((i*P+j:Nat):Int)=false:=hasP_f.2 fun⟨s,hs⟩=>by rw [mr.a2 s _ hs]at hg;cases hg
    rw [hno,if_neg (by simp),List.append_nil]at hs;rw [hs]at ih;refine wk ?_;exact ih (sa,sb) _ _ ⟨u1,kps⟩ tsb
   |some u=>
    obtain⟨s,rfl,e3⟩:=mr.a3 _ u hg;have hyes:I6 A ((i*P+j:Nat):Int)=true:=hasP_t.2 ⟨s,e3⟩;rw [if_pos hyes]at hs;rw [hs]at ih;have hinv:invA A ((i*P+j:Nat):Int)=s:=E8 e3 inj;rcases u1 with⟨rfl,rfl,rfl⟩|⟨gn,b,c,rfl,rfl,g1,g2,g3,g4,g5⟩;·refine wk ?_;(apply st1 L rfl;exact Dr (new:= [AN (i*P+j)]) rfl rfl (SlR.of (c:= [AN (i*P+j)]) lkp (Nat.le_refl _) rfl) (by omega) (by omega);rfl);refine wk ?_;(apply st1 L rfl;exact Dr (new:= [AI s]) rfl rfl (SlR.of (c:= [AI s]) lkp (Nat.le_refl _) rfl) (by omega) (by omega);rfl);refine wk ?_;refine ih (.slc (h3.n+1) 0 1 (Aa+1),.slc (h3.n+1+1+1) 0 1 (Aa+1)) _ _ ⟨.inr ⟨by simp,h3.n+1,h3.n+1+1+1,rfl,rfl,by exact lkp,?_,by omega,by omega,by omega⟩,kps⟩ tsb;have e9:List.map AI (List.map (invA A) ([]++ [((i*P+j:Nat):Int)]))= [AI s]:=(by simp only [List.nil_append,List.map_cons,List.map_nil,hinv]);rw [e9];exact lkp
    ·have t1:=g1.lt;have t2:=g2.lt;refine wk ?_;(apply st1 L rfl;exact Dq (old:=D.map AI) (new:= [AN (i*P+j)]) rfl rfl (SlR.of (c:=D.map AI) lkp (by simp) (by rw [List.drop_zero,List.take_of_length_le (by simp)])) (SlR.of (c:= [AN (i*P+j)]) lkp (Nat.le_refl _) rfl) (by omega) (by omega) rfl;rfl);refine wk ?_;(apply st1 L rfl;exact Dq (old:=(D.map (invA A)).map AI) (new:= [AI s]) rfl rfl (SlR.of (c:=(D.map (invA A)).map AI) lkp (by simp) (by rw [List.drop_zero,List.take_of_length_le (by simp)])) (SlR.of (c:= [AI s]) lkp (Nat.le_refl _) rfl) (by omega) (by omega) rfl;rfl);refine wk ?_;refine ih (.slc (h3.n+1) 0 (D.length+1) (Aa+1),.slc (h3.n+1+1+1) 0 (D.length+1) (Aa+1)) _ _ ⟨.inr ⟨by simp,h3.n+1,h3.n+1+1+1,by simp,by simp,?_,?_,by omega,by omega,by omega⟩,kps⟩ tsb;·rw [List.map_append];exact lkp
     ·have e9:List.map AI (List.map (invA A) [((i*P+j:Nat):Int)])= [AI s]:=(by simp only [List.nil_append,List.map_cons,List.map_nil,hinv]);rw [List.map_append,List.map_append,e9];exact lkp
  ·rintro⟨sa,sb⟩ h3 ⟨u1,u2⟩;simp only at u1;have n3:=u2.n;have km3:=Aq u2 (by omega) km;rcases u1 with⟨e0,-,-⟩|⟨gn,b,c,rfl,rfl,g1,g2,g3,g4,g5⟩;·rw [e0]at hlen;exact absurd hlen.symm hz
   ·refine cal ?_ (c:=ly L X (a0:=b) (b0:=c) (k0:=(Eb A P i P).length) (l0:=(Eb A P i P).length));rintro _ h4 ⟨rfl,w1,w2,w3⟩;refine ret X.f136.1 ?_;refine⟨_,_,_,_,rfl,by exact lkp,by exact lkp,⟨.inr ⟨gn,b,rfl,by exact lkp,g4⟩⟩,⟨.inr ⟨by rw [List.length_map];exact gn,c,by rw [List.length_map],by exact lkp,g5⟩⟩,Kp.cut (Kp.tr0 w3 u2) (Nat.le_refl _),by simp only [Al]at *;omega,by simp only [Al]at *;omega⟩
end
def Hl (f:Nat→Nat)(n:Nat):List AV:=(List.range n).map fun i=>AN (f i)
omit L X
theorem M8 (f:Nat→Nat)(n:Nat):(Hl f n).length=n:=by simp [Hl]
theorem Xf (f:Nat→Nat){n:Nat}(hi:i<n):(Hl f n)[i]?=some (AN (f i)):=by simp [Hl,hi]
theorem T3 (f:Nat→Nat)(n:Nat):Hl f (n+1)=Hl f n++ [AN (f n)]:=by simp [Hl,List.range_succ]
theorem dt3 {c:List AV}{u v w:AV}(h1:c[o]?=some u)(h2:c[o+1]?=some v)(h3:c[o+2]?=some w):o+3≤c.length∧(c.drop o).take 3= [u,v,w]:=by
 have l3:=(List.getElem?_eq_some_iff.1 h3).1;refine⟨by omega,List.ext_getElem? fun i=>?_⟩;rcases i with _|_|_|i;·rw [List.getElem?_take_of_lt (by omega),List.getElem?_drop];exact h1
 ·rw [List.getElem?_take_of_lt (by omega),List.getElem?_drop];exact h2
 ·rw [List.getElem?_take_of_lt (by omega),List.getElem?_drop];exact h3
 ·rw [List.getElem?_take_eq_none (by omega)];rfl
include L X
theorem vw {pn nx er:Nat}:Ct P0 E F K 179 [.agg [.slc pn 0 P P,AN nx,AN er]] h fun v h'=>v=AN er∧K0 h h':=by refine Ao L X.f179 fun Q x cs G=>?_;refine ret X.f179.1 ?_;exact⟨rfl,kps⟩
theorem ma {d bb:Nat}(q:DevC κ h d D fm bb cb):Ct P0 E F K 178 [.slc bb 0 D.nb D.nb,.fn (.func 179) [] []] h fun v h'=>((D.nb=0∧v= .nils)∨ ∃b,v= .slc b 0 D.nb (Aa+1)∧Bk h' b (Hl (fun i=>(D.bl i).er) D.nb)∧h.n≤b)∧K0 h h':=by
 have hb:=q.bk;have hl:=q.blen;have hn:=q.nb;have lb:=hb.lt;refine Af L X.f178 fun Q x cs G=>?_;refine wk ?_;refine Bs L (α:= AV) (T:=fun i v=> [(9,some (AN i)),(8,some (AN D.nb)),(7,some (.slc bb 0 D.nb D.nb)),(4,some v),(1,some (.fn (.func 179) [] []))]) (n:=D.nb) (R:=fun i v h3=>((i=0∧v= .nils)∨(0<i∧ ∃b,v= .slc b 0 i (Aa+1)∧Bk h3 b (Hl (fun i=>(D.bl i).er) i)∧h.n≤b))∧Kp (fun j=>h.n≤j) h h3) (i0:=0) .nils tsb ⟨.inl ⟨rfl,rfl⟩,kps⟩ (Nat.zero_le _) ?_ ?_
 ·rintro i v h3 hi ⟨u1,u2⟩ ih;have hb3:=Aq u2 (by omega) hb;have n3:=u2.n;obtain⟨pn,c,hr⟩:=q.rows i hi;have hdt:=dt3 hr.c0 hr.c1 hr.c2;have hrl:=M8 (fun i=>(D.bl i).er) i;refine wk ?_;(apply st1 L rfl;exact Bg hb3.rk hdt rfl;rfl);refine cal ?_ (c:=vw L X);rintro _ h4 ⟨rfl,w1⟩;have n4:=w1.n;simp only [Al]at n4;rcases u1 with⟨rfl,rfl⟩|⟨hi0,b,rfl,g1,g2⟩;·refine wk ?_;(apply st1 L rfl;exact Dr (new:= [AN ((D.bl 0).er)]) rfl rfl (SlR.of (c:= [AN ((D.bl 0).er)]) lkp (Nat.le_refl _) rfl) (by omega) (by omega);rfl);refine wk ?_;refine ih (.slc (h4.n+1) 0 1 (Aa+1)) _ _ ⟨.inr ⟨by omega,h4.n+1,rfl,?_,by omega⟩,kps⟩ tsb;exact lkp
  ·have t1:=g1.lt;refine wk ?_;(apply st1 L rfl;exact Dq (old:=Hl (fun i=>(D.bl i).er) i) (new:= [AN ((D.bl i).er)]) rfl rfl (SlR.of (c:=Hl (fun i=>(D.bl i).er) i) lkp (by omega) (by rw [List.drop_zero,List.take_of_length_le (by omega)])) (SlR.of (c:= [AN ((D.bl i).er)]) lkp (Nat.le_refl _) rfl) (by omega) (by omega) rfl;rfl);refine wk ?_;refine ih (.slc (h4.n+1) 0 (i+1) (Aa+1)) _ _ ⟨.inr ⟨by omega,h4.n+1,rfl,?_,by omega⟩,kps⟩ tsb;rw [T3];exact lkp
 ·rintro v h3 ⟨u1,u2⟩;have n3:=u2.n;rcases u1 with⟨e,rfl⟩|⟨hi0,b,rfl,g1,g2⟩;·refine ret X.f178.1 ?_;exact⟨.inl ⟨e,rfl⟩,Kp.cut u2 (Nat.le_refl _)⟩
  ·refine ret X.f178.1 ?_;exact⟨.inr ⟨b,rfl,lkp,g2⟩,Kp.cut u2 (Nat.le_refl _)⟩
theorem Abf {d bb:Nat}(q:DevC κ h d D fm bb cb)(hnb:0<D.nb):Ct P0 E F K 127 [.ptr d 0] h fun v h'=> ∃a b,v= .fn (.func 180) [] [.ptr a 0]∧Bk h' a [.slc b 0 D.nb (Aa+1)]∧Bk h' b (Hl (fun i=>(D.bl i).er) D.nb)∧h.n≤a∧h.n≤b∧K0 h h':=by
 have hd:=q.dk;refine Ao L X.f127 fun Q x cs G=>?_;refine cal ?_ (c:=D4 L X (D:=D) lkp);rintro _ rfl;unfold dvC dvL at hd;have hk:K0 h (hp (h.n+1) h.t [(h.n,some (cl [.nils]))]):=kps;have q2:DevC κ (hp (h.n+1) h.t [(h.n,some (cl [.nils]))]) d D fm bb cb:=q.kb (hk.mono fun _ f=>f.elim);refine cal ?_ (c:=ma L X q2);rintro _ h3 ⟨u1,u2⟩;rcases u1 with⟨e,_⟩|⟨b,rfl,g1,g2⟩
 ·omega
 ·simp only [Al]at g2;have n3:=u2.n;simp only [Al]at n3;refine ret X.f127.1 ?_;exact⟨h.n,b,rfl,lkp,lkp,Nat.le_refl _,by omega,kps⟩
theorem vx {a:Nat}{f:Nat→Nat}(hnb:nb≤12)(I:Nat→H→Prop) (hI: ∀i hh,I i hh→Bk hh a [.slc b 0 nb (Aa+1)]∧Bk hh b (Hl f nb)) (hK: ∀i hh h',I i hh→K0 hh h'→I i h') (hY: ∀i hh,i<nb→I i hh→CtA P0 E F K (.yield lp) [AN i,AN (f i)] hh fun u h'=>u= .bool true∧I (i+1) h') (h0:I 0 h): Ct P0 E F K 180 [.fn (.yield lp) [] [],.ptr a 0] h fun v h'=>I nb h':=by
 obtain⟨k1,k2⟩:=hI _ _ h0;refine Af L X.f180 fun Q x cs G=>?_;refine wk ?_;refine Bs L (α:= Unit) (T:=fun i _=> [(7,some (AN i)),(6,some (AN nb)),(5,some (.slc b 0 nb (Aa+1))),(0,some (.fn (.yield lp) [] []))]) (n:=nb) (R:=fun i _ hh=>I i hh) (i0:=0) () tsb (hK _ _ _ h0 kps) (Nat.zero_le _) ?_ ?_;·rintro i _ h2 hi w ih;obtain⟨j1,j2⟩:=hI _ _ w;have hx:=Xf f hi;refine wk ?_;refine Ml L rfl rfl rfl rfl rfl (hY i _ hi (hK i _ _ w (by exact kps))) ?_;rintro _ h3 ⟨rfl,w3⟩;refine wk ?_;refine ih () _ _ w3 ?_;exact tsb
 ·rintro _ h2 w;refine ret X.f180.1 ?_;exact w
def pbC (pe:Nat→Nat)(n:Nat):List AV:=(List.range n).flatMap fun i=> [AN (pe i),AN 1]
omit L X
theorem R4 (pe:Nat→Nat)(n:Nat):pbC pe (n+1)=pbC pe n++ [AN (pe n),AN 1]:=by simp [pbC,List.range_succ]
theorem P6 (pe:Nat→Nat): ∀n,(pbC pe n).length=n*2
 |0=>rfl
 |n+1=>by rw [R4,List.length_append,P6 pe n];show n*2+2=_;omega
theorem Vn (pe:Nat→Nat): ∀{n i:Nat},i<n→(pbC pe n)[i*2]?=some (AN (pe i))∧(pbC pe n)[i*2+1]?=some (AN 1)
 |n+1,i,hi=>by
  have hl:=P6 pe n;rw [R4];by_cases e:i=n;·subst e;rw [List.getElem?_append_right (by omega),List.getElem?_append_right (by omega),hl,Nat.sub_self,show i*2+1 - i*2=1 by omega];exact⟨rfl,rfl⟩
  ·rw [List.getElem?_append_left (by omega),List.getElem?_append_left (by omega)];exact Vn pe (by omega)
theorem Xk (s:Nat): ∀n,cntS (fun _=>1) s n=if 1=s then n else 0
 |0=>by simp [cntS]
 |n+1=>by simp only [cntS,Xk s n];split <;> rfl
include L X
theorem v8 {n:Nat}(hn:n≤1099511627776):Ct P0 E F K 181 [AN n] h fun v h'=>v= .bool false∧h'=h:=by refine Ao L X.f181 fun Q x cs G=>?_;refine cal ?_ (c:=Pi L X hn);rintro _ rfl;refine ret X.f181.1 ?_;exact⟨rfl,rfl⟩
theorem Abh {eb:Nat}{pe:Nat→Nat}(hb:Bk h eb (Hl pe nb))(hnb:0<nb∧nb≤12)(he: ∀i,i<nb→pe i≤100000): Ct P0 E F K 128 [.slc eb 0 nb (Aa+1)] h fun v h'=> ∃p pb cb,v= .tup [.ptr p 0,Zi]∧PoC h' p pb nb (fun _=>1) pe cb∧h.n≤p∧h.n≤pb∧K0 h h':=by
 have lb:=hb.lt;have hrl:=M8 pe nb;have q:IntsR (fun _=>0) h (.slc eb 0 nb (Aa+1)) ((List.range nb).map fun i=>((pe i:Nat):Int)):=⟨.inr (.inr ⟨eb,Aa+1,by simp,by rw [List.map_map];exact hb.rk,rfl⟩)⟩;refine Ao L X.f128 fun Q x cs G=>?_;refine cal ?_ (c:=Mo L X (f:=181) q (by simp;omega) (fun x hx h2=>by obtain⟨i,hi,rfl⟩:=List.mem_map.1 hx;exact v8 L X (by have:=he i (List.mem_range.1 hi);omega)));rintro _ h2 ⟨rfl,k2⟩;have n2:=k2.n;refine wk ?_;refine Bs L (α:= AV) (T:=fun i _=> [(23,some (AN i)),(22,some (AN nb)),(21,some (.slc eb 0 nb (Aa+1))),(4,some (.ptr h2.n 0)),(0,some (.slc eb 0 nb (Aa+1)))]) (n:=nb) (R:=fun i v h3=>Bk h3 h2.n [v,Zi,Zi,Zi,Zi,Zi]∧((i=0∧v= .nils)∨(0<i∧ ∃b,v= .slc b 0 i (Aa+2)∧Bk h3 b (pbC pe i)∧h.n≤b∧b≠h2.n))∧Kp (fun j=>h.n≤j) h h3) (i0:=0) .nils tsb ⟨lkp,.inl ⟨rfl,rfl⟩,kps⟩ (Nat.zero_le _) ?_ ?_
 ·rintro i v h3 hi ⟨u0,u1,u2⟩ ih;have hb3:=Aq u2 (by omega) hb;have n3:=u2.n;have t0:=u0.lt;have hx:=Xf pe hi;have hpl:=P6 pe i;have t2:=hb3.lt;rcases u1 with⟨rfl,rfl⟩|⟨hi0,b,rfl,g1,g2,g3⟩;·refine wk ?_;(apply st1 L rfl;exact Dr (new:= [AN (pe 0),AN 1]) rfl rfl (SlR.of (c:= [AN (pe 0),AN 1]) lkp (Nat.le_refl _) rfl) (by omega) (by omega);rfl);refine wk ?_;refine ih (.slc (h3.n+1) 0 1 (Aa+2)) _ _ ⟨lkp,.inr ⟨by omega,h3.n+1,rfl,?_,by omega,by omega⟩,kps⟩ tsb;exact lkp
  ·have t1:=g1.lt;refine wk ?_;(apply st1 L rfl;exact Dq (old:=pbC pe i) (new:= [AN (pe i),AN 1]) rfl rfl (SlR.of (c:=pbC pe i) lkp (by omega) (by rw [List.drop_zero,List.take_of_length_le (by omega)])) (SlR.of (c:= [AN (pe i),AN 1]) lkp (Nat.le_refl _) rfl) (by omega) (by omega) rfl;rfl);refine wk ?_;refine ih (.slc (h3.n+1) 0 (i+1) (Aa+2)) _ _ ⟨lkp,.inr ⟨by omega,h3.n+1,rfl,?_,by omega,by omega⟩,kps⟩ tsb;rw [R4];exact lkp
 ·rintro v h3 ⟨u0,u1,u2⟩;rcases u1 with⟨e,_⟩|⟨hi0,b,rfl,g1,g2,g3⟩;·omega
  ·have n3:=u2.n;have t0:=u0.lt;have t1:=g1.lt;refine wk ?_;(apply st1 L rfl;exact Jz (i:=1) rfl rfl (by omega);rfl);refine ret X.f128.1 ?_;refine⟨h2.n,b,pbC pe nb,rfl,⟨?_,lkp,by omega,P6 pe nb,hnb,fun i hi=>(Vn pe hi).1,fun i hi=>(Vn pe hi).2,fun i hi=>by omega,he⟩,n2,g2,?_⟩;·refine Ra ?_ lkp;unfold pcC;simp only [Xk];rfl
   ·have k4:Kp (fun j=>h.n≤j) h (hp h3.n h3.t [(h2.n,some (cl [.slc b 0 nb (Aa+2),Zi,AN nb,Zi,Zi,Zi]))]):=kps;exact k4.cut (Nat.le_refl _)
theorem mf {ck:Nat}(q:MOk M ck)(I:List Int→H→Prop) (hI: ∀S hh,I S hh→Bk hh mb [.map r1]∧Mk hh r1 (M.map (mE AI)) ck) (hK: ∀S hh h',I S hh→Kp (fun j=>j=h.n) hh h'→I S h') (hY: ∀S k hh,I S hh→S.length<M.length→h.n<hh.n→CtA P0 E F K (.yield lp) [AI k] hh fun u h'=>u= .bool true∧I (S++ [k]) h'∧hh.n≤h'.n∧(∀x,Gk hh h.n x→Gk h' h.n x)) (h0:I [] h): Ct P0 E F K 215 [.fn (.yield lp) [] [],.ptr mb 0] h fun v h'=> ∃S,List.Perm S (M.map (·.1))∧I S h':=by
 obtain⟨k1,k2⟩:=hI _ _ h0;have l1:=k1.lt;have l2:=k2.lt;refine Af L X.f215 fun Q x cs G=>?_;refine wk ?_;(apply st1 L rfl;exact U4 rfl lkq;rfl);refine wk ?_;refine je L (α:= List (Int×AV×Nat)) (T:=fun Y=> [(5,some (.ptr h.n 0)),(0,some (.fn (.yield lp) [] []))]) (mu:=muM M) (R:=fun Y hh=>I (Y.map (·.1)) hh∧Gk hh h.n (.miter (some r1) ck (Y.map (·.2.2)) ck)∧(∀y∈Y,y∈M)∧(Y.map (·.2.2)).Nodup∧h.n<hh.n∧Y.length+muM M Y≤M.length) [] tsb ⟨hK _ _ _ h0 kps,lkg,(fun y hy=>by cases hy),List.nodup_nil,Nat.lt_succ_self _,by rw [List.length_nil,Nat.zero_add];exact List.length_filter_le _ _⟩ ?_;rintro Y hh ⟨i1,i2,i3,i4,i5,i6⟩ ih;obtain⟨k3,k4⟩:=hI _ _ i1;refine wk ?_;refine U5 L rfl rfl (M:=M) (enc:=AI) (ck:=ck) (it:=h.n) (m:=r1) (seen:=Y.map (·.2.2)) lkg lkq q.lt ?_ ?_;·intro hall;refine ret X.f215.1 ?_;exact⟨_,(N7 q i3 i4 hall).map _,hK _ _ _ i1 kps⟩
 ·exact zq9
noncomputable def wc (hn mb:Nat)(st:LS):Blk:= .loop ⟨st,none,238,cf238.ntmps,tms [(6,some (.fn (.func 215) [] [.ptr mb 0])),(4,some .nils),(2,some (.ptr hn 0)),(1,some (.fn (.func 215) [] [.ptr mb 0])),(0,some .nils)],[7],tx,tz,hn+1⟩
omit L X in
structure RAB (h hh:H)(mb:Nat)(S:List Int):Prop where
 k:K0 h hh
 dk:Gk hh (h.n+1) (.dfr (some []))
 lp:Gk hh (h.n+2) (wc h.n mb .ready)
 ex: ∃v,Bk hh h.n [v]∧((S= []∧v= .nils)∨(0<S.length∧ ∃b,v= .slc b 0 S.length (Aa+1)∧Bk hh b (S.map AI)∧h.n+4≤b))
theorem Zk {ck:Nat}(q:MOk M ck)(k1:Bk h mb [.map r1])(k2:Mk h r1 (M.map (mE AI)) ck)(hlen:M.length<2000): Ct P0 E F K 238 [.nils,.fn (.func 215) [] [.ptr mb 0]] h fun v h'=> ∃S,List.Perm S (M.map (·.1))∧K0 h h'∧((S= []∧v= .nils)∨(0<S.length∧ ∃b,v= .slc b 0 S.length (Aa+1)∧Bk h' b (S.map AI)∧h.n≤b)):=by
 have l1:=k1.lt;have l2:=k2.lt;refine Af L X.f238 fun Q x cs G=>?_;refine wk ?_;refine In L (post:=fun _ h'=> ∃S,List.Perm S (M.map (·.1))∧RAB h h' mb S) rfl rfl rfl ?_ ?_
 ·refine Ct.A ((mf L X q (fun S hh=>RAB h hh mb S) (fun S hh r=>⟨Ag r.k k1,Rb r.k k2⟩) (fun S hh h' r k=>?_) (fun S z hh r hSl hlt=>?_) ⟨kps,lkg,lkg,.nils,lkp,.inl ⟨rfl,rfl⟩⟩).mono fun v h' p=>p);·exact Ano
  ·obtain⟨r1,r2,r3,v,r4,r5⟩:=r;simp only [Al]at hlt;have l3:=r4.lt;have l4:=r3.lt;have hle:=r3.e;unfold wc at hle;refine Gu L (l1:= [(7,some (AI z)),(6,some (.fn (.func 215) [] [.ptr mb 0])),(4,some .nils),(2,some (.ptr h.n 0)),(1,some (.fn (.func 215) [] [.ptr mb 0])),(0,some .nils)]) hle rfl ?_;intro Q z2 cs G;refine wk ?_;refine Fh L (Gk.e lkg) ?_;rcases r5 with⟨rfl,rfl⟩|⟨r5,b,rfl,r7,r8⟩;·refine wk ?_;(apply st1 L rfl;exact Dr (new:= [AI z]) rfl rfl (SlR.of (c:= [AI z]) lkp (Nat.le_refl _) rfl) (by omega) (by omega);rfl);refine wk ?_;refine Ej L (Gk.e lkg) G ⟨rfl,?_,by simp only [Al];omega,fun x hx=>(fun hx2:Gk hh (h.n+3) x=>(show Gk _ (h.n+3) x from by exact lkg)) hx⟩;exact⟨kps,lkg,(by unfold wc;exact Fy (by omega)),_,lkp,.inr ⟨by simp,hh.n+1,rfl,by exact lkp,by omega⟩⟩
   ·have l6:=r7.lt;refine wk ?_;(apply st1 L rfl;exact Dq (old:=S.map AI) (new:= [AI z]) rfl rfl (SlR.of (c:=S.map AI) lkp (by simp) (by rw [List.drop_zero,List.take_of_length_le (by simp)])) (SlR.of (c:= [AI z]) lkp (Nat.le_refl _) rfl) (by omega) (by omega) rfl;rfl);refine wk ?_;refine Ej L (Gk.e lkg) G ⟨rfl,?_,by simp only [Al];omega,fun x hx=>(fun hx2:Gk hh (h.n+3) x=>(show Gk _ (h.n+3) x from by exact lkg)) hx⟩;exact⟨kps,lkg,(by unfold wc;exact Fy (by omega)),_,lkp,.inr ⟨by simp,hh.n+1,by simp,(by rw [List.map_append];exact lkp),by omega⟩⟩
 ·rintro v h3 ⟨S,p,r1,r2,r3,v2,r4,r5⟩;have hle:=r3.e;unfold wc at hle;exact Ann
theorem Xl {ck:Nat}(q:MOk M ck)(k1:Bk h mb [.map r1])(k2:Mk h r1 (M.map (mE AI)) ck)(hlen:M.length<2000): Ct P0 E F K 214 [.fn (.func 215) [] [.ptr mb 0]] h fun v h'=> ∃S,List.Perm S (M.map (·.1))∧K0 h h'∧RowN h' h.n v S:=by refine Ao L X.f214 fun Q x cs G=>?_;refine cal ?_ (c:=Zk L X q k1 k2 hlen);exact Anq
theorem Zl {ck:Nat}(U:SortOk P0 E F 171)(q:MOk M ck)(k1:Bk h mb [.map r1])(k2:Mk h r1 (M.map (mE AI)) ck)(hlen:M.length<2000): Ct P0 E F K 191 [.fn (.func 215) [] [.ptr mb 0]] h fun v h'=> ∃S,List.Perm S (M.map (·.1))∧K0 h h'∧RowN h' h.n v (Dc S):=by obtain⟨g0,hg0⟩:=U.g;refine Ao L X.f191 fun Q x cs G=>?_;refine cal ?_ (c:=Xl L X q k1 k2 hlen);exact Anp
theorem Zm {ck:Nat}(U:SortOk P0 E F 171)(q:MOk M ck)(k2:Mk h r1 (M.map (mE AI)) ck)(hlen:M.length<2000): Ct P0 E F K 139 [.map r1] h fun v h'=> ∃S,List.Perm S (M.map (·.1))∧K0 h h'∧RowN h' h.n v (Dc S):=by
 have l2:=k2.lt;have hkeys:Ct P0 E F K 192 [.map r1] h fun v h'=>v= .fn (.func 215) [] [.ptr h.n 0]∧Bk h' h.n [.map r1]∧K0 h h'∧h'.n=h.n+1:=by refine Ao L X.f192 fun Q x cs G=>?_;refine ret X.f192.1 ?_;exact⟨rfl,lkp,kps,rfl⟩
 refine Ao L X.f139 fun Q x cs G=>?_;refine cal ?_ (c:=hkeys);rintro _ h2 ⟨rfl,w1,w2,w3⟩;refine cal ?_ (c:=Zl L X U q w1 (Rb w2 k2) hlen);rintro _ h3 ⟨S,p,w4,w5⟩;have w6:=w5;rcases w5.ex with⟨e0,rfl⟩|⟨w7,b,rfl,w8,w9⟩
 ·refine ret X.f139.1 ?_;exact⟨_,p,kps,⟨.inl ⟨e0,rfl⟩⟩⟩
 ·refine ret X.f139.1 ?_;exact⟨_,p,kps,⟨.inr ⟨w7,b,rfl,by exact lkp,by omega⟩⟩⟩
end
def ext (κ: Nat→Nat)(n:Nat):Nat→Nat:=fun b=>if b<n then κ b else 0
theorem Aj {n:Nat}(h:b<n):ext κ n b=κ b:=if_pos h
theorem B0 {n:Nat}(h:n≤b):ext κ n b=0:=if_neg (by omega)
def CtX (P:Program)(E:Env)(F:T CFn)(K:T (List AV×AV))(f:Nat)(args:List AV)(h:H)(post pan:AV→H→Prop):Prop:=
 ∀(Q:Nat→AV→Prop) (x:AFr) (cs:List AFr),(∀v h',post v h'→GO P E Q (finish v cs h' x))→(∀v h',pan v h'→Good P E Q ⟨Ln x [(v,false)],cs,h'⟩)→GO P E Q (B8 F K (.func f) args false x cs h)
section
variable {P:Program}{Q:Nat→AV→Prop}
variable {fn nt:Nat}{l q:List (Nat×Option AV)}{k:List AItem}{ds:List ADef}{dfd:Bool}{ro:Option Nat}{cs:List AFr}{gd:Option (Nat×Bool)}{x:O}{r:List CI}{nm:List Nat}{pre chk:List DI}{ps:List Ph}
variable {post pan:AV→H→Prop}
variable (L:Lg P E F K)
theorem Ct.X (c:Ct P E F K f args h post):CtX P E F K f args h post pan:=fun Q x cs g _=>c Q x cs g
theorem CtP.X (c:CtP P E F K f args h pan):CtX P E F K f args h post pan:=fun Q x cs _ g=>c Q x cs g
theorem CtX.mono {post' pan':AV→H→Prop}(c:CtX P E F K f args h post' pan')(m: ∀v h',post' v h'→post v h')(mp: ∀v h',pan' v h'→pan v h'):CtX P E F K f args h post pan:= fun Q x cs g gp=>c Q x cs (fun v h' p=>g v h' (m v h' p)) fun v h' p=>gp v h' (mp v h' p)
include L
theorem wg {d:Nat}{a:List O}{fst va cp r0:List AV}(hg:gdO gd l=some true)(e:evO l x=some (.fn (.func f) fst cp))(ha:Fo l a=some va)(h0:Eo va cp=some r0)(hr:Eo fst r0=some args)(hc:CtX P E F K f args h post pan) (g: ∀v h',post v h'→Good P E Q ⟨⟨fn,nt,tms ((d,some v)::l),.ops r::k,ds,.run,dfd,ro⟩,cs,hp h'.n h'.t []⟩) (gp: ∀v h',pan v h'→Good P E Q ⟨⟨fn,nt,tms l,.ops (⟨some d,gd,.callv x a⟩::r)::k,ds,.panicking [(v,false)],dfd,ro⟩,cs,h'⟩): Good P E Q ⟨⟨fn,nt,tms l,.ops (⟨some d,gd,.callv x a⟩::r)::k,ds,.run,dfd,ro⟩,cs,h⟩:= Tl L (Aw hg) (P2 e ha h0 hr) (hc Q _ cs (fun v h' p=>N0 L cvb (g v h' p)) fun v h' p=>gp v h' p)
theorem Ag2 {di:Nat}{a:List O}{va cp:List AV}(ho:Co l nm=some q)(hg:gdO gd q=some true)(e:evO q x=some (.fn (.func f) [] cp))(ha:Fo q a=some va)(hr:Eo va cp=some args)(hc:CtX P E F K f args h post pan) (g: ∀v h',post v h'→Bo P E Q pre chk ps k fn nt (tms ((di,some v)::l)) ds dfd ro cs (hp h'.n h'.t [])) (gp: ∀v h',pan v h'→Good P E Q ⟨⟨fn,nt,Ot chk (tms l),[.gone],ds,.panicking [(v,false)],dfd,ro⟩,cs,h'⟩): Good P E Q ⟨⟨fn,nt,tms l,.drawn ⟨⟨⟨some di,gd,.callv x a⟩,nm⟩,pre,chk⟩ ps::k,ds,.run,dfd,ro⟩,cs,h⟩:= e_c L ho (Aw hg) (Ik e ha hr) (hc Q _ cs (fun v h' p=>fd cvb (g v h' p)) fun v h' p=>gp v h' p)
theorem B9 {g:CFn}{l0 l1:List (Nat×Option AV)}{td:List AItem}(hq:Fk F K f g) (body: ∀(Q:Nat→AV→Prop) (x:AFr) (cs:List AFr),(∀v h',post v h'→GO P E Q (finish v cs h' x))→(∀v h',pan v h'→Good P E Q ⟨Ln x [(v,false)],cs,h'⟩)→Good P E Q ⟨⟨f,g.ntmps,tms l1,td,[],.run,false,none⟩,x::cs,hp h.n h.t []⟩) (hn:Nat.ble args.length g.ntmps=true:=by exact rfl) (hl:ik 0 args []=l0:=by exact rfl) (ha:adv 1000 [.code g.body] l0=(td,l1):=by exact rfl):CtX P E F K f args h post pan:=by
 intro Q x cs hG hP;have h1:ofL 0 .leaf args=tms l0:=by rw [←hl];exact P1 args 0 []
 exact Aif L hq.1 hq.2 hn h1 (Bn L 1000 ha (body Q x cs hG hP))
theorem J2 {p B1 B2 A:Prop}(h:p→Lft B1→Lft B2→A:=by
 intro hc_ g_ gp_
 refine wk ?_
 first
  |(apply wg L rfl rfl rfl rfl rfl;exact hc_;exact g_.g;exact gp_.g)
  |(apply callcX0 L rfl rfl rfl rfl rfl;exact hc_;exact g_.g;exact gp_.g)
  |(apply Ag2 L rfl rfl rfl rfl rfl;exact hc_;exact g_.g;exact gp_.g)
  |(apply dcallX0 L rfl rfl rfl rfl rfl;exact hc_;exact g_.g;exact gp_.g)) (c:p) (g:B1) (gp:B2):A:=h c ⟨g⟩ ⟨gp⟩
end
section
variable {P0:Program}(L:Lg P0 E F K)(X:Fx F K)
include L X
structure Ap where
 D:Dv
 S:Nat
 ps:Nat→Nat
 pe:Nat→Nat
 A:Int→Option Int
 next:Nat
 last:Nat
 dat:Int
 log:Int
 jr:Int→Bool
 su:Int→Bool
 wr:Int→Option Nat
 down:Bool
structure Ai where
 s:Nat
 p:Nat
 pb:Nat
 m:Nat
 r1:Nat
 r2:Nat
 vb:Nat
 rj:Nat
 rs:Nat
 rw:Nat
 d:Nat
def apC (I:Ai)(S:Ap):List AV:=
 [.ptr I.p 0,.ptr I.d 0,AN S.D.nb,AN S.D.P,AN S.D.sz,AN S.D.en,.ptr I.m 0,UN S.next,UN S.last,AI S.dat,AI S.log,.map I.rj,.map I.rs,.map I.rw,.bool S.down]
structure SetR (h:H)(r:Nat)(f:Int→Bool):Prop where
 ex: ∃M ck,Mk h r (M.map (mE AI)) ck∧MOk M ck∧ ∀k:Int,A5 M k=if f k=true then some (.bool true)else none
structure NumR (h:H)(r:Nat)(f:Int→Option Nat):Prop where
 ex: ∃M ck,Mk h r (M.map (mE AI)) ck∧MOk M ck∧ ∀k:Int,A5 M k=(f k).map fun n=> UN n
omit L X
theorem SetR.kp {f:Int→Bool}(k:Kp B h h')(hb: ¬B r)(q:SetR h r f):SetR h' r f:=let⟨M,ck,q1,q2,q3⟩:=q.ex;⟨M,ck,Me k hb q1,q2,q3⟩
theorem NumR.kp {f:Int→Option Nat}(k:Kp B h h')(hb: ¬B r)(q:NumR h r f):NumR h' r f:=let⟨M,ck,q1,q2,q3⟩:=q.ex;⟨M,ck,Me k hb q1,q2,q3⟩
theorem SetR.lt {f:Int→Bool}(q:SetR h r f):r<h.n:=let⟨_,_,q1,_⟩:=q.ex;q1.lt
theorem NumR.lt {f:Int→Option Nat}(q:NumR h r f):r<h.n:=let⟨_,_,q1,_⟩:=q.ex;q1.lt
include L X
structure ApR (κ: Nat→Nat)(h:H)(I:Ai)(S:Ap):Prop where
 sk:Bk h I.s (apC I S)
 po: ∃cb,PoC h I.p I.pb S.D.nb S.ps S.pe cb
 dv:DevR κ h I.d S.D
 mp:MpR S.S S.D.nb S.D.P h I.m I.r1 I.r2 I.vb S.A
 mj:SetR h I.rj S.jr
 ms:SetR h I.rs S.su
 mw:NumR h I.rw S.wr
 col:κ I.s=101∧κ I.p=102∧κ I.pb=103∧κ I.m=104∧κ I.r1=105∧κ I.r2=106∧κ I.vb=107∧κ I.rj=108∧κ I.rs=109∧κ I.rw=110
structure AChg (κ: Nat→Nat)(h:H)(κ':Nat→Nat)(h':H):Prop where
 k:Kp (fun b=>1≤κ b∧κ b<200) h h'
 col: ∀b,b<h.n→κ' b=κ b
omit L X
theorem AChg.refl (κ: Nat→Nat)(h:H):AChg κ h κ h:=⟨.refl _,fun _ _=>rfl⟩
theorem AChg.trans {κ1 κ2:Nat→Nat}{h1 h2:H}(a:AChg κ h κ1 h1)(b:AChg κ1 h1 κ2 h2):AChg κ h κ2 h2:= ⟨Kp.trS b.k (fun i hi=>by rw [a.col i hi];exact id) a.k,fun x hx=>(b.col x (Nat.lt_of_lt_of_le hx a.k.n)).trans (a.col x hx)⟩
theorem Ch.a (q:Ch κ h κ' h'):AChg κ h κ' h':=⟨q.k.mono fun b e=>⟨e.1,by omega⟩,q.col⟩
theorem AChg.kp (k:Kp B h h')(hb: ∀b,b<h.n→B b→1≤κ b∧κ b<200):AChg κ h κ h':= ⟨⟨k.n,fun b hb' hn=>k.old b hb' fun e=>hn (hb b hb' e)⟩,fun _ _=>rfl⟩
theorem AChg.k0 (k:K0 h h')(hc: ∀b,b<h.n→κ' b=κ b):AChg κ h κ' h':=⟨k.mono fun _ f=>f.elim,hc⟩
theorem AChg.bs {κ κ':Nat→Nat}{h h':H}{b o:Nat}{bs:List Nat}(q:AChg κ h κ' h')(k:BS h b o bs)(hc:κ b=0):BS h' b o bs∧κ' b=0:= ⟨U7 q.k (by omega) k,(q.col b k.lt_n).trans hc⟩
theorem DevC.rc {d bb:Nat}(q:DevC κ h d D fm bb cb)(hc: ∀b,b<h.n→κ' b=κ b):DevC κ' h d D fm bb cb:=
 have f:Fw κ h κ' h:=⟨Nat.le_refl _,fun _ _ _=>rfl,hc⟩
 ⟨q.dk,(hc _ q.dk.lt).trans q.dcol,q.fk,(hc _ q.fk.lt).trans q.fcol,q.bk,(hc _ q.bk.lt).trans q.bcol,q.blen,q.nb,fun i hi=>let⟨pn,c,h1⟩:=q.rows i hi;⟨pn,c,h1.fw f rfl⟩⟩
theorem ApR.lt {I:Ai}{S:Ap}(q:ApR κ h I S):I.s<h.n∧I.p<h.n∧I.pb<h.n∧I.m<h.n∧I.r1<h.n∧I.r2<h.n∧I.vb<h.n∧I.rj<h.n∧I.rs<h.n∧I.rw<h.n:=by obtain⟨cb,q1⟩:=q.po;have:=q.mp.lt;exact⟨q.sk.lt,q1.pk.lt,q1.bk.lt,this.1,this.2.1,this.2.2.1,this.2.2.2,q.mj.lt,q.ms.lt,q.mw.lt⟩
theorem ApR.k0 {I:Ai}{S:Ap}(k:K0 h h')(hc: ∀b,b<h.n→κ' b=κ b)(q:ApR κ h I S):ApR κ' h' I S:=by
 obtain⟨l0,l1,l2,l3,l4,l5,l6,l7,l8,l9⟩:=q.lt;have ok:=q.dv.ok;have dv':DevR κ' h' I.d S.D:=by obtain⟨fm,bb,cb,q1⟩:=q.dv.ex;exact DevR.k0 ⟨ok,fm,bb,cb,q1.rc hc⟩ k
 obtain⟨cb,q1⟩:=q.po;exact⟨Ag k q.sk,⟨cb,q1.k0 k⟩,dv',q.mp.k0 k,q.mj.kp k id,q.ms.kp k id,q.mw.kp k id,by rw [hc _ l0,hc _ l1,hc _ l2,hc _ l3,hc _ l4,hc _ l5,hc _ l6,hc _ l7,hc _ l8,hc _ l9];exact q.col⟩
theorem ApR.dev {I:Ai}{S:Ap}{D':Dv}(q:ApR κ h I S)(ch:Ch κ h κ' h')(dv:DevR κ' h' I.d D')(g:D'.nb=S.D.nb∧D'.P=S.D.P∧D'.sz=S.D.sz∧D'.en=S.D.en):ApR κ' h' I {S with D:=D'}:=by
 obtain⟨l0,l1,l2,l3,l4,l5,l6,l7,l8,l9⟩:=q.lt;obtain⟨c0,c1,c2,c3,c4,c5,c6,c7,c8,c9⟩:=q.col;obtain⟨g1,g2,g3,g4⟩:=g;obtain⟨cb,q1⟩:=q.po;have hc:=ch.col;refine⟨?_,⟨cb,?_⟩,dv,?_,q.mj.kp ch.k (by omega),q.ms.kp ch.k (by omega),q.mw.kp ch.k (by omega),by rw [hc _ l0,hc _ l1,hc _ l2,hc _ l3,hc _ l4,hc _ l5,hc _ l6,hc _ l7,hc _ l8,hc _ l9];exact q.col⟩;·refine Ra ?_ (Aq ch.k (by omega) q.sk);unfold apC;simp only [g1,g2,g3,g4]
 ·show PoC h' I.p I.pb D'.nb S.ps S.pe cb;rw [g1];exact q1.kp ch.k (by omega) (by omega)
 ·show MpR S.S D'.nb D'.P h' I.m I.r1 I.r2 I.vb S.A;rw [g1,g2];exact q.mp.kp ch.k (by omega) (by omega) (by omega) (by omega)
theorem ApR.dvk {I:Ai}{S:Ap}(q:ApR κ h I S)(k:Kp B h h')(hb: ∀b,b<h.n→B b→100≤κ b):DevR κ h' I.d S.D:= q.dv.kb ⟨k.n,fun b hb' hn=>k.old b hb' fun e=>hn (hb b hb' e)⟩
theorem ApR.st {I:Ai}{S S':Ap}(q:ApR κ h I S)(k:Kp (fun j=>j=I.s) h h')(sk:Bk h' I.s (apC I S'))(e:S'.D=S.D∧S'.S=S.S∧S'.ps=S.ps∧S'.pe=S.pe∧S'.A=S.A∧S'.jr=S.jr∧S'.su=S.su∧S'.wr=S.wr):ApR κ h' I S':=by
 obtain⟨c0,c1,c2,c3,c4,c5,c6,c7,c8,c9⟩:=q.col;obtain⟨e1,e2,e3,e4,e5,e6,e7,e8⟩:=e;obtain⟨cb,q1⟩:=q.po;have ne: ∀{b:Nat},κ b≠101→ ¬b=I.s:=fun h e=>h (by rw [e];exact c0);refine⟨sk,⟨cb,?_⟩,?_,?_,by rw [e6];exact q.mj.kp k (ne (by omega)),by rw [e7];exact q.ms.kp k (ne (by omega)),by rw [e8];exact q.mw.kp k (ne (by omega)),q.col⟩;·rw [e1,e3,e4];exact q1.kp k (ne (by omega)) (ne (by omega))
 ·rw [e1];exact q.dvk k fun b _ e=>by subst e;omega
 ·rw [e1,e2,e5];exact q.mp.kp k (ne (by omega)) (ne (by omega)) (ne (by omega)) (ne (by omega))
theorem ApR.pool {I:Ai}{S:Ap}{ps pe:Nat→Nat}(q:ApR κ h I S)(k:Kp (fun j=>j=I.p∨j=I.pb) h h')(po:PoC h' I.p I.pb S.D.nb ps pe cb):ApR κ h' I {S with ps:=ps,pe:=pe}:=by
 obtain⟨c0,c1,c2,c3,c4,c5,c6,c7,c8,c9⟩:=q.col;have ne: ∀{b:Nat},κ b≠102→κ b≠103→ ¬(b=I.p∨b=I.pb):=fun h h' e=>by rcases e with e|e <;> subst e <;> omega
 exact⟨Aq k (ne (by omega) (by omega)) q.sk,⟨cb,po⟩,q.dvk k fun b _ e=>by rcases e with e|e <;> subst e <;> omega,q.mp.kp k (ne (by omega) (by omega)) (ne (by omega) (by omega)) (ne (by omega) (by omega)) (ne (by omega) (by omega)),
  q.mj.kp k (ne (by omega) (by omega)),q.ms.kp k (ne (by omega) (by omega)),q.mw.kp k (ne (by omega) (by omega)),q.col⟩
theorem ApR.map {I:Ai}{S:Ap}{A:Int→Option Int}(q:ApR κ h I S)(k:Kp (fun j=>j=I.r1∨j=I.r2∨j=I.vb) h h')(mp:MpR S.S S.D.nb S.D.P h' I.m I.r1 I.r2 I.vb A):ApR κ h' I {S with A:=A}:=by
 obtain⟨c0,c1,c2,c3,c4,c5,c6,c7,c8,c9⟩:=q.col;obtain⟨cb,q1⟩:=q.po;have ne: ∀{b:Nat},κ b≠105→κ b≠106→κ b≠107→ ¬(b=I.r1∨b=I.r2∨b=I.vb):=fun h h' h'' e=>by rcases e with e|e|e <;> subst e <;> omega
 exact⟨Aq k (ne (by omega) (by omega) (by omega)) q.sk,⟨cb,q1.kp k (ne (by omega) (by omega) (by omega)) (ne (by omega) (by omega) (by omega))⟩,q.dvk k fun b _ e=>by rcases e with e|e|e <;> subst e <;> omega,mp,
  q.mj.kp k (ne (by omega) (by omega) (by omega)),q.ms.kp k (ne (by omega) (by omega) (by omega)),q.mw.kp k (ne (by omega) (by omega) (by omega)),q.col⟩
theorem ApR.one {I:Ai}{S:Ap}(q:ApR κ h I S)(k:Kp (fun j=>j=r) h h')(hr:108≤κ r∧κ r<200): Bk h' I.s (apC I S)∧(∃cb,PoC h' I.p I.pb S.D.nb S.ps S.pe cb)∧DevR κ h' I.d S.D∧MpR S.S S.D.nb S.D.P h' I.m I.r1 I.r2 I.vb S.A∧(I.rj≠r→SetR h' I.rj S.jr)∧(I.rs≠r→SetR h' I.rs S.su)∧(I.rw≠r→NumR h' I.rw S.wr):=by
 obtain⟨c0,c1,c2,c3,c4,c5,c6,c7,c8,c9⟩:=q.col;obtain⟨cb,q1⟩:=q.po;have ne: ∀{b:Nat},κ b<108→ ¬b=r:=fun h e=>by subst e;omega
 exact⟨Aq k (ne (by omega)) q.sk,⟨cb,q1.kp k (ne (by omega)) (ne (by omega))⟩,q.dvk k fun b _ e=>by subst e;omega,q.mp.kp k (ne (by omega)) (ne (by omega)) (ne (by omega)) (ne (by omega)),fun hne=>q.mj.kp k hne,fun hne=>q.ms.kp k hne,fun hne=>q.mw.kp k hne⟩
theorem ApR.jset {I:Ai}{S:Ap}{f:Int→Bool}(q:ApR κ h I S)(k:Kp (fun j=>j=I.rj) h h')(m:SetR h' I.rj f):ApR κ h' I {S with jr:=f}:=by obtain⟨c0,c1,c2,c3,c4,c5,c6,c7,c8,c9⟩:=q.col;obtain⟨a1,a2,a3,a4,a5,a6,a7⟩:=q.one k (by omega);exact⟨a1,a2,a3,a4,m,a6 (fun e=>by rw [e]at c8;omega),a7 (fun e=>by rw [e]at c9;omega),q.col⟩
theorem ApR.sset {I:Ai}{S:Ap}{f:Int→Bool}(q:ApR κ h I S)(k:Kp (fun j=>j=I.rs) h h')(m:SetR h' I.rs f):ApR κ h' I {S with su:=f}:=by obtain⟨c0,c1,c2,c3,c4,c5,c6,c7,c8,c9⟩:=q.col;obtain⟨a1,a2,a3,a4,a5,a6,a7⟩:=q.one k (by omega);exact⟨a1,a2,a3,a4,a5 (fun e=>by rw [e]at c7;omega),m,a7 (fun e=>by rw [e]at c9;omega),q.col⟩
theorem ApR.wset {I:Ai}{S:Ap}{f:Int→Option Nat}(q:ApR κ h I S)(k:Kp (fun j=>j=I.rw) h h')(m:NumR h' I.rw f):ApR κ h' I {S with wr:=f}:=by obtain⟨c0,c1,c2,c3,c4,c5,c6,c7,c8,c9⟩:=q.col;obtain⟨a1,a2,a3,a4,a5,a6,a7⟩:=q.one k (by omega);exact⟨a1,a2,a3,a4,a5 (fun e=>by rw [e]at c7;omega),a6 (fun e=>by rw [e]at c8;omega),m,q.col⟩
include L X
def Bh (f:Int→Bool)(k:Int)(b:Bool):Int→Bool:=fun j=>if j=k then b else f j
def Oe (f:Int→Option Nat)(k:Int)(b:Option Nat):Int→Option Nat:=fun j=>if j=k then b else f j
def Ap.sel (S:Ap)(k:Bool):Int:=if k=true then S.log else S.dat
def Ap.put (S:Ap)(k:Bool)(b:Int):Ap:=if k=true then {S with log:=b}else {S with dat:=b}
def Ap.cls (S:Ap)(k:Bool):Ap:=if 0≤S.sel k∧(S.D.bl (S.sel k).toNat).nx=S.D.P then({S with ps:=upd S.ps (S.sel k).toNat 3}).put k (-1)else S
def Ap.opn (S:Ap)(k:Bool):Option Ap:=
 if S.sel k<0 then
  if(C1 S.ps S.pe 1 S.D.nb).1<0 then none
  else some (({S with ps:=upd S.ps (C1 S.ps S.pe 1 S.D.nb).1.toNat 2,jr:=if k=true then Bh S.jr (C1 S.ps S.pe 1 S.D.nb).1 true else S.jr}).put k (C1 S.ps S.pe 1 S.D.nb).1)
 else some S
inductive WO where
 |done (p:Nat)
 |full
 |pow
 |again
def Ap.w1 (S:Ap)(k:Bool)(all:List Nat):Ap×WO:=
 match(S.cls k).opn k with
 |none=>(S.cls k,.full)
 |some S2=>
  if(S2.D.prog (S2.sel k) all).2=50 then({S2 with D:=(S2.D.prog (S2.sel k) all).1,down:=true},.pow)
  else if(S2.D.prog (S2.sel k) all).2=0 then({S2 with D:=(S2.D.prog (S2.sel k) all).1},.done ((S2.sel k).toNat*S2.D.P+(S2.D.bl (S2.sel k).toNat).nx))
  else(({S2 with D:=(S2.D.prog (S2.sel k) all).1,su:=Bh S2.su (S2.sel k) true,ps:=upd S2.ps (S2.sel k).toNat 3}).put k (-1),.again)
inductive WrP (k:Bool)(all:List Nat):Ap→Ap→WO→Prop where
 |stop {S:Ap} (h:(S.w1 k all).2≠ .again):WrP k all S (S.w1 k all).1 (S.w1 k all).2
 |more {S S':Ap} {r:WO} (h:(S.w1 k all).2= .again) (t:WrP k all (S.w1 k all).1 S' r):WrP k all S S' r
structure WI (S:Ap)(k:Bool):Prop where
 sel:0≤S.sel k→S.sel k<S.D.nb∧S.ps (S.sel k).toNat=2
 lo: -1≤S.sel k
def De (S:Ap):Nat:=cntS S.ps 1 S.D.nb
def muW (S:Ap)(k:Bool):Nat:=2*De S+if 0≤S.sel k then 1 else 0
section
variable {I:Ai}{S:Ap}
theorem Gc {e:Int}(he:e≠50){s:AV}:Ct P0 E F K 143 [s,AI e] h fun v h'=>v= .tup []∧h'=h:=by refine Af L X.f143 fun Q x cs G=>?_;refine ret X.f143.1 ?_;exact⟨rfl,rfl⟩
theorem Kq (r:ApR κ h I S):CtP P0 E F K 143 [.ptr I.s 0,AN 50] h fun v h'=>v= .ifc 34 (AN 50)∧ApR κ h' I {S with down:=true}∧Kp (fun j=>j=I.s) h h':=by have sk:=r.sk;unfold apC at sk;refine Ek L X.f143 fun Q x cs G=>?_;refine wk ?_;refine Mm L rfl rfl ?_;refine A2 L X.f143.1 ?_;have kk:Kp (fun j=>j=I.s) h (hp h.n h.t [(I.s,some (cl (apC I {S with down:=true})))]):=kps;exact G _ _ ⟨rfl,r.st kk lkp ⟨rfl,rfl,rfl,rfl,rfl,rfl,rfl,rfl⟩,kk⟩
end
end
variable {I:Ai}{S S0:Ap}{b1 c1:Nat}{data:List Nat}{k sec:Int}{lh:List (Nat×Option Blk)}{p:Prop}{sp:Sp}{t:T Blk}
theorem Ant (h:p:=by
 have a4:AChg κs hh κs h4:=AChg.kp k4 fun b _ e=>by rcases e with e|e <;> subst e <;> omega
 have a5:AChg κs h4 κs _:=AChg.kp k5 fun b _ e=>by subst e;omega
 refine take _ _ (by rw [ec];show(-1:Int)<0;omega) (by rw [ec];exact r5) (a4.trans a5) (by rw [ec]) ?_ tsb
 rw [ec,hmu]
 have:=C9 S.ps b 3 1 S.D.nb hb
 rw [v4]at this
 simp at this
 unfold De;simp only;omega):p:=h
theorem Ag3 (h:p:=by
 have h1:=WrP.stop (k:=false) (all:=data++Au sp data) (S:=S) (by rw [ew];intro e;cases e)
 rw [ew]at h1;exact h1):p:=h
theorem Anu (h:p:=by
 unfold apC at sk
 rw [hneg]at sk
 refine wk ?_
 refine take _ _ (by rw [ec,hneg];omega) (by rw [ec];exact r.k0 kps fun _ _=>rfl) (AChg.k0 kps fun _ _=>rfl) (by rw [ec]) ?_ tsb
 rw [ec];unfold muW;omega):p:=h
theorem Anv (h:p:=by
 unfold Dv.prog;split
 ·split
  ·show 50<1000;omega
  ·show(if _ then 50 else if _ then 54 else 0)<1000
   split
   ·omega
   ·split <;> omega
 ·show 2<1000;omega):p:=h
theorem Anw (h:p:=by
 exact Gp _ _ ⟨50,_,κ5,rfl,.inr ⟨rfl,hw _ _ hst⟩,r6,ch.trans (a5.trans (AChg.kp k6 fun b _ e=>by subst e;have:=r5.col;omega))⟩):p:=h
theorem Anx (h:p:=by
 exact Gp _ _ ⟨7,S1,κs,rfl,.inl ⟨rfl,hw _ _ hst⟩,r2.k0 kps fun _ _=>rfl,ch.trans (ch2.trans (AChg.k0 kps fun _ _=>rfl))⟩):p:=h
theorem Anz (h:p:=by
 exact⟨_,_,κ5,rfl,by omega,hw _ _ hst,r5.k0 kps fun _ _=>rfl,ch.trans (a5.trans (AChg.k0 kps fun _ _=>rfl))⟩):p:=h
theorem An0 (h:p:=by
 unfold muW De Ap.sel
 simp only [g1.1]
 have:=C9 S2.ps b 3 1 S2.D.nb hb
 rw [hps]at this
 simp at this
 simp [this]):p:=h
theorem An1 (h:p:=by
 refine wk ?_
 exact prog S κs _ _ b eo hbe hb v4 (r.k0 kps fun _ _=>rfl) (AChg.k0 kps fun _ _=>rfl) rfl (by omega) tsb):p:=h
theorem Add (h:p:=by
 have:=C9 S1.ps b 2 1 S1.D.nb hb
 rw [e2]at this
 simp at this
 unfold De at hmu ⊢
 simp only
 omega):p:=h
section
variable {P0:Program}(L:Lg P0 E F K)(X:Fx F K)
include L X
omit L X in
theorem Dv.prog_geo (D:Dv)(i:Int)(all:List Nat):((D.prog i all).1.nb=D.nb∧(D.prog i all).1.P=D.P∧(D.prog i all).1.sz=D.sz∧(D.prog i all).1.en=D.en)∧(D.prog i all).1.n≤D.n+1:=by
 unfold Dv.prog;split
 ·split;·exact⟨⟨rfl,rfl,rfl,rfl⟩,Nat.le_succ _⟩
  ·exact⟨⟨rfl,rfl,rfl,rfl⟩,Nat.le_refl _⟩
 ·exact⟨⟨rfl,rfl,rfl,rfl⟩,Nat.le_succ _⟩
omit L X in
theorem SetR.set {n:Nat}{ck:Nat}{f:Int→Bool}(q1:Mk (hp n t lh) r ((C7 M ck k (.bool true)).map (mE AI)) (mCk M ck k))(q2:MOk M ck)(q3: ∀k:Int,A5 M k=if f k=true then some (.bool true)else none):SetR (hp n t lh) r (Bh f k true):=by
 refine⟨_,_,q1,q2.set _ _,fun j=>?_⟩;rw [Bz,q3];unfold Bh;by_cases e:j=k;·rw [if_pos e,if_pos e];rfl
 ·rw [if_neg e,if_neg e]
theorem mh {o1:Nat}(T:Tb P0 E F K)(r0:ApR κ h I S0)(wi:WI S0 false)(q:sp.Fit)(hk:sp.kind=1)(kd:BS h b1 o1 data)(hc:κ b1=0)(hd:data.length=S0.D.sz)(hn:S0.D.n+muW S0 false+2<100000): CtX P0 E F K 144 [.ptr I.s 0,.ptr I.s 9,.agg (spC sp),.slc b1 o1 S0.D.sz c1] h (fun v h'=> ∃p S' κ',v=AN p∧p<1000∧WrP false (data++Au sp data) S0 S' (.done p)∧ApR κ' h' I S'∧AChg κ h κ' h') (fun v h'=> ∃(e:Nat) (S':Ap) (κ':Nat→Nat),v= .ifc 34 (AN e)∧((e=7∧WrP false (data++Au sp data) S0 S' .full)∨(e=50∧WrP false (data++Au sp data) S0 S' .pow))∧ApR κ' h' I S'∧AChg κ h κ' h'):=by
 have hsz:=r0.dv.ok.g.sz;have l1:=kd.lt_n;have l0:=r0.sk.lt;refine B9 L X.f144 fun Q x cs G Gp=>?_;refine cal ?_ (c:=Tw L X (data:=data) T q lkb hd (by omega));rintro _ h2 ⟨eb,rfl,w1,w2,w3⟩;simp only [Al]at w2;have n2:=w3.n;simp only [Al]at n2;refine cal ?_ (c:=Ay L X);rintro _ rfl;refine wk ?_;have lenx:(Au sp data).length=64:=by unfold Au;rw [List.length_append,A3,B6]
 refine je L (α:= Ap×(Nat→Nat)) (T:=fun s=> [(0,some (.ptr I.s 0)),(1,some (.ptr I.s 9)),(3,some (.slc b1 o1 S0.D.sz c1)),(6,some (.ptr h.n 0)),(9,some (.slc eb 0 64 (Aa+1)))]) (mu:=fun s=>muW s.1 false) (R:=fun s hh=>ApR s.2 hh I s.1∧AChg κ h s.2 hh∧(∀S' r,WrP false (data++Au sp data) s.1 S' r→WrP false (data++Au sp data) S0 S' r)∧WI s.1 false∧s.1.D.sz=S0.D.sz∧BS hh b1 o1 data∧s.2 b1=0∧BS hh eb 0 (Au sp data)∧s.2 eb=0∧Bk hh h.n (spC sp)∧s.2 h.n=0∧s.1.D.n+muW s.1 false+2<100000) (S0,ext κ h.n) tsb ⟨r0.k0 (by exact Kp.tr0 w3 kps) (fun b hb=>Aj hb),AChg.k0 (by exact Kp.tr0 w3 kps) (fun b hb=>Aj hb),fun _ _ h=>h,wi,rfl,lkb,(by show ext κ h.n b1=0;rw [Aj l1];exact hc),lkb,B0 (by omega),lkp,B0 (Nat.le_refl _),hn⟩ ?_;rintro⟨S,κs⟩ hh ⟨r,ch,hw,wi,esz,kd2,hc2,ke2,hce,ksp,hcs,hn⟩ ih;simp only at r ch hw wi esz hc2 hce hcs hn ih;have sk:=r.sk;obtain⟨cb,po⟩:=r.po;have lt:=r.lt;have col:=r.col;have ok:=r.dv.ok;obtain⟨v1,v2⟩:=wi;obtain⟨_,fm,bb,db,dc⟩:=r.dv;have hnb:=ok.g.nb;have hP:=ok.g.P
 have prog: ∀(S2:Ap) (κ2:Nat→Nat) (h4:H) (lq:List (Nat×Option AV)) (b:Nat),(S.cls false).opn false=some S2→S2.dat=(b:Int)→b<S2.D.nb→S2.ps b=2→ApR κ2 h4 I S2→AChg κs hh κ2 h4→S2.D=S.D→2*De S2+1≤muW S false→TSub (tms [(96,some (AN b)),(95,some (.ptr I.d 0)),(13,some (AN b)),(0,some (.ptr I.s 0)),(1,some (.ptr I.s 9)),(3,some (.slc b1 o1 S0.D.sz c1)),(6,some (.ptr h.n 0)),(9,some (.slc eb 0 64 (Aa+1)))]) (tms lq)→
   Good P0 E Q ⟨⟨144,cf144.ntmps,tms lq,[.ops [Cc 97 61 [(.t 95),(.t 96)],Cv 14 97],.code bt,.inBlock 1,.inLoop P3,.inBlock 0],[],.run,false,none⟩,x::cs,hp h4.n h4.t []⟩:=by
  intro S2 κ2 h4 lq b e1 e2 hb hps r2 ch2 eD hmu ht
  refine Eh L ht ?_
  have r2':=r2.dv
  obtain⟨ok2,fm2,bb2,db2,dc2⟩:=r2'
  obtain⟨pn,c,hr⟩:=dc2.rows b hb
  have kd4:=ch2.bs kd2 hc2
  have ke4:=ch2.bs ke2 hce
  have ksp4:Bk h4 h.n (spC sp):=Aq ch2.k (by omega) ksp
  have hcs4:κ2 h.n=0:=(ch2.col _ ksp.lt).trans hcs
  have sk2:=r2.sk
  have ls2:=sk2.lt
  have hsel:S2.sel false=(b:Int):=e2
  refine cal ?_ (c:=Ir L X dc2.dk dc2.bk hb hr.c1)
  rintro _ rfl
  unfold apC at sk2
  refine wk ?_
  have hsz2:S2.D.sz=S0.D.sz:=by rw [eD,esz]
  have fp:=Pc (h:=hp h4.n h4.t []) (c1:=c1) (c2:=Aa+1) L X (i:=(b:Int)) (p:=(S2.D.bl b).nx) (data:=data) (extra:=Au sp data) r2.dv (by rw [eD];omega) (fun _=>by rw [Int.toNat_natCast]) kd4.1 ke4.1 (by rw [hsz2];exact hd) lenx
  rw [hsz2]at fp
  refine cal ?_ (c:=fp)
  rintro _ h5 ⟨rfl,κ5,dv5,ch5⟩
  obtain⟨g1,g2⟩:=S2.D.prog_geo (b:Int) (data++Au sp data)
  have r5:=r2.dev ch5 dv5 g1
  have a5:AChg κs hh κ5 h5:=ch2.trans ch5.a
  have sk5:=r5.sk
  have ls5:=sk5.lt
  by_cases hpow:(S2.D.prog (b:Int) (data++Au sp data)).2=50
  ·have ew:S.w1 false (data++Au sp data)=({S2 with D:=(S2.D.prog (b:Int) (data++Au sp data)).1,down:=true},.pow):=by
    unfold Ap.w1;rw [e1];simp only [hsel];rw [if_pos hpow]
   rw [hpow]
   refine wk ?_
   refine Ei L rfl rfl rfl rfl rfl (Kq L X r5) ?_
   rintro _ h6 ⟨rfl,r6,k6⟩
   refine A2 L X.f144.1 ?_
   have hst:WrP false (data++Au sp data) S {S2 with D:=(S2.D.prog (b:Int) (data++Au sp data)).1,down:=true} .pow:=by
    exact Ag3
   exact Anw
  ·by_cases h0:(S2.D.prog (b:Int) (data++Au sp data)).2=0
   ·have ew:S.w1 false (data++Au sp data)=({S2 with D:=(S2.D.prog (b:Int) (data++Au sp data)).1},.done (b*S2.D.P+(S2.D.bl b).nx)):=by
     unfold Ap.w1;rw [e1];simp only [hsel,Int.toNat_natCast];rw [if_neg hpow,if_pos h0]
    rw [h0]
    unfold apC at sk5
    refine cal ?_ (c:=Gc L X (e:=((0:Nat):Int)) (by omega))
    rintro _ rfl
    have hbn:=ok2.bl b hb
    have hnx:=hbn.nx
    have hP2:=ok2.g.P
    have hnb2:=ok2.g.nb
    have hmul:b*S2.D.P≤12*6:=Nat.mul_le_mul (by omega) (by omega)
    have g1':(S2.D.prog (b:Int) (data++Au sp data)).1.P=S2.D.P:=g1.2.1
    simp only [g1']at sk5
    refine ret X.f144.1 ?_
    have hst:WrP false (data++Au sp data) S {S2 with D:=(S2.D.prog (b:Int) (data++Au sp data)).1} (.done (b*S2.D.P+(S2.D.bl b).nx)):=by
     exact Ag3
    exact Anz
   ·have ew:S.w1 false (data++Au sp data)=({S2 with D:=(S2.D.prog (b:Int) (data++Au sp data)).1,su:=Bh S2.su (b:Int) true,ps:=upd S2.ps b 3,dat:= -1},.again):=by
     unfold Ap.w1;rw [e1];simp only [hsel,Int.toNat_natCast];rw [if_neg hpow,if_neg h0];rfl
    have hpos:0<(S2.D.prog (b:Int) (data++Au sp data)).2:=by omega
    have hlt9:(S2.D.prog (b:Int) (data++Au sp data)).2<1000:=by
     exact Anv
    unfold apC at sk5
    generalize hE:(S2.D.prog (b:Int) (data++Au sp data)).2=er at*
    refine cal ?_ (c:=Gc L X (e:=(er:Int)) (by omega))
    rintro _ rfl
    obtain⟨M,ck,m1,m2,m3⟩:=r5.ms.ex
    have lm:=m1.lt
    have nms:I.s≠I.rs:=fun e=>by have:=r5.col;rw [e]at this;omega
    refine wk ?_
    (apply Lm L rfl;exact Ez (KE.int .i64) m2 rfl rfl rfl lkq;rfl)
    have k6:Kp (fun j=>j=I.rs) h5 (hp h5.n h5.t [(I.rs,some (.map ((C7 M ck (b:Int) (.bool true)).map (mE AI)) (mCk M ck (b:Int))))]):=kps
    have r6:=r5.sset k6 (SetR.set (k:=(b:Int)) lkq m2 m3)
    obtain⟨cb6,po6⟩:=r6.po
    have hb6:b<(S2.D.prog (b:Int) (data++Au sp data)).1.nb:=by rw [g1.1];exact hb
    refine cal ?_ (c:=H5 L X po6 hb6 hps)
    rintro _ h7 ⟨rfl,po7,k7⟩
    have r7:=r6.pool k7 po7
    have sk7:=r7.sk
    have ls7:=sk7.lt
    unfold apC at sk7
    refine wk ?_
    have k8:Kp (fun j=>j=I.s) h7 (hp h7.n h7.t [(I.s,some (cl (apC I {S2 with D:=(S2.D.prog (b:Int) (data++Au sp data)).1,su:=Bh S2.su (b:Int) true,ps:=upd S2.ps b 3,dat:= -1})))]):=kps
    have r8:=r7.st (S':= {S2 with D:=(S2.D.prog (b:Int) (data++Au sp data)).1,su:=Bh S2.su (b:Int) true,ps:=upd S2.ps b 3,dat:= -1}) k8 lkp ⟨rfl,rfl,rfl,rfl,rfl,rfl,rfl,rfl⟩
    have a6:AChg κ5 h5 κ5 _:=AChg.kp k6 fun b _ e=>by subst e;have:=r5.col;omega
    have a7:AChg κ5 _ κ5 h7:=AChg.kp k7 fun b _ e=>by rcases e with e|e <;> subst e <;> (have:=r6.col;omega)
    have a8:AChg κ5 h7 κ5 _:=AChg.kp k8 fun b _ e=>by subst e;have:=r7.col;omega
    have aa:=a5.trans (a6.trans (a7.trans a8))
    have kd8:=aa.bs kd2 hc2
    have ke8:=aa.bs ke2 hce
    have hmu8:muW {S2 with D:=(S2.D.prog (b:Int) (data++Au sp data)).1,su:=Bh S2.su (b:Int) true,ps:=upd S2.ps b 3,dat:= -1} false=2*De S2:=by
     exact An0
    refine ih ({S2 with D:=(S2.D.prog (b:Int) (data++Au sp data)).1,su:=Bh S2.su (b:Int) true,ps:=upd S2.ps b 3,dat:= -1},κ5) _ _ ?_ ⟨r8,ch.trans aa,fun S' r' hw'=>hw _ _ (.more (by rw [ew]) (by rw [ew];exact hw')),⟨fun e=>absurd e (by unfold Ap.sel;simp),by unfold Ap.sel;simp⟩,?_,kd8.1,kd8.2,ke8.1,ke8.2,Aq aa.k (by omega) ksp,(aa.col _ ksp.lt).trans hcs,?_⟩ tsb
    ·simp only [hmu8];omega
    ·simp only [g1.2.2.1];exact hsz2
    ·have eDn:S2.D.n=S.D.n:=by rw [eD]
     simp only [hmu8];omega
 have take: ∀(h4:H) (lq:List (Nat×Option AV)),(S.cls false).dat<0→ApR κs h4 I (S.cls false)→AChg κs hh κs h4→(S.cls false).D=S.D→2*De (S.cls false)≤muW S false→TSub (tms [(69,some (.ptr I.p 0)),(0,some (.ptr I.s 0)),(1,some (.ptr I.s 9)),(3,some (.slc b1 o1 S0.D.sz c1)),(6,some (.ptr h.n 0)),(9,some (.slc eb 0 64 (Aa+1)))]) (tms lq)→
   Good P0 E Q ⟨⟨144,cf144.ntmps,tms lq,[.ops [Cc 70 199 [(.t 69)],Cv 65 70,Ce 71 65 0,Ce 72 65 1,Cv 11 71,Cv 12 72],.code bq,.code bu,.inBlock 1,.inLoop P3,.inBlock 0],[],.run,false,none⟩,x::cs,hp h4.n h4.t []⟩:=by
  intro h4 lq hneg r2 ch2 eD hmu ht
  refine Eh L ht ?_
  generalize hS1:S.cls false=S1 at*
  obtain⟨cb2,po2⟩:=r2.po
  have ksp4:Bk h4 h.n (spC sp):=Aq ch2.k (by omega) ksp
  have lsp:=ksp4.lt
  refine cal ?_ (c:=de L X po2)
  rintro _ h5 (⟨e1,e2,rfl,k5⟩|⟨b,e1,hb,e2,rfl,po5,k5⟩)
  ·refine wk ?_
   refine Ei L rfl rfl rfl rfl rfl (Ds L X) ?_
   rintro _ _ ⟨rfl,rfl⟩
   refine A2 L X.f144.1 ?_
   have ew:S.w1 false (data++Au sp data)=(S1,.full):=by
    unfold Ap.w1;rw [hS1]
    have:S1.opn false=none:=by unfold Ap.opn;rw [if_pos (show S1.sel false<0 from hneg),if_pos (by rw [e1];omega)]
    rw [this]
   have hst:WrP false (data++Au sp data) S S1 .full:=by
    exact Ag3
   exact Anx
  ·have r5:=r2.pool k5 po5
   have a5:AChg κs h4 κs h5:=AChg.kp k5 fun b _ e=>by rcases e with e|e <;> subst e <;> (have:=r2.col;omega)
   have ksp5:Bk h5 h.n (spC sp):=Aq a5.k (by have:=ch2.col _ ksp.lt;omega) ksp4
   have sk5:=r5.sk
   have ls5:=sk5.lt
   have nsp:h.n≠I.s:=fun e=>by have:=r5.col;rw [←e]at this;omega
   unfold apC at sk5
   unfold spC at ksp5
   refine cal ?_ (c:=Ay L X)
   rintro _ rfl
   have k6:Kp (fun j=>j=I.s) h5 (hp h5.n h5.t [(I.s,some (cl (apC I {S1 with ps:=upd S1.ps b 2,dat:=(b:Int)})))]):=kps
   have r6:=r5.st (S':= {S1 with ps:=upd S1.ps b 2,dat:=(b:Int)}) k6 (by unfold apC;exact lkp) ⟨rfl,rfl,rfl,rfl,rfl,rfl,rfl,rfl⟩
   have a6:AChg κs h5 κs _:=AChg.kp k6 fun b _ e=>by subst e;have:=r5.col;omega
   have sk6:=r6.sk
   rw [hk]at ksp5
   refine wk ?_
   refine prog {S1 with ps:=upd S1.ps b 2,dat:=(b:Int)} κs _ _ b ?_ rfl hb (upd_eq _ _ _) r6 (ch2.trans (a5.trans a6)) eD ?_ tsb
   ·unfold Ap.opn;rw [if_pos (show S1.sel false<0 from hneg),if_neg (by rw [e1];omega),e1,Int.toNat_natCast];rfl
   ·exact Add
 by_cases hb0:0≤S.dat
 ·obtain⟨b,hbe⟩: ∃b:Nat,S.dat=(b:Int):=⟨S.dat.toNat,by omega⟩;have hsel:S.sel false=(b:Int):=hbe;obtain⟨v3,v4⟩:=v1 (by rw [hsel];omega);rw [hsel]at v3;rw [hsel,Int.toNat_natCast]at v4;have hb:b<S.D.nb:=by omega
  obtain⟨pn,c,hr⟩:=dc.rows b hb;have hmu:muW S false=2*De S+1:=by unfold muW;rw [hsel,if_pos (by omega)]
  unfold apC at sk;rw [hbe]at sk;refine cal ?_ (c:=Ir L X dc.dk dc.bk hb hr.c1);rintro _ rfl;by_cases hfull:(S.D.bl b).nx=S.D.P;·have ec:S.cls false= {S with ps:=upd S.ps b 3,dat:= -1}:=(by unfold Ap.cls;rw [hsel,Int.toNat_natCast,if_pos ⟨by omega,hfull⟩];rfl);refine cal ?_ (c:=H5 L X po hb v4);rintro _ h4 ⟨rfl,po4,k4⟩;have r4:=r.pool k4 po4;have sk4:=r4.sk;have ls4:=sk4.lt;unfold apC at sk4;refine wk ?_;have k5:Kp (fun j=>j=I.s) h4 (hp h4.n h4.t [(I.s,some (cl (apC I {S with ps:=upd S.ps b 3,dat:= -1})))]):=kps;have r5:=r4.st (S':= {S with ps:=upd S.ps b 3,dat:= -1}) k5 (by unfold apC;exact lkp) ⟨rfl,rfl,rfl,rfl,rfl,rfl,rfl,rfl⟩;exact Ant
  ·have ec:S.cls false=S:=(by unfold Ap.cls;rw [hsel,Int.toNat_natCast,if_neg (by omega)]);have eo:(S.cls false).opn false=some S:=(by rw [ec];unfold Ap.opn;rw [hsel,if_neg (by omega)]);exact An1
 ·have ec:S.cls false=S:=by unfold Ap.cls;rw [if_neg];rintro⟨e,-⟩;exact hb0 e
  have hneg:S.dat= -1:=by have: -1≤S.dat:=v2;omega
  exact Anu
end
theorem Ag4 (h:p:=by
 have h1:=WrP.stop (k:=true) (all:=data++Au sp data) (S:=S) (by rw [ew];intro e;cases e)
 rw [ew]at h1;exact h1):p:=h
section
variable {P0:Program}(L:Lg P0 E F K)(X:Fx F K)
include L X
theorem mi {o1:Nat}(T:Tb P0 E F K)(r0:ApR κ h I S0)(wi:WI S0 true)(q:sp.Fit)(hk:sp.kind≠1)(kd:BS h b1 o1 data)(hc:κ b1=0)(hd:data.length=S0.D.sz)(hn:S0.D.n+muW S0 true+2<100000): CtX P0 E F K 144 [.ptr I.s 0,.ptr I.s 10,.agg (spC sp),.slc b1 o1 S0.D.sz c1] h (fun v h'=> ∃p S' κ',v=AN p∧p<1000∧WrP true (data++Au sp data) S0 S' (.done p)∧ApR κ' h' I S'∧AChg κ h κ' h') (fun v h'=> ∃(e:Nat) (S':Ap) (κ':Nat→Nat),v= .ifc 34 (AN e)∧((e=7∧WrP true (data++Au sp data) S0 S' .full)∨(e=50∧WrP true (data++Au sp data) S0 S' .pow))∧ApR κ' h' I S'∧AChg κ h κ' h'):=by
 have hsz:=r0.dv.ok.g.sz;have l1:=kd.lt_n;have l0:=r0.sk.lt;refine B9 L X.f144 fun Q x cs G Gp=>?_;refine cal ?_ (c:=Tw L X (data:=data) T q lkb hd (by omega));rintro _ h2 ⟨eb,rfl,w1,w2,w3⟩;simp only [Al]at w2;have n2:=w3.n;simp only [Al]at n2;refine cal ?_ (c:=Ay L X);rintro _ rfl;refine wk ?_;have lenx:(Au sp data).length=64:=by unfold Au;rw [List.length_append,A3,B6]
 refine je L (α:= Ap×(Nat→Nat)) (T:=fun s=> [(0,some (.ptr I.s 0)),(1,some (.ptr I.s 10)),(3,some (.slc b1 o1 S0.D.sz c1)),(6,some (.ptr h.n 0)),(9,some (.slc eb 0 64 (Aa+1)))]) (mu:=fun s=>muW s.1 true) (R:=fun s hh=>ApR s.2 hh I s.1∧AChg κ h s.2 hh∧(∀S' r,WrP true (data++Au sp data) s.1 S' r→WrP true (data++Au sp data) S0 S' r)∧WI s.1 true∧s.1.D.sz=S0.D.sz∧BS hh b1 o1 data∧s.2 b1=0∧BS hh eb 0 (Au sp data)∧s.2 eb=0∧Bk hh h.n (spC sp)∧s.2 h.n=0∧s.1.D.n+muW s.1 true+2<100000) (S0,ext κ h.n) tsb ⟨r0.k0 (by exact Kp.tr0 w3 kps) (fun b hb=>Aj hb),AChg.k0 (by exact Kp.tr0 w3 kps) (fun b hb=>Aj hb),fun _ _ h=>h,wi,rfl,lkb,(by show ext κ h.n b1=0;rw [Aj l1];exact hc),lkb,B0 (by omega),lkp,B0 (Nat.le_refl _),hn⟩ ?_;rintro⟨S,κs⟩ hh ⟨r,ch,hw,wi,esz,kd2,hc2,ke2,hce,ksp,hcs,hn⟩ ih;simp only at r ch hw wi esz hc2 hce hcs hn ih;have sk:=r.sk;obtain⟨cb,po⟩:=r.po;have lt:=r.lt;have col:=r.col;have ok:=r.dv.ok;obtain⟨v1,v2⟩:=wi;obtain⟨_,fm,bb,db,dc⟩:=r.dv;have hnb:=ok.g.nb;have hP:=ok.g.P
 have prog: ∀(S2:Ap) (κ2:Nat→Nat) (h4:H) (lq:List (Nat×Option AV)) (b:Nat),(S.cls true).opn true=some S2→S2.log=(b:Int)→b<S2.D.nb→S2.ps b=2→ApR κ2 h4 I S2→AChg κs hh κ2 h4→S2.D=S.D→2*De S2+1≤muW S true→TSub (tms [(96,some (AN b)),(95,some (.ptr I.d 0)),(13,some (AN b)),(0,some (.ptr I.s 0)),(1,some (.ptr I.s 10)),(3,some (.slc b1 o1 S0.D.sz c1)),(6,some (.ptr h.n 0)),(9,some (.slc eb 0 64 (Aa+1)))]) (tms lq)→
   Good P0 E Q ⟨⟨144,cf144.ntmps,tms lq,[.ops [Cc 97 61 [(.t 95),(.t 96)],Cv 14 97],.code bt,.inBlock 1,.inLoop P3,.inBlock 0],[],.run,false,none⟩,x::cs,hp h4.n h4.t []⟩:=by
  intro S2 κ2 h4 lq b e1 e2 hb hps r2 ch2 eD hmu ht
  refine Eh L ht ?_
  have r2':=r2.dv
  obtain⟨ok2,fm2,bb2,db2,dc2⟩:=r2'
  obtain⟨pn,c,hr⟩:=dc2.rows b hb
  have kd4:=ch2.bs kd2 hc2
  have ke4:=ch2.bs ke2 hce
  have ksp4:Bk h4 h.n (spC sp):=Aq ch2.k (by omega) ksp
  have hcs4:κ2 h.n=0:=(ch2.col _ ksp.lt).trans hcs
  have sk2:=r2.sk
  have ls2:=sk2.lt
  have hsel:S2.sel true=(b:Int):=e2
  refine cal ?_ (c:=Ir L X dc2.dk dc2.bk hb hr.c1)
  rintro _ rfl
  unfold apC at sk2
  refine wk ?_
  have hsz2:S2.D.sz=S0.D.sz:=by rw [eD,esz]
  have fp:=Pc (h:=hp h4.n h4.t []) (c1:=c1) (c2:=Aa+1) L X (i:=(b:Int)) (p:=(S2.D.bl b).nx) (data:=data) (extra:=Au sp data) r2.dv (by rw [eD];omega) (fun _=>by rw [Int.toNat_natCast]) kd4.1 ke4.1 (by rw [hsz2];exact hd) lenx
  rw [hsz2]at fp
  refine cal ?_ (c:=fp)
  rintro _ h5 ⟨rfl,κ5,dv5,ch5⟩
  obtain⟨g1,g2⟩:=S2.D.prog_geo (b:Int) (data++Au sp data)
  have r5:=r2.dev ch5 dv5 g1
  have a5:AChg κs hh κ5 h5:=ch2.trans ch5.a
  have sk5:=r5.sk
  have ls5:=sk5.lt
  by_cases hpow:(S2.D.prog (b:Int) (data++Au sp data)).2=50
  ·have ew:S.w1 true (data++Au sp data)=({S2 with D:=(S2.D.prog (b:Int) (data++Au sp data)).1,down:=true},.pow):=by
    unfold Ap.w1;rw [e1];simp only [hsel];rw [if_pos hpow]
   rw [hpow]
   refine wk ?_
   refine Ei L rfl rfl rfl rfl rfl (Kq L X r5) ?_
   rintro _ h6 ⟨rfl,r6,k6⟩
   refine A2 L X.f144.1 ?_
   have hst:WrP true (data++Au sp data) S {S2 with D:=(S2.D.prog (b:Int) (data++Au sp data)).1,down:=true} .pow:=by
    exact Ag4
   exact Anw
  ·by_cases h0:(S2.D.prog (b:Int) (data++Au sp data)).2=0
   ·have ew:S.w1 true (data++Au sp data)=({S2 with D:=(S2.D.prog (b:Int) (data++Au sp data)).1},.done (b*S2.D.P+(S2.D.bl b).nx)):=by
     unfold Ap.w1;rw [e1];simp only [hsel,Int.toNat_natCast];rw [if_neg hpow,if_pos h0]
    rw [h0]
    unfold apC at sk5
    refine cal ?_ (c:=Gc L X (e:=((0:Nat):Int)) (by omega))
    rintro _ rfl
    have hbn:=ok2.bl b hb
    have hnx:=hbn.nx
    have hP2:=ok2.g.P
    have hnb2:=ok2.g.nb
    have hmul:b*S2.D.P≤12*6:=Nat.mul_le_mul (by omega) (by omega)
    have g1':(S2.D.prog (b:Int) (data++Au sp data)).1.P=S2.D.P:=g1.2.1
    simp only [g1']at sk5
    refine ret X.f144.1 ?_
    have hst:WrP true (data++Au sp data) S {S2 with D:=(S2.D.prog (b:Int) (data++Au sp data)).1} (.done (b*S2.D.P+(S2.D.bl b).nx)):=by
     exact Ag4
    exact Anz
   ·have ew:S.w1 true (data++Au sp data)=({S2 with D:=(S2.D.prog (b:Int) (data++Au sp data)).1,su:=Bh S2.su (b:Int) true,ps:=upd S2.ps b 3,log:= -1},.again):=by
     unfold Ap.w1;rw [e1];simp only [hsel,Int.toNat_natCast];rw [if_neg hpow,if_neg h0];rfl
    have hpos:0<(S2.D.prog (b:Int) (data++Au sp data)).2:=by omega
    have hlt9:(S2.D.prog (b:Int) (data++Au sp data)).2<1000:=by
     exact Anv
    unfold apC at sk5
    generalize hE:(S2.D.prog (b:Int) (data++Au sp data)).2=er at*
    refine cal ?_ (c:=Gc L X (e:=(er:Int)) (by omega))
    rintro _ rfl
    obtain⟨M,ck,m1,m2,m3⟩:=r5.ms.ex
    have lm:=m1.lt
    have nms:I.s≠I.rs:=fun e=>by have:=r5.col;rw [e]at this;omega
    refine wk ?_
    (apply Lm L rfl;exact Ez (KE.int .i64) m2 rfl rfl rfl lkq;rfl)
    have k6:Kp (fun j=>j=I.rs) h5 (hp h5.n h5.t [(I.rs,some (.map ((C7 M ck (b:Int) (.bool true)).map (mE AI)) (mCk M ck (b:Int))))]):=kps
    have r6:=r5.sset k6 (SetR.set (k:=(b:Int)) lkq m2 m3)
    obtain⟨cb6,po6⟩:=r6.po
    have hb6:b<(S2.D.prog (b:Int) (data++Au sp data)).1.nb:=by rw [g1.1];exact hb
    refine cal ?_ (c:=H5 L X po6 hb6 hps)
    rintro _ h7 ⟨rfl,po7,k7⟩
    have r7:=r6.pool k7 po7
    have sk7:=r7.sk
    have ls7:=sk7.lt
    unfold apC at sk7
    refine wk ?_
    have k8:Kp (fun j=>j=I.s) h7 (hp h7.n h7.t [(I.s,some (cl (apC I {S2 with D:=(S2.D.prog (b:Int) (data++Au sp data)).1,su:=Bh S2.su (b:Int) true,ps:=upd S2.ps b 3,log:= -1})))]):=kps
    have r8:=r7.st (S':= {S2 with D:=(S2.D.prog (b:Int) (data++Au sp data)).1,su:=Bh S2.su (b:Int) true,ps:=upd S2.ps b 3,log:= -1}) k8 lkp ⟨rfl,rfl,rfl,rfl,rfl,rfl,rfl,rfl⟩
    have a6:AChg κ5 h5 κ5 _:=AChg.kp k6 fun b _ e=>by subst e;have:=r5.col;omega
    have a7:AChg κ5 _ κ5 h7:=AChg.kp k7 fun b _ e=>by rcases e with e|e <;> subst e <;> (have:=r6.col;omega)
    have a8:AChg κ5 h7 κ5 _:=AChg.kp k8 fun b _ e=>by subst e;have:=r7.col;omega
    have aa:=a5.trans (a6.trans (a7.trans a8))
    have kd8:=aa.bs kd2 hc2
    have ke8:=aa.bs ke2 hce
    have hmu8:muW {S2 with D:=(S2.D.prog (b:Int) (data++Au sp data)).1,su:=Bh S2.su (b:Int) true,ps:=upd S2.ps b 3,log:= -1} true=2*De S2:=by
     exact An0
    refine ih ({S2 with D:=(S2.D.prog (b:Int) (data++Au sp data)).1,su:=Bh S2.su (b:Int) true,ps:=upd S2.ps b 3,log:= -1},κ5) _ _ ?_ ⟨r8,ch.trans aa,fun S' r' hw'=>hw _ _ (.more (by rw [ew]) (by rw [ew];exact hw')),⟨fun e=>absurd e (by unfold Ap.sel;simp),by unfold Ap.sel;simp⟩,?_,kd8.1,kd8.2,ke8.1,ke8.2,Aq aa.k (by omega) ksp,(aa.col _ ksp.lt).trans hcs,?_⟩ tsb
    ·simp only [hmu8];omega
    ·simp only [g1.2.2.1];exact hsz2
    ·have eDn:S2.D.n=S.D.n:=by rw [eD]
     simp only [hmu8];omega
 have take: ∀(h4:H) (lq:List (Nat×Option AV)),(S.cls true).log<0→ApR κs h4 I (S.cls true)→AChg κs hh κs h4→(S.cls true).D=S.D→2*De (S.cls true)≤muW S true→TSub (tms [(69,some (.ptr I.p 0)),(0,some (.ptr I.s 0)),(1,some (.ptr I.s 10)),(3,some (.slc b1 o1 S0.D.sz c1)),(6,some (.ptr h.n 0)),(9,some (.slc eb 0 64 (Aa+1)))]) (tms lq)→
   Good P0 E Q ⟨⟨144,cf144.ntmps,tms lq,[.ops [Cc 70 199 [(.t 69)],Cv 65 70,Ce 71 65 0,Ce 72 65 1,Cv 11 71,Cv 12 72],.code bq,.code bu,.inBlock 1,.inLoop P3,.inBlock 0],[],.run,false,none⟩,x::cs,hp h4.n h4.t []⟩:=by
  intro h4 lq hneg r2 ch2 eD hmu ht
  refine Eh L ht ?_
  generalize hS1:S.cls true=S1 at*
  obtain⟨cb2,po2⟩:=r2.po
  have ksp4:Bk h4 h.n (spC sp):=Aq ch2.k (by omega) ksp
  have lsp:=ksp4.lt
  refine cal ?_ (c:=de L X po2)
  rintro _ h5 (⟨e1,e2,rfl,k5⟩|⟨b,e1,hb,e2,rfl,po5,k5⟩)
  ·refine wk ?_
   refine Ei L rfl rfl rfl rfl rfl (Ds L X) ?_
   rintro _ _ ⟨rfl,rfl⟩
   refine A2 L X.f144.1 ?_
   have ew:S.w1 true (data++Au sp data)=(S1,.full):=by
    unfold Ap.w1;rw [hS1]
    have:S1.opn true=none:=by unfold Ap.opn;rw [if_pos (show S1.sel true<0 from hneg),if_pos (by rw [e1];omega)]
    rw [this]
   have hst:WrP true (data++Au sp data) S S1 .full:=by
    exact Ag4
   exact Anx
  ·have r5:=r2.pool k5 po5
   have a5:AChg κs h4 κs h5:=AChg.kp k5 fun b _ e=>by rcases e with e|e <;> subst e <;> (have:=r2.col;omega)
   have ksp5:Bk h5 h.n (spC sp):=Aq a5.k (by have:=ch2.col _ ksp.lt;omega) ksp4
   have sk5:=r5.sk
   have ls5:=sk5.lt
   have nsp:h.n≠I.s:=fun e=>by have:=r5.col;rw [←e]at this;omega
   unfold apC at sk5
   unfold spC at ksp5
   refine cal ?_ (c:=Ay L X)
   rintro _ rfl
   have k6:Kp (fun j=>j=I.s) h5 (hp h5.n h5.t [(I.s,some (cl (apC I {S1 with ps:=upd S1.ps b 2,log:=(b:Int)})))]):=kps
   have r6:=r5.st (S':= {S1 with ps:=upd S1.ps b 2,log:=(b:Int)}) k6 (by unfold apC;exact lkp) ⟨rfl,rfl,rfl,rfl,rfl,rfl,rfl,rfl⟩
   have a6:AChg κs h5 κs _:=AChg.kp k6 fun b _ e=>by subst e;have:=r5.col;omega
   obtain⟨M,ck,m1,m2,m3⟩:=r6.mj.ex
   have lm:=m1.lt
   simp only [Al]at lm
   have nms:I.s≠I.rj:=fun e=>by have:=r5.col;rw [e]at this;omega
   obtain⟨M5,ck5,p1,p2,p3⟩:=r5.mj.ex
   refine wk ?_
   (apply Lm L rfl;exact Ez (KE.int .i64) p2 rfl rfl rfl lkq;rfl)
   have k7:Kp (fun j=>j=I.rj) (hp h5.n h5.t [(I.s,some (cl (apC I {S1 with ps:=upd S1.ps b 2,log:=(b:Int)})))]) (hp h5.n h5.t [(I.rj,some (.map ((C7 M5 ck5 (b:Int) (.bool true)).map (mE AI)) (mCk M5 ck5 (b:Int)))),(I.s,some (cl (apC I {S1 with ps:=upd S1.ps b 2,log:=(b:Int)})))]):=kps
   have r7:=r6.jset k7 (SetR.set (k:=(b:Int)) lkq p2 p3)
   have a7:AChg κs _ κs _:=AChg.kp k7 fun b _ e=>by subst e;have:=r6.col;omega
   have sk7:=r7.sk
   refine wk ?_
   refine prog {S1 with ps:=upd S1.ps b 2,log:=(b:Int),jr:=Bh S1.jr (b:Int) true} κs _ _ b ?_ rfl hb (upd_eq _ _ _) r7 (ch2.trans (a5.trans (a6.trans a7))) eD ?_ tsb
   ·unfold Ap.opn;rw [if_pos (show S1.sel true<0 from hneg),if_neg (by rw [e1];omega),e1,Int.toNat_natCast];rfl
   ·exact Add
 by_cases hb0:0≤S.log
 ·obtain⟨b,hbe⟩: ∃b:Nat,S.log=(b:Int):=⟨S.log.toNat,by omega⟩;have hsel:S.sel true=(b:Int):=hbe;obtain⟨v3,v4⟩:=v1 (by rw [hsel];omega);rw [hsel]at v3;rw [hsel,Int.toNat_natCast]at v4;have hb:b<S.D.nb:=by omega
  obtain⟨pn,c,hr⟩:=dc.rows b hb;have hmu:muW S true=2*De S+1:=by unfold muW;rw [hsel,if_pos (by omega)]
  unfold apC at sk;rw [hbe]at sk;refine cal ?_ (c:=Ir L X dc.dk dc.bk hb hr.c1);rintro _ rfl;by_cases hfull:(S.D.bl b).nx=S.D.P;·have ec:S.cls true= {S with ps:=upd S.ps b 3,log:= -1}:=(by unfold Ap.cls;rw [hsel,Int.toNat_natCast,if_pos ⟨by omega,hfull⟩];rfl);refine cal ?_ (c:=H5 L X po hb v4);rintro _ h4 ⟨rfl,po4,k4⟩;have r4:=r.pool k4 po4;have sk4:=r4.sk;have ls4:=sk4.lt;unfold apC at sk4;refine wk ?_;have k5:Kp (fun j=>j=I.s) h4 (hp h4.n h4.t [(I.s,some (cl (apC I {S with ps:=upd S.ps b 3,log:= -1})))]):=kps;have r5:=r4.st (S':= {S with ps:=upd S.ps b 3,log:= -1}) k5 (by unfold apC;exact lkp) ⟨rfl,rfl,rfl,rfl,rfl,rfl,rfl,rfl⟩;exact Ant
  ·have ec:S.cls true=S:=(by unfold Ap.cls;rw [hsel,Int.toNat_natCast,if_neg (by omega)]);have eo:(S.cls true).opn true=some S:=(by rw [ec];unfold Ap.opn;rw [hsel,if_neg (by omega)]);exact An1
 ·have ec:S.cls true=S:=by unfold Ap.cls;rw [if_neg];rintro⟨e,-⟩;exact hb0 e
  have hneg:S.log= -1:=by have: -1≤S.log:=v2;omega
  exact Anu
def spD (sec:Int)(n:Nat):Sp:=⟨1,sec,n,0,0,1⟩
omit L X in
theorem Nb {n:Nat}(h1:0≤sec∧sec≤4294967294)(h2:1≤n∧n<1000000000):(spD sec n).Fit:= ⟨⟨h2.1,by unfold spD;simp,by unfold spD;simp,by unfold spD;simp,by unfold spD;simp,.inl ⟨rfl,h1.1,h1.2,rfl,rfl⟩⟩,⟨by unfold spD;simp,by unfold spD;simp only;omega,by unfold spD;simp⟩⟩
inductive StP (sec:Int)(data:List Nat):Ap→Ap→WO→Prop where
 |ok {S S1:Ap} {p:Nat} (h:WrP false (data++Au (spD sec S.next) data) {S with next:=S.next+1} S1 (.done p)):StP sec data S {S1 with wr:=Oe S1.wr ((p / S1.D.P:Nat):Int) (some S.next)} (.done p)
 |bad {S S1:Ap} {r:WO} (h:WrP false (data++Au (spD sec S.next) data) {S with next:=S.next+1} S1 r) (hr:r= .full∨r= .pow):StP sec data S S1 r
def eOf:WO→Nat
 | .full=>7
 | .pow=>50
 |_=>0
omit L X
theorem NumR.set {n:Nat}{ck v:Nat}{f:Int→Option Nat}(q1:Mk (hp n t lh) r ((C7 M ck k (UN v)).map (mE AI)) (mCk M ck k))(q2:MOk M ck)(q3: ∀k:Int,A5 M k=(f k).map fun n=> UN n):NumR (hp n t lh) r (Oe f k (some v)):=by
 refine⟨_,_,q1,q2.set _ _,fun j=>?_⟩;rw [Bz,q3];unfold Oe;by_cases e:j=k;·rw [if_pos e,if_pos e];rfl
 ·rw [if_neg e,if_neg e]
theorem NumR.del {n:Nat}{ck:Nat}{f:Int→Option Nat}(q1:Mk (hp n t lh) r ((I5 M k).map (mE AI)) ck)(q2:MOk M ck)(q3: ∀k:Int,A5 M k=(f k).map fun n=> UN n):NumR (hp n t lh) r (Oe f k none):=by
 refine⟨_,_,q1,q2.del _,fun j=>?_⟩;rw [Jo,q3];unfold Oe;by_cases e:j=k;·rw [if_pos e,if_pos e];rfl
 ·rw [if_neg e,if_neg e]
theorem SetR.del {n:Nat}{ck:Nat}{f:Int→Bool}(q1:Mk (hp n t lh) r ((I5 M k).map (mE AI)) ck)(q2:MOk M ck)(q3: ∀k:Int,A5 M k=if f k=true then some (.bool true)else none):SetR (hp n t lh) r (Bh f k false):=by
 refine⟨_,_,q1,q2.del _,fun j=>?_⟩;rw [Jo,q3];unfold Bh;by_cases e:j=k;·rw [if_pos e,if_pos e];rfl
 ·rw [if_neg e,if_neg e]
theorem ApR.out (q:ApR κ h I S)(k:Kp B h h')(hb: ∀b,b<h.n→B b→200≤κ b):ApR κ h' I S:=by
 obtain⟨c0,c1,c2,c3,c4,c5,c6,c7,c8,c9⟩:=q.col;obtain⟨l0,l1,l2,l3,l4,l5,l6,l7,l8,l9⟩:=q.lt;obtain⟨cb,q1⟩:=q.po;have ne: ∀{b:Nat},b<h.n→κ b<200→ ¬B b:=fun hl hk e=>by have:=hb _ hl e;omega
 exact⟨Aq k (ne l0 (by omega)) q.sk,⟨cb,q1.kp k (ne l1 (by omega)) (ne l2 (by omega))⟩,q.dvk k fun b hl e=>by have:=hb b hl e;omega,q.mp.kp k (ne l3 (by omega)) (ne l4 (by omega)) (ne l5 (by omega)) (ne l6 (by omega)),
  q.mj.kp k (ne l7 (by omega)),q.ms.kp k (ne l8 (by omega)),q.mw.kp k (ne l9 (by omega)),q.col⟩
include L X
theorem Xm {o1:Nat}(T:Tb P0 E F K)(r:ApR κ h I S)(wi:WI S false)(hs:0≤sec∧sec≤4294967294)(hx:1≤S.next∧S.next<999999999)(kd:BS h b1 o1 data)(hc:κ b1=0)(hd:data.length=S.D.sz)(hn:S.D.n+muW S false+2<100000): CtX P0 E F K 94 [.ptr I.s 0,AI sec,.slc b1 o1 S.D.sz c1] h (fun v h'=> ∃p S' κ',v= .agg [AI sec,AN p]∧StP sec data S S' (.done p)∧ApR κ' h' I S'∧AChg κ h κ' h') (fun v h'=> ∃(o:WO) (S':Ap) (κ':Nat→Nat),v= .ifc 34 (AN (eOf o))∧(o= .full∨o= .pow)∧StP sec data S S' o∧ApR κ' h' I S'∧AChg κ h κ' h'):=by
 have sk:=r.sk;have l0:=sk.lt;have l1:=kd.lt_n;have col:=r.col;have nb1:b1≠I.s:=fun e=>by rw [e]at hc;omega
 unfold apC at sk;refine B9 L X.f94 fun Q x cs G Gp=>?_;refine wk ?_;(apply st1 L rfl;exact Mx rfl rfl (by omega);rfl);refine wk ?_;have r1:ApR (upd (ext κ h.n) h.n 200) (hp (h.n+1) h.t [(h.n,some (cl [Zi,Zi]))]) I S:=r.k0 kps fun b hb=>(upd_ne _ _ (by omega)).trans (Aj hb);have k2:Kp (fun j=>j=I.s) (hp (h.n+1) h.t [(h.n,some (cl [Zi,Zi]))]) (hp (h.n+1) h.t [(I.s,some (cl (apC I {S with next:=S.next+1}))),(h.n,some (cl [Zi,Zi]))]):=kps;have r2:=r1.st (S':= {S with next:=S.next+1}) k2 (by unfold apC;exact lkp) ⟨rfl,rfl,rfl,rfl,rfl,rfl,rfl,rfl⟩;have a2:AChg κ h (upd (ext κ h.n) h.n 200) (hp (h.n+1) h.t [(I.s,some (cl (apC I {S with next:=S.next+1}))),(h.n,some (cl [Zi,Zi]))]):= AChg.trans (κ1:=upd (ext κ h.n) h.n 200) (h1:=hp (h.n+1) h.t [(h.n,some (cl [Zi,Zi]))]) (AChg.k0 kps fun b hb=>(upd_ne _ _ (by omega)).trans (Aj hb)) (AChg.kp k2 fun b _ e=>by subst e;rw [upd_ne _ _ (by omega),Aj l0];omega);have kd2:=a2.bs kd hc;have kr:Bk (hp (h.n+1) h.t [(I.s,some (cl (apC I {S with next:=S.next+1}))),(h.n,some (cl [Zi,Zi]))]) h.n [Zi,Zi]:=lkp;have hfit:=Nb hs ⟨hx.1,by omega⟩;have fp:=mh (c1:=c1) (sp:=spD sec S.next) (data:=data) L X T r2 ⟨wi.sel,wi.lo⟩ hfit rfl kd2.1 kd2.2 hd (by exact hn);refine J2 L (c:=fp) (g:=?_) (gp:=?_)
 ·rintro _ h3 ⟨p,S3,κ3,rfl,hp1000,hw,r3,a3⟩;have ok3:=r3.dv.ok;have hP3:=ok3.g.P;have sk3:=r3.sk;have ls3:=sk3.lt;have kr3:Bk h3 h.n [Zi,Zi]:=Aq a3.k (by rw [upd_eq];omega) kr;obtain⟨M,ck,m1,m2,m3⟩:=r3.mw.ex;have lm:=m1.lt;have nrw:h.n≠I.rw:=fun e=>by have:=r.lt;omega
  unfold apC at sk3;refine wk ?_;(apply Mh L rfl rfl;exact Ez (KE.int .i64) m2 rfl rfl rfl lkq);have k4:Kp (fun j=>j=I.rw) h3 (hp h3.n h3.t [(I.rw,some (.map ((C7 M ck ((p / S3.D.P:Nat):Int) (UN S.next)).map (mE AI)) (mCk M ck ((p / S3.D.P:Nat):Int))))]):=kps;have r4:=r3.wset k4 (NumR.set (k:=((p / S3.D.P:Nat):Int)) lkq m2 m3);have a4:AChg κ3 h3 κ3 _:=AChg.kp k4 fun b _ e=>by subst e;have:=r3.col;omega
  refine ret X.f94.1 ?_;have hk200:κ3 h.n=200:=(a3.col _ (by simp only [Al];omega)).trans (upd_eq _ _ _);have k5:Kp (fun j=>j=h.n) (hp h3.n h3.t [(I.rw,some (.map ((C7 M ck ((p / S3.D.P:Nat):Int) (UN S.next)).map (mE AI)) (mCk M ck ((p / S3.D.P:Nat):Int))))]) (hp h3.n h3.t [(h.n,some (cl [AI sec,AN p])),(I.rw,some (.map ((C7 M ck ((p / S3.D.P:Nat):Int) (UN S.next)).map (mE AI)) (mCk M ck ((p / S3.D.P:Nat):Int))))]):=kps;have a5:=a2.trans (a3.trans a4);have a6:AChg κ h κ3 (hp h3.n h3.t [(h.n,some (cl [AI sec,AN p])),(I.rw,some (.map ((C7 M ck ((p / S3.D.P:Nat):Int) (UN S.next)).map (mE AI)) (mCk M ck ((p / S3.D.P:Nat):Int))))]):= ⟨Kp.trS k5 (fun i hi e=>by omega) a5.k,a5.col⟩;exact⟨p,{S3 with wr:=Oe S3.wr ((p / S3.D.P:Nat):Int) (some S.next)},κ3,rfl,.ok hw,r4.out k5 (fun b _ e=>by subst e;omega),a6⟩
 ·rintro _ h3 ⟨e,S3,κ3,rfl,hw,r3,a3⟩;refine A2 L X.f94.1 ?_;rcases hw with⟨rfl,hw⟩|⟨rfl,hw⟩;·exact Gp _ _ ⟨.full,S3,κ3,rfl,.inl rfl,.bad hw (.inl rfl),r3,a2.trans a3⟩
  ·exact Gp _ _ ⟨.pow,S3,κ3,rfl,.inr rfl,.bad hw (.inr rfl),r3,a2.trans a3⟩
end
variable {S' S2:Ap}{U:Nat→Prop}{k:Bool}{lo:Nat}{o r:WO}{v:AV}
theorem An2 (h:p:=by
 have r4:=r3.pool k4 po4
 refine ret X.f137.1 ?_
 rw [ee]
 exact⟨rfl,κ2,r4,a3.trans (AChg.kp k4 fun b _ e=>by rcases e with e|e <;> subst e <;> omega)⟩):p:=h
section
variable {P0:Program}(L:Lg P0 E F K)(X:Fx F K)
include L X
def Ap.ers (S:Ap)(b:Nat):Ap×WO:=
 if S.su (b:Int)=true then({S with su:=Bh S.su (b:Int) false,ps:=upd S.ps b 4},.done 0)
 else if(S.D.erase (b:Int)).2=50 then({S with D:=(S.D.erase (b:Int)).1,down:=true},.pow)
 else if(S.D.erase (b:Int)).2=0 then({S with D:=(S.D.erase (b:Int)).1,wr:=Oe S.wr (b:Int) none,ps:=upd S.ps b 1,pe:=upd S.pe b (S.pe b+1)},.done 0)
 else({S with D:=(S.D.erase (b:Int)).1,wr:=Oe S.wr (b:Int) none,ps:=upd S.ps b 4},.done 0)
omit L X in
theorem Dv.erase_geo (D:Dv)(i:Int):((D.erase i).1.nb=D.nb∧(D.erase i).1.P=D.P∧(D.erase i).1.sz=D.sz∧(D.erase i).1.en=D.en)∧(D.erase i).1.n≤D.n+1∧(D.erase i).2<1000:=by
 unfold Dv.erase;split
 ·split;·exact⟨⟨rfl,rfl,rfl,rfl⟩,Nat.le_succ _,by simp⟩
  ·split;·exact⟨⟨rfl,rfl,rfl,rfl⟩,Nat.le_succ _,by simp⟩
   ·split;·exact⟨⟨rfl,rfl,rfl,rfl⟩,Nat.le_refl _,by simp⟩
    ·split;·exact⟨⟨rfl,rfl,rfl,rfl⟩,Nat.le_refl _,by simp⟩
     ·exact⟨⟨rfl,rfl,rfl,rfl⟩,Nat.le_refl _,by simp⟩
 ·exact⟨⟨rfl,rfl,rfl,rfl⟩,Nat.le_succ _,by simp⟩
theorem Zn {d j:Nat}(r:DevR κ h d D)(hi:i<D.nb)(hj:j<D.P)(hoff:D.off=true): Ct P0 E F K 108 [.ptr d 0,AN i,AN j] h fun v h'=>v= .tup [.nils,.nils,AN 50]∧K0 h h':=by obtain⟨ok,fm,bb,cb,q⟩:=r;have hd:=q.dk;refine Bf L X.f108 fun Q x cs G=>?_;refine cal ?_ (c:=D4 L X hd);rintro _ rfl;refine cal ?_ (c:=Iq L X hd);rintro _ rfl;rw [decide_eq_true (show(0≤(i:Int)∧(i:Int)<D.nb)∧0≤(j:Int)∧(j:Int)<D.P by omega)];unfold dvC dvL at hd;rw [hoff]at hd;refine ret X.f108.1 ?_;exact⟨rfl,kps⟩
theorem df {p:Nat}(r:ApR κ h I S)(hp1:p<100000)(hb:p / S.D.P<S.D.nb)(hj:p % S.D.P<(S.D.bl (p / S.D.P)).nx)(hs:S.D.off=false→((S.D.bl (p / S.D.P)).pg (p % S.D.P)).st=2∨((S.D.bl (p / S.D.P)).pg (p % S.D.P)).st=3): CtX P0 E F K 90 [.ptr I.s 0,AN p] h (fun v h'=>S.D.off=false∧ ∃b,v= .slc b 0 S.D.sz (Aa+1)∧BS h' b 0 (((S.D.bl (p / S.D.P)).pg (p % S.D.P)).b.take S.D.sz)∧h.n≤b∧K0 h h') (fun v h'=>v= .ifc 34 (AN 50)∧S.D.off=true∧ApR (ext κ h.n) h' I {S with down:=true}∧AChg κ h (ext κ h.n) h'):=by
 have sk:=r.sk;have dv:=r.dv;have hP:=r.dv.ok.g.P;have hbn:=r.dv.ok.bl _ hb;have hnx:=hbn.nx;have hcol:=r.col;have ls:=sk.lt;unfold apC at sk
 cases hoff:S.D.off with
 |false=>refine B9 L X.f90 fun Q x cs G Gp=>?_;refine cal ?_ (c:=W2 L X (i:=p / S.D.P) (j:=p % S.D.P) dv hb hj hoff (hs hoff));rintro _ h2 ⟨b1,b2,rfl,w1,w2,w3,w4,w5⟩;refine cal ?_ (c:=Gc L X (e:=((0:Nat):Int)) (by omega));rintro _ rfl;refine cal ?_ (c:=Ay L X);rintro _ rfl;refine ret X.f90.1 ?_;exact⟨rfl,b1,rfl,lkb,w3,kps⟩
 |true=>refine B9 L X.f90 fun Q x cs G Gp=>?_;refine cal ?_ (c:=Zn L X (i:=p / S.D.P) (j:=p % S.D.P) dv hb (by omega) hoff);rintro _ h2 ⟨rfl,w5⟩;have r2:ApR (ext κ h.n) h2 I S:=r.k0 w5 fun b hb=>Aj hb;have hc2:ext κ h.n I.s=101:=(Aj ls).trans hcol.1;refine wk ?_;refine Ei L rfl rfl rfl rfl rfl (Kq L X r2) ?_;rintro _ h3 ⟨rfl,r3,k3⟩;refine A2 L X.f90.1 ?_;exact Gp _ _ ⟨rfl,rfl,r3,(AChg.k0 (κ':=ext κ h.n) w5 fun b hb=>Aj hb).trans (AChg.kp k3 fun b _ e=>by subst e;omega)⟩
theorem T5 (r:ApR κ h I S)(hb:b<S.D.nb)(hps:S.ps b=2∨S.ps b=3)(hpe:S.pe b<100000)(hn:S.D.n+1<100000): CtX P0 E F K 137 [.ptr I.s 0,AN b] h (fun v h'=>(S.ers b).2= .done 0∧ ∃κ',ApR κ' h' I (S.ers b).1∧AChg κ h κ' h') (fun v h'=>v= .ifc 34 (AN 50)∧(S.ers b).2= .pow∧ ∃κ',ApR κ' h' I (S.ers b).1∧AChg κ h κ' h'):=by
 have sk:=r.sk;have dv:=r.dv;have hcol:=r.col;have ls:=sk.lt;obtain⟨cb,po⟩:=r.po;obtain⟨M,ck,m1,m2,m3⟩:=r.ms.ex;have lm:=m1.lt;have hg:=m3 (b:Int);have nss:I.s≠I.rs:=fun e=>by rw [e]at hcol;omega
 unfold apC at sk
 cases hsu:S.su (b:Int)with
 |true=>
  have ee:S.ers b=({S with su:=Bh S.su (b:Int) false,ps:=upd S.ps b 4},.done 0):=by unfold Ap.ers;rw [if_pos hsu]
  rw [hsu,if_pos rfl]at hg;refine B9 L X.f137 fun Q x cs G Gp=>?_;refine wk ?_;(apply st1 L rfl;exact Db (KE.int .i64) rfl rfl lkq;rfl);rw [hg,Option.getD_some];refine wk ?_;(apply Lm L rfl;exact Ll (KE.int .i64) m2 rfl rfl lkq;rfl);have k2:Kp (fun j=>j=I.rs) h (hp h.n h.t [(I.rs,some (.map ((I5 M (b:Int)).map (mE AI)) ck))]):=kps;have r2:=r.sset k2 (SetR.del (k:=(b:Int)) lkq m2 m3);obtain⟨cb2,po2⟩:=r2.po;refine cal ?_ (c:=R3 L X po2 hb (by show S.ps b≠4;omega));rintro _ h3 ⟨rfl,po3,k3⟩;have r3:=r2.pool k3 po3;refine ret X.f137.1 ?_;rw [ee];exact⟨rfl,κ,r3,(AChg.kp k2 fun b _ e=>by subst e;omega).trans (AChg.kp k3 fun b _ e=>by rcases e with e|e <;> subst e <;> omega)⟩
 |false=>
  rw [hsu,if_neg (by simp)]at hg;obtain⟨g1,g2,g3⟩:=S.D.erase_geo (b:Int);refine B9 L X.f137 fun Q x cs G Gp=>?_;refine wk ?_;(apply st1 L rfl;exact Db (KE.int .i64) rfl rfl lkq;rfl);rw [hg,Option.getD_none];refine cal ?_ (c:=ir L X (i:=(b:Int)) dv hn);rintro _ h2 ⟨rfl,κ2,dv2,ch2⟩;have r2:=r.dev ch2 dv2 g1;have a2:AChg κ h κ2 h2:=ch2.a;have hcol2:=r2.col;by_cases hpow:(S.D.erase (b:Int)).2=50;·have ee:S.ers b=({S with D:=(S.D.erase (b:Int)).1,down:=true},.pow):=(by unfold Ap.ers;rw [if_neg (by rw [hsu];simp),if_pos hpow]);rw [hpow];refine wk ?_;refine Ei L rfl rfl rfl rfl rfl (Kq L X r2) ?_;rintro _ h3 ⟨rfl,r3,k3⟩;refine A2 L X.f137.1 ?_;refine Gp _ _ ⟨rfl,?_⟩;rw [ee];exact⟨rfl,κ2,r3,a2.trans (AChg.kp k3 fun b _ e=>by subst e;omega)⟩
  ·have sk2:=r2.sk;have ls2:=sk2.lt;unfold apC at sk2;generalize hE:(S.D.erase (b:Int)).2=er at*;refine cal ?_ (c:=Gc L X (e:=(er:Int)) (by omega));rintro _ rfl;obtain⟨M2,ck2,p1,p2,p3⟩:=r2.mw.ex;have lm2:=p1.lt;refine wk ?_;(apply Lm L rfl;exact Ll (KE.int .i64) p2 rfl rfl lkq;rfl);have k3:Kp (fun j=>j=I.rw) h2 (hp h2.n h2.t [(I.rw,some (.map ((I5 M2 (b:Int)).map (mE AI)) ck2))]):=kps;have r3:=r2.wset k3 (NumR.del (k:=(b:Int)) lkq p2 p3);have a3:=a2.trans (AChg.kp k3 fun b _ e=>by subst e;omega);obtain⟨cb3,po3⟩:=r3.po;have hb3:b<(S.D.erase ((b:Nat):Int)).1.nb:=(by rw [g1.1];exact hb);have nsw:I.s≠I.rw:=fun e=>by rw [e]at hcol2;omega
   by_cases h0:er=0;·have ee:S.ers b=({S with D:=(S.D.erase (b:Int)).1,wr:=Oe S.wr (b:Int) none,ps:=upd S.ps b 1,pe:=upd S.pe b (S.pe b+1)},.done 0):=(by unfold Ap.ers;rw [if_neg (by rw [hsu];simp),if_neg (by rw [hE];exact hpow),if_pos (by rw [hE];exact h0)]);subst h0;refine cal ?_ (c:=Xi L X po3 hb3 hps hpe);rintro _ h4 ⟨rfl,⟨cb4,po4⟩,k4⟩;exact An2
   ·have ee:S.ers b=({S with D:=(S.D.erase (b:Int)).1,wr:=Oe S.wr (b:Int) none,ps:=upd S.ps b 4},.done 0):=(by unfold Ap.ers;rw [if_neg (by rw [hsu];simp),if_neg (by rw [hE];exact hpow),if_neg (by rw [hE];exact h0)]);refine cal ?_ (c:=R3 L X po3 hb3 (by show S.ps b≠4;omega));rintro _ h4 ⟨rfl,po4,k4⟩;exact An2
end
theorem An3 (h:p:=by
 exact⟨by cases k <;> rfl,by cases k <;> rfl,by cases k <;> rfl,by cases k <;> rfl,by cases k <;> rfl,by cases k <;> rfl,by cases k <;> rfl,by cases k <;> rfl,by cases k <;> rfl,by cases k <;> rfl,J3 _ _ _,by cases k <;> rfl⟩):p:=h
section
variable {P0:Program}(L:Lg P0 E F K)(X:Fx F K)
include L X
omit L X in
theorem Df (S:Ap)(k:Bool)(b:Int):(S.put k b).sel k=b:=by unfold Ap.sel Ap.put;cases k <;> rfl
omit L X in
theorem J3 (S:Ap)(k:Bool)(b:Int):(S.put k b).sel (!k)=S.sel (!k):=by unfold Ap.sel Ap.put;cases k <;> rfl
structure Fr (k:Bool)(S S':Ap):Prop where
 nb:S'.D.nb=S.D.nb
 P:S'.D.P=S.D.P
 sz:S'.D.sz=S.D.sz
 en:S'.D.en=S.D.en
 secs:S'.S=S.S
 A:S'.A=S.A
 next:S'.next=S.next
 last:S'.last=S.last
 pe:S'.pe=S.pe
 wr:S'.wr=S.wr
 o:S'.sel (!k)=S.sel (!k)
 flt:S'.D.flt=S.D.flt
omit L X
theorem Fr.refl (k:Bool)(S:Ap):Fr k S S:=⟨rfl,rfl,rfl,rfl,rfl,rfl,rfl,rfl,rfl,rfl,rfl,rfl⟩
theorem Fr.trans {S1:Ap}(a:Fr k S S1)(b:Fr k S1 S2):Fr k S S2:= ⟨b.nb.trans a.nb,b.P.trans a.P,b.sz.trans a.sz,b.en.trans a.en,b.secs.trans a.secs,b.A.trans a.A,b.next.trans a.next,b.last.trans a.last,b.pe.trans a.pe,b.wr.trans a.wr,b.o.trans a.o,b.flt.trans a.flt⟩
theorem wh (S:Ap)(k:Bool):Fr k S (S.cls k):=by
 unfold Ap.cls;split;·exact An3
 ·exact Fr.refl _ _
theorem Ag5 (h:S.opn k=some S2):Fr k S S2:=by
 unfold Ap.opn at h;split at h
 ·split at h;·cases h
  ·cases h;exact An3
 ·cases h;exact Fr.refl _ _
theorem Dv.prog_flt (D:Dv)(i:Int)(all:List Nat):(D.prog i all).1.flt=D.flt:=by
 unfold Dv.prog;split;·split <;> rfl
 ·rfl
theorem dg (S:Ap)(k:Bool)(all:List Nat):Fr k S (S.w1 k all).1:=by
 unfold Ap.w1;split;·exact wh S k
 ·rename_i S2 h2;have f:=(wh S k).trans (Ag5 h2);obtain⟨⟨g1,g2,g3,g4⟩,-⟩:=S2.D.prog_geo (S2.sel k) all;have g5:=S2.D.prog_flt (S2.sel k) all;split;·exact f.trans ⟨g1,g2,g3,g4,rfl,rfl,rfl,rfl,rfl,rfl,rfl,g5⟩
  ·split;·exact f.trans ⟨g1,g2,g3,g4,rfl,rfl,rfl,rfl,rfl,rfl,rfl,g5⟩
   ·exact f.trans ⟨by cases k <;> exact g1,by cases k <;> exact g2,by cases k <;> exact g3,by cases k <;> exact g4,by cases k <;> rfl,by cases k <;> rfl,by cases k <;> rfl,by cases k <;> rfl,by cases k <;> rfl,by cases k <;> rfl,J3 _ _ _,by cases k <;> exact g5⟩
theorem WrP.fr {all:List Nat}(h:WrP k all S S' r):Fr k S S':=by
 induction h with
 |stop h=>exact dg _ _ _
 |more h _ ih=>exact(dg _ _ _).trans ih
include L X
structure IW (S:Ap):Prop where
 wi: ∀k,WI S k
 ne: ∀k,0≤S.sel k→S.sel k≠S.sel (!k)
omit L X
theorem IW.cls (q:IW S)(k:Bool):IW (S.cls k)∧muW (S.cls k) k≤muW S k∧(S.cls k).D=S.D∧2*De (S.cls k)≤muW S k:=by
 have w:=q.wi k;have w':=q.wi (!k);have hne:=q.ne k;by_cases hc:0≤S.sel k∧(S.D.bl (S.sel k).toNat).nx=S.D.P
 ·have e:S.cls k=({S with ps:=upd S.ps (S.sel k).toNat 3}).put k (-1):=by unfold Ap.cls;rw [if_pos hc]
  obtain⟨h1,h2⟩:=w.sel hc.1;have hb:(S.sel k).toNat<S.D.nb:=by omega
  have hf:=C9 S.ps (S.sel k).toNat 3 1 S.D.nb hb;rw [h2]at hf;simp at hf;have eD:(S.cls k).D=S.D:=by rw [e];cases k <;> rfl
  have eps:(S.cls k).ps=upd S.ps (S.sel k).toNat 3:=by rw [e];cases k <;> rfl
  have es:(S.cls k).sel k= -1:=by rw [e];exact Df _ _ _
  have es':(S.cls k).sel (!k)=S.sel (!k):=by rw [e];exact J3 _ _ _
  have ef:De (S.cls k)=De S:=by unfold De;rw [eD,eps];exact hf
  refine⟨⟨fun j=>?_,fun j hj=>?_⟩,?_,eD,?_⟩
  ·by_cases ej:j=k;·subst ej;exact⟨fun h=>by rw [es]at h;omega,by rw [es];exact Int.le_refl _⟩
   ·have:j=!k:=(by cases j <;> cases k <;> simp_all);subst this;refine⟨fun h=>?_,by rw [es'];exact w'.lo⟩;rw [es']at h ⊢;obtain⟨g1,g2⟩:=w'.sel h;rw [eD,eps];refine⟨g1,?_⟩;rw [upd_ne _ _ (by have:=hne hc.1;omega)];exact g2
  ·by_cases ej:j=k;·subst ej;rw [es]at hj;omega
   ·have:j=!k:=(by cases j <;> cases k <;> simp_all);subst this;rw [Bool.not_not,es'];rw [es']at hj;rw [es];omega
  ·unfold muW;rw [ef,es];split <;> split <;> omega
  ·rw [ef];unfold muW;omega
 ·have e:S.cls k=S:=by unfold Ap.cls;rw [if_neg hc]
  rw [e];exact⟨q,Nat.le_refl _,rfl,by unfold muW;omega⟩
theorem IW.opn (q:IW S)(h:S.opn k=some S2):IW S2∧S2.D=S.D∧0≤S2.sel k∧muW S2 k≤muW S k:=by
 have w:=q.wi k;have w':=q.wi (!k);have hne:=q.ne (!k);unfold Ap.opn at h;split at h
 ·rename_i hs;split at h;·cases h
  ·rename_i hcold;rcases H6 S.ps S.pe 1 S.D.nb with⟨h1,-⟩|⟨c,hc,h1,h2⟩;·rw [h1]at hcold;omega
   ·rw [h1,Int.toNat_natCast]at h;have hf:=C9 S.ps c 2 1 S.D.nb hc;rw [h2]at hf;simp at hf
    cases h;have eo:(({S with ps:=upd S.ps c 2,jr:=if k=true then Bh S.jr (c:Int) true else S.jr}:Ap).put k (c:Int)).sel (!k)=S.sel (!k):=(J3 _ _ _).trans (by cases k <;> rfl);refine⟨⟨fun j=>?_,fun j hj=>?_⟩,by cases k <;> rfl,by rw [Df];omega,?_⟩
    ·by_cases ej:j=k;·subst ej;refine⟨fun _=>?_,by rw [Df];omega⟩;rw [Df,Int.toNat_natCast];exact⟨by cases j <;> (show(c:Int)<(S.D.nb:Int);omega),by cases j <;> exact upd_eq _ _ _⟩
     ·have:j=!k:=(by cases j <;> cases k <;> simp_all);subst this;refine⟨fun hj=>?_,by rw [eo];exact w'.lo⟩;rw [eo]at hj ⊢;obtain⟨g1,g2⟩:=w'.sel hj;have hcb:(S.sel (!k)).toNat≠c:=fun e=>by rw [e]at g2;omega
      exact⟨by cases k <;> exact g1,by cases k <;> exact(upd_ne _ _ hcb).trans g2⟩
    ·have hcb:0≤S.sel (!k)→S.sel (!k)≠(c:Int):=(by intro hj e;obtain⟨g1,g2⟩:=w'.sel hj;rw [e,Int.toNat_natCast]at g2;omega);by_cases ej:j=k;·subst ej;rw [Df,eo];intro e;exact hcb (by rw [←e];show(0:Int)≤(c:Int);omega) e.symm
     ·have:j=!k:=(by cases j <;> cases k <;> simp_all);subst this;rw [eo]at hj ⊢;rw [Bool.not_not,Df];exact hcb hj
    ·unfold muW;rw [Df];have e1:De (({S with ps:=upd S.ps c 2,jr:=if k=true then Bh S.jr (c:Int) true else S.jr}:Ap).put k (c:Int))=cntS (upd S.ps c 2) 1 S.D.nb:=(by cases k <;> rfl);rw [e1];have e2:De S=cntS S.ps 1 S.D.nb:=rfl;rw [e2];split <;> split <;> omega
 ·cases h;exact⟨q,rfl,by omega,Nat.le_refl _⟩
theorem Of (S:Ap)(k:Bool):muW S k≤2*S.D.nb+1:=by unfold muW De;have:=Ko S.ps 1 S.D.nb;split <;> omega
theorem IW.w1 (q:IW S)(k:Bool)(all:List Nat):IW (S.w1 k all).1∧(S.w1 k all).1.D.n≤S.D.n+1∧((S.w1 k all).2= .again→(S.w1 k all).1.D.n+muW (S.w1 k all).1 k≤S.D.n+muW S k):=by
 obtain⟨q1,m1,e1,-⟩:=q.cls k;unfold Ap.w1;split;·exact⟨q1,by rw [e1];omega,fun h=>by cases h⟩
 ·rename_i S2 h2;obtain⟨q2,e2,s2,m2⟩:=q1.opn h2;obtain⟨⟨g1,g2,g3,g4⟩,g5⟩:=S2.D.prog_geo (S2.sel k) all;have eD:S2.D=S.D:=e2.trans e1;have hD: ∀d:Bool,IW {S2 with D:=(S2.D.prog (S2.sel k) all).1,down:=d}:=fun d=>⟨fun j=>⟨fun h=>by show S2.sel j<(S2.D.prog (S2.sel k) all).1.nb∧_;rw [g1];exact(q2.wi j).sel h,(q2.wi j).lo⟩,q2.ne⟩;split;·exact⟨hD true,by show(S2.D.prog (S2.sel k) all).1.n≤_;rw [←eD];exact g5,fun h=>by cases h⟩
  ·split;·exact⟨hD S2.down,by show(S2.D.prog (S2.sel k) all).1.n≤_;rw [←eD];exact g5,fun h=>by cases h⟩
   ·obtain⟨v1,v2⟩:=(q2.wi k).sel s2;have hb:(S2.sel k).toNat<S2.D.nb:=(by omega);have hf:=C9 S2.ps (S2.sel k).toNat 3 1 S2.D.nb hb;rw [v2]at hf;simp at hf;have en:(({S2 with D:=(S2.D.prog (S2.sel k) all).1,su:=Bh S2.su (S2.sel k) true,ps:=upd S2.ps (S2.sel k).toNat 3}:Ap).put k (-1)).D=(S2.D.prog (S2.sel k) all).1:=(by cases k <;> rfl);have eps:(({S2 with D:=(S2.D.prog (S2.sel k) all).1,su:=Bh S2.su (S2.sel k) true,ps:=upd S2.ps (S2.sel k).toNat 3}:Ap).put k (-1)).ps=upd S2.ps (S2.sel k).toNat 3:=(by cases k <;> rfl);have eo:(({S2 with D:=(S2.D.prog (S2.sel k) all).1,su:=Bh S2.su (S2.sel k) true,ps:=upd S2.ps (S2.sel k).toNat 3}:Ap).put k (-1)).sel (!k)=S2.sel (!k):=(J3 _ _ _).trans (by cases k <;> rfl);have w':=q2.wi (!k);have hne:=q2.ne k s2;refine⟨⟨fun j=>?_,fun j hj=>?_⟩,by simp only [en];rw [←eD];exact g5,fun _=>?_⟩
    ·by_cases ej:j=k;·subst ej;exact⟨fun h=>by rw [Df]at h;omega,by rw [Df];exact Int.le_refl _⟩
     ·have:j=!k:=(by cases j <;> cases k <;> simp_all);subst this;refine⟨fun h=>?_,by rw [eo];exact w'.lo⟩;rw [eo]at h ⊢;obtain⟨a1,a2⟩:=w'.sel h;rw [en,eps,g1];refine⟨a1,?_⟩;rw [upd_ne _ _ (by omega)];exact a2
    ·by_cases ej:j=k;·subst ej;rw [Df]at hj;omega
     ·have:j=!k:=(by cases j <;> cases k <;> simp_all);subst this;rw [Bool.not_not,Df,eo];rw [eo]at hj;omega
    ·simp only [en];have ef:De (({S2 with D:=(S2.D.prog (S2.sel k) all).1,su:=Bh S2.su (S2.sel k) true,ps:=upd S2.ps (S2.sel k).toNat 3}:Ap).put k (-1))=De S2:=(by unfold De;rw [en,eps,g1];exact hf);have em:muW (({S2 with D:=(S2.D.prog (S2.sel k) all).1,su:=Bh S2.su (S2.sel k) true,ps:=upd S2.ps (S2.sel k).toNat 3}:Ap).put k (-1)) k=2*De S2:=(by unfold muW;rw [Df,ef,if_neg (by omega)];rfl);rw [em];have em2:muW S2 k=2*De S2+1:=(by unfold muW;rw [if_pos s2]);rw [eD]at g5;rw [eD];omega
theorem WrP.iw {all:List Nat}(h:WrP k all S S' r)(q:IW S):IW S'∧S'.D.n≤S.D.n+muW S k+1:=by
 induction h with
 |stop h=>obtain⟨a,b,-⟩:=q.w1 k all;exact⟨a,by omega⟩
 |more h _ ih=>obtain⟨a,b,c⟩:=q.w1 k all;obtain⟨d,e⟩:=ih a;have:=c h;exact⟨d,by omega⟩
theorem ml {sz:Nat}{l:List Ent}(h:4+8*l.length≤sz):(Cd sz l).length=sz:=Dz h
include L X
inductive RlP (sz:Nat):List JPg→Ap→Ap→WO→Prop where
 |nil {S:Ap}:RlP sz [] S S (.done 0)
 |cons {x:JPg} {r:List JPg} {S S1 S':Ap} {p:Nat} {o:WO} (h:WrP true (Cd sz x.2++Au x.1 (Cd sz x.2)) S S1 (.done p)) (t:RlP sz r S1 S' o):RlP sz (x::r) S S' o
 |bad {x:JPg} {r:List JPg} {S S1:Ap} {o:WO} (h:WrP true (Cd sz x.2++Au x.1 (Cd sz x.2)) S S1 o) (ho:o= .full∨o= .pow):RlP sz (x::r) S S1 o
def recN (S:Ap)(es:List Ent):Nat:=cntJ S.D.sz es.length
def Ep (k:Nat)(S:Ap)(es:List Ent):List JPg:=My k S.D.sz S.next S.last es (recN S es)
inductive RcP (k:Nat)(es:List Ent):Ap→Ap→WO→Prop where
 |ok {S S1:Ap} (h:RlP S.D.sz (Ep k S es) {S with next:=S.next+recN S es} S1 (.done 0)):RcP k es S {S1 with last:=S.next+recN S es - 1} (.done 0)
 |bad {S S1:Ap} {o:WO} (h:RlP S.D.sz (Ep k S es) {S with next:=S.next+recN S es} S1 o) (ho:o= .full∨o= .pow):RcP k es S S1 o
theorem Zo {qb:Nat}{ev:AV}{es:List Ent}(T:Tb P0 E F K)(r:ApR κ h I S)(wi:WI S true)(kq:Bk h qb [.ptr I.s 0])(q:sp.Fit)(hk:sp.kind≠1)(he:EL h lo ev es)(hok: ∀e∈es,e.Ok)(hfit:4+8*es.length≤S.D.sz)(hn:S.D.n+muW S true+2<100000): CtX P0 E F K 196 [.agg (jpC ((sp,es),ev)),.ptr qb 0] h (fun v h'=> ∃p S' κ',WrP true (Cd S.D.sz es++Au sp (Cd S.D.sz es)) S S' (.done p)∧ApR κ' h' I S'∧AChg κ h κ' h') (fun v h'=> ∃(o:WO) (S':Ap) (κ':Nat→Nat),v= .ifc 34 (AN (eOf o))∧(o= .full∨o= .pow)∧WrP true (Cd S.D.sz es++Au sp (Cd S.D.sz es)) S S' o∧ApR κ' h' I S'∧AChg κ h κ' h'):=by
 have sk:=r.sk;have ls:=sk.lt;have lq:=kq.lt;have hsz:=r.dv.ok.g.sz;have hpl:=he.plain;unfold apC at sk;obtain⟨sk1,ssec,sseq,sprev,sidx,slen⟩:=sp;have he2:=he
 have main: ∀(ev':AV),ev=ev'→Bc ev'=some [ev']→(∀(h1:H),K0 h h1→EL h1 lo ev' es)→(ev'= .nils∨ ∃b n c,ev'= .slc b 0 n c)→CtX P0 E F K 196 [.agg (jpC ((⟨sk1,ssec,sseq,sprev,sidx,slen⟩,es),ev')),.ptr qb 0] h
   (fun v h'=> ∃p S' κ',WrP true (Cd S.D.sz es++Au ⟨sk1,ssec,sseq,sprev,sidx,slen⟩ (Cd S.D.sz es)) S S' (.done p)∧ApR κ' h' I S'∧AChg κ h κ' h')
   (fun v h'=> ∃(o:WO) (S':Ap) (κ':Nat→Nat),v= .ifc 34 (AN (eOf o))∧(o= .full∨o= .pow)∧WrP true (Cd S.D.sz es++Au ⟨sk1,ssec,sseq,sprev,sidx,slen⟩ (Cd S.D.sz es)) S S' o∧ApR κ' h' I S'∧AChg κ h κ' h'):=by
  intro ev' e1 hcv hel hsh
  unfold jpC spC
  rcases hsh with rfl|⟨eb,en,ec,rfl⟩
  all_goals
   refine B9 L X.f196 fun Q x cs G Gp=>?_
   refine cal ?_ (c:=Zb L X (sz:=S.D.sz) (hel _ (by exact kps)) hok (by omega) hfit)
   rintro _ h2 ⟨b2,rfl,w1,w2,w3⟩
   simp only [Al]at w2
   have n2:=w3.n
   simp only [Al]at n2
   refine cal ?_ (c:=Ay L X)
   rintro _ rfl
   have k2:K0 h h2:=Kp.tr0 w3 kps
   have r2:ApR (ext κ h.n) h2 I S:=r.k0 k2 fun b hb=>Aj hb
   have a2:AChg κ h (ext κ h.n) h2:=AChg.k0 k2 fun b hb=>Aj hb
   have fp:=mi (c1:=Aa+1) (sp:=⟨sk1,ssec,sseq,sprev,sidx,slen⟩) (data:=Cd S.D.sz es) L X T r2 wi q hk w1 (B0 (by omega)) (ml hfit) hn
   clear k2
   refine J2 L (c:=fp) (g:=?_) (gp:=?_)
   ·rintro _ h3 ⟨p,S3,κ3,rfl,hp1000,hw,r3,a3⟩
    refine ret X.f196.1 ?_
    exact⟨p,S3,κ3,hw,r3,a2.trans a3⟩
   ·rintro _ h3 ⟨e,S3,κ3,rfl,hw,r3,a3⟩
    refine A2 L X.f196.1 ?_
    rcases hw with⟨rfl,hw⟩|⟨rfl,hw⟩
    ·exact Gp _ _ ⟨.full,S3,κ3,rfl,.inl rfl,hw,r3,a2.trans a3⟩
    ·exact Gp _ _ ⟨.pow,S3,κ3,rfl,.inr rfl,hw,r3,a2.trans a3⟩
 exact main ev rfl hpl.1 (fun h1 k1=>he2.k0 k1) (by
  rcases he.len with⟨_,e⟩|⟨_,b,e,_⟩;·exact .inl e
  ·exact .inr ⟨b,_,_,e⟩)
omit L X
theorem R5 {sz:Nat}{es:List Ent}(hok: ∀e∈es,e.Ok)(i:Nat): ∀e∈D1 sz es i,e.Ok:=fun e he=>hok e (List.mem_of_mem_drop (List.mem_of_mem_take he))
theorem Cf {sz:Nat}{es:List Ent}(hsz:12≤sz)(i:Nat):4+8*(D1 sz es i).length≤sz:=by unfold D1 mostJ;rw [List.length_take];have:min ((sz - 4) / 8) (es.drop ((sz - 4) / 8*i)).length≤(sz - 4) / 8:=Nat.min_le_left _ _;omega
theorem Vo {sz n:Nat}(hsz:12≤sz∧sz<900)(hn:n<1000):0<cntJ sz n∧cntJ sz n<2000:=by
 have hm:0<mostJ sz:=by unfold mostJ;omega
 have hm2:mostJ sz<200:=by unfold mostJ;omega
 unfold cntJ;have:(n+mostJ sz - 1) / mostJ sz≤n+mostJ sz - 1:=Nat.div_le_self _ _;omega
theorem T6 {k sz first prev:Nat}{es:List Ent}(hk:k=2∨k=3)(hf:prev<first∧first<1000000000)(hi:i<cntJ sz es.length)(hn:cntJ sz es.length<2000):(Cy k sz first prev es i).1.Fit:=by
 have hk2:k=2∨k=3:=hk;refine⟨⟨by show 1≤first+i;omega,by show(1:Int)≤((cntJ sz es.length:Nat):Int);omega,by show((cntJ sz es.length:Nat):Int)≤65535;omega,by show(0:Int)≤(i:Int);omega,by show(i:Int)<((cntJ sz es.length:Nat):Int);omega,.inr ⟨hk,rfl,by show prev<first+i;omega,?_⟩⟩,⟨by show k<256;omega,by show first+i<18446744073709551616;omega,by show prev<18446744073709551616;omega⟩⟩;show((i:Int)).toNat<first+i - prev
 rw [Int.toNat_natCast];omega
include L X
theorem Lx {k:Nat}{ev:AV}{es:List Ent}(T:Tb P0 E F K)(r:ApR κ h I S)(iw:IW S)(hk:k=2∨k=3)(he:EL h 0 ev es)(hok: ∀e∈es,e.Ok)(hlen:es.length<1000)(hf:S.last<S.next∧S.next<100000000)(hn:S.D.n+30*recN S es+60<100000): CtX P0 E F K 141 [.ptr I.s 0,.int .u8 (k:Int),ev] h (fun v h'=> ∃S' κ',RcP k es S S' (.done 0)∧ApR κ' h' I S'∧AChg κ h κ' h') (fun v h'=> ∃(o:WO) (S':Ap) (κ':Nat→Nat),v= .ifc 34 (AN (eOf o))∧(o= .full∨o= .pow)∧RcP k es S S' o∧ApR κ' h' I S'∧AChg κ h κ' h'):=by
 have sk:=r.sk;have ls:=sk.lt;have hsz:=r.dv.ok.g.sz;have hcol:=r.col;have hcn:=Vo (sz:=S.D.sz) (n:=es.length) (by omega) hlen;have hN:recN S es=cntJ S.D.sz es.length:=rfl;unfold apC at sk;refine B9 L X.f141 fun Q x cs G Gp=>?_;refine cal ?_ (c:=mg L X (k:=k) (sz:=S.D.sz) (first:=S.next) (prev:=S.last) (he.k0 (by exact kps)) hok hk (by omega) hlen (by omega));rintro _ h2 ⟨pb,l,rfl,hl,pr,k2⟩;have hll:l.length=recN S es:=by have:=congrArg List.length hl;exact Agl
 rw [hll];have n2:=k2.n;simp only [Al]at n2;have hplo:=pr.lo;simp only [Al]at hplo;refine cal ?_ (c:=Ay L X);rintro _ rfl;refine wk ?_;(apply st1 L rfl;exact Mx rfl rfl (by omega);rfl);refine wk ?_;have k20:K0 h h2:=Kp.tr0 k2 kps;have r2:ApR (ext κ h.n) h2 I S:=r.k0 k20 fun b hb=>Aj hb;have k4:Kp (fun j=>j=I.s) h2 (hp h2.n h2.t [(I.s,some (cl (apC I {S with next:=S.next+recN S es})))]):=kps;have r4:=r2.st (S':= {S with next:=S.next+recN S es}) k4 (by unfold apC;exact lkp) ⟨rfl,rfl,rfl,rfl,rfl,rfl,rfl,rfl⟩;have hs4:ext κ h.n I.s=101:=(Aj ls).trans hcol.1;have a4:AChg κ h (ext κ h.n) (hp h2.n h2.t [(I.s,some (cl (apC I {S with next:=S.next+recN S es})))]):=(AChg.k0 (κ':=ext κ h.n) k20 fun b hb=>Aj hb).trans (AChg.kp k4 fun b _ e=>by subst e;omega);clear k20;have kpb4:Bk (hp h2.n h2.t [(I.s,some (cl (apC I {S with next:=S.next+recN S es})))]) pb (l.flatMap jpC):=by have:=pr.k;exact lkp
 have kq4:Bk (hp h2.n h2.t [(I.s,some (cl (apC I {S with next:=S.next+recN S es})))]) h.n [.ptr I.s 0]:=lkp;have el4: ∀x∈l,EL (hp h2.n h2.t [(I.s,some (cl (apC I {S with next:=S.next+recN S es})))]) (h.n+1) x.2 x.1.2:=fun x hx=>(pr.el x hx).kS (S:=fun j=>j=I.s) k4 (by intro b hb;simp only [Al]at hb;omega);have iw4:IW {S with next:=S.next+recN S es}:=⟨fun k=>⟨(iw.wi k).sel,(iw.wi k).lo⟩,iw.ne⟩;have hLlen:(Ep k S es).length=recN S es:=by unfold Ep My;rw [List.length_map,List.length_range]
 refine Bs L (α:= Ap×(Nat→Nat)) (T:=fun i _=> [(47,some (AN i)),(46,some (AN (recN S es))),(45,some (.slc pb 0 (recN S es) (Aa+7))),(8,some (.fn (.func 196) [] [.ptr h.n 0])),(6,some (.slc pb 0 (recN S es) (Aa+7))),(3,some (.ptr h.n 0))]) (n:=recN S es) (R:=fun i s hh=>ApR s.2 hh I s.1∧AChg (ext κ h.n) (hp h2.n h2.t [(I.s,some (cl (apC I {S with next:=S.next+recN S es})))]) s.2 hh∧IW s.1∧Fr true {S with next:=S.next+recN S es} s.1∧s.1.D.n+30*(recN S es - i)+30<100000∧(∀S' o,RlP S.D.sz ((Ep k S es).drop i) s.1 S' o→RlP S.D.sz (Ep k S es) {S with next:=S.next+recN S es} S' o)) (i0:=0) ({S with next:=S.next+recN S es},ext κ h.n) tsb ⟨r4,AChg.refl _ _,iw4,Fr.refl _ _,by simp only;omega,fun S' o h=>by rw [List.drop_zero]at h;exact h⟩ (Nat.zero_le _) ?_ ?_
 ·rintro i ⟨Si,κi⟩ hh hi ⟨ri,ai,iwi,fri,hbi,chi⟩ ih;simp only at ri ai iwi fri hbi chi;have kpb:Bk hh pb (l.flatMap jpC):=Aq ai.k (by rw [B0 (by omega)];omega) kpb4;have kq:Bk hh h.n [.ptr I.s 0]:=Aq ai.k (by rw [B0 (by omega)];omega) kq4;have lpb:=kpb.lt;have lkq':=kq.lt;have hx:l[i]?=some l[i]:=List.getElem?_eq_getElem (by omega);have hel:=el4 _ (List.getElem_mem (show i<l.length by omega));have hdt:=B4 l (Kk l) i _ hx;have hLi:(Ep k S es)[i]?=some (l[i].1):=by have:=congrArg (fun q=>q[i]?) hl;simp only [List.getElem?_map,hx,Option.map_some]at this;exact this.symm
  have hpg:l[i].1=Cy k S.D.sz S.next S.last es i:=by have h1:(Ep k S es)[i]?=some (Cy k S.D.sz S.next S.last es i):=(by unfold Ep My;rw [List.getElem?_map,List.getElem?_range hi];rfl);rw [h1]at hLi;exact(Option.some.inj hLi).symm
  have hdrop:(Ep k S es).drop i=l[i].1::(Ep k S es).drop (i+1):=by have hlt:i<(Ep k S es).length:=(by omega);rw [List.drop_eq_getElem_cons hlt];rw [List.getElem?_eq_getElem hlt]at hLi;rw [Option.some.inj hLi]
  have hfit:=T6 (k:=k) (sz:=S.D.sz) (first:=S.next) (prev:=S.last) (i:=i) (es:=es) hk (by omega) hi hcn.2;have hkk:(Cy k S.D.sz S.next S.last es i).1.kind≠1:=by show k≠1;omega
  have hpo:=R5 (sz:=S.D.sz) hok i;have hpf:=Cf (sz:=S.D.sz) (es:=es) (by omega) i;have hp2:(Cy k S.D.sz S.next S.last es i).2=D1 S.D.sz es i:=rfl;rw [←hp2]at hpo hpf;rw [←hpg]at hfit hkk hpo hpf;have hmu:=Of Si true;have hnbi:=ri.dv.ok.g.nb;have eli:EL hh (h.n+1) l[i].2 l[i].1.2:=by
   rcases hel.ex with q|⟨q1,b,q2,q3,q4⟩;·exact⟨.inl q⟩
   ·exact⟨.inr ⟨q1,b,q2,Aq ai.k (by rw [B0 (by omega)];omega) q3,q4⟩⟩
  clear hel hpg hLi;generalize hxe:l[i]=xx at*;obtain⟨⟨⟨xk,xs,xq,xp,xi,xl⟩,xes⟩,xev⟩:=xx;simp only at hfit hkk hpo hpf eli hdrop;have e1:=eli;have call: ∀h5,K0 hh h5→CtX P0 E F K 196 [.agg (jpC ((⟨xk,xs,xq,xp,xi,xl⟩,xes),xev)),.ptr h.n 0] h5 (fun v h'=> ∃p S' κ',WrP true (Cd Si.D.sz xes++Au ⟨xk,xs,xq,xp,xi,xl⟩ (Cd Si.D.sz xes)) Si S' (.done p)∧ApR κ' h' I S'∧AChg (ext κi hh.n) h5 κ' h') (fun v h'=> ∃(o:WO) (S':Ap) (κ':Nat→Nat),v= .ifc 34 (AN (eOf o))∧(o= .full∨o= .pow)∧WrP true (Cd Si.D.sz xes++Au ⟨xk,xs,xq,xp,xi,xl⟩ (Cd Si.D.sz xes)) Si S' o∧ApR κ' h' I S'∧AChg (ext κi hh.n) h5 κ' h'):= fun h5 k5=>Zo (lo:=h.n+1) L X T (ri.k0 k5 fun b hb=>Aj hb) (iwi.wi true) (Ag k5 kq) hfit hkk (eli.k0 k5) hpo (by rw [fri.sz];exact hpf) (by omega)
  have okc: ∀(p:Nat) (S':Ap) (κ':Nat→Nat) (h5 h':H),K0 hh h5→WrP true (Cd Si.D.sz xes++Au ⟨xk,xs,xq,xp,xi,xl⟩ (Cd Si.D.sz xes)) Si S' (.done p)→ApR κ' h' I S'→AChg (ext κi hh.n) h5 κ' h'→
    ApR κ' h' I S'∧AChg (ext κ h.n) (hp h2.n h2.t [(I.s,some (cl (apC I {S with next:=S.next+recN S es})))]) κ' h'∧IW S'∧Fr true {S with next:=S.next+recN S es} S'∧S'.D.n+30*(recN S es - (i+1))+30<100000∧(∀S'' o,RlP S.D.sz ((Ep k S es).drop (i+1)) S' S'' o→RlP S.D.sz (Ep k S es) {S with next:=S.next+recN S es} S'' o):=by
   intro p S' κ' h5 h' k5 hw r' a'
   obtain⟨q1,q2⟩:=hw.iw iwi
   refine⟨r',ai.trans ((AChg.k0 k5 fun b hb=>Aj hb).trans a'),q1,fri.trans hw.fr,by omega,fun S'' o ho=>chi _ _ ?_⟩
   rw [hdrop]
   refine .cons (p:=p) ?_ ho
   rw [fri.sz]at hw;exact hw
  have badc: ∀(o:WO) (S':Ap),(o= .full∨o= .pow)→WrP true (Cd Si.D.sz xes++Au ⟨xk,xs,xq,xp,xi,xl⟩ (Cd Si.D.sz xes)) Si S' o→RcP k es S S' o:=by intro o S' ho hw;refine .bad (chi _ _ ?_) ho;rw [hdrop];refine .bad ?_ ho;rw [fri.sz]at hw;exact hw
  clear chi;have hsh:xev= .nils∨ ∃b n c,xev= .slc b 0 n c:=by
   rcases e1.len with⟨_,e⟩|⟨_,b,e,_⟩;·exact .inl e
   ·exact .inr ⟨b,_,_,e⟩
  unfold jpC spC at call;have hdt7:i*7+7≤(l.flatMap jpC).length∧((l.flatMap jpC).drop (i*7)).take 7= [.int .u8 (xk:Int),.int .i64 xs,UN xq,UN xp,.int .i64 xi,.int .i64 xl,xev]:=hdt;clear e1 eli hdt;rcases hsh with rfl|⟨eb,en,ec,rfl⟩
  all_goals
   refine wk ?_;(apply st1 L rfl;exact Bg kpb.rk hdt7 rfl;rfl);refine J2 L (c:=call _ (by exact kps)) (g:=?_) (gp:=?_);·rintro _ h5 ⟨p,S',κ',hw,r',a'⟩;refine wk ?_;refine ih (S',κ') _ _ (okc p S' κ' _ _ ?_ hw r' a') tsb;exact kps
   ·rintro _ h5 ⟨o,S',κ',rfl,ho,hw,r',a'⟩;refine A2 L X.f141.1 ?_;exact Gp _ _ ⟨o,S',κ',rfl,ho,badc o S' ho hw,r',a4.trans (ai.trans ((AChg.k0 (κ':=ext κi hh.n) kps fun b hb=>Aj hb).trans a'))⟩
 ·rintro⟨Si,κi⟩ hh ⟨ri,ai,iwi,fri,hbi,chi⟩;simp only at ri ai iwi fri hbi chi;have kpb:Bk hh pb (l.flatMap jpC):=Aq ai.k (by rw [B0 (by omega)];omega) kpb4;have kq:Bk hh h.n [.ptr I.s 0]:=Aq ai.k (by rw [B0 (by omega)];omega) kq4;have ski:=ri.sk;have lsi:=ski.lt;have hrl:RlP S.D.sz (Ep k S es) {S with next:=S.next+recN S es} Si (.done 0):=chi _ _ (by rw [List.drop_of_length_le (by omega)];exact .nil);have hlast:(l.flatMap jpC)[(recN S es - 1)*7+0+2]?=some (UN (S.next+(recN S es - 1))):=by
   have hx:l[recN S es - 1]?=some l[recN S es - 1]:=List.getElem?_eq_getElem (by omega);have h1:(Ep k S es)[recN S es - 1]?=some (Cy k S.D.sz S.next S.last es (recN S es - 1)):=(by unfold Ep My;rw [List.getElem?_map,List.getElem?_range (by omega)];rfl);have h2:=congrArg (fun q=>q[recN S es - 1]?) hl;simp only [List.getElem?_map,hx,Option.map_some]at h2;have h3:some l[recN S es - 1].1=some (Cy k S.D.sz S.next S.last es (recN S es - 1)):=h2.trans h1
   cases h3e:l[recN S es - 1]with
   |mk a b=>rw [h3e]at h3 hx;simp only [Option.some.injEq]at h3;subst h3;rw [Nat.add_zero,Di l (Kk l) (recN S es - 1) 2 _ hx (by omega)];rfl
  unfold apC at ski;refine wk ?_;have e9:S.next+(recN S es - 1)=S.next+recN S es - 1:=by omega
  refine ret X.f141.1 ?_;have k9:Kp (fun j=>j=I.s) hh (hp hh.n hh.t [(I.s,some (cl (apC I {Si with last:=S.next+(recN S es - 1)})))]):=kps;have r9:=ri.st (S':= {Si with last:=S.next+(recN S es - 1)}) k9 (by unfold apC;exact lkp) ⟨rfl,rfl,rfl,rfl,rfl,rfl,rfl,rfl⟩;have a9:=a4.trans (ai.trans (AChg.kp k9 fun b _ e=>by subst e;have:=ri.col;omega));have rc:RcP k es S {Si with last:=S.next+recN S es - 1} (.done 0):= .ok hrl;rw [←e9]at rc;exact⟨_,κi,rc,r9,a9⟩
omit L X in
theorem RlP.fr {sz:Nat}{l:List JPg}(h:RlP sz l S S' o)(iw:IW S):Fr true S S'∧IW S'∧S'.D.n≤S.D.n+(2*S.D.nb+2)*l.length:=by
 induction h with
 |nil=>exact⟨Fr.refl _ _,iw,by simp⟩
 | @cons x r S S1 S' p o h _ ih=>obtain⟨a,b⟩:=h.iw iw;obtain⟨c,d,e⟩:=ih a;have f:=h.fr;have m:=Of S true;refine⟨f.trans c,d,?_⟩;rw [f.nb]at e;rw [List.length_cons,Nat.mul_add];omega
 | @bad x r S S1 o h _=>obtain⟨a,b⟩:=h.iw iw;have m:=Of S true;refine⟨h.fr,a,?_⟩;rw [List.length_cons,Nat.mul_add];omega
structure FrR (S S':Ap):Prop where
 nb:S'.D.nb=S.D.nb
 P:S'.D.P=S.D.P
 sz:S'.D.sz=S.D.sz
 en:S'.D.en=S.D.en
 secs:S'.S=S.S
 A:S'.A=S.A
 pe:S'.pe=S.pe
 wr:S'.wr=S.wr
 dat:S'.dat=S.dat
 flt:S'.D.flt=S.D.flt
omit L X in
theorem RcP.fr {k:Nat}{es:List Ent}(h:RcP k es S S' o)(iw:IW S):FrR S S'∧IW S'∧S'.D.n≤S.D.n+(2*S.D.nb+2)*recN S es∧S'.next=S.next+recN S es:=by
 have iw4:IW {S with next:=S.next+recN S es}:=⟨fun k=>⟨(iw.wi k).sel,(iw.wi k).lo⟩,iw.ne⟩;have hL:(Ep k S es).length=recN S es:=by unfold Ep My;rw [List.length_map,List.length_range]
 cases h with
 |ok h=>obtain⟨a,b,c⟩:=h.fr iw4;rw [hL]at c;exact⟨⟨a.nb,a.P,a.sz,a.en,a.secs,a.A,a.pe,a.wr,a.o,a.flt⟩,⟨fun k=>⟨(b.wi k).sel,(b.wi k).lo⟩,b.ne⟩,c,a.next⟩
 |bad h _=>obtain⟨a,b,c⟩:=h.fr iw4;rw [hL]at c;exact⟨⟨a.nb,a.P,a.sz,a.en,a.secs,a.A,a.pe,a.wr,a.o,a.flt⟩,b,c,a.next⟩
inductive CmP (es:List Ent):Ap→Ap→WO→Prop where
 |nil {S:Ap} (h:es= []):CmP es S S (.done 0)
 |ok {S S1:Ap} (h:RcP 2 es S S1 (.done 0)) (hn:es≠[]):CmP es S {S1 with A:=stA S1.A es es.length} (.done 0)
 |bad {S S1:Ap} {o:WO} (h:RcP 2 es S S1 o) (ho:o= .full∨o= .pow):CmP es S S1 o
theorem T7 {ev:AV}{es:List Ent}(T:Tb P0 E F K)(r:ApR κ h I S)(iw:IW S)(he:EL h lo ev es)(hlo:I.r1<lo∧I.r2<lo∧I.vb<lo∧I.m<lo)(hc: ∀b n c,ev= .slc b 0 n c→κ b=0∨200≤κ b)(hok: ∀e∈es,e.Ok)(hlen:es.length≤150)(hA: ∀j x,es[j]?=some x→okE S.S (S.D.nb*S.D.P) (stA S.A es j) x) (hf:S.last<S.next∧S.next<100000000) (hn:S.D.n+30*recN S es+60<100000): CtX P0 E F K 95 [.ptr I.s 0,ev] h (fun v h'=> ∃S' κ',CmP es S S' (.done 0)∧ApR κ' h' I S'∧AChg κ h κ' h') (fun v h'=> ∃(o:WO) (S':Ap) (κ':Nat→Nat),v= .ifc 34 (AN (eOf o))∧(o= .full∨o= .pow)∧CmP es S S' o∧ApR κ' h' I S'∧AChg κ h κ' h'):=by
 have he0:=he.mono (Nat.zero_le lo);rcases he.len with⟨e0,rfl⟩|⟨hpos,b,rfl,hb,hblo⟩;·refine B9 L X.f95 fun Q x cs G Gp=>?_;refine ret X.f95.1 ?_;exact⟨S,κ,.nil e0,r.k0 kps fun _ _=>rfl,AChg.k0 kps fun _ _=>rfl⟩
 ·have hc0:=hc _ _ _ rfl;have lb:=hb.lt;refine B9 L X.f95 fun Q x cs G Gp=>?_;refine J2 L (c:=Lx (k:=2) L X T r iw (.inl rfl) he0 hok (by omega) hf hn) (g:=?_) (gp:=?_);·rintro _ h2 ⟨S1,κ1,hr,r1,a1⟩;obtain⟨fr,iw1,-,-⟩:=hr.fr iw;have sk1:=r1.sk;have ls1:=sk1.lt;have hb1:Bk h2 b (es.flatMap Az):=Aq a1.k (by omega) hb;have he1:EL h2 lo (.slc b 0 es.length (Aa+2)) es:=⟨.inr ⟨List.length_pos_iff.1 hpos,b,rfl,hb1,hblo⟩⟩;have mp:=r1.mp;unfold apC at sk1;have hA1: ∀j x,es[j]?=some x→okE S1.S (S1.D.nb*S1.D.P) (stA S1.A es j) x:=(by rw [fr.secs,fr.nb,fr.P,fr.A];exact hA);refine cal ?_ (c:=Ob L X mp he1 (by omega) (fun b' n c e=>by cases e;omega) hA1);rintro _ h3 ⟨rfl,k3,mp3⟩;have r3:=r1.map k3 mp3;refine cal ?_ (c:=Ay L X);rintro _ rfl;refine ret X.f95.1 ?_;exact⟨_,κ1,.ok hr (List.length_pos_iff.1 hpos),r3,a1.trans (AChg.kp k3 fun b _ e=>by have:=r1.col;rcases e with e|e|e <;> subst e <;> omega)⟩
  ·rintro _ h2 ⟨o,S1,κ1,rfl,ho,hr,r1,a1⟩;refine A2 L X.f95.1 ?_;exact Gp _ _ ⟨o,S1,κ1,rfl,ho,.bad hr ho,r1,a1⟩
abbrev GW:=Int×Option (Nat×Nat×Nat)
def gwV (sz:Nat):Option (Nat×Nat×Nat)→AV
 |none=> .nils
 |some q=> .slc q.1 q.2.1 sz q.2.2
def gwC (sz:Nat)(x:GW):List AV:= [AI x.1,gwV sz x.2]
omit L X in
theorem Kr {sz:Nat}(l:List GW): ∀x∈l,(gwC sz x).length=2:=fun _ _=>rfl
def Dl (S:Nat)(down:Bool)(l:List Int):Nat:=if l= []∨ ¬l.Nodup then 2 else if∃s∈l,s<0∨(S:Int)≤s then 3 else if down=true then 50 else 0
omit L X in
theorem R6 {l:List Int}{a:Int}(h:l.Nodup)(ha:a∉l):(l++ [a]).Nodup:=by rw [List.nodup_append];exact⟨h,by simp,fun x hx y hy=>by rw [List.mem_singleton.1 hy];exact fun e=>ha (e ▸ hx)⟩
structure DkR (h:H)(U:Nat→Prop)(v:AV)(sz:Nat)(L:List (List Nat)):Prop where
 ex:(L= []∧v= .nils)∨(0<L.length∧ ∃(lb:Nat) (rows:List (Nat×Nat)),v= .slc lb 0 L.length (Aa+1)∧Bk h lb (rows.map fun b=>AV.slc b.1 0 sz b.2)∧U lb∧rows.length=L.length∧ ∀(i:Nat) (b:Nat×Nat) (d:List Nat),rows[i]?=some b→L[i]?=some d→BS h b.1 0 d∧d.length=sz∧U b.1∧b.1≠lb)
omit L X
theorem DkR.kp {sz:Nat}{L:List (List Nat)}(q:DkR h U v sz L)(k:Kp B h h')(hb: ∀b,B b→b<h.n→ ¬U b):DkR h' U v sz L:=by
 rcases q.ex with h1|⟨h1,lb,rows,h2,h3,h4,h5,h6⟩;·exact⟨.inl h1⟩
 ·refine⟨.inr ⟨h1,lb,rows,h2,Aq k (fun e=>hb _ e h3.lt h4) h3,h4,h5,fun i b d e1 e2=>?_⟩⟩;obtain⟨g1,g2,g3⟩:=h6 i b d e1 e2;exact⟨U7 k (fun e=>hb _ e g1.lt_n g3.1) g1,g2,g3⟩
theorem DkR.k0 {sz:Nat}{L:List (List Nat)}(q:DkR h U v sz L)(k:K0 h h'):DkR h' U v sz L:=q.kp k fun _ e=>e.elim
theorem DkR.mono {U':Nat→Prop}{sz:Nat}{L:List (List Nat)}(q:DkR h U v sz L)(k: ∀b,b<h.n→U b→U' b):DkR h U' v sz L:=by
 rcases q.ex with h1|⟨h1,lb,rows,h2,h3,h4,h5,h6⟩;·exact⟨.inl h1⟩
 ·exact⟨.inr ⟨h1,lb,rows,h2,h3,k lb h3.lt h4,h5,fun i b d e1 e2=>let⟨g1,g2,g3,g4⟩:=h6 i b d e1 e2;⟨g1,g2,k b.1 g1.lt_n g3,g4⟩⟩⟩
theorem DkR.app {sz N n:Nat}{b:Nat×Nat}{rows:List (Nat×Nat)}{L:List (List Nat)}{d:List Nat}(hb:Bk h N (rows.map (fun b=>AV.slc b.1 0 sz b.2)++ [AV.slc b.1 0 sz b.2]))(hN:U N)(hl:rows.length=L.length)(hn:L.length=n)(hr: ∀(i:Nat) (b:Nat×Nat) (d:List Nat),rows[i]?=some b→L[i]?=some d→BS h b.1 0 d∧d.length=sz∧U b.1∧b.1≠N)(hd:BS h b.1 0 d)(hdl:d.length=sz)(hlb:U b.1∧b.1≠N): DkR h U (.slc N 0 (n+1) (Aa+1)) sz (L++ [d]):=by
 refine⟨.inr ⟨by simp,N,rows++ [b],by simp [hn],by rw [List.map_append];exact hb,hN,by simp [hl],fun i b' d' e1 e2=>?_⟩⟩;by_cases hi:i<rows.length;·rw [List.getElem?_append_left hi]at e1;rw [List.getElem?_append_left (by omega)]at e2;exact hr i b' d' e1 e2
 ·rw [List.getElem?_append_right (by omega)]at e1 e2;have:i - rows.length=0:=by have:=(List.getElem?_eq_some_iff.1 e1).1;simp at this;omega
  rw [←hl]at e2;rw [this]at e1 e2;simp at e1 e2;subst e1;subst e2;exact⟨hd,hdl,hlb⟩
theorem Hd {rows:List (Nat×Nat)}{sz:Nat}:(rows.map fun b=>AV.slc b.1 0 sz b.2).length=rows.length:=List.length_map _
theorem DkR.plain {sz:Nat}{L:List (List Nat)}(q:DkR h U v sz L){z:Int}:Ar [AI z,v]=true:=by rcases q.ex with⟨_,rfl⟩|⟨_,lb,rows,rfl,_⟩ <;> rfl
include L X
theorem Abi {sz S:Nat}(hsz:1≤sz∧sz≤30)(hS:1≤S∧S≤10):Ct P0 E F K 25 [AN sz,AN S] h fun v h'=> ∃dv,v= .agg [AN sz,dv]∧DkR h' (fun b=>h.n≤b) dv sz (List.replicate S (List.replicate sz 0))∧K0 h h':=by
 refine Af L X.f25 fun Q x cs G=>?_;refine wk ?_;refine Bs L (α:= AV) (T:=fun i _=> [(6,some (AN i)),(5,some (.ptr (h.n+1) 0)),(4,some (.ptr h.n 0)),(1,some (AN S)),(0,some (AN sz))]) (n:=S) (R:=fun i dv h2=>Bk h2 (h.n+1) [AN sz,dv]∧Bk h2 h.n [Zi,.nils]∧DkR h2 (fun b=>h.n+2≤b) dv sz (List.replicate i (List.replicate sz 0))∧K0 h h2) (i0:=0) .nils tsb ⟨lkp,lkp,⟨.inl ⟨rfl,rfl⟩⟩,kps⟩ (Nat.zero_le _) ?_ ?_
 ·rintro i dv h2 hi ⟨q1,q2,q3,q4⟩ ih;have l1:=q1.lt;have l2:=q2.lt;have n4:=q4.n;rcases q3.ex with⟨e0,rfl⟩|⟨h1,lb,rows,rfl,h3,h4,h5,h6⟩;·have:i=0:=(by simpa using e0);subst this;refine wk ?_;(apply Hh L rfl rfl;exact Dr (new:= [.slc h2.n 0 sz sz]) rfl rfl (SlR.of (c:= [.slc h2.n 0 sz sz]) lkp (Nat.le_refl _) rfl) (by omega) (by omega));refine wk ?_;refine ih _ _ _ ⟨lkp,lkp,DkR.app (rows:= []) (L:= []) (n:=0) (b:=(h2.n,sz)) (d:=List.replicate sz 0) lkp (by omega) rfl rfl (fun i b d e=>by simp at e) (Mj ?_ (AllB.rep (by omega))) (by simp) ⟨by omega,by omega⟩,kps⟩ tsb;rw [←E6];exact lkp
  ·have hrl:(List.replicate i (List.replicate sz 0)).length=i:=List.length_replicate;rw [hrl]at h1 h5 q1;have l3:=h3.lt;refine wk ?_;(apply Hh L rfl rfl;exact Dq (old:=rows.map fun b=>AV.slc b.1 0 sz b.2) (new:= [.slc h2.n 0 sz sz]) rfl rfl (SlR.of (c:=rows.map fun b=>AV.slc b.1 0 sz b.2) lkp (by rw [Hd];omega) (by rw [List.drop_zero,List.take_of_length_le (by rw [Hd];omega)])) (SlR.of (c:= [.slc h2.n 0 sz sz]) lkp (Nat.le_refl _) rfl) (by omega) (by omega) rfl);refine wk ?_;have kk:Kp (fun j=>j=lb∨j=h.n+1) h2 (hp (h2.n+1+1+1) h2.t [(h.n+1,some (cl [AN sz,.slc (h2.n+1+1) 0 (i+1) (Aa+1)])),(h2.n+1+1,some (cl (rows.map (fun b=>AV.slc b.1 0 sz b.2)++ [.slc h2.n 0 sz sz]))),(lb,none),(h2.n+1,some (cl [.slc h2.n 0 sz sz])),(h2.n,some (cl (rl [Zy] sz)))]):=kps;refine ih _ _ _ ⟨lkp,lkp,?_,kps⟩ tsb;rw [List.replicate_succ'];refine DkR.app (rows:=rows) (n:=i) (b:=(h2.n,sz)) (d:=List.replicate sz 0) lkp (by omega) (by rw [h5,hrl]) hrl (fun j b d e1 e2=>?_) (Mj ?_ (AllB.rep (by omega))) (by simp) ⟨by omega,by omega⟩;·obtain⟨g1,g2,g3,g4⟩:=h6 j b d e1 (by rw [List.getElem?_replicate]at e2 ⊢;exact e2);have:=g1.lt_n;exact⟨U7 kk (by omega) g1,g2,g3,by omega⟩
   ·rw [←E6];exact lkp
 ·rintro dv h2 ⟨q1,q2,q3,q4⟩;have l1:=q1.lt;have l2:=q2.lt;have n4:=q4.n;have hp9:=q3.plain (z:=(sz:Int));refine wk ?_;(apply stS L rfl rfl rfl rfl rfl hp9;exact lkp;rfl;rfl);refine ret X.f25.1 ?_;refine⟨dv,rfl,(q3.kp (B:=fun j=>j=h.n) kps (fun b e _=>by omega)).mono fun b _ e=>by omega,kps⟩
end
variable {P0:Program}{ab b4 bc cb gb m nt r2 vb:Nat}{h1:H}{post:AV→H→Prop}{todo:List AItem}{x0:AV}{z:AFr}
theorem zq2 (h:p:=by
 clear hdt
 refine wk ?_
 (apply st1 L rfl;exact Bg kb1.rk hdt' rfl;rfl)
 refine cal ?_ (c:=Ay L X)
 rintro _ rfl
 refine wk ?_
 (apply st1 L rfl;exact Db (KE.int .i64) rfl rfl lkq;rfl)
 by_cases hin:s∈(l.map (·.1)).take i
 ·rw [hg,if_pos hin,Option.getD_some]
  refine wk ?_
  (apply Lm L rfl;exact Ez (KE.int .i64) m2 rfl rfl rfl lkq;rfl)
  refine wk ?_
  (apply st1 L rfl;exact Db (KE.int .i64) rfl rfl lkq;rfl)
  rw [Bz,if_pos rfl,Option.getD_some]
  refine wk ?_
  refine Ei L rfl rfl rfl rfl rfl (Ds L X) ?_
  rintro _ h2 ⟨rfl,rfl⟩
  refine A2 L X.f93.1 ?_
  have e2:Dl S.S S.down (l.map (·.1))=2:=by unfold Dl;rw [if_pos (.inr (dup hin))]
  refine Gp _ _ ⟨by rw [e2],by rw [e2];simp,?_⟩
  exact Kp.trS (S':=fun j=>j=h.n) kps (fun i hi e=>by omega) k1
 ·rw [hg,if_neg hin,Option.getD_none]
  refine wk ?_
  (apply Lm L rfl;exact Ez (KE.int .i64) m2 rfl rfl rfl lkq;rfl)
  refine wk ?_
  (apply st1 L rfl;exact Db (KE.int .i64) rfl rfl lkq;rfl)
  rw [Bz,if_pos rfl,Option.getD_some]
  refine cal ?_ (c:=Ay L X)
  rintro _ rfl
  refine wk ?_
  refine ih (C7 M ck s (AN 1),mCk M ck s) _ _ ⟨?_,?_,m2.set _ _,?_,fun k=>?_⟩ tsb
  ·exact Kp.trS (S':=fun j=>j=h.n) kps (fun i hi e=>by omega) k1
  ·exact lkq
  ·rw [htk];exact R6 nd hin
  ·rw [Bz,htk,m3]
   by_cases e:k=s
   ·subst e;rw [if_pos rfl,if_pos (by simp)]
   ·rw [if_neg e]
    by_cases e2:k∈(l.map (·.1)).take i
    ·rw [if_pos e2,if_pos (by simp [e2])]
    ·rw [if_neg e2,if_neg (by simp [e2,e])]):p:=h
theorem zq5 (h:p:=by
 clear hdt
 by_cases c1:s<0
 ·refine wk ?_
  (apply st1 L rfl;exact Bg kb3.rk hdt' rfl;rfl)
  refine wk ?_
  refine Y1 L rfl rfl rfl rfl rfl (Ds L X) ?_
  rintro _ h4 ⟨rfl,rfl⟩
  refine A2 L X.f93.1 ?_
  have e2:=bad (.inl c1)
  exact Gp _ _ ⟨by rw [e2],by rw [e2];simp,k2.trans kps⟩
 by_cases c2:s<(S.S:Int)
 ·refine wk ?_
  (apply st1 L rfl;exact Bg kb3.rk hdt' rfl;rfl)
  refine cal ?_ (c:=Fj L X (mp.k0 (k2.trans kps)))
  rintro _ rfl
  refine cal ?_ (c:=Ay L X)
  rintro _ rfl
  refine wk ?_
  refine ih () _ _ ⟨?_,fun j x hj e=>?_⟩ tsb
  ·exact k2.trans kps
  ·rcases Nat.lt_succ_iff_lt_or_eq.1 hj with q|q
   ·exact ok j x q e
   ·subst q;rw [hx]at e;cases e;exact⟨by show 0≤s;omega,c2⟩
 ·refine wk ?_
  (apply st1 L rfl;exact Bg kb3.rk hdt' rfl;rfl)
  refine cal ?_ (c:=Fj L X (mp.k0 (k2.trans kps)))
  rintro _ rfl
  refine wk ?_
  refine Y1 L rfl rfl rfl rfl rfl (Ds L X) ?_
  rintro _ h4 ⟨rfl,rfl⟩
  refine A2 L X.f93.1 ?_
  have e2:=bad (.inr (by omega))
  exact Gp _ _ ⟨by rw [e2],by rw [e2];simp,k2.trans kps⟩):p:=h
section
variable (L:Lg P0 E F K)(X:Fx F K)
include L X
theorem Zp:CtP P0 E F K 93 [.ptr I.s 0,.nils] h fun v h'=>v= .ifc 34 (AN 2)∧K0 h h':=by refine Ek L X.f93 fun Q x cs G=>?_;refine wk ?_;refine Ei L rfl rfl rfl rfl rfl (Ds L X) ?_;rintro _ h2 ⟨rfl,rfl⟩;refine A2 L X.f93.1 ?_;exact G _ _ ⟨rfl,kps⟩
theorem mm {cap:Nat}{l:List GW}(sk:Bk h I.s (apC I S))(mp:MpR S.S S.D.nb S.D.P h I.m I.r1 I.r2 I.vb S.A)(hsz:12≤S.D.sz∧S.D.sz<900)(kb:Bk h gb (l.flatMap (gwC S.D.sz)))(hl:l≠[])(hlen:l.length<1000): CtX P0 E F K 93 [.ptr I.s 0,.slc gb 0 l.length cap] h (fun v h'=>v= .tup []∧Dl S.S S.down (l.map (·.1))=0∧K0 h h') (fun v h'=>v= .ifc 34 (AI ((Dl S.S S.down (l.map (·.1)):Nat):Int))∧Dl S.S S.down (l.map (·.1))≠0∧K0 h h'):=by
 have hpos:=List.length_pos_iff.2 hl;have lb:=kb.lt;have ls:=sk.lt;have hmS:=mp.rg;unfold apC at sk;refine B9 L X.f93 fun Q x cs G Gp=>?_;refine cal ?_ (c:=Ay L X);rintro _ rfl;refine wk ?_
 refine Bs L (α:= List (Int×AV×Nat)×Nat) (T:=fun i _=> [(16,some (AN i)),(15,some (AN l.length)),(14,some (.slc gb 0 l.length cap)),(4,some (.map h.n)),(1,some (.slc gb 0 l.length cap)),(0,some (.ptr I.s 0))]) (n:=l.length)
  (R:=fun i s hh=>K0 h hh∧Mk hh h.n (s.1.map (mE AI)) s.2∧MOk s.1 s.2∧((l.map (·.1)).take i).Nodup∧ ∀k:Int,A5 s.1 k=if k∈(l.map (·.1)).take i then some (AN 1)else none) (i0:=0) ([],0) tsb
  ⟨kps,lkq,MOk.nil,by simp,fun k=>by simp [A5]⟩ (Nat.zero_le _) ?_ ?_
 ·rintro i ⟨M,ck⟩ hh hi ⟨k1,m1,m2,nd,m3⟩ ih;simp only at m1 m2 m3;have sk1:=Ag k1 sk;have kb1:=Ag k1 kb;have ls1:=sk1.lt;have lb1:=kb1.lt;have lm1:=m1.lt;have hx:l[i]?=some l[i]:=List.getElem?_eq_getElem hi;have hdt:=B4 l (Kr (sz:=S.D.sz) l) i _ hx;have htk:(l.map (·.1)).take (i+1)=(l.map (·.1)).take i++ [l[i].1]:=by rw [List.take_add_one,List.getElem?_map,hx];rfl
  clear kb sk;generalize hxe:l[i]=xx at*;obtain⟨s,q⟩:=xx;have hg:=m3 s;have dup:s∈(l.map (·.1)).take i→ ¬(l.map (·.1)).Nodup:=fun hin nn=>by have h1:=nn.sublist (List.take_sublist (i+1) _);rw [htk,List.nodup_append]at h1;exact h1.2.2 s hin s (List.mem_singleton_self _) rfl
  rcases q with _|⟨b,o,c⟩;·have hdt':i*2+2≤(l.flatMap (gwC S.D.sz)).length∧((l.flatMap (gwC S.D.sz)).drop (i*2)).take 2= [AI s,.nils]:=hdt;exact zq2
  ·have hdt':i*2+2≤(l.flatMap (gwC S.D.sz)).length∧((l.flatMap (gwC S.D.sz)).drop (i*2)).take 2= [AI s,.slc b o S.D.sz c]:=hdt;exact zq2
 ·rintro⟨M,ck⟩ hh ⟨k1,m1,m2,nd,m3⟩;simp only at m1 m2 m3;rw [List.take_of_length_le (by simp)]at nd;have sk1:=Ag k1 sk;have kb1:=Ag k1 kb;have sk0:=sk;have kb0:=kb;clear kb sk;refine wk ?_;refine Bs L (α:= Unit) (T:=fun i _=> [(50,some (AN i)),(49,some (AN l.length)),(48,some (.slc gb 0 l.length cap)),(0,some (.ptr I.s 0))]) (n:=l.length) (R:=fun i _ h2=>K0 h h2∧ ∀j x,j<i→l[j]?=some x→0≤x.1∧x.1<(S.S:Int)) (i0:=0) () tsb ⟨k1.trans kps,fun j x hj=>by omega⟩ (Nat.zero_le _) ?_ ?_
  ·rintro i _ h3 hi ⟨k2,ok⟩ ih;have sk3:=Ag k2 sk0;have kb3:=Ag k2 kb0;have ls3:=sk3.lt;have lb3:=kb3.lt;have hx:l[i]?=some l[i]:=List.getElem?_eq_getElem hi;have hdt:=B4 l (Kr (sz:=S.D.sz) l) i _ hx;clear sk1 kb1;generalize hxe:l[i]=xx at*;obtain⟨s,q⟩:=xx;have bad:(s<0∨(S.S:Int)≤s)→Dl S.S S.down (l.map (·.1))=3:=fun hq=>by unfold Dl;rw [if_neg (by rintro(q|q);exact hl (List.map_eq_nil_iff.1 q);exact q nd),if_pos ⟨s,List.mem_map.2 ⟨_,List.mem_of_getElem? hx,rfl⟩,hq⟩]
   rcases q with _|⟨b,o,c⟩;·have hdt':i*2+2≤(l.flatMap (gwC S.D.sz)).length∧((l.flatMap (gwC S.D.sz)).drop (i*2)).take 2= [AI s,.nils]:=hdt;exact zq5
   ·have hdt':i*2+2≤(l.flatMap (gwC S.D.sz)).length∧((l.flatMap (gwC S.D.sz)).drop (i*2)).take 2= [AI s,.slc b o S.D.sz c]:=hdt;exact zq5
  ·rintro _ h3 ⟨k2,ok⟩;have sk3:=Ag k2 sk0;have hc:Dl S.S S.down (l.map (·.1))=if S.down=true then 50 else 0:=(by unfold Dl;rw [if_neg (by rintro(q|q);exact hl (List.map_eq_nil_iff.1 q);exact q nd),if_neg];rintro⟨s,hs,hq⟩;obtain⟨x,hx,rfl⟩:=List.mem_map.1 hs;obtain⟨j,hj⟩:=List.mem_iff_getElem?.1 hx;have:=ok j x (List.getElem?_eq_some_iff.1 hj).1 hj;omega);rw [hc]at G Gp;clear sk1 kb1
   cases hd:S.down with
   |false=>rw [hd]at sk3 G;refine cal ?_ (c:=Ay L X);rintro _ rfl;refine ret X.f93.1 ?_;exact⟨rfl,rfl,k2.trans kps⟩
   |true=>rw [hd]at sk3 Gp;refine wk ?_;refine Ei L rfl rfl rfl rfl rfl (Ds L X) ?_;rintro _ h4 ⟨rfl,rfl⟩;refine A2 L X.f93.1 ?_;exact Gp _ _ ⟨rfl,by simp,k2.trans kps⟩
theorem Zq {Q:Nat→AV→Prop}{l:List (Nat×Option AV)}{cs:List AFr}{e:Int}(t4:look l 4=some (.ptr b4 0)) (k4:Bk h b4 [x0]) (hG: ∀v h',post v h'→GO P0 E Q (finish v cs h' z)) (hp1: ∀h',Kp (fun j=>j=b4) h h'→post (AI e) h'): Good P0 E Q ⟨⟨85,nt,tms l,todo,[.call 142 [.ptr b4 0]],.panicking [(.ifc 34 (AI e),false)],false,none⟩,z::cs,h⟩:=by have l4:=k4.lt;refine C6 L (by intro q;cases q) X.f142.1 rfl rfl rfl ?_;refine Lo L rfl ?_;refine wk ?_;refine Im L X.f142.1 rfl ?_;refine D7 L X.f85.1 (C4 t4 (Bk.e lkp) rfl Er) hG (hp1 _ kps)
theorem wj {Q:Nat→AV→Prop}{l:List (Nat×Option AV)}{cs:List AFr}(t4:look l 4=some (.ptr b4 0)) (k4:Bk h b4 [x0]) (hG: ∀v h',post v h'→GO P0 E Q (finish v cs h' z)) (hp1:post x0 h): Good P0 E Q ⟨⟨85,nt,tms l,todo,[.call 142 [.ptr b4 0]],.returning,false,none⟩,z::cs,h⟩:=by have l4:=k4.lt;refine C6 L (by intro q;cases q) X.f142.1 rfl rfl rfl ?_;refine Ea L rfl ?_;refine wk ?_;(apply st1 L rfl;exact Li (k:=true) rfl rfl;rfl);refine wk ?_;refine Im L X.f142.1 rfl ?_;refine D7 L X.f85.1 (C4 t4 (Bk.e lkp) rfl Er) hG hp1
theorem Ag6 {s:Nat}{cp:List AV}{pan:AV→H→Prop}(ka:Bk h ab [.ptr s 0])(hc:CtX P0 E F K f (.ptr s 0::cp) (hp (h.n+1) h.t [(h.n,some (cl [Zi]))]) post pan)(hB: ¬B h.n) (hq: ∀v h',post v h'→Kp B (hp (h.n+1) h.t [(h.n,some (cl [Zi]))]) h') (hpn: ∀v h',pan v h'→(∃e:Int,v= .ifc 34 (AI e))∧Kp B (hp (h.n+1) h.t [(h.n,some (cl [Zi]))]) h'): Ct P0 E F K 85 [.ptr ab 0,.fn (.func f) [] cp] h (fun v h'=>(v=Zi∧ ∃u h1,post u h1∧Kp (fun j=>j=h.n) h1 h')∨(∃(e:Int) (h1:H),v=AI e∧pan (.ifc 34 (AI e)) h1∧Kp (fun j=>j=h.n) h1 h')):=by
 have lk:=ka.lt;refine Af L X.f85 fun Q x cs G=>?_;refine wk ?_;refine Hx L rfl rfl rfl rfl ?_;refine wk ?_;refine wg L (fst:= []) (cp:=cp) (va:= [.ptr s 0]) (r0:= .ptr s 0::cp) ?_ ?_ ?_ ?_ ?_ hc ?_ ?_;·rfl
 ·rfl
 ·rfl
 ·rfl
 ·rfl
 ·intro u h1 hu;have k1:=hq u h1 hu;have kb1:Bk h1 h.n [Zi]:=Aq k1 hB lkp;have lb1:=kb1.lt;refine wk ?_;refine Gt L (todo:= []) ?_;refine wj L X (b4:=h.n) (x0:=Zi) rfl lkp G (.inl ⟨rfl,u,h1,hu,kps⟩)
 ·intro u h1 hu;obtain⟨⟨e,rfl⟩,k1⟩:=hpn u h1 hu;have kb1:Bk h1 h.n [Zi]:=Aq k1 hB lkp;refine Zq L X (b4:=h.n) rfl kb1 G fun h' k=> .inr ⟨e,h1,rfl,hu,k⟩
omit L X in
structure FrS (S S':Ap):Prop where
 nb:S'.D.nb=S.D.nb
 P:S'.D.P=S.D.P
 sz:S'.D.sz=S.D.sz
 en:S'.D.en=S.D.en
 secs:S'.S=S.S
 A:S'.A=S.A
 last:S'.last=S.last
 pe:S'.pe=S.pe
 log:S'.log=S.log
 flt:S'.D.flt=S.D.flt
omit L X
theorem FrS.refl (S:Ap):FrS S S:=⟨rfl,rfl,rfl,rfl,rfl,rfl,rfl,rfl,rfl,rfl⟩
theorem FrS.trans {S1:Ap}(a:FrS S S1)(b:FrS S1 S2):FrS S S2:= ⟨b.nb.trans a.nb,b.P.trans a.P,b.sz.trans a.sz,b.en.trans a.en,b.secs.trans a.secs,b.A.trans a.A,b.last.trans a.last,b.pe.trans a.pe,b.log.trans a.log,b.flt.trans a.flt⟩
theorem StP.fr (h:StP sec data S S' o)(iw:IW S):FrS S S'∧IW S'∧S'.D.n≤S.D.n+2*S.D.nb+2∧S'.next=S.next+1:=by
 have iw4:IW {S with next:=S.next+1}:=⟨fun k=>⟨(iw.wi k).sel,(iw.wi k).lo⟩,iw.ne⟩;have m:muW {S with next:=S.next+1} false≤2*S.D.nb+1:=Of _ _
 cases h with
 |ok h=>have f:=h.fr;obtain⟨a,b⟩:=h.iw iw4;exact⟨⟨f.nb,f.P,f.sz,f.en,f.secs,f.A,f.last,f.pe,f.o,f.flt⟩,⟨fun k=>⟨(a.wi k).sel,(a.wi k).lo⟩,a.ne⟩,by simp only at b ⊢;omega,f.next⟩
 |bad h _=>have f:=h.fr;obtain⟨a,b⟩:=h.iw iw4;exact⟨⟨f.nb,f.P,f.sz,f.en,f.secs,f.A,f.last,f.pe,f.o,f.flt⟩,a,by simp only at b ⊢;omega,f.next⟩
include L X
inductive AppP:List (Int×Option (List Nat))→Ap→List Ent→Ap→WO→Prop where
 |nil {S:Ap}:AppP [] S [] S (.done 0)
 |put {sec:Int} {data:List Nat} {l:List (Int×Option (List Nat))} {S S1 S':Ap} {p:Nat} {es:List Ent} {o:WO} (h:StP sec data S S1 (.done p)) (r:AppP l S1 es S' o):AppP ((sec,some data)::l) S ((sec,(p:Int))::es) S' o
 |bad {sec:Int} {data:List Nat} {l:List (Int×Option (List Nat))} {S S1:Ap} {o:WO} (h:StP sec data S S1 o) (ho:o= .full∨o= .pow):AppP ((sec,some data)::l) S [] S1 o
 |trim {sec:Int} {l:List (Int×Option (List Nat))} {S S':Ap} {es:List Ent} {o:WO} (h:S.A sec≠none) (r:AppP l S es S' o):AppP ((sec,none)::l) S ((sec,-1)::es) S' o
 |skip {sec:Int} {l:List (Int×Option (List Nat))} {S S':Ap} {es:List Ent} {o:WO} (h:S.A sec=none) (r:AppP l S es S' o):AppP ((sec,none)::l) S es S' o
inductive ApdP (l:List (Int×Option (List Nat))):Ap→Ap→WO→Prop where
 |ok {S S1 S2:Ap} {es:List Ent} (a:AppP l S es S1 (.done 0)) (c:CmP es S1 S2 (.done 0)):ApdP l S S2 (.done 0)
 |bad {S S1:Ap} {es:List Ent} {o:WO} (a:AppP l S es S1 o) (ho:o= .full∨o= .pow):ApdP l S S1 o
 |bad2 {S S1 S2:Ap} {es:List Ent} {o:WO} (a:AppP l S es S1 (.done 0)) (c:CmP es S1 S2 o) (ho:o= .full∨o= .pow):ApdP l S S2 o
def gpl (δ: Nat→List Nat)(l:List GW):List (Int×Option (List Nat)):=l.map fun x=>(x.1,x.2.map fun q=>δ q.1)
omit L X
theorem Kt {sz n:Nat}(hsz:12≤sz):cntJ sz n≤n+1:=by
 unfold cntJ mostJ;have hm:1≤(sz - 4) / 8:=by omega
 generalize (sz - 4) / 8=m at*;rcases Nat.eq_zero_or_pos n with rfl|hn;·rw [Nat.div_eq_of_lt (by omega)];simp
 ·rw [show n+m - 1=(n - 1)+m by omega,Nat.add_div_right _ (by omega)];have:=Nat.div_le_self (n - 1) m;omega
theorem ApR.own (q:ApR κ h I S)(k:Kp B h h')(hb: ∀b,b<h.n→B b→200≤κ b)(hc: ∀b,b<h.n→κ' b=κ b):ApR κ' h' I S:= (q.k0 (Kp.refl _) hc).out k fun b hl e=>by rw [hc b hl];exact hb b hl e
theorem AChg.own {κ1:Nat→Nat}(a:AChg κ h κ1 h1)(k:Kp B h1 h')(hb: ∀b,B b→h.n≤b)(hc: ∀b,b<h1.n→κ' b=κ1 b):AChg κ h κ' h':= ⟨Kp.trS k (fun i hi e=>by have:=hb i e;omega) a.k,fun b hl=>(hc b (Nat.lt_of_lt_of_le hl a.k.n)).trans (a.col b hl)⟩
theorem EL.blt {n c:Nat}{l:List Ent}(q:EL h lo (.slc b 0 n c) l):b<h.n∧lo≤b:=by
 rcases q.ex with⟨_,e⟩|⟨_,b',e,h4,h5⟩;·cases e
 ·cases e;exact⟨h4.lt,h5⟩
end
theorem zq1 (h:p:=by
 rintro _ rfl
 refine J2 L (c:=call _ (by exact kps)) (g:=?_) (gp:=?_)
 ·rintro _ h5 ⟨p,S',κ',rfl,hw,r',a'⟩
  have n1:=a'.k.n
  simp only [Al]at n1
  rcases el.len with⟨e0,rfl⟩|⟨hpos,b1,rfl,hb1,hblo1⟩
  ·subst e0
   refine wk ?_
   (apply st1 L rfl;exact Dr (new:=Az (s,(p:Int))) rfl rfl (SlR.of (c:=Az (s,(p:Int))) lkp (Nat.le_refl _) rfl) (by omega) (by omega);rfl)
   refine wk ?_
   refine ih (S',upd κ' (h5.n+1) 200,.slc (h5.n+1) 0 1 (Aa+2),[(s,(p:Int))]) _ _ (okc p S' κ' _ h5 _ _ (h5.n+1) ?_ hw r' a' (Kp.mono (S:=fun _=>False) (fun _ f=>f.elim) ?_) (EL.app (l:= []) ?_ (by omega) rfl) (by omega) rfl) tsb
   ·exact kps
   ·exact kps
   ·exact lkp
  ·have hlb1:=hb1.lt
   have h200:=hev b1 _ _ rfl
   have hb5:Bk h5 b1 (es.flatMap Az):=Aq a'.k (by rw [Aj hlb1];omega) (by exact lkp)
   have hlb5:=hb5.lt
   refine wk ?_
   (apply st1 L rfl;exact Dq (old:=es.flatMap Az) (new:=Az (s,(p:Int))) rfl rfl (SlR.of (c:=es.flatMap Az) lkp (by rw [Ba];omega) (by rw [List.drop_zero,List.take_of_length_le (by rw [Ba];exact Nat.le_refl _)])) (SlR.of (c:=Az (s,(p:Int))) lkp (Nat.le_refl _) rfl) (by omega) (by omega) rfl;rfl)
   refine wk ?_
   refine ih (S',upd κ' (h5.n+1) 200,.slc (h5.n+1) 0 (es.length+1) (Aa+2),es++ [(s,(p:Int))]) _ _ (okc p S' κ' _ h5 _ _ (h5.n+1) ?_ hw r' a' (Kp.mono (S:=fun j=>j=b1) (fun j e=>⟨_,_,by subst e;rfl⟩) ?_) (EL.app (l:=es) ?_ (by omega) rfl) (by omega) rfl) tsb
   ·exact kps
   ·exact kps
   ·exact lkp
 ·rintro _ h5 ⟨o',S',κ',rfl,ho,hw,r',a'⟩
  refine A2 L X.f92.1 ?_
  refine Gp _ _ (.inr ⟨hchk,o',S',κ',rfl,ho,badc _ _ ho hw,r',ai.trans ((AChg.k0 (κ':=ext κi hh.n) kps fun b hb=>Aj hb).trans a')⟩)):p:=h
theorem An4 (h:p:=by
 intro e he
 obtain⟨j,hj⟩:=List.mem_iff_getElem?.1 he
 obtain⟨⟨f1,f2,f3,f4⟩,-⟩:=hAe j e hj
 have hm:S.D.nb*S.D.P≤12*6:=Nat.mul_le_mul r.dv.ok.g.nb.2 (by have:=r.dv.ok.g.P;omega)
 exact⟨f1,by omega,f3,by omega⟩):p:=h
section
variable (L:Lg P0 E F K)(X:Fx F K)
include L X
theorem Vp {S:Nat}{A:Int→Option Int}(q:MpR S nb P h m r1 r2 vb A)(e:A s=none):Ct P0 E F K 89 [.ptr m 0,AI s] h fun v h'=>v= .tup [Zi,.bool false]∧h'=h:= (vu L X q).mono fun v h' q=>⟨by rw [q.1,e],q.2⟩
theorem Vq {S:Nat}{A:Int→Option Int}(q:MpR S nb P h m r1 r2 vb A){p:Int}(e:A s=some p):Ct P0 E F K 89 [.ptr m 0,AI s] h fun v h'=>v= .tup [AI p,.bool true]∧h'=h:= (vu L X q).mono fun v h' q=>⟨by rw [q.1,e],q.2⟩
omit L X in
theorem Ku {S:Nat}{d:Bool}{l:List Int}(h:Dl S d l=0): ∀s∈l,0≤s∧s<S:=by
 intro s hs;unfold Dl at h;split at h;·cases h
 ·split at h;·cases h
  ·rename_i hn;constructor;·exact Int.not_lt.1 fun c=>hn ⟨s,hs,.inl c⟩
   ·exact Int.not_le.1 fun c=>hn ⟨s,hs,.inr c⟩
theorem Zr (kc:Bk h cb [.nils]):CtP P0 E F K 92 [.ptr I.s 0,.ptr cb 0] h fun v h'=>v= .ifc 34 (AN 2)∧K0 h h':=by have lc:=kc.lt;refine Ek L X.f92 fun Q x cs G=>?_;refine wk ?_;(apply st1 L rfl;exact vg rfl rfl rfl;rfl);refine wk ?_;refine Ei L rfl rfl rfl rfl rfl (Zp (I:=I) L X) ?_;rintro _ h2 ⟨rfl,k2⟩;refine A2 L X.f92.1 ?_;exact G _ _ ⟨rfl,kps⟩
theorem Zs {l:List GW}{δ: Nat→List Nat}(T:Tb P0 E F K)(r:ApR κ h I S)(iw:IW S)(hS:S.S<1000)(kc:Bk h cb [.slc gb 0 l.length (Aa+2)])(kb:Bk h gb (l.flatMap (gwC S.D.sz)))(hcc:κ cb=0∧κ gb=0)(hl:l≠[])(hlen:l.length≤10) (hD: ∀(i:Nat) (s:Int) (b o c:Nat),l[i]?=some (s,some (b,o,c))→BS h b o (δ b)∧κ b=0∧(δ b).length=S.D.sz) (hf:S.last<S.next∧S.next<10000000) (hn:S.D.n+1000<100000) (hA:Dl S.S S.down (l.map (·.1))=0→ ∀es S',AppP (gpl δ l) S es S' (.done 0)→ ∀j x,es[j]?=some x→okE S.S (S.D.nb*S.D.P) (stA S.A es j) x): CtX P0 E F K 92 [.ptr I.s 0,.ptr cb 0] h (fun v h'=>Dl S.S S.down (l.map (·.1))=0∧ ∃S' κ',ApdP (gpl δ l) S S' (.done 0)∧ApR κ' h' I S'∧AChg κ h κ' h') (fun v h'=>(v= .ifc 34 (AI ((Dl S.S S.down (l.map (·.1)):Nat):Int))∧Dl S.S S.down (l.map (·.1))≠0∧ ∃κ',ApR κ' h' I S∧AChg κ h κ' h')∨ (Dl S.S S.down (l.map (·.1))=0∧ ∃(o:WO) (S':Ap) (κ':Nat→Nat),v= .ifc 34 (AN (eOf o))∧(o= .full∨o= .pow)∧ApdP (gpl δ l) S S' o∧ApR κ' h' I S'∧AChg κ h κ' h')):=by
 have lc:=kc.lt;have lb:=kb.lt;have hsz:=r.dv.ok.g.sz;have hlt:=r.lt;have hcapn:l.length<Aa:=by simp only [Aa];omega
 refine B9 L X.f92 fun Q x cs G Gp=>?_;refine J2 L (c:=mm (cap:=l.length) L X (Ag (by exact kps) r.sk) (r.mp.k0 (by exact kps)) ⟨hsz.1,by omega⟩ (Ag (by exact kps) kb) hl (by omega)) (g:=?_) (gp:=?_)
 ·rintro _ h2 ⟨rfl,hchk,k2⟩;have r2:ApR (ext κ h.n) h2 I S:=r.k0 k2 fun b hb=>Aj hb;have a2:AChg κ h (ext κ h.n) h2:=AChg.k0 k2 fun b hb=>Aj hb;have kc2:Bk h2 cb [.slc gb 0 l.length (Aa+2)]:=Ag k2 kc;have hrg:=Ku hchk;have hgl:(gpl δ l).length=l.length:=by unfold gpl;rw [List.length_map]
  refine wk ?_;refine Bs L (α:= Ap×(Nat→Nat)×AV×List Ent) (T:=fun i s=> [(18,some (AN i)),(17,some (AN l.length)),(16,some (.slc gb 0 l.length (Aa+2))),(3,some s.2.2.1),(0,some (.ptr I.s 0))]) (n:=l.length) (R:=fun i s hh=>ApR s.2.1 hh I s.1∧AChg κ h s.2.1 hh∧IW s.1∧FrS S s.1∧(s.1.next≤S.next+i∧S.next≤s.1.next)∧s.1.D.n+30*(l.length - i)+600<100000∧EL hh h.n s.2.2.1 s.2.2.2∧(∀b n c,s.2.2.1= .slc b 0 n c→s.2.1 b=200)∧s.2.2.2.length≤i∧(∀es'' S'' o,AppP ((gpl δ l).drop i) s.1 es'' S'' o→AppP (gpl δ l) S (s.2.2.2++es'') S'' o)) (i0:=0) (S,ext κ h.n,.nils,[]) tsb ⟨r2.k0 (by exact kps) fun _ _=>rfl,a2.trans (AChg.k0 (by exact kps) fun _ _=>rfl),iw,FrS.refl _,⟨by simp only;omega,Nat.le_refl _⟩,by simp only;omega,EL.nil _ _,(by intro b n c e;cases e),Nat.le_refl _,(by intro es'' S'' o q;exact q)⟩ (Nat.zero_le _) ?_ ?_
  ·rintro i ⟨Si,κi,ev,es⟩ hh hi ⟨ri,ai,iwi,fri,hnx,hbi,el,hev,hel,chi⟩ ih;simp only at ri ai iwi fri hnx hbi el hev hel chi;have kbi:Bk hh gb (l.flatMap (gwC S.D.sz)):=Aq ai.k (by omega) kb;have lbi:=kbi.lt;have hnn:=ai.k.n;have ski:=ri.sk;have lsi:=ski.lt;have hlti:=ri.lt;have hnbi:=ri.dv.ok.g.nb;have hcoli:=ri.col;have hx:l[i]?=some l[i]:=List.getElem?_eq_getElem hi;have hdt:=B4 l (Kr (sz:=S.D.sz) l) i _ hx;have hg:(gpl δ l)[i]?=some (l[i].1,l[i].2.map fun q=>δ q.1):=(by unfold gpl;rw [List.getElem?_map,hx];rfl);have hdrop:(gpl δ l).drop i=(l[i].1,l[i].2.map fun q=>δ q.1)::(gpl δ l).drop (i+1):=(by have hlt:i<(gpl δ l).length:=(by omega);rw [List.drop_eq_getElem_cons hlt];rw [List.getElem?_eq_getElem hlt]at hg;rw [Option.some.inj hg]);have hs:=hrg l[i].1 (List.mem_map_of_mem (List.getElem_mem hi));have hDi:=hD i;clear hg;generalize hxe:l[i]=xx at*;obtain⟨s,q⟩:=xx;simp only at hs hdrop;unfold apC at ski;rcases q with _|⟨b,o,c⟩
   ·have hdt':i*2+2≤(l.flatMap (gwC S.D.sz)).length∧((l.flatMap (gwC S.D.sz)).drop (i*2)).take 2= [AI s,.nils]:=hdt;clear hdt
    cases hAs:Si.A s with
    |none=>
     refine wk ?_;(apply st1 L rfl;exact Bg kbi.rk hdt' rfl;rfl);refine cal ?_ (c:=Vp L X (ri.mp.k0 (by exact kps)) hAs);rintro _ rfl;refine wk ?_;refine ih (Si,ext κi hh.n,ev,es) _ _ ⟨ri.k0 ?_ fun b hb=>Aj hb,ai.trans (AChg.k0 ?_ fun b hb=>Aj hb),iwi,fri,⟨by simp only;omega,hnx.2⟩,by simp only;omega,el.k0 ?_,fun b n c e=>?_,by simp only;omega,fun es'' S'' o q=>chi _ _ _ ?_⟩ tsb;·exact kps
     ·exact kps
     ·exact kps
     ·have h200:=hev b n c e;simp only at e;subst e;exact(Aj el.blt.1).trans h200
     ·rw [hdrop];exact .skip hAs q
    |some p=>
     refine wk ?_;(apply st1 L rfl;exact Bg kbi.rk hdt' rfl;rfl);refine cal ?_ (c:=Vq L X (ri.mp.k0 (by exact kps)) hAs);rintro _ rfl;have chi': ∀es'' S'' o,AppP ((gpl δ l).drop (i+1)) Si es'' S'' o→AppP (gpl δ l) S ((es++ [(s,-1)])++es'') S'' o:=fun es'' S'' o q=>by rw [List.append_assoc];exact chi _ _ _ (by rw [hdrop];exact .trim (by rw [hAs];simp) q)
     rcases el.len with⟨e0,rfl⟩|⟨hpos,b,rfl,hb,hblo⟩
     ·subst e0;refine wk ?_;(apply st1 L rfl;exact Dr (new:=Az (s,-1)) rfl rfl (SlR.of (c:=Az (s,-1)) lkp (Nat.le_refl _) rfl) (by omega) (by omega);rfl);refine wk ?_;refine ih (Si,upd (ext κi hh.n) (hh.n+2) 200,.slc (hh.n+2) 0 1 (Aa+2),[(s,-1)]) _ _ ⟨ri.own (B:=fun _=>False) ?_ (fun b _ e=>e.elim) fun b hb=>(upd_ne _ _ (by omega)).trans (Aj hb),ai.own (B:=fun _=>False) ?_ (fun b e=>e.elim) fun b hb=>(upd_ne _ _ (by omega)).trans (Aj hb),iwi,fri,⟨by simp only;omega,hnx.2⟩,by simp only;omega,EL.app (l:= []) ?_ (by omega) rfl,fun b n c e=>?_,by simp,chi'⟩ tsb;·exact kps
      ·exact kps
      ·exact lkp
      ·cases e;exact upd_eq _ _ _
     ·have hlb:=hb.lt;have h200:=hev b _ _ rfl;refine wk ?_;(apply st1 L rfl;exact Dq (old:=es.flatMap Az) (new:=Az (s,-1)) rfl rfl (SlR.of (c:=es.flatMap Az) lkp (by rw [Ba];omega) (by rw [List.drop_zero,List.take_of_length_le (by rw [Ba];exact Nat.le_refl _)])) (SlR.of (c:=Az (s,-1)) lkp (Nat.le_refl _) rfl) (by omega) (by omega) rfl;rfl);refine wk ?_;refine ih (Si,upd (ext κi hh.n) (hh.n+2) 200,.slc (hh.n+2) 0 (es.length+1) (Aa+2),es++ [(s,-1)]) _ _ ⟨ri.own (B:=fun j=>j=b) ?_ (fun b _ e=>by subst e;omega) fun b hb=>(upd_ne _ _ (by omega)).trans (Aj hb),ai.own (B:=fun j=>j=b) ?_ (fun b e=>by subst e;exact hblo) fun b hb=>(upd_ne _ _ (by omega)).trans (Aj hb),iwi,fri,⟨by simp only;omega,hnx.2⟩,by simp only;omega,EL.app (l:=es) ?_ (by omega) rfl,fun b n c e=>?_,by simp;omega,chi'⟩ tsb;·exact kps
      ·exact kps
      ·exact lkp
      ·cases e;exact upd_eq _ _ _
   ·have hdt':i*2+2≤(l.flatMap (gwC S.D.sz)).length∧((l.flatMap (gwC S.D.sz)).drop (i*2)).take 2= [AI s,.slc b o S.D.sz c]:=hdt;clear hdt;obtain⟨hd1,hd2,hd3⟩:=hDi s b o c hx;have kdi:=ai.bs hd1 hd2;have hsz1:1≤S.D.sz:=(by omega);have hmu:=Of Si false
    have call: ∀h5,K0 hh h5→CtX P0 E F K 94 [.ptr I.s 0,AI s,.slc b o S.D.sz c] h5
      (fun v h'=> ∃p S' κ',v= .agg [AI s,AN p]∧StP s (δ b) Si S' (.done p)∧ApR κ' h' I S'∧AChg (ext κi hh.n) h5 κ' h')
      (fun v h'=> ∃(o:WO) (S':Ap) (κ':Nat→Nat),v= .ifc 34 (AN (eOf o))∧(o= .full∨o= .pow)∧StP s (δ b) Si S' o∧ApR κ' h' I S'∧AChg (ext κi hh.n) h5 κ' h'):=by
     intro h5 k5
     have:=Xm (c1:=c) (sec:=s) L X T (ri.k0 k5 fun b hb=>Aj hb) (iwi.wi false) (by omega) ⟨by omega,by omega⟩ (kdi.1.k0 k5) ((Aj kdi.1.lt_n).trans kdi.2) (by rw [fri.sz];exact hd3) (by omega)
     rw [fri.sz]at this
     exact this
    refine wk ?_;(apply st1 L rfl;exact Bg kbi.rk hdt' rfl;rfl)
    have okc: ∀(p:Nat) (S':Ap) (κ':Nat→Nat) (h5 h' h7:H) (w:AV) (N:Nat),K0 hh h5→StP s (δ b) Si S' (.done p)→ApR κ' h' I S'→AChg (ext κi hh.n) h5 κ' h'→Kp (fun j=> ∃n c,ev= .slc j 0 n c) h' h7→EL h7 h.n w (es++ [(s,(p:Int))])→h'.n≤N→w= .slc N 0 (es.length+1) (Aa+2)→
      ApR (upd κ' N 200) h7 I S'∧AChg κ h (upd κ' N 200) h7∧IW S'∧FrS S S'∧(S'.next≤S.next+(i+1)∧S.next≤S'.next)∧S'.D.n+30*(l.length - (i+1))+600<100000∧EL h7 h.n w (es++ [(s,(p:Int))])∧(∀b n c,w= .slc b 0 n c→(upd κ' N 200) b=200)∧(es++ [(s,(p:Int))]).length≤i+1∧(∀es'' S'' o,AppP ((gpl δ l).drop (i+1)) S' es'' S'' o→AppP (gpl δ l) S ((es++ [(s,(p:Int))])++es'') S'' o):=by
     intro p S' κ' h5 h' h7 w N k5 hst r' a' k7 hel7 hN hw
     obtain⟨f1,f2,f3,f4⟩:=hst.fr iwi
     have n1:=a'.k.n
     have n0:=k5.n
     have hold: ∀j n c,ev= .slc j 0 n c→κ' j=200∧h.n≤j:=by
      intro j n c e
      have h200:=hev j n c e
      subst e
      have:=el.blt
      exact⟨(a'.col j (by omega)).trans ((Aj this.1).trans h200),this.2⟩
     refine⟨r'.own k7 (fun j _ e=>?_) fun j hj=>upd_ne _ _ (by omega),?_,f2,fri.trans f1,⟨by omega,by omega⟩,by omega,hel7,fun b n c e=>?_,by simp;omega,fun es'' S'' o q=>?_⟩
     ·obtain⟨n,c,e⟩:=e
      have:=hold j n c e;omega
     ·refine AChg.own (ai.trans ((AChg.k0 k5 fun b hb=>Aj hb).trans a')) k7 (fun j e=>?_) fun j hj=>upd_ne _ _ (by omega)
      obtain⟨n,c,e⟩:=e
      exact(hold j n c e).2
     ·rw [hw]at e;cases e;exact upd_eq _ _ _
     ·rw [List.append_assoc];exact chi _ _ _ (by rw [hdrop];exact .put hst q)
    have badc: ∀(o':WO) (S':Ap),(o'= .full∨o'= .pow)→StP s (δ b) Si S' o'→ApdP (gpl δ l) S S' o':=(by intro o' S' ho hst;have:=chi [] S' o' (by rw [hdrop];exact .bad hst ho);exact .bad this ho);clear chi
    cases hAs:Si.A s with
    |none=>refine cal ?_ (c:=Vp L X (ri.mp.k0 (by exact kps)) hAs);exact zq1
    |some pa=>refine cal ?_ (c:=Vq L X (ri.mp.k0 (by exact kps)) hAs);exact zq1
  ·rintro⟨Si,κi,ev,es⟩ hh ⟨ri,ai,iwi,fri,hnx,hbi,el,hev,hel,chi⟩;simp only at ri ai iwi fri hnx hbi el hev hel chi;have hnn:=ai.k.n;have happ:AppP (gpl δ l) S es Si (.done 0):=(by have:=chi [] Si (.done 0) (by rw [List.drop_of_length_le (by omega)];exact .nil);rwa [List.append_nil]at this);have hAe:=hA hchk es Si happ;have hok: ∀e∈es,e.Ok:=(by exact An4);have hrec:recN Si es≤es.length+1:=Kt (by rw [fri.sz];omega);have hcm:=T7 (lo:=h.n) (ev:=ev) (es:=es) L X T (ri.k0 (κ':=κi) (h':=hp hh.n hh.t []) (by exact kps) fun _ _=>rfl) iwi (el.k0 (by exact kps)) (by omega) (fun b n c e=> .inr (by have:=hev b n c e;omega)) hok (by omega) (by rw [fri.secs,fri.nb,fri.P,fri.A];exact hAe) (by have:=fri.last;omega) (by omega);rcases(show ev= .nils∨ ∃b n c,ev= .slc b 0 n c by rcases el.len with⟨_,e⟩|⟨_,b,e,_⟩;exact .inl e;exact .inr ⟨b,_,_,e⟩)with rfl|⟨eb,en,ec,rfl⟩
   all_goals
    refine J2 L (c:=hcm) (g:=?_) (gp:=?_);·rintro _ h5 ⟨S',κ',hc,r',a'⟩;refine ret X.f92.1 ?_;exact⟨hchk,S',κ',.ok happ hc,r'.k0 kps fun _ _=>rfl,ai.trans ((AChg.k0 (κ':=κi) kps fun _ _=>rfl).trans (a'.trans (AChg.k0 kps fun _ _=>rfl)))⟩
    ·rintro _ h5 ⟨o,S',κ',rfl,ho,hc,r',a'⟩;refine A2 L X.f92.1 ?_;exact Gp _ _ (.inr ⟨hchk,o,S',κ',rfl,ho,.bad2 happ hc ho,r',ai.trans ((AChg.k0 (κ':=κi) kps fun _ _=>rfl).trans a')⟩)
 ·rintro _ h2 ⟨rfl,hchk,k2⟩;refine A2 L X.f92.1 ?_;refine Gp _ _ (.inl ⟨rfl,hchk,ext κ h.n,r.k0 k2 fun b hb=>Aj hb,AChg.k0 k2 fun b hb=>Aj hb⟩)
end
theorem Ade (h:p:=by
 exact⟨e',S',κ',rfl,q,r'.k0 kps fun _ _=>rfl,a2.trans (AChg.k0 kps fun _ _=>rfl)⟩):p:=h
section
variable (L:Lg P0 E F K)(X:Fx F K)
include L X
structure AChX (Y:Nat→Prop)(κ: Nat→Nat)(h:H)(κ':Nat→Nat)(h':H):Prop where
 k:Kp (fun b=>(1≤κ b∧κ b<200)∨Y b) h h'
 col: ∀b,b<h.n→κ' b=κ b
omit L X in
theorem AChg.x {Y:Nat→Prop}(a:AChg κ h κ' h'):AChX Y κ h κ' h':=⟨a.k.mono fun b e=> .inl e,a.col⟩
omit L X in
theorem AChX.own {Y:Nat→Prop}{κ1:Nat→Nat}(a:AChg κ h κ1 h1)(x:AChX Y κ1 h1 κ' h')(hy: ∀b,Y b→h.n≤b):AChg κ h κ' h':=
 ⟨Kp.trS x.k (fun i hi e=>by
                rcases e with e|e;· rw [a.col i hi]at e;exact e
                ·have:=hy i e;omega) a.k,fun b hl=>(x.col b (Nat.lt_of_lt_of_le hl a.k.n)).trans (a.col b hl)⟩
theorem He {cp:List AV}{Y:Nat→Prop}{post:Ap→AV→(Nat→Nat)→H→Prop}{pan:Ap→Int→(Nat→Nat)→H→Prop}(r:ApR κ h I S)(ka:Bk h ab [.ptr I.s 0])(hY: ∀b,Y b→b<h.n) (hc: ∀κ2 h2,K0 h h2→h.n<h2.n→(∀b,b<h.n→κ2 b=κ b)→ApR κ2 h2 I S→CtX P0 E F K f (.ptr I.s 0::cp) h2 (fun v h'=> ∃κ' S',ApR κ' h' I S'∧AChX Y κ2 h2 κ' h'∧post S' v κ' h') (fun v h'=> ∃κ' S' e,v= .ifc 34 (AI e)∧ApR κ' h' I S'∧AChX Y κ2 h2 κ' h'∧pan S' e κ' h')): Ct P0 E F K 85 [.ptr ab 0,.fn (.func f) [] cp] h (fun v h'=> ∃κ' S' h1,ApR κ' h' I S'∧AChX Y κ h κ' h'∧Kp (fun j=>j=h.n) h1 h'∧((v=Zi∧ ∃u,post S' u κ' h1)∨(∃e,v=AI e∧pan S' e κ' h1))):=by
 have k2:K0 h (hp (h.n+1) h.t [(h.n,some (cl [Zi]))]):=kps;have hcol: ∀b,b<h.n→upd κ h.n 200 b=κ b:=fun b hb=>upd_ne _ _ (by omega);have r2:ApR (upd κ h.n 200) (hp (h.n+1) h.t [(h.n,some (cl [Zi]))]) I S:=r.k0 k2 hcol;have hB: ¬((1≤upd κ h.n 200 h.n∧upd κ h.n 200 h.n<200)∨Y h.n):=by
  rw [upd_eq];rintro(e|e);·omega
  ·have:=hY _ e;omega
 have fin: ∀κ' S' h1 h',ApR κ' h1 I S'→AChX Y (upd κ h.n 200) (hp (h.n+1) h.t [(h.n,some (cl [Zi]))]) κ' h1→Kp (fun j=>j=h.n) h1 h'→ApR κ' h' I S'∧AChX Y κ h κ' h':=by intro κ' S' h1 h' r1 a1 k1;have n1:=a1.k.n;simp only [Al]at n1;have hk:κ' h.n=200:=(a1.col _ (by simp only [Al];omega)).trans (upd_eq _ _ _);refine⟨r1.out k1 fun b _ e=>by subst e;omega,⟨Kp.trS k1 (fun i hi e=>by omega) (Kp.trS a1.k (fun i hi e=>by rw [hcol i hi]at e;exact e) (k2.mono fun _ f=>f.elim)),fun b hb=>?_⟩⟩;rw [a1.col b (by simp only [Al];omega),hcol b hb]
 refine(Ag6 L X (s:=I.s) (B:=fun b=>(1≤upd κ h.n 200 b∧upd κ h.n 200 b<200)∨Y b) ka (hc _ _ k2 (by simp only [Al];omega) hcol r2) hB ?_ ?_).mono ?_;·rintro v h' ⟨κ',S',-,a,-⟩;exact a.k
 ·rintro v h' ⟨κ',S',e,rfl,-,a,-⟩;exact⟨⟨e,rfl⟩,a.k⟩
 ·rintro v h' (⟨rfl,u,h1,⟨κ',S',r1,a1,p1⟩,k1⟩|⟨e,h1,rfl,⟨κ',S',e',he,r1,a1,p1⟩,k1⟩);·obtain⟨q1,q2⟩:=fin κ' S' h1 h' r1 a1 k1;exact⟨κ',S',h1,q1,q2,k1,.inl ⟨rfl,u,p1⟩⟩
  ·obtain⟨q1,q2⟩:=fin κ' S' h1 h' r1 a1 k1
   cases he;exact⟨κ',S',h1,q1,q2,k1,.inr ⟨e,rfl,p1⟩⟩
inductive AppO (l:List Int)(g:List (Int×Option (List Nat)))(S:Ap):Nat→Ap→Prop where
 |bad (h:Dl S.S S.down l≠0):AppO l g S (Dl S.S S.down l) S
 |run {S':Ap} {o:WO} (h:Dl S.S S.down l=0) (ho:o= .done 0∨o= .full∨o= .pow) (a:ApdP g S S' o):AppO l g S (eOf o) S'
theorem T8 {l:List GW}{δ: Nat→List Nat}(T:Tb P0 E F K)(r:ApR κ h I S)(ka:Bk h ab [.ptr I.s 0])(iw:IW S)(hS:S.S<1000)(kb:Bk h gb (l.flatMap (gwC S.D.sz)))(hcc:κ gb=0)(hl:l≠[])(hlen:l.length≤10) (hD: ∀(i:Nat) (s:Int) (b o c:Nat),l[i]?=some (s,some (b,o,c))→BS h b o (δ b)∧κ b=0∧(δ b).length=S.D.sz) (hf:S.last<S.next∧S.next<10000000) (hn:S.D.n+1000<100000) (hA:Dl S.S S.down (l.map (·.1))=0→ ∀es S',AppP (gpl δ l) S es S' (.done 0)→ ∀j x,es[j]?=some x→okE S.S (S.D.nb*S.D.P) (stA S.A es j) x): Ct P0 E F K 35 [.ptr ab 0,.slc gb 0 l.length (Aa+2)] h (fun v h'=> ∃e S' κ',v=AN e∧AppO (l.map (·.1)) (gpl δ l) S e S'∧ApR κ' h' I S'∧AChg κ h κ' h'):=by
 have lb:=kb.lt;have lk:=ka.lt;refine Af L X.f35 fun Q x cs G=>?_;refine wk ?_;have k1:K0 h (hp (h.n+1) h.t [(h.n,some (cl [.slc gb 0 l.length (Aa+2)]))]):=kps;have r1:ApR (ext κ h.n) (hp (h.n+1) h.t [(h.n,some (cl [.slc gb 0 l.length (Aa+2)]))]) I S:=r.k0 k1 fun b hb=>Aj hb;have a1:AChg κ h (ext κ h.n) (hp (h.n+1) h.t [(h.n,some (cl [.slc gb 0 l.length (Aa+2)]))]):=AChg.k0 k1 fun b hb=>Aj hb;have kc1:Bk (hp (h.n+1) h.t [(h.n,some (cl [.slc gb 0 l.length (Aa+2)]))]) h.n [.slc gb 0 l.length (Aa+2)]:=lkp;have kb1:=Ag k1 kb
 have cl1: ∀κ2 h2,K0 (hp (h.n+1) h.t [(h.n,some (cl [.slc gb 0 l.length (Aa+2)]))]) h2→(hp (h.n+1) h.t [(h.n,some (cl [.slc gb 0 l.length (Aa+2)]))]).n<h2.n→(∀b,b<(hp (h.n+1) h.t [(h.n,some (cl [.slc gb 0 l.length (Aa+2)]))]).n→κ2 b=ext κ h.n b)→ApR κ2 h2 I S→CtX P0 E F K 92 (.ptr I.s 0:: [.ptr h.n 0]) h2
   (fun v h'=> ∃κ' S',ApR κ' h' I S'∧AChX (fun _=>False) κ2 h2 κ' h'∧(Dl S.S S.down (l.map (·.1))=0∧ApdP (gpl δ l) S S' (.done 0)))
   (fun v h'=> ∃κ' S' e,v= .ifc 34 (AI e)∧ApR κ' h' I S'∧AChX (fun _=>False) κ2 h2 κ' h'∧ ∃e':Nat,e=(e':Int)∧AppO (l.map (·.1)) (gpl δ l) S e' S'):=by
  intro κ2 h2 k2 n2 c2 r2
  refine(Zs (δ:= δ) L X T r2 iw hS (Ag k2 kc1) (Ag k2 kb1) ⟨(c2 _ (by simp only [Al];omega)).trans (B0 (Nat.le_refl _)),(c2 _ (by simp only [Al];omega)).trans ((Aj lb).trans hcc)⟩ hl hlen ?_ hf hn hA).mono ?_ ?_
  ·intro i s b o c hx
   obtain⟨q1,q2,q3⟩:=hD i s b o c hx
   have:=q1.lt_n
   exact⟨(q1.k0 k1).k0 k2,(c2 _ (by simp only [Al];omega)).trans ((Aj q1.lt_n).trans q2),q3⟩
  ·rintro v h' ⟨q1,S',κ',q2,q3,q4⟩
   exact⟨κ',S',q3,q4.x,q1,q2⟩
  ·rintro v h' (⟨rfl,q1,κ',q2,q3⟩|⟨q1,o,S',κ',rfl,ho,q2,q3,q4⟩)
   ·exact⟨κ',S,_,rfl,q2,q3.x,_,rfl,.bad q1⟩
   ·exact⟨κ',S',_,rfl,q3,q4.x,_,rfl,.run q1 (.inr ho) q2⟩
 refine cal ?_ (c:=He L X r1 (Ag k1 ka) (fun b e=>e.elim) cl1);rintro v h2 ⟨κ',S',h1,r',a',-,hv⟩;have a2:=a'.own a1 fun b e=>e.elim;rcases hv with⟨rfl,u,q1,q2⟩|⟨e,rfl,e',rfl,q⟩
 ·refine ret X.f35.1 ?_;exact⟨0,S',κ',rfl,.run q1 (.inl rfl) q2,r'.k0 kps fun _ _=>rfl,a2.trans (AChg.k0 kps fun _ _=>rfl)⟩
 ·refine ret X.f35.1 ?_;exact Ade
theorem Zt (r:ApR κ h I S)(ka:Bk h ab [.ptr I.s 0]): Ct P0 E F K 35 [.ptr ab 0,.nils] h (fun v h'=> ∃κ',v=AN 2∧ApR κ' h' I S∧AChg κ h κ' h'):=by
 have lk:=ka.lt;refine Af L X.f35 fun Q x cs G=>?_;refine wk ?_;have k1:K0 h (hp (h.n+1) h.t [(h.n,some (cl [.nils]))]):=kps;have r1:ApR (ext κ h.n) (hp (h.n+1) h.t [(h.n,some (cl [.nils]))]) I S:=r.k0 k1 fun b hb=>Aj hb;have a1:AChg κ h (ext κ h.n) (hp (h.n+1) h.t [(h.n,some (cl [.nils]))]):=AChg.k0 k1 fun b hb=>Aj hb;have kc1:Bk (hp (h.n+1) h.t [(h.n,some (cl [.nils]))]) h.n [.nils]:=lkp
 have cl1: ∀κ2 h2,K0 (hp (h.n+1) h.t [(h.n,some (cl [.nils]))]) h2→(hp (h.n+1) h.t [(h.n,some (cl [.nils]))]).n<h2.n→(∀b,b<(hp (h.n+1) h.t [(h.n,some (cl [.nils]))]).n→κ2 b=ext κ h.n b)→ApR κ2 h2 I S→CtX P0 E F K 92 (.ptr I.s 0:: [.ptr h.n 0]) h2
   (fun v h'=> ∃κ' S',ApR κ' h' I S'∧AChX (fun _=>False) κ2 h2 κ' h'∧False)
   (fun v h'=> ∃κ' S' e,v= .ifc 34 (AI e)∧ApR κ' h' I S'∧AChX (fun _=>False) κ2 h2 κ' h'∧e=((2:Nat):Int)∧S'=S):=by
  intro κ2 h2 k2 n2 c2 r2
  refine(Zr L X (Ag k2 kc1)).X.mono (fun v h' q=>q) ?_
  rintro v h' ⟨rfl,k3⟩
  exact⟨ext κ2 h2.n,S,_,rfl,r2.k0 k3 fun b hb=>Aj hb,(AChg.k0 k3 fun b hb=>Aj hb).x,rfl,rfl⟩
 refine cal ?_ (c:=He L X r1 (Ag k1 ka) (fun b e=>e.elim) cl1);rintro v h2 ⟨κ',S',h1,r',a',-,hv⟩;have a2:=a'.own a1 fun b e=>e.elim;rcases hv with⟨rfl,u,q1⟩|⟨e,rfl,rfl,rfl⟩
 ·exact q1.elim
 ·refine ret X.f35.1 ?_;exact⟨κ',rfl,r'.k0 kps fun _ _=>rfl,a2.trans (AChg.k0 kps fun _ _=>rfl)⟩
def Ap.rd (S:Ap)(s:Int):List Nat:=match S.A s with
 |none=>List.replicate S.D.sz 0
 |some p=>((S.D.bl (p.toNat / S.D.P)).pg (p.toNat % S.D.P)).b.take S.D.sz
theorem wl {cs:Nat}(r:ApR κ h I S)(kc:Bk h cs [AI s])(hs:0≤s∧s<S.S)(hd:S.down=true): CtP P0 E F K 86 [.ptr I.s 0,.ptr cs 0,.ptr bc 0] h fun v h'=>v= .ifc 34 (AN 50)∧K0 h h':=by have lc:=kc.lt;have sk:=r.sk;have ls:=sk.lt;unfold apC at sk;rw [hd]at sk;refine Ek L X.f86 fun Q x cs G=>?_;refine cal ?_ (c:=Fj L X (r.mp.k0 (by exact kps)));rintro _ rfl;refine cal ?_ (c:=Ay L X);rintro _ rfl;refine wk ?_;refine Ei L rfl rfl rfl rfl rfl (Ds L X) ?_;rintro _ h4 ⟨rfl,rfl⟩;refine A2 L X.f86.1 ?_;exact G _ _ ⟨rfl,kps⟩
theorem wm {cs:Nat}{w:AV}(r:ApR κ h I S)(kc:Bk h cs [AI s])(kb:Bk h bc [w])(hs:0≤s∧s<S.S)(hne:κ cs=0∧(κ bc=0∨200≤κ bc)∧cs≠bc)(hdn:S.down=false)(hoff:S.D.off=false) (hp: ∀p:Int,S.A s=some p→p.toNat / S.D.P<S.D.nb∧p.toNat % S.D.P<(S.D.bl (p.toNat / S.D.P)).nx∧(((S.D.bl (p.toNat / S.D.P)).pg (p.toNat % S.D.P)).st=2∨((S.D.bl (p.toNat / S.D.P)).pg (p.toNat % S.D.P)).st=3)): CtX P0 E F K 86 [.ptr I.s 0,.ptr cs 0,.ptr bc 0] h (fun v h'=>Kp (fun j=>j=bc) h h'∧ ∃b c,Bk h' bc [.slc b 0 S.D.sz c]∧BS h' b 0 (S.rd s)∧h.n≤b) (fun v h'=>False):=by
 have lc:=kc.lt;have lb:=kb.lt;have sk:=r.sk;have ls:=sk.lt;have hsz:=r.dv.ok.g.sz;have hcol:=r.col;have hrg:=r.mp.rg;have hnb:=r.dv.ok.g.nb;have hPP:=r.dv.ok.g.P;have hm:S.D.nb*S.D.P≤12*6:=Nat.mul_le_mul r.dv.ok.g.nb.2 (by omega);have nbs:bc≠I.s:=fun e=>by rw [←e]at hcol;omega
 unfold apC at sk;rw [hdn]at sk
 cases hAs:S.A s with
 |none=>
  have er:S.rd s=List.replicate S.D.sz 0:=by unfold Ap.rd;rw [hAs]
  refine B9 L X.f86 fun Q x cs G Gp=>?_;refine cal ?_ (c:=Fj L X (r.mp.k0 (by exact kps)));rintro _ rfl;refine cal ?_ (c:=Ay L X);rintro _ rfl;refine cal ?_ (c:=Ay L X);rintro _ rfl;refine cal ?_ (c:=Vp L X (r.mp.k0 (by exact kps)) hAs);rintro _ rfl;refine ret X.f86.1 ?_;refine⟨kps,h.n,S.D.sz,lkp,?_,Nat.le_refl _⟩;rw [er];refine Mj ?_ (AllB.rep (by omega));rw [←E6];exact lkp
 |some p=>
  obtain⟨q1,q2,q3⟩:=hp p hAs;obtain⟨g1,g2,g3,g4⟩:=hrg s p hAs;obtain⟨pn,rfl⟩:=Int.eq_ofNat_of_zero_le g3;have er:S.rd s=((S.D.bl (pn / S.D.P)).pg (pn % S.D.P)).b.take S.D.sz:=by unfold Ap.rd;rw [hAs];rfl
  rw [Int.toNat_natCast]at q1 q2 q3;refine B9 L X.f86 fun Q x cs G Gp=>?_;refine cal ?_ (c:=Fj L X (r.mp.k0 (by exact kps)));rintro _ rfl;refine cal ?_ (c:=Ay L X);rintro _ rfl;refine cal ?_ (c:=Ay L X);rintro _ rfl;refine cal ?_ (c:=Vq L X (r.mp.k0 (by exact kps)) hAs);rintro _ rfl;refine J2 L (c:=df (p:=pn) L X (r.k0 (κ':=κ) (by exact kps) fun _ _=>rfl) (by omega) q1 q2 (fun _=>q3)) (g:=?_) (gp:=?_);·rintro _ h2 ⟨-,b,rfl,w2,w3,w4⟩;simp only [Al]at w3;have nb2:b≠bc:=(by omega);refine ret X.f86.1 ?_;refine⟨kps,b,_,lkp,?_,w3⟩;rw [er];exact lkb
  ·rintro _ h2 ⟨-,e,-⟩;rw [hoff]at e;cases e
theorem Abj (r:ApR κ h I S)(ka:Bk h ab [.ptr I.s 0])(hs:0≤s∧s<S.S)(hdn:S.down=false)(hoff:S.D.off=false) (hpg: ∀p:Int,S.A s=some p→p.toNat / S.D.P<S.D.nb∧p.toNat % S.D.P<(S.D.bl (p.toNat / S.D.P)).nx∧(((S.D.bl (p.toNat / S.D.P)).pg (p.toNat % S.D.P)).st=2∨((S.D.bl (p.toNat / S.D.P)).pg (p.toNat % S.D.P)).st=3)): Ct P0 E F K 27 [.ptr ab 0,AI s] h (fun v h'=> ∃κ' b c,v= .tup [.slc b 0 S.D.sz c,Zi]∧BS h' b 0 (S.rd s)∧κ' b=0∧h.n≤b∧ApR κ' h' I S∧AChg κ h κ' h'):=by
 have lk:=ka.lt;refine Af L X.f27 fun Q x cs G=>?_;refine wk ?_;have k1:K0 h (hp (h.n+1+1) h.t [(h.n+1,some (cl [.nils])),(h.n,some (cl [AI s]))]):=kps;have hc1: ∀b,b<h.n→upd (ext κ h.n) (h.n+1) 200 b=κ b:=fun b hb=>(upd_ne _ _ (by omega)).trans (Aj hb);have r1:ApR (upd (ext κ h.n) (h.n+1) 200) (hp (h.n+1+1) h.t [(h.n+1,some (cl [.nils])),(h.n,some (cl [AI s]))]) I S:=r.k0 k1 hc1;have a1:AChg κ h (upd (ext κ h.n) (h.n+1) 200) (hp (h.n+1+1) h.t [(h.n+1,some (cl [.nils])),(h.n,some (cl [AI s]))]):=AChg.k0 k1 hc1;have kc1:Bk (hp (h.n+1+1) h.t [(h.n+1,some (cl [.nils])),(h.n,some (cl [AI s]))]) h.n [AI s]:=lkp;have kb1:Bk (hp (h.n+1+1) h.t [(h.n+1,some (cl [.nils])),(h.n,some (cl [AI s]))]) (h.n+1) [.nils]:=lkp;have ka1:=Ag k1 ka;have hn1:(hp (h.n+1+1) h.t [(h.n+1,some (cl [.nils])),(h.n,some (cl [AI s]))]).n=h.n+2:=rfl
 have cl1: ∀κ2 h2,K0 (hp (h.n+1+1) h.t [(h.n+1,some (cl [.nils])),(h.n,some (cl [AI s]))]) h2→(hp (h.n+1+1) h.t [(h.n+1,some (cl [.nils])),(h.n,some (cl [AI s]))]).n<h2.n→(∀b,b<(hp (h.n+1+1) h.t [(h.n+1,some (cl [.nils])),(h.n,some (cl [AI s]))]).n→κ2 b=upd (ext κ h.n) (h.n+1) 200 b)→ApR κ2 h2 I S→CtX P0 E F K 86 (.ptr I.s 0:: [.ptr h.n 0,.ptr (h.n+1) 0]) h2
   (fun v h'=> ∃κ' S',ApR κ' h' I S'∧AChX (fun j=>j=h.n+1) κ2 h2 κ' h'∧(S'=S∧ ∃b c,Bk h' (h.n+1) [.slc b 0 S.D.sz c]∧BS h' b 0 (S.rd s)∧h.n+2<b∧κ' b=0))
   (fun v h'=> ∃κ' S' e,v= .ifc 34 (AI e)∧ApR κ' h' I S'∧AChX (fun j=>j=h.n+1) κ2 h2 κ' h'∧False):=by
  intro κ2 h2 k2 n2 c2 r2
  rw [hn1]at n2 c2
  have hk0:κ2 h.n=0:=(c2 _ (by omega)).trans ((upd_ne _ _ (by omega)).trans (B0 (Nat.le_refl _)))
  have hk1:κ2 (h.n+1)=200:=(c2 _ (by omega)).trans (upd_eq _ _ _)
  refine(wm L X r2 (Ag k2 kc1) (Ag k2 kb1) hs ⟨hk0,.inr (by omega),by omega⟩ hdn hoff hpg).mono ?_ ?_
  ·rintro v h' ⟨q1,b,c,q2,q3,q4⟩
   refine⟨ext κ2 h2.n,S,r2.own q1 (fun b _ e=>by subst e;omega) fun b hb=>Aj hb,⟨q1.mono fun b e=> .inr e,fun b hb=>Aj hb⟩,rfl,b,c,q2,q3,by omega,B0 q4⟩
  ·rintro v h' q;exact q.elim
 refine cal ?_ (c:=He L X r1 ka1 (fun b e=>by subst e;exact Nat.lt_succ_self _) cl1);rintro v h2 ⟨κ',S',h1,r',a',k',hv⟩;rw [hn1]at k';rcases hv with⟨rfl,u,rfl,b,c,q1,q2,q3,q4⟩|⟨e,rfl,q⟩
 ·have a2:=a'.own a1 fun b e=>by subst e;omega
  have q1':Bk h2 (h.n+1) [.slc b 0 S'.D.sz c]:=Aq k' (by omega) q1;have q2':BS h2 b 0 (S'.rd s):=U7 k' (by omega) q2;have lq:=q1'.lt;have hk1:κ' (h.n+1)=200:=(a'.col _ (by rw [hn1];omega)).trans (upd_eq _ _ _);refine ret X.f27.1 ?_;refine⟨κ',b,c,rfl,lkb,q4,by omega,r'.out (B:=fun j=>j=h.n+1) ?_ (fun b _ e=>by subst e;omega),AChg.own (B:=fun j=>j=h.n+1) a2 ?_ (fun b e=>by subst e;omega) fun _ _=>rfl⟩;·exact kps
  ·exact kps
 ·exact q.elim
theorem wo (r:ApR κ h I S)(ka:Bk h ab [.ptr I.s 0])(hs:0≤s∧s<S.S)(hd:S.down=true): Ct P0 E F K 27 [.ptr ab 0,AI s] h (fun v h'=> ∃κ',v= .tup [.nils,AN 50]∧ApR κ' h' I S∧AChg κ h κ' h'):=by
 have lk:=ka.lt;refine Af L X.f27 fun Q x cs G=>?_;refine wk ?_;have k1:K0 h (hp (h.n+1+1) h.t [(h.n+1,some (cl [.nils])),(h.n,some (cl [AI s]))]):=kps;have hc1: ∀b,b<h.n→upd (ext κ h.n) (h.n+1) 200 b=κ b:=fun b hb=>(upd_ne _ _ (by omega)).trans (Aj hb);have r1:ApR (upd (ext κ h.n) (h.n+1) 200) (hp (h.n+1+1) h.t [(h.n+1,some (cl [.nils])),(h.n,some (cl [AI s]))]) I S:=r.k0 k1 hc1;have a1:AChg κ h (upd (ext κ h.n) (h.n+1) 200) (hp (h.n+1+1) h.t [(h.n+1,some (cl [.nils])),(h.n,some (cl [AI s]))]):=AChg.k0 k1 hc1;have kc1:Bk (hp (h.n+1+1) h.t [(h.n+1,some (cl [.nils])),(h.n,some (cl [AI s]))]) h.n [AI s]:=lkp;have kb1:Bk (hp (h.n+1+1) h.t [(h.n+1,some (cl [.nils])),(h.n,some (cl [AI s]))]) (h.n+1) [.nils]:=lkp;have ka1:=Ag k1 ka;have hn1:(hp (h.n+1+1) h.t [(h.n+1,some (cl [.nils])),(h.n,some (cl [AI s]))]).n=h.n+2:=rfl
 have cl1: ∀κ2 h2,K0 (hp (h.n+1+1) h.t [(h.n+1,some (cl [.nils])),(h.n,some (cl [AI s]))]) h2→(hp (h.n+1+1) h.t [(h.n+1,some (cl [.nils])),(h.n,some (cl [AI s]))]).n<h2.n→(∀b,b<(hp (h.n+1+1) h.t [(h.n+1,some (cl [.nils])),(h.n,some (cl [AI s]))]).n→κ2 b=upd (ext κ h.n) (h.n+1) 200 b)→ApR κ2 h2 I S→CtX P0 E F K 86 (.ptr I.s 0:: [.ptr h.n 0,.ptr (h.n+1) 0]) h2
   (fun v h'=> ∃κ' S',ApR κ' h' I S'∧AChX (fun _=>False) κ2 h2 κ' h'∧False)
   (fun v h'=> ∃κ' S' e,v= .ifc 34 (AI e)∧ApR κ' h' I S'∧AChX (fun _=>False) κ2 h2 κ' h'∧(S'=S∧e=((50:Nat):Int)∧Bk h' (h.n+1) [.nils])):=by
  intro κ2 h2 k2 n2 c2 r2
  refine(wl (bc:=h.n+1) L X r2 (Ag k2 kc1) hs hd).X.mono (fun v h' q=>q) ?_
  rintro v h' ⟨rfl,k3⟩
  exact⟨ext κ2 h2.n,S,_,rfl,r2.k0 k3 fun b hb=>Aj hb,(AChg.k0 k3 fun b hb=>Aj hb).x,rfl,rfl,Ag k3 (Ag k2 kb1)⟩
 refine cal ?_ (c:=He L X r1 ka1 (fun b e=>e.elim) cl1);rintro v h2 ⟨κ',S',h1,r',a',k',hv⟩;rw [hn1]at k';rcases hv with⟨rfl,u,q⟩|⟨e,rfl,rfl,rfl,q1⟩;·exact q.elim
 ·have a2:=a'.own a1 fun b e=>e.elim;have q1':Bk h2 (h.n+1) [.nils]:=Aq k' (by omega) q1;have lq:=q1'.lt;have hk1:κ' (h.n+1)=200:=(a'.col _ (by rw [hn1];omega)).trans (upd_eq _ _ _);refine ret X.f27.1 ?_;refine⟨κ',rfl,r'.out (B:=fun j=>j=h.n+1) ?_ (fun b _ e=>by subst e;omega),AChg.own (B:=fun j=>j=h.n+1) a2 ?_ (fun b e=>by subst e;omega) fun _ _=>rfl⟩;·exact kps
  ·exact kps
end
variable {f:AFn}{pan:AV→H→Prop}{va vb':AV}
def CtY (P:Program)(E:Env)(F:T CFn)(K:T (List AV×AV))(f:AFn)(args:List AV)(h:H)(post pan:AV→H→Prop):Prop:=
 ∀(Q:Nat→AV→Prop) (x:AFr) (cs:List AFr),(∀v h',post v h'→GO P E Q (finish v cs h' x))→(∀v h',pan v h'→Good P E Q ⟨Ln x [(v,false)],cs,h'⟩)→GO P E Q (B8 F K f args false x cs h)
section
variable {P:Program}{Q:Nat→AV→Prop}
variable {fn:Nat}{l:List (Nat×Option AV)}{k:List AItem}{ds:List ADef}{dfd:Bool}{ro:Option Nat}{cs:List AFr}{gd:Option (Nat×Bool)}{x:O}{r:List CI}
variable {n:Nat}
variable (L:Lg P E F K)
theorem CtX.Y {f:Nat}(c:CtX P E F K f args h post pan):CtY P E F K (.func f) args h post pan:=c
include L
theorem Ag7 {d:Nat}{a:List O}{fst va cp r0:List AV}(hg:gdO gd l=some true)(e:evO l x=some (.fn f fst cp))(ha:Fo l a=some va)(h0:Eo va cp=some r0)(hr:Eo fst r0=some args)(hc:CtY P E F K f args h post pan) (g: ∀v h',post v h'→Good P E Q ⟨⟨fn,nt,tms ((d,some v)::l),.ops r::k,ds,.run,dfd,ro⟩,cs,hp h'.n h'.t []⟩) (gp: ∀v h',pan v h'→Good P E Q ⟨⟨fn,nt,tms l,.ops (⟨some d,gd,.callv x a⟩::r)::k,ds,.panicking [(v,false)],dfd,ro⟩,cs,h'⟩): Good P E Q ⟨⟨fn,nt,tms l,.ops (⟨some d,gd,.callv x a⟩::r)::k,ds,.run,dfd,ro⟩,cs,h⟩:= Tl L (Aw hg) (P2 e ha h0 hr) (hc Q _ cs (fun v h' p=>N0 L cvb (g v h' p)) fun v h' p=>gp v h' p)
theorem wp {fst cp r0:List AV}{ps:List Nat}{a bd:CC}(e:evO l x=some (.fn f fst cp))(h0:Eo [.fn (.yield (n+1)) [] []] cp=some r0)(hr:Eo fst r0=some args) (hc:CtY P E F K f args (hp (n+2) t ((n+1,some (.loop ⟨.ready,none,fn,nt,tms l,ps,a,bd,n⟩))::(n,some (.dfr (some [])))::lh)) post pan) (g: ∀v h',post v h'→Good P E Q ⟨⟨fn,nt,tms l,.endRF (n+1)::k,.mark n::ds,.run,dfd,none⟩,cs,h'⟩) (gp: ∀v h',pan v h'→Good P E Q ⟨⟨fn,nt,tms l,.inRF (n+1)::k,.mark n::ds,.panicking [(v,false)],dfd,none⟩,cs,h'⟩): Good P E Q ⟨⟨fn,nt,tms l,.code (.rangeFunc x ps a bd)::k,ds,.run,dfd,none⟩,cs,hp n t lh⟩:=by
 refine A7 L ?_;have e1:evL l x= .fn f fst cp:=Ab e;have e2:List.append fst (.fn (.yield (Nat.succ n)) [] []::cp)=args:=by have q0:=F5 h0;have q1:=F5 hr;rw [←q0]at q1;exact q1
 simp only [Ev.step,Bu,Cg,enterLoop,Ah,e1,e2];exact hc Q _ cs (fun v h' p=>g v h' p) fun v h' p=>gp v h' p
theorem mn {ps:List Nat}{a bd:CC}{l0 l1:List (Nat×Option AV)}{d:Nat}{st:LS}{pd:Option CC}(hl:H.get h lp=some (.loop ⟨st,pd,fn,nt,tms l0,ps,a,bd,d⟩))(hs:Cu ps args (tms l0)=some (tms l1)) (body: ∀(Q:Nat→AV→Prop) (z:AFr) (cs:List AFr),(∀v h',post v h'→GO P E Q (finish v cs h' z))→(∀v h',pan v h'→Good P E Q ⟨Ln z [(v,false)],cs,h'⟩)→Good P E Q ⟨⟨fn,nt,tms l1,[.code a,.beginRound,.code bd],[],.run,false,some lp⟩,z::cs,hp h.n h.t []⟩):CtY P E F K (.yield lp) args h post pan:=by intro Q z cs hG hP;simp only [B8,hl,hs];exact body Q z cs hG hP
end
section
variable (L:Lg P0 E F K)(X:Fx F K)
include L X
theorem ZuQ {a:Nat}{D:List Int}{g:Int→Int}(hlen:D.length≤1000)(I:Nat→H→Prop) (hI: ∀i hh,I i hh→Bk hh a [va]∧Bk hh b [vb']∧RowN hh lo va D∧RowN hh lo vb' (D.map g)) (hK: ∀i hh h',I i hh→K0 hh h'→I i h') (hY: ∀i s hh,D[i]?=some s→I i hh→CtY P0 E F K (.yield lp) [AI s,AI (g s)] hh (fun u h'=>u= .bool true∧I (i+1) h') pan) (h0:I 0 h): CtX P0 E F K 209 [.fn (.yield lp) [] [],.ptr a 0,.ptr b 0] h (fun v h'=>I D.length h') pan:=by
 obtain⟨k1,k2,k3,k4⟩:=hI _ _ h0;rcases k3.ex with⟨rfl,rfl⟩|⟨hp1,da,rfl,k5,k6⟩;·refine B9 L X.f209 fun Q x cs G Gp=>?_;refine wk ?_;refine Bt L ?_;refine ret X.f209.1 ?_;exact hK _ _ _ h0 kps
 rcases k4.ex with⟨e0,rfl⟩|⟨hp2,db,rfl,k7,k8⟩;·rw [List.map_eq_nil_iff]at e0;rw [e0]at hp1;exact absurd hp1 (Nat.lt_irrefl 0)
 refine B9 L X.f209 fun Q x cs G Gp=>?_;refine wk ?_;refine Bs L (α:= Unit) (T:=fun i _=> [(8,some (AN i)),(7,some (AN D.length)),(6,some (.slc da 0 D.length (Aa+1))),(2,some (.ptr b 0)),(0,some (.fn (.yield lp) [] []))]) (n:=D.length) (R:=fun i _ hh=>I i hh) (i0:=0) () tsb (hK _ _ _ h0 kps) (Nat.zero_le _) ?_ ?_
 ·rintro i _ h2 hi w ih;have hx:D[i]?=some D[i]:=List.getElem?_eq_getElem hi;have hxa:(D.map AI)[i]?=some (AI D[i]):=by rw [List.getElem?_map,hx];rfl
  have hxb:((D.map g).map AI)[i]?=some (AI (g D[i])):=by rw [List.getElem?_map,List.getElem?_map,hx];rfl
  have hl2:i<(D.map g).length:=by rw [List.length_map];exact hi
  obtain⟨j1,j2,j3,j4⟩:=hI _ _ w;have j5:Bk h2 da (D.map AI):=by
   rcases j3.ex with⟨_,e⟩|⟨_,b',e,e2,_⟩;·cases e
   ·cases e;exact e2
  have j6:Bk h2 db ((D.map g).map AI):=by
   rcases j4.ex with⟨_,e⟩|⟨_,b',e,e2,_⟩;·cases e
   ·cases e;exact e2
  generalize D[i]=s at*;refine wk ?_;refine Ag7 L rfl rfl rfl rfl rfl (hY i _ _ hx (hK i _ _ w (by exact kps))) ?_ ?_;·rintro _ h3 ⟨rfl,w3⟩;refine wk ?_;refine ih () _ _ w3 ?_;exact tsb
  ·intro v h3 w3;refine A2 L X.f209.1 ?_;exact Gp _ _ w3
 ·rintro _ h2 w;refine ret X.f209.1 ?_;exact w
end
theorem An5 (h:p:=by
 rintro _ h7 ⟨o',S',κ',rfl,ho,hst,r',a'⟩
 refine A2 L X.f135.1 ?_
 exact Gp2 _ _ ⟨o',S',κ',rfl,ho,badc o' S' κ' _ h7 (by exact kps) ho hst r' a'⟩):p:=h
section
variable (L:Lg P0 E F K)(X:Fx F K)
include L X
inductive MvS (g:Int→Int):Ap→List Int→List Ent→Ap→Prop where
 |nil {S:Ap}:MvS g S [] [] S
 |snoc {S S1 S2:Ap} {ps:List Int} {es:List Ent} {p:Int} {q:Nat} (r:MvS g S ps es S1) (h:StP (g p) (((S1.D.bl (p.toNat / S1.D.P)).pg (p.toNat % S1.D.P)).b.take S1.D.sz) S1 S2 (.done q)):MvS g S (ps++ [p]) (es++ [(g p,(q:Int))]) S2
noncomputable def Ap.mv (S:Ap)(b:Nat):List Int:=Eb S.A S.D.P b S.D.P
inductive MovO (b:Nat)(S:Ap):Ap→WO→Prop where
 |bad {S1 S':Ap} {i:Nat} {p:Int} {es:List Ent} {o:WO} (m:MvS (invA S.A) S ((S.mv b).take i) es S1) (hp:(S.mv b)[i]?=some p) (h:StP (invA S.A p) (((S1.D.bl (p.toNat / S1.D.P)).pg (p.toNat % S1.D.P)).b.take S1.D.sz) S1 S' o) (ho:o= .full∨o= .pow):MovO b S S' o
 |badc {S1 S':Ap} {es:List Ent} {o:WO} (m:MvS (invA S.A) S (S.mv b) es S1) (c:CmP es S1 S' o) (ho:o= .full∨o= .pow):MovO b S S' o
 |ok {S1 S2:Ap} {es:List Ent} (m:MvS (invA S.A) S (S.mv b) es S1) (c:CmP es S1 S2 (.done 0)):MovO b S (S2.ers b).1 (S2.ers b).2
omit L X in
theorem CmP.fr {es:List Ent}(h:CmP es S S' o)(iw:IW S):(S'.D.nb=S.D.nb∧S'.D.P=S.D.P∧S'.D.sz=S.D.sz∧S'.D.en=S.D.en∧S'.S=S.S∧S'.pe=S.pe∧S'.wr=S.wr∧S'.dat=S.dat∧S'.D.flt=S.D.flt)∧IW S'∧S'.D.n≤S.D.n+(2*S.D.nb+2)*recN S es∧S.next≤S'.next∧S'.next≤S.next+recN S es:=by
 cases h with
 |nil h=>exact⟨⟨rfl,rfl,rfl,rfl,rfl,rfl,rfl,rfl,rfl⟩,iw,Nat.le_add_right _ _,Nat.le_refl _,Nat.le_add_right _ _⟩
 |ok h _=>obtain⟨a,b,c,d⟩:=h.fr iw;exact⟨⟨a.nb,a.P,a.sz,a.en,a.secs,a.pe,a.wr,a.dat,a.flt⟩,⟨fun k=>⟨(b.wi k).sel,(b.wi k).lo⟩,b.ne⟩,c,by simp only;omega,by simp only;omega⟩
 |bad h _=>obtain⟨a,b,c,d⟩:=h.fr iw;exact⟨⟨a.nb,a.P,a.sz,a.en,a.secs,a.pe,a.wr,a.dat,a.flt⟩,b,c,by omega,by omega⟩
def Iu (κ: Nat→Nat)(n:Nat):Nat→Nat:=fun b=>if b<n then κ b else 200
omit L X in
theorem Ca {n:Nat}(h:b<n):Iu κ n b=κ b:=if_pos h
omit L X in
theorem Cq {n:Nat}(h:n≤b):Iu κ n b=200:=if_neg (by omega)
noncomputable def Nc (s cb bx a b mk:Nat)(st:LS):Blk:= .loop ⟨st,none,135,cf135.ntmps,tms [(46,some (.fn (.func 209) [] [.ptr a 0,.ptr b 0])),(3,some (.ptr (bx+1) 0)),(2,some (.ptr bx 0)),(1,some (.ptr cb 0)),(0,some (.ptr s 0))],[47,48],Aga,Aar,mk⟩
structure RMv (κ: Nat→Nat)(h:H)(I:Ai)(S:Ap)(blk cb a b mk:Nat)(va vb':AV)(i:Nat)(hh:H):Prop where
 ka:Bk hh a [va]
 kb:Bk hh b [vb']
 ra:RowN hh (h.n+2) va (S.mv blk)
 rb:RowN hh (h.n+2) vb' ((S.mv blk).map (invA S.A))
 dk:Gk hh mk (.dfr (some []))
 lp:Gk hh (mk+1) (Nc I.s cb h.n a b mk .ready)
 kx:Bk hh h.n [.ptr I.s 0]
 kc:Bk hh cb [AN blk]
 ex: ∃κi Si es ev,Bk hh (h.n+1) [ev]∧ApR κi hh I Si∧AChg κ h κi hh∧(∀x,h.n≤x→x<mk+2→κi x=200)∧IW Si∧MvS (invA S.A) S ((S.mv blk).take i) es Si∧FrS S Si∧(Si.next≤S.next+i∧S.next≤Si.next)∧Si.D.n≤S.D.n+30*i∧EL hh (mk+2) ev es∧(∀x n c,ev= .slc x 0 n c→κi x=200)∧es.length=i
omit L X in
theorem RMv.k0 {hh:H}{blk a mk:Nat}(q:RMv κ h I S blk cb a b mk va vb' i hh)(k:K0 hh h'):RMv κ h I S blk cb a b mk va vb' i h':=by obtain⟨q1,q2,q3,q4,q5,q6,q7,q8,κi,Si,es,ev,e1,e2,e3,e4,e5,e6,e7,e8,e9,e10,e11,e12⟩:=q;have l6:=q6.lt;exact⟨Ag k q1,Ag k q2,q3.k0 k,q4.k0 k,Fg k q5,Fg k q6,Ag k q7,Ag k q8,ext κi hh.n,Si,es,ev,Ag k e1,e2.k0 k fun b hb=>Aj hb,e3.trans (AChg.k0 k fun b hb=>Aj hb),fun x h1 h2=>(Aj (by omega)).trans (e4 x h1 h2),e5,e6,e7,e8,e9,e10.k0 k,fun x n c e=>by have h1:=e11 x n c e;subst e;exact(Aj e10.blt.1).trans h1,e12⟩
structure MvOk (S:Ap)(blk:Nat)(i:Nat)(p:Int)(S1:Ap):Prop where
 pg: ∃pn:Nat,p=(pn:Int)∧pn<100000∧pn / S1.D.P<S1.D.nb∧pn % S1.D.P<(S1.D.bl (pn / S1.D.P)).nx∧(((S1.D.bl (pn / S1.D.P)).pg (pn % S1.D.P)).st=2∨((S1.D.bl (pn / S1.D.P)).pg (pn % S1.D.P)).st=3)∧(((S1.D.bl (pn / S1.D.P)).pg (pn % S1.D.P)).b.take S1.D.sz).length=S1.D.sz
 sec:0≤invA S.A p∧invA S.A p≤4294967294
 off:S1.D.off=false
theorem wq (T:Tb P0 E F K)(r:ApR κ h I S)(iw:IW S)(kc:Bk h cb [AN b])(hcc:κ cb=0∨200≤κ cb)(hb:b<S.D.nb)(hdn:S.down=false)(hps:S.ps b=3)(hjr:S.jr (b:Int)=false) (hf:S.last<S.next∧S.next<10000000) (hn:S.D.n+1000<100000) (hlen:(S.mv b).length≤6) (hL: ∀i es S1 p,MvS (invA S.A) S ((S.mv b).take i) es S1→(S.mv b)[i]?=some p→MvOk S b i p S1) (hA: ∀es S1,MvS (invA S.A) S (S.mv b) es S1→ ∀j x,es[j]?=some x→okE S.S (S.D.nb*S.D.P) (stA S.A es j) x) (hpe:S.pe b<100000) (hS:S.S<1000) (hE: ∀es S1 S2,MvS (invA S.A) S (S.mv b) es S1→CmP es S1 S2 (.done 0)→S2.ps b=3): CtX P0 E F K 135 [.ptr I.s 0,.ptr cb 0] h (fun v h'=> ∃S' κ',MovO b S S' (.done 0)∧ApR κ' h' I S'∧AChg κ h κ' h') (fun v h'=> ∃(o:WO) (S':Ap) (κ':Nat→Nat),v= .ifc 34 (AN (eOf o))∧(o= .full∨o= .pow)∧MovO b S S' o∧ApR κ' h' I S'∧AChg κ h κ' h'):=by
 have sk:=r.sk;have ls:=sk.lt;have lc:=kc.lt;have hcol:=r.col;obtain⟨cbl,po⟩:=r.po;obtain⟨M,ck,m1,m2,m3⟩:=r.mj.ex;have lm:=m1.lt;have hg:=m3 (b:Int);rw [hjr,if_neg (by simp)]at hg;unfold apC at sk;rw [hdn]at sk;refine B9 L X.f135 fun Q x cs G Gp=>?_;refine cal ?_ (c:=Ay L X);rintro _ rfl;refine cal ?_ (c:=Ay L X);rintro _ rfl;refine cal ?_ (c:=H4 L X (po.k0 (by exact kps)) hb);rintro _ rfl;rw [hps];refine wk ?_;(apply Ax rfl rfl;exact Db (KE.int .i64) rfl rfl lkq);rw [hg,Option.getD_none];refine cal ?_ (c:=Ay L X);rintro _ rfl;refine cal ?_ (c:=lz L X (r.mp.k0 (by exact kps)) hb);rintro _ h2 ⟨a,b',va,vb',rfl,w1,w2,w3,w4,w5,w6,w7⟩;refine wk ?_;have n5:=w5.n;simp only [Al]at n5 w3 w4 w6 w7;have la:=w1.lt;have lb':=w2.lt;refine Eh L (tm':=tms [(46,some (.fn (.func 209) [] [.ptr a 0,.ptr b' 0])),(3,some (.ptr (h.n+1) 0)),(2,some (.ptr h.n 0)),(1,some (.ptr cb 0)),(0,some (.ptr I.s 0))]) tsb ?_;refine wp L (post:=fun _ h'=>RMv κ h I S b cb a b' h2.n va vb' (S.mv b).length h') (pan:=fun v h'=> ∃(o:WO) (S':Ap) (κ':Nat→Nat),v= .ifc 34 (AN (eOf o))∧(o= .full∨o= .pow)∧MovO b S S' o∧ApR κ' h' I S'∧AChg κ h κ' h'∧Gk h' h2.n (.dfr (some []))∧κ' h2.n=200) rfl rfl rfl ?_ ?_ ?_
 ·refine(ZuQ L X (g:=invA S.A) (lo:=h.n+2) (by omega) (fun i hh=>RMv κ h I S b cb a b' h2.n va vb' i hh) (fun i hh r=>⟨r.ka,r.kb,r.ra,r.rb⟩) (fun i hh h' r k=>r.k0 k) (fun i s hh hx r=>?_) ?_).Y
  ·obtain⟨r1,r2,r3,r4,r5,r6,r7,r8,κi,Si,es,ev,r9,ri,ai,hci,iwi,mvi,fri,hnx,hni,el,hev,hel⟩:=r;have hle:=r6.e;unfold Nc at hle;have g1:=r1.lt;have g2:=r2.lt;have g5:=r5.lt;have g6:=r6.lt;have g7:=r7.lt;have g8:=r8.lt;have g9:=r9.lt;have hi:=(List.getElem?_eq_some_iff.1 hx).1;obtain⟨⟨pn,rfl,p1,p2,p3,p4,p5⟩,hsec,hoff⟩:=hL i es Si s mvi hx;have hmu:=Of Si false;have hnbi:=ri.dv.ok.g.nb;have hdata:((pn:Int)).toNat=pn:=Int.toNat_natCast pn;have e1:(S.mv b).take (i+1)=(S.mv b).take i++ [(pn:Int)]:=(by rw [List.take_add_one,hx];rfl);have hcbx:κi cb=κ cb:=ai.col cb lc;refine mn L (l1:= [(48,some (AI (invA S.A (pn:Int)))),(47,some (AN pn)),(46,some (.fn (.func 209) [] [.ptr a 0,.ptr b' 0])),(3,some (.ptr (h.n+1) 0)),(2,some (.ptr h.n 0)),(1,some (.ptr cb 0)),(0,some (.ptr I.s 0))]) hle rfl ?_;intro Q z2 cs G2 Gp2;refine wk ?_;refine Fh L (Gk.e lkg) ?_;have kb5:Kp (fun j=>j=h2.n+1) hh (hp hh.n hh.t [(h2.n+1,some (Nc I.s cb h.n a b' h2.n .busy))]):=kps;have hc6: ∀x,x<hh.n→ext κi hh.n x=κi x:=fun x hx=>Aj hx;have rA: ∀h6,Kp (fun j=>j=h2.n+1) hh h6→ApR (ext κi hh.n) h6 I Si:=fun h6 k6=>ri.own k6 (fun j hj e=>by subst e;rw [hci _ (by omega) (by omega)];omega) hc6
   have ldc: ∀h5,Kp (fun j=>j=h2.n+1) hh h5→CtX P0 E F K 90 [.ptr I.s 0,AN pn] h5
     (fun v h'=> ∃b1,v= .slc b1 0 Si.D.sz (Aa+1)∧BS h' b1 0 (((Si.D.bl (pn / Si.D.P)).pg (pn % Si.D.P)).b.take Si.D.sz)∧hh.n≤b1∧K0 h5 h') (fun v h'=>False):=fun h5 k5=>
    (df L X (rA h5 k5) p1 p2 p3 (fun _=>p4)).mono (fun v h' q=>let⟨_,b1,q2,q3,q4,q5⟩:=q;⟨b1,q2,q3,Nat.le_trans k5.n q4,q5⟩) fun v h' q=>by rw [hoff]at q;exact absurd q.2.1 (by simp)
   have stc: ∀h6 b1,Kp (fun j=>j=h2.n+1) hh h6→hh.n≤b1→BS h6 b1 0 (((Si.D.bl (pn / Si.D.P)).pg (pn % Si.D.P)).b.take Si.D.sz)→CtX P0 E F K 94 [.ptr I.s 0,AI (invA S.A (pn:Int)),.slc b1 0 Si.D.sz (Aa+1)] h6
     (fun v h'=> ∃p S' κ',v= .agg [AI (invA S.A (pn:Int)),AN p]∧StP (invA S.A (pn:Int)) (((Si.D.bl (pn / Si.D.P)).pg (pn % Si.D.P)).b.take Si.D.sz) Si S' (.done p)∧ApR κ' h' I S'∧AChg (ext κi hh.n) h6 κ' h')
     (fun v h'=> ∃(o:WO) (S':Ap) (κ':Nat→Nat),v= .ifc 34 (AN (eOf o))∧(o= .full∨o= .pow)∧StP (invA S.A (pn:Int)) (((Si.D.bl (pn / Si.D.P)).pg (pn % Si.D.P)).b.take Si.D.sz) Si S' o∧ApR κ' h' I S'∧AChg (ext κi hh.n) h6 κ' h'):=fun h6 b1 k6 hb1 hbs=>
    Xm L X T (rA h6 k6) (iwi.wi false) hsec ⟨by omega,by omega⟩ hbs (B0 hb1) p5 (by omega)
   have n6: ∀x,h.n≤x→x<h2.n+2→ ¬(1≤ext κi hh.n x∧ext κi hh.n x<200):=fun x q1 q2=>by rw [hc6 _ (by omega),hci x q1 q2];omega
   have nc6: ¬(1≤ext κi hh.n cb∧ext κi hh.n cb<200):=(by rw [hc6 _ (by omega),hcbx];omega);have hle5:Gk (hp hh.n hh.t [(h2.n+1,some (Nc I.s cb h.n a b' h2.n .busy))]) (h2.n+1) (Nc I.s cb h.n a b' h2.n .busy):=Fy (by omega)
   have okc: ∀(p:Nat) (S':Ap) (κ':Nat→Nat) (h6 h7 h9:H) (w:AV) (N:Nat),Kp (fun j=>j=h2.n+1) hh h6→StP (invA S.A (pn:Int)) (((Si.D.bl (pn / Si.D.P)).pg (pn % Si.D.P)).b.take Si.D.sz) Si S' (.done p)→ApR κ' h7 I S'→AChg (ext κi hh.n) h6 κ' h7→Kp (fun j=>j=h2.n+1∨j=h.n+1∨ ∃n c,ev= .slc j 0 n c) h7 h9→EL h9 (h2.n+2) w (es++ [(invA S.A (pn:Int),(p:Int))])→h7.n≤N→w= .slc N 0 (es.length+1) (Aa+2)→
     Gk h9 (h2.n+1) (Nc I.s cb h.n a b' h2.n .ready)→Bk h9 (h.n+1) [w]→RMv κ h I S b cb a b' h2.n va vb' (i+1) h9:=by
    intro p S' κ' h6 h7 h9 w N k6 hst r' a' k9 hel9 hN hw hlp hec
    obtain⟨f1,f2,f3,f4⟩:=hst.fr iwi
    have nn1:=a'.k.n
    have nn0:=k6.n
    have hnn:=ai.k.n
    have hev2: ∀j n c,ev= .slc j 0 n c→j<hh.n∧h2.n+2≤j∧κi j=200:=by
     intro j n c e
     have h200:=hev j n c e
     subst e
     exact⟨el.blt.1,el.blt.2,h200⟩
    have kk: ∀x,x<hh.n→ ¬(1≤ext κi hh.n x∧ext κi hh.n x<200)→x≠h2.n+1→x≠h.n+1→x<h2.n+2→(¬(fun j=>j=h2.n+1) x)∧(¬(1≤ext κi hh.n x∧ext κi hh.n x<200))∧ ¬(x=h2.n+1∨x=h.n+1∨ ∃n c,ev= .slc x 0 n c):=by
     intro x q1 q2 q3 q4 q5
     refine⟨q3,q2,?_⟩
     rintro(e|e|⟨n,c,e⟩)
     ·exact q3 e
     ·exact q4 e
     ·have:=hev2 x n c e;omega
    have mvB: ∀x c,Bk hh x c→h.n≤x→x≠h2.n+1→x≠h.n+1→x<h2.n+2→Bk h9 x c:=fun x c q q1 q2 q3 q4=>
     have t:=kk x q.lt (n6 x q1 q4) q2 q3 q4
     Aq k9 t.2.2 (Aq a'.k t.2.1 (Aq k6 t.1 q))
    have mvR: ∀v D,RowN hh (h.n+2) v D→(∀x n c,v= .slc x 0 n c→x<h2.n)→RowN h9 (h.n+2) v D:=by
     intro v D q hb
     rcases q.ex with q1|⟨q1,x,q2,q3,q4⟩
     ·exact⟨.inl q1⟩
     ·have:=hb _ _ _ q2
      exact⟨.inr ⟨q1,x,q2,mvB x _ q3 (by omega) (by omega) (by omega) (by omega),q4⟩⟩
    have tk:=kk h2.n (by omega) (n6 _ (by omega) (by omega)) (by omega) (by omega) (by omega)
    have tc:=kk cb (by omega) nc6 (by omega) (by omega) (by omega)
    refine⟨mvB a _ r1 (by omega) (by omega) (by omega) (by omega),mvB b' _ r2 (by omega) (by omega) (by omega) (by omega),mvR _ _ r3 w3.bd,mvR _ _ r4 w4.bd,Lk k9 tk.2.2 (Lk a'.k tk.2.1 (Lk k6 tk.1 r5)),hlp,mvB h.n _ r7 (by omega) (by omega) (by omega) (by omega),Aq k9 tc.2.2 (Aq a'.k tc.2.1 (Aq k6 tc.1 r8)),upd κ' N 200,S',_,w,hec,r'.own k9 (fun j hj e=>?_) (fun j hj=>upd_ne _ _ (by omega)),?_,fun x q1 q2=>?_,f2,?_,fri.trans f1,⟨by omega,by omega⟩,by have:=fri.nb;omega,hel9,fun x n c e=>?_,by simp [hel]⟩
    ·have hj':j<hh.n∧ext κi hh.n j=200:=by
      rcases e with rfl|rfl|⟨n,c,e⟩
      ·exact⟨by omega,by rw [hc6 _ (by omega),hci _ (by omega) (by omega)]⟩
      ·exact⟨by omega,by rw [hc6 _ (by omega),hci _ (by omega) (by omega)]⟩
      ·have:=hev2 j n c e
       exact⟨this.1,by rw [hc6 _ this.1];exact this.2.2⟩
     rw [a'.col j (by omega),hj'.2];omega
    ·refine AChg.own (AChg.trans (AChg.own ai k6 (fun j e=>by subst e;omega) hc6) a') k9 (fun j e=>?_) fun j hj=>upd_ne _ _ (by omega)
     rcases e with rfl|rfl|⟨n,c,e⟩
     ·omega
     ·omega
     ·have:=hev2 j n c e;omega
    ·rw [upd_ne _ _ (by omega),a'.col x (by omega),hc6 _ (by omega)];exact hci x q1 q2
    ·rw [e1];exact .snoc mvi (by rw [hdata];exact hst)
    ·rw [hw]at e;cases e;exact upd_eq _ _ _
   have badc: ∀(o':WO) (S':Ap) (κ':Nat→Nat) (h6 h7:H),Kp (fun j=>j=h2.n+1) hh h6→(o'= .full∨o'= .pow)→StP (invA S.A (pn:Int)) (((Si.D.bl (pn / Si.D.P)).pg (pn % Si.D.P)).b.take Si.D.sz) Si S' o'→ApR κ' h7 I S'→AChg (ext κi hh.n) h6 κ' h7→
     MovO b S S' o'∧ApR κ' h7 I S'∧AChg κ h κ' h7∧Gk h7 h2.n (.dfr (some []))∧κ' h2.n=200:=by
    intro o' S' κ' h6 h7 k6 ho hst r' a'
    have nn0:=k6.n
    have hnn:=ai.k.n
    refine⟨.bad mvi hx (by rw [hdata];exact hst) ho,r',(AChg.own ai k6 (fun j e=>by subst e;omega) hc6).trans a',Lk a'.k (n6 _ (by omega) (by omega)) (Lk k6 (by omega) r5),?_⟩
    rw [a'.col _ (by omega),hc6 _ (by omega)];exact hci _ (by omega) (by omega)
   rcases el.len with⟨e0,rfl⟩|⟨hpos,eb,rfl,hb1,hblo1⟩
   ·subst e0;refine J2 L (c:=ldc _ (by exact kps)) (g:=?_) (gp:=?_)
    ·rintro _ h6 ⟨b1,rfl,q3,q4,q5⟩;have k6:Kp (fun j=>j=h2.n+1) hh h6:=kps;have n6':=q5.n;simp only [Al]at n6';have lb1:=q3.lt_n;refine J2 L (c:=stc _ b1 (by exact kps) q4 (by exact lkb)) (g:=?_) (gp:=?_)
     ·rintro _ h7 ⟨p,S',κ',rfl,hst,r',a'⟩;have n7:=a'.k.n;simp only [Al]at n7;have ke7:Bk h7 (h.n+1) [.nils]:=Aq a'.k (n6 _ (by omega) (by omega)) (by exact lkp);have lp7:Gk h7 (h2.n+1) (Nc I.s cb h.n a b' h2.n .busy):=Lk a'.k (n6 _ (by omega) (by omega)) (by exact lkg);unfold Nc at lp7;have le7:=ke7.lt;have ll7:=lp7.lt;refine wk ?_;(apply Hh L rfl rfl;exact Dr (new:=Az (invA S.A (pn:Int),(p:Int))) rfl rfl (SlR.of (c:=Az (invA S.A (pn:Int),(p:Int))) lkp (Nat.le_refl _) rfl) (by omega) (by omega));refine wk ?_;refine Ej L (Gk.e lkg) G2 ⟨rfl,okc p S' κ' _ h7 _ _ (h7.n+1) ?_ hst r' a' (Kp.mono (S:=fun j=>j=h2.n+1∨j=h.n+1) (fun j e=>by rcases e with e|e;exact .inl e;exact .inr (.inl e)) ?_) (EL.app (l:= []) ?_ (by omega) rfl) (by omega) rfl ?_ ?_⟩;·exact kps
      ·exact kps
      ·exact lkp
      ·unfold Nc;exact Fy (by omega)
      ·exact lkp
     ·exact An5
    ·intro v h6 q;exact q.elim
   ·have lbe:=hb1.lt;have h200:=hev eb _ _ rfl;refine J2 L (c:=ldc _ (by exact kps)) (g:=?_) (gp:=?_)
    ·rintro _ h6 ⟨b1,rfl,q3,q4,q5⟩;have k6:Kp (fun j=>j=h2.n+1) hh h6:=kps;have n6':=q5.n;simp only [Al]at n6';have lb1:=q3.lt_n;refine J2 L (c:=stc _ b1 (by exact kps) q4 (by exact lkb)) (g:=?_) (gp:=?_)
     ·rintro _ h7 ⟨p,S',κ',rfl,hst,r',a'⟩;have n7:=a'.k.n;simp only [Al]at n7;have ke7:Bk h7 (h.n+1) [.slc eb 0 es.length (Aa+2)]:=Aq a'.k (n6 _ (by omega) (by omega)) (by exact lkp);have lp7:Gk h7 (h2.n+1) (Nc I.s cb h.n a b' h2.n .busy):=Lk a'.k (n6 _ (by omega) (by omega)) (by exact lkg);unfold Nc at lp7;have le7:=ke7.lt;have ll7:=lp7.lt;have hb7:Bk h7 eb (es.flatMap Az):=Aq a'.k (by rw [hc6 _ (by omega)];omega) (by exact lkp);have lb7:=hb7.lt;refine wk ?_;(apply Hh L rfl rfl;exact Dq (old:=es.flatMap Az) (new:=Az (invA S.A (pn:Int),(p:Int))) rfl rfl (SlR.of (c:=es.flatMap Az) lkp (by rw [Ba];omega) (by rw [List.drop_zero,List.take_of_length_le (by rw [Ba];exact Nat.le_refl _)])) (SlR.of (c:=Az (invA S.A (pn:Int),(p:Int))) lkp (Nat.le_refl _) rfl) (by omega) (by omega) rfl);refine wk ?_;refine Ej L (Gk.e lkg) G2 ⟨rfl,okc p S' κ' _ h7 _ _ (h7.n+1) ?_ hst r' a' (Kp.mono (S:=fun j=>j=h2.n+1∨j=h.n+1∨j=eb) (fun j e=>by rcases e with e|e|e;exact .inl e;exact .inr (.inl e);exact .inr (.inr ⟨_,_,by rw [e]⟩)) ?_) (EL.app (l:=es) ?_ (by omega) rfl) (by omega) rfl ?_ ?_⟩;·exact kps
      ·exact kps
      ·exact lkp
      ·unfold Nc;exact Fy (by omega)
      ·exact lkp
     ·exact An5
    ·intro v h6 q;exact q.elim
  ·refine⟨lkp,lkp,w3.k0 ?_,w4.k0 ?_,lkg,(by unfold Nc;exact lkg),by exact lkp,by exact lkp,Iu κ h.n,S,[],.nils,by exact lkp,r.k0 ?_ fun x hx=>Ca hx,AChg.k0 ?_ fun x hx=>Ca hx,fun x q1 q2=>Cq q1,iw,.nil,FrS.refl _,⟨by omega,Nat.le_refl _⟩,by omega,EL.nil _ _,(by intro x n c e;cases e),rfl⟩;·exact kps
   ·exact kps
   ·exact kps
   ·exact kps
 ·rintro v h3 ⟨r1,r2,r3,r4,r5,r6,r7,r8,κi,Si,es,ev,r9,ri,ai,hci,iwi,mvi,fri,hnx,hni,el,hev,hel⟩;rw [List.take_length]at mvi;have hle:=r6.e;unfold Nc at hle;have g5:=r5.lt;have g6:=r6.lt;have g7:=r7.lt;have g8:=r8.lt;have g9:=r9.lt;have hlti:=r.lt;have hnn:=ai.k.n;have hnbi:=ri.dv.ok.g.nb;have hszi:=ri.dv.ok.g.sz;have hAe:=hA es Si mvi;have hok: ∀e∈es,e.Ok:=by exact An4
  have hrec:recN Si es≤es.length+1:=Kt (by omega);have hmul:(2*Si.D.nb+2)*recN Si es≤26*7:=Nat.mul_le_mul (by omega) (by omega);refine Io L (n:=h3.n) (t:=h3.t) (lh:= []) hle (by intro q;cases q) ?_;have rE: ∀h5,Kp (fun j=>j=h2.n+1) h3 h5→ApR (ext κi h3.n) h5 I Si:=fun h6 k6=>ri.own k6 (fun j hj e=>by subst e;rw [hci _ (by omega) (by omega)];omega) fun x hx=>Aj hx;have aE: ∀h5,Kp (fun j=>j=h2.n+1) h3 h5→AChg κ h (ext κi h3.n) h5:=fun h6 k6=>AChg.own ai k6 (fun j e=>by subst e;omega) fun x hx=>Aj hx;have cmc: ∀h5,Kp (fun j=>j=h2.n+1) h3 h5→EL h5 (h2.n+2) ev es→_:=fun h5 k5 el5=>T7 (lo:=h2.n+2) (ev:=ev) (es:=es) L X T (rE h5 k5) iwi el5 (by omega) (fun x n c e=> .inr (by have h200:=hev x n c e;subst e;rw [Aj el.blt.1];omega)) hok (by omega) (by rw [fri.secs,fri.nb,fri.P,fri.A];exact hAe) (by have:=fri.last;omega) (by omega);have kcb: ∀κ5 h5 h6 κ6,(∀x,x<h3.n→κ5 x=κi x)→AChg κ5 h5 κ6 h6→Kp (fun j=>j=h2.n+1) h3 h5→Bk h6 h.n [.ptr I.s 0]∧Bk h6 cb [AN b]∧Gk h6 h2.n (.dfr (some []))∧κ6 h2.n=200:=by
   intro κ5 h5 h6 κ6 hc a k;have hcb:κi cb=κ cb:=ai.col cb lc;refine⟨Aq a.k ?_ (Aq k (by omega) r7),Aq a.k ?_ (Aq k (by omega) r8),Lk a.k ?_ (Lk k (by omega) r5),?_⟩;·rw [hc _ (by omega),hci _ (by omega) (by omega)];omega
   ·rw [hc _ (by omega)];omega
   ·rw [hc _ (by omega),hci _ (by omega) (by omega)];omega
   ·have:=k.n;rw [a.col _ (by omega),hc _ (by omega),hci _ (by omega) (by omega)]
  have el3:=el;rcases(show ev= .nils∨ ∃b n c,ev= .slc b 0 n c by rcases el.len with⟨_,e⟩|⟨_,b,e,_⟩;exact .inl e;exact .inr ⟨b,_,_,e⟩)with rfl|⟨eb,en,ec,rfl⟩
  all_goals
   refine J2 L (c:=cmc _ (by exact kps) (el3.kS (S:=fun j=>j=h2.n+1) (by exact kps) (by intro j q1 q2;omega))) (g:=?_) (gp:=?_)
   ·rintro _ h5 ⟨S2,κ2,hc,r',a'⟩;obtain⟨⟨f1,f2,f3,f4,f5,f6,f7,f8,f9⟩,iw2,f10,f11,f12⟩:=hc.fr iwi;obtain⟨x1,x2,x3,x4⟩:=kcb _ _ _ _ (fun x hx=>Aj hx) a' (by exact kps);have a2:AChg κ h κ2 h5:=(aE _ (by exact kps)).trans a';have hps2:=hE es Si S2 mvi hc;have l1:=x1.lt;have l2:=x2.lt;have l3:=x3.lt;refine J2 L (c:=T5 (b:=b) L X (r'.k0 (κ':=κ2) (by exact kps) fun _ _=>rfl) (by rw [f1,fri.nb];exact hb) (.inr hps2) (by rw [f6,fri.pe];exact hpe) (by omega)) (g:=?_) (gp:=?_)
    ·rintro _ h6 ⟨q1,κ6,q2,q3⟩;have hk2:Gk h6 h2.n (.dfr (some [])):=Lk q3.k (by omega) (by exact lkg);have hk6:κ6 h2.n=200:=(q3.col _ (by simp only [Al];omega)).trans x4;have hl6:=hk2.lt;have a6:AChg κ h κ6 h6:=a2.trans ((AChg.k0 (κ':=κ2) (by exact kps) fun _ _=>rfl).trans q3);have hm:=MovO.ok mvi hc;rw [q1]at hm;refine wk ?_;refine A7 L (show Good P0 E Q ⟨⟨_,_,_,_,_,.returning,false,none⟩,_,_⟩ from ?_);refine Hj L (by intro q;cases q) (Gk.e lkg) ?_;refine D7 L X.f135.1 (F6 rfl) G ⟨_,κ6,hm,q2.out (B:=fun j=>j=h2.n) ?_ (fun j _ e=>by subst e;omega),AChg.own (B:=fun j=>j=h2.n) a6 ?_ (fun j e=>by subst e;omega) fun _ _=>rfl⟩;·exact kps
     ·exact kps
    ·rintro _ h6 ⟨rfl,q1,κ6,q2,q3⟩;have hk2:Gk h6 h2.n (.dfr (some [])):=Lk q3.k (by omega) (by exact lkg);have hk6:κ6 h2.n=200:=(q3.col _ (by simp only [Al];omega)).trans x4;have hl6:=hk2.lt;have a6:AChg κ h κ6 h6:=a2.trans ((AChg.k0 (κ':=κ2) (by exact kps) fun _ _=>rfl).trans q3);have hm:=MovO.ok mvi hc;rw [q1]at hm;refine Hj L (n:=h6.n) (t:=h6.t) (lh:= []) (by intro q;cases q) hk2.e ?_;refine A2 L X.f135.1 ?_;refine Gp _ _ ⟨.pow,_,κ6,rfl,.inr rfl,hm,q2.out (B:=fun j=>j=h2.n) ?_ (fun j _ e=>by subst e;omega),AChg.own (B:=fun j=>j=h2.n) a6 ?_ (fun j e=>by subst e;omega) fun _ _=>rfl⟩;·exact kps
     ·exact kps
   ·rintro _ h5 ⟨o,S2,κ2,rfl,ho,hc,r',a'⟩;obtain⟨x1,x2,x3,x4⟩:=kcb _ _ _ _ (fun x hx=>Aj hx) a' (by exact kps);refine Hj L (n:=h5.n) (t:=h5.t) (lh:= []) (by intro q;cases q) x3.e ?_;have hl3:=x3.lt;refine A2 L X.f135.1 ?_;refine Gp _ _ ⟨o,S2,κ2,rfl,ho,.badc mvi hc ho,r'.out (B:=fun j=>j=h2.n) ?_ (fun j _ e=>by subst e;omega),AChg.own (B:=fun j=>j=h2.n) ((aE _ (by exact kps)).trans a') ?_ (fun j e=>by subst e;omega) fun _ _=>rfl⟩;·exact kps
    ·exact kps
 ·rintro v h3 ⟨o,S',κ',rfl,ho,hm,r',a',gk,hk2⟩;refine Hj L (n:=h3.n) (t:=h3.t) (lh:= []) (by intro q;cases q) gk.e ?_;have hl3:=gk.lt;refine A2 L X.f135.1 ?_;refine Gp _ _ ⟨o,S',κ',rfl,ho,hm,r'.out (B:=fun j=>j=h2.n) ?_ (fun j _ e=>by subst e;omega),AChg.own (B:=fun j=>j=h2.n) a' ?_ (fun j e=>by subst e;omega) fun _ _=>rfl⟩;·exact kps
  ·exact kps
end
theorem Abk (h:p:=by
 refine wk ?_
 refine Y1 L rfl rfl rfl rfl rfl (Ds L X) ?_
 rintro _ h4 ⟨rfl,rfl⟩
 refine A2 L X.f135.1 ?_
 exact G _ _ ⟨rfl,kps⟩):p:=h
section
variable (L:Lg P0 E F K)(X:Fx F K)
include L X
theorem mo {x:Int}(r:ApR κ h I S)(kc:Bk h cb [AI x])(hb: ¬(0≤x∧x<S.D.nb)): CtP P0 E F K 135 [.ptr I.s 0,.ptr cb 0] h fun v h'=>v= .ifc 34 (AN 3)∧K0 h h':=by
 have sk:=r.sk;have ls:=sk.lt;have lc:=kc.lt;unfold apC at sk;by_cases c1:x<0;·refine Ek L X.f135 fun Q x cs G=>?_;exact Abk
 ·refine Ek L X.f135 fun Q x cs G=>?_;exact Abk
theorem wt (r:ApR κ h I S)(kc:Bk h cb [AN b])(hb:b<S.D.nb)(hdn:S.down=false)(hs:S.ps b≠3∨S.jr (b:Int)=true): CtP P0 E F K 135 [.ptr I.s 0,.ptr cb 0] h fun v h'=>v= .ifc 34 (AN 8)∧K0 h h':=by
 have sk:=r.sk;have ls:=sk.lt;have lc:=kc.lt;obtain⟨cbl,po⟩:=r.po;obtain⟨M,ck,m1,m2,m3⟩:=r.mj.ex;have lm:=m1.lt;have hg:=m3 (b:Int);unfold apC at sk;rw [hdn]at sk;by_cases h3:S.ps b=3;·have hjr:S.jr (b:Int)=true:=hs.resolve_left fun q=>q h3;rw [hjr,if_pos rfl]at hg;refine Ek L X.f135 fun Q x cs G=>?_;refine cal ?_ (c:=Ay L X);rintro _ rfl;refine cal ?_ (c:=Ay L X);rintro _ rfl;refine cal ?_ (c:=H4 L X (po.k0 (by exact kps)) hb);rintro _ rfl;rw [h3];refine wk ?_;(apply Ax rfl rfl;exact Db (KE.int .i64) rfl rfl lkq);rw [hg,Option.getD_some];exact Abk
 ·refine Ek L X.f135 fun Q x cs G=>?_;refine cal ?_ (c:=Ay L X);rintro _ rfl;refine cal ?_ (c:=Ay L X);rintro _ rfl;refine cal ?_ (c:=H4 L X (po.k0 (by exact kps)) hb);rintro _ rfl;exact Abk
inductive MoveO (x:Int)(S:Ap):Nat→Ap→Prop where
 |rng (h: ¬(0≤x∧x<S.D.nb)):MoveO x S 3 S
 |st {b:Nat} (e:x=(b:Int)) (hb:b<S.D.nb) (h:S.ps b≠3∨S.jr (b:Int)=true):MoveO x S 8 S
 |run {b:Nat} {S':Ap} {o:WO} (e:x=(b:Int)) (hb:b<S.D.nb) (h1:S.ps b=3) (h2:S.jr (b:Int)=false) (ho:o= .done 0∨o= .full∨o= .pow) (m:MovO b S S' o):MoveO x S (eOf o) S'
theorem Abl {y:Int}(T:Tb P0 E F K)(r:ApR κ h I S)(ka:Bk h ab [.ptr I.s 0])(iw:IW S)(hdn:S.down=false) (hf:S.last<S.next∧S.next<10000000) (hn:S.D.n+1000<100000) (hS:S.S<1000) (hM: ∀b:Nat,y=(b:Int)→b<S.D.nb→S.ps b=3→S.jr (b:Int)=false→(S.mv b).length≤6∧S.pe b<100000∧ (∀i es S1 p,MvS (invA S.A) S ((S.mv b).take i) es S1→(S.mv b)[i]?=some p→MvOk S b i p S1)∧ (∀es S1,MvS (invA S.A) S (S.mv b) es S1→ ∀j y,es[j]?=some y→okE S.S (S.D.nb*S.D.P) (stA S.A es j) y)∧ (∀es S1 S2,MvS (invA S.A) S (S.mv b) es S1→CmP es S1 S2 (.done 0)→S2.ps b=3)): Ct P0 E F K 83 [.ptr ab 0,AI y] h (fun v h'=> ∃e S' κ',v=AN e∧MoveO y S e S'∧ApR κ' h' I S'∧AChg κ h κ' h'):=by
 have lk:=ka.lt;refine Af L X.f83 fun Q x cs G=>?_;refine wk ?_;have k1:K0 h (hp (h.n+1) h.t [(h.n,some (cl [AI y]))]):=kps;have r1:ApR (ext κ h.n) (hp (h.n+1) h.t [(h.n,some (cl [AI y]))]) I S:=r.k0 k1 fun b hb=>Aj hb;have a1:AChg κ h (ext κ h.n) (hp (h.n+1) h.t [(h.n,some (cl [AI y]))]):=AChg.k0 k1 fun b hb=>Aj hb;have kc1:Bk (hp (h.n+1) h.t [(h.n,some (cl [AI y]))]) h.n [AI y]:=lkp
 have cl1: ∀κ2 h2,K0 (hp (h.n+1) h.t [(h.n,some (cl [AI y]))]) h2→(hp (h.n+1) h.t [(h.n,some (cl [AI y]))]).n<h2.n→(∀b,b<(hp (h.n+1) h.t [(h.n,some (cl [AI y]))]).n→κ2 b=ext κ h.n b)→ApR κ2 h2 I S→CtX P0 E F K 135 (.ptr I.s 0:: [.ptr h.n 0]) h2
   (fun v h'=> ∃κ' S',ApR κ' h' I S'∧AChX (fun _=>False) κ2 h2 κ' h'∧MoveO y S 0 S')
   (fun v h'=> ∃κ' S' e,v= .ifc 34 (AI e)∧ApR κ' h' I S'∧AChX (fun _=>False) κ2 h2 κ' h'∧ ∃e':Nat,e=(e':Int)∧MoveO y S e' S'):=by
  intro κ2 h2 k2 n2 c2 r2
  have hk:κ2 h.n=0:=(c2 _ (by simp only [Al];omega)).trans (B0 (Nat.le_refl _))
  by_cases hr:0≤y∧y<S.D.nb
  ·obtain⟨b,rfl⟩:=Int.eq_ofNat_of_zero_le hr.1
   by_cases hs:S.ps b≠3∨S.jr (b:Int)=true
   ·refine(wt L X r2 (Ag k2 kc1) (by omega) hdn hs).X.mono (fun v h' q=>q) ?_
    rintro v h' ⟨rfl,k3⟩
    exact⟨ext κ2 h2.n,S,_,rfl,r2.k0 k3 fun b hb=>Aj hb,(AChg.k0 k3 fun b hb=>Aj hb).x,_,rfl,.st rfl (by omega) hs⟩
   ·have h3:S.ps b=3:=Decidable.byContradiction fun q=>hs (.inl q)
    have hj:S.jr (b:Int)=false:=Bool.eq_false_iff.2 fun q=>hs (.inr q)
    obtain⟨m1,m2,m3,m4,m5⟩:=hM b rfl (by omega) h3 hj
    refine(wq L X T r2 iw (Ag k2 kc1) (.inl hk) (by omega) hdn h3 hj hf hn m1 m3 m4 m2 hS m5).mono ?_ ?_
    ·rintro v h' ⟨S',κ',q1,q2,q3⟩
     exact⟨κ',S',q2,q3.x,.run rfl (by omega) h3 hj (.inl rfl) q1⟩
    ·rintro v h' ⟨o,S',κ',rfl,ho,q1,q2,q3⟩
     exact⟨κ',S',_,rfl,q2,q3.x,_,rfl,.run rfl (by omega) h3 hj (.inr ho) q1⟩
  ·refine(mo L X r2 (Ag k2 kc1) hr).X.mono (fun v h' q=>q) ?_
   rintro v h' ⟨rfl,k3⟩
   exact⟨ext κ2 h2.n,S,_,rfl,r2.k0 k3 fun b hb=>Aj hb,(AChg.k0 k3 fun b hb=>Aj hb).x,_,rfl,.rng hr⟩
 refine cal ?_ (c:=He L X r1 (Ag k1 ka) (fun b e=>e.elim) cl1);rintro v h2 ⟨κ',S',h1,r',a',-,hv⟩;have a2:=a'.own a1 fun b e=>e.elim;rcases hv with⟨rfl,u,q1⟩|⟨e,rfl,e',rfl,q⟩
 ·refine ret X.f83.1 ?_;exact⟨0,S',κ',rfl,q1,r'.k0 kps fun _ _=>rfl,a2.trans (AChg.k0 kps fun _ _=>rfl)⟩
 ·refine ret X.f83.1 ?_;exact Ade
end
theorem zq0 (h:p:=by
 have wj6:Bk h6 jb (J.map AI):=Aq a6.k (by rw [hj0];omega) (by exact lkp)
 have hj6:κ6 jb=0:=(a6.col jb (by simp only [Al];omega)).trans hj0
 refine wk ?_
 refine Bs L (α:= Ap×(Nat→Nat)) (T:=fun i _=> [(45,some (AN i)),(44,some (AN J.length)),(43,some (.slc jb 0 J.length (Aa+1))),(0,some (.ptr I.s 0))]) (n:=J.length)
  (R:=fun i s hh=>ApR s.2 hh I s.1∧AChg κ h s.2 hh∧ErP (J.take i) S1 s.1 (.done 0)∧Bk hh jb (J.map AI)∧s.2 jb=0) (i0:=0) (S1,κ6) tsb
  ⟨r6.k0 (by exact kps) fun _ _=>rfl,a7.trans (AChg.k0 (by exact kps) fun _ _=>rfl),.nil,by exact lkp,hj6⟩ (Nat.zero_le _) ?_ ?_
 ·rintro i ⟨Si,κi⟩ hh hi ⟨ri,ai,eri,kj,hcj⟩ ih
  simp only at ri ai eri hcj
  have hx:J[i]?=some J[i]:=List.getElem?_eq_getElem hi
  obtain⟨b,hy,q1,q2,q3,q4⟩:=hE D J S1 i Si hD hrc hJ eri _ hx
  rw [hy]at hx
  have hja:(J.map AI)[i]?=some (AN b):=by rw [List.getElem?_map,hx];rfl
  have htk:J.take (i+1)=J.take i++ [(b:Int)]:=by rw [List.take_add_one,hx];rfl
  have hsp:J=J.take i++((b:Int)::J.drop (i+1)):=by
   have h1:=(List.take_append_drop i J).symm
   rw [List.drop_eq_getElem_cons hi,hy]at h1
   exact h1
  have lj:=kj.lt
  refine J2 L (c:=T5 (b:=b) L X (ri.k0 (κ':=κi) (by exact kps) fun _ _=>rfl) q1 q2 q3 q4) (g:=?_) (gp:=?_)
  ·rintro _ h7 ⟨g1,κ7,r7,a8⟩
   have a9:AChg κ h κ7 h7:=ai.trans ((AChg.k0 (κ':=κi) (by exact kps) fun _ _=>rfl).trans a8)
   have kj7:Bk h7 jb (J.map AI):=Aq a8.k (by rw [hcj];omega) (by exact lkp)
   have hc7:κ7 jb=0:=(a8.col jb (by simp only [Al];omega)).trans hcj
   obtain⟨M7,ck7,o1,o2,o3⟩:=r7.mj.ex
   have lo1:=o1.lt
   have sk7:=r7.sk
   have ls7:=sk7.lt
   have hcol7:=r7.col
   have nsj:I.s≠I.rj:=fun e=>by rw [e]at hcol7;omega
   have njj:jb≠I.rj:=fun e=>by rw [←e]at hcol7;omega
   have lj7:=kj7.lt
   unfold apC at sk7
   refine wk ?_
   (apply Lm L rfl;exact Ll (KE.int .i64) o2 rfl rfl lkq;rfl)
   have k8:Kp (fun j=>j=I.rj) h7 (hp h7.n h7.t [(I.rj,some (.map ((I5 M7 (b:Int)).map (mE AI)) ck7))]):=kps
   have r8:=r7.jset k8 (SetR.del (k:=(b:Int)) lkq o2 o3)
   have a10:AChg κ h κ7 _:=a9.trans (AChg.kp k8 fun j _ e=>by subst e;omega)
   refine wk ?_
   refine ih ({(Si.ers b).1 with jr:=Bh (Si.ers b).1.jr (b:Int) false},κ7) _ _ ⟨r8.k0 ?_ fun _ _=>rfl,a10.trans (AChg.k0 ?_ fun _ _=>rfl),?_,?_,hc7⟩ tsb
   ·exact kps
   ·exact kps
   ·rw [htk];exact eri.app rfl (.cons g1 .nil)
   ·exact lkp
  ·rintro _ h7 ⟨rfl,g1,κ7,r7,a8⟩
   refine A2 L X.f138.1 ?_
   exact Gp _ _ ⟨.pow,_,κ7,rfl,.inr rfl,.run hD hrc hJ (by rw [hsp];exact eri.app rfl (.bad g1)),r7,ai.trans ((AChg.k0 (κ':=κi) kps fun _ _=>rfl).trans a8)⟩
 ·rintro⟨Si,κi⟩ hh ⟨ri,ai,eri,kj,hcj⟩
  rw [List.take_length]at eri
  refine ret X.f138.1 ?_
  exact⟨Si,κi,.run hD hrc hJ eri,ri.k0 kps fun _ _=>rfl,ai.trans (AChg.k0 kps fun _ _=>rfl)⟩):p:=h
theorem An6 (h:p:=by
 intro e he
 unfold A8 at he
 obtain⟨s,hs,rfl⟩:=List.mem_map.1 he
 have:=(hD.mem s).1 hs
 obtain⟨q,hq⟩:=Option.isSome_iff_exists.1 this
 have hrg:=r.mp.rg s q hq
 have hm:S.D.nb*S.D.P≤12*6:=Nat.mul_le_mul r.dv.ok.g.nb.2 (by have:=r.dv.ok.g.P;omega)
 have hat:atA S.A s=q:=by unfold atA;rw [hq];rfl
 exact⟨by show 0≤s;omega,by show s≤_;omega,by show -1≤atA S.A s;omega,by show atA S.A s≤_;omega⟩):p:=h
theorem An7 (h:p:=by
 unfold A8;rw [List.length_map]
 refine D2 S.S D (hD.lt.imp fun h=>Int.ne_of_lt h) fun s hs=>?_
 obtain⟨q,hq⟩:=Option.isSome_iff_exists.1 ((hD.mem s).1 hs)
 have hrg:=r.mp.rg s q hq
 exact⟨hrg.1,hrg.2.1⟩):p:=h
theorem An8 (h:p:=by
 rintro _ h6 ⟨o,S1,κ6,rfl,ho,hrc,r6,a6⟩
 refine A2 L X.f138.1 ?_
 exact Gp _ _ ⟨o,S1,κ6,rfl,ho,.bad hD hrc ho,r6,a5.trans ((AChg.k0 (κ':=ext κ h.n) kps fun _ _=>rfl).trans a6)⟩):p:=h
theorem An9 (h:p:=by
 refine wk ?_
 refine Bt L ?_
 refine ret X.f138.1 ?_
 exact⟨S1,κ6,.run hD hrc hJ .nil,r6.k0 kps fun _ _=>rfl,a7.trans (AChg.k0 kps fun _ _=>rfl)⟩):p:=h
section
variable (L:Lg P0 E F K)(X:Fx F K)
include L X
structure DomB (f:Int→Bool)(J:List Int):Prop where
 lt:J.Pairwise (· < ·)
 mem: ∀s,s∈J↔f s=true
omit L X in
theorem SetR.dom {ck:Nat}{f:Int→Bool}(o:MOk M ck)(q: ∀k:Int,A5 M k=if f k=true then some (.bool true)else none){J:List Int}(p:J.Perm (M.map (·.1))):DomB f (Dc J):=by
 refine⟨co (p.nodup_iff.2 o.keys),fun s=>?_⟩;rw [(Gb J).mem_iff,p.mem_iff,←mHas_mem,Cx];have h1:=q s;unfold A5 at h1;by_cases hf:f s=true
 ·rw [if_pos hf]at h1
  cases hx:M.find? fun x=>decide (s=x.1)with
  |none=>rw [hx]at h1;cases h1
  |some x=>simp [hf]
 ·rw [if_neg hf,Option.map_eq_none_iff]at h1;rw [h1];simp [hf]
def Ap.clg (S:Ap):Ap:=if 0≤S.log then {S with ps:=upd S.ps S.log.toNat 3,log:= -1}else S
inductive ErP:List Int→Ap→Ap→WO→Prop where
 |nil {S:Ap}:ErP [] S S (.done 0)
 |cons {b:Nat} {l:List Int} {S S':Ap} {o:WO} (h:(S.ers b).2= .done 0) (t:ErP l {(S.ers b).1 with jr:=Bh (S.ers b).1.jr (b:Int) false} S' o):ErP ((b:Int)::l) S S' o
 |bad {b:Nat} {l:List Int} {S:Ap} (h:(S.ers b).2= .pow):ErP ((b:Int)::l) S (S.ers b).1 .pow
omit L X in
theorem ErP.app {l l':List Int}{S1:Ap}{o1:WO}(h:ErP l S S1 o1)(e:o1= .done 0)(t:ErP l' S1 S' o):ErP (l++l') S S' o:=by
 induction h with
 |nil=>exact t
 |cons h _ ih=>exact .cons h (ih e t)
 |bad=>cases e
inductive CkO (S:Ap):Ap→WO→Prop where
 |bad {D:List Int} {S1:Ap} {o:WO} (hD:DomA S.A D) (h:RcP 3 (A8 S.A D) S.clg S1 o) (ho:o= .full∨o= .pow):CkO S S1 o
 |run {D J:List Int} {S1 S':Ap} {o:WO} (hD:DomA S.A D) (h:RcP 3 (A8 S.A D) S.clg S1 (.done 0)) (hJ:DomB S.jr J) (e:ErP J S1 S' o):CkO S S' o
theorem mq (T:Tb P0 E F K)(U:SortOk P0 E F 171)(r:ApR κ h I S)(iw:IW S)(hdn:S.down=false)(hS:S.S<1000)(hj: ∀k,S.jr k=true→0≤k∧k<S.D.nb)(hf:S.last<S.next∧S.next<10000000)(hn:S.D.n+40000<100000) (hE: ∀D J S1 i Si,DomA S.A D→RcP 3 (A8 S.A D) S.clg S1 (.done 0)→DomB S.jr J→ErP (J.take i) S1 Si (.done 0)→ ∀y,J[i]?=some y→ ∃b:Nat,y=(b:Int)∧b<Si.D.nb∧(Si.ps b=2∨Si.ps b=3)∧Si.pe b<100000∧Si.D.n+1<100000): CtX P0 E F K 138 [.ptr I.s 0] h (fun v h'=> ∃S' κ',CkO S S' (.done 0)∧ApR κ' h' I S'∧AChg κ h κ' h') (fun v h'=> ∃(o:WO) (S':Ap) (κ':Nat→Nat),v= .ifc 34 (AN (eOf o))∧(o= .full∨o= .pow)∧CkO S S' o∧ApR κ' h' I S'∧AChg κ h κ' h'):=by
 have sk:=r.sk;have ls:=sk.lt;have hcol:=r.col;have hlt:=r.lt;have hnb:=r.dv.ok.g.nb;have hsz:=r.dv.ok.g.sz;obtain⟨M,ck,m1,m2,m3⟩:=r.mj.ex;have lm:=m1.lt;have hM:M.length≤S.D.nb:=by
  have:=D2 S.D.nb (M.map (·.1)) m2.keys fun k hk=>by
   refine hj k ?_;have h2:=mHas_mem.2 hk;rw [Cx]at h2;have h1:=m3 k;unfold A5 at h1;by_cases q:S.jr k=true;·exact q
   ·rw [if_neg q,Option.map_eq_none_iff]at h1;rw [h1]at h2;cases h2
  rwa [List.length_map]at this
 unfold apC at sk;rw [hdn]at sk;refine B9 L X.f138 fun Q x cs G Gp=>?_;refine cal ?_ (c:=Ay L X);rintro _ rfl;refine cal ?_ (c:=Zm L X U m2 (Rb (by exact kps) m1) (by omega));rintro _ h2 ⟨J0,p,k2,w2⟩;have hJ:=SetR.dom m2 m3 p;have hJl:(Dc J0).length≤S.D.nb:=by rw [(Gb J0).length_eq,p.length_eq,List.length_map];exact hM
 generalize Dc J0=J at*;have r2:ApR (ext κ h.n) h2 I S:=r.k0 k2 fun b hb=>Aj hb;have a2:AChg κ h (ext κ h.n) h2:=AChg.k0 k2 fun b hb=>Aj hb;have w3:=w2.bd;by_cases hlog:0≤S.log
 ·obtain⟨hl1,hl2⟩:=(iw.wi true).sel hlog;have hsl:S.sel true=S.log:=rfl;rw [hsl]at hl1 hl2;obtain⟨lg,hlg⟩:=Int.eq_ofNat_of_zero_le hlog;have ec:S.clg= {S with ps:=upd S.ps lg 3,log:= -1}:=by unfold Ap.clg;rw [if_pos hlog,hlg,Int.toNat_natCast]
  have iwc:IW S.clg:=by
   rw [ec];refine⟨fun k=>?_,fun k=>?_⟩
   ·cases k with
    |true=>exact⟨fun h=>absurd h (by show¬(0:Int)≤ -1;omega),by show(-1:Int)≤ -1;omega⟩
    |false=>
     refine⟨fun h=>?_,(iw.wi false).lo⟩;obtain⟨f1,f2⟩:=(iw.wi false).sel h;refine⟨f1,?_⟩;show upd S.ps lg 3 (S.sel false).toNat=2;have hne:=iw.ne false h;rw [upd_ne _ _ (fun e=>hne ?_)];·exact f2
     ·show S.sel false=S.log;have:0≤S.sel false:=h;rw [hlg];omega
   ·cases k with
    |true=>intro h;exact absurd h (by show¬(0:Int)≤ -1;omega)
    |false=>intro h;show S.dat≠ -1;have:0≤S.dat:=h;omega
  have hcD:S.clg.D=S.D:=by rw [ec]
  have hcl:S.clg.last=S.last:=by rw [ec]
  have hcx:S.clg.next=S.next:=by rw [ec]
  have hcA:S.clg.A=S.A:=by rw [ec]
  rw [hlg]at sk hl2;rw [Int.toNat_natCast]at hl2;obtain⟨cb2,po2⟩:=r2.po;refine cal ?_ (c:=H5 L X (i:=lg) (po2.k0 (by exact kps)) (by omega) hl2);rintro _ h3 ⟨rfl,po3,k3⟩;have r3:=(r2.k0 (κ':=ext κ h.n) (h':=hp h2.n h2.t []) (by exact kps) fun _ _=>rfl).pool k3 po3;have sk3:=r3.sk;have ls3:=sk3.lt;have hcol3:=r3.col;have nn3:=k3.n;simp only [Al]at nn3;unfold apC at sk3;refine wk ?_;have k4:Kp (fun j=>j=I.s) h3 (hp h3.n h3.t [(I.s,some (cl (apC I {S with ps:=upd S.ps lg 3,log:= -1})))]):=kps;have r4:ApR (ext κ h.n) (hp h3.n h3.t [(I.s,some (cl (apC I {S with ps:=upd S.ps lg 3,log:= -1})))]) I S.clg:=by rw [ec];exact r3.st k4 lkp ⟨rfl,rfl,rfl,rfl,rfl,rfl,rfl,rfl⟩
  have a4:AChg κ h (ext κ h.n) (hp h3.n h3.t [(I.s,some (cl (apC I {S with ps:=upd S.ps lg 3,log:= -1})))]):=a2.trans ((AChg.kp (κ:= ext κ h.n) k3 fun j _ e=>by rcases e with e|e <;> subst e <;> omega).trans (AChg.kp k4 fun j _ e=>by subst e;omega));have mp4:=r4.mp;rw [hcA]at mp4;refine cal ?_ (c:=Hc L X U (mp4.k0 (by exact kps)));rintro v5 h5 ⟨D,hD,hDl,el,k5⟩;have r5:ApR (ext κ h.n) h5 I S.clg:=r4.k0 (by exact kps) fun _ _=>rfl;have a5:AChg κ h (ext κ h.n) h5:=a4.trans (AChg.k0 (κ':=ext κ h.n) (by exact kps) fun _ _=>rfl);have hok: ∀e∈A8 S.A D,e.Ok:=by exact An6
  have hel:(A8 S.A D).length≤S.S:=by exact An7
  have hrec:recN S.clg (A8 S.A D)≤(A8 S.A D).length+1:=Kt (by rw [hcD];omega);refine J2 L (c:=Lx (k:=3) L X T (r5.k0 (κ':=ext κ h.n) (by exact kps) fun _ _=>rfl) iwc (.inr rfl) ((el.mono (Nat.zero_le _)).k0 (by exact kps)) hok (by omega) (by rw [hcl,hcx];omega) (by rw [hcD];omega)) (g:=?_) (gp:=?_)
  ·rintro _ h6 ⟨S1,κ6,hrc,r6,a6⟩;have a7:AChg κ h κ6 h6:=a5.trans ((AChg.k0 (κ':=ext κ h.n) (by exact kps) fun _ _=>rfl).trans a6);have n6:=a6.k.n;have n5:=k5.n;simp only [Al]at n5 n6;rcases w2.ex with⟨rfl,rfl⟩|⟨hpJ,jb,rfl,w4,w5⟩;·exact An9
   ·simp only [Al]at w5;have hj0:ext κ h.n jb=0:=B0 w5;have hjb2:=w4.lt;have wj5:Bk h5 jb (J.map AI):=Ag k5 (Aq k4 (by omega) (Aq k3 (by omega) w4));exact zq0
  ·exact An8
 ·have ec:S.clg=S:=by unfold Ap.clg;rw [if_neg hlog]
  have iwc:IW S.clg:=by rw [ec];exact iw
  have hcD:S.clg.D=S.D:=by rw [ec]
  have hcl:S.clg.last=S.last:=by rw [ec]
  have hcx:S.clg.next=S.next:=by rw [ec]
  have hcA:S.clg.A=S.A:=by rw [ec]
  have r4:ApR (ext κ h.n) (hp h2.n h2.t []) I S.clg:=by rw [ec];exact r2.k0 (by exact kps) fun _ _=>rfl
  have a4:AChg κ h (ext κ h.n) (hp h2.n h2.t []):=a2.trans (AChg.k0 (by exact kps) fun _ _=>rfl);refine wk ?_;have mp4:=r4.mp;rw [hcA]at mp4;refine cal ?_ (c:=Hc L X U (mp4.k0 (by exact kps)));rintro v5 h5 ⟨D,hD,hDl,el,k5⟩;have r5:ApR (ext κ h.n) h5 I S.clg:=r4.k0 (by exact kps) fun _ _=>rfl;have a5:AChg κ h (ext κ h.n) h5:=a4.trans (AChg.k0 (κ':=ext κ h.n) (by exact kps) fun _ _=>rfl);have hok: ∀e∈A8 S.A D,e.Ok:=by exact An6
  have hel:(A8 S.A D).length≤S.S:=by exact An7
  have hrec:recN S.clg (A8 S.A D)≤(A8 S.A D).length+1:=Kt (by rw [hcD];omega);refine J2 L (c:=Lx (k:=3) L X T (r5.k0 (κ':=ext κ h.n) (by exact kps) fun _ _=>rfl) iwc (.inr rfl) ((el.mono (Nat.zero_le _)).k0 (by exact kps)) hok (by omega) (by rw [hcl,hcx];omega) (by rw [hcD];omega)) (g:=?_) (gp:=?_)
  ·rintro _ h6 ⟨S1,κ6,hrc,r6,a6⟩;have a7:AChg κ h κ6 h6:=a5.trans ((AChg.k0 (κ':=ext κ h.n) (by exact kps) fun _ _=>rfl).trans a6);have n6:=a6.k.n;have n5:=k5.n;simp only [Al]at n5 n6;rcases w2.ex with⟨rfl,rfl⟩|⟨hpJ,jb,rfl,w4,w5⟩;·exact An9
   ·simp only [Al]at w5;have hj0:ext κ h.n jb=0:=B0 w5;have hjb2:=w4.lt;have wj5:Bk h5 jb (J.map AI):=Ag k5 w4;exact zq0
  ·exact An8
theorem Sq (T:Tb P0 E F K)(U:SortOk P0 E F 171)(r:ApR κ h I S)(ka:Bk h ab [.ptr I.s 0])(iw:IW S)(hdn:S.down=false)(hS:S.S<1000)(hj: ∀k,S.jr k=true→0≤k∧k<S.D.nb)(hf:S.last<S.next∧S.next<10000000)(hn:S.D.n+40000<100000) (hE: ∀D J S1 i Si,DomA S.A D→RcP 3 (A8 S.A D) S.clg S1 (.done 0)→DomB S.jr J→ErP (J.take i) S1 Si (.done 0)→ ∀y,J[i]?=some y→ ∃b:Nat,y=(b:Int)∧b<Si.D.nb∧(Si.ps b=2∨Si.ps b=3)∧Si.pe b<100000∧Si.D.n+1<100000): Ct P0 E F K 84 [.ptr ab 0] h (fun v h'=> ∃(o:WO) (S':Ap) (κ':Nat→Nat),v=AN (eOf o)∧(o= .done 0∨o= .full∨o= .pow)∧CkO S S' o∧ApR κ' h' I S'∧AChg κ h κ' h'):=by
 have lk:=ka.lt;refine Ao L X.f84 fun Q x cs G=>?_;refine wk ?_
 have cl1: ∀κ2 h2,K0 (hp h.n h.t []) h2→(hp h.n h.t []).n<h2.n→(∀b,b<(hp h.n h.t []).n→κ2 b=κ b)→ApR κ2 h2 I S→CtX P0 E F K 138 (.ptr I.s 0:: []) h2
   (fun v h'=> ∃κ' S',ApR κ' h' I S'∧AChX (fun _=>False) κ2 h2 κ' h'∧CkO S S' (.done 0))
   (fun v h'=> ∃κ' S' e,v= .ifc 34 (AI e)∧ApR κ' h' I S'∧AChX (fun _=>False) κ2 h2 κ' h'∧ ∃o:WO,e=((eOf o:Nat):Int)∧(o= .full∨o= .pow)∧CkO S S' o):=by
  intro κ2 h2 k2 n2 c2 r2
  refine(mq L X T U r2 iw hdn hS hj hf hn hE).mono ?_ ?_
  ·rintro v h' ⟨S',κ',q1,q2,q3⟩
   exact⟨κ',S',q2,q3.x,q1⟩
  ·rintro v h' ⟨o,S',κ',rfl,ho,q1,q2,q3⟩
   exact⟨κ',S',_,rfl,q2,q3.x,o,rfl,ho,q1⟩
 refine cal ?_ (c:=He L X (r.k0 (κ':=κ) (h':=hp h.n h.t []) (by exact kps) fun _ _=>rfl) (Ag (by exact kps) ka) (fun b e=>e.elim) cl1);rintro v h2 ⟨κ',S',h1,r',a',-,hv⟩;have a2:AChg κ h κ' h2:=a'.own (AChg.k0 (κ':=κ) (by exact kps) fun _ _=>rfl) fun b e=>e.elim;rcases hv with⟨rfl,u,q1⟩|⟨e,rfl,o,rfl,ho,q⟩
 ·refine ret X.f84.1 ?_;exact⟨.done 0,S',κ',rfl,.inl rfl,q1,r'.k0 kps fun _ _=>rfl,a2.trans (AChg.k0 kps fun _ _=>rfl)⟩
 ·refine ret X.f84.1 ?_;exact⟨o,S',κ',rfl,.inr ho,q,r'.k0 kps fun _ _=>rfl,a2.trans (AChg.k0 kps fun _ _=>rfl)⟩
def Ap.age (S:Ap)(b:Nat):Nat:=min (S.next - (S.wr (b:Int)).getD 0) 1099511627776
def Ap.cds (S:Ap):Nat→List Nat
 |0=> []
 |i+1=>if S.ps i=3∧S.jr (i:Int)=false then S.cds i++ [i]else S.cds i
noncomputable def cdC (S:Ap)(b:Nat):List AV:= [AN b,AN (valA S.A S.D.P b),AN S.D.P,AN (S.age b)]
omit L X in
theorem Vr (S:Ap)(l:List Nat): ∀x∈l,(cdC S x).length=4:=fun _ _=>rfl
omit L X in
theorem Vs (S:Ap): ∀i,(S.cds i).length≤i
 |0=>Nat.le_refl _
 |i+1=>by
  have:=Vs S i;simp only [Ap.cds];split;·rw [List.length_append,List.length_singleton];omega
  ·omega
structure CdR (S:Ap)(h:H)(lo:Nat)(v:AV)(l:List Nat):Prop where
 ex:(l= []∧v= .nils)∨(0<l.length∧ ∃b,v= .slc b 0 l.length (Aa+4)∧Bk h b (l.flatMap (cdC S))∧lo≤b)
omit L X in
theorem CdR.k0 {l:List Nat}(q:CdR S h lo v l)(k:K0 h h'):CdR S h' lo v l:=by exact Afd
omit L X in
theorem CdR.app {N n:Nat}{l:List Nat}(hb:Bk h N (l.flatMap (cdC S)++cdC S i))(hlo:lo≤N)(hn:l.length=n):CdR S h lo (.slc N 0 (n+1) (Aa+4)) (l++ [i]):= ⟨.inr ⟨by simp,N,by simp [hn],by rw [List.flatMap_append];simpa using hb,hlo⟩⟩
noncomputable def Xn (s c bx a b mk:Nat)(st:LS):Blk:= .loop ⟨st,none,133,cf133.ntmps,tms [(9,some (.fn (.func 188) [] [.ptr a 0,.ptr b 0])),(2,some (.ptr bx 0)),(1,some (.ptr c 0)),(0,some (.ptr s 0))],[10,11],Af8,Af9,mk⟩
structure RCd (h hh:H)(I:Ai)(S:Ap)(c a b lb mk:Nat)(cb:List AV)(i:Nat):Prop where
 k:Kp (fun j=>j=c) h hh
 dk:Gk hh mk (.dfr (some []))
 lp:Gk hh (mk+1) (Xn I.s c h.n a b mk .ready)
 ka:Bk hh a [.slc lb 0 S.D.nb (Aa+2)]
 kb:Bk hh b [AN 3]
 kl:Bk hh lb cb
 kx:Bk hh h.n [.ptr I.s 0]
 ex: ∃w,Bk hh c [w]∧CdR S hh (mk+2) w (S.cds i)
omit L X in
theorem Kv {l:List (Nat×Option AV)}{x y:O}{k:Int}{r ck:Nat}{zero:AV}(hx:evO l x=some (.map r))(hy:evO l y=some (AI k))(hb:Mk h r (M.map (mE AI)) ck)(hv:(A5 M k).getD zero=v):XV (.lookup .pint zero x y false) h l v h:=hv ▸ Db (KE.int .i64) hx hy hb
section
theorem wu {c:Nat}(r:ApR κ h I S)(kc:Bk h c [.nils])(hc:200≤κ c)(hw: ∀b n,S.wr b=some n→n≤S.next)(hnx:S.next<10000000): Ct P0 E F K 133 [.ptr I.s 0,.ptr c 0] h (fun v h'=>Kp (fun j=>j=c) h h'∧ ∃w,Bk h' c [w]∧CdR S h' h.n w (S.cds S.D.nb)):=by
 have sk:=r.sk;have ls:=sk.lt;have lc:=kc.lt;have hcol:=r.col;have hlt:=r.lt;have hnbd:=r.dv.ok.g.nb;obtain⟨cb,po⟩:=r.po;have ncs:c≠I.s:=fun e=>by rw [←e]at hcol;omega
 unfold apC at sk;refine Af L X.f133 fun Q x cs G=>?_;refine cal ?_ (c:=Lw L X (s:=3) (po.k0 (by exact kps)));rintro _ h2 ⟨a,b,lb,rfl,w1,w2,w3,w4,w5,w6,w7⟩;have n5:=w7.n;simp only [Al]at n5 w4 w5 w6;have la:=w1.lt;have lb':=w2.lt;have lc':=w3.lt;refine wk ?_;refine Eh L (tm':=tms [(9,some (.fn (.func 188) [] [.ptr a 0,.ptr b 0])),(2,some (.ptr h.n 0)),(1,some (.ptr c 0)),(0,some (.ptr I.s 0))]) tsb ?_;refine In L (post:=fun _ h'=>RCd h h' I S c a b lb h2.n cb S.D.nb) rfl rfl rfl ?_ ?_
 ·refine Ct.A ((J1 L X (ps:=S.ps) (pe:=S.pe) (cb:=cb) po.len hnbd.2 po.c0 po.c1 (fun i hh=>RCd h hh I S c a b lb h2.n cb i) (fun i hh r=>⟨r.ka,r.kb,r.kl⟩) (fun i hh h' r k=>?_) (fun i hh hi e r=>?_) (fun i hh hi e r=>?_) ⟨kps,lkg,(by unfold Xn;exact lkg),lkp,lkp,lkp,lkp,.nils,lkp,⟨.inl ⟨rfl,rfl⟩⟩⟩).mono fun v h' p=>p);·exact⟨Kp.tr0 k r.k,Fg k r.dk,Fg k r.lp,Ag k r.ka,Ag k r.kb,Ag k r.kl,Ag k r.kx,let⟨w,e1,e2⟩:=r.ex;⟨w,Ag k e1,e2.k0 k⟩⟩
  ·obtain⟨r1,r2,r3,r4,r5,r6,r7,w,r8,r9⟩:=r;have hle:=r3.e;unfold Xn at hle;have g1:=r2.lt;have g2:=r3.lt;have g3:=r4.lt;have g4:=r5.lt;have g5:=r6.lt;have g7:=r7.lt;have g8:=r8.lt;have hcl:=Vs S i;have rr:ApR (ext κ h.n) hh I S:=r.own r1 (fun j _ e=>by subst e;exact hc) fun b hb=>Aj hb;obtain⟨M,ck,m1,m2,m3⟩:=rr.mj.ex;obtain⟨N,nk,o1,o2,o3⟩:=rr.mw.ex;have sk2:=rr.sk;have lm1:=m1.lt;have lo1:=o1.lt;have ls2:=sk2.lt;have hg:=m3 (i:Int);have hgw:=o3 (i:Int);unfold apC at sk2;refine Gu L (l1:= [(11,some (AN (S.pe i))),(10,some (AN i)),(9,some (.fn (.func 188) [] [.ptr a 0,.ptr b 0])),(2,some (.ptr h.n 0)),(1,some (.ptr c 0)),(0,some (.ptr I.s 0))]) hle rfl ?_;intro Q z2 cs G2;refine wk ?_;refine Fh L (Gk.e lkg) ?_;have mpb:MpR S.S S.D.nb S.D.P (hp hh.n hh.t [(h2.n+1,some (Xn I.s c h.n a b h2.n .busy))]) I.m I.r1 I.r2 I.vb S.A:=(by have:=rr.lt;exact rr.mp.kp (B:=fun j=>j=h2.n+1) kps (by omega) (by omega) (by omega) (by omega))
   cases hjr:S.jr (i:Int)with
   |true=>
    have e1:S.cds (i+1)=S.cds i:=(by simp only [Ap.cds];rw [if_neg (by rw [hjr];simp)]);rw [hjr,if_pos rfl]at hg;refine wk ?_;(apply st1 L rfl;exact Kv (v:= .bool true) (k:=(i:Int)) rfl rfl lkq (by first|(rw [hg];done)|(rw [hg];rfl));rfl);refine wk ?_;refine Ej L (Gk.e lkg) G2 ⟨rfl,?_⟩;refine⟨kps,lkg,(by unfold Xn;exact Fy (by omega)),lkp,lkp,lkp,lkp,w,lkp,?_⟩;rw [e1];rcases r9.ex with h1|⟨h2',x,rfl,h4,h5⟩;·exact⟨.inl h1⟩
    ·have hlx:=h4.lt;exact⟨.inr ⟨h2',x,rfl,lkp,h5⟩⟩
   |false=>
    have e1:S.cds (i+1)=S.cds i++ [i]:=(by simp only [Ap.cds];rw [if_pos ⟨e,hjr⟩]);rw [hjr,if_neg (by simp)]at hg;obtain⟨wn,hwn,hwl,hwe⟩: ∃wn:Nat,(∀z:AV,z= Zu→(A5 N (i:Int)).getD z= UN wn)∧wn≤S.next∧S.age i=min (S.next - wn) 1099511627776:=by
     cases hwi:S.wr (i:Int)with
     |none=>rw [hwi]at hgw;exact⟨0,by rintro z rfl;rw [hgw];rfl,Nat.zero_le _,by unfold Ap.age;rw [hwi];rfl⟩
     |some n=>rw [hwi]at hgw;exact⟨n,by rintro z rfl;rw [hgw];rfl,hw _ _ hwi,by unfold Ap.age;rw [hwi];rfl⟩
    have hcc:cdC S i= [AN i,AN (valA S.A S.D.P i),AN S.D.P,AN (min (S.next - wn) 1099511627776)]:=(by unfold cdC;rw [hwe]);rcases r9.ex with⟨e0,rfl⟩|⟨h2',x,rfl,h4,h5⟩;·refine wk ?_;(apply st1 L rfl;exact Kv (v:= .bool false) (k:=(i:Int)) rfl rfl lkq (by first|(rw [hg];done)|(rw [hg];rfl));rfl);refine wk ?_;(apply Ax rfl rfl;exact Kv (k:=(i:Int)) rfl rfl lkq (hwn _ rfl));(apply Ax rfl rfl;exact N4 rfl rfl rfl hwl (by show S.next<18446744073709551616;omega));(apply Ax rfl rfl;exact Yv rfl rfl);(apply Ax rfl rfl;exact opv);(apply Yx L;exact chk;rfl);refine cal ?_ (c:=Oc L X mpb hi);rintro _ rfl;refine wk ?_;(apply Hh L rfl rfl;exact Dr (new:=cdC S i) rfl rfl (SlR.of (c:=cdC S i) (by rw [hcc];exact lkp) (Nat.le_refl _) rfl) (by omega) (by omega));refine wk ?_;refine Ej L (Gk.e lkg) G2 ⟨rfl,?_⟩;refine⟨kps,lkg,(by unfold Xn;exact Fy (by omega)),lkp,lkp,lkp,lkp,_,lkp,?_⟩;rw [e1];rw [e0];exact CdR.app (l:= []) (by exact lkp) (by omega) rfl
    ·have hlx:=h4.lt;refine wk ?_;(apply st1 L rfl;exact Kv (v:= .bool false) (k:=(i:Int)) rfl rfl lkq (by first|(rw [hg];done)|(rw [hg];rfl));rfl);refine wk ?_;(apply Ax rfl rfl;exact Kv (k:=(i:Int)) rfl rfl lkq (hwn _ rfl));(apply Ax rfl rfl;exact N4 rfl rfl rfl hwl (by show S.next<18446744073709551616;omega));(apply Ax rfl rfl;exact Yv rfl rfl);(apply Ax rfl rfl;exact opv);(apply Yx L;exact chk;rfl);refine cal ?_ (c:=Oc L X mpb hi);rintro _ rfl;refine wk ?_;(apply Hh L rfl rfl;exact Dq (old:=(S.cds i).flatMap (cdC S)) (new:=cdC S i) rfl rfl (SlR.of (c:=(S.cds i).flatMap (cdC S)) lkp (by rw [C8 _ (Vr S _)];omega) (by rw [List.drop_zero,List.take_of_length_le (by rw [C8 _ (Vr S _)];exact Nat.le_refl _)])) (SlR.of (c:=cdC S i) (by rw [hcc];exact lkp) (Nat.le_refl _) rfl) (by omega) (by omega) (by rw [hcc];rfl));refine wk ?_;refine Ej L (Gk.e lkg) G2 ⟨rfl,?_⟩;refine⟨kps,lkg,(by unfold Xn;exact Fy (by omega)),lkp,lkp,lkp,lkp,_,lkp,?_⟩;rw [e1];exact CdR.app (by exact lkp) (by omega) rfl
  ·obtain⟨r1,r2,r3,r4,r5,r6,r7,r8⟩:=r;have e1:S.cds (i+1)=S.cds i:=(by simp only [Ap.cds];rw [if_neg (by omega)]);exact⟨r1,r2,r3,r4,r5,r6,r7,by rw [e1];exact r8⟩
 ·rintro v h3 ⟨r1,r2,r3,r4,r5,r6,r7,w,r8,r9⟩;have hle:=r3.e;unfold Xn at hle;have l5:=r2.lt;have l8:=r8.lt;refine Io L (n:=h3.n) (t:=h3.t) (lh:= []) hle (by intro q;cases q) ?_;refine wk ?_;refine A7 L (show Good P0 E Q ⟨⟨_,_,_,_,_,.returning,false,none⟩,_,_⟩ from ?_);refine Hj L (by intro q;cases q) (Gk.e lkg) ?_;refine D7 L X.f133.1 (F6 rfl) G ⟨kps,w,lkp,?_⟩;rcases r9.ex with h1|⟨h2',x,rfl,h4,h5⟩;·exact⟨.inl h1⟩
  ·have hlx:=h4.lt;exact⟨.inr ⟨h2',x,rfl,lkp,by omega⟩⟩
theorem Abm (r:ApR κ h I S)(ka:Bk h ab [.ptr I.s 0])(hw: ∀b n,S.wr b=some n→n≤S.next)(hnx:S.next<10000000): Ct P0 E F K 79 [.ptr ab 0] h (fun v h'=> ∃κ',CdR S h' h.n v (S.cds S.D.nb)∧(∀b n c,v= .slc b 0 n c→κ' b=0)∧ApR κ' h' I S∧AChg κ h κ' h'):=by
 have lk:=ka.lt;refine Ao L X.f79 fun Q x cs G=>?_;refine wk ?_;have k1:K0 h (hp (h.n+1) h.t [(h.n,some (cl [.nils]))]):=kps;have hc1: ∀b,b<h.n→Iu κ h.n b=κ b:=fun b hb=>Ca hb;have r1:ApR (Iu κ h.n) (hp (h.n+1) h.t [(h.n,some (cl [.nils]))]) I S:=r.k0 k1 hc1;have a1:AChg κ h (Iu κ h.n) (hp (h.n+1) h.t [(h.n,some (cl [.nils]))]):=AChg.k0 k1 hc1;have kc1:Bk (hp (h.n+1) h.t [(h.n,some (cl [.nils]))]) h.n [.nils]:=lkp;have hn1:(hp (h.n+1) h.t [(h.n,some (cl [.nils]))]).n=h.n+1:=rfl
 have cl1: ∀κ2 h2,K0 (hp (h.n+1) h.t [(h.n,some (cl [.nils]))]) h2→(hp (h.n+1) h.t [(h.n,some (cl [.nils]))]).n<h2.n→(∀b,b<(hp (h.n+1) h.t [(h.n,some (cl [.nils]))]).n→κ2 b=Iu κ h.n b)→ApR κ2 h2 I S→CtX P0 E F K 133 (.ptr I.s 0:: [.ptr h.n 0]) h2
   (fun v h'=> ∃κ' S',ApR κ' h' I S'∧AChX (fun j=>j=h.n) κ2 h2 κ' h'∧(S'=S∧ ∃w,Bk h' h.n [w]∧CdR S h' (h.n+2) w (S.cds S.D.nb)∧ ∀b n c,w= .slc b 0 n c→κ' b=0))
   (fun v h'=> ∃κ' S' e,v= .ifc 34 (AI e)∧ApR κ' h' I S'∧AChX (fun j=>j=h.n) κ2 h2 κ' h'∧False):=by
  intro κ2 h2 k2 n2 c2 r2
  rw [hn1]at n2 c2
  have hk1:κ2 h.n=200:=(c2 _ (by omega)).trans (Cq (Nat.le_refl _))
  refine((wu L X r2 (Ag k2 kc1) (by omega) hw hnx).mono ?_).X
  rintro v h' ⟨q1,w,q2,q3⟩
  refine⟨ext κ2 h2.n,S,r2.own q1 (fun j _ e=>by subst e;omega) fun b hb=>Aj hb,⟨q1.mono fun b e=> .inr e,fun b hb=>Aj hb⟩,rfl,w,q2,?_,?_⟩
  ·rcases q3.ex with h1|⟨g1,x,g2,g3,g4⟩
   ·exact⟨.inl h1⟩
   ·exact⟨.inr ⟨g1,x,g2,g3,by omega⟩⟩
  ·rintro b n c rfl
   rcases q3.ex with⟨_,e⟩|⟨g1,x,g2,g3,g4⟩
   ·cases e
   ·cases g2;exact B0 g4
 refine cal ?_ (c:=He L X r1 (Ag k1 ka) (fun b e=>by subst e;exact Nat.lt_succ_self _) cl1);rintro v h2 ⟨κ',S',h1,r',a',k',hv⟩;rw [hn1]at k';rcases hv with⟨rfl,u,rfl,w,q1,q2,q3⟩|⟨e,rfl,q⟩
 ·have a2:AChg κ h κ' h2:=a'.own a1 fun b e=>by subst e;exact Nat.le_refl _
  have q1':Bk h2 h.n [w]:=Aq k' (by omega) q1;have lq:=q1'.lt;have hk1:κ' h.n=200:=(a'.col _ (by rw [hn1];omega)).trans (Cq (Nat.le_refl _));rcases q2.ex with⟨e0,rfl⟩|⟨g1,x2,rfl,g3,g4⟩
  ·refine ret X.f79.1 ?_;refine⟨κ',⟨.inl ⟨e0,rfl⟩⟩,q3,r'.out (B:=fun j=>j=h.n) ?_ (fun b _ e=>by subst e;omega),AChg.own (B:=fun j=>j=h.n) a2 ?_ (fun b e=>by subst e;exact Nat.le_refl _) fun _ _=>rfl⟩;·exact kps
   ·exact kps
  ·have g3':Bk h2 x2 _:=Aq k' (by omega) g3;have lx2:=g3'.lt;refine ret X.f79.1 ?_;refine⟨κ',⟨.inr ⟨g1,x2,rfl,by exact lkp,by omega⟩⟩,q3,r'.out (B:=fun j=>j=h.n) ?_ (fun b _ e=>by subst e;omega),AChg.own (B:=fun j=>j=h.n) a2 ?_ (fun b e=>by subst e;exact Nat.le_refl _) fun _ _=>rfl⟩;·exact kps
   ·exact kps
 ·exact q.elim
