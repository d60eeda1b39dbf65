/- Part of the proof. -/
import Derived.Test.YtgkianlpkdfhkaaGreatQ15
import Derived.Test.YtgkianlpkdfhkaaGreatQ12
set_option linter.unusedVariables false
set_option linter.unusedSectionVars false
set_option linter.unusedSimpArgs false
set_option maxRecDepth 10000
set_option maxHeartbeats 4000000
namespace Go.Ev
section
variable {P0:Program}{E:Env}{F:T CFn}{K:T (List AV×AV)}(L:Lg P0 E F K)(X:Fx F K)
include L X
omit L X in
theorem Kz {l:List (Nat×Option AV)}{h:H}{x y:O}{q:Bool}{sh:Sh}{a d:Nat}(e:evO l x=some (.int .u64 ((a:Nat):Int)))(e1:evO l y=some (.int .u64 ((d:Nat):Int)))(hr:a+d<18446744073709551616):XV (.bin .add x y q sh) h l (.int .u64 ((a+d:Nat):Int)) h:=by
 have:=ww (q:=q) (sh:=sh) (h:=h) rfl e e1
 rwa [show(a+d) % pw .u64=a+d by simp only [pw];omega]at this
omit L X in
theorem Aat {l:List (Nat×Option AV)}{h:H}{x y z w:O}{b o len size a c m:Nat}{i j k:IntKind}(e:evO l x=some (.slc b o len (Aa+size)))(e1:evO l y=some (.int i ((a:Nat):Int)))(e2:evO l z=some (.int j ((c:Nat):Int)))(e3:evO l w=some (.int k ((m:Nat):Int)))(hac:a≤c)(hc:c≤m)(hm:m≤len)(hl:len<Aa)(hne:a<m):
  XV (.sliceS size x (some y) (some z) (some w)) h l (.slc b (o+a*size) (c - a) (m - a)) h:=by
 refine⟨?_⟩
 simp only [exec,Ae,(BndR.att e1).opt,(BndR.att e2).opt,(BndR.att e3).opt,Ab e,Fp,M6,Aw (show Aa≤Aa+size by omega),Nx,Aw hc,Aw hm,Option.getD_some,Aw hac,Aw (show Nat.succ m≤Aa by omega),vo,Hn (show m≠a by omega)]
 rfl
omit L X in
theorem Aau {l:List (Nat×Option AV)}{h:H}{x y z w:O}{size a c m:Nat}{i j k:IntKind}(e:evO l x=some .nils)(e1:evO l y=some (.int i ((a:Nat):Int)))(e2:evO l z=some (.int j ((c:Nat):Int)))(e3:evO l w=some (.int k ((m:Nat):Int)))(ha:a=0)(hc:c=0)(hm:m=0):XV (.sliceS size x (some y) (some z) (some w)) h l .nils h:=by
 subst ha hc hm
 refine⟨?_⟩
 simp only [exec,Ae,(BndR.att e1).opt,(BndR.att e2).opt,(BndR.att e3).opt,Ab e]
 rfl
abbrev JPg:=Sp×List Ent
def jpC (x:JPg×AV):List AV:=spC x.1.1++ [x.2]
omit L X in
theorem Sr (l:List (JPg×AV)): ∀x∈l,(jpC x).length=7:=fun _ _=>rfl
structure PgsR (h:H)(lo b:Nat)(l:List (JPg×AV)):Prop where
 k:Bk h b (l.flatMap jpC)
 el: ∀x∈l,EL h lo x.2 x.1.2
 lo:lo≤b
 bd: ∀x∈l,∀c n b',x.2= .slc b' 0 n c→b'<b
def mostJ (sz:Nat):Nat:=(sz - 4) / 8
def cntJ (sz n:Nat):Nat:=max 1 ((n+mostJ sz - 1) / mostJ sz)
def E6 (sz:Nat)(es:List Ent)(i:Nat):List Ent:=(es.drop (mostJ sz*i)).take (mostJ sz)
def Cy (k sz first prev:Nat)(es:List Ent)(i:Nat):JPg:=(⟨k,0,first+i,prev,((i:Nat):Int),((cntJ sz es.length:Nat):Int)⟩,E6 sz es i)
def K1 (k sz first prev:Nat)(es:List Ent)(n:Nat):List JPg:=(List.range n).map (Cy k sz first prev es)
section
variable {h:H}
theorem Rh {sz n:Nat}(hsz:12≤sz∧sz<900)(hn:n<100000):Ct P0 E F K 168 [eI ((sz:Nat):Int),eI ((n:Nat):Int)] h fun v h'=>v=eI ((cntJ sz n:Nat):Int)∧h'=h:=by
 have hm:0<(sz - 4) / 8:=by omega
 refine Ad L X.f168 X.k168 rfl rfl fun Q x cs G=>?_
 refine wk ?_
 refine cal (c:=Gf L X (sz:=sz) (by omega)) (g:=?_)
 rintro _ rfl
 refine wk ?_
 refine ret X.f168 ?_
 exact⟨rfl,rfl⟩
theorem aw {b o n cap:Nat}{xs:List Ent}(k:SlR 2 h (.slc b o n cap) n (xs.flatMap Az))(hn:xs.length=n)(h1:0<n∧n<100000):Ct P0 E F K 170 [.slc b o n cap] h fun v h'=>EL h' h.n v xs∧K0 h h':=by
 cases k with
 | @slc _ _ _ _ c _ hbk hk hx hlt=>
  have kb:Bk h b c:=⟨hbk,hlt⟩
  refine Al L X.f170 X.k170 rfl rfl fun Q x cs G=>?_
  refine wk ?_
  (apply st1 L rfl;exact xh (new:=xs.flatMap Az) rfl rfl (SlR.of (c:=c) lkp hk hx) (by omega) (by omega);rfl)
  refine wk ?_
  refine ret X.f170 ?_
  exact⟨⟨.inr ⟨List.length_pos_iff.1 (by omega),h.n+1,by rw [hn];rfl,lkp,by omega⟩⟩,kps⟩
theorem Wg:Ct P0 E F K 170 [.nils] h fun v h'=>v= .nils∧h'=h:=by
 refine Al L X.f170 X.k170 rfl rfl fun Q x cs G=>?_
 refine wk ?_
 refine ret X.f170 ?_
 exact⟨rfl,rfl⟩
theorem Ur {k sz first prev:Nat}{v:AV}{es:List Ent}{x:AFr}{cs:List AFr}{Q:Nat→AV→Prop}{h0:H}(q:EL h0 0 v es)(hsz:12≤sz∧sz<900)(hlen:es.length<1000)(hf:prev<first∧first<1000000000)
  (G: ∀u h',(∃b l,u= .tup [.slc b 0 l.length (Aa+7),eI ((0:Nat):Int)]∧l.map (·.1)=K1 k sz first prev es (cntJ sz es.length)∧PgsR h' h0.n b l∧K0 h0 h')→GO P0 E Q (finish u cs h' x))
  {h1:H} (k1:K0 h0 h1) {lq:List (Nat×Option AV)} (ht:TSub (tms [(54,some (eI ((0:Nat):Int))),(53,some (eI ((cntJ sz es.length:Nat):Int))),(14,some (eI ((mostJ sz:Nat):Int))),(13,some .nils),(12,some (eI ((cntJ sz es.length:Nat):Int))),(4,some v),(3,some (.int .u64 ((prev:Nat):Int))),(2,some (.int .u64 ((first:Nat):Int))),(0,some (.int .u8 ((k:Nat):Int)))]) (tms lq)):
  Good P0 E Q ⟨⟨141,cf141.ntmps,tms lq,[.code (.loop c141_32),.inBlock 1,.code c141_37],[],.run,false,none⟩,x::cs,h1⟩:=by
 have hm:0<mostJ sz:=by unfold mostJ;omega
 have hm2:mostJ sz<200:=by unfold mostJ;omega
 have hcn:cntJ sz es.length<2000:=by
  unfold cntJ
  have:(es.length+mostJ sz - 1) / mostJ sz≤es.length+mostJ sz - 1:=Nat.div_le_self _ _
  omega
 have hcn1:0<cntJ sz es.length:=by unfold cntJ;omega
 have hpart: ∀i,i<cntJ sz es.length→(es= []∧i=0)∨mostJ sz*i<es.length:=by
  intro i hi
  by_cases h0:es.length=0
  ·left
   have:es= []:=List.length_eq_zero_iff.1 h0
   refine⟨this,?_⟩
   unfold cntJ at hi
   rw [h0]at hi
   have h2:(0+mostJ sz - 1) / mostJ sz=0:=Nat.div_eq_of_lt (by omega)
   rw [h2]at hi;omega
  ·right
   have h2:i<(es.length+mostJ sz - 1) / mostJ sz:=by
    unfold cntJ at hi
    have h3:1≤(es.length+mostJ sz - 1) / mostJ sz:=(Nat.le_div_iff_mul_le hm).2 (by omega)
    omega
   have h4:=(Nat.le_div_iff_mul_le hm).1 (show i+1≤(es.length+mostJ sz - 1) / mostJ sz from h2)
   rw [Nat.add_mul,Nat.one_mul,Nat.mul_comm]at h4
   omega
 have n1:=k1.n
 refine E0 L ht ?_
 generalize hN:cntJ sz es.length=N at*
 refine Co L (α:= AV×List (JPg×AV)) (T:=fun i s=> [(54,some (eI ((i:Nat):Int))),(53,some (eI ((N:Nat):Int))),(14,some (eI ((mostJ sz:Nat):Int))),(13,some s.1),(12,some (eI ((N:Nat):Int))),(4,some v),(3,some (.int .u64 ((prev:Nat):Int))),(2,some (.int .u64 ((first:Nat):Int))),(0,some (.int .u8 ((k:Nat):Int)))]) (n:=N)
  (R:=fun i s h3=>s.2.map (·.1)=K1 k sz first prev es i∧((i=0∧s.1= .nils)∨(0<i∧ ∃b,s.1= .slc b 0 i (Aa+7)∧PgsR h3 h0.n b s.2))∧Kp (fun j=>h0.n≤j) h0 h3) (i0:=0) (.nils,[]) tsb ⟨rfl,.inl ⟨rfl,rfl⟩,k1.mono fun _ e=>e.elim⟩ (Nat.zero_le _) ?_ ?_
 ·rintro i ⟨sv,sl⟩ h3 hi ⟨q1,q2,q3⟩ ih
  simp only at q1 q2
  have n3:=q3.n
  have hlen7:sl.length=i:=by
   have:=congrArg List.length q1
   rw [List.length_map,K1,List.length_map,List.length_range]at this;exact this
  have hrs:K1 k sz first prev es (i+1)=K1 k sz first prev es i++ [Cy k sz first prev es i]:=by unfold K1;rw [List.range_succ,List.map_append];rfl
  have hfl:=Db sl (Sr sl)
  have rest: ∀(ev:AV) (h4:H),EL h4 h3.n ev (E6 sz es i)→K0 h3 h4→ ∀lq2,TSub (tms [(83,some ev),(81,some (.agg (spC (Cy k sz first prev es i).1))),(72,some sv),(54,some (eI ((i:Nat):Int))),(53,some (eI ((N:Nat):Int))),(14,some (eI ((mostJ sz:Nat):Int))),(12,some (eI ((N:Nat):Int))),(4,some v),(3,some (.int .u64 ((prev:Nat):Int))),(2,some (.int .u64 ((first:Nat):Int))),(0,some (.int .u8 ((k:Nat):Int)))]) (tms lq2)→
    Good P0 E Q ⟨⟨141,cf141.ntmps,tms lq2,[.ops [Cj 84 (.build [.int .u8 ((0:Nat):Int),.int .i64 ((0:Nat):Int),.int .u64 ((0:Nat):Int),.int .u64 ((0:Nat):Int),.int .i64 ((0:Nat):Int),.int .i64 ((0:Nat):Int),.nils] [(0,6,(.t 81)),(6,1,(.t 83))]),Cj 85 (.bslice 1 [.int .u8 ((0:Nat):Int),.int .i64 ((0:Nat):Int),.int .u64 ((0:Nat):Int),.int .u64 ((0:Nat):Int),.int .i64 ((0:Nat):Int),.int .i64 ((0:Nat):Int),.nils] [(0,7,(.t 84))]),Cj 86 (.append 7 72 (.t 72) (.t 85)),Cv 13 86],.inBlock 2,.code c141_29,.inLoop c141_32,.inBlock 1,.code c141_37],[],.run,false,none⟩,x::cs,hp h4.n h4.t []⟩:=by
   intro ev h4 hev k4 lq2 ht2
   have n4:=k4.n
   have hpl:=hev.plain.2
   have hcv:=hev.plain.1
   have hbd: ∀c n b',ev= .slc b' 0 n c→b'<h4.n:=by
    intro c n b' e
    rcases hev.len with⟨_,e2⟩|⟨_,b2,e2,k2,_⟩
    ·rw [e2]at e;cases e
    ·rw [e2]at e;cases e;exact k2.lt
   have hcell:jpC (Cy k sz first prev es i,ev)= [.int .u8 ((k:Nat):Int),.int .i64 ((0:Nat):Int),.int .u64 ((first+i:Nat):Int),.int .u64 ((prev:Nat):Int),.int .i64 ((i:Nat):Int),.int .i64 ((N:Nat):Int),ev]:=by
    unfold jpC Cy spC;rw [hN];rfl
   refine E0 L ht2 ?_
   rw [show spC (Cy k sz first prev es i).1= [.int .u8 ((k:Nat):Int),.int .i64 ((0:Nat):Int),.int .u64 ((first+i:Nat):Int),.int .u64 ((prev:Nat):Int),.int .i64 ((i:Nat):Int),.int .i64 ((N:Nat):Int)] by unfold Cy spC;rw [hN];rfl]
   have hpl7:Ar [.int .u8 ((k:Nat):Int),.int .i64 ((0:Nat):Int),.int .u64 ((first+i:Nat):Int),.int .u64 ((prev:Nat):Int),.int .i64 ((i:Nat):Int),.int .i64 ((N:Nat):Int),ev]=true:=by
    simp only [Ar,hpl];rfl
   have hfin: ∀(h5:H) (lq3:List (Nat×Option AV)) (nb:Nat),Bk h5 nb ((sl++ [(Cy k sz first prev es i,ev)]).flatMap jpC)→h4.n≤nb→Kp (fun j=>h0.n≤j) h0 h5→(∀y∈sl,EL h5 h0.n y.2 y.1.2)→EL h5 h0.n ev (E6 sz es i)→(∀y∈sl,∀c n b',y.2= .slc b' 0 n c→b'<nb)→
     TSub (tms [(13,some (.slc nb 0 (i+1) (Aa+7))),(54,some (eI ((i+1:Nat):Int))),(53,some (eI ((N:Nat):Int))),(14,some (eI ((mostJ sz:Nat):Int))),(12,some (eI ((N:Nat):Int))),(4,some v),(3,some (.int .u64 ((prev:Nat):Int))),(2,some (.int .u64 ((first:Nat):Int))),(0,some (.int .u8 ((k:Nat):Int)))]) (tms lq3)→
     Good P0 E Q ⟨⟨141,cf141.ntmps,tms lq3,[.inLoop c141_32,.inBlock 1,.code c141_37],[],.run,false,none⟩,x::cs,h5⟩:=by
    intro h5 lq3 nb a1 a2 a3 a4 a5 a6 a7
    refine E0 L a7 ?_
    refine ih (.slc nb 0 (i+1) (Aa+7),sl++ [(Cy k sz first prev es i,ev)]) _ _ ⟨?_,.inr ⟨Nat.succ_pos i,nb,rfl,⟨a1,?_,by omega,?_⟩⟩,a3⟩ tsb
    ·rw [hrs,List.map_append,q1];rfl
    ·intro y hy
     rcases List.mem_append.1 hy with hy|hy
     ·exact a4 y hy
     ·rw [List.mem_singleton.1 hy];exact a5
    ·intro y hy
     rcases List.mem_append.1 hy with hy|hy
     ·exact a6 y hy
     ·rw [List.mem_singleton.1 hy];intro c n b' e;have:=hbd c n b' e;omega
   clear ih
   rcases q2 with⟨rfl,rfl⟩|⟨hi0,ob,rfl,pr⟩
   ·have hsl:sl= []:=List.length_eq_zero_iff.1 hlen7
    subst hsl
    have hev2:=hev
    rcases hev2.ex with⟨_,rfl⟩|⟨_,eb',rfl,_,_⟩
    ·refine wk ?_
     (apply st1 L rfl;exact F0 (new:=jpC (Cy k sz first prev es 0,.nils)) rfl rfl (SlR.of (c:=jpC (Cy k sz first prev es 0,.nils)) (by rw [hcell];exact lkp) (by rw [hcell];exact Nat.le_refl _) (by rw [hcell];rfl)) (by omega) (by omega);rfl)
     refine wk ?_
     refine hfin _ _ (h4.n+1) ?_ (by omega) kps (fun y hy=>by cases hy) (hev.mono (by omega) |>.k0 kps) (fun y hy=>by cases hy) tsb
     rw [List.nil_append,List.flatMap_cons,List.flatMap_nil,List.append_nil];exact lkp
    ·refine wk ?_
     (apply st1 L rfl;exact F0 (new:=jpC (Cy k sz first prev es 0,(.slc eb' 0 (E6 sz es 0).length (Aa+2)))) rfl rfl (SlR.of (c:=jpC (Cy k sz first prev es 0,(.slc eb' 0 (E6 sz es 0).length (Aa+2)))) (by rw [hcell];exact lkp) (by rw [hcell];exact Nat.le_refl _) (by rw [hcell];rfl)) (by omega) (by omega);rfl)
     refine wk ?_
     refine hfin _ _ (h4.n+1) ?_ (by omega) kps (fun y hy=>by cases hy) (hev.mono (by omega) |>.k0 kps) (fun y hy=>by cases hy) tsb
     rw [List.nil_append,List.flatMap_cons,List.flatMap_nil,List.append_nil];exact lkp
   ·have l5:=pr.k.lt
    have k5:Bk h4 ob (sl.flatMap jpC):=Ag k4 pr.k
    have hlo:=pr.lo
    have hbo:=pr.bd
    have hev2:=hev
    rcases hev2.ex with⟨_,rfl⟩|⟨_,eb',rfl,_,_⟩
    ·refine wk ?_
     (apply st1 L rfl;exact Fz (old:=sl.flatMap jpC) (new:=jpC (Cy k sz first prev es i,.nils)) rfl rfl (SlR.of (c:=sl.flatMap jpC) lkp (by rw [hfl,hlen7];omega) (by rw [List.drop_zero,List.take_of_length_le (by rw [hfl,hlen7];exact Nat.le_refl _)])) (SlR.of (c:=jpC (Cy k sz first prev es i,.nils)) (by rw [hcell];exact lkp) (by rw [hcell];exact Nat.le_refl _) (by rw [hcell];rfl)) (by omega) (by omega) (by rw [hcell];exact hpl7);rfl)
     refine wk ?_
     have kk: ∀u w,Kp (fun j=>j=ob) h4 (hp (h4.n+1+1) h4.t [(h4.n+1,some u),(ob,none),(h4.n,some w)]):=fun u w=>kps
     refine hfin _ _ (h4.n+1) ?_ (by omega) kps (fun y hy=>?_) ?_ (fun y hy c n b' e=>?_) tsb
     ·rw [List.flatMap_append,List.flatMap_cons,List.flatMap_nil,List.append_nil];exact lkp
     ·have h6:=(pr.el y hy).k0 k4
      rcases h6.ex with h7|⟨h7,b',h8,h9,h10⟩
      ·exact⟨.inl h7⟩
      ·exact⟨.inr ⟨h7,b',h8,As (kk _ _) (by have:=hbo y hy _ _ _ h8;omega) h9,h10⟩⟩
     ·rcases hev.ex with h7|⟨h7,b',h8,h9,h10⟩
      ·exact⟨.inl h7⟩
      ·exact⟨.inr ⟨h7,b',h8,As (kk _ _) (by omega) h9,by omega⟩⟩
     ·have:=hbo y hy _ _ _ e;omega
    ·refine wk ?_
     (apply st1 L rfl;exact Fz (old:=sl.flatMap jpC) (new:=jpC (Cy k sz first prev es i,(.slc eb' 0 (E6 sz es i).length (Aa+2)))) rfl rfl (SlR.of (c:=sl.flatMap jpC) lkp (by rw [hfl,hlen7];omega) (by rw [List.drop_zero,List.take_of_length_le (by rw [hfl,hlen7];exact Nat.le_refl _)])) (SlR.of (c:=jpC (Cy k sz first prev es i,(.slc eb' 0 (E6 sz es i).length (Aa+2)))) (by rw [hcell];exact lkp) (by rw [hcell];exact Nat.le_refl _) (by rw [hcell];rfl)) (by omega) (by omega) (by rw [hcell];exact hpl7);rfl)
     refine wk ?_
     have kk: ∀u w,Kp (fun j=>j=ob) h4 (hp (h4.n+1+1) h4.t [(h4.n+1,some u),(ob,none),(h4.n,some w)]):=fun u w=>kps
     refine hfin _ _ (h4.n+1) ?_ (by omega) kps (fun y hy=>?_) ?_ (fun y hy c n b' e=>?_) tsb
     ·rw [List.flatMap_append,List.flatMap_cons,List.flatMap_nil,List.append_nil];exact lkp
     ·have h6:=(pr.el y hy).k0 k4
      rcases h6.ex with h7|⟨h7,b',h8,h9,h10⟩
      ·exact⟨.inl h7⟩
      ·exact⟨.inr ⟨h7,b',h8,As (kk _ _) (by have:=hbo y hy _ _ _ h8;omega) h9,h10⟩⟩
     ·rcases hev.ex with h7|⟨h7,b',h8,h9,h10⟩
      ·exact⟨.inl h7⟩
      ·exact⟨.inr ⟨h7,b',h8,As (kk _ _) (by omega) h9,by omega⟩⟩
     ·have:=hbo y hy _ _ _ e;omega
  have hmi:mostJ sz*i≤200*2000:=Nat.mul_le_mul (by omega) (by omega)
  rcases q.len with⟨e0,rfl⟩|⟨hpos,eb,rfl,heb,-⟩
  ·have hi0:i=0:=by
    rcases hpart i hi with⟨_,e⟩|e
    ·exact e
    ·rw [e0]at e;simp at e
   subst hi0
   refine wk ?_
   (apply st1 L rfl;exact Aau rfl rfl rfl rfl (by omega) (by omega) rfl;rfl)
   refine wk ?_
   (apply st1 L rfl;exact Kz rfl rfl (by omega);rfl)
   refine wk ?_
   refine cal (c:=Wg L X) (g:=?_)
   rintro _ rfl
   rw [←hN]at*
   exact rest .nils h3 (by rw [show E6 sz es 0= [] by unfold E6;rw [e0];simp];exact EL.nil _ _) (Kp.refl _) _ (by unfold Cy spC;exact tsb)
  ·have hlt:mostJ sz*i<es.length:=by
    rcases hpart i hi with⟨e,_⟩|e
    ·rw [e]at hpos;exact absurd hpos (Nat.lt_irrefl 0)
    ·exact e
   have heb3:Bk h3 eb (es.flatMap Az):=As q3 (by have:=heb.lt;omega) heb
   have hel:=A8 es
   have lb3:=heb3.lt
   refine wk ?_
   (apply st1 L rfl;exact Aat rfl rfl rfl rfl (by omega) (by omega) (by omega) (by simp only [Aa];omega) hlt;rfl)
   refine wk ?_
   (apply st1 L rfl;exact Kz rfl rfl (by omega);rfl)
   refine wk ?_
   refine cal (c:=aw L X (n:=min (mostJ sz*i+mostJ sz) es.length - mostJ sz*i) (xs:=E6 sz es i) (SlR.of (c:=es.flatMap Az) lkp (by omega) (by rw [Nat.zero_add,We];unfold E6;congr 1;rw [List.take_eq_take_iff,List.length_drop];omega)) (by unfold E6;rw [List.length_take,List.length_drop];omega) (by omega)) (g:=?_)
   rintro ev h4 ⟨w1,w2⟩
   rw [←hN]at*
   exact rest ev h4 w1 (by exact w2) _ (by unfold Cy spC;exact tsb)
 ·rintro⟨sv,sl⟩ h3 ⟨q1,q2,q3⟩
  simp only at q1 q2
  rcases q2 with⟨e,_⟩|⟨_,b,rfl,pr⟩
  ·omega
  have hlen7:sl.length=N:=by
   have:=congrArg List.length q1
   rw [List.length_map,K1,List.length_map,List.length_range]at this;exact this
  refine wk ?_
  refine ret X.f141 ?_
  exact⟨b,sl,by rw [hlen7];rfl,q1,⟨pr.k,pr.el,pr.lo,pr.bd⟩,q3.cut (Nat.le_refl _)⟩
end
end
section
variable {P0:Program}{E:Env}{F:T CFn}{K:T (List AV×AV)}(L:Lg P0 E F K)(X:Fx F K)
include L X
section
variable {h:H}
theorem ay {k sz first prev:Nat}{v:AV}{es:List Ent}(q:EL h 0 v es)(hok: ∀e∈es,e.Ok)(hk:k=2∨k=3)(hsz:12≤sz∧sz<900)(hlen:es.length<1000)(hf:prev<first∧first<1000000000):
  Ct P0 E F K 141 [.int .u8 ((k:Nat):Int),eI ((sz:Nat):Int),.int .u64 ((first:Nat):Int),.int .u64 ((prev:Nat):Int),v] h fun u h'=> ∃b l,u= .tup [.slc b 0 l.length (Aa+7),eI ((0:Nat):Int)]∧l.map (·.1)=K1 k sz first prev es (cntJ sz es.length)∧PgsR h' h.n b l∧K0 h h':=by
 have hcn:cntJ sz es.length<2000:=by
  have hm:0<mostJ sz:=by unfold mostJ;omega
  have hm2:mostJ sz<200:=by unfold mostJ;omega
  unfold cntJ
  have:(es.length+mostJ sz - 1) / mostJ sz≤es.length+mostJ sz - 1:=Nat.div_le_self _ _
  omega
 have hcn1:0<cntJ sz es.length:=by unfold cntJ;omega
 rcases q.len with⟨e0,rfl⟩|⟨hpos,eb,rfl,heb,-⟩
 ·have e00:cntJ sz 0=cntJ sz es.length:=by rw [e0];rfl
  rcases hk with rfl|rfl
  all_goals
   refine Jy L X.f141 X.k141 rfl rfl fun Q x cs G=>?_
   refine wk ?_
   refine cal (c:=Rh L X (n:=0) hsz (by omega)) (g:=?_)
   rintro _ rfl
   rw [e00]
   refine wk ?_
   refine cal (c:=Fh L X q hlen hok) (g:=?_)
   rintro _ h2 ⟨rfl,k2⟩
   refine wk ?_
   refine cal (c:=Gf L X (sz:=sz) (by omega)) (g:=?_)
   rintro _ rfl
   refine wk ?_
   refine Ur L X q hsz hlen hf G (by exact k2) ?_
   exact tsb
 ·rcases hk with rfl|rfl
  all_goals
   refine Jy L X.f141 X.k141 rfl rfl fun Q x cs G=>?_
   refine wk ?_
   refine cal (c:=Rh L X (n:=es.length) hsz (by omega)) (g:=?_)
   rintro _ rfl
   refine wk ?_
   refine cal (c:=Fh L X q hlen hok) (g:=?_)
   rintro _ h2 ⟨rfl,k2⟩
   refine wk ?_
   refine cal (c:=Gf L X (sz:=sz) (by omega)) (g:=?_)
   rintro _ rfl
   refine wk ?_
   refine Ur L X q hsz hlen hf G (by exact k2) ?_
   exact tsb
end
end
section
variable {P0:Program}{E:Env}{F:T CFn}{K:T (List AV×AV)}(L:Lg P0 E F K)(X:Fx F K)
include L X
structure Ap where
 D:Dv
 S:Nat
 ps:Nat→Nat
 pe:Nat→Nat
 A:Int→Option Int
 next:Nat
 last:Nat
 dat:Int
 log:Int
 jr:Int→Bool
 su:Int→Bool
 wr:Int→Option Nat
 down:Bool
structure Ai where
 s:Nat
 p:Nat
 pb:Nat
 m:Nat
 r1:Nat
 r2:Nat
 vb:Nat
 rj:Nat
 rs:Nat
 rw:Nat
 d:Nat
def apC (I:Ai)(S:Ap):List AV:=
 [.ptr I.p 0,.ptr I.d 0,AI ((S.D.nb:Nat):Int),AI ((S.D.P:Nat):Int),AI ((S.D.sz:Nat):Int),AI ((S.D.en:Nat):Int),.ptr I.m 0,.int .u64 ((S.next:Nat):Int),.int .u64 ((S.last:Nat):Int),AI S.dat,AI S.log,.map I.rj,.map I.rs,.map I.rw,.bool S.down]
structure SetR (h:H)(r:Nat)(f:Int→Bool):Prop where
 ex: ∃M ck,Mk h r (M.map (mE AI)) ck∧MOk M ck∧ ∀k:Int,Bp M k=if f k=true then some (.bool true)else none
structure NumR (h:H)(r:Nat)(f:Int→Option Nat):Prop where
 ex: ∃M ck,Mk h r (M.map (mE AI)) ck∧MOk M ck∧ ∀k:Int,Bp M k=(f k).map fun n=> .int .u64 ((n:Nat):Int)
omit L X in
theorem SetR.kp {h h':H}{r:Nat}{f:Int→Bool}{B:Nat→Prop}(k:Kp B h h')(hb: ¬B r)(q:SetR h r f):SetR h' r f:=let⟨M,ck,q1,q2,q3⟩:=q.ex;⟨M,ck,Sc k hb q1,q2,q3⟩
omit L X in
theorem NumR.kp {h h':H}{r:Nat}{f:Int→Option Nat}{B:Nat→Prop}(k:Kp B h h')(hb: ¬B r)(q:NumR h r f):NumR h' r f:=let⟨M,ck,q1,q2,q3⟩:=q.ex;⟨M,ck,Sc k hb q1,q2,q3⟩
omit L X in
theorem SetR.lt {h:H}{r:Nat}{f:Int→Bool}(q:SetR h r f):r<h.n:=let⟨_,_,q1,_⟩:=q.ex;q1.lt
omit L X in
theorem NumR.lt {h:H}{r:Nat}{f:Int→Option Nat}(q:NumR h r f):r<h.n:=let⟨_,_,q1,_⟩:=q.ex;q1.lt
structure ApR (κ: Nat→Nat)(h:H)(I:Ai)(S:Ap):Prop where
 sk:Bk h I.s (apC I S)
 po: ∃cb,PoC h I.p I.pb S.D.nb S.ps S.pe cb
 dv:DevR κ h I.d S.D
 mp:MpR S.S S.D.nb S.D.P h I.m I.r1 I.r2 I.vb S.A
 mj:SetR h I.rj S.jr
 ms:SetR h I.rs S.su
 mw:NumR h I.rw S.wr
 col:κ I.s=101∧κ I.p=102∧κ I.pb=103∧κ I.m=104∧κ I.r1=105∧κ I.r2=106∧κ I.vb=107∧κ I.rj=108∧κ I.rs=109∧κ I.rw=110
structure AChg (κ: Nat→Nat)(h:H)(κ':Nat→Nat)(h':H):Prop where
 k:Kp (fun b=>1≤κ b∧κ b<200) h h'
 col: ∀b,b<h.n→κ' b=κ b
omit L X in
theorem AChg.refl (κ: Nat→Nat)(h:H):AChg κ h κ h:=⟨.refl _,fun _ _=>rfl⟩
omit L X in
theorem AChg.trans {κ κ1 κ2:Nat→Nat}{h h1 h2:H}(a:AChg κ h κ1 h1)(b:AChg κ1 h1 κ2 h2):AChg κ h κ2 h2:=
 ⟨Kp.trS b.k (fun i hi=>by rw [a.col i hi];exact id) a.k,fun x hx=>(b.col x (Nat.lt_of_lt_of_le hx a.k.n)).trans (a.col x hx)⟩
omit L X in
theorem Ch.a {κ κ':Nat→Nat}{h h':H}(q:Ch κ h κ' h'):AChg κ h κ' h':=⟨q.k.mono fun b e=>⟨e.1,by omega⟩,q.col⟩
omit L X in
theorem AChg.kp {κ: Nat→Nat}{h h':H}{B:Nat→Prop}(k:Kp B h h')(hb: ∀b,b<h.n→B b→1≤κ b∧κ b<200):AChg κ h κ h':=
 ⟨⟨k.n,fun b hb' hn=>k.old b hb' fun e=>hn (hb b hb' e)⟩,fun _ _=>rfl⟩
omit L X in
theorem AChg.k0 {κ κ':Nat→Nat}{h h':H}(k:K0 h h')(hc: ∀b,b<h.n→κ' b=κ b):AChg κ h κ' h':=⟨k.mono fun _ f=>f.elim,hc⟩
omit L X in
theorem AChg.bs {κ κ':Nat→Nat}{h h':H}{b o:Nat}{bs:List Nat}(q:AChg κ h κ' h')(k:BS h b o bs)(hc:κ b=0):BS h' b o bs∧κ' b=0:=
 ⟨T4 q.k (by omega) k,(q.col b k.lt_n).trans hc⟩
omit L X in
theorem DevC.rc {κ κ':Nat→Nat}{h:H}{d fm bb:Nat}{D:Dv}{cb:List AV}(q:DevC κ h d D fm bb cb)(hc: ∀b,b<h.n→κ' b=κ b):DevC κ' h d D fm bb cb:=
 have f:Fw κ h κ' h:=⟨Nat.le_refl _,fun _ _ _=>rfl,hc⟩
 ⟨q.dk,(hc _ q.dk.lt).trans q.dcol,q.fk,(hc _ q.fk.lt).trans q.fcol,q.bk,(hc _ q.bk.lt).trans q.bcol,q.blen,q.nb,fun i hi=>let⟨pn,c,h1⟩:=q.rows i hi;⟨pn,c,h1.fw f rfl⟩⟩
omit L X in
theorem ApR.lt {κ: Nat→Nat}{h:H}{I:Ai}{S:Ap}(q:ApR κ h I S):I.s<h.n∧I.p<h.n∧I.pb<h.n∧I.m<h.n∧I.r1<h.n∧I.r2<h.n∧I.vb<h.n∧I.rj<h.n∧I.rs<h.n∧I.rw<h.n:=by
 obtain⟨cb,q1⟩:=q.po
 have:=q.mp.lt
 exact⟨q.sk.lt,q1.pk.lt,q1.bk.lt,this.1,this.2.1,this.2.2.1,this.2.2.2,q.mj.lt,q.ms.lt,q.mw.lt⟩
omit L X in
theorem ApR.k0 {κ κ':Nat→Nat}{h h':H}{I:Ai}{S:Ap}(k:K0 h h')(hc: ∀b,b<h.n→κ' b=κ b)(q:ApR κ h I S):ApR κ' h' I S:=by
 obtain⟨l0,l1,l2,l3,l4,l5,l6,l7,l8,l9⟩:=q.lt
 have ok:=q.dv.ok
 have dv':DevR κ' h' I.d S.D:=by
  obtain⟨fm,bb,cb,q1⟩:=q.dv.ex
  exact DevR.k0 ⟨ok,fm,bb,cb,q1.rc hc⟩ k
 obtain⟨cb,q1⟩:=q.po
 exact⟨Ag k q.sk,⟨cb,q1.k0 k⟩,dv',q.mp.k0 k,q.mj.kp k id,q.ms.kp k id,q.mw.kp k id,by rw [hc _ l0,hc _ l1,hc _ l2,hc _ l3,hc _ l4,hc _ l5,hc _ l6,hc _ l7,hc _ l8,hc _ l9];exact q.col⟩
omit L X in
theorem ApR.dev {κ κ':Nat→Nat}{h h':H}{I:Ai}{S:Ap}{D':Dv}(q:ApR κ h I S)(ch:Ch κ h κ' h')(dv:DevR κ' h' I.d D')(g:D'.nb=S.D.nb∧D'.P=S.D.P∧D'.sz=S.D.sz∧D'.en=S.D.en):ApR κ' h' I {S with D:=D'}:=by
 obtain⟨l0,l1,l2,l3,l4,l5,l6,l7,l8,l9⟩:=q.lt
 obtain⟨c0,c1,c2,c3,c4,c5,c6,c7,c8,c9⟩:=q.col
 obtain⟨g1,g2,g3,g4⟩:=g
 obtain⟨cb,q1⟩:=q.po
 have hc:=ch.col
 refine⟨?_,⟨cb,?_⟩,dv,?_,q.mj.kp ch.k (by omega),q.ms.kp ch.k (by omega),q.mw.kp ch.k (by omega),by rw [hc _ l0,hc _ l1,hc _ l2,hc _ l3,hc _ l4,hc _ l5,hc _ l6,hc _ l7,hc _ l8,hc _ l9];exact q.col⟩
 ·refine O6 ?_ (As ch.k (by omega) q.sk)
  unfold apC;simp only [g1,g2,g3,g4]
 ·show PoC h' I.p I.pb D'.nb S.ps S.pe cb
  rw [g1];exact q1.kp ch.k (by omega) (by omega)
 ·show MpR S.S D'.nb D'.P h' I.m I.r1 I.r2 I.vb S.A
  rw [g1,g2];exact q.mp.kp ch.k (by omega) (by omega) (by omega) (by omega)
omit L X in
theorem ApR.dvk {κ: Nat→Nat}{h h':H}{I:Ai}{S:Ap}(q:ApR κ h I S){B:Nat→Prop}(k:Kp B h h')(hb: ∀b,b<h.n→B b→100≤κ b):DevR κ h' I.d S.D:=
 q.dv.kb ⟨k.n,fun b hb' hn=>k.old b hb' fun e=>hn (hb b hb' e)⟩
omit L X in
theorem ApR.st {κ: Nat→Nat}{h h':H}{I:Ai}{S S':Ap}(q:ApR κ h I S)(k:Kp (fun j=>j=I.s) h h')(sk:Bk h' I.s (apC I S'))(e:S'.D=S.D∧S'.S=S.S∧S'.ps=S.ps∧S'.pe=S.pe∧S'.A=S.A∧S'.jr=S.jr∧S'.su=S.su∧S'.wr=S.wr):ApR κ h' I S':=by
 obtain⟨c0,c1,c2,c3,c4,c5,c6,c7,c8,c9⟩:=q.col
 obtain⟨e1,e2,e3,e4,e5,e6,e7,e8⟩:=e
 obtain⟨cb,q1⟩:=q.po
 have ne: ∀{b:Nat},κ b≠101→ ¬b=I.s:=fun h e=>h (by rw [e];exact c0)
 refine⟨sk,⟨cb,?_⟩,?_,?_,by rw [e6];exact q.mj.kp k (ne (by omega)),by rw [e7];exact q.ms.kp k (ne (by omega)),by rw [e8];exact q.mw.kp k (ne (by omega)),q.col⟩
 ·rw [e1,e3,e4];exact q1.kp k (ne (by omega)) (ne (by omega))
 ·rw [e1];exact q.dvk k fun b _ e=>by subst e;omega
 ·rw [e1,e2,e5];exact q.mp.kp k (ne (by omega)) (ne (by omega)) (ne (by omega)) (ne (by omega))
omit L X in
theorem ApR.pool {κ: Nat→Nat}{h h':H}{I:Ai}{S:Ap}{ps pe:Nat→Nat}{cb:List AV}(q:ApR κ h I S)(k:Kp (fun j=>j=I.p∨j=I.pb) h h')(po:PoC h' I.p I.pb S.D.nb ps pe cb):ApR κ h' I {S with ps:=ps,pe:=pe}:=by
 obtain⟨c0,c1,c2,c3,c4,c5,c6,c7,c8,c9⟩:=q.col
 have ne: ∀{b:Nat},κ b≠102→κ b≠103→ ¬(b=I.p∨b=I.pb):=fun h h' e=>by rcases e with e|e <;> subst e <;> omega
 exact⟨As k (ne (by omega) (by omega)) q.sk,⟨cb,po⟩,q.dvk k fun b _ e=>by rcases e with e|e <;> subst e <;> omega,q.mp.kp k (ne (by omega) (by omega)) (ne (by omega) (by omega)) (ne (by omega) (by omega)) (ne (by omega) (by omega)),
  q.mj.kp k (ne (by omega) (by omega)),q.ms.kp k (ne (by omega) (by omega)),q.mw.kp k (ne (by omega) (by omega)),q.col⟩
omit L X in
theorem ApR.map {κ: Nat→Nat}{h h':H}{I:Ai}{S:Ap}{A:Int→Option Int}(q:ApR κ h I S)(k:Kp (fun j=>j=I.r1∨j=I.r2∨j=I.vb) h h')(mp:MpR S.S S.D.nb S.D.P h' I.m I.r1 I.r2 I.vb A):ApR κ h' I {S with A:=A}:=by
 obtain⟨c0,c1,c2,c3,c4,c5,c6,c7,c8,c9⟩:=q.col
 obtain⟨cb,q1⟩:=q.po
 have ne: ∀{b:Nat},κ b≠105→κ b≠106→κ b≠107→ ¬(b=I.r1∨b=I.r2∨b=I.vb):=fun h h' h'' e=>by rcases e with e|e|e <;> subst e <;> omega
 exact⟨As k (ne (by omega) (by omega) (by omega)) q.sk,⟨cb,q1.kp k (ne (by omega) (by omega) (by omega)) (ne (by omega) (by omega) (by omega))⟩,q.dvk k fun b _ e=>by rcases e with e|e|e <;> subst e <;> omega,mp,
  q.mj.kp k (ne (by omega) (by omega) (by omega)),q.ms.kp k (ne (by omega) (by omega) (by omega)),q.mw.kp k (ne (by omega) (by omega) (by omega)),q.col⟩
omit L X in
theorem ApR.one {κ: Nat→Nat}{h h':H}{I:Ai}{S:Ap}{r:Nat}(q:ApR κ h I S)(k:Kp (fun j=>j=r) h h')(hr:108≤κ r∧κ r<200):
  Bk h' I.s (apC I S)∧(∃cb,PoC h' I.p I.pb S.D.nb S.ps S.pe cb)∧DevR κ h' I.d S.D∧MpR S.S S.D.nb S.D.P h' I.m I.r1 I.r2 I.vb S.A∧(I.rj≠r→SetR h' I.rj S.jr)∧(I.rs≠r→SetR h' I.rs S.su)∧(I.rw≠r→NumR h' I.rw S.wr):=by
 obtain⟨c0,c1,c2,c3,c4,c5,c6,c7,c8,c9⟩:=q.col
 obtain⟨cb,q1⟩:=q.po
 have ne: ∀{b:Nat},κ b<108→ ¬b=r:=fun h e=>by subst e;omega
 exact⟨As k (ne (by omega)) q.sk,⟨cb,q1.kp k (ne (by omega)) (ne (by omega))⟩,q.dvk k fun b _ e=>by subst e;omega,q.mp.kp k (ne (by omega)) (ne (by omega)) (ne (by omega)) (ne (by omega)),fun hne=>q.mj.kp k hne,fun hne=>q.ms.kp k hne,fun hne=>q.mw.kp k hne⟩
omit L X in
theorem ApR.jset {κ: Nat→Nat}{h h':H}{I:Ai}{S:Ap}{f:Int→Bool}(q:ApR κ h I S)(k:Kp (fun j=>j=I.rj) h h')(m:SetR h' I.rj f):ApR κ h' I {S with jr:=f}:=by
 obtain⟨c0,c1,c2,c3,c4,c5,c6,c7,c8,c9⟩:=q.col
 obtain⟨a1,a2,a3,a4,a5,a6,a7⟩:=q.one k (by omega)
 exact⟨a1,a2,a3,a4,m,a6 (fun e=>by rw [e]at c8;omega),a7 (fun e=>by rw [e]at c9;omega),q.col⟩
omit L X in
theorem ApR.sset {κ: Nat→Nat}{h h':H}{I:Ai}{S:Ap}{f:Int→Bool}(q:ApR κ h I S)(k:Kp (fun j=>j=I.rs) h h')(m:SetR h' I.rs f):ApR κ h' I {S with su:=f}:=by
 obtain⟨c0,c1,c2,c3,c4,c5,c6,c7,c8,c9⟩:=q.col
 obtain⟨a1,a2,a3,a4,a5,a6,a7⟩:=q.one k (by omega)
 exact⟨a1,a2,a3,a4,a5 (fun e=>by rw [e]at c7;omega),m,a7 (fun e=>by rw [e]at c9;omega),q.col⟩
omit L X in
theorem ApR.wset {κ: Nat→Nat}{h h':H}{I:Ai}{S:Ap}{f:Int→Option Nat}(q:ApR κ h I S)(k:Kp (fun j=>j=I.rw) h h')(m:NumR h' I.rw f):ApR κ h' I {S with wr:=f}:=by
 obtain⟨c0,c1,c2,c3,c4,c5,c6,c7,c8,c9⟩:=q.col
 obtain⟨a1,a2,a3,a4,a5,a6,a7⟩:=q.one k (by omega)
 exact⟨a1,a2,a3,a4,a5 (fun e=>by rw [e]at c7;omega),a6 (fun e=>by rw [e]at c8;omega),m,q.col⟩
def A1 (f:Int→Bool)(k:Int)(b:Bool):Int→Bool:=fun j=>if j=k then b else f j
def Gn (f:Int→Option Nat)(k:Int)(b:Option Nat):Int→Option Nat:=fun j=>if j=k then b else f j
end
section
variable {P0:Program}{E:Env}{F:T CFn}{K:T (List AV×AV)}(L:Lg P0 E F K)(X:Fx F K)
include L X
def Ap.sel (S:Ap)(k:Bool):Int:=if k=true then S.log else S.dat
def Ap.put (S:Ap)(k:Bool)(b:Int):Ap:=if k=true then {S with log:=b}else {S with dat:=b}
def Ap.cls (S:Ap)(k:Bool):Ap:=if 0≤S.sel k∧(S.D.bl (S.sel k).toNat).nx=S.D.P then({S with ps:=upd S.ps (S.sel k).toNat 3}).put k (-1)else S
def Ap.opn (S:Ap)(k:Bool):Option Ap:=
 if S.sel k<0 then
  if(Cw S.ps S.pe 1 S.D.nb).1<0 then none
  else some (({S with ps:=upd S.ps (Cw S.ps S.pe 1 S.D.nb).1.toNat 2,jr:=if k=true then A1 S.jr (Cw S.ps S.pe 1 S.D.nb).1 true else S.jr}).put k (Cw S.ps S.pe 1 S.D.nb).1)
 else some S
inductive WO where
 |done (p:Nat)
 |full
 |pow
 |again
def Ap.w1 (S:Ap)(k:Bool)(all:List Nat):Ap×WO:=
 match(S.cls k).opn k with
 |none=>(S.cls k,.full)
 |some S2=>
  if(S2.D.prog (S2.sel k) all).2=50 then({S2 with D:=(S2.D.prog (S2.sel k) all).1,down:=true},.pow)
  else if(S2.D.prog (S2.sel k) all).2=0 then({S2 with D:=(S2.D.prog (S2.sel k) all).1},.done ((S2.sel k).toNat*S2.D.P+(S2.D.bl (S2.sel k).toNat).nx))
  else(({S2 with D:=(S2.D.prog (S2.sel k) all).1,su:=A1 S2.su (S2.sel k) true,ps:=upd S2.ps (S2.sel k).toNat 3}).put k (-1),.again)
inductive WrP (k:Bool)(all:List Nat):Ap→Ap→WO→Prop where
 |stop {S:Ap} (h:(S.w1 k all).2≠ .again):WrP k all S (S.w1 k all).1 (S.w1 k all).2
 |more {S S':Ap} {r:WO} (h:(S.w1 k all).2= .again) (t:WrP k all (S.w1 k all).1 S' r):WrP k all S S' r
structure WI (S:Ap)(k:Bool):Prop where
 sel:0≤S.sel k→S.sel k<S.D.nb∧S.ps (S.sel k).toNat=2
 lo: -1≤S.sel k
def frees (S:Ap):Nat:=cntS S.ps 1 S.D.nb
def muW (S:Ap)(k:Bool):Nat:=2*frees S+if 0≤S.sel k then 1 else 0
section
variable {h:H}{κ: Nat→Nat}{I:Ai}{S:Ap}
theorem Fk {e:Int}(he:e≠50){s:AV}:Ct P0 E F K 105 [s,AI e] h fun v h'=>v= .tup []∧h'=h:=by
 refine Ad L X.f105 X.k105 rfl rfl fun Q x cs G=>?_
 refine wk ?_
 refine ret X.f105 ?_
 exact⟨rfl,rfl⟩
theorem Jd (r:ApR κ h I S):CtP P0 E F K 105 [.ptr I.s 0,AI ((50:Nat):Int)] h fun v h'=>v= .ifc 44 (AI ((50:Nat):Int))∧ApR κ h' I {S with down:=true}∧Kp (fun j=>j=I.s) h h':=by
 have sk:=r.sk
 unfold apC at sk
 refine Fe L X.f105 X.k105 rfl rfl rfl fun Q x cs G=>?_
 refine wk ?_
 refine Pk L rfl rfl ?_
 refine Ao L X.f105 ?_
 have kk:Kp (fun j=>j=I.s) h (hp h.n h.t [(I.s,some (cl (apC I {S with down:=true})))]):=kps
 exact G _ _ ⟨rfl,r.st kk lkp ⟨rfl,rfl,rfl,rfl,rfl,rfl,rfl,rfl⟩,kk⟩
end
end
section
variable {P0:Program}{E:Env}{F:T CFn}{K:T (List AV×AV)}(L:Lg P0 E F K)(X:Fx F K)
include L X
omit L X in
theorem Dv.prog_geo (D:Dv)(i:Int)(all:List Nat):((D.prog i all).1.nb=D.nb∧(D.prog i all).1.P=D.P∧(D.prog i all).1.sz=D.sz∧(D.prog i all).1.en=D.en)∧(D.prog i all).1.n≤D.n+1:=by
 unfold Dv.prog
 split
 ·split
  ·exact⟨⟨rfl,rfl,rfl,rfl⟩,Nat.le_succ _⟩
  ·exact⟨⟨rfl,rfl,rfl,rfl⟩,Nat.le_refl _⟩
 ·exact⟨⟨rfl,rfl,rfl,rfl⟩,Nat.le_succ _⟩
omit L X in
theorem SetR.set {n:Nat}{t:T Blk}{lh:List (Nat×Option Blk)}{r ck:Nat}{f:Int→Bool}{M:List (Int×AV×Nat)}{k:Int}(q1:Mk (hp n t lh) r ((Dp M ck k (.bool true)).map (mE AI)) (mCk M ck k))(q2:MOk M ck)(q3: ∀k:Int,Bp M k=if f k=true then some (.bool true)else none):SetR (hp n t lh) r (A1 f k true):=by
 refine⟨_,_,q1,q2.set _ _,fun j=>?_⟩
 rw [C2,q3];unfold A1
 by_cases e:j=k
 ·rw [if_pos e,if_pos e];rfl
 ·rw [if_neg e,if_neg e]
section
variable {h:H}{κ: Nat→Nat}{I:Ai}
theorem az {S0:Ap}{b1 o1 c1:Nat}{sp:Sp}{data:List Nat}(T:Tb P0 E F K)(r0:ApR κ h I S0)(wi:WI S0 false)(q:sp.Fit)(hk:sp.kind=1)(kd:BS h b1 o1 data)(hc:κ b1=0)(hd:data.length=S0.D.sz)(hn:S0.D.n+muW S0 false+2<100000):
  CtX P0 E F K 104 [.ptr I.s 0,.ptr I.s 9,.agg (spC sp),.slc b1 o1 S0.D.sz c1] h
   (fun v h'=> ∃p S' κ',v=AI ((p:Nat):Int)∧p<1000∧WrP false (data++An sp data) S0 S' (.done p)∧ApR κ' h' I S'∧AChg κ h κ' h')
   (fun v h'=> ∃(e:Nat) (S':Ap) (κ':Nat→Nat),v= .ifc 44 (AI ((e:Nat):Int))∧((e=7∧WrP false (data++An sp data) S0 S' .full)∨(e=50∧WrP false (data++An sp data) S0 S' .pow))∧ApR κ' h' I S'∧AChg κ h κ' h'):=by
 have hsz:=r0.dv.ok.g.sz
 have l1:=kd.lt_n
 have l0:=r0.sk.lt
 refine Ca L X.f104 X.k104 rfl rfl rfl fun Q x cs G Gp=>?_
 refine wk ?_
 refine cal (c:=Rb L X (data:=data) T q lkb hd (by omega)) (g:=?_)
 rintro _ h2 ⟨eb,rfl,w1,w2,w3⟩
 simp only [Am]at w2
 have n2:=w3.n
 simp only [Am]at n2
 refine wk ?_
 refine cal (c:=Av L X) (g:=?_)
 rintro _ rfl
 refine wk ?_
 have lenx:(An sp data).length=64:=by unfold An;rw [List.length_append,A5,Ec]
 refine ru L (α:= Ap×(Nat→Nat)) (T:=fun s=> [(0,some (.ptr I.s 0)),(1,some (.ptr I.s 9)),(3,some (.slc b1 o1 S0.D.sz c1)),(6,some (.ptr h.n 0)),(9,some (.slc eb 0 64 (Aa+1)))]) (mu:=fun s=>muW s.1 false)
  (R:=fun s hh=>ApR s.2 hh I s.1∧AChg κ h s.2 hh∧(∀S' r,WrP false (data++An sp data) s.1 S' r→WrP false (data++An sp data) S0 S' r)∧WI s.1 false∧s.1.D.sz=S0.D.sz∧BS hh b1 o1 data∧s.2 b1=0∧BS hh eb 0 (An sp data)∧s.2 eb=0∧Bk hh h.n (spC sp)∧s.2 h.n=0∧s.1.D.n+muW s.1 false+2<100000) (S0,ext κ h.n) tsb
  ⟨r0.k0 (by exact Kp.tr0 w3 kps) (fun b hb=>Af hb),AChg.k0 (by exact Kp.tr0 w3 kps) (fun b hb=>Af hb),fun _ _ h=>h,wi,rfl,lkb,(by show ext κ h.n b1=0;rw [Af l1];exact hc),lkb,B4 (by omega),lkp,B4 (Nat.le_refl _),hn⟩ ?_
 rintro⟨S,κs⟩ hh ⟨r,ch,hw,wi,esz,kd2,hc2,ke2,hce,ksp,hcs,hn⟩ ih
 simp only at r ch hw wi esz hc2 hce hcs hn ih
 have sk:=r.sk
 obtain⟨cb,po⟩:=r.po
 have lt:=r.lt
 have col:=r.col
 have ok:=r.dv.ok
 obtain⟨v1,v2⟩:=wi
 obtain⟨_,fm,bb,db,dc⟩:=r.dv
 have hnb:=ok.g.nb
 have hP:=ok.g.P
 have prog: ∀(S2:Ap) (κ2:Nat→Nat) (h4:H) (lq:List (Nat×Option AV)) (b:Nat),(S.cls false).opn false=some S2→S2.dat=((b:Nat):Int)→b<S2.D.nb→S2.ps b=2→ApR κ2 h4 I S2→AChg κs hh κ2 h4→S2.D=S.D→2*frees S2+1≤muW S false→TSub (tms [(96,some (AI ((b:Nat):Int))),(95,some (.ptr I.d 0)),(13,some (AI ((b:Nat):Int))),(0,some (.ptr I.s 0)),(1,some (.ptr I.s 9)),(3,some (.slc b1 o1 S0.D.sz c1)),(6,some (.ptr h.n 0)),(9,some (.slc eb 0 64 (Aa+1)))]) (tms lq)→
   Good P0 E Q ⟨⟨104,cf104.ntmps,tms lq,[.ops [Cc 97 20 [(.t 95),(.t 96)],Cv 14 97],.code c104_38,.inBlock 1,.inLoop c104_43,.inBlock 0],[],.run,false,none⟩,x::cs,hp h4.n h4.t []⟩:=by
  intro S2 κ2 h4 lq b e1 e2 hb hps r2 ch2 eD hmu ht
  refine E0 L ht ?_
  have r2':=r2.dv
  obtain⟨ok2,fm2,bb2,db2,dc2⟩:=r2'
  obtain⟨pn,c,hr⟩:=dc2.rows b hb
  have kd4:=ch2.bs kd2 hc2
  have ke4:=ch2.bs ke2 hce
  have ksp4:Bk h4 h.n (spC sp):=As ch2.k (by omega) ksp
  have hcs4:κ2 h.n=0:=(ch2.col _ ksp.lt).trans hcs
  have sk2:=r2.sk
  have ls2:=sk2.lt
  have hsel:S2.sel false=((b:Nat):Int):=e2
  refine cal (c:=Kt L X dc2.dk dc2.bk hb hr.c1) (g:=?_)
  rintro _ rfl
  unfold apC at sk2
  refine wk ?_
  have hsz2:S2.D.sz=S0.D.sz:=by rw [eD,esz]
  have fp:=M0 (h:=hp h4.n h4.t []) (c1:=c1) (c2:=Aa+1) L X (i:=((b:Nat):Int)) (p:=(S2.D.bl b).nx) (data:=data) (extra:=An sp data) r2.dv (by rw [eD];omega) (fun _=>by rw [Int.toNat_natCast]) kd4.1 ke4.1 (by rw [hsz2];exact hd) lenx
  rw [hsz2]at fp
  refine cal (c:=fp) (g:=?_)
  rintro _ h5 ⟨rfl,κ5,dv5,ch5⟩
  obtain⟨g1,g2⟩:=S2.D.prog_geo ((b:Nat):Int) (data++An sp data)
  have r5:=r2.dev ch5 dv5 g1
  have a5:AChg κs hh κ5 h5:=ch2.trans ch5.a
  have sk5:=r5.sk
  have ls5:=sk5.lt
  by_cases hpow:(S2.D.prog ((b:Nat):Int) (data++An sp data)).2=50
  ·have ew:S.w1 false (data++An sp data)=({S2 with D:=(S2.D.prog ((b:Nat):Int) (data++An sp data)).1,down:=true},.pow):=by
    unfold Ap.w1;rw [e1];simp only [hsel];rw [if_pos hpow]
   rw [hpow]
   refine wk ?_
   refine Et L rfl rfl rfl rfl rfl (Jd L X r5) ?_
   rintro _ h6 ⟨rfl,r6,k6⟩
   refine Ao L X.f104 ?_
   have hst:WrP false (data++An sp data) S {S2 with D:=(S2.D.prog ((b:Nat):Int) (data++An sp data)).1,down:=true} .pow:=by
    have h1:=WrP.stop (k:=false) (all:=data++An sp data) (S:=S) (by rw [ew];intro e;cases e)
    rw [ew]at h1;exact h1
   exact Gp _ _ ⟨50,_,κ5,rfl,.inr ⟨rfl,hw _ _ hst⟩,r6,ch.trans (a5.trans (AChg.kp k6 fun b _ e=>by subst e;have:=r5.col;omega))⟩
  ·by_cases h0:(S2.D.prog ((b:Nat):Int) (data++An sp data)).2=0
   ·have ew:S.w1 false (data++An sp data)=({S2 with D:=(S2.D.prog ((b:Nat):Int) (data++An sp data)).1},.done (b*S2.D.P+(S2.D.bl b).nx)):=by
     unfold Ap.w1;rw [e1];simp only [hsel,Int.toNat_natCast];rw [if_neg hpow,if_pos h0]
    rw [h0]
    unfold apC at sk5
    refine wk ?_
    refine cal (c:=Fk L X (e:=((0:Nat):Int)) (by omega)) (g:=?_)
    rintro _ rfl
    have hbn:=ok2.bl b hb
    have hnx:=hbn.nx
    have hP2:=ok2.g.P
    have hnb2:=ok2.g.nb
    have hmul:b*S2.D.P≤12*6:=Nat.mul_le_mul (by omega) (by omega)
    have g1':(S2.D.prog ((b:Nat):Int) (data++An sp data)).1.P=S2.D.P:=g1.2.1
    simp only [g1']at sk5
    refine wk ?_
    refine ret X.f104 ?_
    have hst:WrP false (data++An sp data) S {S2 with D:=(S2.D.prog ((b:Nat):Int) (data++An sp data)).1} (.done (b*S2.D.P+(S2.D.bl b).nx)):=by
     have h1:=WrP.stop (k:=false) (all:=data++An sp data) (S:=S) (by rw [ew];intro e;cases e)
     rw [ew]at h1;exact h1
    exact⟨_,_,κ5,rfl,by omega,hw _ _ hst,r5.k0 kps fun _ _=>rfl,ch.trans (a5.trans (AChg.k0 kps fun _ _=>rfl))⟩
   ·have ew:S.w1 false (data++An sp data)=({S2 with D:=(S2.D.prog ((b:Nat):Int) (data++An sp data)).1,su:=A1 S2.su ((b:Nat):Int) true,ps:=upd S2.ps b 3,dat:= -1},.again):=by
     unfold Ap.w1;rw [e1];simp only [hsel,Int.toNat_natCast];rw [if_neg hpow,if_neg h0];rfl
    have hpos:0<(S2.D.prog ((b:Nat):Int) (data++An sp data)).2:=by omega
    have hlt9:(S2.D.prog ((b:Nat):Int) (data++An sp data)).2<1000:=by
     unfold Dv.prog;split
     ·split
      ·show 50<1000;omega
      ·show(if _ then 50 else if _ then 54 else 0)<1000
       split
       ·omega
       ·split <;> omega
     ·show 2<1000;omega
    unfold apC at sk5
    generalize hE:(S2.D.prog ((b:Nat):Int) (data++An sp data)).2=er at*
    refine wk ?_
    refine cal (c:=Fk L X (e:=((er:Nat):Int)) (by omega)) (g:=?_)
    rintro _ rfl
    obtain⟨M,ck,m1,m2,m3⟩:=r5.ms.ex
    have lm:=m1.lt
    have nms:I.s≠I.rs:=fun e=>by have:=r5.col;rw [e]at this;omega
    refine wk ?_
    (apply Jz L rfl;exact Hp (KE.int .i64) m2 rfl rfl rfl lkq;rfl)
    have k6:Kp (fun j=>j=I.rs) h5 (hp h5.n h5.t [(I.rs,some (.map ((Dp M ck ((b:Nat):Int) (.bool true)).map (mE AI)) (mCk M ck ((b:Nat):Int))))]):=kps
    have r6:=r5.sset k6 (SetR.set (k:=((b:Nat):Int)) lkq m2 m3)
    obtain⟨cb6,po6⟩:=r6.po
    have hb6:b<(S2.D.prog ((b:Nat):Int) (data++An sp data)).1.nb:=by rw [g1.1];exact hb
    refine wk ?_
    refine cal (c:=G6 L X po6 hb6 hps) (g:=?_)
    rintro _ h7 ⟨rfl,po7,k7⟩
    have r7:=r6.pool k7 po7
    have sk7:=r7.sk
    have ls7:=sk7.lt
    unfold apC at sk7
    refine wk ?_
    have k8:Kp (fun j=>j=I.s) h7 (hp h7.n h7.t [(I.s,some (cl (apC I {S2 with D:=(S2.D.prog ((b:Nat):Int) (data++An sp data)).1,su:=A1 S2.su ((b:Nat):Int) true,ps:=upd S2.ps b 3,dat:= -1})))]):=kps
    have r8:=r7.st (S':= {S2 with D:=(S2.D.prog ((b:Nat):Int) (data++An sp data)).1,su:=A1 S2.su ((b:Nat):Int) true,ps:=upd S2.ps b 3,dat:= -1}) k8 lkp ⟨rfl,rfl,rfl,rfl,rfl,rfl,rfl,rfl⟩
    have a6:AChg κ5 h5 κ5 _:=AChg.kp k6 fun b _ e=>by subst e;have:=r5.col;omega
    have a7:AChg κ5 _ κ5 h7:=AChg.kp k7 fun b _ e=>by rcases e with e|e <;> subst e <;> (have:=r6.col;omega)
    have a8:AChg κ5 h7 κ5 _:=AChg.kp k8 fun b _ e=>by subst e;have:=r7.col;omega
    have aa:=a5.trans (a6.trans (a7.trans a8))
    have kd8:=aa.bs kd2 hc2
    have ke8:=aa.bs ke2 hce
    have hmu8:muW {S2 with D:=(S2.D.prog ((b:Nat):Int) (data++An sp data)).1,su:=A1 S2.su ((b:Nat):Int) true,ps:=upd S2.ps b 3,dat:= -1} false=2*frees S2:=by
     unfold muW frees Ap.sel
     simp only [g1.1]
     have:=B3 S2.ps b 3 1 S2.D.nb hb
     rw [hps]at this
     simp at this
     simp [this]
    refine ih ({S2 with D:=(S2.D.prog ((b:Nat):Int) (data++An sp data)).1,su:=A1 S2.su ((b:Nat):Int) true,ps:=upd S2.ps b 3,dat:= -1},κ5) _ _ ?_ ⟨r8,ch.trans aa,fun S' r' hw'=>hw _ _ (.more (by rw [ew]) (by rw [ew];exact hw')),⟨fun e=>absurd e (by unfold Ap.sel;simp),by unfold Ap.sel;simp⟩,?_,kd8.1,kd8.2,ke8.1,ke8.2,As aa.k (by omega) ksp,(aa.col _ ksp.lt).trans hcs,?_⟩ tsb
    ·simp only [hmu8];omega
    ·simp only [g1.2.2.1];exact hsz2
    ·have eDn:S2.D.n=S.D.n:=by rw [eD]
     simp only [hmu8];omega
 have take: ∀(h4:H) (lq:List (Nat×Option AV)),(S.cls false).dat<0→ApR κs h4 I (S.cls false)→AChg κs hh κs h4→(S.cls false).D=S.D→2*frees (S.cls false)≤muW S false→TSub (tms [(69,some (.ptr I.p 0)),(0,some (.ptr I.s 0)),(1,some (.ptr I.s 9)),(3,some (.slc b1 o1 S0.D.sz c1)),(6,some (.ptr h.n 0)),(9,some (.slc eb 0 64 (Aa+1)))]) (tms lq)→
   Good P0 E Q ⟨⟨104,cf104.ntmps,tms lq,[.ops [Cc 70 146 [(.t 69)],Cv 65 70,Ce 71 65 0,Ce 72 65 1,Cv 11 71,Cv 12 72],.code c104_18,.code c104_40,.inBlock 1,.inLoop c104_43,.inBlock 0],[],.run,false,none⟩,x::cs,hp h4.n h4.t []⟩:=by
  intro h4 lq hneg r2 ch2 eD hmu ht
  refine E0 L ht ?_
  generalize hS1:S.cls false=S1 at*
  obtain⟨cb2,po2⟩:=r2.po
  have ksp4:Bk h4 h.n (spC sp):=As ch2.k (by omega) ksp
  have lsp:=ksp4.lt
  refine cal (c:=X6 L X po2) (g:=?_)
  rintro _ h5 (⟨e1,e2,rfl,k5⟩|⟨b,e1,hb,e2,rfl,po5,k5⟩)
  ·refine wk ?_
   refine Et L rfl rfl rfl rfl rfl (Bo L X) ?_
   rintro _ _ ⟨rfl,rfl⟩
   refine Ao L X.f104 ?_
   have ew:S.w1 false (data++An sp data)=(S1,.full):=by
    unfold Ap.w1;rw [hS1]
    have:S1.opn false=none:=by unfold Ap.opn;rw [if_pos (show S1.sel false<0 from hneg),if_pos (by rw [e1];omega)]
    rw [this]
   have hst:WrP false (data++An sp data) S S1 .full:=by
    have h1:=WrP.stop (k:=false) (all:=data++An sp data) (S:=S) (by rw [ew];intro e;cases e)
    rw [ew]at h1;exact h1
   exact Gp _ _ ⟨7,S1,κs,rfl,.inl ⟨rfl,hw _ _ hst⟩,r2.k0 kps fun _ _=>rfl,ch.trans (ch2.trans (AChg.k0 kps fun _ _=>rfl))⟩
  ·have r5:=r2.pool k5 po5
   have a5:AChg κs h4 κs h5:=AChg.kp k5 fun b _ e=>by rcases e with e|e <;> subst e <;> (have:=r2.col;omega)
   have ksp5:Bk h5 h.n (spC sp):=As a5.k (by have:=ch2.col _ ksp.lt;omega) ksp4
   have sk5:=r5.sk
   have ls5:=sk5.lt
   have nsp:h.n≠I.s:=fun e=>by have:=r5.col;rw [←e]at this;omega
   unfold apC at sk5
   unfold spC at ksp5
   refine wk ?_
   refine cal (c:=Av L X) (g:=?_)
   rintro _ rfl
   have k6:Kp (fun j=>j=I.s) h5 (hp h5.n h5.t [(I.s,some (cl (apC I {S1 with ps:=upd S1.ps b 2,dat:=((b:Nat):Int)})))]):=kps
   have r6:=r5.st (S':= {S1 with ps:=upd S1.ps b 2,dat:=((b:Nat):Int)}) k6 (by unfold apC;exact lkp) ⟨rfl,rfl,rfl,rfl,rfl,rfl,rfl,rfl⟩
   have a6:AChg κs h5 κs _:=AChg.kp k6 fun b _ e=>by subst e;have:=r5.col;omega
   have sk6:=r6.sk
   rw [hk]at ksp5
   refine wk ?_
   refine prog {S1 with ps:=upd S1.ps b 2,dat:=((b:Nat):Int)} κs _ _ b ?_ rfl hb (upd_eq _ _ _) r6 (ch2.trans (a5.trans a6)) eD ?_ tsb
   ·unfold Ap.opn;rw [if_pos (show S1.sel false<0 from hneg),if_neg (by rw [e1];omega),e1,Int.toNat_natCast];rfl
   ·have:=B3 S1.ps b 2 1 S1.D.nb hb
    rw [e2]at this
    simp at this
    unfold frees at hmu ⊢
    simp only
    omega
 by_cases hb0:0≤S.dat
 ·obtain⟨b,hbe⟩: ∃b:Nat,S.dat=((b:Nat):Int):=⟨S.dat.toNat,by omega⟩
  have hsel:S.sel false=((b:Nat):Int):=hbe
  obtain⟨v3,v4⟩:=v1 (by rw [hsel];omega)
  rw [hsel]at v3
  rw [hsel,Int.toNat_natCast]at v4
  have hb:b<S.D.nb:=by omega
  obtain⟨pn,c,hr⟩:=dc.rows b hb
  have hmu:muW S false=2*frees S+1:=by unfold muW;rw [hsel,if_pos (by omega)]
  unfold apC at sk
  rw [hbe]at sk
  refine wk ?_
  refine cal (c:=Kt L X dc.dk dc.bk hb hr.c1) (g:=?_)
  rintro _ rfl
  by_cases hfull:(S.D.bl b).nx=S.D.P
  ·have ec:S.cls false= {S with ps:=upd S.ps b 3,dat:= -1}:=by
    unfold Ap.cls;rw [hsel,Int.toNat_natCast,if_pos ⟨by omega,hfull⟩];rfl
   refine wk ?_
   refine cal (c:=G6 L X po hb v4) (g:=?_)
   rintro _ h4 ⟨rfl,po4,k4⟩
   have r4:=r.pool k4 po4
   have sk4:=r4.sk
   have ls4:=sk4.lt
   unfold apC at sk4
   refine wk ?_
   have k5:Kp (fun j=>j=I.s) h4 (hp h4.n h4.t [(I.s,some (cl (apC I {S with ps:=upd S.ps b 3,dat:= -1})))]):=kps
   have r5:=r4.st (S':= {S with ps:=upd S.ps b 3,dat:= -1}) k5 (by unfold apC;exact lkp) ⟨rfl,rfl,rfl,rfl,rfl,rfl,rfl,rfl⟩
   have a4:AChg κs hh κs h4:=AChg.kp k4 fun b _ e=>by rcases e with e|e <;> subst e <;> omega
   have a5:AChg κs h4 κs _:=AChg.kp k5 fun b _ e=>by subst e;omega
   refine take _ _ (by rw [ec];show(-1:Int)<0;omega) (by rw [ec];exact r5) (a4.trans a5) (by rw [ec]) ?_ tsb
   rw [ec,hmu]
   have:=B3 S.ps b 3 1 S.D.nb hb
   rw [v4]at this
   simp at this
   unfold frees;simp only;omega
  ·have ec:S.cls false=S:=by
    unfold Ap.cls;rw [hsel,Int.toNat_natCast,if_neg (by omega)]
   have eo:(S.cls false).opn false=some S:=by rw [ec];unfold Ap.opn;rw [hsel,if_neg (by omega)]
   refine wk ?_
   exact prog S κs _ _ b eo hbe hb v4 (r.k0 kps fun _ _=>rfl) (AChg.k0 kps fun _ _=>rfl) rfl (by omega) tsb
 ·have ec:S.cls false=S:=by
   unfold Ap.cls;rw [if_neg];rintro⟨e,-⟩;exact hb0 e
  have hneg:S.dat= -1:=by have: -1≤S.dat:=v2;omega
  unfold apC at sk
  rw [hneg]at sk
  refine wk ?_
  refine take _ _ (by rw [ec,hneg];omega) (by rw [ec];exact r.k0 kps fun _ _=>rfl) (AChg.k0 kps fun _ _=>rfl) (by rw [ec]) ?_ tsb
  rw [ec];unfold muW;omega
end
end
section
variable {P0:Program}{E:Env}{F:T CFn}{K:T (List AV×AV)}(L:Lg P0 E F K)(X:Fx F K)
include L X
section
variable {h:H}{κ: Nat→Nat}{I:Ai}
theorem ba {S0:Ap}{b1 o1 c1:Nat}{sp:Sp}{data:List Nat}(T:Tb P0 E F K)(r0:ApR κ h I S0)(wi:WI S0 true)(q:sp.Fit)(hk:sp.kind≠1)(kd:BS h b1 o1 data)(hc:κ b1=0)(hd:data.length=S0.D.sz)(hn:S0.D.n+muW S0 true+2<100000):
  CtX P0 E F K 104 [.ptr I.s 0,.ptr I.s 10,.agg (spC sp),.slc b1 o1 S0.D.sz c1] h
   (fun v h'=> ∃p S' κ',v=AI ((p:Nat):Int)∧p<1000∧WrP true (data++An sp data) S0 S' (.done p)∧ApR κ' h' I S'∧AChg κ h κ' h')
   (fun v h'=> ∃(e:Nat) (S':Ap) (κ':Nat→Nat),v= .ifc 44 (AI ((e:Nat):Int))∧((e=7∧WrP true (data++An sp data) S0 S' .full)∨(e=50∧WrP true (data++An sp data) S0 S' .pow))∧ApR κ' h' I S'∧AChg κ h κ' h'):=by
 have hsz:=r0.dv.ok.g.sz
 have l1:=kd.lt_n
 have l0:=r0.sk.lt
 refine Ca L X.f104 X.k104 rfl rfl rfl fun Q x cs G Gp=>?_
 refine wk ?_
 refine cal (c:=Rb L X (data:=data) T q lkb hd (by omega)) (g:=?_)
 rintro _ h2 ⟨eb,rfl,w1,w2,w3⟩
 simp only [Am]at w2
 have n2:=w3.n
 simp only [Am]at n2
 refine wk ?_
 refine cal (c:=Av L X) (g:=?_)
 rintro _ rfl
 refine wk ?_
 have lenx:(An sp data).length=64:=by unfold An;rw [List.length_append,A5,Ec]
 refine ru L (α:= Ap×(Nat→Nat)) (T:=fun s=> [(0,some (.ptr I.s 0)),(1,some (.ptr I.s 10)),(3,some (.slc b1 o1 S0.D.sz c1)),(6,some (.ptr h.n 0)),(9,some (.slc eb 0 64 (Aa+1)))]) (mu:=fun s=>muW s.1 true)
  (R:=fun s hh=>ApR s.2 hh I s.1∧AChg κ h s.2 hh∧(∀S' r,WrP true (data++An sp data) s.1 S' r→WrP true (data++An sp data) S0 S' r)∧WI s.1 true∧s.1.D.sz=S0.D.sz∧BS hh b1 o1 data∧s.2 b1=0∧BS hh eb 0 (An sp data)∧s.2 eb=0∧Bk hh h.n (spC sp)∧s.2 h.n=0∧s.1.D.n+muW s.1 true+2<100000) (S0,ext κ h.n) tsb
  ⟨r0.k0 (by exact Kp.tr0 w3 kps) (fun b hb=>Af hb),AChg.k0 (by exact Kp.tr0 w3 kps) (fun b hb=>Af hb),fun _ _ h=>h,wi,rfl,lkb,(by show ext κ h.n b1=0;rw [Af l1];exact hc),lkb,B4 (by omega),lkp,B4 (Nat.le_refl _),hn⟩ ?_
 rintro⟨S,κs⟩ hh ⟨r,ch,hw,wi,esz,kd2,hc2,ke2,hce,ksp,hcs,hn⟩ ih
 simp only at r ch hw wi esz hc2 hce hcs hn ih
 have sk:=r.sk
 obtain⟨cb,po⟩:=r.po
 have lt:=r.lt
 have col:=r.col
 have ok:=r.dv.ok
 obtain⟨v1,v2⟩:=wi
 obtain⟨_,fm,bb,db,dc⟩:=r.dv
 have hnb:=ok.g.nb
 have hP:=ok.g.P
 have prog: ∀(S2:Ap) (κ2:Nat→Nat) (h4:H) (lq:List (Nat×Option AV)) (b:Nat),(S.cls true).opn true=some S2→S2.log=((b:Nat):Int)→b<S2.D.nb→S2.ps b=2→ApR κ2 h4 I S2→AChg κs hh κ2 h4→S2.D=S.D→2*frees S2+1≤muW S true→TSub (tms [(96,some (AI ((b:Nat):Int))),(95,some (.ptr I.d 0)),(13,some (AI ((b:Nat):Int))),(0,some (.ptr I.s 0)),(1,some (.ptr I.s 10)),(3,some (.slc b1 o1 S0.D.sz c1)),(6,some (.ptr h.n 0)),(9,some (.slc eb 0 64 (Aa+1)))]) (tms lq)→
   Good P0 E Q ⟨⟨104,cf104.ntmps,tms lq,[.ops [Cc 97 20 [(.t 95),(.t 96)],Cv 14 97],.code c104_38,.inBlock 1,.inLoop c104_43,.inBlock 0],[],.run,false,none⟩,x::cs,hp h4.n h4.t []⟩:=by
  intro S2 κ2 h4 lq b e1 e2 hb hps r2 ch2 eD hmu ht
  refine E0 L ht ?_
  have r2':=r2.dv
  obtain⟨ok2,fm2,bb2,db2,dc2⟩:=r2'
  obtain⟨pn,c,hr⟩:=dc2.rows b hb
  have kd4:=ch2.bs kd2 hc2
  have ke4:=ch2.bs ke2 hce
  have ksp4:Bk h4 h.n (spC sp):=As ch2.k (by omega) ksp
  have hcs4:κ2 h.n=0:=(ch2.col _ ksp.lt).trans hcs
  have sk2:=r2.sk
  have ls2:=sk2.lt
  have hsel:S2.sel true=((b:Nat):Int):=e2
  refine cal (c:=Kt L X dc2.dk dc2.bk hb hr.c1) (g:=?_)
  rintro _ rfl
  unfold apC at sk2
  refine wk ?_
  have hsz2:S2.D.sz=S0.D.sz:=by rw [eD,esz]
  have fp:=M0 (h:=hp h4.n h4.t []) (c1:=c1) (c2:=Aa+1) L X (i:=((b:Nat):Int)) (p:=(S2.D.bl b).nx) (data:=data) (extra:=An sp data) r2.dv (by rw [eD];omega) (fun _=>by rw [Int.toNat_natCast]) kd4.1 ke4.1 (by rw [hsz2];exact hd) lenx
  rw [hsz2]at fp
  refine cal (c:=fp) (g:=?_)
  rintro _ h5 ⟨rfl,κ5,dv5,ch5⟩
  obtain⟨g1,g2⟩:=S2.D.prog_geo ((b:Nat):Int) (data++An sp data)
  have r5:=r2.dev ch5 dv5 g1
  have a5:AChg κs hh κ5 h5:=ch2.trans ch5.a
  have sk5:=r5.sk
  have ls5:=sk5.lt
  by_cases hpow:(S2.D.prog ((b:Nat):Int) (data++An sp data)).2=50
  ·have ew:S.w1 true (data++An sp data)=({S2 with D:=(S2.D.prog ((b:Nat):Int) (data++An sp data)).1,down:=true},.pow):=by
    unfold Ap.w1;rw [e1];simp only [hsel];rw [if_pos hpow]
   rw [hpow]
   refine wk ?_
   refine Et L rfl rfl rfl rfl rfl (Jd L X r5) ?_
   rintro _ h6 ⟨rfl,r6,k6⟩
   refine Ao L X.f104 ?_
   have hst:WrP true (data++An sp data) S {S2 with D:=(S2.D.prog ((b:Nat):Int) (data++An sp data)).1,down:=true} .pow:=by
    have h1:=WrP.stop (k:=true) (all:=data++An sp data) (S:=S) (by rw [ew];intro e;cases e)
    rw [ew]at h1;exact h1
   exact Gp _ _ ⟨50,_,κ5,rfl,.inr ⟨rfl,hw _ _ hst⟩,r6,ch.trans (a5.trans (AChg.kp k6 fun b _ e=>by subst e;have:=r5.col;omega))⟩
  ·by_cases h0:(S2.D.prog ((b:Nat):Int) (data++An sp data)).2=0
   ·have ew:S.w1 true (data++An sp data)=({S2 with D:=(S2.D.prog ((b:Nat):Int) (data++An sp data)).1},.done (b*S2.D.P+(S2.D.bl b).nx)):=by
     unfold Ap.w1;rw [e1];simp only [hsel,Int.toNat_natCast];rw [if_neg hpow,if_pos h0]
    rw [h0]
    unfold apC at sk5
    refine wk ?_
    refine cal (c:=Fk L X (e:=((0:Nat):Int)) (by omega)) (g:=?_)
    rintro _ rfl
    have hbn:=ok2.bl b hb
    have hnx:=hbn.nx
    have hP2:=ok2.g.P
    have hnb2:=ok2.g.nb
    have hmul:b*S2.D.P≤12*6:=Nat.mul_le_mul (by omega) (by omega)
    have g1':(S2.D.prog ((b:Nat):Int) (data++An sp data)).1.P=S2.D.P:=g1.2.1
    simp only [g1']at sk5
    refine wk ?_
    refine ret X.f104 ?_
    have hst:WrP true (data++An sp data) S {S2 with D:=(S2.D.prog ((b:Nat):Int) (data++An sp data)).1} (.done (b*S2.D.P+(S2.D.bl b).nx)):=by
     have h1:=WrP.stop (k:=true) (all:=data++An sp data) (S:=S) (by rw [ew];intro e;cases e)
     rw [ew]at h1;exact h1
    exact⟨_,_,κ5,rfl,by omega,hw _ _ hst,r5.k0 kps fun _ _=>rfl,ch.trans (a5.trans (AChg.k0 kps fun _ _=>rfl))⟩
   ·have ew:S.w1 true (data++An sp data)=({S2 with D:=(S2.D.prog ((b:Nat):Int) (data++An sp data)).1,su:=A1 S2.su ((b:Nat):Int) true,ps:=upd S2.ps b 3,log:= -1},.again):=by
     unfold Ap.w1;rw [e1];simp only [hsel,Int.toNat_natCast];rw [if_neg hpow,if_neg h0];rfl
    have hpos:0<(S2.D.prog ((b:Nat):Int) (data++An sp data)).2:=by omega
    have hlt9:(S2.D.prog ((b:Nat):Int) (data++An sp data)).2<1000:=by
     unfold Dv.prog;split
     ·split
      ·show 50<1000;omega
      ·show(if _ then 50 else if _ then 54 else 0)<1000
       split
       ·omega
       ·split <;> omega
     ·show 2<1000;omega
    unfold apC at sk5
    generalize hE:(S2.D.prog ((b:Nat):Int) (data++An sp data)).2=er at*
    refine wk ?_
    refine cal (c:=Fk L X (e:=((er:Nat):Int)) (by omega)) (g:=?_)
    rintro _ rfl
    obtain⟨M,ck,m1,m2,m3⟩:=r5.ms.ex
    have lm:=m1.lt
    have nms:I.s≠I.rs:=fun e=>by have:=r5.col;rw [e]at this;omega
    refine wk ?_
    (apply Jz L rfl;exact Hp (KE.int .i64) m2 rfl rfl rfl lkq;rfl)
    have k6:Kp (fun j=>j=I.rs) h5 (hp h5.n h5.t [(I.rs,some (.map ((Dp M ck ((b:Nat):Int) (.bool true)).map (mE AI)) (mCk M ck ((b:Nat):Int))))]):=kps
    have r6:=r5.sset k6 (SetR.set (k:=((b:Nat):Int)) lkq m2 m3)
    obtain⟨cb6,po6⟩:=r6.po
    have hb6:b<(S2.D.prog ((b:Nat):Int) (data++An sp data)).1.nb:=by rw [g1.1];exact hb
    refine wk ?_
    refine cal (c:=G6 L X po6 hb6 hps) (g:=?_)
    rintro _ h7 ⟨rfl,po7,k7⟩
    have r7:=r6.pool k7 po7
    have sk7:=r7.sk
    have ls7:=sk7.lt
    unfold apC at sk7
    refine wk ?_
    have k8:Kp (fun j=>j=I.s) h7 (hp h7.n h7.t [(I.s,some (cl (apC I {S2 with D:=(S2.D.prog ((b:Nat):Int) (data++An sp data)).1,su:=A1 S2.su ((b:Nat):Int) true,ps:=upd S2.ps b 3,log:= -1})))]):=kps
    have r8:=r7.st (S':= {S2 with D:=(S2.D.prog ((b:Nat):Int) (data++An sp data)).1,su:=A1 S2.su ((b:Nat):Int) true,ps:=upd S2.ps b 3,log:= -1}) k8 lkp ⟨rfl,rfl,rfl,rfl,rfl,rfl,rfl,rfl⟩
    have a6:AChg κ5 h5 κ5 _:=AChg.kp k6 fun b _ e=>by subst e;have:=r5.col;omega
    have a7:AChg κ5 _ κ5 h7:=AChg.kp k7 fun b _ e=>by rcases e with e|e <;> subst e <;> (have:=r6.col;omega)
    have a8:AChg κ5 h7 κ5 _:=AChg.kp k8 fun b _ e=>by subst e;have:=r7.col;omega
    have aa:=a5.trans (a6.trans (a7.trans a8))
    have kd8:=aa.bs kd2 hc2
    have ke8:=aa.bs ke2 hce
    have hmu8:muW {S2 with D:=(S2.D.prog ((b:Nat):Int) (data++An sp data)).1,su:=A1 S2.su ((b:Nat):Int) true,ps:=upd S2.ps b 3,log:= -1} true=2*frees S2:=by
     unfold muW frees Ap.sel
     simp only [g1.1]
     have:=B3 S2.ps b 3 1 S2.D.nb hb
     rw [hps]at this
     simp at this
     simp [this]
    refine ih ({S2 with D:=(S2.D.prog ((b:Nat):Int) (data++An sp data)).1,su:=A1 S2.su ((b:Nat):Int) true,ps:=upd S2.ps b 3,log:= -1},κ5) _ _ ?_ ⟨r8,ch.trans aa,fun S' r' hw'=>hw _ _ (.more (by rw [ew]) (by rw [ew];exact hw')),⟨fun e=>absurd e (by unfold Ap.sel;simp),by unfold Ap.sel;simp⟩,?_,kd8.1,kd8.2,ke8.1,ke8.2,As aa.k (by omega) ksp,(aa.col _ ksp.lt).trans hcs,?_⟩ tsb
    ·simp only [hmu8];omega
    ·simp only [g1.2.2.1];exact hsz2
    ·have eDn:S2.D.n=S.D.n:=by rw [eD]
     simp only [hmu8];omega
 have take: ∀(h4:H) (lq:List (Nat×Option AV)),(S.cls true).log<0→ApR κs h4 I (S.cls true)→AChg κs hh κs h4→(S.cls true).D=S.D→2*frees (S.cls true)≤muW S true→TSub (tms [(69,some (.ptr I.p 0)),(0,some (.ptr I.s 0)),(1,some (.ptr I.s 10)),(3,some (.slc b1 o1 S0.D.sz c1)),(6,some (.ptr h.n 0)),(9,some (.slc eb 0 64 (Aa+1)))]) (tms lq)→
   Good P0 E Q ⟨⟨104,cf104.ntmps,tms lq,[.ops [Cc 70 146 [(.t 69)],Cv 65 70,Ce 71 65 0,Ce 72 65 1,Cv 11 71,Cv 12 72],.code c104_18,.code c104_40,.inBlock 1,.inLoop c104_43,.inBlock 0],[],.run,false,none⟩,x::cs,hp h4.n h4.t []⟩:=by
  intro h4 lq hneg r2 ch2 eD hmu ht
  refine E0 L ht ?_
  generalize hS1:S.cls true=S1 at*
  obtain⟨cb2,po2⟩:=r2.po
  have ksp4:Bk h4 h.n (spC sp):=As ch2.k (by omega) ksp
  have lsp:=ksp4.lt
  refine cal (c:=X6 L X po2) (g:=?_)
  rintro _ h5 (⟨e1,e2,rfl,k5⟩|⟨b,e1,hb,e2,rfl,po5,k5⟩)
  ·refine wk ?_
   refine Et L rfl rfl rfl rfl rfl (Bo L X) ?_
   rintro _ _ ⟨rfl,rfl⟩
   refine Ao L X.f104 ?_
   have ew:S.w1 true (data++An sp data)=(S1,.full):=by
    unfold Ap.w1;rw [hS1]
    have:S1.opn true=none:=by unfold Ap.opn;rw [if_pos (show S1.sel true<0 from hneg),if_pos (by rw [e1];omega)]
    rw [this]
   have hst:WrP true (data++An sp data) S S1 .full:=by
    have h1:=WrP.stop (k:=true) (all:=data++An sp data) (S:=S) (by rw [ew];intro e;cases e)
    rw [ew]at h1;exact h1
   exact Gp _ _ ⟨7,S1,κs,rfl,.inl ⟨rfl,hw _ _ hst⟩,r2.k0 kps fun _ _=>rfl,ch.trans (ch2.trans (AChg.k0 kps fun _ _=>rfl))⟩
  ·have r5:=r2.pool k5 po5
   have a5:AChg κs h4 κs h5:=AChg.kp k5 fun b _ e=>by rcases e with e|e <;> subst e <;> (have:=r2.col;omega)
   have ksp5:Bk h5 h.n (spC sp):=As a5.k (by have:=ch2.col _ ksp.lt;omega) ksp4
   have sk5:=r5.sk
   have ls5:=sk5.lt
   have nsp:h.n≠I.s:=fun e=>by have:=r5.col;rw [←e]at this;omega
   unfold apC at sk5
   unfold spC at ksp5
   refine wk ?_
   refine cal (c:=Av L X) (g:=?_)
   rintro _ rfl
   have k6:Kp (fun j=>j=I.s) h5 (hp h5.n h5.t [(I.s,some (cl (apC I {S1 with ps:=upd S1.ps b 2,log:=((b:Nat):Int)})))]):=kps
   have r6:=r5.st (S':= {S1 with ps:=upd S1.ps b 2,log:=((b:Nat):Int)}) k6 (by unfold apC;exact lkp) ⟨rfl,rfl,rfl,rfl,rfl,rfl,rfl,rfl⟩
   have a6:AChg κs h5 κs _:=AChg.kp k6 fun b _ e=>by subst e;have:=r5.col;omega
   obtain⟨M,ck,m1,m2,m3⟩:=r6.mj.ex
   have lm:=m1.lt
   simp only [Am]at lm
   have nms:I.s≠I.rj:=fun e=>by have:=r5.col;rw [e]at this;omega
   obtain⟨M5,ck5,p1,p2,p3⟩:=r5.mj.ex
   refine wk ?_
   (apply Jz L rfl;exact Hp (KE.int .i64) p2 rfl rfl rfl lkq;rfl)
   have k7:Kp (fun j=>j=I.rj) (hp h5.n h5.t [(I.s,some (cl (apC I {S1 with ps:=upd S1.ps b 2,log:=((b:Nat):Int)})))]) (hp h5.n h5.t [(I.rj,some (.map ((Dp M5 ck5 ((b:Nat):Int) (.bool true)).map (mE AI)) (mCk M5 ck5 ((b:Nat):Int)))),(I.s,some (cl (apC I {S1 with ps:=upd S1.ps b 2,log:=((b:Nat):Int)})))]):=kps
   have r7:=r6.jset k7 (SetR.set (k:=((b:Nat):Int)) lkq p2 p3)
   have a7:AChg κs _ κs _:=AChg.kp k7 fun b _ e=>by subst e;have:=r6.col;omega
   have sk7:=r7.sk
   refine wk ?_
   refine prog {S1 with ps:=upd S1.ps b 2,log:=((b:Nat):Int),jr:=A1 S1.jr ((b:Nat):Int) true} κs _ _ b ?_ rfl hb (upd_eq _ _ _) r7 (ch2.trans (a5.trans (a6.trans a7))) eD ?_ tsb
   ·unfold Ap.opn;rw [if_pos (show S1.sel true<0 from hneg),if_neg (by rw [e1];omega),e1,Int.toNat_natCast];rfl
   ·have:=B3 S1.ps b 2 1 S1.D.nb hb
    rw [e2]at this
    simp at this
    unfold frees at hmu ⊢
    simp only
    omega
 by_cases hb0:0≤S.log
 ·obtain⟨b,hbe⟩: ∃b:Nat,S.log=((b:Nat):Int):=⟨S.log.toNat,by omega⟩
  have hsel:S.sel true=((b:Nat):Int):=hbe
  obtain⟨v3,v4⟩:=v1 (by rw [hsel];omega)
  rw [hsel]at v3
  rw [hsel,Int.toNat_natCast]at v4
  have hb:b<S.D.nb:=by omega
  obtain⟨pn,c,hr⟩:=dc.rows b hb
  have hmu:muW S true=2*frees S+1:=by unfold muW;rw [hsel,if_pos (by omega)]
  unfold apC at sk
  rw [hbe]at sk
  refine wk ?_
  refine cal (c:=Kt L X dc.dk dc.bk hb hr.c1) (g:=?_)
  rintro _ rfl
  by_cases hfull:(S.D.bl b).nx=S.D.P
  ·have ec:S.cls true= {S with ps:=upd S.ps b 3,log:= -1}:=by
    unfold Ap.cls;rw [hsel,Int.toNat_natCast,if_pos ⟨by omega,hfull⟩];rfl
   refine wk ?_
   refine cal (c:=G6 L X po hb v4) (g:=?_)
   rintro _ h4 ⟨rfl,po4,k4⟩
   have r4:=r.pool k4 po4
   have sk4:=r4.sk
   have ls4:=sk4.lt
   unfold apC at sk4
   refine wk ?_
   have k5:Kp (fun j=>j=I.s) h4 (hp h4.n h4.t [(I.s,some (cl (apC I {S with ps:=upd S.ps b 3,log:= -1})))]):=kps
   have r5:=r4.st (S':= {S with ps:=upd S.ps b 3,log:= -1}) k5 (by unfold apC;exact lkp) ⟨rfl,rfl,rfl,rfl,rfl,rfl,rfl,rfl⟩
   have a4:AChg κs hh κs h4:=AChg.kp k4 fun b _ e=>by rcases e with e|e <;> subst e <;> omega
   have a5:AChg κs h4 κs _:=AChg.kp k5 fun b _ e=>by subst e;omega
   refine take _ _ (by rw [ec];show(-1:Int)<0;omega) (by rw [ec];exact r5) (a4.trans a5) (by rw [ec]) ?_ tsb
   rw [ec,hmu]
   have:=B3 S.ps b 3 1 S.D.nb hb
   rw [v4]at this
   simp at this
   unfold frees;simp only;omega
  ·have ec:S.cls true=S:=by
    unfold Ap.cls;rw [hsel,Int.toNat_natCast,if_neg (by omega)]
   have eo:(S.cls true).opn true=some S:=by rw [ec];unfold Ap.opn;rw [hsel,if_neg (by omega)]
   refine wk ?_
   exact prog S κs _ _ b eo hbe hb v4 (r.k0 kps fun _ _=>rfl) (AChg.k0 kps fun _ _=>rfl) rfl (by omega) tsb
 ·have ec:S.cls true=S:=by
   unfold Ap.cls;rw [if_neg];rintro⟨e,-⟩;exact hb0 e
  have hneg:S.log= -1:=by have: -1≤S.log:=v2;omega
  unfold apC at sk
  rw [hneg]at sk
  refine wk ?_
  refine take _ _ (by rw [ec,hneg];omega) (by rw [ec];exact r.k0 kps fun _ _=>rfl) (AChg.k0 kps fun _ _=>rfl) (by rw [ec]) ?_ tsb
  rw [ec];unfold muW;omega
end
end
section
variable {P0:Program}{E:Env}{F:T CFn}{K:T (List AV×AV)}(L:Lg P0 E F K)(X:Fx F K)
include L X
def spD (sec:Int)(n:Nat):Sp:=⟨1,sec,n,0,0,1⟩
omit L X in
theorem Nr {sec:Int}{n:Nat}(h1:0≤sec∧sec≤4294967294)(h2:1≤n∧n<1000000000):(spD sec n).Fit:=
 ⟨⟨h2.1,by unfold spD;simp,by unfold spD;simp,by unfold spD;simp,by unfold spD;simp,.inl ⟨rfl,h1.1,h1.2,rfl,rfl⟩⟩,⟨by unfold spD;simp,by unfold spD;simp only;omega,by unfold spD;simp⟩⟩
inductive StP (sec:Int)(data:List Nat):Ap→Ap→WO→Prop where
 |ok {S S1:Ap} {p:Nat} (h:WrP false (data++An (spD sec S.next) data) {S with next:=S.next+1} S1 (.done p)):StP sec data S {S1 with wr:=Gn S1.wr ((p / S1.D.P:Nat):Int) (some S.next)} (.done p)
 |bad {S S1:Ap} {r:WO} (h:WrP false (data++An (spD sec S.next) data) {S with next:=S.next+1} S1 r) (hr:r= .full∨r= .pow):StP sec data S S1 r
def eOf:WO→Nat
 | .full=>7
 | .pow=>50
 |_=>0
omit L X in
theorem NumR.set {n:Nat}{t:T Blk}{lh:List (Nat×Option Blk)}{r ck v:Nat}{f:Int→Option Nat}{M:List (Int×AV×Nat)}{k:Int}(q1:Mk (hp n t lh) r ((Dp M ck k (.int .u64 ((v:Nat):Int))).map (mE AI)) (mCk M ck k))(q2:MOk M ck)(q3: ∀k:Int,Bp M k=(f k).map fun n=> .int .u64 ((n:Nat):Int)):NumR (hp n t lh) r (Gn f k (some v)):=by
 refine⟨_,_,q1,q2.set _ _,fun j=>?_⟩
 rw [C2,q3];unfold Gn
 by_cases e:j=k
 ·rw [if_pos e,if_pos e];rfl
 ·rw [if_neg e,if_neg e]
omit L X in
theorem NumR.del {n:Nat}{t:T Blk}{lh:List (Nat×Option Blk)}{r ck:Nat}{f:Int→Option Nat}{M:List (Int×AV×Nat)}{k:Int}(q1:Mk (hp n t lh) r ((Ho M k).map (mE AI)) ck)(q2:MOk M ck)(q3: ∀k:Int,Bp M k=(f k).map fun n=> .int .u64 ((n:Nat):Int)):NumR (hp n t lh) r (Gn f k none):=by
 refine⟨_,_,q1,q2.del _,fun j=>?_⟩
 rw [Im,q3];unfold Gn
 by_cases e:j=k
 ·rw [if_pos e,if_pos e];rfl
 ·rw [if_neg e,if_neg e]
omit L X in
theorem SetR.del {n:Nat}{t:T Blk}{lh:List (Nat×Option Blk)}{r ck:Nat}{f:Int→Bool}{M:List (Int×AV×Nat)}{k:Int}(q1:Mk (hp n t lh) r ((Ho M k).map (mE AI)) ck)(q2:MOk M ck)(q3: ∀k:Int,Bp M k=if f k=true then some (.bool true)else none):SetR (hp n t lh) r (A1 f k false):=by
 refine⟨_,_,q1,q2.del _,fun j=>?_⟩
 rw [Im,q3];unfold A1
 by_cases e:j=k
 ·rw [if_pos e,if_pos e];rfl
 ·rw [if_neg e,if_neg e]
omit L X in
theorem ApR.out {κ: Nat→Nat}{h h':H}{I:Ai}{S:Ap}{B:Nat→Prop}(q:ApR κ h I S)(k:Kp B h h')(hb: ∀b,b<h.n→B b→200≤κ b):ApR κ h' I S:=by
 obtain⟨c0,c1,c2,c3,c4,c5,c6,c7,c8,c9⟩:=q.col
 obtain⟨l0,l1,l2,l3,l4,l5,l6,l7,l8,l9⟩:=q.lt
 obtain⟨cb,q1⟩:=q.po
 have ne: ∀{b:Nat},b<h.n→κ b<200→ ¬B b:=fun hl hk e=>by have:=hb _ hl e;omega
 exact⟨As k (ne l0 (by omega)) q.sk,⟨cb,q1.kp k (ne l1 (by omega)) (ne l2 (by omega))⟩,q.dvk k fun b hl e=>by have:=hb b hl e;omega,q.mp.kp k (ne l3 (by omega)) (ne l4 (by omega)) (ne l5 (by omega)) (ne l6 (by omega)),
  q.mj.kp k (ne l7 (by omega)),q.ms.kp k (ne l8 (by omega)),q.mw.kp k (ne l9 (by omega)),q.col⟩
section
variable {h:H}{κ: Nat→Nat}{I:Ai}{S:Ap}
theorem Us {b1 o1 c1:Nat}{sec:Int}{data:List Nat}(T:Tb P0 E F K)(r:ApR κ h I S)(wi:WI S false)(hs:0≤sec∧sec≤4294967294)(hx:1≤S.next∧S.next<999999999)(kd:BS h b1 o1 data)(hc:κ b1=0)(hd:data.length=S.D.sz)(hn:S.D.n+muW S false+2<100000):
  CtX P0 E F K 51 [.ptr I.s 0,AI sec,.slc b1 o1 S.D.sz c1] h
   (fun v h'=> ∃p S' κ',v= .agg [AI sec,AI ((p:Nat):Int)]∧StP sec data S S' (.done p)∧ApR κ' h' I S'∧AChg κ h κ' h')
   (fun v h'=> ∃(o:WO) (S':Ap) (κ':Nat→Nat),v= .ifc 44 (AI ((eOf o:Nat):Int))∧(o= .full∨o= .pow)∧StP sec data S S' o∧ApR κ' h' I S'∧AChg κ h κ' h'):=by
 have sk:=r.sk
 have l0:=sk.lt
 have l1:=kd.lt_n
 have col:=r.col
 have nb1:b1≠I.s:=fun e=>by rw [e]at hc;omega
 unfold apC at sk
 refine Ca L X.f51 X.k51 rfl rfl rfl fun Q x cs G Gp=>?_
 refine wk ?_
 (apply st1 L rfl;exact Kz rfl rfl (by omega);rfl)
 refine wk ?_
 have r1:ApR (upd (ext κ h.n) h.n 200) (hp (h.n+1) h.t [(h.n,some (cl [AI ((0:Nat):Int),AI ((0:Nat):Int)]))]) I S:=r.k0 kps fun b hb=>(upd_ne _ _ (by omega)).trans (Af hb)
 have k2:Kp (fun j=>j=I.s) (hp (h.n+1) h.t [(h.n,some (cl [AI ((0:Nat):Int),AI ((0:Nat):Int)]))]) (hp (h.n+1) h.t [(I.s,some (cl (apC I {S with next:=S.next+1}))),(h.n,some (cl [AI ((0:Nat):Int),AI ((0:Nat):Int)]))]):=kps
 have r2:=r1.st (S':= {S with next:=S.next+1}) k2 (by unfold apC;exact lkp) ⟨rfl,rfl,rfl,rfl,rfl,rfl,rfl,rfl⟩
 have a2:AChg κ h (upd (ext κ h.n) h.n 200) (hp (h.n+1) h.t [(I.s,some (cl (apC I {S with next:=S.next+1}))),(h.n,some (cl [AI ((0:Nat):Int),AI ((0:Nat):Int)]))]):=
  AChg.trans (κ1:=upd (ext κ h.n) h.n 200) (h1:=hp (h.n+1) h.t [(h.n,some (cl [AI ((0:Nat):Int),AI ((0:Nat):Int)]))]) (AChg.k0 kps fun b hb=>(upd_ne _ _ (by omega)).trans (Af hb)) (AChg.kp k2 fun b _ e=>by subst e;rw [upd_ne _ _ (by omega),Af l0];omega)
 have kd2:=a2.bs kd hc
 have kr:Bk (hp (h.n+1) h.t [(I.s,some (cl (apC I {S with next:=S.next+1}))),(h.n,some (cl [AI ((0:Nat):Int),AI ((0:Nat):Int)]))]) h.n [AI ((0:Nat):Int),AI ((0:Nat):Int)]:=lkp
 have hfit:=Nr hs ⟨hx.1,by omega⟩
 have fp:=az (c1:=c1) (sp:=spD sec S.next) (data:=data) L X T r2 ⟨wi.sel,wi.lo⟩ hfit rfl kd2.1 kd2.2 hd (by exact hn)
 refine H3 L (c:=fp) (g:=?_) (gp:=?_)
 ·rintro _ h3 ⟨p,S3,κ3,rfl,hp1000,hw,r3,a3⟩
  have ok3:=r3.dv.ok
  have hP3:=ok3.g.P
  have sk3:=r3.sk
  have ls3:=sk3.lt
  have kr3:Bk h3 h.n [AI ((0:Nat):Int),AI ((0:Nat):Int)]:=As a3.k (by rw [upd_eq];omega) kr
  obtain⟨M,ck,m1,m2,m3⟩:=r3.mw.ex
  have lm:=m1.lt
  have nrw:h.n≠I.rw:=fun e=>by have:=r.lt;omega
  unfold apC at sk3
  refine wk ?_
  (apply Jo L rfl rfl;exact Hp (KE.int .i64) m2 rfl rfl rfl lkq)
  have k4:Kp (fun j=>j=I.rw) h3 (hp h3.n h3.t [(I.rw,some (.map ((Dp M ck ((p / S3.D.P:Nat):Int) (.int .u64 ((S.next:Nat):Int))).map (mE AI)) (mCk M ck ((p / S3.D.P:Nat):Int))))]):=kps
  have r4:=r3.wset k4 (NumR.set (k:=((p / S3.D.P:Nat):Int)) lkq m2 m3)
  have a4:AChg κ3 h3 κ3 _:=AChg.kp k4 fun b _ e=>by subst e;have:=r3.col;omega
  refine wk ?_
  refine ret X.f51 ?_
  have hk200:κ3 h.n=200:=(a3.col _ (by simp only [Am];omega)).trans (upd_eq _ _ _)
  have k5:Kp (fun j=>j=h.n) (hp h3.n h3.t [(I.rw,some (.map ((Dp M ck ((p / S3.D.P:Nat):Int) (.int .u64 ((S.next:Nat):Int))).map (mE AI)) (mCk M ck ((p / S3.D.P:Nat):Int))))]) (hp h3.n h3.t [(h.n,some (cl [AI sec,AI ((p:Nat):Int)])),(I.rw,some (.map ((Dp M ck ((p / S3.D.P:Nat):Int) (.int .u64 ((S.next:Nat):Int))).map (mE AI)) (mCk M ck ((p / S3.D.P:Nat):Int))))]):=kps
  have a5:=a2.trans (a3.trans a4)
  have a6:AChg κ h κ3 (hp h3.n h3.t [(h.n,some (cl [AI sec,AI ((p:Nat):Int)])),(I.rw,some (.map ((Dp M ck ((p / S3.D.P:Nat):Int) (.int .u64 ((S.next:Nat):Int))).map (mE AI)) (mCk M ck ((p / S3.D.P:Nat):Int))))]):=
   ⟨Kp.trS k5 (fun i hi e=>by omega) a5.k,a5.col⟩
  exact⟨p,{S3 with wr:=Gn S3.wr ((p / S3.D.P:Nat):Int) (some S.next)},κ3,rfl,.ok hw,r4.out k5 (fun b _ e=>by subst e;omega),a6⟩
 ·rintro _ h3 ⟨e,S3,κ3,rfl,hw,r3,a3⟩
  refine Ao L X.f51 ?_
  rcases hw with⟨rfl,hw⟩|⟨rfl,hw⟩
  ·exact Gp _ _ ⟨.full,S3,κ3,rfl,.inl rfl,.bad hw (.inl rfl),r3,a2.trans a3⟩
  ·exact Gp _ _ ⟨.pow,S3,κ3,rfl,.inr rfl,.bad hw (.inr rfl),r3,a2.trans a3⟩
end
end
end Go.Ev
