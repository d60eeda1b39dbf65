/- Part of the proof. -/
import Derived.Test.YtgkianlpkdfhkaaGreatH09
set_option linter.unusedVariables false
set_option linter.unusedSectionVars false
set_option linter.unusedSimpArgs false
set_option maxRecDepth 10000
set_option maxHeartbeats 4000000
namespace Go.Ev
variable {B U:Nat→Prop}{I:Ai}{J:Ap→Prop}{N P ab b d e i j k k' lb lo m n0:Nat}{Q:Nat→AV→Prop}{S S' S1 S2:Ap}{Z:List (List Nat)}{cs:List AFr}{data rows:List Nat}{dv sv v:AV}{g:Int→Int}{h h' h0 h1 h2:H}{lq:List (Nat×Option AV)}{o:WO}{p s sec y:Int}{ps secs:List Int}{δ:Nat→List Nat}{κ κ':Nat→Nat}
section
variable {P0:Program}{E:Env}{F:T CFn}{K:T (List AV×AV)}(L:Lg P0 E F K)(X:Fx F K)
include L X
omit L X in
structure AInv (S:Ap):Prop where
 geo:S.D.Geo
 off:S.D.off=false
 cut:S.D.cut= -1
 dn:S.down=false
 iw:IW S
 nxP: ∀b,b<S.D.nb→(S.D.bl b).nx≤S.D.P
 op2: ∀b:Nat,b<S.D.nb→S.ps b=2→(b:Int)=S.dat∨(b:Int)=S.log
 free: ∀b,b<S.D.nb→S.ps b=1→(S.D.bl b).nx=0
 jr: ∀k,S.jr k=true→ ∃b:Nat,k=(b:Int)∧b<S.D.nb∧(S.ps b=3∨S.ps b=2∧S.log=(b:Int))
 jlog:0≤S.log→S.jr S.log=true
 jdat:0≤S.dat→S.jr S.dat=false
 map: ∀s p,S.A s=some p→0≤s∧s<S.S∧ ∃b j:Nat,p=((b*S.D.P+j:Nat):Int)∧b<S.D.nb∧j<S.D.P∧(S.ps b=2∨S.ps b=3)∧S.jr (b:Int)=false∧j<(S.D.bl b).nx∧((S.D.bl b).pg j).st=2
 inj: ∀s s' p,S.A s=some p→S.A s'=some p→s=s'
structure Keep (S S':Ap):Prop where
 nx: ∀b,b<S.D.nb→(S.D.bl b).nx≤(S'.D.bl b).nx
 pg: ∀b j,b<S.D.nb→j<(S.D.bl b).nx→(S'.D.bl b).pg j=(S.D.bl b).pg j
 ps3: ∀b,b<S.D.nb→S.ps b=3→S'.ps b=3
 psm: ∀b,b<S.D.nb→S.ps b=2∨S.ps b=3→S'.ps b=2∨S'.ps b=3
 jrm: ∀b:Nat,b<S.D.nb→S.ps b≠1→S'.jr (b:Int)=S.jr (b:Int)
 n1: ∀b:Nat,b<S.D.nb→S.ps b≠1→S'.ps b≠1
omit L X
theorem Keep.refl (S:Ap):Keep S S:=⟨fun _ _=>Nat.le_refl _,fun _ _ _ _=>rfl,fun _ _ h=>h,fun _ _ h=>h,fun _ _ _=>rfl,fun _ _ h=>h⟩
theorem Keep.trans (a:Keep S S1)(b:Keep S1 S2)(hn:S1.D.nb=S.D.nb):Keep S S2:= ⟨fun i hi=>Nat.le_trans (a.nx i hi) (b.nx i (by omega)),fun i j hi hj=>(b.pg i j (by omega) (Nat.lt_of_lt_of_le hj (a.nx i hi))).trans (a.pg i j hi hj),fun i hi h=>b.ps3 i (by omega) (a.ps3 i hi h),fun i hi h=>b.psm i (by omega) (a.psm i hi h),fun i hi h=>(b.jrm i (by omega) (a.n1 i hi h)).trans (a.jrm i hi h),fun i hi h=>b.n1 i (by omega) (a.n1 i hi h)⟩
theorem AInv.close {k:Bool}(q:AInv S)(hs:0≤S.sel k)(hiw:IW (({S with ps:=upd S.ps (S.sel k).toNat 3}).put k (-1))):AInv (({S with ps:=upd S.ps (S.sel k).toNat 3}).put k (-1))∧Keep S (({S with ps:=upd S.ps (S.sel k).toNat 3}).put k (-1)):=by
 obtain⟨w1,w2⟩:=(q.iw.wi k).sel hs;obtain⟨b,hb⟩:=Int.eq_ofNat_of_zero_le hs;rw [hb,Int.toNat_natCast]at hiw ⊢;rw [hb,Int.toNat_natCast]at w2;rw [hb]at w1;have p2: ∀i,upd S.ps b 3 i=2→i≠b∧S.ps i=2:=fun i h=>by
  by_cases ei:i=b;·subst ei;rw [upd_eq]at h;cases h
  ·rw [upd_ne _ _ ei]at h;exact⟨ei,h⟩
 have p1: ∀i,upd S.ps b 3 i=1→S.ps i=1:=fun i h=>by
  by_cases ei:i=b;·subst ei;rw [upd_eq]at h;cases h
  ·rw [upd_ne _ _ ei]at h;exact h
 have p3: ∀i,S.ps i=3→upd S.ps b 3 i=3:=fun i h=>by
  by_cases ei:i=b;·subst ei;exact upd_eq _ _ _
  ·rw [upd_ne _ _ ei];exact h
 have pm: ∀i,S.ps i=2∨S.ps i=3→upd S.ps b 3 i=2∨upd S.ps b 3 i=3:=fun i h=>by
  by_cases ei:i=b;·subst ei;exact .inr (upd_eq _ _ _)
  ·rw [upd_ne _ _ ei];exact h
 cases k with
 |true=>
  have hl:S.log=(b:Int):=hb;refine⟨⟨q.geo,q.off,q.cut,q.dn,hiw,q.nxP,fun i hi h=>?_,fun i hi h=>q.free i hi (p1 i h),fun y hy=>?_,fun h=>absurd h (by show¬(0:Int)≤ -1;omega),q.jdat,fun s p h=>?_,q.inj⟩,⟨fun _ _=>Nat.le_refl _,fun _ _ _ _=>rfl,fun i _ h=>p3 i h,fun i _ h=>pm i h,fun _ _ _=>rfl,fun i _ h e=>h (p1 i e)⟩⟩
  ·obtain⟨h1,h2⟩:=p2 i h;rcases q.op2 i hi h2 with h3|h3;·exact .inl h3
   ·rw [hl]at h3;exact absurd (by omega) h1
  ·obtain⟨i,h1,h2,h3⟩:=q.jr y hy;refine⟨i,h1,h2,.inl ?_⟩;rcases h3 with h3|⟨h3,h4⟩;·exact p3 i h3
   ·rw [hl]at h4;have:i=b:=(by omega);subst this;exact upd_eq _ _ _
  ·obtain⟨h1,h2,i,j,h3,h4,h5,h6,h7⟩:=q.map s p h;exact⟨h1,h2,i,j,h3,h4,h5,pm i h6,h7⟩
 |false=>
  have hl:S.dat=(b:Int):=hb;refine⟨⟨q.geo,q.off,q.cut,q.dn,hiw,q.nxP,fun i hi h=>?_,fun i hi h=>q.free i hi (p1 i h),fun y hy=>?_,q.jlog,fun h=>absurd h (by show¬(0:Int)≤ -1;omega),fun s p h=>?_,q.inj⟩,⟨fun _ _=>Nat.le_refl _,fun _ _ _ _=>rfl,fun i _ h=>p3 i h,fun i _ h=>pm i h,fun _ _ _=>rfl,fun i _ h e=>h (p1 i e)⟩⟩
  ·obtain⟨h1,h2⟩:=p2 i h;rcases q.op2 i hi h2 with h3|h3;·rw [hl]at h3;exact absurd (by omega) h1
   ·exact .inr h3
  ·obtain⟨i,h1,h2,h3⟩:=q.jr y hy;refine⟨i,h1,h2,?_⟩;by_cases ei:i=b;·subst ei;exact .inl (upd_eq _ _ _)
   ·show upd S.ps b 3 i=3∨upd S.ps b 3 i=2∧_;rw [upd_ne _ _ ei];exact h3
  ·obtain⟨h1,h2,i,j,h3,h4,h5,h6,h7⟩:=q.map s p h;exact⟨h1,h2,i,j,h3,h4,h5,pm i h6,h7⟩
theorem AInv.cls (q:AInv S)(k:Bool):AInv (S.cls k)∧Keep S (S.cls k):=by
 have hiw:=(q.iw.cls k).1;by_cases hc:0≤S.sel k∧(S.D.bl (S.sel k).toNat).nx=S.D.P
 ·have e:S.cls k=({S with ps:=upd S.ps (S.sel k).toNat 3}).put k (-1):=by unfold Ap.cls;rw [if_pos hc]
  rw [e]at hiw ⊢;exact q.close hc.1 hiw
 ·have e:S.cls k=S:=by unfold Ap.cls;rw [if_neg hc]
  rw [e];exact⟨q,.refl _⟩
theorem AInv.opn {k:Bool}(q:AInv S)(h:S.opn k=some S2):AInv S2∧Keep S S2∧S2.jr (S2.sel k)=k:=by
 obtain⟨hiw,hD,hs0,-⟩:=q.iw.opn h;unfold Ap.opn at h;split at h
 ·rename_i hs;split at h;·cases h
  ·rename_i hcold;rcases G8 S.ps S.pe 1 S.D.nb with⟨h1,-⟩|⟨c,hc,h1,h2⟩;·rw [h1]at hcold;omega
   ·rw [h1,Int.toNat_natCast]at h;have hjc:S.jr (c:Int)=false:=by
     cases hj:S.jr (c:Int)with
     |false=>rfl
     |true=>obtain⟨i,e1,e2,e3⟩:=q.jr _ hj;have:i=c:=(by omega);subst this;rcases e3 with e3|⟨e3,-⟩ <;> omega
    have p2: ∀i,upd S.ps c 2 i=2→i=c∨S.ps i=2:=fun i h=>by
     by_cases ei:i=c;·exact .inl ei
     ·rw [upd_ne _ _ ei]at h;exact .inr h
    have p1: ∀i,upd S.ps c 2 i=1→S.ps i=1:=fun i h=>by
     by_cases ei:i=c;·subst ei;exact h2
     ·rw [upd_ne _ _ ei]at h;exact h
    have p3: ∀i,S.ps i=3→upd S.ps c 2 i=3:=fun i h=>by rw [upd_ne _ _ (fun e=>by subst e;omega)];exact h
    have pm: ∀i,S.ps i=2∨S.ps i=3→upd S.ps c 2 i=2∨upd S.ps c 2 i=3:=fun i h=>by rw [upd_ne _ _ (fun e=>by subst e;omega)];exact h
    have nc: ∀i,S.ps i=2∨S.ps i=3→i≠c:=fun i h e=>by subst e;omega
    cases k with
    |true=>
     cases h;have hlg:S.log<0:=hs;refine⟨⟨q.geo,q.off,q.cut,q.dn,hiw,q.nxP,fun i hi h=>?_,fun i hi h=>q.free i hi (p1 i h),fun y hy=>?_,fun _=>?_,fun hd=>?_,fun s p h=>?_,q.inj⟩,⟨fun _ _=>Nat.le_refl _,fun _ _ _ _=>rfl,fun i _ h=>p3 i h,fun i _ h=>pm i h,fun i hi hne=>?_,fun i _ h e=>h (p1 i e)⟩,?_⟩
     ·rcases p2 i h with h3|h3;·exact .inr (by rw [h3];rfl)
      ·rcases q.op2 i hi h3 with h4|h4;·exact .inl h4
       ·omega
     ·have hy':Bh S.jr (c:Int) true y=true:=hy;unfold Bh at hy';by_cases ey:y=(c:Int);·exact⟨c,ey,hc,.inr ⟨upd_eq _ _ _,rfl⟩⟩
      ·rw [if_neg ey]at hy';obtain⟨i,e1,e2,e3⟩:=q.jr y hy';refine⟨i,e1,e2,?_⟩;rcases e3 with e3|⟨e3,e4⟩;·exact .inl (p3 i e3)
       ·omega
     ·show Bh S.jr (c:Int) true (c:Int)=true;unfold Bh;rw [if_pos rfl]
     ·show Bh S.jr (c:Int) true S.dat=false;have hd':0≤S.dat:=hd;obtain⟨g1,g2⟩:=(q.iw.wi false).sel hd';have g2':S.ps S.dat.toNat=2:=g2;unfold Bh;rw [if_neg (fun e=>nc _ (.inl g2') (by omega))];exact q.jdat hd'
     ·obtain⟨e1,e2,i,j,h3,h4,h5,h6,h7,h8⟩:=q.map s p h;refine⟨e1,e2,i,j,h3,h4,h5,pm i h6,?_,h8⟩;show Bh S.jr (c:Int) true (i:Int)=false;unfold Bh;rw [if_neg (fun e=>nc i h6 (by omega))];exact h7
     ·show Bh S.jr (c:Int) true (i:Int)=S.jr (i:Int);unfold Bh;rw [if_neg (fun e=>hne (by have:i=c:=(by omega);subst this;exact h2))]
     ·show Bh S.jr (c:Int) true (c:Int)=true;unfold Bh;rw [if_pos rfl]
    |false=>
     cases h;have hdt:S.dat<0:=hs;refine⟨⟨q.geo,q.off,q.cut,q.dn,hiw,q.nxP,fun i hi h=>?_,fun i hi h=>q.free i hi (p1 i h),fun y hy=>?_,q.jlog,fun hd=>hjc,fun s p h=>?_,q.inj⟩,⟨fun _ _=>Nat.le_refl _,fun _ _ _ _=>rfl,fun i _ h=>p3 i h,fun i _ h=>pm i h,fun i hi hne=>rfl,fun i _ h e=>h (p1 i e)⟩,hjc⟩
     ·rcases p2 i h with h3|h3;·exact .inl (by rw [h3];rfl)
      ·rcases q.op2 i hi h3 with h4|h4;·omega
       ·exact .inr h4
     ·obtain⟨i,e1,e2,e3⟩:=q.jr y hy;refine⟨i,e1,e2,?_⟩;rcases e3 with e3|⟨e3,e4⟩;·exact .inl (p3 i e3)
      ·refine .inr ⟨?_,e4⟩;show upd S.ps c 2 i=2;rw [upd_ne _ _ (nc i (.inl e3))];exact e3
     ·obtain⟨e1,e2,i,j,h3,h4,h5,h6,h7⟩:=q.map s p h;exact⟨e1,e2,i,j,h3,h4,h5,pm i h6,h7⟩
 ·rename_i hs
  cases h;refine⟨q,.refl _,?_⟩
  cases k with
  |true=>exact q.jlog (Int.not_lt.1 hs)
  |false=>exact q.jdat (Int.not_lt.1 hs)
theorem Dv.prog_ok {D:Dv}{all:List Nat}(hoff:D.off=false)(hcut:D.cut= -1)(hb:b<D.nb)(hx:(D.bl b).nx<D.P): D.prog (b:Int) all=(D.wr b all,if D.flt D.n=true then 54 else 0)∧(D.wr b all).off=false∧D.pgW all=if D.flt D.n=true then⟨4,[]⟩else⟨2,all⟩:=by
 have hn: ¬((D.n:Int)=D.cut):=by rw [hcut];omega
 refine⟨?_,?_,?_⟩;·unfold Dv.prog;rw [if_pos ⟨by omega,by omega,by rw [Int.toNat_natCast];exact hx⟩,if_neg (by rw [hoff];simp),if_neg hn,Int.toNat_natCast]
 ·show(D.off || decide ((D.n:Int)=D.cut))=false;rw [hoff,decide_eq_false hn];rfl
 ·unfold Dv.pgW;rw [if_neg hn]
theorem AInv.wr {all:List Nat}(q:AInv S)(hb:b<S.D.nb)(hp:S.ps b=2)(hx:(S.D.bl b).nx<S.D.P)(su:Int→Bool): AInv {S with D:=S.D.wr b all,su:=su}∧Keep S {S with D:=S.D.wr b all,su:=su}:=by
 have ho:=(Dv.prog_ok (all:=all) q.off q.cut hb hx).2.1;have hbl: ∀i,i≠b→(S.D.wr b all).bl i=S.D.bl i:=fun i h=>upd_ne _ _ h;have hbb:(S.D.wr b all).bl b=⟨upd (S.D.bl b).pg (S.D.bl b).nx (S.D.pgW all),(S.D.bl b).nx+1,(S.D.bl b).er⟩:=upd_eq _ _ _;have hpg: ∀i j,j<(S.D.bl i).nx→((S.D.wr b all).bl i).pg j=(S.D.bl i).pg j:=by
  intro i j hj;by_cases e:i=b;·subst e;rw [hbb];exact upd_ne _ _ (by omega)
  ·rw [hbl i e]
 have hnx: ∀i,(S.D.bl i).nx≤((S.D.wr b all).bl i).nx:=by
  intro i;by_cases e:i=b;·subst e;rw [hbb];exact Nat.le_succ _
  ·rw [hbl i e];exact Nat.le_refl _
 refine⟨⟨⟨q.geo.nb,q.geo.P,q.geo.sz,q.geo.en⟩,ho,q.cut,q.dn,⟨fun k=>⟨(q.iw.wi k).sel,(q.iw.wi k).lo⟩,q.iw.ne⟩,fun i hi=>?_,q.op2,fun i hi h=>?_,q.jr,q.jlog,q.jdat,fun s p h=>?_,q.inj⟩,⟨fun i _=>hnx i,fun i j _ hj=>hpg i j hj,fun _ _ h=>h,fun _ _ h=>h,fun _ _ _=>rfl,fun _ _ h=>h⟩⟩
 ·show((S.D.wr b all).bl i).nx≤S.D.P;by_cases e:i=b;·subst e;rw [hbb];exact hx
  ·rw [hbl i e];exact q.nxP i hi
 ·show((S.D.wr b all).bl i).nx=0;have h':S.ps i=1:=h;rw [hbl i (fun e=>by subst e;omega)];exact q.free i hi h'
 ·obtain⟨e1,e2,i,j,h3,h4,h5,h6,h7,h8,h9⟩:=q.map s p h;exact⟨e1,e2,i,j,h3,h4,h5,h6,h7,Nat.lt_of_lt_of_le h8 (hnx i),by show(((S.D.wr b all).bl i).pg j).st=2;rw [hpg i j h8];exact h9⟩
theorem AInv.nx_lt {k:Bool}(q:AInv S)(h:(S.cls k).opn k=some S2):(S2.D.bl (S2.sel k).toNat).nx<S2.D.P:=by
 have q1:=(q.cls k).1;have hP:=q1.geo.P;obtain⟨hiw,hD,hs0,-⟩:=q1.iw.opn h;by_cases hs:(S.cls k).sel k<0
 ·unfold Ap.opn at h;rw [if_pos hs]at h;split at h;·cases h
  ·rename_i hcold;rcases G8 (S.cls k).ps (S.cls k).pe 1 (S.cls k).D.nb with⟨h1,-⟩|⟨c,hc,h1,h2⟩;·rw [h1]at hcold;omega
   ·rw [hD];have e:S2.sel k=(c:Int):=by
     rw [h1]at h
     cases h;exact Dk _ _ _
    rw [e,Int.toNat_natCast,q1.free c hc h2];omega
 ·have e2:S2=S.cls k:=by
   unfold Ap.opn at h;rw [if_neg hs]at h
   cases h;rfl
  subst e2;by_cases hc:0≤S.sel k∧(S.D.bl (S.sel k).toNat).nx=S.D.P;·have e:S.cls k=({S with ps:=upd S.ps (S.sel k).toNat 3}).put k (-1):=(by unfold Ap.cls;rw [if_pos hc]);rw [e,Dk]at hs;omega
  ·have e:S.cls k=S:=(by unfold Ap.cls;rw [if_neg hc]);rw [e]at hs ⊢;obtain⟨g1,g2⟩:=(q.iw.wi k).sel (by omega);have:=q.nxP (S.sel k).toNat (by omega);have hne:(S.D.bl (S.sel k).toNat).nx≠S.D.P:=fun e=>hc ⟨by omega,e⟩;omega
theorem Acg (S:Ap)(k:Bool):(S.cls k).D=S.D:=by unfold Ap.cls;split <;> cases k <;> rfl
theorem AInv.w1 (q:AInv S)(k:Bool)(all:List Nat):AInv (S.w1 k all).1∧Keep S (S.w1 k all).1∧(S.w1 k all).2≠ .pow∧((S.w1 k all).2= .full→ ∀i,i<S.D.nb→(S.w1 k all).1.ps i≠1)∧ (∀p,(S.w1 k all).2= .done p→ ∃b j:Nat,p=b*S.D.P+j∧b<S.D.nb∧j<S.D.P∧(S.w1 k all).1.ps b=2∧(S.w1 k all).1.jr (b:Int)=k∧j<((S.w1 k all).1.D.bl b).nx∧((S.w1 k all).1.D.bl b).pg j=⟨2,all⟩∧(S.D.bl b).nx=j):=by
 obtain⟨q1,k1⟩:=q.cls k;have hiw:=(q.iw.w1 k all).1;have hn1:(S.cls k).D=S.D:=Acg S k
 cases ho:(S.cls k).opn k with
 |none=>
  have e:S.w1 k all=(S.cls k,.full):=by unfold Ap.w1;rw [ho]
  rw [e];refine⟨q1,k1,(by simp),fun _ i hi=>?_,fun p h=>by cases h⟩;unfold Ap.opn at ho;split at ho
  ·split at ho
   ·rename_i hcold;rcases G8 (S.cls k).ps (S.cls k).pe 1 (S.cls k).D.nb with⟨h1,h2⟩|⟨c,hc,h1,h2⟩;·exact h2 i (by rw [hn1];exact hi)
    ·rw [h1]at hcold;omega
   ·cases ho
  ·cases ho
 |some S2=>
  obtain⟨q2,k2,hj2⟩:=q1.opn ho;have hx:=q.nx_lt ho;obtain⟨-,hD2,hs0,-⟩:=q1.iw.opn ho;obtain⟨g1,g2⟩:=(q2.iw.wi k).sel hs0;obtain⟨b,hb⟩:=Int.eq_ofNat_of_zero_le hs0;have hsame:S2.D=S.D:=hD2.trans hn1;rw [hb,Int.toNat_natCast]at hx g2;rw [hb]at hj2;have hbn:b<S2.D.nb:=by omega
  obtain⟨f1,f2,f3⟩:=Dv.prog_ok (all:=all) q2.off q2.cut hbn hx;have kk:Keep S S2:=k1.trans k2 (by rw [hn1]);by_cases hfl:S2.D.flt S2.D.n=true;·have e:S.w1 k all=(({S2 with D:=S2.D.wr b all,su:=Bh S2.su (b:Int) true,ps:=upd S2.ps b 3}:Ap).put k (-1),.again):=(by unfold Ap.w1;rw [ho];simp only [hb,f1,if_pos hfl,Int.toNat_natCast];rfl);obtain⟨q3,k3⟩:=q2.wr (all:=all) hbn g2 hx (Bh S2.su (b:Int) true);have hse:({S2 with D:=S2.D.wr b all,su:=Bh S2.su (b:Int) true}:Ap).sel k=(b:Int):=(by cases k <;> exact hb);rw [e]at hiw ⊢;have hcl:=q3.close (k:=k) (by rw [hse];omega);rw [hse,Int.toNat_natCast]at hcl;obtain⟨q4,k4⟩:=hcl hiw;exact⟨q4,(kk.trans k3 (by rw [hsame])).trans k4 (by show S2.D.nb=S.D.nb;rw [hsame]),by simp,(fun h=>by cases h),fun p h=>by cases h⟩
  ·have e:S.w1 k all=({S2 with D:=S2.D.wr b all},.done (b*S2.D.P+(S2.D.bl b).nx)):=(by unfold Ap.w1;rw [ho];simp only [hb,f1,if_neg hfl,Int.toNat_natCast];rfl);obtain⟨q3,k3⟩:=q2.wr (all:=all) hbn g2 hx S2.su;rw [e];refine⟨q3,kk.trans k3 (by rw [hsame]),by simp,(fun h=>by cases h),fun p h=>?_⟩
   cases h;rw [if_neg hfl]at f3;refine⟨b,(S2.D.bl b).nx,by rw [←hsame],by rw [←hsame];exact hbn,by rw [←hsame];exact hx,g2,hj2,?_,?_,by rw [hsame]⟩;·show(S2.D.bl b).nx<((upd S2.D.bl b ⟨upd (S2.D.bl b).pg (S2.D.bl b).nx (S2.D.pgW all),(S2.D.bl b).nx+1,(S2.D.bl b).er⟩) b).nx;rw [upd_eq];exact Nat.lt_succ_self _
   ·show((upd S2.D.bl b ⟨upd (S2.D.bl b).pg (S2.D.bl b).nx (S2.D.pgW all),(S2.D.bl b).nx+1,(S2.D.bl b).er⟩) b).pg (S2.D.bl b).nx=_;rw [upd_eq];show upd (S2.D.bl b).pg (S2.D.bl b).nx (S2.D.pgW all) (S2.D.bl b).nx=_;rw [upd_eq];exact f3
theorem WrP.inv {k:Bool}{all:List Nat}{r:WO}(h:WrP k all S S' r)(q:AInv S):AInv S'∧Keep S S'∧r≠ .pow∧(r= .full→ ∀i,i<S.D.nb→S'.ps i≠1)∧ (∀p,r= .done p→ ∃b j:Nat,p=b*S.D.P+j∧b<S.D.nb∧j<S.D.P∧S'.ps b=2∧S'.jr (b:Int)=k∧j<(S'.D.bl b).nx∧(S'.D.bl b).pg j=⟨2,all⟩∧(S.D.bl b).nx≤j):=by
 induction h with
 |stop h=>obtain⟨a,b,c,d,e⟩:=q.w1 k all;exact⟨a,b,c,d,fun p hp=>let⟨b,j,e1,e2,e3,e4,e5,e6,e7,e8⟩:=e p hp;⟨b,j,e1,e2,e3,e4,e5,e6,e7,by omega⟩⟩
 | @more S S' r h _ ih=>obtain⟨a,b,c,d,e⟩:=q.w1 k all;obtain⟨a',b',c',d',e'⟩:=ih a;have f:=dx S k all;refine⟨a',b.trans b' f.nb,c',fun hr i hi=>d' hr i (by rw [f.nb];exact hi),fun p hp=>?_⟩;obtain⟨i,j,e1,e2,e3,e4,e5,e6,e7,e8⟩:=e' p hp;rw [f.nb]at e2;rw [f.P]at e1 e3;exact⟨i,j,e1,e2,e3,e4,e5,e6,e7,Nat.le_trans (b.nx i e2) e8⟩
theorem AInv.nw (q:AInv S)(n l:Nat)(w:Int→Option Nat):AInv {S with next:=n,last:=l,wr:=w}:= ⟨q.geo,q.off,q.cut,q.dn,⟨fun k=>⟨(q.iw.wi k).sel,(q.iw.wi k).lo⟩,q.iw.ne⟩,q.nxP,q.op2,q.free,q.jr,q.jlog,q.jdat,q.map,q.inj⟩
theorem StP.inv (h:StP sec data S S' o)(q:AInv S):AInv S'∧Keep S S'∧o≠ .pow∧(o= .full→ ∀i,i<S.D.nb→S'.ps i≠1)∧ (∀p,o= .done p→ ∃b j:Nat,p=b*S.D.P+j∧b<S.D.nb∧j<S.D.P∧S'.ps b=2∧S'.jr (b:Int)=false∧j<(S'.D.bl b).nx∧(S'.D.bl b).pg j=⟨2,data++Ao (spD sec S.next) data⟩∧(S.D.bl b).nx≤j):=by
 have q1:AInv {S with next:=S.next+1}:=q.nw (S.next+1) S.last S.wr
 cases h with
 |ok h=>obtain⟨a,b,c,d,e⟩:=h.inv q1;refine⟨a.nw _ _ _,⟨b.nx,b.pg,b.ps3,b.psm,b.jrm,b.n1⟩,c,d,e⟩
 |bad h hr=>obtain⟨a,b,c,d,e⟩:=h.inv q1;exact⟨a,⟨b.nx,b.pg,b.ps3,b.psm,b.jrm,b.n1⟩,c,d,e⟩
include L X
omit L X in
structure PgOk (S:Ap)(sec:Int)(data:List Nat)(p:Int):Prop where
 ex: ∃b j n:Nat,p=((b*S.D.P+j:Nat):Int)∧b<S.D.nb∧j<S.D.P∧(S.ps b=2∨S.ps b=3)∧S.jr (b:Int)=false∧j<(S.D.bl b).nx∧(S.D.bl b).pg j=⟨2,data++Ao (spD sec n) data⟩
omit L X
theorem PgOk.keep (q:PgOk S sec data p)(k:Keep S S')(hP:S'.D.P=S.D.P)(hnb:S'.D.nb=S.D.nb):PgOk S' sec data p:=by obtain⟨b,j,n,h1,h2,h3,h4,h5,h6,h7⟩:=q.ex;exact⟨b,j,n,by rw [hP];exact h1,by rw [hnb];exact h2,by rw [hP];exact h3,k.psm b h2 h4,by rw [k.jrm b h2 (by omega)];exact h5,Nat.lt_of_lt_of_le h6 (k.nx b h2),by rw [k.pg b j h2 h6];exact h7⟩
theorem StP.pg {p:Nat}(h:StP sec data S S' (.done p))(q:AInv S):PgOk S' sec data (p:Int)∧(∃b j:Nat,p=b*S.D.P+j∧b<S.D.nb∧j<S.D.P∧(S.D.bl b).nx≤j):=by have f:=(h.fr q.iw).1;obtain⟨a,b,c,d,e⟩:=h.inv q;obtain⟨i,j,e1,e2,e3,e4,e5,e6,e7,e8⟩:=e p rfl;exact⟨⟨i,j,S.next,by rw [f.P,e1],by rw [f.nb];exact e2,by rw [f.P];exact e3,.inl e4,e5,e6,e7⟩,i,j,e1,e2,e3,e8⟩
theorem AppP.inv {l:List (Int×Option (List Nat))}{es:List Ent}(h:AppP l S es S' o)(q:AInv S):AInv S'∧Keep S S'∧FrS S S'∧o≠ .pow∧(o= .full→ ∀i,i<S.D.nb→S'.ps i≠1):=by
 induction h with
 |nil=>exact⟨q,.refl _,.refl _,by simp,fun h=>by cases h⟩
 |put h _ ih=>obtain⟨a,b,c,d,-⟩:=h.inv q;have f:=(h.fr q.iw).1;obtain⟨a',b',c',d',e'⟩:=ih a;exact⟨a',b.trans b' f.nb,f.trans c',d',fun hr i hi=>e' hr i (by rw [f.nb];exact hi)⟩
 |bad h ho=>obtain⟨a,b,c,d,-⟩:=h.inv q;exact⟨a,b,(h.fr q.iw).1,c,d⟩
 |trim _ _ ih=>exact ih q
 |skip _ _ ih=>exact ih q
theorem AppP.es {l:List (Int×Option (List Nat))}{S S':Ap}{es:List Ent}{o:WO}(h:AppP l S es S' o)(q:AInv S): ∀e∈es,(∃x∈l,x.1=e.1)∧(e.2= -1∨ ∃b j:Nat,e.2=((b*S.D.P+j:Nat):Int)∧b<S.D.nb∧j<S.D.P∧(S.D.bl b).nx≤j):=by
 induction h with
 |nil=>intro e he;cases he
 |put h _ ih=>
  intro e he;obtain⟨a,b,-⟩:=h.inv q;have f:=(h.fr q.iw).1;rcases List.mem_cons.1 he with rfl|he;·obtain⟨-,i,j,e1,e2,e3,e4⟩:=h.pg q;exact⟨⟨_,List.mem_cons_self ..,rfl⟩,.inr ⟨i,j,by rw [e1],e2,e3,e4⟩⟩
  ·obtain⟨⟨x,hx,e1⟩,e2⟩:=ih a e he;refine⟨⟨x,List.mem_cons_of_mem _ hx,e1⟩,?_⟩;rcases e2 with e2|⟨i,j,g1,g2,g3,g4⟩;·exact .inl e2
   ·rw [f.nb]at g2;rw [f.P]at g1 g3;exact .inr ⟨i,j,g1,g2,g3,Nat.le_trans (b.nx i g2) g4⟩
 |bad h ho=>intro e he;cases he
 |trim _ _ ih=>
  intro e he;rcases List.mem_cons.1 he with rfl|he;·exact⟨⟨_,List.mem_cons_self ..,rfl⟩,.inl rfl⟩
  ·obtain⟨⟨x,hx,e1⟩,e2⟩:=ih q e he;exact⟨⟨x,List.mem_cons_of_mem _ hx,e1⟩,e2⟩
 |skip _ _ ih=>intro e he;obtain⟨⟨x,hx,e1⟩,e2⟩:=ih q e he;exact⟨⟨x,List.mem_cons_of_mem _ hx,e1⟩,e2⟩
theorem J6 {b' j':Nat}(hj:j<P)(hj':j'<P)(h:b*P+j=b'*P+j'):b=b'∧j=j':=by
 rcases Nat.lt_trichotomy b b' with q|q|q;·have:=Nat.mul_le_mul_right P (show b+1≤b' from q);rw [Nat.succ_mul]at this;omega
 ·subst q;exact⟨rfl,by omega⟩
 ·have:=Nat.mul_le_mul_right P (show b'+1≤b from q);rw [Nat.succ_mul]at this;omega
theorem AppP.nd {l:List (Int×Option (List Nat))}{es:List Ent}(h:AppP l S es S' o)(q:AInv S):es.Pairwise fun x y=>0≤x.2→x.2≠y.2:=by
 induction h with
 |nil=>exact .nil
 | @put sec data l S S1 S' p es o h r ih=>
  obtain⟨a,b,c,d,e⟩:=h.inv q;have f:=(h.fr q.iw).1;obtain⟨i,j,e1,e2,e3,-,-,e6,-,-⟩:=e p rfl;refine .cons (fun y hy _ e=>?_) (ih a);have e:(p:Int)=y.2:=e;rcases(r.es a y hy).2 with g|⟨i',j',g1,g2,g3,g4⟩;·omega
  ·rw [f.P]at g1 g3;obtain⟨rfl,rfl⟩:=J6 e3 g3 (show i*S.D.P+j=i'*S.D.P+j' by omega);omega
 |bad h ho=>exact .nil
 |trim _ _ ih=>exact .cons (fun y hy h _=>by simp only at h;omega) (ih q)
 |skip _ _ ih=>exact ih q
theorem H2 {A:Int→Option Int}{l:List Ent}: ∀i s p,stA A l i s=some p→A s=some p∨ ∃j e,j<i∧l[j]?=some e∧e.1=s∧e.2=p∧0≤p
 |0,s,p,h=> .inl h
 |i+1,s,p,h=>by
  cases hx:l[i]? with
  |none=>
   have:stA A l (i+1)=stA A l i:=(by unfold stA;rw [List.take_add_one,hx];simp);rw [this]at h;rcases H2 i s p h with h|⟨j,e,h1,h2⟩;·exact .inl h
   ·exact .inr ⟨j,e,by omega,h2⟩
  |some x=>
   rw [R1 hx]at h;unfold C0 at h;by_cases e1:s=x.1
   ·rw [if_pos e1]at h;by_cases e2:0≤x.2;·rw [if_pos e2]at h;cases h;exact .inr ⟨i,x,by omega,hx,e1.symm,rfl,e2⟩
    ·rw [if_neg e2]at h;cases h
   ·rw [if_neg e1]at h;rcases H2 i s p h with h|⟨j,e,h1,h2⟩;·exact .inl h
    ·exact .inr ⟨j,e,by omega,h2⟩
theorem AppP.ok {l:List (Int×Option (List Nat))}{S S':Ap}{es:List Ent}{o:WO}(h:AppP l S es S' o)(q:AInv S)(hr: ∀y∈l,0≤y.1∧y.1<(S.S:Int)): ∀j x,es[j]?=some x→okE S.S (S.D.nb*S.D.P) (stA S.A es j) x:=by
 intro j x hx;have hm:=List.mem_of_getElem? hx;obtain⟨⟨y,hy,hy1⟩,hp⟩:=h.es q x hm;have hrg:=hr y hy;rw [hy1]at hrg;have hnd:=h.nd q;refine⟨⟨hrg.1,hrg.2,?_,?_⟩,?_⟩;·rcases hp with e|⟨b,k,e,-⟩ <;> omega
 ·rcases hp with e|⟨b,k,e,hb,hk,-⟩;·rw [e];omega
  ·rw [e];have:=Nat.mul_le_mul_right S.D.P (show b+1≤S.D.nb from hb);rw [Nat.succ_mul]at this;omega
 ·rintro⟨s,hs,hne⟩;rcases H2 j s x.2 hs with h1|⟨j',e,h1,h2,h3,h4,h5⟩
  ·obtain⟨-,-,i,m,g1,g2,g3,g4,g5,g6,-⟩:=q.map s x.2 h1;rcases hp with e|⟨b,k,e,hb,hk,hk2⟩;·omega
   ·obtain⟨rfl,rfl⟩:=J6 g3 hk (show i*S.D.P+m=b*S.D.P+k by omega);omega
  ·obtain⟨l1,l2⟩:=List.getElem?_eq_some_iff.1 h2;obtain⟨l3,l4⟩:=List.getElem?_eq_some_iff.1 hx;have:=List.pairwise_iff_getElem.1 hnd j' j l1 l3 h1;rw [l2,l4]at this;exact this (by omega) h4
theorem RlP.inv {sz:Nat}{l:List JPg}(h:RlP sz l S S' o)(q:AInv S):AInv S'∧Keep S S'∧o≠ .pow∧(o= .full→ ∀i,i<S.D.nb→S'.ps i≠1):=by
 induction h with
 |nil=>exact⟨q,.refl _,by simp,fun h=>by cases h⟩
 |cons h _ ih=>obtain⟨a,b,c,d,-⟩:=h.inv q;have f:=h.fr;obtain⟨a',b',c',d'⟩:=ih a;exact⟨a',b.trans b' f.nb,c',fun hr i hi=>d' hr i (by rw [f.nb];exact hi)⟩
 |bad h ho=>obtain⟨a,b,c,d,-⟩:=h.inv q;exact⟨a,b,c,d⟩
theorem RcP.inv {es:List Ent}(h:RcP k es S S' o)(q:AInv S):AInv S'∧Keep S S'∧o≠ .pow∧(o= .full→ ∀i,i<S.D.nb→S'.ps i≠1):=by
 have q1:AInv {S with next:=S.next+recN S es}:=q.nw (S.next+recN S es) S.last S.wr
 cases h with
 |ok h=>obtain⟨a,b,c,d⟩:=h.inv q1;exact⟨a.nw _ _ _,⟨b.nx,b.pg,b.ps3,b.psm,b.jrm,b.n1⟩,c,fun h=>by cases h⟩
 |bad h _=>obtain⟨a,b,c,d⟩:=h.inv q1;exact⟨a,⟨b.nx,b.pg,b.ps3,b.psm,b.jrm,b.n1⟩,c,d⟩
theorem AInv.app {es:List Ent}(q:AInv S)(ok: ∀j x,es[j]?=some x→okE S.S (S.D.nb*S.D.P) (stA S.A es j) x) (hp: ∀e∈es,0≤e.2→ ∃data,PgOk S e.1 data e.2):AInv {S with A:=stA S.A es es.length}:=by
 have hinv:InvA S.S (S.D.nb*S.D.P) S.A:=by refine⟨fun s p h=>?_,q.inj⟩;obtain⟨h1,h2,b,j,h3,h4,h5,-⟩:=q.map s p h;refine⟨h1,h2,by omega,?_⟩;have:=Nat.mul_le_mul_right S.D.P (show b+1≤S.D.nb from h4);rw [Nat.succ_mul]at this;omega
 have hinv2:=hinv.st es.length (Nat.le_refl _) fun j x _ hx=>ok j x hx;refine⟨q.geo,q.off,q.cut,q.dn,⟨fun k=>⟨(q.iw.wi k).sel,(q.iw.wi k).lo⟩,q.iw.ne⟩,q.nxP,q.op2,q.free,q.jr,q.jlog,q.jdat,fun s p h=>?_,hinv2.inj⟩;obtain⟨h1,h2,-,-⟩:=hinv2.rg s p h;refine⟨h1,h2,?_⟩;rcases H2 es.length s p h with g|⟨j,e,g1,g2,g3,g4,g5⟩
 ·exact(q.map s p g).2.2
 ·obtain⟨data,hd⟩:=hp e (List.mem_of_getElem? g2) (by omega);obtain⟨b,i,n,f1,f2,f3,f4,f5,f6,f7⟩:=hd.ex;exact⟨b,i,by rw [←g4];exact f1,f2,f3,f4,f5,f6,by rw [f7]⟩
theorem AppP.pg {l:List (Int×Option (List Nat))}{es:List Ent}(h:AppP l S es S' o)(q:AInv S): ∀e∈es,0≤e.2→ ∃data,(e.1,some data)∈l∧PgOk S' e.1 data e.2:=by
 induction h with
 |nil=>intro e he;cases he
 | @put sec data l S S1 S' p es o h r ih=>
  obtain⟨a,b,-⟩:=h.inv q;obtain⟨-,k',f',-⟩:=r.inv a;intro e he h0;rcases List.mem_cons.1 he with rfl|he;·obtain⟨g,-⟩:=h.pg q;exact⟨data,List.mem_cons_self ..,g.keep k' f'.P f'.nb⟩
  ·obtain⟨d,h1,h2⟩:=ih a e he h0;exact⟨d,List.mem_cons_of_mem _ h1,h2⟩
 |bad h ho=>intro e he;cases he
 |trim _ _ ih=>
  intro e he h0;rcases List.mem_cons.1 he with rfl|he;·simp only at h0;omega
  ·obtain⟨d,h1,h2⟩:=ih q e he h0;exact⟨d,List.mem_cons_of_mem _ h1,h2⟩
 |skip _ _ ih=>intro e he h0;obtain⟨d,h1,h2⟩:=ih q e he h0;exact⟨d,List.mem_cons_of_mem _ h1,h2⟩
theorem CmP.inv {es:List Ent}(h:CmP es S S' o)(q:AInv S)(ok: ∀j x,es[j]?=some x→okE S.S (S.D.nb*S.D.P) (stA S.A es j) x)(hp: ∀e∈es,0≤e.2→ ∃data,PgOk S e.1 data e.2): AInv S'∧Keep S S'∧o≠ .pow∧(o= .full→(∀i,i<S.D.nb→S'.ps i≠1)∧S'.A=S.A)∧(o= .done 0→S'.A=stA S.A es es.length):=by
 cases h with
 |nil h=>subst h;exact⟨q,.refl _,by simp,(fun h=>by cases h),fun _=>rfl⟩
 |ok h hn=>
  obtain⟨a,b,c,d⟩:=h.inv q;obtain⟨f,-⟩:=h.fr q.iw;have e:=f.A;refine⟨a.app (es:=es) ?_ fun x hx h0=>?_,⟨b.nx,b.pg,b.ps3,b.psm,b.jrm,b.n1⟩,by simp,(fun h=>by cases h),fun _=>by show stA _ _ _=_;rw [e]⟩;·rw [f.secs,f.nb,f.P,e];exact ok
  ·obtain⟨data,hd⟩:=hp x hx h0;exact⟨data,hd.keep b f.P f.nb⟩
 |bad h ho=>obtain⟨a,b,c,d⟩:=h.inv q;obtain⟨f,-⟩:=h.fr q.iw;exact⟨a,b,c,fun hr=>⟨d hr,f.A⟩,fun hr=>by rcases ho with e|e <;> rw [e]at hr <;> cases hr⟩
theorem ApdP.inv {l:List (Int×Option (List Nat))}(h:ApdP l S S' o)(q:AInv S)(hr: ∀y∈l,0≤y.1∧y.1<(S.S:Int)): AInv S'∧Keep S S'∧o≠ .pow∧(o= .full→(∀i,i<S.D.nb→S'.ps i≠1)∧S'.A=S.A)∧ (o= .done 0→ ∃es S1,AppP l S es S1 (.done 0)∧S'.A=stA S.A es es.length∧ ∀e∈es,0≤e.2→ ∃data,(e.1,some data)∈l∧PgOk S' e.1 data e.2):=by
 have key: ∀{es:List Ent} {S1 S2:Ap} {o:WO},AppP l S es S1 (.done 0)→CmP es S1 S2 o→AInv S2∧Keep S S2∧o≠ .pow∧(o= .full→(∀i,i<S.D.nb→S2.ps i≠1)∧S2.A=S.A)∧
   (o= .done 0→S2.A=stA S.A es es.length∧ ∀e∈es,0≤e.2→ ∃data,(e.1,some data)∈l∧PgOk S2 e.1 data e.2):=by
  intro es S1 S2 o a c
  obtain⟨q1,k1,f1,-,-⟩:=a.inv q
  have hp:=a.pg q
  obtain⟨q2,k2,h2,h3,h4⟩:=c.inv q1 (by rw [f1.secs,f1.nb,f1.P,f1.A];exact a.ok q hr) fun e he h0=>let⟨d,_,h⟩:=hp e he h0;⟨d,h⟩
  obtain⟨⟨g1,g2,-⟩,-⟩:=c.fr q1.iw
  refine⟨q2,k1.trans k2 f1.nb,h2,fun ho=>⟨fun i hi=>(h3 ho).1 i (by rw [f1.nb];exact hi),(h3 ho).2.trans f1.A⟩,fun ho=>⟨by rw [h4 ho,f1.A],fun e he h0=>?_⟩⟩
  obtain⟨d,e1,e2⟩:=hp e he h0
  exact⟨d,e1,e2.keep k2 g2 g1⟩
 cases h with
 |ok a c=>obtain⟨h1,h2,h3,h4,h5⟩:=key a c;exact⟨h1,h2,h3,h4,fun ho=>⟨_,_,a,(h5 ho).1,(h5 ho).2⟩⟩
 |bad a ho=>obtain⟨q1,k1,f1,h4,h5⟩:=a.inv q;exact⟨q1,k1,h4,fun hr=>⟨h5 hr,f1.A⟩,fun hr=>by rcases ho with e|e <;> rw [e]at hr <;> cases hr⟩
 |bad2 a c ho=>obtain⟨h1,h2,h3,h4,h5⟩:=key a c;exact⟨h1,h2,h3,h4,fun hr=>by rcases ho with e|e <;> rw [e]at hr <;> cases hr⟩
theorem R7 (hj:j<P):(b*P+j) / P=b∧(b*P+j) % P=j:=by rw [Nat.add_comm];exact⟨by rw [Nat.add_mul_div_right _ _ (by omega),Nat.div_eq_of_lt hj,Nat.zero_add],by rw [Nat.add_mul_mod_self_right,Nat.mod_eq_of_lt hj]⟩
theorem PgOk.rd (q:PgOk S s data p)(h:S.A s=some p)(hd:data.length=S.D.sz):S.rd s=data:=by obtain⟨b,j,n,h1,h2,h3,h4,h5,h6,h7⟩:=q.ex;obtain⟨g1,g2⟩:=R7 (b:=b) h3;unfold Ap.rd;rw [h];simp only [h1,Int.toNat_natCast,g1,g2,h7];rw [←hd,List.take_left'];rfl
theorem Iy (q:AInv S)(k:Keep S S')(g:S'.D.P=S.D.P∧S'.D.sz=S.D.sz)(h:S'.A s=S.A s):S'.rd s=S.rd s:=by
 unfold Ap.rd;rw [h,g.1,g.2]
 cases hs:S.A s with
 |none=>rfl
 |some p=>obtain⟨-,-,b,j,h1,h2,h3,h4,h5,h6,h7⟩:=q.map s p hs;obtain⟨g1,g2⟩:=R7 (b:=b) h3;simp only [h1,Int.toNat_natCast,g1,g2];rw [k.pg b j h2 h6]
theorem AInv.rdOk (q:AInv S): ∀p:Int,S.A s=some p→p.toNat / S.D.P<S.D.nb∧p.toNat % S.D.P<(S.D.bl (p.toNat / S.D.P)).nx∧(((S.D.bl (p.toNat / S.D.P)).pg (p.toNat % S.D.P)).st=2∨((S.D.bl (p.toNat / S.D.P)).pg (p.toNat % S.D.P)).st=3):=by intro p hp;obtain⟨-,-,b,j,h1,h2,h3,h4,h5,h6,h7⟩:=q.map s p hp;obtain⟨g1,g2⟩:=R7 (b:=b) h3;rw [h1,Int.toNat_natCast,g1,g2];exact⟨h2,h6,.inl h7⟩
theorem AInv.ers (q:AInv S)(hb:b<S.D.nb)(h3:S.ps b=3)(hm: ∀s p,S.A s=some p→ ∀j:Nat,j<S.D.P→p≠((b*S.D.P+j:Nat):Int))(hj:S.jr (b:Int)=false): AInv (S.ers b).1∧(S.ers b).2= .done 0:=by
 have nb2:(b:Int)≠S.dat∨S.dat<0:=by
  by_cases h:0≤S.dat;·obtain⟨g1,g2⟩:=(q.iw.wi false).sel h;have g2':S.ps S.dat.toNat=2:=g2;exact .inl fun e=>by rw [←e,Int.toNat_natCast]at g2';omega
  ·exact .inr (by omega)
 have nb3:(b:Int)≠S.log∨S.log<0:=by
  by_cases h:0≤S.log;·obtain⟨g1,g2⟩:=(q.iw.wi true).sel h;have g2':S.ps S.log.toNat=2:=g2;exact .inl fun e=>by rw [←e,Int.toNat_natCast]at g2';omega
  ·exact .inr (by omega)
 have key: ∀(D':Dv) (su:Int→Bool) (wr:Int→Option Nat) (v:Nat) (pe:Nat→Nat),D'.nb=S.D.nb→D'.P=S.D.P→D'.sz=S.D.sz→D'.en=S.D.en→D'.off=false→D'.cut= -1→(∀i,i≠b→D'.bl i=S.D.bl i)→(D'.bl b).nx≤S.D.P→v≠2→(v=1→(D'.bl b).nx=0)→
   AInv {S with D:=D',su:=su,wr:=wr,ps:=upd S.ps b v,pe:=pe}:=by
  intro D' su wr v pe h1 h2 h3' h4 h5 h6 h7 h8 h9 h10
  have ps: ∀i,S.ps i=2→upd S.ps b v i=2:=fun i h=>by rw [upd_ne _ _ (fun e=>by subst e;omega)];exact h
  refine⟨⟨by show 2≤D'.nb∧D'.nb≤12;rw [h1];exact q.geo.nb,by show 2≤D'.P∧D'.P≤6;rw [h2];exact q.geo.P,by show 12≤D'.sz∧D'.sz≤30;rw [h3'];exact q.geo.sz,by show 1≤D'.en∧D'.en≤1000;rw [h4];exact q.geo.en⟩,h5,h6,q.dn,⟨fun k=>⟨fun h=>?_,(q.iw.wi k).lo⟩,q.iw.ne⟩,fun i hi=>?_,fun i hi h=>?_,fun i hi h=>?_,fun y hy=>?_,q.jlog,q.jdat,fun s p h=>?_,q.inj⟩
  ·obtain⟨g1,g2⟩:=(q.iw.wi k).sel h
   exact⟨by show S.sel k<(D'.nb:Int);rw [h1];exact g1,ps _ g2⟩
  ·show(D'.bl i).nx≤D'.P
   have hi':i<D'.nb:=hi
   rw [h2]
   by_cases e:i=b
   ·subst e;exact h8
   ·rw [h7 i e];exact q.nxP i (by omega)
  ·have hi':i<D'.nb:=hi
   have h':upd S.ps b v i=2:=h
   by_cases e:i=b
   ·subst e;rw [upd_eq]at h';exact absurd h' h9
   ·rw [upd_ne _ _ e]at h';exact q.op2 i (by omega) h'
  ·have hi':i<D'.nb:=hi
   have h':upd S.ps b v i=1:=h
   show(D'.bl i).nx=0
   by_cases e:i=b
   ·subst e;rw [upd_eq]at h';exact h10 h'
   ·rw [upd_ne _ _ e]at h';rw [h7 i e];exact q.free i (by omega) h'
  ·obtain⟨i,e1,e2,e3⟩:=q.jr y hy
   have hib:i≠b:=fun e=>by subst e;have hy':S.jr y=true:=hy;rw [e1,hj]at hy';cases hy'
   refine⟨i,e1,by show i<D'.nb;rw [h1];exact e2,?_⟩
   show upd S.ps b v i=3∨upd S.ps b v i=2∧_
   rw [upd_ne _ _ hib];exact e3
  ·obtain⟨e1,e2,i,j,g1,g2,g3,g4,g5,g6,g7⟩:=q.map s p h
   have hib:i≠b:=fun e=>by subst e;exact hm s p h j g3 g1
   refine⟨e1,e2,i,j,by show p=((i*D'.P+j:Nat):Int);rw [h2];exact g1,by show i<D'.nb;rw [h1];exact g2,by show j<D'.P;rw [h2];exact g3,?_,g5,by show j<(D'.bl i).nx;rw [h7 i hib];exact g6,by show((D'.bl i).pg j).st=2;rw [h7 i hib];exact g7⟩
   show upd S.ps b v i=2∨upd S.ps b v i=3
   rw [upd_ne _ _ hib];exact g4
 have hn: ¬((S.D.n:Int)=S.D.cut):=by rw [q.cut];omega
 unfold Ap.ers;by_cases hs:S.su (b:Int)=true;·rw [if_pos hs];exact⟨key S.D _ S.wr 4 S.pe rfl rfl rfl rfl q.off q.cut (fun _ _=>rfl) (q.nxP b hb) (by omega) (fun h=>by cases h),rfl⟩
 ·rw [if_neg hs];have he:S.D.erase (b:Int)=if S.D.en≤(S.D.bl b).er then(S.D,56)else if S.D.flt S.D.n=true then({S.D with bl:=upd S.D.bl b ⟨D7 5,S.D.P,(S.D.bl b).er+1⟩,n:=S.D.n+1},55)else({S.D with bl:=upd S.D.bl b ⟨D7 1,0,(S.D.bl b).er+1⟩,n:=S.D.n+1},0):=by unfold Dv.erase;rw [if_pos ⟨by omega,by omega⟩,if_neg (by rw [q.off];simp),if_neg hn];simp only [Int.toNat_natCast]
  rw [he];by_cases c1:S.D.en≤(S.D.bl b).er;·simp only [if_pos c1];exact⟨key S.D S.su _ 4 S.pe rfl rfl rfl rfl q.off q.cut (fun _ _=>rfl) (q.nxP b hb) (by omega) (fun h=>by cases h),rfl⟩
  ·by_cases c2:S.D.flt S.D.n=true;·simp only [if_neg c1,if_pos c2];exact⟨key {S.D with bl:=upd S.D.bl b ⟨D7 5,S.D.P,(S.D.bl b).er+1⟩,n:=S.D.n+1} S.su _ 4 S.pe rfl rfl rfl rfl q.off q.cut (fun i h=>upd_ne _ _ h) (by show(upd S.D.bl b _ b).nx≤_;rw [upd_eq];exact Nat.le_refl _) (by omega) (fun h=>by cases h),rfl⟩
   ·simp only [if_neg c1,if_neg c2];exact⟨key {S.D with bl:=upd S.D.bl b ⟨D7 1,0,(S.D.bl b).er+1⟩,n:=S.D.n+1} S.su _ 1 _ rfl rfl rfl rfl q.off q.cut (fun i h=>upd_ne _ _ h) (by show(upd S.D.bl b _ b).nx≤_;rw [upd_eq];exact Nat.zero_le _) (by omega) (fun _=>by show(upd S.D.bl b _ b).nx=0;rw [upd_eq]),rfl⟩
theorem AInv.unj (q:AInv S)(h3:S.ps b=3):AInv {S with jr:=Bh S.jr (b:Int) false}:=by
 have ne: ∀k,0≤S.sel k→S.sel k≠(b:Int):=fun k h e=>by obtain⟨g1,g2⟩:=(q.iw.wi k).sel h;rw [e,Int.toNat_natCast]at g2;omega
 refine⟨q.geo,q.off,q.cut,q.dn,⟨fun k=>⟨(q.iw.wi k).sel,(q.iw.wi k).lo⟩,q.iw.ne⟩,q.nxP,q.op2,q.free,fun y hy=>?_,fun h=>?_,fun h=>?_,fun s p h=>?_,q.inj⟩
 ·have hy':Bh S.jr (b:Int) false y=true:=hy;unfold Bh at hy';split at hy';·cases hy'
  ·exact q.jr y hy'
 ·show Bh S.jr (b:Int) false S.log=true;unfold Bh;rw [if_neg (show¬S.log=(b:Int) from ne true h)];exact q.jlog h
 ·show Bh S.jr (b:Int) false S.dat=false;unfold Bh;rw [if_neg (show¬S.dat=(b:Int) from ne false h)];exact q.jdat h
 ·obtain⟨e1,e2,i,j,g1,g2,g3,g4,g5,g6⟩:=q.map s p h;refine⟨e1,e2,i,j,g1,g2,g3,g4,?_,g6⟩;show Bh S.jr (b:Int) false (i:Int)=false;unfold Bh;split;·rfl
  ·exact g5
theorem Ae6 (S:Ap)(b:Nat)(f:Int→Bool):({S with jr:=f}:Ap).ers b=({(S.ers b).1 with jr:=f},(S.ers b).2):=by
 unfold Ap.ers;by_cases h1:S.su (b:Int)=true;·rw [if_pos h1,if_pos h1]
 ·rw [if_neg h1,if_neg h1];by_cases h2:(S.D.erase (b:Int)).2=50;·rw [if_pos h2,if_pos h2]
  ·rw [if_neg h2,if_neg h2];by_cases h3:(S.D.erase (b:Int)).2=0;·rw [if_pos h3,if_pos h3]
   ·rw [if_neg h3,if_neg h3]
theorem Qc (S:Ap)(b:Nat):(S.ers b).1.jr=S.jr:=by
 unfold Ap.ers;split;·rfl
 ·split;·rfl
  ·split <;> rfl
theorem AInv.ersJ (q:AInv S)(hb:b<S.D.nb)(h3:S.ps b=3)(hj:S.jr (b:Int)=true): AInv {(S.ers b).1 with jr:=Bh (S.ers b).1.jr (b:Int) false}∧(S.ers b).2= .done 0:=by
 have q1:=q.unj h3;have h:=q1.ers (b:=b) hb h3 (fun s p h j hj2 e=>?_) (by show Bh _ _ _ _=_;unfold Bh;rw [if_pos rfl]);·rw [Ae6]at h;rw [Qc];exact h
 ·obtain⟨-,-,i,m,g1,g2,g3,g4,g5,-⟩:=q.map s p h;obtain⟨rfl,-⟩:=J6 g3 hj2 (show i*S.D.P+m=b*S.D.P+j by have e':p=((b*S.D.P+j:Nat):Int):=e;omega);rw [hj]at g5;cases g5
include L X
omit L X in
structure Bd (S:Ap)(k:Nat):Prop where
 last:S.last<S.next
 wr: ∀b n,S.wr b=some n→n<S.next
 pe: ∀b,S.pe b≤k
 nx:S.next≤k+1
 dn:S.D.n≤k
omit L X
theorem Bd.mono (q:Bd S k)(h:k≤k'):Bd S k':=⟨q.last,q.wr,fun b=>Nat.le_trans (q.pe b) h,by have:=q.nx;omega,Nat.le_trans q.dn h⟩
theorem StP.bd (h:StP sec data S S' o)(iw:IW S)(hn:S.D.nb≤12)(q:Bd S k):Bd S' (k+30):=by
 obtain⟨f,-,h1,h2⟩:=h.fr iw;have l1:=q.last;have l2:=q.nx;have l3:=q.dn;refine⟨by rw [f.last,h2];omega,fun b n e=>?_,fun b=>by rw [f.pe];have:=q.pe b;omega,by rw [h2];omega,by omega⟩;rw [h2]
 cases h with
 |ok h=>
  have g:=h.fr.wr;simp only [Oa]at e;split at e;·cases e;omega
  ·rw [g]at e;have:=q.wr b n e;omega
 |bad h _=>have g:=h.fr.wr;rw [g]at e;have:=q.wr b n e;omega
theorem AppP.bd {l:List (Int×Option (List Nat))}{es:List Ent}(h:AppP l S es S' o): ∀{k:Nat},IW S→S.D.nb≤12→Bd S k→Bd S' (k+30*l.length):=by
 induction h with
 |nil=>intro k _ _ q;exact q.mono (Nat.le_add_right _ _)
 |put h _ ih=>intro k iw hn q;obtain⟨f,iw1,-⟩:=h.fr iw;exact(ih iw1 (by rw [f.nb];exact hn) (h.bd iw hn q)).mono (by rw [List.length_cons];omega)
 |bad h _=>intro k iw hn q;exact(h.bd iw hn q).mono (by rw [List.length_cons];omega)
 |trim _ _ ih=>intro k iw hn q;exact(ih iw hn q).mono (by rw [List.length_cons];omega)
 |skip _ _ ih=>intro k iw hn q;exact(ih iw hn q).mono (by rw [List.length_cons];omega)
theorem AppP.len {l:List (Int×Option (List Nat))}{es:List Ent}(h:AppP l S es S' o):es.length≤l.length:=by
 induction h with
 |nil=>exact Nat.le_refl _
 |put _ _ ih=>exact Nat.succ_le_succ ih
 |bad _ _=>exact Nat.zero_le _
 |trim _ _ ih=>exact Nat.succ_le_succ ih
 |skip _ _ ih=>exact Nat.le_succ_of_le ih
theorem RcP.bd {t:Nat}{es:List Ent}(h:RcP t es S S' o)(iw:IW S)(hn:S.D.nb≤12)(q:Bd S k):Bd S' (k+30*recN S es):=by
 obtain⟨f,-,h1,h2⟩:=h.fr iw;have l1:=q.last;have l2:=q.nx;have l3:=q.dn;have hm:(2*S.D.nb+2)*recN S es≤30*recN S es:=Nat.mul_le_mul_right _ (by omega);have hl:S'.last<S'.next:=by
  rw [h2]
  cases h with
  |ok h=>simp only;omega
  |bad h _=>have:=(h.fr (S:= {S with next:=S.next+recN S es}) ⟨fun k=>⟨(iw.wi k).sel,(iw.wi k).lo⟩,iw.ne⟩).1.last;rw [this];simp only;omega
 exact⟨hl,fun b n e=>by rw [f.wr]at e;have:=q.wr b n e;omega,fun b=>by rw [f.pe];have:=q.pe b;omega,by omega,by omega⟩
theorem CmP.bd {es:List Ent}(h:CmP es S S' o)(iw:IW S)(hn:S.D.nb≤12)(q:Bd S k):Bd S' (k+30*recN S es):=by
 cases h with
 |nil h=>exact q.mono (Nat.le_add_right _ _)
 |ok h _=>have:=h.bd iw hn q;exact⟨this.last,this.wr,this.pe,this.nx,this.dn⟩
 |bad h _=>exact h.bd iw hn q
theorem Z9 (b:Nat)(q:Bd S k):Bd (S.ers b).1 (k+1):=by
 have l2:=q.nx;have l3:=q.dn;have g:=(S.D.erase_geo (b:Int)).2.1;have hp: ∀i,S.pe i≤k+1:=fun i=>by have:=q.pe i;omega
 have hw: ∀i n,Oa S.wr (b:Int) none i=some n→n<S.next:=fun i n e=>by
  simp only [Oa]at e;split at e;·cases e
  ·exact q.wr i n e
 unfold Ap.ers;split;·exact⟨q.last,q.wr,hp,by simp only;omega,by simp only;omega⟩
 ·split;·exact⟨q.last,q.wr,hp,by simp only;omega,by simp only;omega⟩
  ·split
   ·refine⟨q.last,hw,fun i=>?_,by simp only;omega,by simp only;omega⟩;show upd S.pe b (S.pe b+1) i≤k+1;by_cases e:i=b;·subst e;rw [upd_eq];have:=q.pe i;omega
    ·rw [upd_ne _ _ e];exact hp i
   ·exact⟨q.last,hw,hp,by simp only;omega,by simp only;omega⟩
theorem ErP.bd {l:List Int}(h:ErP l S S' o): ∀{k:Nat},Bd S k→Bd S' (k+l.length):=by
 induction h with
 |nil=>intro k q;exact q
 | @cons b l S S' o h t ih=>intro k q;have q1:=Z9 b q;exact(ih ⟨q1.last,q1.wr,q1.pe,q1.nx,q1.dn⟩).mono (by rw [List.length_cons];omega)
 | @bad b l S h=>intro k q;exact(Z9 b q).mono (by rw [List.length_cons];omega)
theorem Iz {es:List Ent}(h:12≤S.D.sz):recN S es≤es.length+1:=Mu h
theorem ApdP.bd {l:List (Int×Option (List Nat))}(h:ApdP l S S' o)(q:AInv S)(b:Bd S k)(hl:l.length≤6):Bd S' (k+1000):=by
 have hn:=q.geo.nb.2;have key: ∀{es:List Ent} {S1 S2:Ap} {o:WO},AppP l S es S1 (.done 0)→CmP es S1 S2 o→Bd S2 (k+1000):=by intro es S1 S2 o a c;obtain⟨q1,k1,f1,-,-⟩:=a.inv q;have b1:=a.bd q.iw hn b;have b2:=c.bd q1.iw (by rw [f1.nb];exact hn) b1;have hr:recN S1 es≤es.length+1:=Iz (by rw [f1.sz];exact q.geo.sz.1);have he:=a.len;exact b2.mono (by omega)
 cases h with
 |ok a c=>exact key a c
 |bad a ho=>exact(a.bd q.iw hn b).mono (by omega)
 |bad2 a c ho=>exact key a c
include L X
omit L X in
structure Sm (S S':Ap):Prop where
 nb:S'.D.nb=S.D.nb
 P:S'.D.P=S.D.P
 sz:S'.D.sz=S.D.sz
 en:S'.D.en=S.D.en
 secs:S'.S=S.S
omit L X
theorem Sm.trans (a:Sm S S1)(b:Sm S1 S2):Sm S S2:=⟨b.nb.trans a.nb,b.P.trans a.P,b.sz.trans a.sz,b.en.trans a.en,b.secs.trans a.secs⟩
theorem FrS.sm (f:FrS S S'):Sm S S':=⟨f.nb,f.P,f.sz,f.en,f.secs⟩
theorem Vm: ∀(es:List Ent) (A:Int→Option Int),(es.map (·.1)).Nodup→(∀s,s∉es.map (·.1)→es.foldl C0 A s=A s)∧ ∀e∈es,es.foldl C0 A e.1=if 0≤e.2 then some e.2 else none
 | [],A,_=>⟨fun _ _=>rfl,fun e he=>by cases he⟩
 |x::r,A,h=>by
  rw [List.map_cons,List.nodup_cons]at h;obtain⟨h1,h2⟩:=Vm r (C0 A x) h.2;refine⟨fun s hs=>?_,fun e he=>?_⟩;·rw [List.map_cons,List.mem_cons,not_or]at hs;rw [List.foldl_cons,h1 s hs.2];unfold C0;rw [if_neg hs.1]
  ·rw [List.foldl_cons];rcases List.mem_cons.1 he with rfl|he;·rw [h1 _ h.1];unfold C0;rw [if_pos rfl]
   ·exact h2 e he
theorem Mx (es:List Ent)(A:Int→Option Int):stA A es es.length=es.foldl C0 A:=by unfold stA;rw [List.take_length]
theorem R8 (q:AInv S)(ok:S.D.Ok)(s:Int):(S.rd s).length=S.D.sz:=by
 unfold Ap.rd
 cases hs:S.A s with
 |none=>exact List.length_replicate
 |some p=>obtain⟨-,-,b,j,h1,h2,h3,h4,h5,h6,h7⟩:=q.map s p hs;obtain⟨g1,g2⟩:=R7 (b:=b) h3;have:=((ok.bl b h2).pg j h3).full (.inl h7);simp only [h1,Int.toNat_natCast,g1,g2,List.length_take];omega
theorem AppP.keys {l:List (Int×Option (List Nat))}{es:List Ent}(h:AppP l S es S' o)(q:AInv S)(ho:o= .done 0): (es.map (·.1)).Sublist (l.map (·.1))∧(∀s d,(s,some d)∈l→ ∃p:Nat,(s,(p:Int))∈es)∧(∀s,(s,none)∈l→(s,-1)∈es∨S.A s=none):=by
 induction h with
 |nil=>exact⟨.slnil,(fun s d h=>by cases h),fun s h=>by cases h⟩
 | @put sec data l S S1 S' p es o h r ih=>
  obtain⟨a,-⟩:=h.inv q;have f:=(h.fr q.iw).1;obtain⟨h1,h2,h3⟩:=ih a ho;refine⟨h1.cons_cons _,fun s d hm=>?_,fun s hm=>?_⟩
  ·rcases List.mem_cons.1 hm with e|hm;·cases e;exact⟨p,List.mem_cons_self ..⟩
   ·obtain⟨p',h⟩:=h2 s d hm;exact⟨p',List.mem_cons_of_mem _ h⟩
  ·rcases List.mem_cons.1 hm with e|hm;·cases e
   ·rcases h3 s hm with h|h;·exact .inl (List.mem_cons_of_mem _ h)
    ·exact .inr (by rw [f.A]at h;exact h)
 |bad h ho'=>rcases ho' with e|e <;> rw [e]at ho <;> cases ho
 | @trim sec l S S' es o h r ih=>
  obtain⟨h1,h2,h3⟩:=ih q ho;refine⟨h1.cons_cons _,fun s d hm=>?_,fun s hm=>?_⟩
  ·rcases List.mem_cons.1 hm with e|hm;·cases e
   ·obtain⟨p',h⟩:=h2 s d hm;exact⟨p',List.mem_cons_of_mem _ h⟩
  ·rcases List.mem_cons.1 hm with e|hm;·cases e;exact .inl (List.mem_cons_self ..)
   ·rcases h3 s hm with h|h;·exact .inl (List.mem_cons_of_mem _ h)
    ·exact .inr h
 | @skip sec l S S' es o h r ih=>
  obtain⟨h1,h2,h3⟩:=ih q ho;refine⟨h1.cons _,fun s d hm=>?_,fun s hm=>?_⟩
  ·rcases List.mem_cons.1 hm with e|hm;·cases e
   ·exact h2 s d hm
  ·rcases List.mem_cons.1 hm with e|hm;·cases e;exact .inr h
   ·exact h3 s hm
theorem ApdP.sm {l:List (Int×Option (List Nat))}(h:ApdP l S S' o)(q:AInv S):Sm S S':=by
 have key: ∀{es:List Ent} {S1 S2:Ap} {o:WO},AppP l S es S1 (.done 0)→CmP es S1 S2 o→Sm S S2:=by intro es S1 S2 o a c;obtain⟨q1,k1,f1,-,-⟩:=a.inv q;obtain⟨⟨g1,g2,g3,g4,g5,-⟩,-⟩:=c.fr q1.iw;exact f1.sm.trans ⟨g1,g2,g3,g4,g5⟩
 cases h with
 |ok a c=>exact key a c
 |bad a ho=>exact(a.inv q).2.2.1.sm
 |bad2 a c ho=>exact key a c
theorem ApdP.rd {l:List (Int×Option (List Nat))}(h:ApdP l S S' (.done 0))(q:AInv S)(hr: ∀y∈l,0≤y.1∧y.1<(S.S:Int))(hnd:(l.map (·.1)).Nodup)(hd: ∀s d,(s,some d)∈l→d.length=S.D.sz): (∀s,s∉l.map (·.1)→S'.rd s=S.rd s)∧(∀s d,(s,some d)∈l→S'.rd s=d)∧(∀s,(s,none)∈l→S'.rd s=List.replicate S.D.sz 0):=by
 obtain⟨q',k',-,-,hok⟩:=h.inv q hr;obtain⟨es,S1,a,hA,hp⟩:=hok rfl;have sm:=h.sm q;obtain⟨h1,h2,h3⟩:=a.keys q rfl;obtain⟨n1,n2⟩:=Vm es S.A (hnd.sublist h1);rw [Mx]at hA;refine⟨fun s hs=>?_,fun s d hm=>?_,fun s hm=>?_⟩;·refine Iy q k' ⟨sm.P,sm.sz⟩ ?_;rw [hA];exact n1 s fun e=>hs (h1.subset e)
 ·obtain⟨p,he⟩:=h2 s d hm;obtain⟨d',g1,g2⟩:=hp _ he (by simp only;omega);have e:d'=d:=by
   obtain⟨i,hi,ei⟩:=List.getElem_of_mem hm;obtain⟨j,hj,ej⟩:=List.getElem_of_mem g1;have:=(List.pairwise_iff_getElem.1 hnd);have hij:i=j:=by
    rcases Nat.lt_trichotomy i j with c|c|c;·exact absurd (by rw [List.getElem_map,List.getElem_map,ei,ej]) (this i j (by simpa using hi) (by simpa using hj) c)
    ·exact c
    ·exact absurd (by rw [List.getElem_map,List.getElem_map,ei,ej]) (this j i (by simpa using hj) (by simpa using hi) c)
   subst hij;rw [ei]at ej;cases ej;rfl
  rw [e]at g2;have hs:S'.A s=some (p:Int):=by rw [hA,n2 _ he,if_pos (by simp only;omega)]
  exact g2.rd hs (by rw [sm.sz];exact hd s d hm)
 ·have hs:S'.A s=none:=by
   rw [hA];rcases h3 s hm with he|he;·rw [n2 _ he,if_neg (by simp)]
   ·by_cases hk:s∈es.map (·.1)
    ·obtain⟨e,e1,e2⟩:=List.mem_map.1 hk;subst e2;rw [n2 _ e1];by_cases h0:0≤e.2
     ·obtain⟨d',g1,g2⟩:=hp _ e1 h0;obtain⟨i,hi,ei⟩:=List.getElem_of_mem hm;obtain⟨j,hj,ej⟩:=List.getElem_of_mem g1;have:=(List.pairwise_iff_getElem.1 hnd);rcases Nat.lt_trichotomy i j with c|c|c;·exact absurd (by rw [List.getElem_map,List.getElem_map,ei,ej]) (this i j (by simpa using hi) (by simpa using hj) c)
      ·subst c;rw [ei]at ej;cases ej
      ·exact absurd (by rw [List.getElem_map,List.getElem_map,ei,ej]) (this j i (by simpa using hj) (by simpa using hi) c)
     ·rw [if_neg h0]
    ·rw [n1 s hk,he]
  unfold Ap.rd;rw [hs];simp only [sm.sz]
theorem J7 (h:p∈S.mv b): ∃j s,j<S.D.P∧p=((b*S.D.P+j:Nat):Int)∧S.A s=some p:=by unfold Ap.mv Eo at h;rw [List.mem_filter,List.mem_map]at h;obtain⟨⟨j,h1,h2⟩,h3⟩:=h;obtain⟨s,h4⟩:=hasP_t.1 h3;exact⟨j,s,List.mem_range.1 h1,h2.symm,h4⟩
theorem Ae7 (hj:j<S.D.P)(h:S.A s=some ((b*S.D.P+j:Nat):Int)):((b*S.D.P+j:Nat):Int)∈S.mv b:=by unfold Ap.mv Eo;rw [List.mem_filter,List.mem_map];exact⟨⟨j,List.mem_range.2 hj,rfl⟩,hasP_t.2 ⟨s,h⟩⟩
theorem ac:(S.mv b).length≤S.D.P:=by unfold Ap.mv;rw [Ks];exact P6 _ _
theorem MvS.inv {es:List Ent}(h:MvS g S ps es S1)(q:AInv S):AInv S1∧Keep S S1∧FrS S S1:=by
 induction h with
 |nil=>exact⟨q,.refl _,.refl _⟩
 |snoc r h ih=>obtain⟨a,b,c⟩:=ih;obtain⟨a',b',-⟩:=h.inv a;exact⟨a',b.trans b' c.nb,c.trans (h.fr a.iw).1⟩
theorem MvS.bd {es:List Ent}(h:MvS g S ps es S1)(q:AInv S)(hb:Bd S k):Bd S1 (k+30*ps.length)∧es.length=ps.length:=by
 induction h with
 |nil=>exact⟨hb,rfl⟩
 |snoc r h ih=>obtain⟨a,b,c⟩:=r.inv q;obtain⟨d,e⟩:=ih;exact⟨(h.bd a.iw a.geo.nb.2 d).mono (by rw [List.length_append,List.length_singleton];omega),by rw [List.length_append,List.length_append,e];rfl⟩
def Ap.pgD (S:Ap)(p:Int):List Nat:=((S.D.bl (p.toNat / S.D.P)).pg (p.toNat % S.D.P)).b.take S.D.sz
theorem Lr (h:S.A s=some p):S.pgD p=S.rd s:=by unfold Ap.rd Ap.pgD;rw [h]
theorem R9 (q:AInv S)(k:Keep S S1)(f:FrS S S1)(h:S.A s=some p):S1.pgD p=S.pgD p:=by have:=Iy q k ⟨f.P,f.sz⟩ (s:=s) (by rw [f.A]);rw [←Lr h,←Lr (S:=S1) (s:=s) (p:=p) (by rw [f.A];exact h)]at this;exact this
theorem MvS.es {g:Int→Int}{S S1:Ap}{ps:List Int}{es:List Ent}(h:MvS g S ps es S1)(q:AInv S)(hm: ∀p∈ps,∃s,S.A s=some p): es.map (·.1)=ps.map g∧(∀e∈es,∃p∈ps,e.1=g p∧PgOk S1 (g p) (S.pgD p) e.2∧ ∃b j:Nat,e.2=((b*S.D.P+j:Nat):Int)∧b<S.D.nb∧j<S.D.P∧(S.D.bl b).nx≤j∧S.ps b≠3)∧es.Pairwise (fun x y=>x.2≠y.2):=by
 induction h with
 |nil=>exact⟨rfl,(fun e he=>by cases he),.nil⟩
 | @snoc S1 S2 ps es p qn r h ih=>
  obtain⟨h1,h2,h3⟩:=ih fun p hp=>hm p (List.mem_append_left _ hp);obtain⟨a,b,c⟩:=r.inv q;obtain⟨a',b',-,-,e'⟩:=h.inv a;obtain⟨k1,-⟩:=h.pg a;have f:=(h.fr a.iw).1;obtain⟨i,j,e1,e2,e3,e4,e5,e6,e7,e8⟩:=e' qn rfl;obtain⟨s,hs⟩:=hm p (List.mem_append_right _ (List.mem_singleton_self _));have hpd:S1.pgD p=S.pgD p:=R9 q b c hs;rw [c.nb]at e2;rw [c.P]at e1 e3;refine⟨by rw [List.map_append,List.map_append,h1];rfl,fun e he=>?_,?_⟩
  ·rcases List.mem_append.1 he with he|he;·obtain⟨p',g1,g2,g3,g4⟩:=h2 e he;exact⟨p',List.mem_append_left _ g1,g2,g3.keep b' f.P f.nb,g4⟩
   ·rw [List.mem_singleton]at he;subst he;refine⟨p,List.mem_append_right _ (List.mem_singleton_self _),rfl,by rw [←hpd];exact k1,i,j,by rw [e1],e2,e3,Nat.le_trans (b.nx i e2) e8,fun h3'=>?_⟩;have:=b'.ps3 i (by rw [c.nb];exact e2) (b.ps3 i e2 h3');omega
  ·rw [List.pairwise_append];refine⟨h3,List.pairwise_singleton _ _,fun x hx y hy=>?_⟩;rw [List.mem_singleton]at hy;subst hy;obtain⟨p',g1,g2,g3,-⟩:=h2 x hx;obtain⟨i',j',n,f1,f2,f3,f4,f5,f6,f7⟩:=g3.ex;intro e;have e:x.2=(qn:Int):=e;rw [c.P]at f1 f3;obtain⟨rfl,rfl⟩:=J6 e3 f3 (show i*S.D.P+j=i'*S.D.P+j' by omega);omega
theorem MvS.ok {S S1:Ap}{b:Nat}{es:List Ent}(h:MvS (Cu S.A) S (S.mv b) es S1)(q:AInv S): ∀j x,es[j]?=some x→okE S.S (S.D.nb*S.D.P) (stA S.A es j) x:=by
 intro j x hx;obtain⟨-,h2,h3⟩:=h.es q fun p hp=>let⟨_,s,_,_,h⟩:=J7 hp;⟨s,h⟩;obtain⟨p,g1,g2,g3,b',k,e1,e2,e3,e4,e5⟩:=h2 x (List.mem_of_getElem? hx);obtain⟨j0,s,m1,m2,m3⟩:=J7 g1;rw [Fj m3 q.inj]at g2;obtain⟨r1,r2,-⟩:=q.map s p m3;refine⟨⟨by omega,by omega,by omega,?_⟩,?_⟩;·rw [e1];have:=Nat.mul_le_mul_right S.D.P (show b'+1≤S.D.nb from e2);rw [Nat.succ_mul]at this;omega
 ·rintro⟨s',hs,hne⟩;rcases H2 j s' x.2 hs with h1|⟨j',e,f1,f2,f3,f4,f5⟩;·obtain⟨-,-,i,m,g1,g2,g3,g4,g5,g6,-⟩:=q.map s' x.2 h1;obtain⟨rfl,rfl⟩:=J6 g3 e3 (show i*S.D.P+m=b'*S.D.P+k by omega);omega
  ·obtain⟨l1,l2⟩:=List.getElem?_eq_some_iff.1 f2;obtain⟨l3,l4⟩:=List.getElem?_eq_some_iff.1 hx;have:=List.pairwise_iff_getElem.1 h3 j' j l1 l3 f1;rw [l2,l4]at this;exact this f4
theorem MvS.mvOk {es:List Ent}(h:MvS (Cu S.A) S ((S.mv b).take i) es S1)(q:AInv S)(ok:S.D.Ok)(hS:S.S<1000)(hp:(S.mv b)[i]?=some p):MvOk S b i p S1:=by
 obtain⟨a,k,c⟩:=h.inv q;obtain⟨j0,s,m1,m2,m3⟩:=J7 (List.mem_of_getElem? hp);obtain⟨r1,r2,b',j,g1,g2,g3,g4,g5,g6,g7⟩:=q.map s p m3;obtain⟨d1,d2⟩:=R7 (b:=b') g3;have hb:((S.D.bl b').pg j).b.length=S.D.sz+64:=((ok.bl b' g2).pg j g3).full (.inl g7);have hk:=k.pg b' j g2 g6;have hn:=k.nx b' g2;have hnb:=q.geo.nb;have hP:=q.geo.P;have hlt:b'*S.D.P+j<100000:=by have:=Nat.mul_le_mul (show b'≤12 by omega) (show S.D.P≤6 by omega);omega
 refine⟨⟨_,g1,hlt,?_,?_,?_,?_⟩,?_,a.off⟩;·rw [c.P,c.nb,d1];exact g2
 ·rw [c.P,d1,d2];omega
 ·rw [c.P,d1,d2,hk];exact .inl g7
 ·rw [c.P,c.sz,d1,d2,hk,List.length_take];omega
 ·rw [Fj m3 q.inj];omega
theorem wv (q:AInv S)(hm: ∀s p,S.A s=some p→ ∀j:Nat,j<S.D.P→p≠((b*S.D.P+j:Nat):Int))(s:Int):(S.ers b).1.rd s=S.rd s:=by
 have key: ∀(S':Ap),S'.A=S.A→S'.D.P=S.D.P→S'.D.sz=S.D.sz→(∀i,i≠b→S'.D.bl i=S.D.bl i)→S'.rd s=S.rd s:=by
  intro S' h1 h2 h3 h4;unfold Ap.rd;rw [h1,h2,h3]
  cases hs:S.A s with
  |none=>rfl
  |some p=>obtain⟨-,-,b',j,g1,g2,g3,-⟩:=q.map s p hs;obtain⟨d1,d2⟩:=R7 (b:=b') g3;simp only [g1,Int.toNat_natCast,d1];rw [h4 b' fun e=>by subst e;exact hm s p hs j g3 g1]
 have hE: ∀i,i≠b→(S.D.erase (b:Int)).1.bl i=S.D.bl i:=by
  intro i hi;have hi':i≠(b:Int).toNat:=by rw [Int.toNat_natCast];exact hi
  unfold Dv.erase;split
  ·split;·rfl
   ·split;·rfl
    ·split;·exact upd_ne _ _ hi'
     ·split;·exact upd_ne _ _ hi'
      ·exact upd_ne _ _ hi'
  ·rfl
 obtain⟨⟨e1,e2,e3,e4⟩,-⟩:=S.D.erase_geo (b:Int);unfold Ap.ers;split;·exact key _ rfl rfl rfl fun _ _=>rfl
 ·split;·exact key _ rfl e2 e3 hE
  ·split;·exact key _ rfl e2 e3 hE
   ·exact key _ rfl e2 e3 hE
theorem Vn (S:Ap)(b:Nat):Sm S (S.ers b).1:=by
 obtain⟨⟨e1,e2,e3,e4⟩,-⟩:=S.D.erase_geo (b:Int);unfold Ap.ers;split;·exact⟨rfl,rfl,rfl,rfl,rfl⟩
 ·split;·exact⟨e1,e2,e3,e4,rfl⟩
  ·split <;> exact⟨e1,e2,e3,e4,rfl⟩
theorem CmP.sm {es:List Ent}(h:CmP es S S' o)(iw:IW S):Sm S S':=by obtain⟨⟨g1,g2,g3,g4,g5,-⟩,-⟩:=h.fr iw;exact⟨g1,g2,g3,g4,g5⟩
theorem MvS.cm {es:List Ent}(h:MvS (Cu S.A) S (S.mv b) es S1)(c:CmP es S1 S2 o)(q:AInv S)(ok:S.D.Ok): AInv S2∧Keep S S2∧Sm S S2∧o≠ .pow∧(o= .full→(∀i,i<S.D.nb→S2.ps i≠1)∧S2.A=S.A)∧ (o= .done 0→(∀s,S2.rd s=S.rd s)∧(S.ps b=3→ ∀s p,S2.A s=some p→ ∀j:Nat,j<S2.D.P→p≠((b*S2.D.P+j:Nat):Int))):=by
 have hm: ∀p∈S.mv b,∃s,S.A s=some p:=fun p hp=>let⟨_,s,_,_,h⟩:=J7 hp;⟨s,h⟩;obtain⟨q1,k1,f1⟩:=h.inv q;obtain⟨e1,e2,e3⟩:=h.es q hm;have hok:=h.ok q;obtain⟨q2,k2,c1,c2,c3⟩:=c.inv q1 (by rw [f1.secs,f1.nb,f1.P,f1.A];exact hok) fun e he h0=>let⟨p,_,g2,g3,_⟩:=e2 e he;⟨_,by rw [g2];exact g3⟩;have sm2:=c.sm q1.iw;have kk:=k1.trans k2 f1.nb;refine⟨q2,kk,f1.sm.trans sm2,c1,fun ho=>⟨fun i hi=>(c2 ho).1 i (by rw [f1.nb];exact hi),(c2 ho).2.trans f1.A⟩,fun ho=>?_⟩;have hA:=c3 ho;rw [Mx,f1.A]at hA;have hnd:(es.map (·.1)).Nodup:=by
  rw [e1];unfold Ap.mv Eo;refine List.pairwise_map.2 ?_;refine List.Pairwise.imp_of_mem (R:=fun x y:Int=>x≠y) (fun {x y} hx hy hne e=>hne ?_) ?_;·obtain⟨_,s,_,_,h⟩:=J7 (S:=S) (b:=b) hx;obtain⟨_,s',_,_,h'⟩:=J7 (S:=S) (b:=b) hy;rw [Fj h q.inj,Fj h' q.inj]at e;subst e;rw [h]at h';cases h';rfl
  ·refine List.Pairwise.filter _ ?_;refine List.pairwise_map.2 (List.Pairwise.imp (R:=fun x y:Nat=>x≠y) ?_ List.nodup_range);intro x y hne e;have e2:((b*S.D.P+x:Nat):Int)=((b*S.D.P+y:Nat):Int):=e;exact hne (by omega)
 obtain⟨n1,n2⟩:=Vm es S.A hnd;refine⟨fun s=>?_,fun hb3 s p hs j hj hp=>?_⟩
 ·by_cases hk:s∈es.map (·.1);·obtain⟨e,g1,g2⟩:=List.mem_map.1 hk;obtain⟨p,p1,p2,p3,b',j,p4,-⟩:=e2 e g1;obtain⟨j0,s',m1,m2,m3⟩:=J7 p1;rw [Fj m3 q.inj]at p2 p3;have es':s'=s:=(by omega);subst es';have hs2:S2.A s'=some e.2:=(by rw [hA,p2.symm,n2 e g1,if_pos (by omega)]);rw [(p3.keep k2 sm2.P sm2.nb).rd hs2 (by rw [sm2.sz,f1.sz,Lr m3];exact R8 q ok s'),Lr m3]
  ·exact Iy q kk ⟨by rw [sm2.P,f1.P],by rw [sm2.sz,f1.sz]⟩ (by rw [hA];exact n1 s hk)
 ·rw [sm2.P,f1.P]at hj hp;by_cases hk:s∈es.map (·.1)
  ·obtain⟨e,g1,g2⟩:=List.mem_map.1 hk;obtain⟨p',p1,p2,p3,b',j',p4,p5,p6,p7,p8⟩:=e2 e g1;have hs2:S2.A s=some e.2:=(by rw [hA,g2.symm,n2 e g1,if_pos (by omega)]);rw [hs2]at hs
   cases hs;obtain⟨rfl,rfl⟩:=J6 p6 hj (show b'*S.D.P+j'=b*S.D.P+j by omega);exact p8 hb3
  ·have hs0:S.A s=some p:=(by rw [←n1 s hk,←hA];exact hs);subst hp;have hin:=Ae7 hj hs0;have:s∈es.map (·.1):=(by rw [e1];exact List.mem_map.2 ⟨_,hin,Fj hs0 q.inj⟩);exact hk this
theorem MovO.inv (h:MovO b S S' o)(q:AInv S)(ok:S.D.Ok)(bd:Bd S k)(hb:b<S.D.nb)(h3:S.ps b=3)(hj:S.jr (b:Int)=false): AInv S'∧Sm S S'∧Bd S' (k+1000)∧o≠ .pow∧(o= .full→ ∀i,i<S.D.nb→S'.ps i≠1)∧ ∀s,S'.rd s=S.rd s:=by
 have hP:=q.geo.P;have hsz:=q.geo.sz;have hnb:=q.geo.nb;have hl:=ac (S:=S) (b:=b)
 cases h with
 | @bad S1 _ i p es _ m hp h ho=>
  obtain⟨q1,k1,f1⟩:=m.inv q;obtain⟨b1,-⟩:=m.bd q bd;obtain⟨q2,k2,c2,d2,-⟩:=h.inv q1;have f2:=(h.fr q1.iw).1;have b2:=h.bd q1.iw (by rw [f1.nb];exact hnb.2) b1;have hlt:((S.mv b).take i).length≤6:=by rw [List.length_take];omega
  exact⟨q2,(f1.trans f2).sm,b2.mono (by omega),c2,fun hr i hi=>d2 hr i (by rw [f1.nb];exact hi),fun s=>Iy q (k1.trans k2 f1.nb) ⟨by rw [f2.P,f1.P],by rw [f2.sz,f1.sz]⟩ (by rw [f2.A,f1.A])⟩
 | @badc S1 _ es _ m c ho=>
  obtain⟨q2,k2,sm,c1,c2,-⟩:=m.cm c q ok;obtain⟨q1,k1,f1⟩:=m.inv q;obtain⟨b1,hes⟩:=m.bd q bd;have b2:=c.bd q1.iw (by rw [f1.nb];exact hnb.2) b1;have hr:recN S1 es≤es.length+1:=Iz (by rw [f1.sz];exact hsz.1);have hof:o= .full:=by rcases ho with e|e;exact e;exact absurd e c1
  exact⟨q2,sm,b2.mono (by omega),c1,fun hr=>(c2 hr).1,fun s=>Iy q k2 ⟨sm.P,sm.sz⟩ (by rw [(c2 hof).2])⟩
 | @ok S1 S2 es m c=>obtain⟨q2,k2,sm,c1,-,c3⟩:=m.cm c q ok;obtain⟨q1,k1,f1⟩:=m.inv q;obtain⟨b1,hes⟩:=m.bd q bd;have b2:=c.bd q1.iw (by rw [f1.nb];exact hnb.2) b1;have hr:recN S1 es≤es.length+1:=Iz (by rw [f1.sz];exact hsz.1);obtain⟨g1,g2⟩:=c3 rfl;obtain⟨q3,ho⟩:=q2.ers (b:=b) (by rw [sm.nb];exact hb) (k2.ps3 b hb h3) (g2 h3) (by rw [k2.jrm b hb (by omega)];exact hj);rw [ho];exact⟨q3,sm.trans (Vn _ _),(Z9 b b2).mono (by omega),by simp,(fun h=>by cases h),fun s=>(wv q2 (g2 h3) s).trans (g1 s)⟩
theorem AInv.mvH (q:AInv S)(ok:S.D.Ok)(hS:S.S<1000)(bd:Bd S k)(hk:k<100000): ∀b:Nat,b<S.D.nb→S.ps b=3→(S.mv b).length≤6∧S.pe b<100000∧ (∀i es S1 p,MvS (Cu S.A) S ((S.mv b).take i) es S1→(S.mv b)[i]?=some p→MvOk S b i p S1)∧ (∀es S1,MvS (Cu S.A) S (S.mv b) es S1→ ∀j y,es[j]?=some y→okE S.S (S.D.nb*S.D.P) (stA S.A es j) y)∧ (∀es S1 S2,MvS (Cu S.A) S (S.mv b) es S1→CmP es S1 S2 (.done 0)→S2.ps b=3):=by intro b hb h3;have hP:=q.geo.P;have hl:=ac (S:=S) (b:=b);have:=bd.pe b;exact⟨by omega,by omega,fun i es S1 p h hp=>h.mvOk q ok hS hp,fun es S1 h=>h.ok q,fun es S1 S2 h c=>(h.cm c q ok).2.1.ps3 b hb h3⟩
theorem AInv.clg (q:AInv S):AInv S.clg∧Keep S S.clg∧Sm S S.clg∧S.clg.A=S.A∧S.clg.jr=S.jr∧S.clg.log<0∧ ∀k,Bd S k→Bd S.clg k:=by
 unfold Ap.clg;by_cases hl:0≤S.log
 ·rw [if_pos hl];obtain⟨b,hb⟩:=Int.eq_ofNat_of_zero_le hl;have g2:S.ps S.log.toNat=2:=((q.iw.wi true).sel hl).2;have hdl:0≤S.dat→S.dat≠S.log:=q.iw.ne false;have iwc:IW {S with ps:=upd S.ps S.log.toNat 3,log:= -1}:=by
   refine⟨fun k=>?_,fun k hk=>?_⟩
   ·cases k with
    |true=>exact⟨fun h=>by simp only [Ap.sel]at h;simp at h,by simp [Ap.sel]⟩
    |false=>have w:=q.iw.wi false;refine⟨fun h=>?_,w.lo⟩;obtain⟨h1,h2⟩:=w.sel h;refine⟨h1,?_⟩;have:=hdl h;have hd:0≤S.dat:=h;show upd S.ps S.log.toNat 3 S.dat.toNat=2;rw [upd_ne _ _ (by omega)];exact h2
   ·cases k with
    |true=>simp [Ap.sel]at hk
    |false=>have hd:0≤S.dat:=hk;show S.dat≠ -1;omega
  obtain⟨a,c⟩:=q.close (k:=true) hl iwc;exact⟨a,c,⟨rfl,rfl,rfl,rfl,rfl⟩,rfl,rfl,by simp,fun k bd=>⟨bd.last,bd.wr,bd.pe,bd.nx,bd.dn⟩⟩
 ·rw [if_neg hl];exact⟨q,.refl _,⟨rfl,rfl,rfl,rfl,rfl⟩,rfl,rfl,by omega,fun k bd=>bd⟩
theorem FrR.sm (f:FrR S S'):Sm S S':=⟨f.nb,f.P,f.sz,f.en,f.secs⟩
theorem ae (S:Ap)(b i:Nat)(h:i≠b):(S.ers b).1.ps i=S.ps i:=by
 unfold Ap.ers;split;·exact upd_ne _ _ h
 ·split;·rfl
  ·split <;> exact upd_ne _ _ h
theorem Ajv (S:Ap)(b:Nat):(S.ers b).1.A=S.A:=by
 unfold Ap.ers;split;·rfl
 ·split;·rfl
  ·split <;> rfl
theorem ErP.inv {l:List Int}(h:ErP l S S' o)(q:AInv S)(hl:l.Nodup)(hj: ∀y∈l,∃b:Nat,y=(b:Int)∧b<S.D.nb∧S.ps b=3∧S.jr (b:Int)=true): AInv S'∧Sm S S'∧o= .done 0∧(∀s,S'.rd s=S.rd s)∧(∀i:Nat,(i:Int)∉l→S'.ps i=S.ps i∧S'.jr (i:Int)=S.jr (i:Int)):=by
 induction h with
 |nil=>exact⟨q,⟨rfl,rfl,rfl,rfl,rfl⟩,rfl,fun _=>rfl,fun _ _=>⟨rfl,rfl⟩⟩
 | @cons b l S S' o h t ih=>
  obtain⟨b',e,h1,h2,h3⟩:=hj _ (List.mem_cons_self ..);have:b'=b:=by omega
  subst this;obtain⟨q1,-⟩:=q.ersJ h1 h2 h3;have sm:=Vn S b';rw [List.nodup_cons]at hl;have hm: ∀s p,S.A s=some p→ ∀j:Nat,j<S.D.P→p≠((b'*S.D.P+j:Nat):Int):=fun s p h j hj2 e=>by obtain⟨-,-,i,m,g1,g2,g3,g4,g5,-⟩:=q.map s p h;obtain⟨rfl,-⟩:=J6 g3 hj2 (show i*S.D.P+m=b'*S.D.P+j by omega);rw [h3]at g5;cases g5
  have hjs: ∀i:Nat,i≠b'→Bh (S.ers b').1.jr (b':Int) false (i:Int)=S.jr (i:Int):=fun i hi=>by unfold Bh;rw [if_neg (by omega),Qc]
  obtain⟨a1,a2,a3,a4,a5⟩:=ih q1 hl.2 fun y hy=>by
   obtain⟨i,e5,g1,g2,g3⟩:=hj y (List.mem_cons_of_mem _ hy);have hne:i≠b':=fun e'=>by subst e';rw [e5]at hy;exact hl.1 hy
   exact⟨i,e5,by show i<(S.ers b').1.D.nb;rw [sm.nb];exact g1,by show(S.ers b').1.ps i=3;rw [ae S b' i hne];exact g2,by show Bh _ _ _ _=_;rw [hjs i hne];exact g3⟩
  refine⟨a1,sm.trans ⟨a2.nb,a2.P,a2.sz,a2.en,a2.secs⟩,a3,fun s=>(a4 s).trans (wv q hm s),fun i hi=>?_⟩;rw [List.mem_cons,not_or]at hi;have hne:i≠b':=fun e'=>hi.1 (by rw [e']);obtain⟨c1,c2⟩:=a5 i hi.2;exact⟨c1.trans (ae S b' i hne),c2.trans (hjs i hne)⟩
 | @bad b l S h=>
  obtain⟨b',e,h1,h2,h3⟩:=hj _ (List.mem_cons_self ..);have:b'=b:=by omega
  subst this;obtain⟨-,hd⟩:=q.ersJ h1 h2 h3;rw [hd]at h;cases h
theorem DomA.len (q:AInv S){D:List Int}(h:DomA S.A D):D.length≤S.S:=by refine Ea S.S D (h.lt.imp fun {a b} h=>by omega) fun x hx=>?_;have h1:=(h.mem x).1 hx;obtain⟨p,hp⟩:=Option.isSome_iff_exists.1 h1;obtain⟨g1,g2,-⟩:=q.map x p hp;exact⟨g1,g2⟩
theorem DomB.len (q:AInv S){J:List Int}(h:DomB S.jr J):J.length≤S.D.nb:=by refine Ea S.D.nb J (h.lt.imp fun {a b} h=>by omega) fun x hx=>?_;obtain⟨b,e1,e2,-⟩:=q.jr x ((h.mem x).1 hx);omega
theorem AInv.ckR {D:List Int}(q:AInv S)(bd:Bd S k)(hS:S.S≤10)(hD:DomA S.A D)(h:RcP 3 (A9 S.A D) S.clg S1 o): AInv S1∧Keep S S1∧Sm S S1∧S1.A=S.A∧Bd S1 (k+400)∧o≠ .pow∧(o= .full→ ∀i,i<S.D.nb→S1.ps i≠1)∧(∀s,S1.rd s=S.rd s)∧ ∀y,S.jr y=true→ ∃b:Nat,y=(b:Int)∧b<S1.D.nb∧S1.ps b=3∧S1.jr (b:Int)=true:=by
 obtain⟨qc,kc,sc,cA,cj,cl,cb⟩:=q.clg;have hD':=hD.len q;obtain⟨q1,k1,c1,d1⟩:=h.inv qc;obtain⟨f,-⟩:=h.fr qc.iw;have b1:=h.bd qc.iw (by rw [sc.nb];exact q.geo.nb.2) (cb k bd);have hr:recN S.clg (A9 S.A D)≤(A9 S.A D).length+1:=Iz (by rw [sc.sz];exact q.geo.sz.1);have hel:(A9 S.A D).length=D.length:=by unfold A9;rw [List.length_map]
 have sm:=sc.trans f.sm;have kk:=kc.trans k1 sc.nb;refine⟨q1,kk,sm,f.A.trans cA,b1.mono (by omega),c1,fun ho i hi=>d1 ho i (by rw [sc.nb];exact hi),fun s=>Iy q kk ⟨sm.P,sm.sz⟩ (by rw [f.A,cA]),fun y hy=>?_⟩;obtain⟨b,e1,e2,e3⟩:=qc.jr y (by rw [cj];exact hy);have e2':b<S.D.nb:=by rw [sc.nb]at e2;exact e2
 have h3:S.clg.ps b=3:=by
  rcases e3 with e3|⟨-,e4⟩;·exact e3
  ·omega
 refine⟨b,e1,by rw [sm.nb];exact e2',k1.ps3 b e2 h3,?_⟩;rw [k1.jrm b e2 (by omega),cj,←e1];exact hy
theorem CkO.inv (h:CkO S S' o)(q:AInv S)(bd:Bd S k)(hS:S.S≤10): AInv S'∧Sm S S'∧Bd S' (k+1000)∧o≠ .pow∧(o= .full→ ∀i,i<S.D.nb→S'.ps i≠1)∧ ∀s,S'.rd s=S.rd s:=by
 cases h with
 |bad hD h ho=>obtain⟨a,b,c,d,e,f,g,i,-⟩:=q.ckR bd hS hD h;exact⟨a,c,e.mono (by omega),f,g,i⟩
 | @run D J S1 S' o hD h hJ e=>obtain⟨a,b,c,d,e1,f,g,i,j⟩:=q.ckR bd hS hD h;obtain⟨a1,a2,a3,a4,-⟩:=e.inv a (hJ.lt.imp fun {a b} h=>by omega) fun y hy=>j y ((hJ.mem y).1 hy);have b1:=e.bd e1;have hl:=hJ.len q;have hnb:=q.geo.nb;refine⟨a1,c.trans a2,b1.mono (by omega),by rw [a3];simp,(fun ho=>by rw [a3]at ho;cases ho),fun s=>(a4 s).trans (i s)⟩
theorem Aa0 {J:List Int}(h:J.Pairwise (· < ·))(hy:J[i]?=some y):y∉J.take i:=by intro hm;obtain⟨j,hj,e⟩:=List.getElem_of_mem hm;rw [List.length_take]at hj;rw [List.getElem_take]at e;obtain⟨l1,l2⟩:=List.getElem?_eq_some_iff.1 hy;have:=List.pairwise_iff_getElem.1 h j i (by omega) l1 (by omega);omega
theorem AInv.ckH (q:AInv S)(bd:Bd S k)(hS:S.S≤10)(hk:k<50000): ∀D J S1 i Si,DomA S.A D→RcP 3 (A9 S.A D) S.clg S1 (.done 0)→DomB S.jr J→ErP (J.take i) S1 Si (.done 0)→ ∀y,J[i]?=some y→ ∃b:Nat,y=(b:Int)∧b<Si.D.nb∧(Si.ps b=2∨Si.ps b=3)∧Si.pe b<100000∧Si.D.n+1<100000:=by
 intro D J S1 i Si hD h hJ e y hy;obtain⟨a,b,c,d,e1,f,g,ii,j⟩:=q.ckR bd hS hD h;have hnd:J.Nodup:=hJ.lt.imp fun {a b} h=>by omega
 obtain⟨a1,a2,a3,a4,a5⟩:=e.inv a (hnd.sublist (List.take_sublist _ _)) fun y hy=>j y ((hJ.mem y).1 (List.mem_of_mem_take hy));have b1:=e.bd e1;have hl:=hJ.len q;have hnb:=q.geo.nb;have hlt:(J.take i).length≤12:=by rw [List.length_take];omega
 obtain⟨x,x1,x2,x3,x4⟩:=j y ((hJ.mem y).1 (List.mem_of_getElem? hy));obtain⟨y1,y2⟩:=a5 x (by rw [←x1];exact Aa0 hJ.lt hy);have h1:=b1.pe x;have h2:=b1.dn;exact⟨x,x1,by rw [a2.nb];exact x2,.inr (by rw [y1];exact x3),by omega,by omega⟩
include L X
theorem ml {p pb nb:Nat}{ps pe:Nat→Nat}{cb:List AV}(q:PoC h p pb nb ps pe cb):Ct P0 E F K 46 [.ptr p 0,AN 1] h fun v h'=>v=AN (cntS ps 1 nb)∧h'=h:=by have hd:=q.pk;unfold pcC at hd;refine Ad L X.f46 fun Q x cs G=>?_;refine cal ?_ (c:=Mr L X q);rintro _ rfl;refine wk ?_;(apply st1 L rfl;exact Hy (i:=1) rfl rfl (by omega);rfl);refine ret X.f46.1 ?_;exact⟨rfl,rfl⟩
theorem ww {c:Nat}(r:ApR κ h I S)(kc:Bk h c [Zi])(hc:200≤κ c):Ct P0 E F K 45 [.ptr I.s 0,.ptr c 0] h fun v h'=>Kp (fun j=>j=c) h h'∧Bk h' c [AN (frees S)]:=by have sk:=r.sk;have ls:=sk.lt;have lc:=kc.lt;have hcol:=r.col;obtain⟨cbl,po⟩:=r.po;unfold apC at sk;refine Ad L X.f45 fun Q x cs G=>?_;refine cal ?_ (c:=ml L X po);rintro _ rfl;refine ret X.f45.1 ?_;exact⟨kps,lkp⟩
theorem Aa1 (r:ApR κ h I S)(ka:Bk h ab [.ptr I.s 0]): Ct P0 E F K 14 [.ptr ab 0] h (fun v h'=> ∃κ',v=AN (frees S)∧ApR κ' h' I S∧AChg κ h κ' h'):=by
 have lk:=ka.lt;refine Am L X.f14 fun Q x cs G=>?_;refine wk ?_;have k1:K0 h (hp (h.n+1) h.t [(h.n,some (cl [Zi]))]):=kps;have hc1: ∀b,b<h.n→G9 κ h.n b=κ b:=fun b hb=>Ef hb;have r1:ApR (G9 κ h.n) (hp (h.n+1) h.t [(h.n,some (cl [Zi]))]) I S:=r.k0 k1 hc1;have a1:AChg κ h (G9 κ h.n) (hp (h.n+1) h.t [(h.n,some (cl [Zi]))]):=AChg.k0 k1 hc1;have kc1:Bk (hp (h.n+1) h.t [(h.n,some (cl [Zi]))]) h.n [Zi]:=lkp;have hn1:(hp (h.n+1) h.t [(h.n,some (cl [Zi]))]).n=h.n+1:=rfl
 have cl1: ∀κ2 h2,K0 (hp (h.n+1) h.t [(h.n,some (cl [Zi]))]) h2→(hp (h.n+1) h.t [(h.n,some (cl [Zi]))]).n<h2.n→(∀b,b<(hp (h.n+1) h.t [(h.n,some (cl [Zi]))]).n→κ2 b=G9 κ h.n b)→ApR κ2 h2 I S→CtX P0 E F K 45 (.ptr I.s 0:: [.ptr h.n 0]) h2
   (fun v h'=> ∃κ' S',ApR κ' h' I S'∧AChX (fun j=>j=h.n) κ2 h2 κ' h'∧(S'=S∧Bk h' h.n [AN (frees S)]))
   (fun v h'=> ∃κ' S' e,v= .ifc 44 (AI e)∧ApR κ' h' I S'∧AChX (fun j=>j=h.n) κ2 h2 κ' h'∧False):=by
  intro κ2 h2 k2 n2 c2 r2
  rw [hn1]at n2 c2
  have hk1:κ2 h.n=200:=(c2 _ (by omega)).trans (Dm (Nat.le_refl _))
  refine((ww L X r2 (Ag k2 kc1) (by omega)).mono ?_).X
  rintro v h' ⟨q1,q2⟩
  exact⟨ext κ2 h2.n,S,r2.own q1 (fun j _ e=>by subst e;omega) fun b hb=>Ae hb,⟨q1.mono fun b e=> .inr e,fun b hb=>Ae hb⟩,rfl,q2⟩
 refine cal ?_ (c:=Gm L X r1 (Ag k1 ka) (fun b e=>by subst e;exact Nat.lt_succ_self _) cl1);rintro v h2 ⟨κ',S',h1,r',a',k',hv⟩;rw [hn1]at k';rcases hv with⟨rfl,u,rfl,q1⟩|⟨e,rfl,q⟩
 ·have a2:AChg κ h κ' h2:=a'.own a1 fun b e=>by subst e;exact Nat.le_refl _
  have q1':Bk h2 h.n [AN (frees S')]:=Ar k' (by omega) q1;have lq:=q1'.lt;have hk1:κ' h.n=200:=(a'.col _ (by rw [hn1];omega)).trans (Dm (Nat.le_refl _));refine ret X.f14.1 ?_;refine⟨κ',rfl,r'.out (B:=fun j=>j=h.n) ?_ (fun b _ e=>by subst e;omega),AChg.own (B:=fun j=>j=h.n) a2 ?_ (fun b e=>by subst e;exact Nat.le_refl _) fun _ _=>rfl⟩;·exact kps
  ·exact kps
 ·exact q.elim
omit L X in
theorem Vo (h: ∀i,i<S.D.nb→S.ps i≠1):frees S=0:=by
 unfold frees;generalize S.D.nb=n at h;induction n with
 |zero=>rfl
 |succ n ih=>simp only [cntS];rw [ih fun i hi=>h i (by omega),if_neg (h n (Nat.lt_succ_self n))]
section
variable {k:IntKind}{l:List (Nat×Option AV)}{x y:O}{q:Bool}{sh:Sh}
omit L X in
theorem Ae8 {a:Int}(e:evO l x=some (.int k a))(e1:evO l y=some (.int k (d:Int)))(hd:0<d):XV (.bin .rem x y q sh) h l (.int k (Int.tmod a (d:Int))) h:=by
 refine⟨?_⟩;have h0:iEq (d:Int) (Int.ofNat 0)=false:=by rw [E7];exact decide_eq_false (by show(d:Int)≠0;omega)
 simp only [exec,Af,Ab e,Ab e1,F9,Er,A8,h0,vo]
end
omit L X in
theorem mm (bs:List Nat)(m y:Nat):(B7 bs).set m (.int .u8 (y:Int))=B7 (bs.set m y):=by unfold B7;rw [List.map_set]
omit L X in
theorem AllB.set {bs:List Nat}(h:AllB bs){y:Nat}(hy:y<256):AllB (bs.set m y):=by
 intro i hi;rw [List.length_set]at hi;rw [List.getD_eq_getElem?_getD,List.getElem?_set];split
 ·split;·exact hy
  ·simp
 ·rw [←List.getD_eq_getElem?_getD];exact h i hi
structure GrR (h:H)(lo:Nat)(v:AV)(sz:Nat)(l:List GW)(δ: Nat→List Nat):Prop where
 ex:(l= []∧v= .nils)∨(0<l.length∧ ∃gb:Nat,v= .slc gb 0 l.length (Aa+2)∧Bk h gb (l.flatMap (gwC sz))∧lo≤gb∧ ∀(i:Nat) (s:Int) (b o c:Nat),l[i]?=some (s,some (b,o,c))→BS h b o (δ b)∧(δ b).length=sz∧lo≤b∧o=0∧c=sz∧b≠gb)
omit L X
theorem GrR.k0 {sz:Nat}{l:List GW}(q:GrR h lo v sz l δ)(k:K0 h h'):GrR h' lo v sz l δ:= by
 rcases q.ex with h1|⟨h1,gb,h2,h3,h4,h5⟩
 ·exact⟨.inl h1⟩
 ·exact⟨.inr ⟨h1,gb,h2,Ag k h3,h4,fun i s b o c e=>let⟨g1,g2,g3,g4⟩:=h5 i s b o c e;⟨g1.k0 k,g2,g3,g4⟩⟩⟩
theorem Uc {sz:Nat}(l:List GW):(l.flatMap (gwC sz)).length=l.length*2:=Dt l (Kw l)
theorem GrR.app {sz n:Nat}{l:List GW}{x:GW}(hb:Bk h N (l.flatMap (gwC sz)++gwC sz x))(hN:lo≤N)(hn:l.length=n)(hr: ∀(i:Nat) (s:Int) (b o c:Nat),l[i]?=some (s,some (b,o,c))→BS h b o (δ b)∧(δ b).length=sz∧lo≤b∧o=0∧c=sz∧b≠N)
  (hx: ∀(s:Int) (b o c:Nat),x=(s,some (b,o,c))→BS h b o (δ b)∧(δ b).length=sz∧lo≤b∧o=0∧c=sz∧b≠N):GrR h lo (.slc N 0 (n+1) (Aa+2)) sz (l++ [x]) δ:= by
 refine⟨.inr ⟨by simp,N,by simp [hn],by rw [List.flatMap_append];simpa using hb,hN,fun i s b o c e=>?_⟩⟩
 by_cases hi:i<l.length
 ·rw [List.getElem?_append_left hi]at e;exact hr i s b o c e
 ·rw [List.getElem?_append_right (by omega)]at e
  have hi0:i - l.length=0:=by
   have:=(List.getElem?_eq_some_iff.1 e).1
   simp at this;omega
  rw [hi0]at e
  simp at e
  exact hx s b o c e
include L X
theorem Sa {n sz:Nat}{l:List GW}{w:Option (Nat×Nat×Nat)}{k:List AItem}(hi:i<6) (q1:GrR h h0.n v sz l δ) (hl:l.length=i) (kN:Bk h N [AI s,gwV sz w]) (hN:h0.n≤N) (hne: ∀gb n c,v= .slc gb 0 n c→gb≠N) (hw: ∀b o c,w=some (b,o,c)→BS h b o (δ b)∧(δ b).length=sz∧h0.n≤b∧o=0∧c=sz∧ ∀gb n c,v= .slc gb 0 n c→b≠gb) (k0:K0 h0 h) (ht:TSub (tms [(58,some (.slc N 0 1 1)),(56,some v),(8,some (AN i)),(2,some (AN n)),(1,some sv),(0,some (AN sz))]) (tms lq)) (G: ∀v' h' l',GrR h' h0.n v' sz (l++ [(s,w)]) δ→K0 h0 h'→TSub (tms [(8,some (AN (i+1))),(7,some v'),(2,some (AN n)),(1,some sv),(0,some (AN sz))]) (tms l')→ Good P0 E Q ⟨⟨37,cf37.ntmps,tms l',.inLoop N2::k,[],.run,false,none⟩,cs,h'⟩): Good P0 E Q ⟨⟨37,cf37.ntmps,tms lq,.ops [Cj 59 (.append 2 32 (.t 56) (.t 58)),Cv 7 59]:: .inBlock 1:: .code U5:: .inLoop N2::k,[],.run,false,none⟩,cs,hp h.n h.t []⟩:=by
 refine Fu L ht ?_;have n0:=k0.n;have lN:=kN.lt;have hpl:As [AI s,gwV sz w]=true:=by cases w <;> rfl
 rcases q1.ex with⟨rfl,rfl⟩|⟨h1,gb,rfl,h3,h4,h5⟩
 ·have:i=0:=by simpa using hl.symm
  subst this;(apply st1 L rfl;exact D6 (new:= [AI s,gwV sz w]) rfl rfl (SlR.of (c:= [AI s,gwV sz w]) lkp (Nat.le_refl _) rfl) (by omega) (by omega);rfl);refine wk ?_;have kk:K0 h (hp (h.n+1) h.t [(h.n,some (cl [AI s,gwV sz w]))]):=kps;refine G _ _ _ (GrR.app (N:=h.n) (n:=0) (l:= []) lkp (by omega) rfl (fun i s b o c e=>by simp at e) fun s' b o c e=>?_) kps tsb
  cases e;obtain⟨g1,g2,g3,g4,g5,g6⟩:=hw b o c rfl;have:=g1.lt_n;exact⟨g1.k0 kk,g2,g3,g4,g5,by omega⟩
 ·have l3:=h3.lt;have hgN:=hne gb _ _ rfl;rw [hl]at h1;subst hl;(apply st1 L rfl;exact D8 (old:=l.flatMap (gwC sz)) (new:= [AI s,gwV sz w]) rfl rfl (SlR.of (c:=l.flatMap (gwC sz)) lkp (by rw [Uc];omega) (by rw [List.drop_zero,List.take_of_length_le (by rw [Uc];omega)])) (SlR.of (c:= [AI s,gwV sz w]) lkp (Nat.le_refl _) rfl) (by omega) (by omega) hpl;rfl);refine wk ?_;have kk:Kp (fun j=>j=gb) h (hp (h.n+1) h.t [(h.n,some (cl (l.flatMap (gwC sz)++ [AI s,gwV sz w]))),(gb,none)]):=kps;refine G _ _ _ (GrR.app (N:=h.n) (x:=(s,w)) lkp (by omega) rfl (fun j s b o c e=>?_) fun s' b o c e=>?_) kps tsb;·obtain⟨g1,g2,g3,g4,g5,g6⟩:=h5 j s b o c e;have:=g1.lt_n;exact⟨Ve kk g6 g1,g2,g3,g4,g5,by omega⟩
  ·cases e;obtain⟨g1,g2,g3,g4,g5,g6⟩:=hw b o c rfl;have:=g1.lt_n;exact⟨Ve kk (g6 _ _ _ rfl) g1,g2,g3,g4,g5,by omega⟩
omit L X in
theorem GrR.upd {h:H}{lo sz D:Nat}{v:AV}{l:List GW}{δ: Nat→List Nat}{bs:List Nat}(q:GrR h lo v sz l δ)(hD:h.n≤D):GrR h lo v sz l (upd δ D bs):=by
 rcases q.ex with h1|⟨h1,gb,h2,h3,h4,h5⟩;·exact⟨.inl h1⟩
 ·refine⟨.inr ⟨h1,gb,h2,h3,h4,fun i s b o c e=>?_⟩⟩;obtain⟨g1,g2⟩:=h5 i s b o c e;have:=g1.lt_n;rw [upd_ne _ _ (by omega)];exact⟨g1,g2⟩
theorem Xl {n sz D:Nat}{l:List GW}{bs0:List Nat}{k:List AItem}(hi:i<6)(hn:n<100000) (q1:GrR h2 h0.n v sz l δ) (k2:K0 h2 h) (hl:l.length=i) (kN:Bk h N [AI s,.slc D 0 sz sz]) (hN:h2.n≤N) (hDN:D≠N) (kD:Bk h D (B7 bs0)) (hD:h2.n≤D) (hb:bs0.length=sz) (ha:AllB bs0) (hsz:sz<1000) (k0:K0 h0 h) (hvb: ∀gb n c,v= .slc gb 0 n c→gb<h2.n) (k02:K0 h0 h2) (ht:TSub (tms [(10,some Zi),(9,some (.ptr N 0)),(8,some (AN i)),(7,some v),(2,some (AN n)),(1,some sv),(0,some (AN sz))]) (tms lq)) (G: ∀δ' w v' h' l',GrR h' h0.n v' sz (l++ [(s,w)]) δ'→K0 h0 h'→TSub (tms [(8,some (AN (i+1))),(7,some v'),(2,some (AN n)),(1,some sv),(0,some (AN sz))]) (tms l')→ Good P0 E Q ⟨⟨37,cf37.ntmps,tms l',.inLoop N2::k,[],.run,false,none⟩,cs,h'⟩): Good P0 E Q ⟨⟨37,cf37.ntmps,tms lq,.code Y0:: .inBlock 2:: .code Y1:: .inBlock 1:: .code U5:: .inLoop N2::k,[],.run,false,none⟩,cs,hp h.n h.t []⟩:=by
 have n0:=k0.n;have n02:=k02.n;have n2:=k2.n;refine B9 L (α:= List Nat) (T:=fun j _=> [(10,some (AN j)),(9,some (.ptr N 0)),(8,some (AN i)),(7,some v),(2,some (AN n)),(1,some sv),(0,some (AN sz))]) (n:=sz) (R:=fun j bs hh=>Bk hh D (B7 bs)∧bs.length=sz∧AllB bs∧Kp (fun j=>j=D) h hh) (i0:=0) bs0 ht ⟨kD,hb,ha,Kp.refl _⟩ (Nat.zero_le _) ?_ ?_;·rintro j bs hh hj ⟨r1,r2,r3,r4⟩ ih;have r5:Bk hh N [AI s,.slc D 0 sz sz]:=Ar r4 (by omega) kN;have l1:=r1.lt;have l5:=r5.lt;refine wk ?_;(apply st1 L rfl;exact U4 rfl rfl;rfl);refine wk ?_;(apply z8 L rfl rfl rfl rfl rfl;exact lkp;(rw [G7];omega);rfl);refine wk ?_;refine ih (bs.set j ((n+7*i+3*j) % pw .u8)) _ _ ⟨?_,by rw [List.length_set];exact r2,r3.set (Nat.mod_lt _ (by decide)),kps⟩ tsb;rw [←mm];exact lkp
 ·rintro bs hh ⟨r1,r2,r3,r4⟩;have r5:Bk hh N [AI s,.slc D 0 sz sz]:=Ar r4 (by omega) kN;have l1:=r1.lt;have l5:=r5.lt;refine wk ?_;have kk:K0 h2 hh:=⟨Nat.le_trans n2 r4.n,fun b hb _=>(r4.old b (by omega) (by omega)).trans (k2.old b hb id)⟩;have n4:=r4.n;have ke:K0 hh (hp (hh.n+1) hh.t [(hh.n,some (cl [AI s,.slc D 0 sz sz]))]):=kps;refine Sa L X (δ:= upd δ D bs) (w:=some (D,0,sz)) (N:=hh.n) (h:=hp (hh.n+1) hh.t [(hh.n,some (cl [AI s,.slc D 0 sz sz]))]) hi (((q1.upd hD).k0 kk).k0 ke) hl (by exact lkp) (by omega) (fun gb n c e=>by have:=hvb gb n c e;omega) (fun b o c e=>?_) ⟨by simp only [Aj];omega,fun b hb _=>(ke.old b (by omega) id).trans ((kk.old b (by omega) id).trans (k02.old b hb id))⟩ ?_ (fun v' h' l' g1 g2 g3=>G _ _ v' h' l' g1 g2 g3);·cases e;rw [upd_eq];exact⟨(Mf r1 r3).k0 ke,r2,by omega,rfl,rfl,fun gb n c e=>by have:=hvb gb n c e;omega⟩
  ·exact tsb
omit L X in
theorem GrR.vlt {sz:Nat}{l:List GW}(q:GrR h lo v sz l δ): ∀gb n c,v= .slc gb 0 n c→gb<h.n:=by
 rintro gb n c rfl;rcases q.ex with⟨_,e⟩|⟨_,gb',e,h3,_⟩;·cases e
 ·cases e;exact h3.lt
theorem mn {n sz:Nat}(q:IntsR κ h sv secs)(hsz:12≤sz∧sz≤30)(hl:secs.length≤6)(hn:n<100000): Ct P0 E F K 37 [AN sz,sv,AN n] h fun v h'=> ∃l δ,GrR h' h.n v sz l δ∧l.map (·.1)=secs∧K0 h h':=by
 rcases q.ex with⟨rfl,rfl⟩|⟨rfl,a,rfl⟩|⟨b,cap,rfl,hb,-⟩;·refine Ba L X.f37 fun Q x cs G=>?_;refine wk ?_;refine A5 L ?_;refine ret X.f37.1 ?_;exact⟨[],fun _=> [],⟨.inl ⟨rfl,rfl⟩⟩,rfl,kps⟩
 ·refine Ba L X.f37 fun Q x cs G=>?_;refine wk ?_;refine A5 L ?_;refine ret X.f37.1 ?_;exact⟨[],fun _=> [],⟨.inl ⟨rfl,rfl⟩⟩,rfl,kps⟩
 ·have lb:=hb.lt;refine Ba L X.f37 fun Q x cs G=>?_;refine wk ?_;refine B9 L (α:= List GW×(Nat→List Nat)×AV) (T:=fun i a=> [(8,some (AN i)),(7,some a.2.2),(2,some (AN n)),(1,some (.slc b 0 secs.length cap)),(0,some (AN sz))]) (n:=secs.length) (R:=fun i a h2=>GrR h2 h.n a.2.2 sz a.1 a.2.1∧a.1.map (·.1)=secs.take i∧K0 h h2) (i0:=0) ([],fun _=> [],.nils) tsb ⟨⟨.inl ⟨rfl,rfl⟩⟩,rfl,kps⟩ (Nat.zero_le _) ?_ ?_
  ·rintro i ⟨l,δ,v⟩ h2 hi ⟨q1,q2,k2⟩ ih;simp only at q1 q2;have n2:=k2.n;have hk:=Ru k2 hb;have hvb:=q1.vlt;have hpv:Bj v=some [v]∧Es v=true:=(by rcases q1.ex with⟨_,rfl⟩|⟨_,gb,rfl,_⟩ <;> exact⟨rfl,rfl⟩);have hlen:l.length=i:=(by have:=congrArg List.length q2;rw [List.length_map,List.length_take]at this;omega);have hx:(secs.map eI)[i]?=some (eI secs[i]):=(by rw [List.getElem?_map,List.getElem?_eq_getElem hi];rfl);have hnx:secs.take (i+1)=secs.take i++ [secs[i]]:=(by rw [List.take_add_one,List.getElem?_eq_getElem hi];rfl);generalize secs[i]=s at*;(try refine B0 L 1000 rfl ?_);(repeat(first|(apply st1 L rfl;exact⟨G1 rfl⟩;rfl)|(apply st1 L rfl;exact Mb rfl rfl rfl;rfl)|(apply st1 L rfl;exact Ip rfl rfl (by omega);rfl)|(apply st1 L rfl;exact D2 rfl rfl (by omega);rfl)|(apply st1 L rfl;exact Jt rfl rfl (by omega);rfl)));(apply st1 L rfl;exact Gg rfl lkr hx;rfl);refine wk ?_;have fin: ∀δ' w v' h' l',GrR h' h.n v' sz (l++ [(s,w)]) δ'→K0 h h'→TSub (tms [(8,some (AN (i+1))),(7,some v'),(2,some (AN n)),(1,some (.slc b 0 secs.length cap)),(0,some (AN sz))]) (tms l')→_:= fun δ' w v' h' l' g1 g2 g3=>ih (l++ [(s,w)],δ',v') h' l' ⟨g1,by rw [List.map_append,q2,hnx];rfl,g2⟩ g3
   have fill: ∀lq,TSub (tms [(10,some Zi),(9,some (.ptr h2.n 0)),(8,some (AN i)),(7,some v),(2,some (AN n)),(1,some (.slc b 0 secs.length cap)),(0,some (AN sz))]) (tms lq)→
     Good P0 E Q ⟨⟨37,cf37.ntmps,tms lq,[.code Y0,.inBlock 2,.code Y1,.inBlock 1,.code U5,.inLoop N2,.inBlock 0,.code tw],[],.run,false,none⟩,x::cs,hp (h2.n+1+1) h2.t [(h2.n,some (cl [AI s,.slc (h2.n+1) 0 sz sz])),(h2.n+1,some (cl (rl [Zy] sz))),(h2.n,some (cl [AI s,.nils])),(h2.n,some (cl [Zi,.nils]))]⟩:=by
    intro lq ht
    refine Xl L X (δ:= δ) (h2:=h2) (h:=hp (h2.n+1+1) h2.t [(h2.n,some (cl [AI s,.slc (h2.n+1) 0 sz sz])),(h2.n+1,some (cl (rl [Zy] sz))),(h2.n,some (cl [AI s,.nils])),(h2.n,some (cl [Zi,.nils]))]) (N:=h2.n) (D:=h2.n+1) (bs0:=List.replicate sz 0) (by omega) hn q1 kps hlen (by exact lkp) (by omega) (by omega) (by rw [←Fg];exact lkp) (by omega) List.length_replicate (AllB.rep (by omega)) (by omega) (by exact kps) hvb k2 ht fin
   by_cases h2':i % 2=0;·refine wk ?_;rw [Nat.zero_max];refine fill _ ?_;exact tsb
   ·refine wk ?_;(apply st1 L rfl;exact Gg rfl lkr hx;rfl);(apply st1 L rfl;exact Ae8 (d:=5) rfl rfl (by omega);rfl);by_cases h5:Int.tmod s ((5:Nat):Int)=((0:Nat):Int);·(apply st1 L rfl;exact ta rfl rfl (by first|exact h5|exact fun e=>e h5);rfl);refine wk ?_;refine Sa L X (δ:= δ) (w:=none) (N:=h2.n+1) (h:=hp (h2.n+1+1) h2.t [(h2.n+1,some (cl [AI s,.nils])),(h2.n,some (cl [AI s,.nils])),(h2.n,some (cl [Zi,.nils]))]) (by omega) (q1.k0 (by exact kps)) hlen (by exact lkp) (by omega) (fun gb n c e=>by have:=hvb gb n c e;omega) (fun b o c e=>by cases e) (by exact kps) ?_ (fun v' h' l' g1 g2 g3=>fin δ none v' h' l' g1 g2 g3);exact tsb
    ·(apply st1 L rfl;exact s9 rfl rfl (by first|exact h5|exact fun e=>e h5);rfl);refine wk ?_;rw [Nat.zero_max];refine fill _ ?_;exact tsb
  ·rintro⟨l,δ,v⟩ h2 ⟨q1,q2,k2⟩;simp only at q1 q2;refine ret X.f37.1 ?_;exact⟨l,δ,q1,by rw [q2,List.take_length],by exact k2⟩
omit L X in
theorem d6 {l:List GW}{sz:Nat}{x:GW}(hx:l[i]?=some x):(l.flatMap (gwC sz))[i*2+0]?=some (AI x.1)∧(l.flatMap (gwC sz))[i*2+1]?=some (gwV sz x.2):=by
 refine⟨?_,?_⟩;·rw [Dc l (Kw l) i 0 x hx (by omega)];rfl
 ·rw [Dc l (Kw l) i 1 x hx (by omega)];rfl
theorem mo {lo' sz:Nat}{l:List GW}(q:DkR h U dv sz Z)(hL:0<Z.length∧Z.length≤10)(g:GrR h lo' v sz l δ)(hl:l.length≤6)(hsz:12≤sz∧sz≤30): Ct P0 E F K 38 [.agg [AN sz,dv],v] h fun u h'=>u=AI ((Du Z.length false (l.map (·.1)):Nat):Int)∧K0 h h':=by
 rcases q.ex with⟨rfl,rfl⟩|⟨-,lb,rows,rfl,-⟩;·exact absurd hL.1 (Nat.lt_irrefl _)
 rcases g.ex with⟨rfl,rfl⟩|⟨h1,gb,rfl,kb,h4,h5⟩;·refine Ad L X.f38 fun Q x cs G=>?_;refine ret X.f38.1 ?_;exact⟨rfl,kps⟩
 ·have lgb:=kb.lt;refine Ad L X.f38 fun Q x cs G=>?_;refine wk ?_;refine B9 L (α:= Unit) (T:=fun i _=> [(5,some (AN i)),(2,some (.ptr h.n 0)),(1,some (.slc gb 0 l.length (Aa+2)))]) (n:=l.length) (R:=fun i _ h2=>((l.map (·.1)).take i).Nodup∧Bk h2 h.n [AN sz,.slc lb 0 Z.length (Aa+1)]∧K0 h h2) (i0:=0) () tsb ⟨by simp,lkp,kps⟩ (Nat.zero_le _) ?_ ?_
  ·rintro i _ h2 hi ⟨r1,r2,r3⟩ ih;have hx:l[i]?=some l[i]:=List.getElem?_eq_getElem hi;obtain⟨x1,x2⟩:=d6 (sz:=sz) hx;have htk:(l.map (·.1)).take (i+1)=(l.map (·.1)).take i++ [l[i].1]:=(by rw [List.take_add_one,List.getElem?_map,hx];rfl);generalize hxe:l[i]=xx at*;obtain⟨s,w⟩:=xx;simp only at x1 x2 htk;have lr:=r2.lt;have kb2:=Ag r3 kb
   have rest: ∀lq,TSub (tms [(6,some Zi),(5,some (AN i)),(2,some (.ptr h.n 0)),(1,some (.slc gb 0 l.length (Aa+2)))]) (tms lq)→
     Good P0 E Q ⟨⟨38,cf38.ntmps,tms lq,[.code tx,.inBlock 2,.inBlock 1,.code tz,.inLoop t6,.inBlock 0,.code t7],[],.run,false,none⟩,x::cs,hp h2.n h2.t []⟩:=by
    intro lq ht
    refine B9 L (α:= Unit) (T:=fun j _=> [(6,some (AN j)),(5,some (AN i)),(2,some (.ptr h.n 0)),(1,some (.slc gb 0 l.length (Aa+2)))]) (n:=i)
     (R:=fun j _ h3=>s∉(l.map (·.1)).take j∧K0 h2 h3) (i0:=0) () ht ⟨by simp,Kp.refl _⟩ (Nat.zero_le _) ?_ ?_
    ·rintro j _ h3 hj ⟨t1,t2⟩ ih2
     have hy:l[j]?=some l[j]:=List.getElem?_eq_getElem (by omega)
     obtain⟨y1,y2⟩:=d6 (sz:=sz) hy
     have htj:(l.map (·.1)).take (j+1)=(l.map (·.1)).take j++ [l[j].1]:=by
      rw [List.take_add_one,List.getElem?_map,hy];rfl
     have hin:l[j].1∈(l.map (·.1)).take i:=by
      rw [List.mem_take_iff_getElem]
      exact⟨j,by rw [List.length_map];omega,by rw [List.getElem_map]⟩
     generalize hye:l[j]=yy at*
     obtain⟨s',w'⟩:=yy
     simp only at y1 y2 htj hin
     have kb3:=Ag t2 kb2
     by_cases e:s'=s
     ·subst e
      refine ret X.f38.1 ?_
      refine⟨?_,by exact Kp.tr0 (by exact kps) r3⟩
      have nn: ¬(l.map (·.1)).Nodup:=fun nn=>by
       have h1:=nn.sublist (List.take_sublist (i+1) _)
       rw [htk,List.nodup_append]at h1
       exact h1.2.2 s' hin s' (List.mem_singleton_self _) rfl
      unfold Du
      rw [if_pos (.inr nn)];rfl
     ·refine wk ?_
      refine ih2 () _ _ ⟨?_,by exact kps⟩ tsb
      rw [htj];simp [t1,Ne.symm e]
    ·rintro _ h3 ⟨t1,t2⟩
     refine wk ?_
     refine ih () _ _ ⟨?_,?_,?_⟩ tsb
     ·rw [htk];exact Lq r1 t1
     ·exact Ag t2 r2
     ·exact Kp.tr0 t2 r3
   cases w with
   |none=>simp only [gwV]at x2;refine wk ?_;refine rest _ ?_;exact tsb
   |some w=>simp only [gwV]at x2;refine wk ?_;refine rest _ ?_;exact tsb
  ·rintro _ h2 ⟨r1,r2,r3⟩;rw [show l.length=(l.map (·.1)).length from(List.length_map _).symm,List.take_length]at r1;refine wk ?_;refine B9 L (α:= Unit) (T:=fun i _=> [(7,some (AN i)),(2,some (.ptr h.n 0)),(1,some (.slc gb 0 l.length (Aa+2)))]) (n:=l.length) (R:=fun i _ h3=>(∀s∈(l.map (·.1)).take i,0≤s∧s<(Z.length:Int))∧K0 h2 h3) (i0:=0) () tsb ⟨by simp,Kp.refl _⟩ (Nat.zero_le _) ?_ ?_
   ·rintro i _ h3 hi ⟨t1,t2⟩ ih;have hx:l[i]?=some l[i]:=List.getElem?_eq_getElem hi;obtain⟨x1,x2⟩:=d6 (sz:=sz) hx;have htk:(l.map (·.1)).take (i+1)=(l.map (·.1)).take i++ [l[i].1]:=(by rw [List.take_add_one,List.getElem?_map,hx];rfl);have hin:l[i].1∈l.map (·.1):=List.mem_map.2 ⟨l[i],List.getElem_mem hi,rfl⟩;generalize hxe:l[i]=xx at*;obtain⟨s,w⟩:=xx;simp only at x1 x2 htk hin;have r2':=Ag t2 r2;have kb3:=Ag t2 (Ag r3 kb);have bad: ¬(0≤s∧s<(Z.length:Int))→Du Z.length false (l.map (·.1))=3:=fun hb=>by
     unfold Du;rw [if_neg (by
                         rintro(e|e);· rw [e]at hin;cases hin
                         · exact e r1),if_pos ⟨s,hin,by omega⟩]
    by_cases c1:s<0;·refine ret X.f38.1 ?_;exact⟨by rw [bad (by omega)];rfl,Kp.tr0 (by exact kps) r3⟩
    ·by_cases c2:s<(Z.length:Int)
     ·refine wk ?_;refine ih () _ _ ⟨?_,by exact kps⟩ tsb;rw [htk];intro s' hs';rcases List.mem_append.1 hs' with h|h;·exact t1 s' h
      ·rw [List.mem_singleton]at h;subst h;omega
     ·refine ret X.f38.1 ?_;exact⟨by rw [bad (by omega)];rfl,Kp.tr0 (by exact kps) r3⟩
   ·rintro _ h3 ⟨t1,t2⟩;rw [show l.length=(l.map (·.1)).length from(List.length_map _).symm,List.take_length]at t1;refine ret X.f38.1 ?_;refine⟨?_,Kp.tr0 (by exact kps) r3⟩;unfold Du;rw [if_neg (by
                       rintro(e|e);· have:=congrArg List.length e;rw [List.length_map]at this;simp only [List.length_nil]at this;omega
                       · exact e r1),if_neg (by rintro⟨s,hs,h⟩;have:=t1 s hs;omega),if_neg (by simp)]
    rfl
omit L X in
theorem wx {c:List AV}{o:Nat}(h:o≤c.length):Ga [] c o=c:=by apply List.ext_getElem?;intro i;rw [Fp [] c o i (by simpa using h),if_neg (by simp only [List.length_nil];omega)]
omit L X in
theorem mq {xs c:List AV}(h:xs.length=c.length):Ga xs c 0=xs:=by
 apply List.ext_getElem?;intro i;rw [Fp xs c 0 i (by omega)];by_cases hi:i<xs.length;·rw [if_pos ⟨Nat.zero_le _,by omega⟩];rfl
 ·rw [if_neg (by omega),List.getElem?_eq_none (by omega),List.getElem?_eq_none (by omega)]
section
variable {fn nt:Nat}{l l':List (Nat×Option AV)}{k td':List AItem}{ds:List ADef}{dfd:Bool}{ro:Option Nat}{gd:Option (Nat×Bool)}{r:List CI}
variable {n o:Nat}{t:T Blk}{lh:List (Nat×Option Blk)}{x y:O}{c:List AV}
theorem wy {size dn dcap:Nat}(hg:gdO gd l=some true)(e:evO l x=some (.slc b o dn dcap))(e1:evO l y=some .nils)(hb:Bk (hp n t lh) b c)(ho:o≤c.length) (ha:adv 1000 (.ops r::k) ((d,some Zi)::l)=(td',l')) (g:Good P0 E Q ⟨⟨fn,nt,tms l',td',ds,.run,dfd,ro⟩,cs,hp n t ((b,some (cl c))::lh)⟩): Good P0 E Q ⟨⟨fn,nt,tms l,.ops (⟨some d,gd,.copy size x y⟩::r)::k,ds,.run,dfd,ro⟩,cs,hp n t lh⟩:=by
 obtain⟨h',q1,q2⟩:=L6 (n:=n) (t:=t) (lh:=lh) (lv:= []) rfl hb.e (by simpa using ho) (wx ho);have hx:exec (.copy size x y) (hp n t lh) (tms l)= .val Zi h':=by
  have hm:K3 0 dn=0:=by rw [Kf];exact Nat.zero_min _
  have hce:cellsOf size 0 (hp n t lh) .nils=some []:=by cases size <;> rfl
  simp only [exec,Af,Ab e,Ab e1,lenV,hm,hce,q1];rfl
 exact I7 L (Ay hg) hx (L7 L q2 (B0 L 1000 ha g))
end
def apW (sz:Nat)(δ: Nat→List Nat)(Z:List (List Nat))(l:List GW):List (List Nat):=l.foldl (fun Z x=>Z.set x.1.toNat ((x.2.map fun q=>δ q.1).getD (List.replicate sz 0))) Z
omit L X in
theorem Ky {sz:Nat}{δ: Nat→List Nat}: ∀(l:List GW) (Z:List (List Nat)),(apW sz δ Z l).length=Z.length
 | [],Z=>rfl
 |x::r,Z=>by show(apW sz δ (Z.set _ _) r).length=_;rw [Ky r,List.length_set]
omit L X in
theorem wz {sz:Nat}{l:List GW}{x:GW}:apW sz δ Z (l++ [x])=(apW sz δ Z l).set x.1.toNat ((x.2.map fun q=>δ q.1).getD (List.replicate sz 0)):=by unfold apW;rw [List.foldl_append];rfl
structure DkS (h:H)(U:Nat→Prop)(lb sz:Nat)(Z:List (List Nat))(rows:List Nat):Prop where
 k:Bk h lb (rows.map fun b=>AV.slc b 0 sz sz)
 len:rows.length=Z.length
 r: ∀(i b:Nat) (d:List Nat),rows[i]?=some b→Z[i]?=some d→BS h b 0 d∧d.length=sz∧U b∧b≠lb
omit L X
theorem DkS.dk {V:Nat→Prop}{sz:Nat}(q:DkS h U lb sz Z rows)(hz:0<Z.length)(hl:V lb)(hu: ∀b,U b→V b):DkR h V (.slc lb 0 Z.length (Aa+1)) sz Z:=
 ⟨.inr ⟨hz,lb,rows,rfl,q.k,hl,q.len,fun i b d e1 e2=>let⟨g1,g2,g3,g4⟩:=q.r i b d e1 e2;⟨g1,g2,hu b g3,g4⟩⟩⟩
theorem DkS.kp {sz:Nat}(q:DkS h U lb sz Z rows)(k:Kp B h h')(h1: ¬B lb)(hu: ∀b,U b→ ¬B b):DkS h' U lb sz Z rows:=
 ⟨Ar k h1 q.k,q.len,fun i b d e1 e2=>let⟨g1,g2,g3,g4⟩:=q.r i b d e1 e2;⟨Ve k (hu b g3) g1,g2,g3,g4⟩⟩
theorem DkS.set {sz:Nat}{d:List Nat}(q:DkS h U lb sz Z rows)(hk:Bk h' lb ((rows.map fun b=>AV.slc b 0 sz sz).set j (.slc N 0 sz sz)))(k:Kp (fun i=>i=lb) h h')(hd:BS h' N 0 d)(hl:d.length=sz)(hN:U N∧N≠lb):DkS h' U lb sz (Z.set j d) (rows.set j N):=by
 refine⟨by rw [List.map_set];exact hk,by rw [List.length_set,List.length_set,q.len],fun i b d' e1 e2=>?_⟩;rw [List.getElem?_set]at e1 e2;by_cases e:j=i
 ·rw [if_pos e]at e1 e2;split at e1
  ·cases e1;split at e2;·cases e2;exact⟨hd,hl,hN⟩
   ·cases e2
  ·cases e1
 ·rw [if_neg e]at e1 e2;obtain⟨g1,g2,g3,g4⟩:=q.r i b d' e1 e2;exact⟨Ve k g4 g1,g2,g3,g4⟩
include L X
theorem my {V:Nat→Prop}{sz:Nat}{l:List GW}(q:DkR h V dv sz Z)(hlo: ∀b,h.n≤b→V b)(hL:0<Z.length∧Z.length≤10)(g:GrR h lo v sz l δ)(hl:l.length≤6)(hsz:12≤sz∧sz≤30)(hr: ∀x∈l,0≤x.1∧x.1<(Z.length:Int)): Ct P0 E F K 39 [.agg [AN sz,dv],v] h fun u h'=> ∃dv',u= .agg [AN sz,dv']∧DkR h' V dv' sz (apW sz δ Z l)∧K0 h h':=by
 rcases q.ex with⟨rfl,rfl⟩|⟨-,lb,rows,rfl,q1,q2,q3,q4⟩;·exact absurd hL.1 (Nat.lt_irrefl _)
 have l1:=q1.lt;refine Ad L X.f39 fun Q x cs G=>?_;refine wk ?_;(apply st1 L rfl;exact Aeq (new:=rows.map fun b=>AV.slc b 0 sz sz) rfl rfl (SlR.of (c:=rows.map fun b=>AV.slc b 0 sz sz) lkp (by rw [Kx];omega) (by rw [List.drop_zero,List.take_of_length_le (by rw [Kx];omega)])) (by omega) (by omega);rfl);refine wk ?_;have kk:K0 h (hp (h.n+1+1+1+1) h.t [(h.n,some (cl [AN sz,.slc (h.n+1+1+1) 0 Z.length (Aa+1)])),(h.n+1+1+1,some (cl (rows.map fun b=>AV.slc b 0 sz sz))),(h.n+1+1,some (cl [])),(h.n+1,some (cl [Zi,.nils])),(h.n,some (cl [AN sz,.slc lb 0 Z.length (Aa+1)]))]):=kps;have n9:=kk.n
 have S0:DkS (hp (h.n+1+1+1+1) h.t [(h.n,some (cl [AN sz,.slc (h.n+1+1+1) 0 Z.length (Aa+1)])),(h.n+1+1+1,some (cl (rows.map fun b=>AV.slc b 0 sz sz))),(h.n+1+1,some (cl [])),(h.n+1,some (cl [Zi,.nils])),(h.n,some (cl [AN sz,.slc lb 0 Z.length (Aa+1)]))]) (fun b=>V b∧b≠h.n∧b≠h.n+1) (h.n+1+1+1) sz Z rows:=
  ⟨lkp,q3,fun i b d e1 e2=>let⟨g1,g2,g3,_⟩:=q4 i b d e1 e2;⟨g1.k0 kk,g2,⟨g3,by have:=g1.lt_n;omega,by have:=g1.lt_n;omega⟩,by have:=g1.lt_n;omega⟩⟩
 rcases g.ex with⟨rfl,rfl⟩|⟨h1,gb,rfl,kb,h4,h5⟩;·refine A5 L ?_;refine ret X.f39.1 ?_;refine⟨_,rfl,(S0.kp (B:=fun j=>j=h.n+1) ?_ (by omega) fun b e=>by omega).dk hL.1 (hlo _ (by omega)) fun b e=>e.1,kps⟩;exact kps
 ·have lgb:=kb.lt;refine B9 L (α:= List Nat) (T:=fun i _=> [(5,some (AN i)),(4,some (.ptr (h.n+1) 0)),(2,some (.ptr h.n 0)),(1,some (.slc gb 0 l.length (Aa+2)))]) (n:=l.length) (R:=fun i rz h2=>DkS h2 (fun b=>V b∧b≠h.n∧b≠h.n+1) (h.n+1+1+1) sz (apW sz δ Z (l.take i)) rz∧Bk h2 h.n [AN sz,.slc (h.n+1+1+1) 0 Z.length (Aa+1)]∧Bk h2 (h.n+1) [Zi,.nils]∧K0 h h2) (i0:=0) rows tsb ⟨S0,lkp,lkp,kps⟩ (Nat.zero_le _) ?_ ?_
  ·rintro i rz h2 hi ⟨r1,r2,r3,r4⟩ ih;have hx:l[i]?=some l[i]:=List.getElem?_eq_getElem hi;obtain⟨x1,x2⟩:=d6 (sz:=sz) hx;have htk:l.take (i+1)=l.take i++ [l[i]]:=(by rw [List.take_add_one,hx];rfl);obtain⟨s1,s2⟩:=hr _ (List.getElem_mem hi);generalize hxe:l[i]=xx at*;obtain⟨s,w⟩:=xx;simp only at x1 x2 s1 s2;obtain⟨j,rfl⟩:=Int.eq_ofNat_of_zero_le s1;have lr2:=r2.lt;have lr3:=r3.lt;have lk1:=r1.k.lt;have n4:=r4.n;have kb2:=Ag r4 kb;have r1k:=r1.k;have hap:apW sz δ Z (l.take (i+1))=(apW sz δ Z (l.take i)).set j ((w.map fun q=>δ q.1).getD (List.replicate sz 0)):=(by rw [htk,wz];rfl);have hln:=r1.len;rw [Ky]at hln
   cases w with
   |none=>simp only [gwV]at x2;refine wk ?_;refine wy L X (b:=h2.n) (o:=0) (c:=rl [Zy] sz) rfl rfl rfl (by exact lkp) (Nat.zero_le _) rfl ?_;refine wk ?_;(apply tn L rfl rfl rfl rfl rfl rfl;exact lkp;(rw [Kx];omega);refine B0 L 1000 rfl ?_);refine wk ?_;refine ih (rz.set j h2.n) _ _ ⟨?_,by exact lkp,by exact lkp,kps⟩ tsb;rw [hap];refine r1.set (h:=h2) (d:=List.replicate sz 0) (by exact lkp) kps (Mf ?_ (AllB.rep (by omega))) List.length_replicate ⟨⟨hlo _ (by omega),by omega,by omega⟩,by omega⟩;rw [←Fg];exact lkp
   |some w=>obtain⟨b,o,c⟩:=w;simp only [gwV]at x2;obtain⟨g1,g2,g3,rfl,rfl,g6⟩:=h5 i _ b o c hx;have lb1:=g1.lt_n;refine wk ?_;refine Aag L (lv:=B7 (δ b)) (cs1:=B7 (δ b)) rfl rfl rfl (BS.slr (by exact lkb) g2) lkp (by omega) (E9 _) (by rw [G7,g2,Fg,G7,List.length_replicate];omega) (by rw [G7];omega) (mq (by rw [G7,g2,Fg,G7,List.length_replicate])) rfl ?_;refine wk ?_;(apply tn L rfl rfl rfl rfl rfl rfl;exact lkp;(rw [Kx];omega);refine B0 L 1000 rfl ?_);refine wk ?_;refine ih (rz.set j h2.n) _ _ ⟨?_,by exact lkp,by exact lkp,kps⟩ tsb;rw [hap];refine r1.set (h:=h2) (d:=δ b) (by exact lkp) kps (Mf ?_ g1.all) g2 ⟨⟨hlo _ (by omega),by omega,by omega⟩,by omega⟩;exact lkp
  ·rintro rz h2 ⟨r1,r2,r3,r4⟩;rw [List.take_length]at r1;have lr2:=r2.lt;have lr3:=r3.lt;refine ret X.f39.1 ?_;have fin:=DkS.dk (V:=V) (r1.kp (h':=hp h2.n h2.t [(h.n+1,some (cl [AN sz,.slc (h.n+1+1+1) 0 Z.length (Aa+1)]))]) (B:=fun j=>j=h.n+1) kps (by omega) fun b e=>by omega) (by rw [Ky];exact hL.1) (hlo _ (by omega)) fun b e=>e.1;rw [Ky]at fin;exact⟨_,rfl,fin,kps⟩
structure Pl (S:Ap)(k:Nat)(Z:List (List Nat)):Prop where
 inv:AInv S
 bd:Bd S k
 len:Z.length=S.S
 rd: ∀(i:Nat) (d:List Nat),Z[i]?=some d→S.rd (i:Int)=d
theorem Dx {e:Int}:Ct P0 E F K 17 [AI e] h fun v h'=>v=AI e∧h'=h:=by refine Am L X.f17 fun Q x cs G=>?_;refine ret X.f17.1 ?_;exact⟨rfl,rfl⟩
section
variable {l:List (Nat×Option AV)}{x y:O}{q:Bool}
omit L X in
theorem Ajw {a d:List Nat}(e:evO l x=some (.str a))(e1:evO l y=some (.str d))(hd:a=d):XV (.bin .eql x y q .pstr) h l (.bool true) h:=by refine⟨?_⟩;simp only [exec,Af,Ab e,Ab e1,F9,Sz,Kg];subst hd;simp [vo]
end
omit L X in
theorem AChg.bk {c:List AV}(q:AChg κ h κ' h')(k:Bk h b c)(hc:κ b=0):Bk h' b c∧κ' b=0:=⟨Ar q.k (by omega) k,(q.col b k.lt).trans hc⟩
theorem My (r:ApR κ h I S)(ka:Bk h ab [.ptr I.s 0])(he:e=0∨e=7∧frees S=0): Ct P0 E F K 16 [.ptr ab 0,AN e] h (fun v h'=> ∃κ',v= .bool true∧ApR κ' h' I S∧AChg κ h κ' h'):=by
 rcases he with rfl|⟨rfl,hf⟩;·refine Ad L X.f16 fun Q x cs G=>?_;refine cal ?_ (c:=Dx L X);rintro _ rfl;refine ret X.f16.1 ?_;exact⟨κ,rfl,r,AChg.refl _ _⟩
 ·refine Ad L X.f16 fun Q x cs G=>?_;refine cal ?_ (c:=Dx L X);rintro _ rfl;refine cal ?_ (c:=Aa1 L X r ka);rintro _ h2 ⟨κ',rfl,r',a'⟩;rw [hf];refine ret X.f16.1 ?_;exact⟨κ',rfl,r',a'⟩
theorem xc {c:Nat}(r:ApR κ h I S)(ka:Bk h ab [.ptr I.s 0])(q:AInv S)(hs:0≤s∧s<S.S)(kb:BS h b 0 (S.rd s))(hb:κ b=0): Ct P0 E F K 34 [.ptr ab 0,AI s,.slc b 0 S.D.sz c] h (fun v h'=> ∃κ',v= .bool true∧ApR κ' h' I S∧AChg κ h κ' h'):=by have hl:=R8 q r.dv.ok s;refine Ba L X.f34 fun Q x cs G=>?_;refine cal ?_ (c:=Aav L X r ka hs q.dn q.off q.rdOk);rintro _ h2 ⟨κ',b2,c2,rfl,k2,c0,-,r',a'⟩;obtain⟨kb2,-⟩:=a'.bs kb hb;refine cal ?_ (c:=Dx L X);rintro _ rfl;refine wk ?_;(apply st1 L rfl;exact Acc rfl (by exact lkb) hl;rfl);(apply st1 L rfl;exact Acc rfl (by exact lkb) hl;rfl);(apply st1 L rfl;exact Ajw rfl rfl rfl;rfl);refine ret X.f34.1 ?_;exact⟨κ',rfl,r',a'⟩
omit L X
theorem AChg.fw (q:AChg κ h κ' h'):Fw κ h κ' h':=⟨q.k.n,fun b hb hc=>q.k.old b hb (by omega),q.col⟩
theorem AChg.b2 {c:List AV}(q:AChg κ h κ' h')(k:Bk h b c)(hc:κ b=200):Bk h' b c∧κ' b=200:=⟨Ar q.k (by omega) k,(q.col b k.lt).trans hc⟩
theorem AChg.dk {sz:Nat}(a:AChg κ h κ' h')(q:DkR h (fun b=>κ b=0) v sz Z):DkR h' (fun b=>κ' b=0) v sz Z:= ((q.mono fun b hb u=>⟨hb,u⟩:DkR h (fun b=>b<h.n∧κ b=0) v sz Z).kp a.k fun b e _ u=>by omega).mono fun b _ u=>(a.col b u.1).trans u.2
theorem d7 {sz:Nat}{δ: Nat→List Nat}: ∀(l:List GW) (Z:List (List Nat)),(l.map (·.1)).Nodup→(∀x∈l,0≤x.1∧x.1<(Z.length:Int))→ (∀i:Nat,(i:Int)∉l.map (·.1)→(apW sz δ Z l)[i]?=Z[i]?)∧ ∀x∈l,(apW sz δ Z l)[x.1.toNat]?=some ((x.2.map fun q=>δ q.1).getD (List.replicate sz 0))
 | [],Z,_,_=>⟨fun _ _=>rfl,fun x hx=>by cases hx⟩
 |y::r,Z,hn,hr=>by
  rw [List.map_cons,List.nodup_cons]at hn;obtain⟨h1,h2⟩:=d7 r (Z.set y.1.toNat ((y.2.map fun q=>δ q.1).getD (List.replicate sz 0))) hn.2 fun x hx=>by rw [List.length_set];exact hr x (List.mem_cons_of_mem _ hx)
  obtain⟨y1,y2⟩:=hr y (List.mem_cons_self ..);refine⟨fun i hi=>?_,fun x hx=>?_⟩;·rw [List.map_cons,List.mem_cons,not_or]at hi;show(apW sz δ (Z.set y.1.toNat _) r)[i]?=_;rw [h1 i hi.2,List.getElem?_set_ne (fun e=>hi.1 (by omega))]
  ·rcases List.mem_cons.1 hx with rfl|hx;·show(apW sz δ (Z.set x.1.toNat _) r)[x.1.toNat]?=_;rw [h1 _ (fun e=>hn.1 (by rw [Int.toNat_of_nonneg y1]at e;exact e)),List.getElem?_set_self (by omega)]
   ·exact h2 x hx
theorem d8 {S:Nat}{d:Bool}{l:List Int}(h:Du S d l=0):l.Nodup∧l≠[]:=by
 unfold Du at h;by_cases e:l= []∨ ¬l.Nodup;·rw [if_pos e]at h;cases h
 ·exact⟨Decidable.byContradiction fun q=>e (.inr q),fun q=>e (.inl q)⟩
theorem d9 {l:List GW}{d:Option (List Nat)}(h:(s,d)∈gpl δ l): ∃x∈l,x.1=s∧d=x.2.map fun q=>δ q.1:=by
 obtain⟨x,h1,h2⟩:=List.mem_map.1 h
 cases h2;exact⟨x,h1,rfl,rfl⟩
theorem J8 (δ: Nat→List Nat)(l:List GW):(gpl δ l).map (·.1)=l.map (·.1):=by unfold gpl;rw [List.map_map];rfl
theorem Pl.append {l:List GW}(p:Pl S k Z)(hl:l.length≤6)(hd: ∀(i:Nat) (s:Int) (b o c:Nat),l[i]?=some (s,some (b,o,c))→(δ b).length=S.D.sz)(hc:Du S.S S.down (l.map (·.1))=0)(a:ApdP (gpl δ l) S S' o): Sm S S'∧(o= .done 0→Pl S' (k+1000) (apW S.D.sz δ Z l))∧(o≠ .done 0→o= .full∧frees S'=0∧Pl S' (k+1000) Z):=by
 have hr: ∀y∈gpl δ l,0≤y.1∧y.1<(S.S:Int):=fun y hy=>Ix hc y.1 (by rw [←J8 δ l];exact List.mem_map.2 ⟨y,hy,rfl⟩);have hn:((gpl δ l).map (·.1)).Nodup:=by rw [J8];exact(d8 hc).1
 have hrl: ∀x∈l,0≤x.1∧x.1<(Z.length:Int):=fun x hx=>by rw [p.len];exact Ix hc x.1 (List.mem_map.2 ⟨x,hx,rfl⟩)
 obtain⟨q',k',h1,h2,-⟩:=a.inv p.inv hr;have sm:=a.sm p.inv;have bd:=a.bd p.inv p.bd (by unfold gpl;rw [List.length_map];exact hl);refine⟨sm,fun ho=>?_,fun ho=>?_⟩
 ·subst ho;have hdl: ∀s d,(s,some d)∈gpl δ l→d.length=S.D.sz:=fun s d hm=>by
   obtain⟨x,x1,x2,x3⟩:=d9 hm;obtain⟨i,hi,ei⟩:=List.getElem_of_mem x1;obtain⟨s',w⟩:=x
   cases w with
   |none=>cases x3
   |some w=>
    obtain⟨b,o,c⟩:=w
    cases x3;exact hd i s' b o c (by rw [List.getElem?_eq_getElem hi,ei])
  obtain⟨r1,r2,r3⟩:=a.rd p.inv hr hn hdl;obtain⟨g1,g2⟩:=d7 (sz:=S.D.sz) (δ:= δ) l Z (d8 hc).1 hrl;refine⟨q',bd,by rw [Ky,p.len,sm.secs],fun i d hi=>?_⟩;by_cases hk:((i:Nat):Int)∈l.map (·.1)
  ·obtain⟨x,x1,x2⟩:=List.mem_map.1 hk;have h3:=g2 x x1;rw [x2,Int.toNat_natCast,hi]at h3
   cases h3;obtain⟨s',w⟩:=x;simp only at x2;subst x2
   cases w with
   |none=>exact r3 _ (List.mem_map.2 ⟨_,x1,rfl⟩)
   |some w=>exact r2 _ _ (List.mem_map.2 ⟨_,x1,rfl⟩)
  ·rw [g1 i hk]at hi;rw [r1 _ (by rw [J8];exact hk)];exact p.rd i d hi
 ·have hof:o= .full:=by
   cases a with
   |ok _ _=>exact absurd rfl ho
   |bad _ h=>rcases h with e|e;exact e;exact absurd e h1
   |bad2 _ _ h=>rcases h with e|e;exact e;exact absurd e h1
  obtain⟨f1,f2⟩:=h2 hof;refine⟨hof,Vo fun i hi=>f1 i (by rw [←sm.nb];exact hi),q',bd,by rw [p.len,sm.secs],fun i d hi=>?_⟩;rw [Iy p.inv k' ⟨sm.P,sm.sz⟩ (by rw [f2])];exact p.rd i d hi
theorem Pl.same (p:Pl S k Z)(q:AInv S')(s:Sm S S')(b:Bd S' k')(h: ∀s,S'.rd s=S.rd s):Pl S' k' Z:= ⟨q,b,by rw [p.len,s.secs],fun i d hi=>by rw [h];exact p.rd i d hi⟩
theorem Pl.mono (p:Pl S k Z)(h:k≤k'):Pl S k' Z:=⟨p.inv,p.bd.mono h,p.len,p.rd⟩
include L X
structure AS (κ: Nat→Nat)(h:H)(I:Ai)(S:Ap)(ab:Nat)(dv:AV)(sz:Nat)(Z:List (List Nat))(sv:AV)(secs:List Int):Prop where
 r:ApR κ h I S
 ka:Bk h ab [.ptr I.s 0]
 ca:κ ab=0
 q:DkR h (fun b=>κ b=0) dv sz Z
 qs:IntsR κ h sv secs
omit L X
theorem AS.chg {sz:Nat}(w:AS κ h I S ab dv sz Z sv secs)(a:AChg κ h κ' h')(r:ApR κ' h' I S'):AS κ' h' I S' ab dv sz Z sv secs:= ⟨r,(a.bk w.ka w.ca).1,(a.bk w.ka w.ca).2,a.dk w.q,w.qs.fw a.fw⟩
theorem AS.own {sz:Nat}(w:AS κ h I S ab dv sz Z sv secs)(k:Kp B h h')(hb: ∀b,b<h.n→B b→κ b=200):AS κ h' I S ab dv sz Z sv secs:= ⟨w.r.out k fun b hl e=>by rw [hb b hl e];exact Nat.le_refl _,Ar k (fun e=>by have:=hb _ w.ka.lt e;rw [w.ca]at this;omega) w.ka,w.ca,w.q.kp k fun b e hl u=>by have:=hb b hl e;omega,w.qs.fw (k.fw fun b hl e=>by have:=hb b hl e;omega)⟩
theorem AS.disk {sz:Nat}{dv':AV}{Z':List (List Nat)}(w:AS κ h I S ab dv sz Z sv secs)(q:DkR h (fun b=>κ b=0) dv' sz Z'):AS κ h I S ab dv' sz Z' sv secs:=⟨w.r,w.ka,w.ca,q,w.qs⟩
theorem GrR.chg {sz:Nat}{l:List GW}(q:GrR h lo v sz l δ)(a:AChg κ h κ' h')(hc: ∀b,lo≤b→κ b=0):GrR h' lo v sz l δ:= by
 rcases q.ex with h1|⟨h1,gb,h2,h3,h4,h5⟩
 ·exact⟨.inl h1⟩
 ·exact⟨.inr ⟨h1,gb,h2,(a.bk h3 (hc gb h4)).1,h4,fun i s b o c e=>let⟨g1,g2,g3,g4⟩:=h5 i s b o c e;⟨(a.bs g1 (hc b g3)).1,g2,g3,g4⟩⟩⟩
theorem AS.chgX {sz:Nat}{Y:Nat→Prop}(w:AS κ h I S ab dv sz Z sv secs)(a:AChX Y κ h κ' h')(hY: ∀b,b<h.n→Y b→κ b=200)(r:ApR κ' h' I S'):AS κ' h' I S' ab dv sz Z sv secs:=
 have nb: ∀b,b<h.n→κ b=0→ ¬((1≤κ b∧κ b<200)∨Y b):=fun b hl hc e=>by
  rcases e with e|e
  ·omega
  ·have:=hY b hl e;omega
 ⟨r,Ar a.k (nb _ w.ka.lt w.ca) w.ka,(a.col _ w.ka.lt).trans w.ca,((w.q.mono fun b hb u=>⟨hb,u⟩:DkR h (fun b=>b<h.n∧κ b=0) dv sz Z).kp a.k fun b e hl u=>nb b hl u.2 e).mono fun b _ u=>(a.col b u.1).trans u.2,w.qs.fw ⟨a.k.n,fun b hb hc=>a.k.old b hb (nb b hb hc),a.col⟩⟩
theorem AChX.comp {κ1 κ2:Nat→Nat}{Y Y':Nat→Prop}(a:AChg κ h κ1 h1)(x:AChX Y κ1 h1 κ2 h2)(hY: ∀b,b<h.n→Y b→Y' b):AChX Y' κ h κ2 h2:=
 ⟨Kp.trS x.k (fun i hi e=>by
   rcases e with e|e
   ·rw [a.col i hi]at e;exact .inl e
   ·exact .inr (hY i hi e)) (a.k.mono fun b e=> .inl e),fun b hb=>(x.col b (Nat.lt_of_lt_of_le hb a.k.n)).trans (a.col b hb)⟩
theorem AChX.comp2 {κ1 κ2:Nat→Nat}{h1':H}{Y Y':Nat→Prop}(a:AChg κ h κ1 h1)(k:Kp B h1 h1')(x:AChX Y κ1 h1' κ2 h2)(hB: ∀b,b<h.n→B b→Y' b)(hY: ∀b,b<h.n→Y b→Y' b):AChX Y' κ h κ2 h2:=
 ⟨Kp.trS x.k (fun i hi e=>by
   rcases e with e|e
   ·rw [a.col i hi]at e;exact .inl e
   ·exact .inr (hY i hi e)) (Kp.trS k (fun i hi e=> .inr (hB i hi e)) (a.k.mono fun b e=> .inl e)),fun b hb=>(x.col b (Nat.lt_of_lt_of_le (Nat.lt_of_lt_of_le hb a.k.n) k.n)).trans (a.col b hb)⟩
include L X
theorem eg {sz:Nat}{x:AFr}(he:e≠0)(k6:Bk h n0 [AN sz,.slc lb 0 m (Aa+1)])(k10:Bk h (n0+1+1) [Zi,.nils]) (ht:TSub (tms [(40,some (AN e)),(14,some (AN e)),(10,some (.ptr (n0+1+1) 0)),(6,some (.ptr n0 0))]) (tms lq)) (G: ∀v h',v= .tup [.agg [AN sz,.slc lb 0 m (Aa+1)],.bool true]∧Kp (fun j=>j=n0+1+1) h h'→GO P0 E Q (finish v cs h' x)): Good P0 E Q ⟨⟨11,cf11.ntmps,tms lq,[.ops [Cv 15 40],.code uh,.inBlock 0,.code U9],[],.run,false,none⟩,x::cs,hp h.n h.t []⟩:=by refine Fu L ht ?_;have l6:=k6.lt;have l10:=k10.lt;refine cal ?_ (c:=Dx L X);rintro _ rfl;refine wk ?_;(apply K8 L rfl rfl rfl rfl rfl rfl rfl;exact lkp;rfl;intro h9 hs9;(repeat(first|(apply A6 rfl rfl;exact opv)|(apply Ll rfl rfl)));(first|(apply p_0;exact chk)|(refine N1 L ?_ rfl ?_;exact chk));refine L7 L hs9 ?_);refine ret X.f11.1 ?_;exact⟨rfl,kps⟩
theorem Xm {sz:Nat}{x:AFr}(r:ApR κ h I S)(ka:Bk h ab [.ptr I.s 0])(he:e=0∨e=7∧frees S=0)(k6:Bk h n0 [AN sz,.slc lb 0 m (Aa+1)])(k10:Bk h (n0+1+1) [Zi,.nils])(c6:κ n0=200)(c10:κ (n0+1+1)=200) (ht:TSub (tms [(15,some (AN e)),(10,some (.ptr (n0+1+1) 0)),(6,some (.ptr n0 0)),(0,some (.ptr ab 0))]) (tms lq)) (G: ∀v h',(∃κ',v= .tup [.agg [AN sz,.slc lb 0 m (Aa+1)],.bool true]∧ApR κ' h' I S∧AChX (fun j=>j=n0+1+1) κ h κ' h')→GO P0 E Q (finish v cs h' x)): Good P0 E Q ⟨⟨11,cf11.ntmps,tms lq,[.code ug,.code .ret,.inBlock 0,.code U9],[],.run,false,none⟩,x::cs,hp h.n h.t []⟩:=by
 refine Fu L ht ?_;have l6:=k6.lt;have l10:=k10.lt;refine cal ?_ (c:=My L X r ka he);rintro _ h2 ⟨κ2,rfl,r2,a2⟩;obtain⟨k6',c6'⟩:=a2.b2 k6 c6;obtain⟨k10',c10'⟩:=a2.b2 k10 c10;have l6:=k6'.lt;have l10:=k10'.lt;refine wk ?_;(apply K8 L rfl rfl rfl rfl rfl rfl rfl;exact lkp;rfl;intro h9 hs9;(repeat(first|(apply A6 rfl rfl;exact opv)|(apply Ll rfl rfl)));(first|(apply p_0;exact chk)|(refine N1 L ?_ rfl ?_;exact chk));refine L7 L hs9 ?_);refine ret X.f11.1 ?_;refine⟨κ2,rfl,r2.out (B:=fun j=>j=n0+1+1) ?_ (fun b _ e=>by subst e;omega),⟨Kp.trS (S':=fun j=>j=n0+1+1) ?_ (fun i _ e=> .inr e) (a2.k.mono fun b e=> .inl e),a2.col⟩⟩;·exact kps
 ·exact kps
omit L X
def Ap.cand (S:Ap)(y:Int):Prop:= ∃b:Nat,y=(b:Int)∧b<S.D.nb∧S.ps b=3∧S.jr (b:Int)=false
theorem Kz {S:Ap}{b:Nat}: ∀n,b∈S.cds n↔b<n∧S.ps b=3∧S.jr (b:Int)=false
 |0=>by simp [Ap.cds]
 |n+1=>by
  simp only [Ap.cds];split
  ·rename_i h;rw [List.mem_append,List.mem_singleton,Kz n];constructor
   ·rintro(⟨h1,h2⟩|rfl);·exact⟨by omega,h2⟩
    ·exact⟨by omega,h⟩
   ·rintro⟨h1,h2⟩;by_cases e:b=n;·exact .inr e
    ·exact .inl ⟨by omega,h2⟩
  ·rename_i h;rw [Kz n];constructor;·rintro⟨h1,h2⟩;exact⟨by omega,h2⟩
   ·rintro⟨h1,h2⟩;have:b≠n:=fun e=>by subst e;exact h h2
    exact⟨by omega,h2⟩
theorem Pl.move (p:Pl S k Z)(ok:S.D.Ok)(m:MoveO y S e S'): Sm S S'∧Pl S' (k+1000) Z∧((e=0∨e=7∧frees S'=0)∧S.cand y∨e=3∧ ¬(0≤y∧y<(S.D.nb:Int))∨e=8∧(0≤y∧y<(S.D.nb:Int))∧ ¬S.cand y):=by
 cases m with
 |rng h=>exact⟨⟨rfl,rfl,rfl,rfl,rfl⟩,p.mono (by omega),.inr (.inl ⟨rfl,h⟩)⟩
 | @st b e hb h=>
  refine⟨⟨rfl,rfl,rfl,rfl,rfl⟩,p.mono (by omega),.inr (.inr ⟨rfl,⟨by omega,by omega⟩,?_⟩)⟩;rintro⟨b',e',h1,h2,h3⟩;have:b'=b:=by omega
  subst this;rcases h with h|h;·exact h h2
  ·rw [h3]at h;cases h
 | @run b S' o e hb h1 h2 ho m=>
  obtain⟨q',sm,bd,hp,hf,hrd⟩:=m.inv p.inv ok p.bd hb h1 h2;refine⟨sm,p.same q' sm bd hrd,.inl ⟨?_,b,e,hb,h1,h2⟩⟩;rcases ho with rfl|rfl|rfl;·exact .inl rfl
  ·exact .inr ⟨rfl,Vo fun i hi=>hf rfl i (by rw [←sm.nb];exact hi)⟩
  ·exact absurd rfl hp
theorem Pl.ck (p:Pl S k Z)(hS:S.S≤10)(ho:o= .done 0∨o= .full∨o= .pow)(m:CkO S S' o):Sm S S'∧Pl S' (k+1000) Z∧(eOf o=0∨eOf o=7∧frees S'=0):=by
 obtain⟨q',sm,bd,hp,hf,hrd⟩:=m.inv p.inv p.bd hS;refine⟨sm,p.same q' sm bd hrd,?_⟩;rcases ho with rfl|rfl|rfl;·exact .inl rfl
 ·exact .inr ⟨rfl,Vo fun i hi=>hf rfl i (by rw [←sm.nb];exact hi)⟩
 ·exact absurd rfl hp
include L X
structure Pres (J:Ap→Prop):Prop where
 app: ∀{l:List (Int×Option (List Nat))} {S S':Ap} {o:WO} {k:Nat},ApdP l S S' o→AInv S→Bd S k→k≤40000→S.S≤10→l.length≤6→(∀y∈l,0≤y.1∧y.1<(S.S:Int))→(∀s d,(s,some d)∈l→d.length=S.D.sz∧0≤s∧s<S.S)→J S→J S'
 mov: ∀{S S':Ap} {b:Nat} {o:WO} {k:Nat},MovO b S S' o→AInv S→S.D.Ok→Bd S k→k≤40000→S.S≤10→b<S.D.nb→S.ps b=3→S.jr (b:Int)=false→J S→J S'
 ck: ∀{S S':Ap} {o:WO} {k:Nat},CkO S S' o→AInv S→Bd S k→k≤40000→S.S≤10→J S→J S'
structure PlG (J:Ap→Prop)(S:Ap)(k:Nat)(Z:List (List Nat)):Prop extends Pl S k Z where
 ev:J S
 pr:Pres J
 hS:S.S≤10
omit L X
theorem PlG.append {l:List GW}(p:PlG J S k Z)(hk:k≤40000)(hl:l.length≤6)(hd: ∀(i:Nat) (s:Int) (b o c:Nat),l[i]?=some (s,some (b,o,c))→(δ b).length=S.D.sz)(hc:Du S.S S.down (l.map (·.1))=0)(a:ApdP (gpl δ l) S S' o): Sm S S'∧(o= .done 0→PlG J S' (k+1000) (apW S.D.sz δ Z l))∧(o≠ .done 0→o= .full∧frees S'=0∧PlG J S' (k+1000) Z):=by
 obtain⟨sm,h1,h2⟩:=p.toPl.append hl hd hc a;have e:J S':=p.pr.app a p.inv p.bd hk p.hS (by unfold gpl;rw [List.length_map];exact hl) (fun y hy=>Ix hc y.1 (by rw [←J8 δ l];exact List.mem_map.2 ⟨y,hy,rfl⟩)) (fun s d hm=>by
  obtain⟨x,x1,x2,x3⟩:=d9 hm;have hr:=Ix hc x.1 (List.mem_map.2 ⟨x,x1,rfl⟩);obtain⟨i,hi,ei⟩:=List.getElem_of_mem x1;obtain⟨s',w⟩:=x;simp only at x2;subst x2
  cases w with
  |none=>cases x3
  |some w=>
   obtain⟨b,o,c⟩:=w
   cases x3;exact⟨hd i s' b o c (by rw [List.getElem?_eq_getElem hi,ei]),hr⟩) p.ev
 exact⟨sm,fun ho=>⟨h1 ho,e,p.pr,by rw [sm.secs];exact p.hS⟩,fun ho=>let⟨a1,a2,a3⟩:=h2 ho;⟨a1,a2,a3,e,p.pr,by rw [sm.secs];exact p.hS⟩⟩
theorem PlG.mono (p:PlG J S k Z)(h:k≤k'):PlG J S k' Z:=⟨p.toPl.mono h,p.ev,p.pr,p.hS⟩
theorem PlG.move (p:PlG J S k Z)(hk:k≤40000)(ok:S.D.Ok)(m:MoveO y S e S'): Sm S S'∧PlG J S' (k+1000) Z∧((e=0∨e=7∧frees S'=0)∧S.cand y∨e=3∧ ¬(0≤y∧y<(S.D.nb:Int))∨e=8∧(0≤y∧y<(S.D.nb:Int))∧ ¬S.cand y):=by
 obtain⟨sm,h1,h2⟩:=p.toPl.move ok m;refine⟨sm,⟨h1,?_,p.pr,by rw [sm.secs];exact p.hS⟩,h2⟩
 cases m with
 |rng h=>exact p.ev
 |st hb h=>exact p.ev
 | @run _ _ _ _ hb g1 g2 ho m=>exact p.pr.mov m p.inv ok p.bd hk p.hS hb g1 g2 p.ev
theorem PlG.ck (p:PlG J S k Z)(hk:k≤40000)(hS:S.S≤10)(ho:o= .done 0∨o= .full∨o= .pow)(m:CkO S S' o):Sm S S'∧PlG J S' (k+1000) Z∧(eOf o=0∨eOf o=7∧frees S'=0):=by obtain⟨sm,h1,h2⟩:=p.toPl.ck hS ho m;exact⟨sm,⟨h1,p.pr.ck m p.inv p.bd hk p.hS p.ev,p.pr,by rw [sm.secs];exact p.hS⟩,h2⟩
include L X
section
theorem af {n:Nat}{x:AFr}(T:Tb P0 E F K)(w:AS κ h I S ab dv S.D.sz Z sv secs)(p:PlG J S k Z)(hZ:0<Z.length∧Z.length≤10)(hk:k≤40000)(hsl:secs.length≤6)(hn:n<100000)(hS:S.S≤10) (k6:Bk h n0 [AN S.D.sz,dv]) (c6:κ n0=200) (k10:Bk h (n0+1+1) [Zi,.nils]) (c10:κ (n0+1+1)=200) (ht:TSub (tms [(33,some (AN n)),(32,some sv),(30,some (AN S.D.sz)),(10,some (.ptr (n0+1+1) 0)),(6,some (.ptr n0 0)),(0,some (.ptr ab 0))]) (tms lq)) (G: ∀v h',(∃S' Z' κ' dv',v= .tup [.agg [AN S.D.sz,dv'],.bool true]∧AS κ' h' I S' ab dv' S.D.sz Z' sv secs∧PlG J S' (k+1000) Z'∧Sm S S'∧AChX (fun b=>n0≤b) κ h κ' h')→GO P0 E Q (finish v cs h' x)): Good P0 E Q ⟨⟨11,cf11.ntmps,tms lq,[.ops [Cc 34 37 [.t 30,.t 32,.t 33],Cv 13 34],.code ui,.inBlock 0,.code U9],[],.run,false,none⟩,x::cs,hp h.n h.t []⟩:=by
 refine Fu L ht ?_;have hsz:=w.r.dv.ok.g.sz;have l6:=k6.lt;have l10:=k10.lt;refine cal ?_ (c:=mn L X w.qs hsz hsl hn);rintro gv h2 ⟨l,δ,g,hkeys,kk⟩;have n2:=kk.n;have hll:l.length=secs.length:=by rw [←hkeys,List.length_map]
 refine cal ?_ (c:=mo L X (w.q.k0 kk) hZ g (by omega) hsz);rintro _ h3 ⟨rfl,k3⟩;have n3:=k3.n;have kk3:K0 h h3:=Kp.tr0 k3 kk;have a3:AChg κ h (ext κ h.n) h3:=AChg.k0 kk3 fun b hb=>Ae hb;have w3:=w.chg a3 (w.r.k0 kk3 fun b hb=>Ae hb);have g3:=g.k0 k3;refine wk ?_;have hee:Du Z.length false (l.map (·.1))=Du S.S S.down (l.map (·.1)):=by rw [p.len,p.inv.dn]
 obtain⟨-,k6a,c6a⟩:True∧_∧_:=⟨trivial,a3.b2 k6 c6⟩;obtain⟨-,k10a,c10a⟩:True∧_∧_:=⟨trivial,a3.b2 k10 c10⟩;rcases w.q.ex with⟨rfl,rfl⟩|⟨-,lb,rows,rfl,-⟩;·exact absurd hZ.1 (Nat.lt_irrefl _)
 rcases g3.ex with⟨rfl,rfl⟩|⟨g1,gb,rfl,kb,g4,g5⟩;·refine cal ?_ (c:=Z5 L X w3.r w3.ka);rintro _ h4 ⟨κ4,rfl,r4,a4⟩;obtain⟨k6b,c6b⟩:=a4.b2 k6a c6a;obtain⟨k10b,c10b⟩:=a4.b2 k10a c10a;have e2:Du Z.length false (([]:List GW).map (·.1))=2:=rfl;rw [e2];refine eg L X (h:=h4) (n0:=n0) (e:=2) (by omega) k6b k10b tsb ?_;rintro _ h5 ⟨rfl,k5⟩;exact G _ _ ⟨S,Z,κ4,_,rfl,(w3.chg a4 r4).own k5 (fun b _ e=>by subst e;exact c10b),p.mono (by omega),⟨rfl,rfl,rfl,rfl,rfl⟩,Kp.trS k5 (fun i _ e=> .inr (by omega)) ((a3.trans a4).k.mono fun b e=> .inl e),(a3.trans a4).col⟩
 ·have hne:l≠[]:=fun e=>by rw [e]at g1;exact absurd g1 (Nat.lt_irrefl _)
  have hx: ∀b,h.n≤b→ext κ h.n b=0:=fun b hb=>Bq hb;refine cal ?_ (c:=me (δ:= δ) L X T w3.r w3.ka p.inv.iw (by omega) kb (hx gb g4) hne (by omega) (fun i s b o c e=>let⟨x1,x2,x3,_⟩:=g5 i s b o c e;⟨x1,hx b x3,x2⟩) ⟨p.bd.last,by have:=p.bd.nx;omega⟩ (by have:=p.bd.dn;omega) (fun hc es S' a=>a.ok p.inv fun y hy=>Ix hc y.1 (by rw [←J8 δ l];exact List.mem_map.2 ⟨y,hy,rfl⟩)));rintro _ h4 ⟨e,S4,κ4,rfl,ao,r4,a4⟩;obtain⟨k6b,c6b⟩:=a4.b2 k6a c6a;obtain⟨k10b,c10b⟩:=a4.b2 k10a c10a;have w4:=w3.chg a4 r4;have g4':=g3.chg a4 hx;rw [hee]
  cases ao with
  |bad hb=>refine eg L X (h:=h4) (n0:=n0) hb k6b k10b tsb ?_;rintro _ h5 ⟨rfl,k5⟩;exact G _ _ ⟨S,Z,κ4,_,rfl,w4.own k5 (fun b _ e=>by subst e;exact c10b),p.mono (by omega),⟨rfl,rfl,rfl,rfl,rfl⟩,Kp.trS k5 (fun i _ e=> .inr (by omega)) ((a3.trans a4).k.mono fun b e=> .inl e),(a3.trans a4).col⟩
  | @run _ o hc ho a=>
   rw [hc];obtain⟨sm,p1,p2⟩:=p.append hk (by omega) (fun i s b o c e=>(g5 i s b o c e).2.1) hc a;by_cases hod:o= .done 0
   ·subst hod;rw [show eOf (.done 0)=0 from rfl];refine cal ?_ (c:=Dx L X);rintro _ rfl;refine wk ?_;have hrl: ∀x∈l,0≤x.1∧x.1<(Z.length:Int):=fun x hx=>by rw [p.len];exact Ix hc x.1 (List.mem_map.2 ⟨x,hx,rfl⟩)
    refine cal ?_ (c:=my L X (V:=fun b=>ext κ4 h4.n b=0) (w4.q.mono fun b hb u=>(Ae hb).trans u) (fun b hb=>Bq hb) hZ g4' (by omega) hsz hrl);rintro _ h5 ⟨dv',rfl,q5,k5⟩;have n5:=k5.n;have a5:AChg κ4 h4 (ext κ4 h4.n) h5:=AChg.k0 k5 fun b hb=>Ae hb;have w5:=(w4.chg a5 (r4.k0 k5 fun b hb=>Ae hb)).disk q5;obtain⟨k6c,c6c⟩:=a5.b2 k6b c6b;obtain⟨k10c,c10c⟩:=a5.b2 k10b c10b;rcases q5.ex with⟨e0,-⟩|⟨z1,lb',rows',rfl,-⟩
    ·have:=congrArg List.length e0;rw [Ky]at this;simp only [List.length_nil]at this;omega
    (apply stS L rfl rfl rfl rfl rfl rfl;exact lkp;rfl;rfl);have k6l:=k6c.lt;have w6:=w5.own (B:=fun j=>j=n0) (h':=hp h5.n h5.t [(n0,some (cl [AN S.D.sz,.slc lb' 0 (apW S.D.sz δ Z l).length (Aa+1)]))]) kps fun b _ e=>by subst e;exact c6c
    refine Xm L X (κ:= ext κ4 h4.n) (h:=hp h5.n h5.t [(n0,some (cl [AN S.D.sz,.slc lb' 0 (apW S.D.sz δ Z l).length (Aa+1)]))]) (n0:=n0) (e:=0) w6.r w6.ka (.inl rfl) (by exact lkp) (by exact lkp) c6c c10c tsb ?_;rintro _ h7 ⟨κ7,rfl,r7,a7⟩;refine G _ _ ⟨S4,_,κ7,_,rfl,w6.chgX a7 (fun b _ e=>by subst e;exact c10c) r7,p1 rfl,sm,?_⟩;have ke:Kp (fun j=>j=n0) h5 (hp h5.n h5.t [(n0,some (cl [AN S.D.sz,.slc lb' 0 (apW S.D.sz δ Z l).length (Aa+1)]))]):=kps;refine AChX.comp2 ((a3.trans a4).trans a5) ke (AChX.mk a7.k a7.col) (fun b _ e=>by omega) (fun b _ e=>by omega)
   ·obtain⟨rfl,hf,p3⟩:=p2 hod;rw [show eOf .full=7 from rfl];refine cal ?_ (c:=Dx L X);rintro _ rfl;(apply st1 L rfl;exact Aby rfl rfl (by omega);rfl);refine Xm L X (h:=h4) (n0:=n0) (e:=7) r4 w4.ka (.inr ⟨rfl,hf⟩) k6b k10b c6b c10b tsb ?_;rintro _ h5 ⟨κ5,rfl,r5,a5⟩;exact G _ _ ⟨S4,Z,κ5,_,rfl,w4.chgX a5 (fun b _ e=>by subst e;exact c10b) r5,p3,sm,AChX.comp (a3.trans a4) a5 fun b _ e=>by omega⟩
theorem Aa2 {x:AFr}(T:Tb P0 E F K)(U:SortOk P0 E F 129)(w:AS κ h I S ab (.slc lb 0 Z.length (Aa+1)) S.D.sz Z sv secs)(p:PlG J S k Z)(hk:k≤40000)(hS:S.S≤10) (k6:Bk h n0 [AN S.D.sz,.slc lb 0 Z.length (Aa+1)]) (c6:κ n0=200) (k10:Bk h (n0+1+1) [Zi,.nils]) (c10:κ (n0+1+1)=200) (ht:TSub (tms [(132,some (.ptr ab 0)),(131,some (.ptr ab 0)),(130,some (.agg [AN S.D.sz,.slc lb 0 Z.length (Aa+1)])),(10,some (.ptr (n0+1+1) 0)),(6,some (.ptr n0 0)),(0,some (.ptr ab 0))]) (tms lq)) (G: ∀v h',(∃S' Z' κ' dv',v= .tup [.agg [AN S.D.sz,dv'],.bool true]∧AS κ' h' I S' ab dv' S.D.sz Z' sv secs∧PlG J S' (k+1000) Z'∧Sm S S'∧AChX (fun b=>n0≤b) κ h κ' h')→GO P0 E Q (finish v cs h' x)): Good P0 E Q ⟨⟨11,cf11.ntmps,tms lq,[.drawn ⟨⟨Cc 133 40 [.t 132],[132]⟩,[],[⟨Cn 130 2 6,[6]⟩,⟨Cv 131 0,[0]⟩]⟩ [⟨⟨Cc 134 16 [.t 131,.t 133],[131,133]⟩,[],[⟨Cn 130 2 6,[6]⟩]⟩,⟨⟨Cs 2 10 130,[10,130]⟩,[⟨Cv 11 134,[134]⟩],[]⟩],.code .ret],[],.run,false,none⟩,x::cs,hp h.n h.t []⟩:=by
 refine Fu L ht ?_;have l6:=k6.lt;have l10:=k10.lt;refine cal ?_ (c:=Sx L X T U w.r w.ka p.inv.iw p.inv.dn (by omega) (fun y hy=>let⟨b,e1,e2,_⟩:=p.inv.jr y hy;⟨by omega,by omega⟩) ⟨p.bd.last,by have:=p.bd.nx;omega⟩ (by have:=p.bd.dn;omega) (p.inv.ckH p.bd hS (by omega)));rintro _ h3 ⟨o,S3,κ3,rfl,ho,ck,r3,a3⟩;obtain⟨sm,p3,he⟩:=p.ck hk hS ho ck;have w3:=w.chg a3 r3;obtain⟨k6a,c6a⟩:=a3.b2 k6 c6;obtain⟨k10a,c10a⟩:=a3.b2 k10 c10;have l6:=k6a.lt;have l10:=k10a.lt;refine cal ?_ (c:=My L X r3 w3.ka he);rintro _ h4 ⟨κ4,rfl,r4,a4⟩;have w4:=w3.chg a4 r4;obtain⟨k6b,c6b⟩:=a4.b2 k6a c6a;obtain⟨k10b,c10b⟩:=a4.b2 k10a c10a;have l6:=k6b.lt;have l10:=k10b.lt;refine wk ?_;(apply K8 L rfl rfl rfl rfl rfl rfl rfl;exact lkp;rfl;intro h9 hs9;(repeat(first|(apply A6 rfl rfl;exact opv)|(apply Ll rfl rfl)));(first|(apply p_0;exact chk)|(refine N1 L ?_ rfl ?_;exact chk));refine L7 L hs9 ?_);refine ret X.f11.1 ?_;refine⟨S3,Z,κ4,_,rfl,w4.own (B:=fun j=>j=n0+1+1) ?_ (fun b _ e=>by subst e;exact c10b),p3,sm,Kp.trS (S':=fun j=>j=n0+1+1) ?_ (fun i _ e=> .inr (by omega)) ((a3.trans a4).k.mono fun b e=> .inl e),(a3.trans a4).col⟩;·exact kps
 ·exact kps
theorem ek {n:Nat}{what blk:Int}(T:Tb P0 E F K)(U:SortOk P0 E F 129)(w:AS κ h I S ab dv S.D.sz Z sv secs)(p:PlG J S k Z)(hZ:0<Z.length∧Z.length≤10)(hk:k≤40000)(hsl:secs.length≤6)(hn:n<100000)(hS:S.S≤10): Ct P0 E F K 11 [.ptr ab 0,.agg [AN S.D.sz,dv],AN S.D.nb,.agg [AI what,AI blk,sv],AN n] h (fun v h'=> ∃S' Z' κ' dv',v= .tup [.agg [AN S.D.sz,dv'],.bool true]∧AS κ' h' I S' ab dv' S.D.sz Z' sv secs∧PlG J S' (k+1000) Z'∧Sm S S'∧AChg κ h κ' h'):=by
 have lk:=w.ka.lt;rcases w.q.ex with⟨rfl,rfl⟩|⟨-,lb,rows,rfl,-⟩;·exact absurd hZ.1 (Nat.lt_irrefl _)
 refine Lk L X.f11 fun Q x cs G=>?_;refine wk ?_;have k1:K0 h (hp (h.n+1+1+1) h.t [(h.n+1+1,some (cl [Zi,.nils])),(h.n+1,some (cl [AI what,AI blk,sv])),(h.n,some (cl [AN S.D.sz,.slc lb 0 Z.length (Aa+1)]))]):=kps;have a1:AChg κ h (G9 κ h.n) (hp (h.n+1+1+1) h.t [(h.n+1+1,some (cl [Zi,.nils])),(h.n+1,some (cl [AI what,AI blk,sv])),(h.n,some (cl [AN S.D.sz,.slc lb 0 Z.length (Aa+1)]))]):=AChg.k0 k1 fun b hb=>Ef hb;have w1:=w.chg a1 (w.r.k0 k1 fun b hb=>Ef hb);have b6:Bk (hp (h.n+1+1+1) h.t [(h.n+1+1,some (cl [Zi,.nils])),(h.n+1,some (cl [AI what,AI blk,sv])),(h.n,some (cl [AN S.D.sz,.slc lb 0 Z.length (Aa+1)]))]) h.n [AN S.D.sz,.slc lb 0 Z.length (Aa+1)]:=lkp;have b8:Bk (hp (h.n+1+1+1) h.t [(h.n+1+1,some (cl [Zi,.nils])),(h.n+1,some (cl [AI what,AI blk,sv])),(h.n,some (cl [AN S.D.sz,.slc lb 0 Z.length (Aa+1)]))]) (h.n+1) [AI what,AI blk,sv]:=lkp;have b10:Bk (hp (h.n+1+1+1) h.t [(h.n+1+1,some (cl [Zi,.nils])),(h.n+1,some (cl [AI what,AI blk,sv])),(h.n,some (cl [AN S.D.sz,.slc lb 0 Z.length (Aa+1)]))]) (h.n+1+1) [Zi,.nils]:=lkp;refine cal ?_ (c:=Aaw L X w1.r w1.ka (fun b n e=>Nat.le_of_lt (p.bd.wr b n e)) (by have:=p.bd.nx;omega));rintro _ h2 ⟨κ2,cd,cc,r2,a2⟩;have w2:=w1.chg a2 r2;obtain⟨k6,c6⟩:=a2.b2 b6 (Dm (Nat.le_refl _));obtain⟨k8,c8⟩:=a2.b2 b8 (Dm (Nat.le_succ _));obtain⟨k10,c10⟩:=a2.b2 b10 (Dm (by omega));have l6:=k6.lt;have l8:=k8.lt;have l10:=k10.lt;have fin: ∀κ' h',AChX (fun b=>h.n≤b) κ2 h2 κ' h'→AChg κ h κ' h':=fun κ' h' x=>x.own (a1.trans a2) fun b e=>e;have ck:=fun lq=>Aa2 L X (h:=h2) (n0:=h.n) (x:=x) (cs:=cs) (Q:=Q) (lq:=lq) T U w2 p hk hS k6 c6 k10 c10;by_cases c1:what<0;·refine wk ?_;refine ck _ tsb ?_;rintro v h' ⟨S',Z',κ',dv',rfl,w',p',s',x'⟩;exact G _ _ ⟨S',Z',κ',dv',rfl,w',p',s',fin κ' h' x'⟩
 by_cases c2:what≤5;·refine wk ?_;refine af L X (h:=h2) (n0:=h.n) T w2 p hZ hk hsl hn hS k6 c6 k10 c10 tsb ?_;rintro v h' ⟨S',Z',κ',dv',rfl,w',p',s',x'⟩;exact G _ _ ⟨S',Z',κ',dv',rfl,w',p',s',fin κ' h' x'⟩
 by_cases c3:what=8
 ·subst c3;refine cal ?_ (c:=dz L X T w2.r w2.ka p.inv.iw p.inv.dn ⟨p.bd.last,by have:=p.bd.nx;omega⟩ (by have:=p.bd.dn;omega) (by omega) (fun b e hb h3 _=>p.inv.mvH w2.r.dv.ok (by omega) p.bd (by omega) b hb h3));rintro _ h3 ⟨e,S3,κ3,rfl,m,r3,a3⟩;obtain⟨sm,p3,he⟩:=p.move hk w2.r.dv.ok m;have w3:=w2.chg a3 r3;obtain⟨k6a,c6a⟩:=a3.b2 k6 c6;obtain⟨k8a,c8a⟩:=a3.b2 k8 c8;obtain⟨k10a,c10a⟩:=a3.b2 k10 c10;have l6:=k6a.lt;have l8:=k8a.lt;have l10:=k10a.lt;have n23:=a3.k.n;have done: ∀hh,Kp (fun j=>j=h.n+1+1) h3 hh→GO P0 E Q (finish (.tup [.agg [AN S.D.sz,.slc lb 0 Z.length (Aa+1)],.bool true]) cs hh x):=fun hh kh=>G _ _ ⟨S3,Z,κ3,_,rfl,w3.own kh (fun b _ e=>by subst e;exact c10a),p3,sm,fin κ3 hh ⟨Kp.trS kh (fun i _ e=> .inr (by omega)) (a3.k.mono fun b e=> .inl e),a3.col⟩⟩;by_cases cr:0≤blk∧blk<(S.D.nb:Int);rotate_left
  ·have e3:e=3:=by
    rcases he with⟨_,b,e',hb,_⟩|⟨h,_⟩|⟨_,h,_⟩;·exact absurd ⟨by omega,by omega⟩ cr
    ·exact h
    ·exact absurd h cr
   subst e3;have G:=fun v hh (q:v= .tup [.agg [AN S.D.sz,.slc lb 0 Z.length (Aa+1)],.bool true]∧Kp (fun j=>j=h.n+1+1) h3 hh)=>(show GO P0 E Q (finish v cs hh x) by rw [q.1];exact done hh q.2);by_cases cl:blk<0;·refine ret X.f11.1 ?_;exact⟨rfl,kps⟩
   ·refine ret X.f11.1 ?_;exact⟨rfl,kps⟩
  ·have no: ¬S.cand blk→e=8:=fun hn=>by
    rcases he with⟨_,h⟩|⟨_,h⟩|⟨h,_⟩;·exact absurd h hn
    ·exact absurd cr h
    ·exact h
   have yes:S.cand blk→e=0∨e=7∧frees S3=0:=fun hc=>by
    rcases he with⟨h,_⟩|⟨_,h⟩|⟨_,_,h⟩;·exact h
    ·exact absurd cr h
    ·exact absurd hc h
   rcases cd.ex with⟨e0,rfl⟩|⟨g1,cb,rfl,kcb,-⟩;·have e8:=no (by rintro⟨b,_,hb⟩;have:=(Kz (S:=S) (b:=b) S.D.nb).2 hb;rw [e0]at this;cases this);subst e8;have G:=fun v hh (q:v= .tup [.agg [AN S.D.sz,.slc lb 0 Z.length (Aa+1)],.bool true]∧Kp (fun j=>j=h.n+1+1) h3 hh)=>(show GO P0 E Q (finish v cs hh x) by rw [q.1];exact done hh q.2);refine wk ?_;refine A5 L ?_;refine ret X.f11.1 ?_;exact⟨rfl,kps⟩
   ·obtain⟨kcb3,ccb3⟩:=a3.bk kcb (cc cb _ _ rfl);have lcb:=kcb3.lt;have hlc:=Qb S S.D.nb;have hnb:=p.inv.geo.nb;refine wk ?_;refine B9 L (α:= Unit) (T:=fun i _=> [(17,some (AN i)),(16,some (AN e)),(12,some (.slc cb 0 (S.cds S.D.nb).length (Aa+4))),(10,some (.ptr (h.n+1+1) 0)),(8,some (.ptr (h.n+1) 0)),(6,some (.ptr h.n 0)),(0,some (.ptr ab 0))]) (n:=(S.cds S.D.nb).length) (R:=fun i _ hh=>(∀b∈(S.cds S.D.nb).take i,(b:Int)≠blk)∧K0 h3 hh) (i0:=0) () tsb ⟨by simp,Kp.refl _⟩ (Nat.zero_le _) ?_ ?_
    ·rintro i _ hh hi ⟨t1,t2⟩ ih;have hx:(S.cds S.D.nb)[i]?=some (S.cds S.D.nb)[i]:=List.getElem?_eq_getElem hi;have htk:(S.cds S.D.nb).take (i+1)=(S.cds S.D.nb).take i++ [(S.cds S.D.nb)[i]]:=(by rw [List.take_add_one,hx];rfl);have hin:=(Kz (S:=S) S.D.nb).1 (List.getElem_mem hi);have hf:((S.cds S.D.nb).flatMap (cdC S))[i*4+0]?=some (AN ((S.cds S.D.nb)[i])):=(by rw [Dc _ (Qa S _) i 0 _ hx (by omega)];rfl);generalize (S.cds S.D.nb)[i]=b at*;have kcb4:=Ag t2 kcb3;have k6b:=Ag t2 k6a;have k8b:=Ag t2 k8a;have k10b:=Ag t2 k10a;by_cases eb:(b:Int)=blk
     ·subst eb;have r4:ApR κ3 hh I S3:=r3.k0 t2 fun _ _=>rfl;refine cal ?_ (c:=My L X r4 (Ag t2 w3.ka) (yes ⟨b,rfl,hin.1,hin.2⟩));rintro _ h5 ⟨κ5,rfl,r5,a5⟩;obtain⟨k6c,c6c⟩:=a5.b2 k6b c6a;obtain⟨k10c,c10c⟩:=a5.b2 k10b c10a;have l6:=k6c.lt;have l10:=k10c.lt;have a4:AChg κ3 h3 κ3 hh:=AChg.k0 t2 fun _ _=>rfl;have w5:=(w3.chg a4 r4).chg a5 r5;refine wk ?_;(apply K8 L rfl rfl rfl rfl rfl rfl rfl;exact lkp;rfl;intro h9 hs9;(repeat(first|(apply A6 rfl rfl;exact opv)|(apply Ll rfl rfl)));(first|(apply p_0;exact chk)|(refine N1 L ?_ rfl ?_;exact chk));refine L7 L hs9 ?_);refine ret X.f11.1 ?_;refine⟨S3,Z,κ5,_,rfl,w5.own (B:=fun j=>j=h.n+1+1) ?_ (fun b _ e=>by subst e;exact c10c),p3,sm,fin κ5 _ ⟨Kp.trS (S':=fun j=>j=h.n+1+1) ?_ (fun i _ e=> .inr (by omega)) (((a3.trans a4).trans a5).k.mono fun b e=> .inl e),((a3.trans a4).trans a5).col⟩⟩;·exact kps
      ·exact kps
     ·refine wk ?_;refine ih () _ _ ⟨?_,by exact kps⟩ ?_
      ·rw [htk];intro b' hb';rcases List.mem_append.1 hb' with h|h;·exact t1 b' h
       ·rw [List.mem_singleton]at h;subst h;exact eb
      ·exact tsb
    ·rintro _ hh ⟨t1,t2⟩;rw [List.take_length]at t1;have e8:=no (by rintro⟨b,eb,hb⟩;exact t1 b ((Kz (S:=S) (b:=b) S.D.nb).2 hb) eb.symm);subst e8;have k6b:=Ag t2 k6a;have k10b:=Ag t2 k10a;have l6:=k6b.lt;have l10:=k10b.lt;have G:=fun v h4 (q:v= .tup [.agg [AN S.D.sz,.slc lb 0 Z.length (Aa+1)],.bool true]∧Kp (fun j=>j=h.n+1+1) h3 h4)=>(show GO P0 E Q (finish v cs h4 x) by rw [q.1];exact done h4 q.2);refine ret X.f11.1 ?_;exact⟨rfl,kps⟩
 by_cases c4:what=6∨what=7
 ·rcases cd.ex with⟨e0,rfl⟩|⟨g1,cb,rfl,kcb,-⟩
  ·rcases c4 with rfl|rfl
   all_goals
    refine wk ?_;refine ck _ tsb ?_;rintro v h' ⟨S',Z',κ',dv',rfl,w',p',s',x'⟩;exact G _ _ ⟨S',Z',κ',dv',rfl,w',p',s',fin κ' h' x'⟩
  ·have lcb:=kcb.lt;have hlc:=Qb S S.D.nb;have hnb:=p.inv.geo.nb;have hj:u64 blk % (S.cds S.D.nb).length<(S.cds S.D.nb).length:=Nat.mod_lt _ g1;have hin:=(Kz (S:=S) S.D.nb).1 (List.getElem_mem hj);have hf:((S.cds S.D.nb).flatMap (cdC S))[u64 blk % (S.cds S.D.nb).length*4+0]?=some (AN ((S.cds S.D.nb)[u64 blk % (S.cds S.D.nb).length])):=(by rw [Dc _ (Qa S _) _ 0 _ (List.getElem?_eq_getElem hj) (by omega)];rfl);generalize (S.cds S.D.nb)[u64 blk % (S.cds S.D.nb).length]=b at*;rcases c4 with rfl|rfl
   all_goals
    refine wk ?_;(apply A6 rfl rfl;exact Jy rfl);refine cal ?_ (c:=dz L X T w2.r w2.ka p.inv.iw p.inv.dn ⟨p.bd.last,by have:=p.bd.nx;omega⟩ (by have:=p.bd.dn;omega) (by omega) (fun b e hb h3 _=>p.inv.mvH w2.r.dv.ok (by omega) p.bd (by omega) b hb h3));rintro _ h3 ⟨e,S3,κ3,rfl,m,r3,a3⟩;obtain⟨sm,p3,he⟩:=p.move hk w2.r.dv.ok m;have hee:e=0∨e=7∧frees S3=0:=by
     rcases he with⟨h,_⟩|⟨_,h⟩|⟨_,_,h⟩;·exact h
     ·exact absurd ⟨by omega,by omega⟩ h
     ·exact absurd ⟨b,rfl,hin.1,hin.2⟩ h
    have w3:=w2.chg a3 r3;obtain⟨k6a,c6a⟩:=a3.b2 k6 c6;obtain⟨k10a,c10a⟩:=a3.b2 k10 c10;have l6:=k6a.lt;have l10:=k10a.lt;refine cal ?_ (c:=My L X r3 w3.ka hee);rintro _ h4 ⟨κ4,rfl,r4,a4⟩;have w4:=w3.chg a4 r4;obtain⟨k6b,c6b⟩:=a4.b2 k6a c6a;obtain⟨k10b,c10b⟩:=a4.b2 k10a c10a;have l6:=k6b.lt;have l10:=k10b.lt;refine wk ?_;(apply K8 L rfl rfl rfl rfl rfl rfl rfl;exact lkp;rfl;intro h9 hs9;(repeat(first|(apply A6 rfl rfl;exact opv)|(apply Ll rfl rfl)));(first|(apply p_0;exact chk)|(refine N1 L ?_ rfl ?_;exact chk));refine L7 L hs9 ?_);refine ret X.f11.1 ?_;refine⟨S3,Z,κ4,_,rfl,w4.own (B:=fun j=>j=h.n+1+1) ?_ (fun b _ e=>by subst e;exact c10b),p3,sm,fin κ4 _ ⟨Kp.trS (S':=fun j=>j=h.n+1+1) ?_ (fun i _ e=> .inr (by omega)) ((a3.trans a4).k.mono fun b e=> .inl e),(a3.trans a4).col⟩⟩;·exact kps
    ·exact kps
 ·refine wk ?_;refine ck _ tsb ?_;rintro v h' ⟨S',Z',κ',dv',rfl,w',p',s',x'⟩;exact G _ _ ⟨S',Z',κ',dv',rfl,w',p',s',fin κ' h' x'⟩
