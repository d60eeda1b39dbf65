/- Part of the proof. -/
import Derived.Test.YtclfgfpebplncaaGreatH09
import Derived.Test.YtclfgfpebplncaaGreatH07
set_option linter.unusedVariables false
set_option linter.unusedSectionVars false
set_option linter.unusedSimpArgs false
set_option maxRecDepth 10000
set_option maxHeartbeats 4000000
namespace Go.Ev
variable {E:Env}{F:T CFn}{K:T (List AV×AV)}{P b j k:Nat}{P0:Program}{S S' S1 S2:Ap}{data:List Nat}{o r:WO}{p:Prop}{s sec:Int}
theorem Adi (h:p:=by
 obtain⟨h1,h2,i,j,h3,h4,h5,h6,h7⟩:=q.map s p h
 exact⟨h1,h2,i,j,h3,h4,h5,pm i h6,h7⟩):p:=h
section
variable (L:Lg P0 E F K)(X:Fx F K)
include L X
omit L X in
structure AInv (S:Ap):Prop where
 geo:S.D.Geo
 pw:S.D.off=S.down
 n0:1≤S.next
 iw:IW S
 nxP: ∀b,b<S.D.nb→(S.D.bl b).nx≤S.D.P
 op2: ∀b:Nat,b<S.D.nb→S.ps b=2→(b:Int)=S.dat∨(b:Int)=S.log
 free: ∀b,b<S.D.nb→S.ps b=1→(S.D.bl b).nx=0
 jr: ∀k,S.jr k=true→ ∃b:Nat,k=(b:Int)∧b<S.D.nb∧(S.ps b=3∨S.ps b=2∧S.log=(b:Int))
 jlog:0≤S.log→S.jr S.log=true
 jdat:0≤S.dat→S.jr S.dat=false
 map: ∀s p,S.A s=some p→0≤s∧s<S.S∧ ∃b j:Nat,p=((b*S.D.P+j:Nat):Int)∧b<S.D.nb∧j<S.D.P∧(S.ps b=2∨S.ps b=3)∧S.jr (b:Int)=false∧j<(S.D.bl b).nx∧((S.D.bl b).pg j).st=2
 inj: ∀s s' p,S.A s=some p→S.A s'=some p→s=s'
structure Keep (S S':Ap):Prop where
 nx: ∀b,b<S.D.nb→(S.D.bl b).nx≤(S'.D.bl b).nx
 pg: ∀b j,b<S.D.nb→j<(S.D.bl b).nx→(S'.D.bl b).pg j=(S.D.bl b).pg j
 ps3: ∀b,b<S.D.nb→S.ps b=3→S'.ps b=3
 psm: ∀b,b<S.D.nb→S.ps b=2∨S.ps b=3→S'.ps b=2∨S'.ps b=3
 jrm: ∀b:Nat,b<S.D.nb→S.ps b≠1→S'.jr (b:Int)=S.jr (b:Int)
 n1: ∀b:Nat,b<S.D.nb→S.ps b≠1→S'.ps b≠1
 nt:S.next≤S'.next
omit L X
theorem Keep.refl (S:Ap):Keep S S:=⟨fun _ _=>Nat.le_refl _,fun _ _ _ _=>rfl,fun _ _ h=>h,fun _ _ h=>h,fun _ _ _=>rfl,fun _ _ h=>h,Nat.le_refl _⟩
theorem Keep.trans (a:Keep S S1)(b:Keep S1 S2)(hn:S1.D.nb=S.D.nb):Keep S S2:= ⟨fun i hi=>Nat.le_trans (a.nx i hi) (b.nx i (by omega)),fun i j hi hj=>(b.pg i j (by omega) (Nat.lt_of_lt_of_le hj (a.nx i hi))).trans (a.pg i j hi hj),fun i hi h=>b.ps3 i (by omega) (a.ps3 i hi h),fun i hi h=>b.psm i (by omega) (a.psm i hi h),fun i hi h=>(b.jrm i (by omega) (a.n1 i hi h)).trans (a.jrm i hi h),fun i hi h=>b.n1 i (by omega) (a.n1 i hi h),Nat.le_trans a.nt b.nt⟩
theorem AInv.close {k:Bool}(q:AInv S)(hs:0≤S.sel k)(hiw:IW (({S with ps:=upd S.ps (S.sel k).toNat 3}).put k (-1))):AInv (({S with ps:=upd S.ps (S.sel k).toNat 3}).put k (-1))∧Keep S (({S with ps:=upd S.ps (S.sel k).toNat 3}).put k (-1)):=by
 obtain⟨w1,w2⟩:=(q.iw.wi k).sel hs;obtain⟨b,hb⟩:=Int.eq_ofNat_of_zero_le hs;rw [hb,Int.toNat_natCast]at hiw ⊢;rw [hb,Int.toNat_natCast]at w2;rw [hb]at w1;have p2: ∀i,upd S.ps b 3 i=2→i≠b∧S.ps i=2:=fun i h=>by
  by_cases ei:i=b;·subst ei;rw [upd_eq]at h;cases h
  ·rw [upd_ne _ _ ei]at h;exact⟨ei,h⟩
 have p1: ∀i,upd S.ps b 3 i=1→S.ps i=1:=fun i h=>by
  by_cases ei:i=b;·subst ei;rw [upd_eq]at h;cases h
  ·rw [upd_ne _ _ ei]at h;exact h
 have p3: ∀i,S.ps i=3→upd S.ps b 3 i=3:=fun i h=>by
  by_cases ei:i=b;·subst ei;exact upd_eq _ _ _
  ·rw [upd_ne _ _ ei];exact h
 have pm: ∀i,S.ps i=2∨S.ps i=3→upd S.ps b 3 i=2∨upd S.ps b 3 i=3:=fun i h=>by
  by_cases ei:i=b;·subst ei;exact .inr (upd_eq _ _ _)
  ·rw [upd_ne _ _ ei];exact h
 cases k with
 |true=>
  have hl:S.log=(b:Int):=hb;refine⟨⟨q.geo,q.pw,q.n0,hiw,q.nxP,fun i hi h=>?_,fun i hi h=>q.free i hi (p1 i h),fun y hy=>?_,fun h=>absurd h (by show¬(0:Int)≤ -1;omega),q.jdat,fun s p h=>?_,q.inj⟩,⟨fun _ _=>Nat.le_refl _,fun _ _ _ _=>rfl,fun i _ h=>p3 i h,fun i _ h=>pm i h,fun _ _ _=>rfl,fun i _ h e=>h (p1 i e),Nat.le_refl _⟩⟩
  ·obtain⟨h1,h2⟩:=p2 i h;rcases q.op2 i hi h2 with h3|h3;·exact .inl h3
   ·rw [hl]at h3;exact absurd (by omega) h1
  ·obtain⟨i,h1,h2,h3⟩:=q.jr y hy;refine⟨i,h1,h2,.inl ?_⟩;rcases h3 with h3|⟨h3,h4⟩;·exact p3 i h3
   ·rw [hl]at h4;have:i=b:=(by omega);subst this;exact upd_eq _ _ _
  ·exact Adi
 |false=>
  have hl:S.dat=(b:Int):=hb;refine⟨⟨q.geo,q.pw,q.n0,hiw,q.nxP,fun i hi h=>?_,fun i hi h=>q.free i hi (p1 i h),fun y hy=>?_,q.jlog,fun h=>absurd h (by show¬(0:Int)≤ -1;omega),fun s p h=>?_,q.inj⟩,⟨fun _ _=>Nat.le_refl _,fun _ _ _ _=>rfl,fun i _ h=>p3 i h,fun i _ h=>pm i h,fun _ _ _=>rfl,fun i _ h e=>h (p1 i e),Nat.le_refl _⟩⟩
  ·obtain⟨h1,h2⟩:=p2 i h;rcases q.op2 i hi h2 with h3|h3;·rw [hl]at h3;exact absurd (by omega) h1
   ·exact .inr h3
  ·obtain⟨i,h1,h2,h3⟩:=q.jr y hy;refine⟨i,h1,h2,?_⟩;by_cases ei:i=b;·subst ei;exact .inl (upd_eq _ _ _)
   ·show upd S.ps b 3 i=3∨upd S.ps b 3 i=2∧_;rw [upd_ne _ _ ei];exact h3
  ·exact Adi
theorem AInv.cls (q:AInv S)(k:Bool):AInv (S.cls k)∧Keep S (S.cls k):=by
 have hiw:=(q.iw.cls k).1;by_cases hc:0≤S.sel k∧(S.D.bl (S.sel k).toNat).nx=S.D.P
 ·have e:S.cls k=({S with ps:=upd S.ps (S.sel k).toNat 3}).put k (-1):=by unfold Ap.cls;rw [if_pos hc]
  rw [e]at hiw ⊢;exact q.close hc.1 hiw
 ·have e:S.cls k=S:=by unfold Ap.cls;rw [if_neg hc]
  rw [e];exact⟨q,.refl _⟩
theorem AInv.opn {k:Bool}(q:AInv S)(h:S.opn k=some S2):AInv S2∧Keep S S2∧S2.jr (S2.sel k)=k:=by
 obtain⟨hiw,hD,hs0,-⟩:=q.iw.opn h;unfold Ap.opn at h;split at h
 ·rename_i hs;split at h;·cases h
  ·rename_i hcold;rcases H6 S.ps S.pe 1 S.D.nb with⟨h1,-⟩|⟨c,hc,h1,h2⟩;·rw [h1]at hcold;omega
   ·rw [h1,Int.toNat_natCast]at h;have hjc:S.jr (c:Int)=false:=by
     cases hj:S.jr (c:Int)with
     |false=>rfl
     |true=>obtain⟨i,e1,e2,e3⟩:=q.jr _ hj;have:i=c:=(by omega);subst this;rcases e3 with e3|⟨e3,-⟩ <;> omega
    have p2: ∀i,upd S.ps c 2 i=2→i=c∨S.ps i=2:=fun i h=>by
     by_cases ei:i=c;·exact .inl ei
     ·rw [upd_ne _ _ ei]at h;exact .inr h
    have p1: ∀i,upd S.ps c 2 i=1→S.ps i=1:=fun i h=>by
     by_cases ei:i=c;·subst ei;exact h2
     ·rw [upd_ne _ _ ei]at h;exact h
    have p3: ∀i,S.ps i=3→upd S.ps c 2 i=3:=fun i h=>by rw [upd_ne _ _ (fun e=>by subst e;omega)];exact h
    have pm: ∀i,S.ps i=2∨S.ps i=3→upd S.ps c 2 i=2∨upd S.ps c 2 i=3:=fun i h=>by rw [upd_ne _ _ (fun e=>by subst e;omega)];exact h
    have nc: ∀i,S.ps i=2∨S.ps i=3→i≠c:=fun i h e=>by subst e;omega
    cases k with
    |true=>
     cases h;have hlg:S.log<0:=hs;refine⟨⟨q.geo,q.pw,q.n0,hiw,q.nxP,fun i hi h=>?_,fun i hi h=>q.free i hi (p1 i h),fun y hy=>?_,fun _=>?_,fun hd=>?_,fun s p h=>?_,q.inj⟩,⟨fun _ _=>Nat.le_refl _,fun _ _ _ _=>rfl,fun i _ h=>p3 i h,fun i _ h=>pm i h,fun i hi hne=>?_,fun i _ h e=>h (p1 i e),Nat.le_refl _⟩,?_⟩
     ·rcases p2 i h with h3|h3;·exact .inr (by rw [h3];rfl)
      ·rcases q.op2 i hi h3 with h4|h4;·exact .inl h4
       ·omega
     ·have hy':Bh S.jr (c:Int) true y=true:=hy;unfold Bh at hy';by_cases ey:y=(c:Int);·exact⟨c,ey,hc,.inr ⟨upd_eq _ _ _,rfl⟩⟩
      ·rw [if_neg ey]at hy';obtain⟨i,e1,e2,e3⟩:=q.jr y hy';refine⟨i,e1,e2,?_⟩;rcases e3 with e3|⟨e3,e4⟩;·exact .inl (p3 i e3)
       ·omega
     ·show Bh S.jr (c:Int) true (c:Int)=true;unfold Bh;rw [if_pos rfl]
     ·show Bh S.jr (c:Int) true S.dat=false;have hd':0≤S.dat:=hd;obtain⟨g1,g2⟩:=(q.iw.wi false).sel hd';have g2':S.ps S.dat.toNat=2:=g2;unfold Bh;rw [if_neg (fun e=>nc _ (.inl g2') (by omega))];exact q.jdat hd'
     ·obtain⟨e1,e2,i,j,h3,h4,h5,h6,h7,h8⟩:=q.map s p h;refine⟨e1,e2,i,j,h3,h4,h5,pm i h6,?_,h8⟩;show Bh S.jr (c:Int) true (i:Int)=false;unfold Bh;rw [if_neg (fun e=>nc i h6 (by omega))];exact h7
     ·show Bh S.jr (c:Int) true (i:Int)=S.jr (i:Int);unfold Bh;rw [if_neg (fun e=>hne (by have:i=c:=(by omega);subst this;exact h2))]
     ·show Bh S.jr (c:Int) true (c:Int)=true;unfold Bh;rw [if_pos rfl]
    |false=>
     cases h;have hdt:S.dat<0:=hs;refine⟨⟨q.geo,q.pw,q.n0,hiw,q.nxP,fun i hi h=>?_,fun i hi h=>q.free i hi (p1 i h),fun y hy=>?_,q.jlog,fun hd=>hjc,fun s p h=>?_,q.inj⟩,⟨fun _ _=>Nat.le_refl _,fun _ _ _ _=>rfl,fun i _ h=>p3 i h,fun i _ h=>pm i h,fun i hi hne=>rfl,fun i _ h e=>h (p1 i e),Nat.le_refl _⟩,hjc⟩
     ·rcases p2 i h with h3|h3;·exact .inl (by rw [h3];rfl)
      ·rcases q.op2 i hi h3 with h4|h4;·omega
       ·exact .inr h4
     ·obtain⟨i,e1,e2,e3⟩:=q.jr y hy;refine⟨i,e1,e2,?_⟩;rcases e3 with e3|⟨e3,e4⟩;·exact .inl (p3 i e3)
      ·refine .inr ⟨?_,e4⟩;show upd S.ps c 2 i=2;rw [upd_ne _ _ (nc i (.inl e3))];exact e3
     ·obtain⟨e1,e2,i,j,h3,h4,h5,h6,h7⟩:=q.map s p h;exact⟨e1,e2,i,j,h3,h4,h5,pm i h6,h7⟩
 ·rename_i hs
  cases h;refine⟨q,.refl _,?_⟩
  cases k with
  |true=>exact q.jlog (Int.not_lt.1 hs)
  |false=>exact q.jdat (Int.not_lt.1 hs)
theorem Dv.prog_ok {D:Dv}{all:List Nat}(hb:b<D.nb)(hx:(D.bl b).nx<D.P): D.prog (b:Int) all=if D.off=true then(D,50)else(D.wr b all,if(D.n:Int)=D.cut then 50 else if D.flt D.n=true then 54 else 0):=by unfold Dv.prog;rw [if_pos ⟨by omega,by omega,by rw [Int.toNat_natCast];exact hx⟩,Int.toNat_natCast]
theorem AInv.wr {all:List Nat}(q:AInv S)(hb:b<S.D.nb)(hp:S.ps b=2)(hx:(S.D.bl b).nx<S.D.P)(su:Int→Bool)(dn:Bool)(ho:(S.D.wr b all).off=dn): AInv {S with D:=S.D.wr b all,su:=su,down:=dn}∧Keep S {S with D:=S.D.wr b all,su:=su,down:=dn}:=by
 have hbl: ∀i,i≠b→(S.D.wr b all).bl i=S.D.bl i:=fun i h=>upd_ne _ _ h;have hbb:(S.D.wr b all).bl b=⟨upd (S.D.bl b).pg (S.D.bl b).nx (S.D.pgW all),(S.D.bl b).nx+1,(S.D.bl b).er⟩:=upd_eq _ _ _;have hpg: ∀i j,j<(S.D.bl i).nx→((S.D.wr b all).bl i).pg j=(S.D.bl i).pg j:=by
  intro i j hj;by_cases e:i=b;·subst e;rw [hbb];exact upd_ne _ _ (by omega)
  ·rw [hbl i e]
 have hnx: ∀i,(S.D.bl i).nx≤((S.D.wr b all).bl i).nx:=by
  intro i;by_cases e:i=b;·subst e;rw [hbb];exact Nat.le_succ _
  ·rw [hbl i e];exact Nat.le_refl _
 refine⟨⟨⟨q.geo.nb,q.geo.P,q.geo.sz,q.geo.en⟩,ho,q.n0,⟨fun k=>⟨(q.iw.wi k).sel,(q.iw.wi k).lo⟩,q.iw.ne⟩,fun i hi=>?_,q.op2,fun i hi h=>?_,q.jr,q.jlog,q.jdat,fun s p h=>?_,q.inj⟩,⟨fun i _=>hnx i,fun i j _ hj=>hpg i j hj,fun _ _ h=>h,fun _ _ h=>h,fun _ _ _=>rfl,fun _ _ h=>h,Nat.le_refl _⟩⟩
 ·show((S.D.wr b all).bl i).nx≤S.D.P;by_cases e:i=b;·subst e;rw [hbb];exact hx
  ·rw [hbl i e];exact q.nxP i hi
 ·show((S.D.wr b all).bl i).nx=0;have h':S.ps i=1:=h;rw [hbl i (fun e=>by subst e;omega)];exact q.free i hi h'
 ·obtain⟨e1,e2,i,j,h3,h4,h5,h6,h7,h8,h9⟩:=q.map s p h;exact⟨e1,e2,i,j,h3,h4,h5,h6,h7,Nat.lt_of_lt_of_le h8 (hnx i),by show(((S.D.wr b all).bl i).pg j).st=2;rw [hpg i j h8];exact h9⟩
theorem AInv.nx_lt {k:Bool}(q:AInv S)(h:(S.cls k).opn k=some S2):(S2.D.bl (S2.sel k).toNat).nx<S2.D.P:=by
 have q1:=(q.cls k).1;have hP:=q1.geo.P;obtain⟨hiw,hD,hs0,-⟩:=q1.iw.opn h;by_cases hs:(S.cls k).sel k<0
 ·unfold Ap.opn at h;rw [if_pos hs]at h;split at h;·cases h
  ·rename_i hcold;rcases H6 (S.cls k).ps (S.cls k).pe 1 (S.cls k).D.nb with⟨h1,-⟩|⟨c,hc,h1,h2⟩;·rw [h1]at hcold;omega
   ·rw [hD];have e:S2.sel k=(c:Int):=by
     rw [h1]at h
     cases h;exact Df _ _ _
    rw [e,Int.toNat_natCast,q1.free c hc h2];omega
 ·have e2:S2=S.cls k:=by
   unfold Ap.opn at h;rw [if_neg hs]at h
   cases h;rfl
  subst e2;by_cases hc:0≤S.sel k∧(S.D.bl (S.sel k).toNat).nx=S.D.P;·have e:S.cls k=({S with ps:=upd S.ps (S.sel k).toNat 3}).put k (-1):=(by unfold Ap.cls;rw [if_pos hc]);rw [e,Df]at hs;omega
  ·have e:S.cls k=S:=(by unfold Ap.cls;rw [if_neg hc]);rw [e]at hs ⊢;obtain⟨g1,g2⟩:=(q.iw.wi k).sel (by omega);have:=q.nxP (S.sel k).toNat (by omega);have hne:(S.D.bl (S.sel k).toNat).nx≠S.D.P:=fun e=>hc ⟨by omega,e⟩;omega
theorem Aoe (S:Ap)(k:Bool):(S.cls k).D=S.D:=by unfold Ap.cls;split <;> cases k <;> rfl
include L X
def PwR (S S':Ap)(r:WO):Prop:=S'.down=true↔S.down=true∨r= .pow
omit L X
theorem PwR.rf (h:S'.down=S.down)(hr:r≠ .pow):PwR S S' r:=by unfold PwR;rw [h];exact(or_iff_left hr).symm
theorem PwR.tr {r':WO}(a:PwR S S1 r)(hr:r≠ .pow)(b:PwR S1 S' r'):PwR S S' r':=b.trans (or_congr (a.trans (or_iff_left hr)) .rfl)
theorem PwR.dn (a:PwR S S' r)(hr:r≠ .pow):S'.down=S.down:=Bool.eq_iff_iff.2 (a.trans (or_iff_left hr))
include L X
def PgB (all:List Nat)(p:Pg):Prop:=(p.st=2∨p.st=3)∧p.b=all
def PgT (all:List Nat)(p:Pg):Prop:=(p.st=2∨p.st=3)∧ ∃n,p.b=Po n all
def NewP (S S':Ap)(X:Nat→Nat→Pg→Prop):Prop:= ∀b j,b<S.D.nb→(S.D.bl b).nx≤j→j<(S'.D.bl b).nx→((S'.D.bl b).pg j).st=4∨X b j ((S'.D.bl b).pg j)
omit L X
theorem NewP.refl {X:Nat→Nat→Pg→Prop}(h:S'.D=S.D):NewP S S' X:=fun b j _ h1 h2=>by rw [h]at h2;omega
theorem NewP.wr {all:List Nat}{X:Nat→Nat→Pg→Prop}(h:S'.D=S.D.wr b all)(hx:(S.D.pgW all).st=4∨X b (S.D.bl b).nx (S.D.pgW all)):NewP S S' X:=fun i j _ h1 h2=>by
 rw [h]at h2 ⊢
 by_cases e:i=b
 ·subst e
  have e2:(S.D.wr i all).bl i=⟨upd (S.D.bl i).pg (S.D.bl i).nx (S.D.pgW all),(S.D.bl i).nx+1,(S.D.bl i).er⟩:=upd_eq _ _ _
  rw [e2]at h2 ⊢
  have h3:j<(S.D.bl i).nx+1:=h2
  have:j=(S.D.bl i).nx:=by omega
  subst this
  have e3:upd (S.D.bl i).pg (S.D.bl i).nx (S.D.pgW all) (S.D.bl i).nx=S.D.pgW all:=upd_eq _ _ _
  show(upd (S.D.bl i).pg (S.D.bl i).nx (S.D.pgW all) (S.D.bl i).nx).st=4∨X i _ (upd (S.D.bl i).pg (S.D.bl i).nx (S.D.pgW all) (S.D.bl i).nx)
  rw [e3];exact hx
 ·have e2:(S.D.wr b all).bl i=S.D.bl i:=upd_ne _ _ e
  rw [e2]at h2;omega
theorem AInv.w1 (q:AInv S)(k:Bool)(all:List Nat):AInv (S.w1 k all).1∧Keep S (S.w1 k all).1∧PwR S (S.w1 k all).1 (S.w1 k all).2∧ (∀p,(S.w1 k all).2= .done p→ ∃b j:Nat,p=b*S.D.P+j∧b<S.D.nb∧j<S.D.P∧(S.w1 k all).1.ps b=2∧(S.w1 k all).1.jr (b:Int)=k∧j<((S.w1 k all).1.D.bl b).nx∧((S.w1 k all).1.D.bl b).pg j=⟨2,all⟩∧(S.D.bl b).nx=j)∧ ∃n,NewP S (S.w1 k all).1 fun b j p=>n=b*S.D.P+j∧((S.w1 k all).2= .done n∧p=⟨2,all⟩∨(S.w1 k all).2= .pow∧PgT all p∧(S.w1 k all).1.jr ((b:Nat):Int)=k):=by
 obtain⟨q1,k1⟩:=q.cls k;have hiw:=(q.iw.w1 k all).1;have hn1:(S.cls k).D=S.D:=Aoe S k
 cases ho:(S.cls k).opn k with
 |none=>
  have e:S.w1 k all=(S.cls k,.full):=by unfold Ap.w1;rw [ho]
  rw [e];exact⟨q1,k1,.rf (q1.pw.symm.trans ((congrArg Dv.off hn1).trans q.pw)) (by simp),(fun p h=>by cases h),0,.refl hn1⟩
 |some S2=>
  obtain⟨q2,k2,hj2⟩:=q1.opn ho;have hx:=q.nx_lt ho;obtain⟨-,hD2,hs0,-⟩:=q1.iw.opn ho;obtain⟨g1,g2⟩:=(q2.iw.wi k).sel hs0;obtain⟨b,hb⟩:=Int.eq_ofNat_of_zero_le hs0;have hsame:S2.D=S.D:=hD2.trans hn1;rw [hb,Int.toNat_natCast]at hx g2;rw [hb]at hj2;have hbn:b<S2.D.nb:=by omega
  have f1:=Dv.prog_ok (all:=all) hbn hx;have kk:Keep S S2:=k1.trans k2 (by rw [hn1]);have hdn:S2.down=S.down:=q2.pw.symm.trans ((congrArg Dv.off hsame).trans q.pw);by_cases hof:S2.D.off=true;·rw [if_pos hof]at f1;have e:S.w1 k all=({S2 with down:=true},.pow):=(by unfold Ap.w1;rw [ho];simp only [hb,f1];rfl);rw [e];exact⟨⟨q2.geo,hof,q2.n0,⟨fun k=>⟨(q2.iw.wi k).sel,(q2.iw.wi k).lo⟩,q2.iw.ne⟩,q2.nxP,q2.op2,q2.free,q2.jr,q2.jlog,q2.jdat,q2.map,q2.inj⟩,⟨kk.nx,kk.pg,kk.ps3,kk.psm,kk.jrm,kk.n1,kk.nt⟩,⟨fun _=> .inr rfl,fun _=>rfl⟩,(fun p h=>by cases h),0,.refl hsame⟩
  rw [if_neg hof]at f1;by_cases hc:(S2.D.n:Int)=S2.D.cut
  ·rw [if_pos hc]at f1;have e:S.w1 k all=({S2 with D:=S2.D.wr b all,down:=true},.pow):=(by unfold Ap.w1;rw [ho];simp only [hb,f1];rfl);obtain⟨q3,k3⟩:=q2.wr (all:=all) hbn g2 hx S2.su true (by show(S2.D.off || decide _)=true;rw [decide_eq_true hc,Bool.or_true]);rw [e];refine⟨q3,kk.trans k3 (by rw [hsame]),⟨fun _=> .inr rfl,fun _=>rfl⟩,(fun p h=>by cases h),_,.wr (b:=b) (all:=all) (by rw [←hsame]) (.inr ⟨rfl,.inr ⟨rfl,?_,hj2⟩⟩)⟩;rw [←hsame];unfold Dv.pgW PgT;rw [if_pos hc];refine⟨?_,_,rfl⟩;show(if _ then 2 else 3)=2∨(if _ then 2 else 3)=3;split;·exact .inl rfl
   ·exact .inr rfl
  rw [if_neg hc]at f1;have hwo:(S2.D.wr b all).off=S2.down:=by show(S2.D.off || decide _)=_;rw [decide_eq_false hc,Bool.or_false];exact q2.pw
  have hpw:S.D.pgW all=if S2.D.flt S2.D.n=true then⟨4,[]⟩else⟨2,all⟩:=by rw [←hsame];unfold Dv.pgW;rw [if_neg hc]
  by_cases hfl:S2.D.flt S2.D.n=true;·rw [if_pos hfl]at f1 hpw;have e:S.w1 k all=(({S2 with D:=S2.D.wr b all,su:=Bh S2.su (b:Int) true,ps:=upd S2.ps b 3}:Ap).put k (-1),.again):=(by unfold Ap.w1;rw [ho];simp only [hb,f1,Int.toNat_natCast];rfl);obtain⟨q3,k3⟩:=q2.wr (all:=all) hbn g2 hx (Bh S2.su (b:Int) true) S2.down hwo;have hse:({S2 with D:=S2.D.wr b all,su:=Bh S2.su (b:Int) true,down:=S2.down}:Ap).sel k=(b:Int):=(by cases k <;> exact hb);rw [e]at hiw ⊢;have hcl:=q3.close (k:=k) (by rw [hse];omega);rw [hse,Int.toNat_natCast]at hcl;obtain⟨q4,k4⟩:=hcl hiw;exact⟨q4,(kk.trans k3 (by rw [hsame])).trans k4 (by show S2.D.nb=S.D.nb;rw [hsame]),.rf (by cases k <;> exact hdn) (by simp),(fun p h=>by cases h),0,.wr (b:=b) (all:=all) (by rw [←hsame];cases k <;> rfl) (.inl (by rw [hpw]))⟩
  ·rw [if_neg hfl]at f1 hpw;have e:S.w1 k all=({S2 with D:=S2.D.wr b all},.done (b*S2.D.P+(S2.D.bl b).nx)):=(by unfold Ap.w1;rw [ho];simp only [hb,f1,Int.toNat_natCast];rfl);obtain⟨q3,k3⟩:=q2.wr (all:=all) hbn g2 hx S2.su S2.down hwo;rw [e];refine⟨q3,kk.trans k3 (by rw [hsame]),.rf hdn (by simp),fun p h=>?_,_,.wr (b:=b) (all:=all) (by rw [←hsame]) (.inr ⟨rfl,.inl ⟨by rw [←hsame],hpw⟩⟩)⟩
   cases h;refine⟨b,(S2.D.bl b).nx,by rw [←hsame],by rw [←hsame];exact hbn,by rw [←hsame];exact hx,g2,hj2,?_,?_,by rw [hsame]⟩;·show(S2.D.bl b).nx<((upd S2.D.bl b ⟨upd (S2.D.bl b).pg (S2.D.bl b).nx (S2.D.pgW all),(S2.D.bl b).nx+1,(S2.D.bl b).er⟩) b).nx;rw [upd_eq];exact Nat.lt_succ_self _
   ·show((upd S2.D.bl b ⟨upd (S2.D.bl b).pg (S2.D.bl b).nx (S2.D.pgW all),(S2.D.bl b).nx+1,(S2.D.bl b).er⟩) b).pg (S2.D.bl b).nx=_;rw [upd_eq];show upd (S2.D.bl b).pg (S2.D.bl b).nx (S2.D.pgW all) (S2.D.bl b).nx=_;rw [upd_eq,hsame];exact hpw
theorem WrP.inv {k:Bool}{all:List Nat}(h:WrP k all S S' r)(q:AInv S):AInv S'∧Keep S S'∧PwR S S' r∧ (∀p,r= .done p→ ∃b j:Nat,p=b*S.D.P+j∧b<S.D.nb∧j<S.D.P∧S'.ps b=2∧S'.jr (b:Int)=k∧j<(S'.D.bl b).nx∧(S'.D.bl b).pg j=⟨2,all⟩∧(S.D.bl b).nx≤j):=by
 induction h with
 |stop h=>obtain⟨a,b,c,e,-⟩:=q.w1 k all;exact⟨a,b,c,fun p hp=>let⟨b,j,e1,e2,e3,e4,e5,e6,e7,e8⟩:=e p hp;⟨b,j,e1,e2,e3,e4,e5,e6,e7,by omega⟩⟩
 | @more S S' r h _ ih=>obtain⟨a,b,c,e,-⟩:=q.w1 k all;obtain⟨a',b',c',e'⟩:=ih a;have f:=dg S k all;refine⟨a',b.trans b' f.nb,c.tr (by rw [h];simp) c',fun p hp=>?_⟩;obtain⟨i,j,e1,e2,e3,e4,e5,e6,e7,e8⟩:=e' p hp;rw [f.nb]at e2;rw [f.P]at e1 e3;exact⟨i,j,e1,e2,e3,e4,e5,e6,e7,Nat.le_trans (b.nx i e2) e8⟩
theorem AInv.nw (q:AInv S)(n l:Nat)(w:Int→Option Nat)(h0:1≤n):AInv {S with next:=n,last:=l,wr:=w}:= ⟨q.geo,q.pw,h0,⟨fun k=>⟨(q.iw.wi k).sel,(q.iw.wi k).lo⟩,q.iw.ne⟩,q.nxP,q.op2,q.free,q.jr,q.jlog,q.jdat,q.map,q.inj⟩
theorem StP.inv (h:StP sec data S S' o)(q:AInv S):AInv S'∧Keep S S'∧PwR S S' o∧ (∀p,o= .done p→ ∃b j:Nat,p=b*S.D.P+j∧b<S.D.nb∧j<S.D.P∧S'.ps b=2∧S'.jr (b:Int)=false∧j<(S'.D.bl b).nx∧(S'.D.bl b).pg j=⟨2,data++Au (spD sec S.next) data⟩∧(S.D.bl b).nx≤j):=by
 have q1:AInv {S with next:=S.next+1}:=q.nw (S.next+1) S.last S.wr (Nat.succ_pos _)
 cases h with
 |ok h=>obtain⟨a,b,c,e⟩:=h.inv q1;refine⟨a.nw _ _ _ a.n0,⟨b.nx,b.pg,b.ps3,b.psm,b.jrm,b.n1,Nat.le_of_succ_le b.nt⟩,c,e⟩
 |bad h hr=>obtain⟨a,b,c,e⟩:=h.inv q1;exact⟨a,⟨b.nx,b.pg,b.ps3,b.psm,b.jrm,b.n1,Nat.le_of_succ_le b.nt⟩,c,e⟩
include L X
omit L X in
structure PgOk (S:Ap)(sec:Int)(data:List Nat)(p:Int):Prop where
 ex: ∃b j n:Nat,p=((b*S.D.P+j:Nat):Int)∧b<S.D.nb∧j<S.D.P∧(S.ps b=2∨S.ps b=3)∧S.jr (b:Int)=false∧j<(S.D.bl b).nx∧(S.D.bl b).pg j=⟨2,data++Au (spD sec n) data⟩∧1≤n∧n<S.next
omit L X in
theorem PgOk.keep {p:Int}(q:PgOk S sec data p)(k:Keep S S')(hP:S'.D.P=S.D.P)(hnb:S'.D.nb=S.D.nb):PgOk S' sec data p:=by obtain⟨b,j,n,h1,h2,h3,h4,h5,h6,h7,h8,h9⟩:=q.ex;exact⟨b,j,n,by rw [hP];exact h1,by rw [hnb];exact h2,by rw [hP];exact h3,k.psm b h2 h4,by rw [k.jrm b h2 (by omega)];exact h5,Nat.lt_of_lt_of_le h6 (k.nx b h2),by rw [k.pg b j h2 h6];exact h7,h8,Nat.lt_of_lt_of_le h9 k.nt⟩
omit L X in
theorem StP.pg {p:Nat}(h:StP sec data S S' (.done p))(q:AInv S):PgOk S' sec data (p:Int)∧(∃b j:Nat,p=b*S.D.P+j∧b<S.D.nb∧j<S.D.P∧(S.D.bl b).nx≤j):=by obtain⟨f,-,-,fn⟩:=h.fr q.iw;obtain⟨a,b,c,e⟩:=h.inv q;obtain⟨i,j,e1,e2,e3,e4,e5,e6,e7,e8⟩:=e p rfl;exact⟨⟨i,j,S.next,by rw [f.P,e1],by rw [f.nb];exact e2,by rw [f.P];exact e3,.inl e4,e5,e6,e7,q.n0,by omega⟩,i,j,e1,e2,e3,e8⟩
end
theorem Adj (h:p:=by
 obtain⟨⟨x,hx,e1⟩,e2⟩:=ih q e he
 exact⟨⟨x,List.mem_cons_of_mem _ hx,e1⟩,e2⟩):p:=h
section
variable (L:Lg P0 E F K)(X:Fx F K)
include L X
omit L X in
theorem AppP.inv {l:List (Int×Option (List Nat))}{es:List Ent}(h:AppP l S es S' o)(q:AInv S):AInv S'∧Keep S S'∧FrS S S'∧PwR S S' o:=by
 induction h with
 |nil=>exact⟨q,.refl _,.refl _,.rf rfl (by simp)⟩
 |put h _ ih=>obtain⟨a,b,c,-⟩:=h.inv q;have f:=(h.fr q.iw).1;obtain⟨a',b',c',d'⟩:=ih a;exact⟨a',b.trans b' f.nb,f.trans c',c.tr (by simp) d'⟩
 |bad h ho=>obtain⟨a,b,c,-⟩:=h.inv q;exact⟨a,b,(h.fr q.iw).1,c⟩
 |trim _ _ ih=>exact ih q
 |skip _ _ ih=>exact ih q
omit L X in
theorem AppP.es {l:List (Int×Option (List Nat))}{S S':Ap}{es:List Ent}{o:WO}(h:AppP l S es S' o)(q:AInv S): ∀e∈es,(∃x∈l,x.1=e.1)∧(e.2= -1∨ ∃b j:Nat,e.2=((b*S.D.P+j:Nat):Int)∧b<S.D.nb∧j<S.D.P∧(S.D.bl b).nx≤j):=by
 induction h with
 |nil=>intro e he;cases he
 |put h _ ih=>
  intro e he;obtain⟨a,b,-⟩:=h.inv q;have f:=(h.fr q.iw).1;rcases List.mem_cons.1 he with rfl|he;·obtain⟨-,i,j,e1,e2,e3,e4⟩:=h.pg q;exact⟨⟨_,List.mem_cons_self ..,rfl⟩,.inr ⟨i,j,by rw [e1],e2,e3,e4⟩⟩
  ·obtain⟨⟨x,hx,e1⟩,e2⟩:=ih a e he;refine⟨⟨x,List.mem_cons_of_mem _ hx,e1⟩,?_⟩;rcases e2 with e2|⟨i,j,g1,g2,g3,g4⟩;·exact .inl e2
   ·rw [f.nb]at g2;rw [f.P]at g1 g3;exact .inr ⟨i,j,g1,g2,g3,Nat.le_trans (b.nx i g2) g4⟩
 |bad h ho=>intro e he;cases he
 |trim _ _ ih=>
  intro e he;rcases List.mem_cons.1 he with rfl|he;·exact⟨⟨_,List.mem_cons_self ..,rfl⟩,.inl rfl⟩
  ·exact Adj
 |skip _ _ ih=>intro e he;exact Adj
end
theorem Adk (h:p:=by
 rcases Gx i s p h with h|⟨j,e,h1,h2⟩
 ·exact .inl h
 ·exact .inr ⟨j,e,by omega,h2⟩):p:=h
section
variable (L:Lg P0 E F K)(X:Fx F K)
include L X
omit L X
theorem Hm {b' j':Nat}(hj:j<P)(hj':j'<P)(h:b*P+j=b'*P+j'):b=b'∧j=j':=by
 rcases Nat.lt_trichotomy b b' with q|q|q;·have:=Nat.mul_le_mul_right P (show b+1≤b' from q);rw [Nat.succ_mul]at this;omega
 ·subst q;exact⟨rfl,by omega⟩
 ·have:=Nat.mul_le_mul_right P (show b'+1≤b from q);rw [Nat.succ_mul]at this;omega
theorem AppP.nd {l:List (Int×Option (List Nat))}{es:List Ent}(h:AppP l S es S' o)(q:AInv S):es.Pairwise fun x y=>0≤x.2→x.2≠y.2:=by
 induction h with
 |nil=>exact .nil
 | @put sec data l S S1 S' p es o h r ih=>
  obtain⟨a,b,c,e⟩:=h.inv q;have f:=(h.fr q.iw).1;obtain⟨i,j,e1,e2,e3,-,-,e6,-,-⟩:=e p rfl;refine .cons (fun y hy _ e=>?_) (ih a);have e:(p:Int)=y.2:=e;rcases(r.es a y hy).2 with g|⟨i',j',g1,g2,g3,g4⟩;·omega
  ·rw [f.P]at g1 g3;obtain⟨rfl,rfl⟩:=Hm e3 g3 (show i*S.D.P+j=i'*S.D.P+j' by omega);omega
 |bad h ho=>exact .nil
 |trim _ _ ih=>exact .cons (fun y hy h _=>by simp only at h;omega) (ih q)
 |skip _ _ ih=>exact ih q
theorem Gx {A:Int→Option Int}{l:List Ent}: ∀i s p,stA A l i s=some p→A s=some p∨ ∃j e,j<i∧l[j]?=some e∧e.1=s∧e.2=p∧0≤p
 |0,s,p,h=> .inl h
 |i+1,s,p,h=>by
  cases hx:l[i]? with
  |none=>have:stA A l (i+1)=stA A l i:=(by unfold stA;rw [List.take_add_one,hx];simp);rw [this]at h;exact Adk
  |some x=>
   rw [Rw hx]at h;unfold C0 at h;by_cases e1:s=x.1
   ·rw [if_pos e1]at h;by_cases e2:0≤x.2;·rw [if_pos e2]at h;cases h;exact .inr ⟨i,x,by omega,hx,e1.symm,rfl,e2⟩
    ·rw [if_neg e2]at h;cases h
   ·rw [if_neg e1]at h;exact Adk
theorem AppP.ok {l:List (Int×Option (List Nat))}{S S':Ap}{es:List Ent}{o:WO}(h:AppP l S es S' o)(q:AInv S)(hr: ∀y∈l,0≤y.1∧y.1<(S.S:Int)): ∀j x,es[j]?=some x→okE S.S (S.D.nb*S.D.P) (stA S.A es j) x:=by
 intro j x hx;have hm:=List.mem_of_getElem? hx;obtain⟨⟨y,hy,hy1⟩,hp⟩:=h.es q x hm;have hrg:=hr y hy;rw [hy1]at hrg;have hnd:=h.nd q;refine⟨⟨hrg.1,hrg.2,?_,?_⟩,?_⟩;·rcases hp with e|⟨b,k,e,-⟩ <;> omega
 ·rcases hp with e|⟨b,k,e,hb,hk,-⟩;·rw [e];omega
  ·rw [e];have:=Nat.mul_le_mul_right S.D.P (show b+1≤S.D.nb from hb);rw [Nat.succ_mul]at this;omega
 ·rintro⟨s,hs,hne⟩;rcases Gx j s x.2 hs with h1|⟨j',e,h1,h2,h3,h4,h5⟩
  ·obtain⟨-,-,i,m,g1,g2,g3,g4,g5,g6,-⟩:=q.map s x.2 h1;rcases hp with e|⟨b,k,e,hb,hk,hk2⟩;·omega
   ·obtain⟨rfl,rfl⟩:=Hm g3 hk (show i*S.D.P+m=b*S.D.P+k by omega);omega
  ·obtain⟨l1,l2⟩:=List.getElem?_eq_some_iff.1 h2;obtain⟨l3,l4⟩:=List.getElem?_eq_some_iff.1 hx;have:=List.pairwise_iff_getElem.1 hnd j' j l1 l3 h1;rw [l2,l4]at this;exact this (by omega) h4
theorem RlP.inv {sz:Nat}{l:List JPg}(h:RlP sz l S S' o)(q:AInv S):AInv S'∧Keep S S'∧PwR S S' o:=by
 induction h with
 |nil=>exact⟨q,.refl _,.rf rfl (by simp)⟩
 |cons h _ ih=>obtain⟨a,b,c,-⟩:=h.inv q;have f:=h.fr;obtain⟨a',b',c'⟩:=ih a;exact⟨a',b.trans b' f.nb,c.tr (by simp) c'⟩
 |bad h ho=>obtain⟨a,b,c,-⟩:=h.inv q;exact⟨a,b,c⟩
theorem RcP.inv {es:List Ent}(h:RcP k es S S' o)(q:AInv S):AInv S'∧Keep S S'∧PwR S S' o:=by
 have q1:AInv {S with next:=S.next+recN S es}:=q.nw (S.next+recN S es) S.last S.wr (Nat.le_trans q.n0 (Nat.le_add_right _ _))
 cases h with
 |ok h=>obtain⟨a,b,c⟩:=h.inv q1;exact⟨a.nw _ _ _ a.n0,⟨b.nx,b.pg,b.ps3,b.psm,b.jrm,b.n1,Nat.le_trans (Nat.le_add_right _ _) b.nt⟩,c⟩
 |bad h _=>obtain⟨a,b,c⟩:=h.inv q1;exact⟨a,⟨b.nx,b.pg,b.ps3,b.psm,b.jrm,b.n1,Nat.le_trans (Nat.le_add_right _ _) b.nt⟩,c⟩
end
theorem Aof (h:p:=by
 refine⟨fun s p h=>?_,q.inj⟩
 obtain⟨h1,h2,b,j,h3,h4,h5,-⟩:=q.map s p h
 refine⟨h1,h2,by omega,?_⟩
 have:=Nat.mul_le_mul_right S.D.P (show b+1≤S.D.nb from h4)
 rw [Nat.succ_mul]at this
 omega):p:=h
section
variable (L:Lg P0 E F K)(X:Fx F K)
include L X
omit L X
theorem AInv.app {es:List Ent}(q:AInv S)(ok: ∀j x,es[j]?=some x→okE S.S (S.D.nb*S.D.P) (stA S.A es j) x) (hp: ∀e∈es,0≤e.2→ ∃data,PgOk S e.1 data e.2):AInv {S with A:=stA S.A es es.length}:=by
 have hinv:InvA S.S (S.D.nb*S.D.P) S.A:=by exact Aof
 have hinv2:=hinv.st es.length (Nat.le_refl _) fun j x _ hx=>ok j x hx;refine⟨q.geo,q.pw,q.n0,⟨fun k=>⟨(q.iw.wi k).sel,(q.iw.wi k).lo⟩,q.iw.ne⟩,q.nxP,q.op2,q.free,q.jr,q.jlog,q.jdat,fun s p h=>?_,hinv2.inj⟩;obtain⟨h1,h2,-,-⟩:=hinv2.rg s p h;refine⟨h1,h2,?_⟩;rcases Gx es.length s p h with g|⟨j,e,g1,g2,g3,g4,g5⟩
 ·exact(q.map s p g).2.2
 ·obtain⟨data,hd⟩:=hp e (List.mem_of_getElem? g2) (by omega);obtain⟨b,i,n,f1,f2,f3,f4,f5,f6,f7,-⟩:=hd.ex;exact⟨b,i,by rw [←g4];exact f1,f2,f3,f4,f5,f6,by rw [f7]⟩
theorem AppP.pg {l:List (Int×Option (List Nat))}{es:List Ent}(h:AppP l S es S' o)(q:AInv S): ∀e∈es,0≤e.2→ ∃data,(e.1,some data)∈l∧PgOk S' e.1 data e.2:=by
 induction h with
 |nil=>intro e he;cases he
 | @put sec data l S S1 S' p es o h r ih=>
  obtain⟨a,b,-⟩:=h.inv q;obtain⟨-,k',f',-⟩:=r.inv a;intro e he h0;rcases List.mem_cons.1 he with rfl|he;·obtain⟨g,-⟩:=h.pg q;exact⟨data,List.mem_cons_self ..,g.keep k' f'.P f'.nb⟩
  ·obtain⟨d,h1,h2⟩:=ih a e he h0;exact⟨d,List.mem_cons_of_mem _ h1,h2⟩
 |bad h ho=>intro e he;cases he
 |trim _ _ ih=>
  intro e he h0;rcases List.mem_cons.1 he with rfl|he;·simp only at h0;omega
  ·obtain⟨d,h1,h2⟩:=ih q e he h0;exact⟨d,List.mem_cons_of_mem _ h1,h2⟩
 |skip _ _ ih=>intro e he h0;obtain⟨d,h1,h2⟩:=ih q e he h0;exact⟨d,List.mem_cons_of_mem _ h1,h2⟩
theorem CmP.inv {es:List Ent}(h:CmP es S S' o)(q:AInv S)(ok: ∀j x,es[j]?=some x→okE S.S (S.D.nb*S.D.P) (stA S.A es j) x)(hp: ∀e∈es,0≤e.2→ ∃data,PgOk S e.1 data e.2): AInv S'∧Keep S S'∧PwR S S' o∧(o≠ .done 0→S'.A=S.A)∧(o= .done 0→S'.A=stA S.A es es.length):=by
 cases h with
 |nil h=>subst h;exact⟨q,.refl _,.rf rfl (by simp),(fun _=>rfl),fun _=>rfl⟩
 |ok h hn=>
  obtain⟨a,b,c⟩:=h.inv q;obtain⟨f,-⟩:=h.fr q.iw;have e:=f.A;refine⟨a.app (es:=es) ?_ fun x hx h0=>?_,⟨b.nx,b.pg,b.ps3,b.psm,b.jrm,b.n1,b.nt⟩,c,(fun h=>absurd rfl h),fun _=>by show stA _ _ _=_;rw [e]⟩;·rw [f.secs,f.nb,f.P,e];exact ok
  ·obtain⟨data,hd⟩:=hp x hx h0;exact⟨data,hd.keep b f.P f.nb⟩
 |bad h ho=>obtain⟨a,b,c⟩:=h.inv q;obtain⟨f,-⟩:=h.fr q.iw;exact⟨a,b,c,fun _=>f.A,fun hr=>by rcases ho with e|e <;> rw [e]at hr <;> cases hr⟩
theorem ApdP.inv {l:List (Int×Option (List Nat))}(h:ApdP l S S' o)(q:AInv S)(hr: ∀y∈l,0≤y.1∧y.1<(S.S:Int)): AInv S'∧Keep S S'∧PwR S S' o∧(o≠ .done 0→S'.A=S.A)∧ (o= .done 0→ ∃es S1,AppP l S es S1 (.done 0)∧S'.A=stA S.A es es.length∧ ∀e∈es,0≤e.2→ ∃data,(e.1,some data)∈l∧PgOk S' e.1 data e.2):=by
 have key: ∀{es:List Ent} {S1 S2:Ap} {o:WO},AppP l S es S1 (.done 0)→CmP es S1 S2 o→AInv S2∧Keep S S2∧PwR S S2 o∧(o≠ .done 0→S2.A=S.A)∧
   (o= .done 0→S2.A=stA S.A es es.length∧ ∀e∈es,0≤e.2→ ∃data,(e.1,some data)∈l∧PgOk S2 e.1 data e.2):=by
  intro es S1 S2 o a c
  obtain⟨q1,k1,f1,d1⟩:=a.inv q
  have hp:=a.pg q
  obtain⟨q2,k2,h2,h3,h4⟩:=c.inv q1 (by rw [f1.secs,f1.nb,f1.P,f1.A];exact a.ok q hr) fun e he h0=>let⟨d,_,h⟩:=hp e he h0;⟨d,h⟩
  obtain⟨⟨g1,g2,-⟩,-⟩:=c.fr q1.iw
  refine⟨q2,k1.trans k2 f1.nb,d1.tr (by simp) h2,fun ho=>(h3 ho).trans f1.A,fun ho=>⟨by rw [h4 ho,f1.A],fun e he h0=>?_⟩⟩
  obtain⟨d,e1,e2⟩:=hp e he h0
  exact⟨d,e1,e2.keep k2 g2 g1⟩
 cases h with
 |ok a c=>obtain⟨h1,h2,h3,h4,h5⟩:=key a c;exact⟨h1,h2,h3,h4,fun ho=>⟨_,_,a,(h5 ho).1,(h5 ho).2⟩⟩
 |bad a ho=>obtain⟨q1,k1,f1,h4⟩:=a.inv q;exact⟨q1,k1,h4,fun _=>f1.A,fun hr=>by rcases ho with e|e <;> rw [e]at hr <;> cases hr⟩
 |bad2 a c ho=>obtain⟨h1,h2,h3,h4,h5⟩:=key a c;exact⟨h1,h2,h3,h4,fun hr=>by rcases ho with e|e <;> rw [e]at hr <;> cases hr⟩
theorem Pj (hj:j<P):(b*P+j) / P=b∧(b*P+j) % P=j:=by rw [Nat.add_comm];exact⟨by rw [Nat.add_mul_div_right _ _ (by omega),Nat.div_eq_of_lt hj,Nat.zero_add],by rw [Nat.add_mul_mod_self_right,Nat.mod_eq_of_lt hj]⟩
theorem PgOk.rd {p:Int}(q:PgOk S s data p)(h:S.A s=some p)(hd:data.length=S.D.sz):S.rd s=data:=by obtain⟨b,j,n,h1,h2,h3,h4,h5,h6,h7,-⟩:=q.ex;obtain⟨g1,g2⟩:=Pj (b:=b) h3;unfold Ap.rd;rw [h];simp only [h1,Int.toNat_natCast,g1,g2,h7];rw [←hd,List.take_left'];rfl
theorem F9 (q:AInv S)(k:Keep S S')(g:S'.D.P=S.D.P∧S'.D.sz=S.D.sz)(h:S'.A s=S.A s):S'.rd s=S.rd s:=by
 unfold Ap.rd;rw [h,g.1,g.2]
 cases hs:S.A s with
 |none=>rfl
 |some p=>obtain⟨-,-,b,j,h1,h2,h3,h4,h5,h6,h7⟩:=q.map s p hs;obtain⟨g1,g2⟩:=Pj (b:=b) h3;simp only [h1,Int.toNat_natCast,g1,g2];rw [k.pg b j h2 h6]
theorem AInv.rdOk (q:AInv S): ∀p:Int,S.A s=some p→p.toNat / S.D.P<S.D.nb∧p.toNat % S.D.P<(S.D.bl (p.toNat / S.D.P)).nx∧(((S.D.bl (p.toNat / S.D.P)).pg (p.toNat % S.D.P)).st=2∨((S.D.bl (p.toNat / S.D.P)).pg (p.toNat % S.D.P)).st=3):=by intro p hp;obtain⟨-,-,b,j,h1,h2,h3,h4,h5,h6,h7⟩:=q.map s p hp;obtain⟨g1,g2⟩:=Pj (b:=b) h3;rw [h1,Int.toNat_natCast,g1,g2];exact⟨h2,h6,.inl h7⟩
theorem AInv.ers (q:AInv S)(hb:b<S.D.nb)(h3:S.ps b=3)(hm: ∀s p,S.A s=some p→ ∀j:Nat,j<S.D.P→p≠((b*S.D.P+j:Nat):Int))(hj:S.jr (b:Int)=false∨(S.ers b).2= .pow): AInv (S.ers b).1∧((S.ers b).2= .done 0∨(S.ers b).2= .pow)∧PwR S (S.ers b).1 (S.ers b).2:=by
 have nb2:(b:Int)≠S.dat∨S.dat<0:=by
  by_cases h:0≤S.dat;·obtain⟨g1,g2⟩:=(q.iw.wi false).sel h;have g2':S.ps S.dat.toNat=2:=g2;exact .inl fun e=>by rw [←e,Int.toNat_natCast]at g2';omega
  ·exact .inr (by omega)
 have nb3:(b:Int)≠S.log∨S.log<0:=by
  by_cases h:0≤S.log;·obtain⟨g1,g2⟩:=(q.iw.wi true).sel h;have g2':S.ps S.log.toNat=2:=g2;exact .inl fun e=>by rw [←e,Int.toNat_natCast]at g2';omega
  ·exact .inr (by omega)
 have key: ∀(D':Dv) (su:Int→Bool) (wr:Int→Option Nat) (v:Nat) (pe:Nat→Nat) (dn:Bool),D'.nb=S.D.nb→D'.P=S.D.P→D'.sz=S.D.sz→D'.en=S.D.en→D'.off=dn→(v=3∨S.jr (b:Int)=false)→(∀i,i≠b→D'.bl i=S.D.bl i)→(D'.bl b).nx≤S.D.P→v≠2→(v=1→(D'.bl b).nx=0)→
   AInv {S with D:=D',su:=su,wr:=wr,ps:=upd S.ps b v,pe:=pe,down:=dn}:=by
  intro D' su wr v pe dn h1 h2 h3' h4 h5 h6 h7 h8 h9 h10
  have ps: ∀i,S.ps i=2→upd S.ps b v i=2:=fun i h=>by rw [upd_ne _ _ (fun e=>by subst e;omega)];exact h
  refine⟨⟨by show 2≤D'.nb∧D'.nb≤12;rw [h1];exact q.geo.nb,by show 2≤D'.P∧D'.P≤6;rw [h2];exact q.geo.P,by show 12≤D'.sz∧D'.sz≤30;rw [h3'];exact q.geo.sz,by show 1≤D'.en∧D'.en≤1000;rw [h4];exact q.geo.en⟩,h5,q.n0,⟨fun k=>⟨fun h=>?_,(q.iw.wi k).lo⟩,q.iw.ne⟩,fun i hi=>?_,fun i hi h=>?_,fun i hi h=>?_,fun y hy=>?_,q.jlog,q.jdat,fun s p h=>?_,q.inj⟩
  ·obtain⟨g1,g2⟩:=(q.iw.wi k).sel h
   exact⟨by show S.sel k<(D'.nb:Int);rw [h1];exact g1,ps _ g2⟩
  ·show(D'.bl i).nx≤D'.P
   have hi':i<D'.nb:=hi
   rw [h2]
   by_cases e:i=b
   ·subst e;exact h8
   ·rw [h7 i e];exact q.nxP i (by omega)
  ·have hi':i<D'.nb:=hi
   have h':upd S.ps b v i=2:=h
   by_cases e:i=b
   ·subst e;rw [upd_eq]at h';exact absurd h' h9
   ·rw [upd_ne _ _ e]at h';exact q.op2 i (by omega) h'
  ·have hi':i<D'.nb:=hi
   have h':upd S.ps b v i=1:=h
   show(D'.bl i).nx=0
   by_cases e:i=b
   ·subst e;rw [upd_eq]at h';exact h10 h'
   ·rw [upd_ne _ _ e]at h';rw [h7 i e];exact q.free i (by omega) h'
  ·obtain⟨i,e1,e2,e3⟩:=q.jr y hy
   refine⟨i,e1,by show i<D'.nb;rw [h1];exact e2,?_⟩
   show upd S.ps b v i=3∨upd S.ps b v i=2∧_
   by_cases hib:i=b
   ·subst hib
    rcases h6 with h6|h6
    ·exact .inl (by rw [upd_eq];exact h6)
    ·have hy':S.jr y=true:=hy;rw [e1,h6]at hy';cases hy'
   ·rw [upd_ne _ _ hib];exact e3
  ·obtain⟨e1,e2,i,j,g1,g2,g3,g4,g5,g6,g7⟩:=q.map s p h
   have hib:i≠b:=fun e=>by subst e;exact hm s p h j g3 g1
   refine⟨e1,e2,i,j,by show p=((i*D'.P+j:Nat):Int);rw [h2];exact g1,by show i<D'.nb;rw [h1];exact g2,by show j<D'.P;rw [h2];exact g3,?_,g5,by show j<(D'.bl i).nx;rw [h7 i hib];exact g6,by show((D'.bl i).pg j).st=2;rw [h7 i hib];exact g7⟩
   show upd S.ps b v i=2∨upd S.ps b v i=3
   rw [upd_ne _ _ hib];exact g4
 have hu:upd S.ps b 3=S.ps:=funext fun i=>by
  by_cases e:i=b;·subst e;rw [upd_eq,h3]
  ·exact upd_ne _ _ e
 have hj':(S.ers b).2≠ .pow→S.jr (b:Int)=false:=fun h=>hj.resolve_right h;unfold Ap.ers at hj' ⊢;by_cases hs:S.su (b:Int)=true;·rw [if_pos hs]at hj' ⊢;exact⟨key S.D _ S.wr 4 S.pe S.down rfl rfl rfl rfl q.pw (.inr (hj' (by simp))) (fun _ _=>rfl) (q.nxP b hb) (by omega) (fun h=>by cases h),.inl rfl,.rf rfl (by simp)⟩
 ·rw [if_neg hs]at hj' ⊢;have he:S.D.erase (b:Int)=if S.D.off=true then(S.D,50)else if S.D.en≤(S.D.bl b).er then(S.D,56)else if(S.D.n:Int)=S.D.cut then({S.D with bl:=upd S.D.bl b ⟨Dd 5,S.D.P,(S.D.bl b).er+1⟩,n:=S.D.n+1,off:=true},50)else if S.D.flt S.D.n=true then({S.D with bl:=upd S.D.bl b ⟨Dd 5,S.D.P,(S.D.bl b).er+1⟩,n:=S.D.n+1},55)else({S.D with bl:=upd S.D.bl b ⟨Dd 1,0,(S.D.bl b).er+1⟩,n:=S.D.n+1},0):=by unfold Dv.erase;rw [if_pos ⟨by omega,by omega⟩];simp only [Int.toNat_natCast]
  rw [he]at hj' ⊢;have p5:(upd S.D.bl b ⟨Dd 5,S.D.P,(S.D.bl b).er+1⟩ b).nx≤S.D.P:=by rw [upd_eq];exact Nat.le_refl _
  by_cases c0:S.D.off=true;·simp only [if_pos c0];have:=key S.D S.su S.wr 3 S.pe true rfl rfl rfl rfl c0 (.inl rfl) (fun _ _=>rfl) (q.nxP b hb) (by omega) (fun h=>by cases h);rw [hu]at this;exact⟨this,.inr rfl,fun _=> .inr rfl,fun _=>rfl⟩
  have hpw:S.down=false:=by rw [←q.pw];exact Bool.eq_false_iff.2 c0
  by_cases c1:S.D.en≤(S.D.bl b).er;·simp only [if_neg c0,if_pos c1]at hj' ⊢;exact⟨key S.D S.su _ 4 S.pe S.down rfl rfl rfl rfl q.pw (.inr (hj' (by simp))) (fun _ _=>rfl) (q.nxP b hb) (by omega) (fun h=>by cases h),.inl rfl,.rf rfl (by simp)⟩
  by_cases c3:(S.D.n:Int)=S.D.cut;·simp only [if_neg c0,if_neg c1,if_pos c3];have:=key {S.D with bl:=upd S.D.bl b ⟨Dd 5,S.D.P,(S.D.bl b).er+1⟩,n:=S.D.n+1,off:=true} S.su S.wr 3 S.pe true rfl rfl rfl rfl rfl (.inl rfl) (fun i h=>upd_ne _ _ h) p5 (by omega) (fun h=>by cases h);rw [hu]at this;exact⟨this,.inr rfl,fun _=> .inr rfl,fun _=>rfl⟩
  ·by_cases c2:S.D.flt S.D.n=true;·simp only [if_neg c0,if_neg c1,if_neg c3,if_pos c2]at hj' ⊢;exact⟨key {S.D with bl:=upd S.D.bl b ⟨Dd 5,S.D.P,(S.D.bl b).er+1⟩,n:=S.D.n+1} S.su _ 4 S.pe S.down rfl rfl rfl rfl q.pw (.inr (hj' (by simp))) (fun i h=>upd_ne _ _ h) p5 (by omega) (fun h=>by cases h),.inl rfl,.rf rfl (by simp)⟩
   ·simp only [if_neg c0,if_neg c1,if_neg c3,if_neg c2]at hj' ⊢;exact⟨key {S.D with bl:=upd S.D.bl b ⟨Dd 1,0,(S.D.bl b).er+1⟩,n:=S.D.n+1} S.su _ 1 _ S.down rfl rfl rfl rfl q.pw (.inr (hj' (by simp))) (fun i h=>upd_ne _ _ h) (by show(upd S.D.bl b _ b).nx≤_;rw [upd_eq];exact Nat.zero_le _) (by omega) (fun _=>by show(upd S.D.bl b _ b).nx=0;rw [upd_eq]),.inl rfl,.rf rfl (by simp)⟩
theorem AInv.unj (q:AInv S)(h3:S.ps b=3):AInv {S with jr:=Bh S.jr (b:Int) false}:=by
 have ne: ∀k,0≤S.sel k→S.sel k≠(b:Int):=fun k h e=>by obtain⟨g1,g2⟩:=(q.iw.wi k).sel h;rw [e,Int.toNat_natCast]at g2;omega
 refine⟨q.geo,q.pw,q.n0,⟨fun k=>⟨(q.iw.wi k).sel,(q.iw.wi k).lo⟩,q.iw.ne⟩,q.nxP,q.op2,q.free,fun y hy=>?_,fun h=>?_,fun h=>?_,fun s p h=>?_,q.inj⟩
 ·have hy':Bh S.jr (b:Int) false y=true:=hy;unfold Bh at hy';split at hy';·cases hy'
  ·exact q.jr y hy'
 ·show Bh S.jr (b:Int) false S.log=true;unfold Bh;rw [if_neg (show¬S.log=(b:Int) from ne true h)];exact q.jlog h
 ·show Bh S.jr (b:Int) false S.dat=false;unfold Bh;rw [if_neg (show¬S.dat=(b:Int) from ne false h)];exact q.jdat h
 ·obtain⟨e1,e2,i,j,g1,g2,g3,g4,g5,g6⟩:=q.map s p h;refine⟨e1,e2,i,j,g1,g2,g3,g4,?_,g6⟩;show Bh S.jr (b:Int) false (i:Int)=false;unfold Bh;split;·rfl
  ·exact g5
theorem Ag8 (S:Ap)(b:Nat)(f:Int→Bool):({S with jr:=f}:Ap).ers b=({(S.ers b).1 with jr:=f},(S.ers b).2):=by
 unfold Ap.ers;by_cases h1:S.su (b:Int)=true;·rw [if_pos h1,if_pos h1]
 ·rw [if_neg h1,if_neg h1];by_cases h2:(S.D.erase (b:Int)).2=50;·rw [if_pos h2,if_pos h2]
  ·rw [if_neg h2,if_neg h2];by_cases h3:(S.D.erase (b:Int)).2=0;·rw [if_pos h3,if_pos h3]
   ·rw [if_neg h3,if_neg h3]
theorem Kw (S:Ap)(b:Nat):(S.ers b).1.jr=S.jr:=by
 unfold Ap.ers;split;·rfl
 ·split;·rfl
  ·split <;> rfl
theorem AInv.ersJ (q:AInv S)(hb:b<S.D.nb)(h3:S.ps b=3)(hj:S.jr (b:Int)=true): AInv {(S.ers b).1 with jr:=Bh (S.ers b).1.jr (b:Int) false}∧((S.ers b).2= .done 0∨(S.ers b).2= .pow)∧PwR S (S.ers b).1 (S.ers b).2:=by
 have q1:=q.unj h3;have h:=q1.ers (b:=b) hb h3 (fun s p h j hj2 e=>?_) (.inl (by show Bh _ _ _ _=_;unfold Bh;rw [if_pos rfl]));·rw [Ag8]at h;rw [Kw];exact h
 ·obtain⟨-,-,i,m,g1,g2,g3,g4,g5,-⟩:=q.map s p h;obtain⟨rfl,-⟩:=Hm g3 hj2 (show i*S.D.P+m=b*S.D.P+j by have e':p=((b*S.D.P+j:Nat):Int):=e;omega);rw [hj]at g5;cases g5
include L X
omit L X in
structure Bd (S:Ap)(k:Nat):Prop where
 last:S.last<S.next
 wr: ∀b n,S.wr b=some n→n<S.next
 pe: ∀b,S.pe b≤k
 nx:S.next≤k+1
 dn:S.D.n≤k
omit L X
theorem Bd.mono {k':Nat}(q:Bd S k)(h:k≤k'):Bd S k':=⟨q.last,q.wr,fun b=>Nat.le_trans (q.pe b) h,by have:=q.nx;omega,Nat.le_trans q.dn h⟩
theorem StP.bd (h:StP sec data S S' o)(iw:IW S)(hn:S.D.nb≤12)(q:Bd S k):Bd S' (k+30):=by
 obtain⟨f,-,h1,h2⟩:=h.fr iw;have l1:=q.last;have l2:=q.nx;have l3:=q.dn;refine⟨by rw [f.last,h2];omega,fun b n e=>?_,fun b=>by rw [f.pe];have:=q.pe b;omega,by rw [h2];omega,by omega⟩;rw [h2]
 cases h with
 |ok h=>
  have g:=h.fr.wr;simp only [Oe]at e;split at e;·cases e;omega
  ·rw [g]at e;have:=q.wr b n e;omega
 |bad h _=>have g:=h.fr.wr;rw [g]at e;have:=q.wr b n e;omega
theorem AppP.bd {l:List (Int×Option (List Nat))}{es:List Ent}(h:AppP l S es S' o): ∀{k:Nat},IW S→S.D.nb≤12→Bd S k→Bd S' (k+30*l.length):=by
 induction h with
 |nil=>intro k _ _ q;exact q.mono (Nat.le_add_right _ _)
 |put h _ ih=>intro k iw hn q;obtain⟨f,iw1,-⟩:=h.fr iw;exact(ih iw1 (by rw [f.nb];exact hn) (h.bd iw hn q)).mono (by rw [List.length_cons];omega)
 |bad h _=>intro k iw hn q;exact(h.bd iw hn q).mono (by rw [List.length_cons];omega)
 |trim _ _ ih=>intro k iw hn q;exact(ih iw hn q).mono (by rw [List.length_cons];omega)
 |skip _ _ ih=>intro k iw hn q;exact(ih iw hn q).mono (by rw [List.length_cons];omega)
theorem AppP.len {l:List (Int×Option (List Nat))}{es:List Ent}(h:AppP l S es S' o):es.length≤l.length:=by
 induction h with
 |nil=>exact Nat.le_refl _
 |put _ _ ih=>exact Nat.succ_le_succ ih
 |bad _ _=>exact Nat.zero_le _
 |trim _ _ ih=>exact Nat.succ_le_succ ih
 |skip _ _ ih=>exact Nat.le_succ_of_le ih
theorem RcP.bd {t:Nat}{es:List Ent}(h:RcP t es S S' o)(iw:IW S)(hn:S.D.nb≤12)(q:Bd S k):Bd S' (k+30*recN S es):=by
 obtain⟨f,-,h1,h2⟩:=h.fr iw;have l1:=q.last;have l2:=q.nx;have l3:=q.dn;have hm:(2*S.D.nb+2)*recN S es≤30*recN S es:=Nat.mul_le_mul_right _ (by omega);have hl:S'.last<S'.next:=by
  rw [h2]
  cases h with
  |ok h=>simp only;omega
  |bad h _=>have:=(h.fr (S:= {S with next:=S.next+recN S es}) ⟨fun k=>⟨(iw.wi k).sel,(iw.wi k).lo⟩,iw.ne⟩).1.last;rw [this];simp only;omega
 exact⟨hl,fun b n e=>by rw [f.wr]at e;have:=q.wr b n e;omega,fun b=>by rw [f.pe];have:=q.pe b;omega,by omega,by omega⟩
theorem CmP.bd {es:List Ent}(h:CmP es S S' o)(iw:IW S)(hn:S.D.nb≤12)(q:Bd S k):Bd S' (k+30*recN S es):=by
 cases h with
 |nil h=>exact q.mono (Nat.le_add_right _ _)
 |ok h _=>have:=h.bd iw hn q;exact⟨this.last,this.wr,this.pe,this.nx,this.dn⟩
 |bad h _=>exact h.bd iw hn q
theorem ZyQ (b:Nat)(q:Bd S k):Bd (S.ers b).1 (k+1):=by
 have l2:=q.nx;have l3:=q.dn;have g:=(S.D.erase_geo (b:Int)).2.1;have hp: ∀i,S.pe i≤k+1:=fun i=>by have:=q.pe i;omega
 have hw: ∀i n,Oe S.wr (b:Int) none i=some n→n<S.next:=fun i n e=>by
  simp only [Oe]at e;split at e;·cases e
  ·exact q.wr i n e
 unfold Ap.ers;split;·exact⟨q.last,q.wr,hp,by simp only;omega,by simp only;omega⟩
 ·split;·exact⟨q.last,q.wr,hp,by simp only;omega,by simp only;omega⟩
  ·split
   ·refine⟨q.last,hw,fun i=>?_,by simp only;omega,by simp only;omega⟩;show upd S.pe b (S.pe b+1) i≤k+1;by_cases e:i=b;·subst e;rw [upd_eq];have:=q.pe i;omega
    ·rw [upd_ne _ _ e];exact hp i
   ·exact⟨q.last,hw,hp,by simp only;omega,by simp only;omega⟩
theorem ErP.bd {l:List Int}(h:ErP l S S' o): ∀{k:Nat},Bd S k→Bd S' (k+l.length):=by
 induction h with
 |nil=>intro k q;exact q
 | @cons b l S S' o h t ih=>intro k q;have q1:=ZyQ b q;exact(ih ⟨q1.last,q1.wr,q1.pe,q1.nx,q1.dn⟩).mono (by rw [List.length_cons];omega)
 | @bad b l S h=>intro k q;exact(ZyQ b q).mono (by rw [List.length_cons];omega)
theorem Iv {es:List Ent}(h:12≤S.D.sz):recN S es≤es.length+1:=Kt h
theorem ApdP.bd {l:List (Int×Option (List Nat))}(h:ApdP l S S' o)(q:AInv S)(b:Bd S k)(hl:l.length≤6):Bd S' (k+1000):=by
 have hn:=q.geo.nb.2;have key: ∀{es:List Ent} {S1 S2:Ap} {o:WO},AppP l S es S1 (.done 0)→CmP es S1 S2 o→Bd S2 (k+1000):=by intro es S1 S2 o a c;obtain⟨q1,k1,f1,-⟩:=a.inv q;have b1:=a.bd q.iw hn b;have b2:=c.bd q1.iw (by rw [f1.nb];exact hn) b1;have hr:recN S1 es≤es.length+1:=Iv (by rw [f1.sz];exact q.geo.sz.1);have he:=a.len;exact b2.mono (by omega)
 cases h with
 |ok a c=>exact key a c
 |bad a ho=>exact(a.bd q.iw hn b).mono (by omega)
 |bad2 a c ho=>exact key a c
end
variable {g:Int→Int}{i:Nat}{p:Int}{ps:List Int}
theorem Aog {p:Prop}(h:p:=by
 exact absurd (by rw [List.getElem_map,List.getElem_map,ei,ej]) (this j i (by simpa using hj) (by simpa using hi) c)):p:=h
theorem Aoh {p:Prop}(h:p:=by
 exact absurd (by rw [List.getElem_map,List.getElem_map,ei,ej]) (this i j (by simpa using hi) (by simpa using hj) c)):p:=h
section
variable (L:Lg P0 E F K)(X:Fx F K)
include L X
omit L X in
structure Sm (S S':Ap):Prop where
 nb:S'.D.nb=S.D.nb
 P:S'.D.P=S.D.P
 sz:S'.D.sz=S.D.sz
 en:S'.D.en=S.D.en
 secs:S'.S=S.S
omit L X
theorem Sm.trans (a:Sm S S1)(b:Sm S1 S2):Sm S S2:=⟨b.nb.trans a.nb,b.P.trans a.P,b.sz.trans a.sz,b.en.trans a.en,b.secs.trans a.secs⟩
theorem FrS.sm (f:FrS S S'):Sm S S':=⟨f.nb,f.P,f.sz,f.en,f.secs⟩
theorem Vt: ∀(es:List Ent) (A:Int→Option Int),(es.map (·.1)).Nodup→(∀s,s∉es.map (·.1)→es.foldl C0 A s=A s)∧ ∀e∈es,es.foldl C0 A e.1=if 0≤e.2 then some e.2 else none
 | [],A,_=>⟨fun _ _=>rfl,fun e he=>by cases he⟩
 |x::r,A,h=>by
  rw [List.map_cons,List.nodup_cons]at h;obtain⟨h1,h2⟩:=Vt r (C0 A x) h.2;refine⟨fun s hs=>?_,fun e he=>?_⟩;·rw [List.map_cons,List.mem_cons,not_or]at hs;rw [List.foldl_cons,h1 s hs.2];unfold C0;rw [if_neg hs.1]
  ·rw [List.foldl_cons];rcases List.mem_cons.1 he with rfl|he;·rw [h1 _ h.1];unfold C0;rw [if_pos rfl]
   ·exact h2 e he
theorem Kx (es:List Ent)(A:Int→Option Int):stA A es es.length=es.foldl C0 A:=by unfold stA;rw [List.take_length]
theorem R7 (q:AInv S)(ok:S.D.Ok)(s:Int):(S.rd s).length=S.D.sz:=by
 unfold Ap.rd
 cases hs:S.A s with
 |none=>exact List.length_replicate
 |some p=>obtain⟨-,-,b,j,h1,h2,h3,h4,h5,h6,h7⟩:=q.map s p hs;obtain⟨g1,g2⟩:=Pj (b:=b) h3;have:=((ok.bl b h2).pg j h3).full (.inl h7);simp only [h1,Int.toNat_natCast,g1,g2,List.length_take];omega
theorem AppP.keys {l:List (Int×Option (List Nat))}{es:List Ent}(h:AppP l S es S' o)(q:AInv S)(ho:o= .done 0): (es.map (·.1)).Sublist (l.map (·.1))∧(∀s d,(s,some d)∈l→ ∃p:Nat,(s,(p:Int))∈es)∧(∀s,(s,none)∈l→(s,-1)∈es∨S.A s=none):=by
 induction h with
 |nil=>exact⟨.slnil,(fun s d h=>by cases h),fun s h=>by cases h⟩
 | @put sec data l S S1 S' p es o h r ih=>
  obtain⟨a,-⟩:=h.inv q;have f:=(h.fr q.iw).1;obtain⟨h1,h2,h3⟩:=ih a ho;refine⟨h1.cons_cons _,fun s d hm=>?_,fun s hm=>?_⟩
  ·rcases List.mem_cons.1 hm with e|hm;·cases e;exact⟨p,List.mem_cons_self ..⟩
   ·obtain⟨p',h⟩:=h2 s d hm;exact⟨p',List.mem_cons_of_mem _ h⟩
  ·rcases List.mem_cons.1 hm with e|hm;·cases e
   ·rcases h3 s hm with h|h;·exact .inl (List.mem_cons_of_mem _ h)
    ·exact .inr (by rw [f.A]at h;exact h)
 |bad h ho'=>rcases ho' with e|e <;> rw [e]at ho <;> cases ho
 | @trim sec l S S' es o h r ih=>
  obtain⟨h1,h2,h3⟩:=ih q ho;refine⟨h1.cons_cons _,fun s d hm=>?_,fun s hm=>?_⟩
  ·rcases List.mem_cons.1 hm with e|hm;·cases e
   ·obtain⟨p',h⟩:=h2 s d hm;exact⟨p',List.mem_cons_of_mem _ h⟩
  ·rcases List.mem_cons.1 hm with e|hm;·cases e;exact .inl (List.mem_cons_self ..)
   ·rcases h3 s hm with h|h;·exact .inl (List.mem_cons_of_mem _ h)
    ·exact .inr h
 | @skip sec l S S' es o h r ih=>
  obtain⟨h1,h2,h3⟩:=ih q ho;refine⟨h1.cons _,fun s d hm=>?_,fun s hm=>?_⟩
  ·rcases List.mem_cons.1 hm with e|hm;·cases e
   ·exact h2 s d hm
  ·rcases List.mem_cons.1 hm with e|hm;·cases e;exact .inr h
   ·exact h3 s hm
theorem ApdP.sm {l:List (Int×Option (List Nat))}(h:ApdP l S S' o)(q:AInv S):Sm S S':=by
 have key: ∀{es:List Ent} {S1 S2:Ap} {o:WO},AppP l S es S1 (.done 0)→CmP es S1 S2 o→Sm S S2:=by intro es S1 S2 o a c;obtain⟨q1,k1,f1,-⟩:=a.inv q;obtain⟨⟨g1,g2,g3,g4,g5,-⟩,-⟩:=c.fr q1.iw;exact f1.sm.trans ⟨g1,g2,g3,g4,g5⟩
 cases h with
 |ok a c=>exact key a c
 |bad a ho=>exact(a.inv q).2.2.1.sm
 |bad2 a c ho=>exact key a c
include L X
def RdG (l:List (Int×Option (List Nat)))(S T:Ap):Prop:=(∀s,s∉l.map (·.1)→T.rd s=S.rd s)∧(∀s d,(s,some d)∈l→T.rd s=d)∧ ∀s,(s,none)∈l→T.rd s=List.replicate S.D.sz 0
omit L X
theorem AppP.rdA {l:List (Int×Option (List Nat))}{es:List Ent}(a:AppP l S es S1 (.done 0))(q:AInv S)(k':Keep S S')(sm:Sm S S')(hA:S'.A=stA S.A es es.length)(hp: ∀e∈es,0≤e.2→ ∃data,(e.1,some data)∈l∧PgOk S' e.1 data e.2) (hnd:(l.map (·.1)).Nodup) (hd: ∀s d,(s,some d)∈l→d.length=S.D.sz):RdG l S S':=by
 obtain⟨h1,h2,h3⟩:=a.keys q rfl;obtain⟨n1,n2⟩:=Vt es S.A (hnd.sublist h1);rw [Kx]at hA;refine⟨fun s hs=>?_,fun s d hm=>?_,fun s hm=>?_⟩;·refine F9 q k' ⟨sm.P,sm.sz⟩ ?_;rw [hA];exact n1 s fun e=>hs (h1.subset e)
 ·obtain⟨p,he⟩:=h2 s d hm;obtain⟨d',g1,g2⟩:=hp _ he (by simp only;omega);have e:d'=d:=by
   obtain⟨i,hi,ei⟩:=List.getElem_of_mem hm;obtain⟨j,hj,ej⟩:=List.getElem_of_mem g1;have:=(List.pairwise_iff_getElem.1 hnd);have hij:i=j:=by
    rcases Nat.lt_trichotomy i j with c|c|c;·exact Aoh
    ·exact c
    ·exact Aog
   subst hij;rw [ei]at ej;cases ej;rfl
  rw [e]at g2;have hs:S'.A s=some (p:Int):=by rw [hA,n2 _ he,if_pos (by simp only;omega)]
  exact g2.rd hs (by rw [sm.sz];exact hd s d hm)
 ·have hs:S'.A s=none:=by
   rw [hA];rcases h3 s hm with he|he;·rw [n2 _ he,if_neg (by simp)]
   ·by_cases hk:s∈es.map (·.1)
    ·obtain⟨e,e1,e2⟩:=List.mem_map.1 hk;subst e2;rw [n2 _ e1];by_cases h0:0≤e.2
     ·obtain⟨d',g1,g2⟩:=hp _ e1 h0;obtain⟨i,hi,ei⟩:=List.getElem_of_mem hm;obtain⟨j,hj,ej⟩:=List.getElem_of_mem g1;have:=(List.pairwise_iff_getElem.1 hnd);rcases Nat.lt_trichotomy i j with c|c|c;·exact Aoh
      ·subst c;rw [ei]at ej;cases ej
      ·exact Aog
     ·rw [if_neg h0]
    ·rw [n1 s hk,he]
  unfold Ap.rd;rw [hs];simp only [sm.sz]
theorem Ly (h:p∈S.mv b): ∃j s,j<S.D.P∧p=((b*S.D.P+j:Nat):Int)∧S.A s=some p:=by unfold Ap.mv Eb at h;rw [List.mem_filter,List.mem_map]at h;obtain⟨⟨j,h1,h2⟩,h3⟩:=h;obtain⟨s,h4⟩:=hasP_t.1 h3;exact⟨j,s,List.mem_range.1 h1,h2.symm,h4⟩
theorem Ag9 (hj:j<S.D.P)(h:S.A s=some ((b*S.D.P+j:Nat):Int)):((b*S.D.P+j:Nat):Int)∈S.mv b:=by unfold Ap.mv Eb;rw [List.mem_filter,List.mem_map];exact⟨⟨j,List.mem_range.2 hj,rfl⟩,hasP_t.2 ⟨s,h⟩⟩
theorem Zz:(S.mv b).length≤S.D.P:=by unfold Ap.mv;rw [Kn];exact P4 _ _
theorem MvS.inv {es:List Ent}(h:MvS g S ps es S1)(q:AInv S):AInv S1∧Keep S S1∧FrS S S1∧S1.down=S.down:=by
 induction h with
 |nil=>exact⟨q,.refl _,.refl _,rfl⟩
 |snoc r h ih=>obtain⟨a,b,c,d⟩:=ih;obtain⟨a',b',d',-⟩:=h.inv a;exact⟨a',b.trans b' c.nb,c.trans (h.fr a.iw).1,(d'.dn (by simp)).trans d⟩
theorem MvS.bd {es:List Ent}(h:MvS g S ps es S1)(q:AInv S)(hb:Bd S k):Bd S1 (k+30*ps.length)∧es.length=ps.length:=by
 induction h with
 |nil=>exact⟨hb,rfl⟩
 |snoc r h ih=>obtain⟨a,b,c,-⟩:=r.inv q;obtain⟨d,e⟩:=ih;exact⟨(h.bd a.iw a.geo.nb.2 d).mono (by rw [List.length_append,List.length_singleton];omega),by rw [List.length_append,List.length_append,e];rfl⟩
def Ap.pgD (S:Ap)(p:Int):List Nat:=((S.D.bl (p.toNat / S.D.P)).pg (p.toNat % S.D.P)).b.take S.D.sz
theorem Lz (h:S.A s=some p):S.pgD p=S.rd s:=by unfold Ap.rd Ap.pgD;rw [h]
theorem R8 (q:AInv S)(k:Keep S S1)(f:FrS S S1)(h:S.A s=some p):S1.pgD p=S.pgD p:=by have:=F9 q k ⟨f.P,f.sz⟩ (s:=s) (by rw [f.A]);rw [←Lz h,←Lz (S:=S1) (s:=s) (p:=p) (by rw [f.A];exact h)]at this;exact this
theorem MvS.es {g:Int→Int}{S S1:Ap}{ps:List Int}{es:List Ent}(h:MvS g S ps es S1)(q:AInv S)(hm: ∀p∈ps,∃s,S.A s=some p): es.map (·.1)=ps.map g∧(∀e∈es,∃p∈ps,e.1=g p∧PgOk S1 (g p) (S.pgD p) e.2∧ ∃b j:Nat,e.2=((b*S.D.P+j:Nat):Int)∧b<S.D.nb∧j<S.D.P∧(S.D.bl b).nx≤j∧S.ps b≠3)∧es.Pairwise (fun x y=>x.2≠y.2):=by
 induction h with
 |nil=>exact⟨rfl,(fun e he=>by cases he),.nil⟩
 | @snoc S1 S2 ps es p qn r h ih=>
  obtain⟨h1,h2,h3⟩:=ih fun p hp=>hm p (List.mem_append_left _ hp);obtain⟨a,b,c,-⟩:=r.inv q;obtain⟨a',b',-,e'⟩:=h.inv a;obtain⟨k1,-⟩:=h.pg a;have f:=(h.fr a.iw).1;obtain⟨i,j,e1,e2,e3,e4,e5,e6,e7,e8⟩:=e' qn rfl;obtain⟨s,hs⟩:=hm p (List.mem_append_right _ (List.mem_singleton_self _));have hpd:S1.pgD p=S.pgD p:=R8 q b c hs;rw [c.nb]at e2;rw [c.P]at e1 e3;refine⟨by rw [List.map_append,List.map_append,h1];rfl,fun e he=>?_,?_⟩
  ·rcases List.mem_append.1 he with he|he;·obtain⟨p',g1,g2,g3,g4⟩:=h2 e he;exact⟨p',List.mem_append_left _ g1,g2,g3.keep b' f.P f.nb,g4⟩
   ·rw [List.mem_singleton]at he;subst he;refine⟨p,List.mem_append_right _ (List.mem_singleton_self _),rfl,by rw [←hpd];exact k1,i,j,by rw [e1],e2,e3,Nat.le_trans (b.nx i e2) e8,fun h3'=>?_⟩;have:=b'.ps3 i (by rw [c.nb];exact e2) (b.ps3 i e2 h3');omega
  ·rw [List.pairwise_append];refine⟨h3,List.pairwise_singleton _ _,fun x hx y hy=>?_⟩;rw [List.mem_singleton]at hy;subst hy;obtain⟨p',g1,g2,g3,-⟩:=h2 x hx;obtain⟨i',j',n,f1,f2,f3,f4,f5,f6,f7,-⟩:=g3.ex;intro e;have e:x.2=(qn:Int):=e;rw [c.P]at f1 f3;obtain⟨rfl,rfl⟩:=Hm e3 f3 (show i*S.D.P+j=i'*S.D.P+j' by omega);omega
theorem MvS.ok {S S1:Ap}{b:Nat}{es:List Ent}(h:MvS (invA S.A) S (S.mv b) es S1)(q:AInv S): ∀j x,es[j]?=some x→okE S.S (S.D.nb*S.D.P) (stA S.A es j) x:=by
 intro j x hx;obtain⟨-,h2,h3⟩:=h.es q fun p hp=>let⟨_,s,_,_,h⟩:=Ly hp;⟨s,h⟩;obtain⟨p,g1,g2,g3,b',k,e1,e2,e3,e4,e5⟩:=h2 x (List.mem_of_getElem? hx);obtain⟨j0,s,m1,m2,m3⟩:=Ly g1;rw [E8 m3 q.inj]at g2;obtain⟨r1,r2,-⟩:=q.map s p m3;refine⟨⟨by omega,by omega,by omega,?_⟩,?_⟩;·rw [e1];have:=Nat.mul_le_mul_right S.D.P (show b'+1≤S.D.nb from e2);rw [Nat.succ_mul]at this;omega
 ·rintro⟨s',hs,hne⟩;rcases Gx j s' x.2 hs with h1|⟨j',e,f1,f2,f3,f4,f5⟩;·obtain⟨-,-,i,m,g1,g2,g3,g4,g5,g6,-⟩:=q.map s' x.2 h1;obtain⟨rfl,rfl⟩:=Hm g3 e3 (show i*S.D.P+m=b'*S.D.P+k by omega);omega
  ·obtain⟨l1,l2⟩:=List.getElem?_eq_some_iff.1 f2;obtain⟨l3,l4⟩:=List.getElem?_eq_some_iff.1 hx;have:=List.pairwise_iff_getElem.1 h3 j' j l1 l3 f1;rw [l2,l4]at this;exact this f4
theorem MvS.mvOk {es:List Ent}(h:MvS (invA S.A) S ((S.mv b).take i) es S1)(q:AInv S)(ok:S.D.Ok)(hS:S.S<1000)(hd:S.down=false)(hp:(S.mv b)[i]?=some p):MvOk S b i p S1:=by
 obtain⟨a,k,c,d⟩:=h.inv q;obtain⟨j0,s,m1,m2,m3⟩:=Ly (List.mem_of_getElem? hp);obtain⟨r1,r2,b',j,g1,g2,g3,g4,g5,g6,g7⟩:=q.map s p m3;obtain⟨d1,d2⟩:=Pj (b:=b') g3;have hb:((S.D.bl b').pg j).b.length=S.D.sz+64:=((ok.bl b' g2).pg j g3).full (.inl g7);have hk:=k.pg b' j g2 g6;have hn:=k.nx b' g2;have hnb:=q.geo.nb;have hP:=q.geo.P;have hlt:b'*S.D.P+j<100000:=by have:=Nat.mul_le_mul (show b'≤12 by omega) (show S.D.P≤6 by omega);omega
 refine⟨⟨_,g1,hlt,?_,?_,?_,?_⟩,?_,a.pw.trans (d.trans hd)⟩;·rw [c.P,c.nb,d1];exact g2
 ·rw [c.P,d1,d2];omega
 ·rw [c.P,d1,d2,hk];exact .inl g7
 ·rw [c.P,c.sz,d1,d2,hk,List.length_take];omega
 ·rw [E8 m3 q.inj];omega
theorem Z0 (q:AInv S)(hm: ∀s p,S.A s=some p→ ∀j:Nat,j<S.D.P→p≠((b*S.D.P+j:Nat):Int))(s:Int):(S.ers b).1.rd s=S.rd s:=by
 have key: ∀(S':Ap),S'.A=S.A→S'.D.P=S.D.P→S'.D.sz=S.D.sz→(∀i,i≠b→S'.D.bl i=S.D.bl i)→S'.rd s=S.rd s:=by
  intro S' h1 h2 h3 h4;unfold Ap.rd;rw [h1,h2,h3]
  cases hs:S.A s with
  |none=>rfl
  |some p=>obtain⟨-,-,b',j,g1,g2,g3,-⟩:=q.map s p hs;obtain⟨d1,d2⟩:=Pj (b:=b') g3;simp only [g1,Int.toNat_natCast,d1];rw [h4 b' fun e=>by subst e;exact hm s p hs j g3 g1]
 have hE: ∀i,i≠b→(S.D.erase (b:Int)).1.bl i=S.D.bl i:=by
  intro i hi;have hi':i≠(b:Int).toNat:=by rw [Int.toNat_natCast];exact hi
  unfold Dv.erase;split
  ·split;·rfl
   ·split;·rfl
    ·split;·exact upd_ne _ _ hi'
     ·split;·exact upd_ne _ _ hi'
      ·exact upd_ne _ _ hi'
  ·rfl
 obtain⟨⟨e1,e2,e3,e4⟩,-⟩:=S.D.erase_geo (b:Int);unfold Ap.ers;split;·exact key _ rfl rfl rfl fun _ _=>rfl
 ·split;·exact key _ rfl e2 e3 hE
  ·split;·exact key _ rfl e2 e3 hE
   ·exact key _ rfl e2 e3 hE
theorem R9 (S:Ap)(b:Nat):Sm S (S.ers b).1:=by
 obtain⟨⟨e1,e2,e3,e4⟩,-⟩:=S.D.erase_geo (b:Int);unfold Ap.ers;split;·exact⟨rfl,rfl,rfl,rfl,rfl⟩
 ·split;·exact⟨e1,e2,e3,e4,rfl⟩
  ·split <;> exact⟨e1,e2,e3,e4,rfl⟩
theorem CmP.sm {es:List Ent}(h:CmP es S S' o)(iw:IW S):Sm S S':=by obtain⟨⟨g1,g2,g3,g4,g5,-⟩,-⟩:=h.fr iw;exact⟨g1,g2,g3,g4,g5⟩
theorem MvS.hm: ∀p∈S.mv b,∃s,S.A s=some p:=fun p hp=>let⟨_,s,_,_,h⟩:=Ly hp;⟨s,h⟩
theorem MvS.rdA {es:List Ent}(h:MvS (invA S.A) S (S.mv b) es S1)(k2:Keep S1 S2)(sm2:Sm S1 S2)(q:AInv S)(ok:S.D.Ok)(hA:S2.A=stA S1.A es es.length): (∀s,S2.rd s=S.rd s)∧(S.ps b=3→ ∀s p,S2.A s=some p→ ∀j:Nat,j<S2.D.P→p≠((b*S2.D.P+j:Nat):Int)):=by
 obtain⟨q1,k1,f1,-⟩:=h.inv q;obtain⟨e1,e2,e3⟩:=h.es q MvS.hm;have kk:=k1.trans k2 f1.nb;rw [Kx,f1.A]at hA;have hnd:(es.map (·.1)).Nodup:=by
  rw [e1];unfold Ap.mv Eb;refine List.pairwise_map.2 ?_;refine List.Pairwise.imp_of_mem (R:=fun x y:Int=>x≠y) (fun {x y} hx hy hne e=>hne ?_) ?_;·obtain⟨_,s,_,_,h⟩:=Ly (S:=S) (b:=b) hx;obtain⟨_,s',_,_,h'⟩:=Ly (S:=S) (b:=b) hy;rw [E8 h q.inj,E8 h' q.inj]at e;subst e;rw [h]at h';cases h';rfl
  ·refine List.Pairwise.filter _ ?_;refine List.pairwise_map.2 (List.Pairwise.imp (R:=fun x y:Nat=>x≠y) ?_ List.nodup_range);intro x y hne e;have e2:((b*S.D.P+x:Nat):Int)=((b*S.D.P+y:Nat):Int):=e;exact hne (by omega)
 obtain⟨n1,n2⟩:=Vt es S.A hnd;refine⟨fun s=>?_,fun hb3 s p hs j hj hp=>?_⟩
 ·by_cases hk:s∈es.map (·.1);·obtain⟨e,g1,g2⟩:=List.mem_map.1 hk;obtain⟨p,p1,p2,p3,b',j,p4,-⟩:=e2 e g1;obtain⟨j0,s',m1,m2,m3⟩:=Ly p1;rw [E8 m3 q.inj]at p2 p3;have es':s'=s:=(by omega);subst es';have hs2:S2.A s'=some e.2:=(by rw [hA,p2.symm,n2 e g1,if_pos (by omega)]);rw [(p3.keep k2 sm2.P sm2.nb).rd hs2 (by rw [sm2.sz,f1.sz,Lz m3];exact R7 q ok s'),Lz m3]
  ·exact F9 q kk ⟨by rw [sm2.P,f1.P],by rw [sm2.sz,f1.sz]⟩ (by rw [hA];exact n1 s hk)
 ·rw [sm2.P,f1.P]at hj hp;by_cases hk:s∈es.map (·.1)
  ·obtain⟨e,g1,g2⟩:=List.mem_map.1 hk;obtain⟨p',p1,p2,p3,b',j',p4,p5,p6,p7,p8⟩:=e2 e g1;have hs2:S2.A s=some e.2:=(by rw [hA,g2.symm,n2 e g1,if_pos (by omega)]);rw [hs2]at hs
   cases hs;obtain⟨rfl,rfl⟩:=Hm p6 hj (show b'*S.D.P+j'=b*S.D.P+j by omega);exact p8 hb3
  ·have hs0:S.A s=some p:=(by rw [←n1 s hk,←hA];exact hs);subst hp;have hin:=Ag9 hj hs0;have:s∈es.map (·.1):=(by rw [e1];exact List.mem_map.2 ⟨_,hin,E8 hs0 q.inj⟩);exact hk this
theorem MvS.cm {es:List Ent}(h:MvS (invA S.A) S (S.mv b) es S1)(c:CmP es S1 S2 o)(q:AInv S)(ok:S.D.Ok): AInv S2∧Keep S S2∧Sm S S2∧PwR S S2 o∧(o≠ .done 0→S2.A=S.A)∧ (o= .done 0→(∀s,S2.rd s=S.rd s)∧(S.ps b=3→ ∀s p,S2.A s=some p→ ∀j:Nat,j<S2.D.P→p≠((b*S2.D.P+j:Nat):Int))):=by obtain⟨q1,k1,f1,d1⟩:=h.inv q;obtain⟨-,e2,-⟩:=h.es q MvS.hm;have hok:=h.ok q;obtain⟨q2,k2,c1,c2,c3⟩:=c.inv q1 (by rw [f1.secs,f1.nb,f1.P,f1.A];exact hok) fun e he h0=>let⟨p,_,g2,g3,_⟩:=e2 e he;⟨_,by rw [g2];exact g3⟩;have sm2:=c.sm q1.iw;exact⟨q2,k1.trans k2 f1.nb,f1.sm.trans sm2,by unfold PwR;rw [←d1];exact c1,fun ho=>(c2 ho).trans f1.A,fun ho=>h.rdA k2 sm2 q ok (c3 ho)⟩
theorem MovO.inv (h:MovO b S S' o)(q:AInv S)(ok:S.D.Ok)(bd:Bd S k)(hb:b<S.D.nb)(h3:S.ps b=3)(hj:S.jr (b:Int)=false): AInv S'∧Sm S S'∧Bd S' (k+1000)∧PwR S S' o∧ ∀s,S'.rd s=S.rd s:=by
 have hP:=q.geo.P;have hsz:=q.geo.sz;have hnb:=q.geo.nb;have hl:=Zz (S:=S) (b:=b)
 cases h with
 | @bad S1 _ i p es _ m hp h ho=>
  obtain⟨q1,k1,f1,d1⟩:=m.inv q;obtain⟨b1,-⟩:=m.bd q bd;obtain⟨q2,k2,c2,-⟩:=h.inv q1;have f2:=(h.fr q1.iw).1;have b2:=h.bd q1.iw (by rw [f1.nb];exact hnb.2) b1;have hlt:((S.mv b).take i).length≤6:=by rw [List.length_take];omega
  exact⟨q2,(f1.trans f2).sm,b2.mono (by omega),by unfold PwR;rw [←d1];exact c2,fun s=>F9 q (k1.trans k2 f1.nb) ⟨by rw [f2.P,f1.P],by rw [f2.sz,f1.sz]⟩ (by rw [f2.A,f1.A])⟩
 | @badc S1 _ es _ m c ho=>obtain⟨q2,k2,sm,c1,c2,-⟩:=m.cm c q ok;obtain⟨q1,k1,f1,-⟩:=m.inv q;obtain⟨b1,hes⟩:=m.bd q bd;have b2:=c.bd q1.iw (by rw [f1.nb];exact hnb.2) b1;have hr:recN S1 es≤es.length+1:=Iv (by rw [f1.sz];exact hsz.1);exact⟨q2,sm,b2.mono (by omega),c1,fun s=>F9 q k2 ⟨sm.P,sm.sz⟩ (by rw [c2 (by rcases ho with e|e <;> rw [e] <;> simp)])⟩
 | @ok S1 S2 es m c=>obtain⟨q2,k2,sm,c1,-,c3⟩:=m.cm c q ok;obtain⟨q1,k1,f1,-⟩:=m.inv q;obtain⟨b1,hes⟩:=m.bd q bd;have b2:=c.bd q1.iw (by rw [f1.nb];exact hnb.2) b1;have hr:recN S1 es≤es.length+1:=Iv (by rw [f1.sz];exact hsz.1);obtain⟨g1,g2⟩:=c3 rfl;obtain⟨q3,-,pw⟩:=q2.ers (b:=b) (by rw [sm.nb];exact hb) (k2.ps3 b hb h3) (g2 h3) (.inl (by rw [k2.jrm b hb (by omega)];exact hj));exact⟨q3,sm.trans (R9 _ _),(ZyQ b b2).mono (by omega),c1.tr (by simp) pw,fun s=>(Z0 q2 (g2 h3) s).trans (g1 s)⟩
theorem AInv.mvH (q:AInv S)(ok:S.D.Ok)(hS:S.S<1000)(hd:S.down=false)(bd:Bd S k)(hk:k<100000): ∀b:Nat,b<S.D.nb→S.ps b=3→(S.mv b).length≤6∧S.pe b<100000∧ (∀i es S1 p,MvS (invA S.A) S ((S.mv b).take i) es S1→(S.mv b)[i]?=some p→MvOk S b i p S1)∧ (∀es S1,MvS (invA S.A) S (S.mv b) es S1→ ∀j y,es[j]?=some y→okE S.S (S.D.nb*S.D.P) (stA S.A es j) y)∧ (∀es S1 S2,MvS (invA S.A) S (S.mv b) es S1→CmP es S1 S2 (.done 0)→S2.ps b=3):=by intro b hb h3;have hP:=q.geo.P;have hl:=Zz (S:=S) (b:=b);have:=bd.pe b;exact⟨by omega,by omega,fun i es S1 p h hp=>h.mvOk q ok hS hd hp,fun es S1 h=>h.ok q,fun es S1 S2 h c=>(h.cm c q ok).2.1.ps3 b hb h3⟩
end
theorem Aoi {p:Prop}(h:p:=by
 obtain⟨-,-,i,m,g1,g2,g3,g4,g5,-⟩:=q.map s p h
 obtain⟨rfl,-⟩:=Hm g3 hj2 (show i*S.D.P+m=b'*S.D.P+j by omega)
 rw [h3]at g5;cases g5):p:=h
section
variable (L:Lg P0 E F K)(X:Fx F K)
include L X
omit L X in
theorem AInv.clg (q:AInv S):AInv S.clg∧Keep S S.clg∧Sm S S.clg∧S.clg.A=S.A∧S.clg.jr=S.jr∧S.clg.log<0∧S.clg.down=S.down∧ ∀k,Bd S k→Bd S.clg k:=by
 unfold Ap.clg;by_cases hl:0≤S.log
 ·rw [if_pos hl];obtain⟨b,hb⟩:=Int.eq_ofNat_of_zero_le hl;have g2:S.ps S.log.toNat=2:=((q.iw.wi true).sel hl).2;have hdl:0≤S.dat→S.dat≠S.log:=q.iw.ne false;have iwc:IW {S with ps:=upd S.ps S.log.toNat 3,log:= -1}:=by
   refine⟨fun k=>?_,fun k hk=>?_⟩
   ·cases k with
    |true=>exact⟨fun h=>by simp only [Ap.sel]at h;simp at h,by simp [Ap.sel]⟩
    |false=>have w:=q.iw.wi false;refine⟨fun h=>?_,w.lo⟩;obtain⟨h1,h2⟩:=w.sel h;refine⟨h1,?_⟩;have:=hdl h;have hd:0≤S.dat:=h;show upd S.ps S.log.toNat 3 S.dat.toNat=2;rw [upd_ne _ _ (by omega)];exact h2
   ·cases k with
    |true=>simp [Ap.sel]at hk
    |false=>have hd:0≤S.dat:=hk;show S.dat≠ -1;omega
  obtain⟨a,c⟩:=q.close (k:=true) hl iwc;exact⟨a,c,⟨rfl,rfl,rfl,rfl,rfl⟩,rfl,rfl,by simp,rfl,fun k bd=>⟨bd.last,bd.wr,bd.pe,bd.nx,bd.dn⟩⟩
 ·rw [if_neg hl];exact⟨q,.refl _,⟨rfl,rfl,rfl,rfl,rfl⟩,rfl,rfl,by omega,rfl,fun k bd=>bd⟩
omit L X in
theorem FrR.sm (f:FrR S S'):Sm S S':=⟨f.nb,f.P,f.sz,f.en,f.secs⟩
omit L X in
theorem Vu (S:Ap)(b i:Nat)(h:i≠b):(S.ers b).1.ps i=S.ps i:=by
 unfold Ap.ers;split;·exact upd_ne _ _ h
 ·split;·rfl
  ·split <;> exact upd_ne _ _ h
omit L X in
theorem Aoj (S:Ap)(b:Nat):(S.ers b).1.A=S.A:=by
 unfold Ap.ers;split;·rfl
 ·split;·rfl
  ·split <;> rfl
omit L X in
theorem ErP.inv {l:List Int}(h:ErP l S S' o)(q:AInv S)(hl:l.Nodup)(hj: ∀y∈l,∃b:Nat,y=(b:Int)∧b<S.D.nb∧S.ps b=3∧S.jr (b:Int)=true): AInv S'∧Sm S S'∧PwR S S' o∧(∀s,S'.rd s=S.rd s)∧(∀i:Nat,(i:Int)∉l→S'.ps i=S.ps i∧S'.jr (i:Int)=S.jr (i:Int)):=by
 induction h with
 |nil=>exact⟨q,⟨rfl,rfl,rfl,rfl,rfl⟩,.rf rfl (by simp),fun _=>rfl,fun _ _=>⟨rfl,rfl⟩⟩
 | @cons b l S S' o h t ih=>
  obtain⟨b',e,h1,h2,h3⟩:=hj _ (List.mem_cons_self ..);have:b'=b:=by omega
  subst this;obtain⟨q1,-,pw⟩:=q.ersJ h1 h2 h3;rw [h]at pw;have sm:=R9 S b';rw [List.nodup_cons]at hl;have hm: ∀s p,S.A s=some p→ ∀j:Nat,j<S.D.P→p≠((b'*S.D.P+j:Nat):Int):=fun s p h j hj2 e=>by exact Aoi
  have hjs: ∀i:Nat,i≠b'→Bh (S.ers b').1.jr (b':Int) false (i:Int)=S.jr (i:Int):=fun i hi=>by unfold Bh;rw [if_neg (by omega),Kw]
  obtain⟨a1,a2,a3,a4,a5⟩:=ih q1 hl.2 fun y hy=>by
   obtain⟨i,e5,g1,g2,g3⟩:=hj y (List.mem_cons_of_mem _ hy);have hne:i≠b':=fun e'=>by subst e';rw [e5]at hy;exact hl.1 hy
   exact⟨i,e5,by show i<(S.ers b').1.D.nb;rw [sm.nb];exact g1,by show(S.ers b').1.ps i=3;rw [Vu S b' i hne];exact g2,by show Bh _ _ _ _=_;rw [hjs i hne];exact g3⟩
  refine⟨a1,sm.trans ⟨a2.nb,a2.P,a2.sz,a2.en,a2.secs⟩,pw.tr (by simp) a3,fun s=>(a4 s).trans (Z0 q hm s),fun i hi=>?_⟩;rw [List.mem_cons,not_or]at hi;have hne:i≠b':=fun e'=>hi.1 (by rw [e']);obtain⟨c1,c2⟩:=a5 i hi.2;exact⟨c1.trans (Vu S b' i hne),c2.trans (hjs i hne)⟩
 | @bad b l S h=>
  obtain⟨b',e,h1,h2,h3⟩:=hj _ (List.mem_cons_self ..);have:b'=b:=by omega
  subst this;have hm: ∀s p,S.A s=some p→ ∀j:Nat,j<S.D.P→p≠((b'*S.D.P+j:Nat):Int):=fun s p h j hj2 e=>by exact Aoi
  obtain⟨a1,-,a3⟩:=q.ers h1 h2 hm (.inr h);rw [h]at a3;refine⟨a1,R9 S b',a3,Z0 q hm,fun i hi=>?_⟩;rw [List.mem_cons,not_or]at hi;exact⟨Vu S b' i fun e'=>hi.1 (by rw [e']),by rw [Kw]⟩
omit L X in
theorem DomA.len (q:AInv S){D:List Int}(h:DomA S.A D):D.length≤S.S:=by refine D2 S.S D (h.lt.imp fun {a b} h=>by omega) fun x hx=>?_;have h1:=(h.mem x).1 hx;obtain⟨p,hp⟩:=Option.isSome_iff_exists.1 h1;obtain⟨g1,g2,-⟩:=q.map x p hp;exact⟨g1,g2⟩
omit L X in
theorem DomB.len (q:AInv S){J:List Int}(h:DomB S.jr J):J.length≤S.D.nb:=by refine D2 S.D.nb J (h.lt.imp fun {a b} h=>by omega) fun x hx=>?_;obtain⟨b,e1,e2,-⟩:=q.jr x ((h.mem x).1 hx);omega
omit L X in
theorem AInv.ckR {D:List Int}(q:AInv S)(bd:Bd S k)(hS:S.S≤10)(hD:DomA S.A D)(h:RcP 3 (A8 S.A D) S.clg S1 o): AInv S1∧Keep S S1∧Sm S S1∧S1.A=S.A∧Bd S1 (k+400)∧PwR S S1 o∧(∀s,S1.rd s=S.rd s)∧ ∀y,S.jr y=true→ ∃b:Nat,y=(b:Int)∧b<S1.D.nb∧S1.ps b=3∧S1.jr (b:Int)=true:=by
 obtain⟨qc,kc,sc,cA,cj,cl,cd,cb⟩:=q.clg;have hD':=hD.len q;obtain⟨q1,k1,c1⟩:=h.inv qc;obtain⟨f,-⟩:=h.fr qc.iw;have b1:=h.bd qc.iw (by rw [sc.nb];exact q.geo.nb.2) (cb k bd);have hr:recN S.clg (A8 S.A D)≤(A8 S.A D).length+1:=Iv (by rw [sc.sz];exact q.geo.sz.1);have hel:(A8 S.A D).length=D.length:=by unfold A8;rw [List.length_map]
 have sm:=sc.trans f.sm;have kk:=kc.trans k1 sc.nb;refine⟨q1,kk,sm,f.A.trans cA,b1.mono (by omega),by unfold PwR;rw [←cd];exact c1,fun s=>F9 q kk ⟨sm.P,sm.sz⟩ (by rw [f.A,cA]),fun y hy=>?_⟩;obtain⟨b,e1,e2,e3⟩:=qc.jr y (by rw [cj];exact hy);have e2':b<S.D.nb:=by rw [sc.nb]at e2;exact e2
 have h3:S.clg.ps b=3:=by
  rcases e3 with e3|⟨-,e4⟩;·exact e3
  ·omega
 refine⟨b,e1,by rw [sm.nb];exact e2',k1.ps3 b e2 h3,?_⟩;rw [k1.jrm b e2 (by omega),cj,←e1];exact hy
omit L X in
theorem CkO.inv (h:CkO S S' o)(q:AInv S)(bd:Bd S k)(hS:S.S≤10): AInv S'∧Sm S S'∧Bd S' (k+1000)∧PwR S S' o∧ ∀s,S'.rd s=S.rd s:=by
 cases h with
 |bad hD h ho=>obtain⟨a,b,c,d,e,f,i,-⟩:=q.ckR bd hS hD h;exact⟨a,c,e.mono (by omega),f,i⟩
 | @run D J S1 S' o hD h hJ e=>obtain⟨a,b,c,d,e1,f,i,j⟩:=q.ckR bd hS hD h;obtain⟨a1,a2,a3,a4,-⟩:=e.inv a (hJ.lt.imp fun {a b} h=>by omega) fun y hy=>j y ((hJ.mem y).1 hy);have b1:=e.bd e1;have hl:=hJ.len q;have hnb:=q.geo.nb;refine⟨a1,c.trans a2,b1.mono (by omega),f.tr (by simp) a3,fun s=>(a4 s).trans (i s)⟩
omit L X in
theorem Abo {J:List Int}(h:J.Pairwise (· < ·)){y:Int}(hy:J[i]?=some y):y∉J.take i:=by intro hm;obtain⟨j,hj,e⟩:=List.getElem_of_mem hm;rw [List.length_take]at hj;rw [List.getElem_take]at e;obtain⟨l1,l2⟩:=List.getElem?_eq_some_iff.1 hy;have:=List.pairwise_iff_getElem.1 h j i (by omega) l1 (by omega);omega
omit L X in
theorem AInv.ckH (q:AInv S)(bd:Bd S k)(hS:S.S≤10)(hk:k<50000): ∀D J S1 i Si,DomA S.A D→RcP 3 (A8 S.A D) S.clg S1 (.done 0)→DomB S.jr J→ErP (J.take i) S1 Si (.done 0)→ ∀y,J[i]?=some y→ ∃b:Nat,y=(b:Int)∧b<Si.D.nb∧(Si.ps b=2∨Si.ps b=3)∧Si.pe b<100000∧Si.D.n+1<100000:=by
 intro D J S1 i Si hD h hJ e y hy;obtain⟨a,b,c,d,e1,f,ii,j⟩:=q.ckR bd hS hD h;have hnd:J.Nodup:=hJ.lt.imp fun {a b} h=>by omega
 obtain⟨a1,a2,a3,a4,a5⟩:=e.inv a (hnd.sublist (List.take_sublist _ _)) fun y hy=>j y ((hJ.mem y).1 (List.mem_of_mem_take hy));have b1:=e.bd e1;have hl:=hJ.len q;have hnb:=q.geo.nb;have hlt:(J.take i).length≤12:=by rw [List.length_take];omega
 obtain⟨x,x1,x2,x3,x4⟩:=j y ((hJ.mem y).1 (List.mem_of_getElem? hy));obtain⟨y1,y2⟩:=a5 x (by rw [←x1];exact Abo hJ.lt hy);have h1:=b1.pe x;have h2:=b1.dn;exact⟨x,x1,by rw [a2.nb];exact x2,.inr (by rw [y1];exact x3),by omega,by omega⟩
