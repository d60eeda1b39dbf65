/- Part of the proof. -/
import Derived.Test.YtgkianlpkdfhkaaGreatQ18
import Derived.Test.YtgkianlpkdfhkaaGreatQ14
set_option linter.unusedVariables false
set_option linter.unusedSectionVars false
set_option linter.unusedSimpArgs false
set_option maxRecDepth 10000
set_option maxHeartbeats 4000000
namespace Go.Ev
section
variable {P0:Program}{E:Env}{F:T CFn}{K:T (List AV×AV)}(L:Lg P0 E F K)(X:Fx F K)
include L X
structure DomB (f:Int→Bool)(J:List Int):Prop where
 lt:J.Pairwise (· < ·)
 mem: ∀s,s∈J↔f s=true
omit L X in
theorem SetR.dom {M:List (Int×AV×Nat)}{ck:Nat}{f:Int→Bool}(o:MOk M ck)(q: ∀k:Int,Bp M k=if f k=true then some (.bool true)else none){J:List Int}(p:J.Perm (M.map (·.1))):DomB f (Fi J):=by
 refine⟨X4 (p.nodup_iff.2 o.keys),fun s=>?_⟩
 rw [(Jb J).mem_iff,p.mem_iff,←mHas_mem,C3]
 have h1:=q s
 unfold Bp at h1
 by_cases hf:f s=true
 ·rw [if_pos hf]at h1
  cases hx:M.find? fun x=>decide (s=x.1)with
  |none=>rw [hx]at h1;cases h1
  |some x=>simp [hf]
 ·rw [if_neg hf,Option.map_eq_none_iff]at h1
  rw [h1];simp [hf]
def Ap.clg (S:Ap):Ap:=if 0≤S.log then {S with ps:=upd S.ps S.log.toNat 3,log:= -1}else S
inductive ErP:List Int→Ap→Ap→WO→Prop where
 |nil {S:Ap}:ErP [] S S (.done 0)
 |cons {b:Nat} {l:List Int} {S S':Ap} {o:WO} (h:(S.ers b).2= .done 0) (t:ErP l {(S.ers b).1 with jr:=A1 (S.ers b).1.jr ((b:Nat):Int) false} S' o):ErP (((b:Nat):Int)::l) S S' o
 |bad {b:Nat} {l:List Int} {S:Ap} (h:(S.ers b).2= .pow):ErP (((b:Nat):Int)::l) S (S.ers b).1 .pow
omit L X in
theorem ErP.app {l l':List Int}{S S1 S':Ap}{o o1:WO}(h:ErP l S S1 o1)(e:o1= .done 0)(t:ErP l' S1 S' o):ErP (l++l') S S' o:=by
 induction h with
 |nil=>exact t
 |cons h _ ih=>exact .cons h (ih e t)
 |bad=>cases e
inductive CkO (S:Ap):Ap→WO→Prop where
 |bad {D:List Int} {S1:Ap} {o:WO} (hD:DomA S.A D) (h:RcP 3 (B0 S.A D) S.clg S1 o) (ho:o= .full∨o= .pow):CkO S S1 o
 |run {D J:List Int} {S1 S':Ap} {o:WO} (hD:DomA S.A D) (h:RcP 3 (B0 S.A D) S.clg S1 (.done 0)) (hJ:DomB S.jr J) (e:ErP J S1 S' o):CkO S S' o
section
variable {h:H}{κ: Nat→Nat}{I:Ai}{S:Ap}
theorem bo (T:Tb P0 E F K)(U:SortOk P0 E F 129)(r:ApR κ h I S)(iw:IW S)(hdn:S.down=false)(hS:S.S<1000)(hj: ∀k,S.jr k=true→0≤k∧k<S.D.nb)(hf:S.last<S.next∧S.next<10000000)(hn:S.D.n+40000<100000)
  (hE: ∀D J S1 i Si,DomA S.A D→RcP 3 (B0 S.A D) S.clg S1 (.done 0)→DomB S.jr J→ErP (J.take i) S1 Si (.done 0)→ ∀y,J[i]?=some y→ ∃b:Nat,y=((b:Nat):Int)∧b<Si.D.nb∧(Si.ps b=2∨Si.ps b=3)∧Si.pe b<100000∧Si.D.n+1<100000):
  CtX P0 E F K 92 [.ptr I.s 0] h
   (fun v h'=> ∃S' κ',CkO S S' (.done 0)∧ApR κ' h' I S'∧AChg κ h κ' h')
   (fun v h'=> ∃(o:WO) (S':Ap) (κ':Nat→Nat),v= .ifc 44 (AI ((eOf o:Nat):Int))∧(o= .full∨o= .pow)∧CkO S S' o∧ApR κ' h' I S'∧AChg κ h κ' h'):=by
 have sk:=r.sk
 have ls:=sk.lt
 have hcol:=r.col
 have hlt:=r.lt
 have hnb:=r.dv.ok.g.nb
 have hsz:=r.dv.ok.g.sz
 obtain⟨M,ck,m1,m2,m3⟩:=r.mj.ex
 have lm:=m1.lt
 have hM:M.length≤S.D.nb:=by
  have:=Dk S.D.nb (M.map (·.1)) m2.keys fun k hk=>by
   refine hj k ?_
   have h2:=mHas_mem.2 hk
   rw [C3]at h2
   have h1:=m3 k
   unfold Bp at h1
   by_cases q:S.jr k=true
   ·exact q
   ·rw [if_neg q,Option.map_eq_none_iff]at h1;rw [h1]at h2;cases h2
  rwa [List.length_map]at this
 unfold apC at sk
 rw [hdn]at sk
 refine Ca L X.f92 X.k92 rfl rfl rfl fun Q x cs G Gp=>?_
 refine wk ?_
 refine cal (c:=Av L X) (g:=?_)
 rintro _ rfl
 refine wk ?_
 refine cal (c:=Wd L X U m2 (O7 (by exact kps) m1) (by omega)) (g:=?_)
 rintro _ h2 ⟨J0,p,k2,w2⟩
 have hJ:=SetR.dom m2 m3 p
 have hJl:(Fi J0).length≤S.D.nb:=by rw [(Jb J0).length_eq,p.length_eq,List.length_map];exact hM
 generalize Fi J0=J at*
 have r2:ApR (ext κ h.n) h2 I S:=r.k0 k2 fun b hb=>Af hb
 have a2:AChg κ h (ext κ h.n) h2:=AChg.k0 k2 fun b hb=>Af hb
 have w3:=w2.bd
 by_cases hlog:0≤S.log
 ·obtain⟨hl1,hl2⟩:=(iw.wi true).sel hlog
  have hsl:S.sel true=S.log:=rfl
  rw [hsl]at hl1 hl2
  obtain⟨lg,hlg⟩:=Int.eq_ofNat_of_zero_le hlog
  have ec:S.clg= {S with ps:=upd S.ps lg 3,log:= -1}:=by unfold Ap.clg;rw [if_pos hlog,hlg,Int.toNat_natCast]
  have iwc:IW S.clg:=by
   rw [ec]
   refine⟨fun k=>?_,fun k=>?_⟩
   ·cases k with
    |true=>exact⟨fun h=>absurd h (by show¬(0:Int)≤ -1;omega),by show(-1:Int)≤ -1;omega⟩
    |false=>
     refine⟨fun h=>?_,(iw.wi false).lo⟩
     obtain⟨f1,f2⟩:=(iw.wi false).sel h
     refine⟨f1,?_⟩
     show upd S.ps lg 3 (S.sel false).toNat=2
     have hne:=iw.ne false h
     rw [upd_ne _ _ (fun e=>hne ?_)]
     ·exact f2
     ·show S.sel false=S.log
      have:0≤S.sel false:=h
      rw [hlg];omega
   ·cases k with
    |true=>intro h;exact absurd h (by show¬(0:Int)≤ -1;omega)
    |false=>intro h;show S.dat≠ -1;have:0≤S.dat:=h;omega
  have hcD:S.clg.D=S.D:=by rw [ec]
  have hcl:S.clg.last=S.last:=by rw [ec]
  have hcx:S.clg.next=S.next:=by rw [ec]
  have hcA:S.clg.A=S.A:=by rw [ec]
  rw [hlg]at sk hl2
  rw [Int.toNat_natCast]at hl2
  obtain⟨cb2,po2⟩:=r2.po
  refine wk ?_
  refine cal (c:=G6 L X (i:=lg) (po2.k0 (by exact kps)) (by omega) hl2) (g:=?_)
  rintro _ h3 ⟨rfl,po3,k3⟩
  have r3:=(r2.k0 (κ':=ext κ h.n) (h':=hp h2.n h2.t []) (by exact kps) fun _ _=>rfl).pool k3 po3
  have sk3:=r3.sk
  have ls3:=sk3.lt
  have hcol3:=r3.col
  have nn3:=k3.n
  simp only [Am]at nn3
  unfold apC at sk3
  refine wk ?_
  have k4:Kp (fun j=>j=I.s) h3 (hp h3.n h3.t [(I.s,some (cl (apC I {S with ps:=upd S.ps lg 3,log:= -1})))]):=kps
  have r4:ApR (ext κ h.n) (hp h3.n h3.t [(I.s,some (cl (apC I {S with ps:=upd S.ps lg 3,log:= -1})))]) I S.clg:=by rw [ec];exact r3.st k4 lkp ⟨rfl,rfl,rfl,rfl,rfl,rfl,rfl,rfl⟩
  have a4:AChg κ h (ext κ h.n) (hp h3.n h3.t [(I.s,some (cl (apC I {S with ps:=upd S.ps lg 3,log:= -1})))]):=a2.trans ((AChg.kp (κ:= ext κ h.n) k3 fun j _ e=>by rcases e with e|e <;> subst e <;> omega).trans (AChg.kp k4 fun j _ e=>by subst e;omega))
  have mp4:=r4.mp
  rw [hcA]at mp4
  refine cal (c:=It L X U (mp4.k0 (by exact kps))) (g:=?_)
  rintro v5 h5 ⟨D,hD,hDl,el,k5⟩
  have r5:ApR (ext κ h.n) h5 I S.clg:=r4.k0 (by exact kps) fun _ _=>rfl
  have a5:AChg κ h (ext κ h.n) h5:=a4.trans (AChg.k0 (κ':=ext κ h.n) (by exact kps) fun _ _=>rfl)
  have hok: ∀e∈B0 S.A D,e.Ok:=by
   intro e he
   unfold B0 at he
   obtain⟨s,hs,rfl⟩:=List.mem_map.1 he
   have:=(hD.mem s).1 hs
   obtain⟨q,hq⟩:=Option.isSome_iff_exists.1 this
   have hrg:=r.mp.rg s q hq
   have hm:S.D.nb*S.D.P≤12*6:=Nat.mul_le_mul r.dv.ok.g.nb.2 (by have:=r.dv.ok.g.P;omega)
   have hat:atA S.A s=q:=by unfold atA;rw [hq];rfl
   exact⟨by show 0≤s;omega,by show s≤_;omega,by show -1≤atA S.A s;omega,by show atA S.A s≤_;omega⟩
  have hel:(B0 S.A D).length≤S.S:=by
   unfold B0;rw [List.length_map]
   refine Dk S.S D (hD.lt.imp fun h=>Int.ne_of_lt h) fun s hs=>?_
   obtain⟨q,hq⟩:=Option.isSome_iff_exists.1 ((hD.mem s).1 hs)
   have hrg:=r.mp.rg s q hq
   exact⟨hrg.1,hrg.2.1⟩
  have hrec:recN S.clg (B0 S.A D)≤(B0 S.A D).length+1:=K2 (by rw [hcD];omega)
  refine wk ?_
  refine H3 L (c:=J3 (k:=3) L X T (r5.k0 (κ':=ext κ h.n) (by exact kps) fun _ _=>rfl) iwc (.inr rfl) ((el.mono (Nat.zero_le _)).k0 (by exact kps)) hok (by omega) (by rw [hcl,hcx];omega) (by rw [hcD];omega)) (g:=?_) (gp:=?_)
  ·rintro _ h6 ⟨S1,κ6,hrc,r6,a6⟩
   have a7:AChg κ h κ6 h6:=a5.trans ((AChg.k0 (κ':=ext κ h.n) (by exact kps) fun _ _=>rfl).trans a6)
   have n6:=a6.k.n
   have n5:=k5.n
   simp only [Am]at n5 n6
   rcases w2.ex with⟨rfl,rfl⟩|⟨hpJ,jb,rfl,w4,w5⟩
   ·refine wk ?_
    refine A2 L ?_
    refine wk ?_
    refine ret X.f92 ?_
    exact⟨S1,κ6,.run hD hrc hJ .nil,r6.k0 kps fun _ _=>rfl,a7.trans (AChg.k0 kps fun _ _=>rfl)⟩
   ·simp only [Am]at w5
    have hj0:ext κ h.n jb=0:=B4 w5
    have hjb2:=w4.lt
    have wj5:Bk h5 jb (J.map AI):=Ag k5 (As k4 (by omega) (As k3 (by omega) w4))
    have wj6:Bk h6 jb (J.map AI):=As a6.k (by rw [hj0];omega) (by exact lkp)
    have hj6:κ6 jb=0:=(a6.col jb (by simp only [Am];omega)).trans hj0
    refine wk ?_
    refine Co L (α:= Ap×(Nat→Nat)) (T:=fun i _=> [(45,some (AI ((i:Nat):Int))),(44,some (AI ((J.length:Nat):Int))),(43,some (.slc jb 0 J.length (Aa+1))),(0,some (.ptr I.s 0))]) (n:=J.length)
     (R:=fun i s hh=>ApR s.2 hh I s.1∧AChg κ h s.2 hh∧ErP (J.take i) S1 s.1 (.done 0)∧Bk hh jb (J.map AI)∧s.2 jb=0) (i0:=0) (S1,κ6) tsb
     ⟨r6.k0 (by exact kps) fun _ _=>rfl,a7.trans (AChg.k0 (by exact kps) fun _ _=>rfl),.nil,by exact lkp,hj6⟩ (Nat.zero_le _) ?_ ?_
    ·rintro i ⟨Si,κi⟩ hh hi ⟨ri,ai,eri,kj,hcj⟩ ih
     simp only at ri ai eri hcj
     have hx:J[i]?=some J[i]:=List.getElem?_eq_getElem hi
     obtain⟨b,hy,q1,q2,q3,q4⟩:=hE D J S1 i Si hD hrc hJ eri _ hx
     rw [hy]at hx
     have hja:(J.map AI)[i]?=some (AI ((b:Nat):Int)):=by rw [List.getElem?_map,hx];rfl
     have htk:J.take (i+1)=J.take i++ [((b:Nat):Int)]:=by rw [List.take_add_one,hx];rfl
     have hsp:J=J.take i++(((b:Nat):Int)::J.drop (i+1)):=by
      have h1:=(List.take_append_drop i J).symm
      rw [List.drop_eq_getElem_cons hi,hy]at h1
      exact h1
     have lj:=kj.lt
     refine wk ?_
     refine H3 L (c:=L3 (b:=b) L X (ri.k0 (κ':=κi) (by exact kps) fun _ _=>rfl) q1 q2 q3 q4) (g:=?_) (gp:=?_)
     ·rintro _ h7 ⟨g1,κ7,r7,a8⟩
      have a9:AChg κ h κ7 h7:=ai.trans ((AChg.k0 (κ':=κi) (by exact kps) fun _ _=>rfl).trans a8)
      have kj7:Bk h7 jb (J.map AI):=As a8.k (by rw [hcj];omega) (by exact lkp)
      have hc7:κ7 jb=0:=(a8.col jb (by simp only [Am];omega)).trans hcj
      obtain⟨M7,ck7,o1,o2,o3⟩:=r7.mj.ex
      have lo1:=o1.lt
      have sk7:=r7.sk
      have ls7:=sk7.lt
      have hcol7:=r7.col
      have nsj:I.s≠I.rj:=fun e=>by rw [e]at hcol7;omega
      have njj:jb≠I.rj:=fun e=>by rw [←e]at hcol7;omega
      have lj7:=kj7.lt
      unfold apC at sk7
      refine wk ?_
      (apply Jz L rfl;exact Gl (KE.int .i64) o2 rfl rfl lkq;rfl)
      have k8:Kp (fun j=>j=I.rj) h7 (hp h7.n h7.t [(I.rj,some (.map ((Ho M7 ((b:Nat):Int)).map (mE AI)) ck7))]):=kps
      have r8:=r7.jset k8 (SetR.del (k:=((b:Nat):Int)) lkq o2 o3)
      have a10:AChg κ h κ7 _:=a9.trans (AChg.kp k8 fun j _ e=>by subst e;omega)
      refine wk ?_
      refine ih ({(Si.ers b).1 with jr:=A1 (Si.ers b).1.jr ((b:Nat):Int) false},κ7) _ _ ⟨r8.k0 ?_ fun _ _=>rfl,a10.trans (AChg.k0 ?_ fun _ _=>rfl),?_,?_,hc7⟩ tsb
      ·exact kps
      ·exact kps
      ·rw [htk];exact eri.app rfl (.cons g1 .nil)
      ·exact lkp
     ·rintro _ h7 ⟨rfl,g1,κ7,r7,a8⟩
      refine Ao L X.f92 ?_
      exact Gp _ _ ⟨.pow,_,κ7,rfl,.inr rfl,.run hD hrc hJ (by rw [hsp];exact eri.app rfl (.bad g1)),r7,ai.trans ((AChg.k0 (κ':=κi) kps fun _ _=>rfl).trans a8)⟩
    ·rintro⟨Si,κi⟩ hh ⟨ri,ai,eri,kj,hcj⟩
     rw [List.take_length]at eri
     refine wk ?_
     refine ret X.f92 ?_
     exact⟨Si,κi,.run hD hrc hJ eri,ri.k0 kps fun _ _=>rfl,ai.trans (AChg.k0 kps fun _ _=>rfl)⟩
  ·rintro _ h6 ⟨o,S1,κ6,rfl,ho,hrc,r6,a6⟩
   refine Ao L X.f92 ?_
   exact Gp _ _ ⟨o,S1,κ6,rfl,ho,.bad hD hrc ho,r6,a5.trans ((AChg.k0 (κ':=ext κ h.n) kps fun _ _=>rfl).trans a6)⟩
 ·have ec:S.clg=S:=by unfold Ap.clg;rw [if_neg hlog]
  have iwc:IW S.clg:=by rw [ec];exact iw
  have hcD:S.clg.D=S.D:=by rw [ec]
  have hcl:S.clg.last=S.last:=by rw [ec]
  have hcx:S.clg.next=S.next:=by rw [ec]
  have hcA:S.clg.A=S.A:=by rw [ec]
  have r4:ApR (ext κ h.n) (hp h2.n h2.t []) I S.clg:=by rw [ec];exact r2.k0 (by exact kps) fun _ _=>rfl
  have a4:AChg κ h (ext κ h.n) (hp h2.n h2.t []):=a2.trans (AChg.k0 (by exact kps) fun _ _=>rfl)
  refine wk ?_
  have mp4:=r4.mp
  rw [hcA]at mp4
  refine cal (c:=It L X U (mp4.k0 (by exact kps))) (g:=?_)
  rintro v5 h5 ⟨D,hD,hDl,el,k5⟩
  have r5:ApR (ext κ h.n) h5 I S.clg:=r4.k0 (by exact kps) fun _ _=>rfl
  have a5:AChg κ h (ext κ h.n) h5:=a4.trans (AChg.k0 (κ':=ext κ h.n) (by exact kps) fun _ _=>rfl)
  have hok: ∀e∈B0 S.A D,e.Ok:=by
   intro e he
   unfold B0 at he
   obtain⟨s,hs,rfl⟩:=List.mem_map.1 he
   have:=(hD.mem s).1 hs
   obtain⟨q,hq⟩:=Option.isSome_iff_exists.1 this
   have hrg:=r.mp.rg s q hq
   have hm:S.D.nb*S.D.P≤12*6:=Nat.mul_le_mul r.dv.ok.g.nb.2 (by have:=r.dv.ok.g.P;omega)
   have hat:atA S.A s=q:=by unfold atA;rw [hq];rfl
   exact⟨by show 0≤s;omega,by show s≤_;omega,by show -1≤atA S.A s;omega,by show atA S.A s≤_;omega⟩
  have hel:(B0 S.A D).length≤S.S:=by
   unfold B0;rw [List.length_map]
   refine Dk S.S D (hD.lt.imp fun h=>Int.ne_of_lt h) fun s hs=>?_
   obtain⟨q,hq⟩:=Option.isSome_iff_exists.1 ((hD.mem s).1 hs)
   have hrg:=r.mp.rg s q hq
   exact⟨hrg.1,hrg.2.1⟩
  have hrec:recN S.clg (B0 S.A D)≤(B0 S.A D).length+1:=K2 (by rw [hcD];omega)
  refine wk ?_
  refine H3 L (c:=J3 (k:=3) L X T (r5.k0 (κ':=ext κ h.n) (by exact kps) fun _ _=>rfl) iwc (.inr rfl) ((el.mono (Nat.zero_le _)).k0 (by exact kps)) hok (by omega) (by rw [hcl,hcx];omega) (by rw [hcD];omega)) (g:=?_) (gp:=?_)
  ·rintro _ h6 ⟨S1,κ6,hrc,r6,a6⟩
   have a7:AChg κ h κ6 h6:=a5.trans ((AChg.k0 (κ':=ext κ h.n) (by exact kps) fun _ _=>rfl).trans a6)
   have n6:=a6.k.n
   have n5:=k5.n
   simp only [Am]at n5 n6
   rcases w2.ex with⟨rfl,rfl⟩|⟨hpJ,jb,rfl,w4,w5⟩
   ·refine wk ?_
    refine A2 L ?_
    refine wk ?_
    refine ret X.f92 ?_
    exact⟨S1,κ6,.run hD hrc hJ .nil,r6.k0 kps fun _ _=>rfl,a7.trans (AChg.k0 kps fun _ _=>rfl)⟩
   ·simp only [Am]at w5
    have hj0:ext κ h.n jb=0:=B4 w5
    have hjb2:=w4.lt
    have wj5:Bk h5 jb (J.map AI):=Ag k5 w4
    have wj6:Bk h6 jb (J.map AI):=As a6.k (by rw [hj0];omega) (by exact lkp)
    have hj6:κ6 jb=0:=(a6.col jb (by simp only [Am];omega)).trans hj0
    refine wk ?_
    refine Co L (α:= Ap×(Nat→Nat)) (T:=fun i _=> [(45,some (AI ((i:Nat):Int))),(44,some (AI ((J.length:Nat):Int))),(43,some (.slc jb 0 J.length (Aa+1))),(0,some (.ptr I.s 0))]) (n:=J.length)
     (R:=fun i s hh=>ApR s.2 hh I s.1∧AChg κ h s.2 hh∧ErP (J.take i) S1 s.1 (.done 0)∧Bk hh jb (J.map AI)∧s.2 jb=0) (i0:=0) (S1,κ6) tsb
     ⟨r6.k0 (by exact kps) fun _ _=>rfl,a7.trans (AChg.k0 (by exact kps) fun _ _=>rfl),.nil,by exact lkp,hj6⟩ (Nat.zero_le _) ?_ ?_
    ·rintro i ⟨Si,κi⟩ hh hi ⟨ri,ai,eri,kj,hcj⟩ ih
     simp only at ri ai eri hcj
     have hx:J[i]?=some J[i]:=List.getElem?_eq_getElem hi
     obtain⟨b,hy,q1,q2,q3,q4⟩:=hE D J S1 i Si hD hrc hJ eri _ hx
     rw [hy]at hx
     have hja:(J.map AI)[i]?=some (AI ((b:Nat):Int)):=by rw [List.getElem?_map,hx];rfl
     have htk:J.take (i+1)=J.take i++ [((b:Nat):Int)]:=by rw [List.take_add_one,hx];rfl
     have hsp:J=J.take i++(((b:Nat):Int)::J.drop (i+1)):=by
      have h1:=(List.take_append_drop i J).symm
      rw [List.drop_eq_getElem_cons hi,hy]at h1
      exact h1
     have lj:=kj.lt
     refine wk ?_
     refine H3 L (c:=L3 (b:=b) L X (ri.k0 (κ':=κi) (by exact kps) fun _ _=>rfl) q1 q2 q3 q4) (g:=?_) (gp:=?_)
     ·rintro _ h7 ⟨g1,κ7,r7,a8⟩
      have a9:AChg κ h κ7 h7:=ai.trans ((AChg.k0 (κ':=κi) (by exact kps) fun _ _=>rfl).trans a8)
      have kj7:Bk h7 jb (J.map AI):=As a8.k (by rw [hcj];omega) (by exact lkp)
      have hc7:κ7 jb=0:=(a8.col jb (by simp only [Am];omega)).trans hcj
      obtain⟨M7,ck7,o1,o2,o3⟩:=r7.mj.ex
      have lo1:=o1.lt
      have sk7:=r7.sk
      have ls7:=sk7.lt
      have hcol7:=r7.col
      have nsj:I.s≠I.rj:=fun e=>by rw [e]at hcol7;omega
      have njj:jb≠I.rj:=fun e=>by rw [←e]at hcol7;omega
      have lj7:=kj7.lt
      unfold apC at sk7
      refine wk ?_
      (apply Jz L rfl;exact Gl (KE.int .i64) o2 rfl rfl lkq;rfl)
      have k8:Kp (fun j=>j=I.rj) h7 (hp h7.n h7.t [(I.rj,some (.map ((Ho M7 ((b:Nat):Int)).map (mE AI)) ck7))]):=kps
      have r8:=r7.jset k8 (SetR.del (k:=((b:Nat):Int)) lkq o2 o3)
      have a10:AChg κ h κ7 _:=a9.trans (AChg.kp k8 fun j _ e=>by subst e;omega)
      refine wk ?_
      refine ih ({(Si.ers b).1 with jr:=A1 (Si.ers b).1.jr ((b:Nat):Int) false},κ7) _ _ ⟨r8.k0 ?_ fun _ _=>rfl,a10.trans (AChg.k0 ?_ fun _ _=>rfl),?_,?_,hc7⟩ tsb
      ·exact kps
      ·exact kps
      ·rw [htk];exact eri.app rfl (.cons g1 .nil)
      ·exact lkp
     ·rintro _ h7 ⟨rfl,g1,κ7,r7,a8⟩
      refine Ao L X.f92 ?_
      exact Gp _ _ ⟨.pow,_,κ7,rfl,.inr rfl,.run hD hrc hJ (by rw [hsp];exact eri.app rfl (.bad g1)),r7,ai.trans ((AChg.k0 (κ':=κi) kps fun _ _=>rfl).trans a8)⟩
    ·rintro⟨Si,κi⟩ hh ⟨ri,ai,eri,kj,hcj⟩
     rw [List.take_length]at eri
     refine wk ?_
     refine ret X.f92 ?_
     exact⟨Si,κi,.run hD hrc hJ eri,ri.k0 kps fun _ _=>rfl,ai.trans (AChg.k0 kps fun _ _=>rfl)⟩
  ·rintro _ h6 ⟨o,S1,κ6,rfl,ho,hrc,r6,a6⟩
   refine Ao L X.f92 ?_
   exact Gp _ _ ⟨o,S1,κ6,rfl,ho,.bad hD hrc ho,r6,a5.trans ((AChg.k0 (κ':=ext κ h.n) kps fun _ _=>rfl).trans a6)⟩
end
end
section
variable {P0:Program}{E:Env}{F:T CFn}{K:T (List AV×AV)}(L:Lg P0 E F K)(X:Fx F K)
include L X
section
variable {h:H}{κ: Nat→Nat}{I:Ai}{S:Ap}
theorem Qc {ab:Nat}(T:Tb P0 E F K)(U:SortOk P0 E F 129)(r:ApR κ h I S)(ka:Bk h ab [.ptr I.s 0])(iw:IW S)(hdn:S.down=false)(hS:S.S<1000)(hj: ∀k,S.jr k=true→0≤k∧k<S.D.nb)(hf:S.last<S.next∧S.next<10000000)(hn:S.D.n+40000<100000)
  (hE: ∀D J S1 i Si,DomA S.A D→RcP 3 (B0 S.A D) S.clg S1 (.done 0)→DomB S.jr J→ErP (J.take i) S1 Si (.done 0)→ ∀y,J[i]?=some y→ ∃b:Nat,y=((b:Nat):Int)∧b<Si.D.nb∧(Si.ps b=2∨Si.ps b=3)∧Si.pe b<100000∧Si.D.n+1<100000):
  Ct P0 E F K 40 [.ptr ab 0] h (fun v h'=> ∃(o:WO) (S':Ap) (κ':Nat→Nat),v=AI ((eOf o:Nat):Int)∧(o= .done 0∨o= .full∨o= .pow)∧CkO S S' o∧ApR κ' h' I S'∧AChg κ h κ' h'):=by
 have lk:=ka.lt
 refine Al L X.f40 X.k40 rfl rfl fun Q x cs G=>?_
 refine wk ?_
 have cl1: ∀κ2 h2,K0 (hp h.n h.t []) h2→(hp h.n h.t []).n<h2.n→(∀b,b<(hp h.n h.t []).n→κ2 b=κ b)→ApR κ2 h2 I S→CtX P0 E F K 92 (.ptr I.s 0:: []) h2
   (fun v h'=> ∃κ' S',ApR κ' h' I S'∧AChX (fun _=>False) κ2 h2 κ' h'∧CkO S S' (.done 0))
   (fun v h'=> ∃κ' S' e,v= .ifc 44 (AI e)∧ApR κ' h' I S'∧AChX (fun _=>False) κ2 h2 κ' h'∧ ∃o:WO,e=((eOf o:Nat):Int)∧(o= .full∨o= .pow)∧CkO S S' o):=by
  intro κ2 h2 k2 n2 c2 r2
  refine(bo L X T U r2 iw hdn hS hj hf hn hE).mono ?_ ?_
  ·rintro v h' ⟨S',κ',q1,q2,q3⟩
   exact⟨κ',S',q2,q3.x,q1⟩
  ·rintro v h' ⟨o,S',κ',rfl,ho,q1,q2,q3⟩
   exact⟨κ',S',_,rfl,q2,q3.x,o,rfl,ho,q1⟩
 refine cal (c:=Ei L X (r.k0 (κ':=κ) (h':=hp h.n h.t []) (by exact kps) fun _ _=>rfl) (Ag (by exact kps) ka) (fun b e=>e.elim) cl1) (g:=?_)
 rintro v h2 ⟨κ',S',h1,r',a',-,hv⟩
 have a2:AChg κ h κ' h2:=a'.own (AChg.k0 (κ':=κ) (by exact kps) fun _ _=>rfl) fun b e=>e.elim
 rcases hv with⟨rfl,u,q1⟩|⟨e,rfl,o,rfl,ho,q⟩
 ·refine wk ?_
  refine ret X.f40 ?_
  exact⟨.done 0,S',κ',rfl,.inl rfl,q1,r'.k0 kps fun _ _=>rfl,a2.trans (AChg.k0 kps fun _ _=>rfl)⟩
 ·refine wk ?_
  refine ret X.f40 ?_
  exact⟨o,S',κ',rfl,.inr ho,q,r'.k0 kps fun _ _=>rfl,a2.trans (AChg.k0 kps fun _ _=>rfl)⟩
end
end
section
variable {P0:Program}{E:Env}{F:T CFn}{K:T (List AV×AV)}(L:Lg P0 E F K)(X:Fx F K)
include L X
def Ap.age (S:Ap)(b:Nat):Nat:=min (S.next - (S.wr ((b:Nat):Int)).getD 0) 1099511627776
def Ap.cds (S:Ap):Nat→List Nat
 |0=> []
 |i+1=>if S.ps i=3∧S.jr ((i:Nat):Int)=false then S.cds i++ [i]else S.cds i
noncomputable def cdC (S:Ap)(b:Nat):List AV:= [AI ((b:Nat):Int),AI ((valA S.A S.D.P b:Nat):Int),AI ((S.D.P:Nat):Int),AI ((S.age b:Nat):Int)]
omit L X in
theorem Ej (S:Ap)(l:List Nat): ∀x∈l,(cdC S x).length=4:=fun _ _=>rfl
omit L X in
theorem Jh (S:Ap): ∀i,(S.cds i).length≤i
 |0=>Nat.le_refl _
 |i+1=>by
  have:=Jh S i
  simp only [Ap.cds]
  split
  ·rw [List.length_append,List.length_singleton];omega
  ·omega
structure CdR (S:Ap)(h:H)(lo:Nat)(v:AV)(l:List Nat):Prop where
 ex:(l= []∧v= .nils)∨(0<l.length∧ ∃b,v= .slc b 0 l.length (Aa+4)∧Bk h b (l.flatMap (cdC S))∧lo≤b)
omit L X in
theorem CdR.k0 {S:Ap}{h h':H}{lo:Nat}{v:AV}{l:List Nat}(q:CdR S h lo v l)(k:K0 h h'):CdR S h' lo v l:=by
 rcases q.ex with h1|⟨h2,b,h3,h4,h5⟩
 ·exact⟨.inl h1⟩
 ·exact⟨.inr ⟨h2,b,h3,Ag k h4,h5⟩⟩
omit L X in
theorem CdR.app {S:Ap}{h:H}{lo N n i:Nat}{l:List Nat}(hb:Bk h N (l.flatMap (cdC S)++cdC S i))(hlo:lo≤N)(hn:l.length=n):CdR S h lo (.slc N 0 (n+1) (Aa+4)) (l++ [i]):=
 ⟨.inr ⟨by simp,N,by simp [hn],by rw [List.flatMap_append];simpa using hb,hlo⟩⟩
noncomputable def Ut (s c bx a b mk:Nat)(st:LS):Blk:= .loop ⟨st,none,43,cf43.ntmps,tms [(9,some (.fn (.func 101) [] [.ptr a 0,.ptr b 0])),(2,some (.ptr bx 0)),(1,some (.ptr c 0)),(0,some (.ptr s 0))],[10,11],c43_2,c43_9,mk⟩
structure RCd (h hh:H)(I:Ai)(S:Ap)(c a b lb mk:Nat)(cb:List AV)(i:Nat):Prop where
 k:Kp (fun j=>j=c) h hh
 dk:Gk hh mk (.dfr (some []))
 lp:Gk hh (mk+1) (Ut I.s c h.n a b mk .ready)
 ka:Bk hh a [.slc lb 0 S.D.nb (Aa+2)]
 kb:Bk hh b [eI ((3:Nat):Int)]
 kl:Bk hh lb cb
 kx:Bk hh h.n [.ptr I.s 0]
 ex: ∃w,Bk hh c [w]∧CdR S hh (mk+2) w (S.cds i)
omit L X in
theorem K4 {l:List (Nat×Option AV)}{h:H}{x y:O}{M:List (Int×AV×Nat)}{k:Int}{r ck:Nat}{zero v:AV}(hx:evO l x=some (.map r))(hy:evO l y=some (AI k))(hb:Mk h r (M.map (mE AI)) ck)(hv:(Bp M k).getD zero=v):XV (.lookup .pint zero x y false) h l v h:=hv ▸ Dz (KE.int .i64) hx hy hb
section
variable {h:H}{κ: Nat→Nat}{I:Ai}{S:Ap}
theorem m0 {c:Nat}(r:ApR κ h I S)(kc:Bk h c [.nils])(hc:200≤κ c)(hw: ∀b n,S.wr b=some n→n≤S.next)(hnx:S.next<10000000):
  Ct P0 E F K 43 [.ptr I.s 0,.ptr c 0] h
   (fun v h'=>Kp (fun j=>j=c) h h'∧ ∃w,Bk h' c [w]∧CdR S h' h.n w (S.cds S.D.nb)):=by
 have sk:=r.sk
 have ls:=sk.lt
 have lc:=kc.lt
 have hcol:=r.col
 have hlt:=r.lt
 have hnbd:=r.dv.ok.g.nb
 obtain⟨cb,po⟩:=r.po
 have ncs:c≠I.s:=fun e=>by rw [←e]at hcol;omega
 unfold apC at sk
 refine Ad L X.f43 X.k43 rfl rfl fun Q x cs G=>?_
 refine wk ?_
 refine cal (c:=J2 L X (s:=3) (po.k0 (by exact kps))) (g:=?_)
 rintro _ h2 ⟨a,b,lb,rfl,w1,w2,w3,w4,w5,w6,w7⟩
 have n5:=w7.n
 simp only [Am]at n5 w4 w5 w6
 have la:=w1.lt
 have lb':=w2.lt
 have lc':=w3.lt
 refine wk ?_
 refine E0 L (tm':=tms [(9,some (.fn (.func 101) [] [.ptr a 0,.ptr b 0])),(2,some (.ptr h.n 0)),(1,some (.ptr c 0)),(0,some (.ptr I.s 0))]) tsb ?_
 refine Hq L (post:=fun _ h'=>RCd h h' I S c a b lb h2.n cb S.D.nb) rfl rfl rfl ?_ ?_
 ·refine Ct.A ((Iv L X (ps:=S.ps) (pe:=S.pe) (cb:=cb) po.len hnbd.2 po.c0 po.c1 (fun i hh=>RCd h hh I S c a b lb h2.n cb i) (fun i hh r=>⟨r.ka,r.kb,r.kl⟩) (fun i hh h' r k=>?_) (fun i hh hi e r=>?_) (fun i hh hi e r=>?_) ⟨kps,lkg,(by unfold Ut;exact lkg),lkp,lkp,lkp,lkp,.nils,lkp,⟨.inl ⟨rfl,rfl⟩⟩⟩).mono fun v h' p=>p)
  ·exact⟨Kp.tr0 k r.k,E5 k r.dk,E5 k r.lp,Ag k r.ka,Ag k r.kb,Ag k r.kl,Ag k r.kx,let⟨w,e1,e2⟩:=r.ex;⟨w,Ag k e1,e2.k0 k⟩⟩
  ·obtain⟨r1,r2,r3,r4,r5,r6,r7,w,r8,r9⟩:=r
   have hle:=r3.e
   unfold Ut at hle
   have g1:=r2.lt
   have g2:=r3.lt
   have g3:=r4.lt
   have g4:=r5.lt
   have g5:=r6.lt
   have g7:=r7.lt
   have g8:=r8.lt
   have hcl:=Jh S i
   have rr:ApR (ext κ h.n) hh I S:=r.own r1 (fun j _ e=>by subst e;exact hc) fun b hb=>Af hb
   obtain⟨M,ck,m1,m2,m3⟩:=rr.mj.ex
   obtain⟨N,nk,o1,o2,o3⟩:=rr.mw.ex
   have sk2:=rr.sk
   have lm1:=m1.lt
   have lo1:=o1.lt
   have ls2:=sk2.lt
   have hg:=m3 ((i:Nat):Int)
   have hgw:=o3 ((i:Nat):Int)
   unfold apC at sk2
   refine F1 L (l1:= [(11,some (eI ((S.pe i:Nat):Int))),(10,some (eI ((i:Nat):Int))),(9,some (.fn (.func 101) [] [.ptr a 0,.ptr b 0])),(2,some (.ptr h.n 0)),(1,some (.ptr c 0)),(0,some (.ptr I.s 0))]) hle rfl ?_
   intro Q z2 cs G2
   refine wk ?_
   refine Eu L (Gk.e lkg) ?_
   have mpb:MpR S.S S.D.nb S.D.P (hp hh.n hh.t [(h2.n+1,some (Ut I.s c h.n a b h2.n .busy))]) I.m I.r1 I.r2 I.vb S.A:=by
    have:=rr.lt
    exact rr.mp.kp (B:=fun j=>j=h2.n+1) kps (by omega) (by omega) (by omega) (by omega)
   cases hjr:S.jr ((i:Nat):Int)with
   |true=>
    have e1:S.cds (i+1)=S.cds i:=by simp only [Ap.cds];rw [if_neg (by rw [hjr];simp)]
    rw [hjr,if_pos rfl]at hg
    refine wk ?_
    (apply st1 L rfl;exact K4 (v:= .bool true) (k:=((i:Nat):Int)) rfl rfl lkq (by first|(rw [hg];done)|(rw [hg];rfl));rfl)
    refine wk ?_
    refine Da L (Gk.e lkg) G2 ⟨rfl,?_⟩
    refine⟨kps,lkg,(by unfold Ut;exact Dx (by omega)),lkp,lkp,lkp,lkp,w,lkp,?_⟩
    rw [e1]
    rcases r9.ex with h1|⟨h2',x,rfl,h4,h5⟩
    ·exact⟨.inl h1⟩
    ·have hlx:=h4.lt
     exact⟨.inr ⟨h2',x,rfl,lkp,h5⟩⟩
   |false=>
    have e1:S.cds (i+1)=S.cds i++ [i]:=by simp only [Ap.cds];rw [if_pos ⟨e,hjr⟩]
    rw [hjr,if_neg (by simp)]at hg
    obtain⟨wn,hwn,hwl,hwe⟩: ∃wn:Nat,(∀z:AV,z= .int .u64 ((0:Nat):Int)→(Bp N ((i:Nat):Int)).getD z= .int .u64 ((wn:Nat):Int))∧wn≤S.next∧S.age i=min (S.next - wn) 1099511627776:=by
     cases hwi:S.wr ((i:Nat):Int)with
     |none=>rw [hwi]at hgw;exact⟨0,by rintro z rfl;rw [hgw];rfl,Nat.zero_le _,by unfold Ap.age;rw [hwi];rfl⟩
     |some n=>rw [hwi]at hgw;exact⟨n,by rintro z rfl;rw [hgw];rfl,hw _ _ hwi,by unfold Ap.age;rw [hwi];rfl⟩
    have hcc:cdC S i= [AI ((i:Nat):Int),AI ((valA S.A S.D.P i:Nat):Int),AI ((S.D.P:Nat):Int),AI ((min (S.next - wn) 1099511627776:Nat):Int)]:=by unfold cdC;rw [hwe]
    rcases r9.ex with⟨e0,rfl⟩|⟨h2',x,rfl,h4,h5⟩
    ·refine wk ?_
     (apply st1 L rfl;exact K4 (v:= .bool false) (k:=((i:Nat):Int)) rfl rfl lkq (by first|(rw [hg];done)|(rw [hg];rfl));rfl)
     refine wk ?_
     (apply Cp rfl rfl;exact K4 (k:=((i:Nat):Int)) rfl rfl lkq (hwn _ rfl))
     (apply Cp rfl rfl;exact Pa rfl rfl rfl hwl (by show S.next<18446744073709551616;omega))
     (apply Cp rfl rfl;exact Vu rfl rfl)
     (apply Cp rfl rfl;exact opv)
     (apply Pc L;exact chk;rfl)
     refine wk ?_
     refine cal (c:=G5 L X mpb hi) (g:=?_)
     rintro _ rfl
     refine wk ?_
     (apply Ij L rfl rfl;exact F0 (new:=cdC S i) rfl rfl (SlR.of (c:=cdC S i) (by rw [hcc];exact lkp) (Nat.le_refl _) rfl) (by omega) (by omega))
     refine wk ?_
     refine Da L (Gk.e lkg) G2 ⟨rfl,?_⟩
     refine⟨kps,lkg,(by unfold Ut;exact Dx (by omega)),lkp,lkp,lkp,lkp,_,lkp,?_⟩
     rw [e1]
     rw [e0]
     exact CdR.app (l:= []) (by exact lkp) (by omega) rfl
    ·have hlx:=h4.lt
     refine wk ?_
     (apply st1 L rfl;exact K4 (v:= .bool false) (k:=((i:Nat):Int)) rfl rfl lkq (by first|(rw [hg];done)|(rw [hg];rfl));rfl)
     refine wk ?_
     (apply Cp rfl rfl;exact K4 (k:=((i:Nat):Int)) rfl rfl lkq (hwn _ rfl))
     (apply Cp rfl rfl;exact Pa rfl rfl rfl hwl (by show S.next<18446744073709551616;omega))
     (apply Cp rfl rfl;exact Vu rfl rfl)
     (apply Cp rfl rfl;exact opv)
     (apply Pc L;exact chk;rfl)
     refine wk ?_
     refine cal (c:=G5 L X mpb hi) (g:=?_)
     rintro _ rfl
     refine wk ?_
     (apply Ij L rfl rfl;exact Fz (old:=(S.cds i).flatMap (cdC S)) (new:=cdC S i) rfl rfl (SlR.of (c:=(S.cds i).flatMap (cdC S)) lkp (by rw [Db _ (Ej S _)];omega) (by rw [List.drop_zero,List.take_of_length_le (by rw [Db _ (Ej S _)];exact Nat.le_refl _)])) (SlR.of (c:=cdC S i) (by rw [hcc];exact lkp) (Nat.le_refl _) rfl) (by omega) (by omega) (by rw [hcc];rfl))
     refine wk ?_
     refine Da L (Gk.e lkg) G2 ⟨rfl,?_⟩
     refine⟨kps,lkg,(by unfold Ut;exact Dx (by omega)),lkp,lkp,lkp,lkp,_,lkp,?_⟩
     rw [e1]
     exact CdR.app (by exact lkp) (by omega) rfl
  ·obtain⟨r1,r2,r3,r4,r5,r6,r7,r8⟩:=r
   have e1:S.cds (i+1)=S.cds i:=by simp only [Ap.cds];rw [if_neg (by omega)]
   exact⟨r1,r2,r3,r4,r5,r6,r7,by rw [e1];exact r8⟩
 ·rintro v h3 ⟨r1,r2,r3,r4,r5,r6,r7,w,r8,r9⟩
  have hle:=r3.e
  unfold Ut at hle
  have l5:=r2.lt
  have l8:=r8.lt
  refine Gd L (n:=h3.n) (t:=h3.t) (lh:= []) hle (by intro q;cases q) ?_
  refine wk ?_
  refine A0 L (show Good P0 E Q ⟨⟨_,_,_,_,_,.returning,false,none⟩,_,_⟩ from ?_)
  refine F2 L (by intro q;cases q) (Gk.e lkg) ?_
  refine Eb L X.f43 (C0 rfl) G ⟨kps,w,lkp,?_⟩
  rcases r9.ex with h1|⟨h2',x,rfl,h4,h5⟩
  ·exact⟨.inl h1⟩
  ·have hlx:=h4.lt
   exact⟨.inr ⟨h2',x,rfl,lkp,by omega⟩⟩
end
end
section
variable {P0:Program}{E:Env}{F:T CFn}{K:T (List AV×AV)}(L:Lg P0 E F K)(X:Fx F K)
include L X
section
variable {h:H}{κ: Nat→Nat}{I:Ai}{S:Ap}
theorem Yb {ab:Nat}(r:ApR κ h I S)(ka:Bk h ab [.ptr I.s 0])(hw: ∀b n,S.wr b=some n→n≤S.next)(hnx:S.next<10000000):
  Ct P0 E F K 13 [.ptr ab 0] h (fun v h'=> ∃κ',CdR S h' h.n v (S.cds S.D.nb)∧(∀b n c,v= .slc b 0 n c→κ' b=0)∧ApR κ' h' I S∧AChg κ h κ' h'):=by
 have lk:=ka.lt
 refine Al L X.f13 X.k13 rfl rfl fun Q x cs G=>?_
 refine wk ?_
 have k1:K0 h (hp (h.n+1) h.t [(h.n,some (cl [.nils]))]):=kps
 have hc1: ∀b,b<h.n→Dd κ h.n b=κ b:=fun b hb=>C7 hb
 have r1:ApR (Dd κ h.n) (hp (h.n+1) h.t [(h.n,some (cl [.nils]))]) I S:=r.k0 k1 hc1
 have a1:AChg κ h (Dd κ h.n) (hp (h.n+1) h.t [(h.n,some (cl [.nils]))]):=AChg.k0 k1 hc1
 have kc1:Bk (hp (h.n+1) h.t [(h.n,some (cl [.nils]))]) h.n [.nils]:=lkp
 have hn1:(hp (h.n+1) h.t [(h.n,some (cl [.nils]))]).n=h.n+1:=rfl
 have cl1: ∀κ2 h2,K0 (hp (h.n+1) h.t [(h.n,some (cl [.nils]))]) h2→(hp (h.n+1) h.t [(h.n,some (cl [.nils]))]).n<h2.n→(∀b,b<(hp (h.n+1) h.t [(h.n,some (cl [.nils]))]).n→κ2 b=Dd κ h.n b)→ApR κ2 h2 I S→CtX P0 E F K 43 (.ptr I.s 0:: [.ptr h.n 0]) h2
   (fun v h'=> ∃κ' S',ApR κ' h' I S'∧AChX (fun j=>j=h.n) κ2 h2 κ' h'∧(S'=S∧ ∃w,Bk h' h.n [w]∧CdR S h' (h.n+2) w (S.cds S.D.nb)∧ ∀b n c,w= .slc b 0 n c→κ' b=0))
   (fun v h'=> ∃κ' S' e,v= .ifc 44 (AI e)∧ApR κ' h' I S'∧AChX (fun j=>j=h.n) κ2 h2 κ' h'∧False):=by
  intro κ2 h2 k2 n2 c2 r2
  rw [hn1]at n2 c2
  have hk1:κ2 h.n=200:=(c2 _ (by omega)).trans (Be (Nat.le_refl _))
  refine((m0 L X r2 (Ag k2 kc1) (by omega) hw hnx).mono ?_).X
  rintro v h' ⟨q1,w,q2,q3⟩
  refine⟨ext κ2 h2.n,S,r2.own q1 (fun j _ e=>by subst e;omega) fun b hb=>Af hb,⟨q1.mono fun b e=> .inr e,fun b hb=>Af hb⟩,rfl,w,q2,?_,?_⟩
  ·rcases q3.ex with h1|⟨g1,x,g2,g3,g4⟩
   ·exact⟨.inl h1⟩
   ·exact⟨.inr ⟨g1,x,g2,g3,by omega⟩⟩
  ·rintro b n c rfl
   rcases q3.ex with⟨_,e⟩|⟨g1,x,g2,g3,g4⟩
   ·cases e
   ·cases g2;exact B4 g4
 refine cal (c:=Ei L X r1 (Ag k1 ka) (fun b e=>by subst e;exact Nat.lt_succ_self _) cl1) (g:=?_)
 rintro v h2 ⟨κ',S',h1,r',a',k',hv⟩
 rw [hn1]at k'
 rcases hv with⟨rfl,u,rfl,w,q1,q2,q3⟩|⟨e,rfl,q⟩
 ·have a2:AChg κ h κ' h2:=a'.own a1 fun b e=>by subst e;exact Nat.le_refl _
  have q1':Bk h2 h.n [w]:=As k' (by omega) q1
  have lq:=q1'.lt
  have hk1:κ' h.n=200:=(a'.col _ (by rw [hn1];omega)).trans (Be (Nat.le_refl _))
  rcases q2.ex with⟨e0,rfl⟩|⟨g1,x2,rfl,g3,g4⟩
  ·refine wk ?_
   refine ret X.f13 ?_
   refine⟨κ',⟨.inl ⟨e0,rfl⟩⟩,q3,r'.out (B:=fun j=>j=h.n) ?_ (fun b _ e=>by subst e;omega),AChg.own (B:=fun j=>j=h.n) a2 ?_ (fun b e=>by subst e;exact Nat.le_refl _) fun _ _=>rfl⟩
   ·exact kps
   ·exact kps
  ·have g3':Bk h2 x2 _:=As k' (by omega) g3
   have lx2:=g3'.lt
   refine wk ?_
   refine ret X.f13 ?_
   refine⟨κ',⟨.inr ⟨g1,x2,rfl,by exact lkp,by omega⟩⟩,q3,r'.out (B:=fun j=>j=h.n) ?_ (fun b _ e=>by subst e;omega),AChg.own (B:=fun j=>j=h.n) a2 ?_ (fun b e=>by subst e;exact Nat.le_refl _) fun _ _=>rfl⟩
   ·exact kps
   ·exact kps
 ·exact q.elim
end
end
section
variable {P0:Program}{E:Env}{F:T CFn}{K:T (List AV×AV)}(L:Lg P0 E F K)(X:Fx F K)
include L X
theorem m6 {h:H}:Ct P0 E F K 165 [.nils,AI ((0:Nat):Int)] h fun v h'=>v= .nils∧K0 h h':=by
 refine Ad L X.f165 X.k165 rfl rfl fun Q x cs G=>?_
 refine wk ?_
 refine ret X.f165 ?_
 exact⟨rfl,kps⟩
theorem Wr {h:H}{pb:Nat}(hp1:Bk h pb [.nils,.nils]):Ct P0 E F K 134 [.slc pb 0 2 2] h fun v h'=>v= .nils∧K0 h h':=by
 have l1:=hp1.lt
 refine Al L X.f134 X.k134 rfl rfl fun Q x cs G=>?_
 refine wk ?_
 refine A2 L ?_
 refine wk ?_
 refine Bh L ?_
 refine wk ?_
 refine Bh L ?_
 refine wk ?_
 refine cal (c:=m6 L X) (g:=?_)
 rintro _ h3 ⟨rfl,hk⟩
 refine wk ?_
 refine A2 L ?_
 refine wk ?_
 refine Bh L ?_
 refine wk ?_
 refine Bh L ?_
 refine wk ?_
 refine ret X.f134 ?_
 exact⟨rfl,kps⟩
def Ws:List AV:= [.nils,.int .u64 ((0:Nat):Int),.int .u64 ((1:Nat):Int),.nils,.nils]
noncomputable def bp (bx a mk:Nat)(st:LS):Blk:= .loop ⟨st,none,87,cf87.ntmps,tms [(20,some (.fn (.func 162) [] [.ptr a 0])),(5,some (.ptr (bx+3) 0)),(4,some (.ptr (bx+2) 0)),(3,some (.ptr (bx+1) 0)),(2,some (.ptr bx 0))],[21,22],c87_3,c87_5,mk⟩
structure RSt (h hh:H)(s a b mk nb:Nat)(er:Nat→Nat)(i:Nat):Prop where
 k:K0 h hh
 dk:Gk hh mk (.dfr (some []))
 lp:Gk hh (mk+1) (bp h.n a mk .ready)
 ka:Bk hh a [.slc b 0 nb (Aa+1)]
 kb:Bk hh b (H2 er nb)
 k2:Bk hh h.n [.ptr s 0]
 k3:Bk hh (h.n+1) Ws
 k4:Bk hh (h.n+2) [.bool false]
 ex: ∃w,Bk hh (h.n+3) [w]∧((i=0∧w= .nils)∨(0<i∧ ∃x,w= .slc x 0 i (Aa+1)∧Bk hh x (H2 er i)∧mk+2≤x))
noncomputable def m7 (bx a b mk:Nat)(st:LS):Blk:= .loop ⟨st,none,87,cf87.ntmps,tms [(109,some (.fn (.func 101) [] [.ptr a 0,.ptr b 0])),(4,some (.ptr (bx+2) 0)),(2,some (.ptr bx 0))],[110,111],c87_60,c87_66,mk⟩
def stC (p d:Nat)(nb P sz en m nx la rj rs rw:Nat):List AV:= [.ptr p 0,.ptr d 0,AI ((nb:Nat):Int),AI ((P:Nat):Int),AI ((sz:Nat):Int),AI ((en:Nat):Int),.ptr m 0,.int .u64 ((nx:Nat):Int),.int .u64 ((la:Nat):Int),AI (-1),AI (-1),.map rj,.map rs,.map rw,.bool false]
def stN (d:Nat)(nb P sz en m nx la rj rs rw:Nat):List AV:= [.nilp,.ptr d 0,AI ((nb:Nat):Int),AI ((P:Nat):Int),AI ((sz:Nat):Int),AI ((en:Nat):Int),.ptr m 0,.int .u64 ((nx:Nat):Int),.int .u64 ((la:Nat):Int),AI (-1),AI (-1),.map rj,.map rs,.map rw,.bool false]
structure RS2 (h hh:H)(s a b lb mk mk1 p pb nb:Nat)(er:Nat→Nat)(sc cb:List AV)(i:Nat):Prop where
 k:Kp (fun j=>j=s) h hh
 dk:Gk hh mk (.dfr (some []))
 d1:Gk hh mk1 (.dfr (some []))
 lp:Gk hh (mk+1) (m7 h.n a b mk .ready)
 ka:Bk hh a [.slc lb 0 nb (Aa+2)]
 kb:Bk hh b [eI ((1:Nat):Int)]
 kl:Bk hh lb cb
 k2:Bk hh h.n [.ptr s 0]
 k4:Bk hh (h.n+2) [.bool false]
 ks:Bk hh s sc
 po:PoC hh p pb nb (fun _=>1) er cb
section
variable {h:H}
theorem m8 {κ: Nat→Nat}{s d fm bb m rj rs rw nx la:Nat}{D:Dv}{cb:List AV}(q:DevC κ h d D fm bb cb)(hnb:2≤D.nb∧D.nb≤12)(hnx: ∀i,i<D.nb→(D.bl i).nx=0)(her: ∀i,i<D.nb→(D.bl i).er≤100000)
  (ks:Bk h s (stN d D.nb D.P D.sz D.en m nx la rj rs rw)) (hne:d≠s∧bb≠s∧fm≠s):
  Ct P0 E F K 87 [.ptr s 0,.agg Ws] h fun v h'=>v= .bool true∧ ∃p pb cb',PoC h' p pb D.nb (fun _=>1) (fun i=>(D.bl i).er) cb'∧Bk h' s (stC p d D.nb D.P D.sz D.en m nx la rj rs rw)∧h.n≤p∧h.n≤pb∧Kp (fun j=>j=s) h h':=by
 have ls:=ks.lt
 unfold Ws
 unfold stN at ks
 refine Ad L X.f87 X.k87 rfl rfl fun Q x cs G=>?_
 refine wk ?_
 refine cal (c:=sd L X (q.kb (Kp.mono (S:=fun _=>False) (fun _ f=>f.elim) (by exact kps))) (by omega)) (g:=?_)
 rintro _ h2 ⟨a,b,rfl,w1,w2,w3,w4,w5⟩
 have n5:=w5.n
 simp only [Am]at n5 w3 w4
 have la1:=w1.lt
 have lb1:=w2.lt
 refine wk ?_
 refine E0 L (tm':=tms [(20,some (.fn (.func 162) [] [.ptr a 0])),(5,some (.ptr (h.n+3) 0)),(4,some (.ptr (h.n+2) 0)),(3,some (.ptr (h.n+1) 0)),(2,some (.ptr h.n 0))]) tsb ?_
 refine Hq L (post:=fun _ h'=>RSt h h' s a b h2.n D.nb (fun i=>(D.bl i).er) D.nb) rfl rfl rfl ?_ ?_
 ·refine Ct.A ((mf L X (f:=fun i=>(D.bl i).er) hnb.2 (fun i hh=>RSt h hh s a b h2.n D.nb (fun i=>(D.bl i).er) i) (fun i hh r=>⟨r.ka,r.kb⟩) (fun i hh h' r k=>?_) (fun i hh hi r=>?_) ⟨kps,lkg,(by unfold bp;exact lkg),lkp,lkp,lkp,(by unfold Ws;exact lkp),lkp,.nils,lkp,.inl ⟨rfl,rfl⟩⟩).mono fun v h' p=>p)
  ·exact⟨Kp.tr0 k r.k,E5 k r.dk,E5 k r.lp,Ag k r.ka,Ag k r.kb,Ag k r.k2,Ag k r.k3,Ag k r.k4,by
    obtain⟨w,e1,e2⟩:=r.ex
    refine⟨w,Ag k e1,?_⟩
    rcases e2 with e2|⟨e2,x,e3,e4,e5⟩
    ·exact .inl e2
    ·exact .inr ⟨e2,x,e3,Ag k e4,e5⟩⟩
  ·obtain⟨r1,r2,r3,r4,r5,r6,r7,r8,w,r9,r10⟩:=r
   have hle:=r3.e
   unfold bp at hle
   have g1:=r2.lt
   have g2:=r3.lt
   have g3:=r4.lt
   have g4:=r5.lt
   have g6:=r6.lt
   have g7:=r7.lt
   have g8:=r8.lt
   have g9:=r9.lt
   refine F1 L (l1:= [(22,some (AI (((D.bl i).er:Nat):Int))),(21,some (AI ((i:Nat):Int))),(20,some (.fn (.func 162) [] [.ptr a 0])),(5,some (.ptr (h.n+3) 0)),(4,some (.ptr (h.n+2) 0)),(3,some (.ptr (h.n+1) 0)),(2,some (.ptr h.n 0))]) hle rfl ?_
   intro Q z2 cs G2
   refine wk ?_
   refine Eu L (Gk.e lkg) ?_
   rcases r10 with⟨rfl,rfl⟩|⟨r10,x,rfl,r11,r12⟩
   ·refine wk ?_
    (apply st1 L rfl;exact F0 (new:= [AI (((D.bl 0).er:Nat):Int)]) rfl rfl (SlR.of (c:= [AI (((D.bl 0).er:Nat):Int)]) lkp (Nat.le_refl _) rfl) (by omega) (by omega);rfl)
    refine wk ?_
    refine Da L (Gk.e lkg) G2 ⟨rfl,?_⟩
    refine⟨kps,lkg,(by unfold bp;exact Dx (by omega)),lkp,lkp,lkp,lkp,lkp,_,lkp,.inr ⟨by omega,_,rfl,?_,by omega⟩⟩
    rw [Lz];exact lkp
   ·have lx:=r11.lt
    refine wk ?_
    (apply st1 L rfl;exact Fz (old:=H2 (fun i=>(D.bl i).er) i) (new:= [AI (((D.bl i).er:Nat):Int)]) rfl rfl (SlR.of (c:=H2 (fun i=>(D.bl i).er) i) lkp (by rw [Ky];omega) (by rw [List.drop_zero,List.take_of_length_le (by rw [Ky];omega)])) (SlR.of (c:= [AI (((D.bl i).er:Nat):Int)]) lkp (Nat.le_refl _) rfl) (by omega) (by omega) rfl;rfl)
    refine wk ?_
    refine Da L (Gk.e lkg) G2 ⟨rfl,?_⟩
    refine⟨kps,lkg,(by unfold bp;exact Dx (by omega)),lkp,lkp,lkp,lkp,lkp,_,lkp,.inr ⟨by omega,_,rfl,?_,by omega⟩⟩
    rw [Lz];exact lkp
 ·rintro v h3 ⟨r1,r2,r3,r4,r5,r6,r7,r8,w,r9,r10⟩
  have hle:=r3.e
  unfold bp at hle
  unfold Ws at r7
  have g2:=r2.lt
  have g3:=r3.lt
  have g6:=r6.lt
  have g7:=r7.lt
  have g8:=r8.lt
  have g9:=r9.lt
  rcases r10 with⟨e0,-⟩|⟨r10,x,rfl,r11,r12⟩
  ·omega
  have lx:=r11.lt
  have ks3:=Ag r1 ks
  have ls3:=ks3.lt
  refine Gd L (n:=h3.n) (t:=h3.t) (lh:= []) hle (by intro q;cases q) ?_
  refine wk ?_
  refine cal (c:=se L X (eb:=x) (nb:=D.nb) (pe:=fun i=>(D.bl i).er) (by exact lkp) ⟨by omega,hnb.2⟩ her) (g:=?_)
  rintro _ h4 ⟨p,pb,cb',rfl,po,w6,w7,w8⟩
  have n8:=w8.n
  simp only [Am]at n8 w6 w7
  have lpo:=po.pk.lt
  have lpb:=po.bk.lt
  have dk4:Gk h4 h2.n (.dfr (some [])):=E5 w8 (by exact lkg)
  have kd4:Kp (fun j=>j=s) h h4:=kps
  clear r3 hle w1 w2 w5 r4 r5 r11
  refine wk ?_
  refine cal (c:=Wr L X (by exact lkp)) (g:=?_)
  rintro _ h5 ⟨rfl,w9⟩
  have n9:=w9.n
  simp only [Am]at n9
  have k45:Kp (fun j=>j=s) h4 h5:=kps
  have po5:=po.kp k45 (by omega) (by omega)
  have ks5:Bk h5 s (stC p d D.nb D.P D.sz D.en m nx la rj rs rw):=by unfold stC;exact lkp
  have kd5:Kp (fun j=>j=s) h h5:=kps
  have dk5:Gk h5 h2.n (.dfr (some [])):=Il k45 (by omega) dk4
  have q2:Bk h5 h.n [.ptr s 0]:=lkp
  have q3:Bk h5 (h.n+1) [.nils,.int .u64 ((0:Nat):Int),.int .u64 ((1:Nat):Int),.nils,.nils]:=lkp
  have q4:Bk h5 (h.n+2) [.bool false]:=lkp
  clear w9 k45 dk4 kd4 w8 po ks3 r2 r6 r7 r8 r9
  refine wk ?_
  refine A2 L ?_
  refine wk ?_
  refine A2 L ?_
  refine wk ?_
  refine cal (c:=J2 L X (s:=1) (po5.k0 (by exact kps))) (g:=?_)
  rintro _ h6 ⟨a2,b2,lb2,rfl,v1,v2,v3,v4,v5,v6,v7⟩
  have n7:=v7.n
  simp only [Am]at n7 v4 v5 v6
  have dk6:Gk h6 h2.n (.dfr (some [])):=E5 (by exact kps) dk5
  have kd6:Kp (fun j=>j=s) h h6:=kps
  have po6:PoC h6 p pb D.nb (fun _=>1) (fun i=>(D.bl i).er) cb':=po5.k0 (by exact kps)
  have e6:Bk h6 s (stC p d D.nb D.P D.sz D.en m nx la rj rs rw):=lkp
  have e2:Bk h6 h.n [.ptr s 0]:=lkp
  have e4:Bk h6 (h.n+2) [.bool false]:=lkp
  have f1:=v1.lt
  have f2:=v2.lt
  have f3:=v3.lt
  have f4:=e2.lt
  have f5:=e4.lt
  have f6:=dk6.lt
  clear q2 q3 q4 ks5 po5 dk5 v7
  refine wk ?_
  refine E0 L (tm':=tms [(109,some (.fn (.func 101) [] [.ptr a2 0,.ptr b2 0])),(4,some (.ptr (h.n+2) 0)),(2,some (.ptr h.n 0))]) tsb ?_
  refine Hq L (post:=fun _ h'=>RS2 h h' s a2 b2 lb2 h6.n h2.n p pb D.nb (fun i=>(D.bl i).er) (stC p d D.nb D.P D.sz D.en m nx la rj rs rw) cb' D.nb) rfl rfl rfl ?_ ?_
  ·refine Ct.A ((Iv L X (ps:=fun _=>1) (pe:=fun i=>(D.bl i).er) (cb:=cb') po6.len hnb.2 po6.c0 po6.c1 (fun i hh=>RS2 h hh s a2 b2 lb2 h6.n h2.n p pb D.nb (fun i=>(D.bl i).er) (stC p d D.nb D.P D.sz D.en m nx la rj rs rw) cb' i) (fun i hh r=>⟨r.ka,r.kb,r.kl⟩) (fun i hh h' r k=>?_) (fun i hh hi e r=>?_) (fun i hh hi e r=>absurd rfl e) ⟨kps,lkg,lkg,(by unfold m7;exact lkg),lkp,lkp,lkp,lkp,lkp,lkp,po6.k0 (by exact kps)⟩).mono fun v h' p=>p)
   ·exact⟨Kp.tr0 k r.k,E5 k r.dk,E5 k r.d1,E5 k r.lp,Ag k r.ka,Ag k r.kb,Ag k r.kl,Ag k r.k2,Ag k r.k4,Ag k r.ks,r.po.k0 k⟩
   ·obtain⟨r1,r2,r3,r4,r5,r6,r7,r8,r9,r10,r11⟩:=r
    have hle:=r4.e
    unfold m7 at hle
    have g1:=r2.lt
    have g2:=r3.lt
    have g3:=r4.lt
    have g4:=r5.lt
    have g5:=r6.lt
    have g7:=r7.lt
    have g8:=r8.lt
    have g9:=r9.lt
    have g10:=r10.lt
    have g11:=r11.pk.lt
    have g12:=r11.bk.lt
    have hd:Bk hh d (dvC D fm bb):=As r1 (by omega) q.dk
    have hbb:Bk hh bb cb:=As r1 (by omega) q.bk
    have hdl:=hd.lt
    have hbl:=hbb.lt
    have hdo:=q.dk.lt
    have hbo:=q.bk.lt
    obtain⟨pn,c,hrow⟩:=q.rows i hi
    have hc1:=hrow.c1
    rw [hnx i hi]at hc1
    unfold stC at r10
    refine F1 L (l1:= [(111,some (eI (((D.bl i).er:Nat):Int))),(110,some (eI ((i:Nat):Int))),(109,some (.fn (.func 101) [] [.ptr a2 0,.ptr b2 0])),(4,some (.ptr (h.n+2) 0)),(2,some (.ptr h.n 0))]) hle rfl ?_
    intro Q z2 cs G2
    refine wk ?_
    refine Eu L (Gk.e lkg) ?_
    refine wk ?_
    refine cal (c:=Kt L X (D:=D) (fm:=fm) (bb:=bb) (cb:=cb) (i:=i) (nx:=0) (by exact lkp) (by exact lkp) hi hc1) (g:=?_)
    rintro _ rfl
    refine wk ?_
    refine Da L (Gk.e lkg) G2 ⟨rfl,?_⟩
    refine⟨kps,lkg,lkg,(by unfold m7;exact Dx (by omega)),lkp,lkp,lkp,lkp,lkp,(by unfold stC;exact lkp),r11.kp (S:=fun j=>j=h6.n+1) kps (by omega) (by omega)⟩
  ·rintro v h7 ⟨r1,r2,r3,r4,r5,r6,r7,r8,r9,r10,r11⟩
   have hle:=r4.e
   unfold m7 at hle
   have g1:=r2.lt
   have g2:=r3.lt
   have g3:=r4.lt
   have g9:=r9.lt
   have g10:=r10.lt
   have g11:=r11.pk.lt
   have g12:=r11.bk.lt
   refine Gd L (n:=h7.n) (t:=h7.t) (lh:= []) hle (by intro q;cases q) ?_
   refine wk ?_
   refine D0 L (todo:= []) ?_
   refine F2 L (by intro q;cases q) (Gk.e lkg) ?_
   refine F2 L (by intro q;cases q) (Gk.e lkg) ?_
   refine Eb L X.f87 (Eh (b:=h.n+2) rfl (Bk.e lkp) rfl Jn) G ⟨rfl,p,pb,cb',r11.kp (S:=fun j=>j=h6.n+1∨j=h.n+2∨j=h6.n∨j=h2.n) ?_ (by omega) (by omega),lkp,by omega,by omega,kps⟩
   exact kps
end
end
section
variable {P0:Program}{E:Env}{F:T CFn}{K:T (List AV×AV)}(L:Lg P0 E F K)(X:Fx F K)
include L X
section
variable {h:H}
theorem Yc {S nb P:Nat}(hS:1≤S∧S≤1000)(hn:2≤nb∧nb≤12)(hP:2≤P∧P≤6):Ct P0 E F K 21 [AI ((S:Nat):Int),AI ((nb:Nat):Int),AI ((P:Nat):Int)] h fun v h'=> ∃m r1 r2 vb,v= .tup [.ptr m 0,AI ((0:Nat):Int)]∧MpR S nb P h' m r1 r2 vb (fun _=>none)∧K0 h h'∧h.n≤m∧h.n≤r1∧h.n≤r2∧h.n≤vb:=by
 refine Bz L X.f21 X.k21 rfl rfl fun Q x cs G=>?_
 refine wk ?_
 refine ret X.f21 ?_
 refine⟨h.n+1+1+1,h.n,h.n+1,h.n+1+1,rfl,⟨lkp,by omega,fun s p e=>(by cases e),by omega,[],[],0,0,List.replicate nb (AI 0),lkq,MOk.nil,lkq,MOk.nil,?_,by simp,?_,⟨fun _=>rfl,fun s p e=>(by cases e),fun p u e=>(by cases e)⟩⟩,kps,by omega,by omega,by omega,by omega⟩
 ·have e: ∀n,rl [AI ((0:Nat):Int)] n=List.replicate n (AI 0):=by
   intro n
   induction n with
   |zero=>rfl
   |succ k ih=>show AI 0::rl [AI 0] k=_;rw [List.replicate_succ];exact congrArg _ ih
  rw [←e]
  exact lkp
 ·intro i hi
  have e0:valA (fun _=>none) P i=0:=by
   have: ∀n,Kx (fun j=>H0 (fun _=>none) ((i*P+j:Nat):Int)) n=0:=by
    intro n
    induction n with
    |zero=>rfl
    |succ n ih=>simp only [Kx,ih];rw [if_neg];intro hq;obtain⟨s,hs⟩:=hasP_t.1 hq;cases hs
   exact this P
  rw [e0];simp [hi]
end
end
section
variable {P0:Program}{E:Env}{F:T CFn}{K:T (List AV×AV)}(L:Lg P0 E F K)(X:Fx F K)
include L X
def Ap.new (D:Dv)(S:Nat):Ap:=⟨D,S,fun _=>1,fun i=>(D.bl i).er,fun _=>none,1,0,-1,-1,fun _=>false,fun _=>false,fun _=>none,false⟩
def sj (κ: Nat→Nat)(n:Nat)(I:Ai):Nat→Nat:=fun b=>if b<n then κ b else if b=I.s then 101 else if b=I.p then 102 else if b=I.pb then 103 else if b=I.m then 104 else if b=I.r1 then 105 else if b=I.r2 then 106 else if b=I.vb then 107 else if b=I.rj then 108 else if b=I.rs then 109 else if b=I.rw then 110 else 0
omit L X in
theorem Yd {κ: Nat→Nat}{n b:Nat}{I:Ai}(h:b<n):sj κ n I b=κ b:=if_pos h
section
variable {h:H}
theorem sq {κ: Nat→Nat}{d S:Nat}{D:Dv}(r:DevR κ h d D)(hS:1≤S∧S≤1000)(hoff:D.off=false)(hnx: ∀i,i<D.nb→(D.bl i).nx=0)(her: ∀i,i<D.nb→(D.bl i).er≤100000):
  Ct P0 E F K 31 [.ptr d 0,AI ((S:Nat):Int),.agg Ws] h fun v h'=> ∃ab I κ',v= .tup [.ptr ab 0,AI ((0:Nat):Int)]∧Bk h' ab [.ptr I.s 0]∧κ' ab=0∧I.d=d∧ApR κ' h' I (Ap.new D S)∧K0 h h'∧(∀b,b<h.n→κ' b=κ b):=by
 obtain⟨ok,fm,bb,cb,q⟩:=r
 have hd:=q.dk
 have hnb:=ok.g.nb
 have hP:=ok.g.P
 have hsz:=ok.g.sz
 unfold Ws
 refine Bz L X.f31 X.k31 rfl rfl fun Q x cs G=>?_
 refine wk ?_
 refine cal (c:=T8 L X (D:=D) (fm:=fm) (bb:=bb) (Ag (by exact kps) hd)) (g:=?_)
 rintro _ h2 ⟨rfl,k2⟩
 have n2:=k2.n
 simp only [Am]at n2
 refine wk ?_
 refine cal (c:=Yc L X hS hnb hP) (g:=?_)
 rintro _ h3 ⟨m,r1,r2,vb,rfl,mp,k3,l1,l2,l3,l4⟩
 have n3:=k3.n
 simp only [Am]at n3 l1 l2 l3 l4
 have hml:=mp.lt
 refine wk ?_
 refine cal (c:=Gf L X (sz:=D.sz) (by omega)) (g:=?_)
 rintro _ rfl
 refine wk ?_
 refine cal (c:=Ly (lo:=h3.n) (es:= []) L X (mp.k0 (by exact kps)) (EL.nil _ _) (by simp) ⟨hml.2.1,hml.2.2.1,hml.2.2.2,hml.1⟩ (by intro j x e;cases e)) (g:=?_)
 rintro _ h4 ⟨rfl,k4,mp4⟩
 have n4:=k4.n
 simp only [Am]at n4
 rw [show stA (fun _=>none) ([]:List Ent) ([]:List Ent).length=fun _=>none from rfl]at mp4
 refine wk ?_
 have hm4:=mp4.lt
 have hne:=mp4.ne
 have ldh:=q.dk.lt
 have lbh:=q.bk.lt
 have lfh:=q.fk.lt
 refine cal (c:=m8 (κ:= κ) (s:=h4.n+1+1+1) (m:=m) (rj:=h4.n) (rs:=h4.n+1) (rw:=h4.n+1+1) (nx:=1) (la:=0) L X (q.kb (Kp.mono (S:=fun _=>False) (fun _ f=>f.elim) (by exact kps))) hnb hnx her (by unfold stN;exact lkp) ⟨by omega,by omega,by omega⟩) (g:=?_)
 rintro _ h5 ⟨rfl,p,pb,cb',po,ks,l5,l6,k5⟩
 have n5:=k5.n
 simp only [Am]at n5 l5 l6
 have lpo:=po.pk.lt
 have lpb:=po.bk.lt
 have pne:=po.ne
 have hd5:Bk h5 d (dvC D fm bb):=As k5 (by omega) (by exact lkp)
 refine wk ?_
 refine cal (c:=V6 L X (D:=D) (fm:=fm) (bb:=bb) (by exact lkp)) (g:=?_)
 rintro _ rfl
 rw [hoff]
 refine wk ?_
 refine ret X.f31 ?_
 have kF:Kp (fun j=>j=h4.n+1+1+1) h (hp (h5.n+1) h5.t [(h5.n,some (cl [.ptr (h4.n+1+1+1) 0]))]):=kps
 have k0F:K0 h (hp (h5.n+1) h5.t [(h5.n,some (cl [.ptr (h4.n+1+1+1) 0]))]):=⟨kF.n,fun b hb hn=>kF.old b hb (by omega)⟩
 have mpF:MpR S D.nb D.P (hp (h5.n+1) h5.t [(h5.n,some (cl [.ptr (h4.n+1+1+1) 0]))]) m r1 r2 vb (fun _=>none):=mp4.kp (B:=fun j=>j=h4.n+1+1+1) kps (by omega) (by omega) (by omega) (by omega)
 refine⟨h5.n,⟨h4.n+1+1+1,p,pb,m,r1,r2,vb,h4.n,h4.n+1,h4.n+1+1,d⟩,sj κ h.n ⟨h4.n+1+1+1,p,pb,m,r1,r2,vb,h4.n,h4.n+1,h4.n+1+1,d⟩,rfl,lkp,?_,rfl,?_,k0F,fun b hb=>Yd hb⟩
 ·simp only [sj]
  repeat rw [if_neg (by omega)]
 ·refine⟨?_,⟨cb',po.k0 kps⟩,⟨ok,fm,bb,cb,(q.rc fun b hb=>Yd hb).kb (k0F.mono fun _ f=>f.elim)⟩,mpF,⟨[],0,?_,MOk.nil,fun k=>rfl⟩,⟨[],0,?_,MOk.nil,fun k=>rfl⟩,⟨[],0,?_,MOk.nil,fun k=>rfl⟩,?_⟩
  ·show Bk _ _ (stC p d D.nb D.P D.sz D.en m 1 0 h4.n (h4.n+1) (h4.n+1+1))
   exact lkp
  ·exact lkq
  ·exact lkq
  ·exact lkq
  ·refine⟨?_,?_,?_,?_,?_,?_,?_,?_,?_,?_⟩ <;> (simp only [sj];repeat(first|rw [if_pos trivial]|rw [if_pos (by omega)]|rw [if_neg (by omega)]))
end
end
section
variable {P0:Program}{E:Env}{F:T CFn}{K:T (List AV×AV)}(L:Lg P0 E F K)(X:Fx F K)
include L X
omit L X in
structure AInv (S:Ap):Prop where
 geo:S.D.Geo
 off:S.D.off=false
 cut:S.D.cut= -1
 dn:S.down=false
 iw:IW S
 nxP: ∀b,b<S.D.nb→(S.D.bl b).nx≤S.D.P
 op2: ∀b:Nat,b<S.D.nb→S.ps b=2→((b:Nat):Int)=S.dat∨((b:Nat):Int)=S.log
 free: ∀b,b<S.D.nb→S.ps b=1→(S.D.bl b).nx=0
 jr: ∀k,S.jr k=true→ ∃b:Nat,k=((b:Nat):Int)∧b<S.D.nb∧(S.ps b=3∨S.ps b=2∧S.log=((b:Nat):Int))
 jlog:0≤S.log→S.jr S.log=true
 jdat:0≤S.dat→S.jr S.dat=false
 map: ∀s p,S.A s=some p→0≤s∧s<S.S∧ ∃b j:Nat,p=((b*S.D.P+j:Nat):Int)∧b<S.D.nb∧j<S.D.P∧(S.ps b=2∨S.ps b=3)∧S.jr ((b:Nat):Int)=false∧j<(S.D.bl b).nx∧((S.D.bl b).pg j).st=2
 inj: ∀s s' p,S.A s=some p→S.A s'=some p→s=s'
structure Keep (S S':Ap):Prop where
 nx: ∀b,b<S.D.nb→(S.D.bl b).nx≤(S'.D.bl b).nx
 pg: ∀b j,b<S.D.nb→j<(S.D.bl b).nx→(S'.D.bl b).pg j=(S.D.bl b).pg j
 ps3: ∀b,b<S.D.nb→S.ps b=3→S'.ps b=3
 psm: ∀b,b<S.D.nb→S.ps b=2∨S.ps b=3→S'.ps b=2∨S'.ps b=3
 jrm: ∀b:Nat,b<S.D.nb→S.ps b≠1→S'.jr ((b:Nat):Int)=S.jr ((b:Nat):Int)
 n1: ∀b:Nat,b<S.D.nb→S.ps b≠1→S'.ps b≠1
omit L X in
theorem Keep.refl (S:Ap):Keep S S:=⟨fun _ _=>Nat.le_refl _,fun _ _ _ _=>rfl,fun _ _ h=>h,fun _ _ h=>h,fun _ _ _=>rfl,fun _ _ h=>h⟩
omit L X in
theorem Keep.trans {S S1 S2:Ap}(a:Keep S S1)(b:Keep S1 S2)(hn:S1.D.nb=S.D.nb):Keep S S2:=
 ⟨fun i hi=>Nat.le_trans (a.nx i hi) (b.nx i (by omega)),fun i j hi hj=>(b.pg i j (by omega) (Nat.lt_of_lt_of_le hj (a.nx i hi))).trans (a.pg i j hi hj),fun i hi h=>b.ps3 i (by omega) (a.ps3 i hi h),fun i hi h=>b.psm i (by omega) (a.psm i hi h),fun i hi h=>(b.jrm i (by omega) (a.n1 i hi h)).trans (a.jrm i hi h),fun i hi h=>b.n1 i (by omega) (a.n1 i hi h)⟩
omit L X in
theorem AInv.close {S:Ap}{k:Bool}(q:AInv S)(hs:0≤S.sel k)(hiw:IW (({S with ps:=upd S.ps (S.sel k).toNat 3}).put k (-1))):AInv (({S with ps:=upd S.ps (S.sel k).toNat 3}).put k (-1))∧Keep S (({S with ps:=upd S.ps (S.sel k).toNat 3}).put k (-1)):=by
 obtain⟨w1,w2⟩:=(q.iw.wi k).sel hs
 obtain⟨b,hb⟩:=Int.eq_ofNat_of_zero_le hs
 rw [hb,Int.toNat_natCast]at hiw ⊢
 rw [hb,Int.toNat_natCast]at w2
 rw [hb]at w1
 have p2: ∀i,upd S.ps b 3 i=2→i≠b∧S.ps i=2:=fun i h=>by
  by_cases ei:i=b
  ·subst ei;rw [upd_eq]at h;cases h
  ·rw [upd_ne _ _ ei]at h;exact⟨ei,h⟩
 have p1: ∀i,upd S.ps b 3 i=1→S.ps i=1:=fun i h=>by
  by_cases ei:i=b
  ·subst ei;rw [upd_eq]at h;cases h
  ·rw [upd_ne _ _ ei]at h;exact h
 have p3: ∀i,S.ps i=3→upd S.ps b 3 i=3:=fun i h=>by
  by_cases ei:i=b
  ·subst ei;exact upd_eq _ _ _
  ·rw [upd_ne _ _ ei];exact h
 have pm: ∀i,S.ps i=2∨S.ps i=3→upd S.ps b 3 i=2∨upd S.ps b 3 i=3:=fun i h=>by
  by_cases ei:i=b
  ·subst ei;exact .inr (upd_eq _ _ _)
  ·rw [upd_ne _ _ ei];exact h
 cases k with
 |true=>
  have hl:S.log=((b:Nat):Int):=hb
  refine⟨⟨q.geo,q.off,q.cut,q.dn,hiw,q.nxP,fun i hi h=>?_,fun i hi h=>q.free i hi (p1 i h),fun y hy=>?_,fun h=>absurd h (by show¬(0:Int)≤ -1;omega),q.jdat,fun s p h=>?_,q.inj⟩,⟨fun _ _=>Nat.le_refl _,fun _ _ _ _=>rfl,fun i _ h=>p3 i h,fun i _ h=>pm i h,fun _ _ _=>rfl,fun i _ h e=>h (p1 i e)⟩⟩
  ·obtain⟨h1,h2⟩:=p2 i h
   rcases q.op2 i hi h2 with h3|h3
   ·exact .inl h3
   ·rw [hl]at h3;exact absurd (by omega) h1
  ·obtain⟨i,h1,h2,h3⟩:=q.jr y hy
   refine⟨i,h1,h2,.inl ?_⟩
   rcases h3 with h3|⟨h3,h4⟩
   ·exact p3 i h3
   ·rw [hl]at h4
    have:i=b:=by omega
    subst this;exact upd_eq _ _ _
  ·obtain⟨h1,h2,i,j,h3,h4,h5,h6,h7⟩:=q.map s p h
   exact⟨h1,h2,i,j,h3,h4,h5,pm i h6,h7⟩
 |false=>
  have hl:S.dat=((b:Nat):Int):=hb
  refine⟨⟨q.geo,q.off,q.cut,q.dn,hiw,q.nxP,fun i hi h=>?_,fun i hi h=>q.free i hi (p1 i h),fun y hy=>?_,q.jlog,fun h=>absurd h (by show¬(0:Int)≤ -1;omega),fun s p h=>?_,q.inj⟩,⟨fun _ _=>Nat.le_refl _,fun _ _ _ _=>rfl,fun i _ h=>p3 i h,fun i _ h=>pm i h,fun _ _ _=>rfl,fun i _ h e=>h (p1 i e)⟩⟩
  ·obtain⟨h1,h2⟩:=p2 i h
   rcases q.op2 i hi h2 with h3|h3
   ·rw [hl]at h3;exact absurd (by omega) h1
   ·exact .inr h3
  ·obtain⟨i,h1,h2,h3⟩:=q.jr y hy
   refine⟨i,h1,h2,?_⟩
   by_cases ei:i=b
   ·subst ei;exact .inl (upd_eq _ _ _)
   ·show upd S.ps b 3 i=3∨upd S.ps b 3 i=2∧_
    rw [upd_ne _ _ ei];exact h3
  ·obtain⟨h1,h2,i,j,h3,h4,h5,h6,h7⟩:=q.map s p h
   exact⟨h1,h2,i,j,h3,h4,h5,pm i h6,h7⟩
omit L X in
theorem AInv.cls {S:Ap}(q:AInv S)(k:Bool):AInv (S.cls k)∧Keep S (S.cls k):=by
 have hiw:=(q.iw.cls k).1
 by_cases hc:0≤S.sel k∧(S.D.bl (S.sel k).toNat).nx=S.D.P
 ·have e:S.cls k=({S with ps:=upd S.ps (S.sel k).toNat 3}).put k (-1):=by unfold Ap.cls;rw [if_pos hc]
  rw [e]at hiw ⊢
  exact q.close hc.1 hiw
 ·have e:S.cls k=S:=by unfold Ap.cls;rw [if_neg hc]
  rw [e];exact⟨q,.refl _⟩
end
section
variable {P0:Program}{E:Env}{F:T CFn}{K:T (List AV×AV)}(L:Lg P0 E F K)(X:Fx F K)
include L X
omit L X in
theorem AInv.opn {S S2:Ap}{k:Bool}(q:AInv S)(h:S.opn k=some S2):AInv S2∧Keep S S2∧S2.jr (S2.sel k)=k:=by
 obtain⟨hiw,hD,hs0,-⟩:=q.iw.opn h
 unfold Ap.opn at h
 split at h
 ·rename_i hs
  split at h
  ·cases h
  ·rename_i hcold
   rcases Ex S.ps S.pe 1 S.D.nb with⟨h1,-⟩|⟨c,hc,h1,h2⟩
   ·rw [h1]at hcold;omega
   ·rw [h1,Int.toNat_natCast]at h
    have hjc:S.jr ((c:Nat):Int)=false:=by
     cases hj:S.jr ((c:Nat):Int)with
     |false=>rfl
     |true=>
      obtain⟨i,e1,e2,e3⟩:=q.jr _ hj
      have:i=c:=by omega
      subst this
      rcases e3 with e3|⟨e3,-⟩ <;> omega
    have p2: ∀i,upd S.ps c 2 i=2→i=c∨S.ps i=2:=fun i h=>by
     by_cases ei:i=c
     ·exact .inl ei
     ·rw [upd_ne _ _ ei]at h;exact .inr h
    have p1: ∀i,upd S.ps c 2 i=1→S.ps i=1:=fun i h=>by
     by_cases ei:i=c
     ·subst ei;exact h2
     ·rw [upd_ne _ _ ei]at h;exact h
    have p3: ∀i,S.ps i=3→upd S.ps c 2 i=3:=fun i h=>by
     rw [upd_ne _ _ (fun e=>by subst e;omega)];exact h
    have pm: ∀i,S.ps i=2∨S.ps i=3→upd S.ps c 2 i=2∨upd S.ps c 2 i=3:=fun i h=>by
     rw [upd_ne _ _ (fun e=>by subst e;omega)];exact h
    have nc: ∀i,S.ps i=2∨S.ps i=3→i≠c:=fun i h e=>by subst e;omega
    cases k with
    |true=>
     cases h
     have hlg:S.log<0:=hs
     refine⟨⟨q.geo,q.off,q.cut,q.dn,hiw,q.nxP,fun i hi h=>?_,fun i hi h=>q.free i hi (p1 i h),fun y hy=>?_,fun _=>?_,fun hd=>?_,fun s p h=>?_,q.inj⟩,⟨fun _ _=>Nat.le_refl _,fun _ _ _ _=>rfl,fun i _ h=>p3 i h,fun i _ h=>pm i h,fun i hi hne=>?_,fun i _ h e=>h (p1 i e)⟩,?_⟩
     ·rcases p2 i h with h3|h3
      ·exact .inr (by rw [h3];rfl)
      ·rcases q.op2 i hi h3 with h4|h4
       ·exact .inl h4
       ·omega
     ·have hy':A1 S.jr ((c:Nat):Int) true y=true:=hy
      unfold A1 at hy'
      by_cases ey:y=((c:Nat):Int)
      ·exact⟨c,ey,hc,.inr ⟨upd_eq _ _ _,rfl⟩⟩
      ·rw [if_neg ey]at hy'
       obtain⟨i,e1,e2,e3⟩:=q.jr y hy'
       refine⟨i,e1,e2,?_⟩
       rcases e3 with e3|⟨e3,e4⟩
       ·exact .inl (p3 i e3)
       ·omega
     ·show A1 S.jr ((c:Nat):Int) true ((c:Nat):Int)=true
      unfold A1;rw [if_pos rfl]
     ·show A1 S.jr ((c:Nat):Int) true S.dat=false
      have hd':0≤S.dat:=hd
      obtain⟨g1,g2⟩:=(q.iw.wi false).sel hd'
      have g2':S.ps S.dat.toNat=2:=g2
      unfold A1;rw [if_neg (fun e=>nc _ (.inl g2') (by omega))]
      exact q.jdat hd'
     ·obtain⟨e1,e2,i,j,h3,h4,h5,h6,h7,h8⟩:=q.map s p h
      refine⟨e1,e2,i,j,h3,h4,h5,pm i h6,?_,h8⟩
      show A1 S.jr ((c:Nat):Int) true ((i:Nat):Int)=false
      unfold A1;rw [if_neg (fun e=>nc i h6 (by omega))]
      exact h7
     ·show A1 S.jr ((c:Nat):Int) true ((i:Nat):Int)=S.jr ((i:Nat):Int)
      unfold A1;rw [if_neg (fun e=>hne (by
                           have:i=c:=by omega
                           subst this;exact h2))]
     ·show A1 S.jr ((c:Nat):Int) true ((c:Nat):Int)=true
      unfold A1;rw [if_pos rfl]
    |false=>
     cases h
     have hdt:S.dat<0:=hs
     refine⟨⟨q.geo,q.off,q.cut,q.dn,hiw,q.nxP,fun i hi h=>?_,fun i hi h=>q.free i hi (p1 i h),fun y hy=>?_,q.jlog,fun hd=>hjc,fun s p h=>?_,q.inj⟩,⟨fun _ _=>Nat.le_refl _,fun _ _ _ _=>rfl,fun i _ h=>p3 i h,fun i _ h=>pm i h,fun i hi hne=>rfl,fun i _ h e=>h (p1 i e)⟩,hjc⟩
     ·rcases p2 i h with h3|h3
      ·exact .inl (by rw [h3];rfl)
      ·rcases q.op2 i hi h3 with h4|h4
       ·omega
       ·exact .inr h4
     ·obtain⟨i,e1,e2,e3⟩:=q.jr y hy
      refine⟨i,e1,e2,?_⟩
      rcases e3 with e3|⟨e3,e4⟩
      ·exact .inl (p3 i e3)
      ·refine .inr ⟨?_,e4⟩
       show upd S.ps c 2 i=2
       rw [upd_ne _ _ (nc i (.inl e3))];exact e3
     ·obtain⟨e1,e2,i,j,h3,h4,h5,h6,h7⟩:=q.map s p h
      exact⟨e1,e2,i,j,h3,h4,h5,pm i h6,h7⟩
 ·rename_i hs
  cases h
  refine⟨q,.refl _,?_⟩
  cases k with
  |true=>exact q.jlog (Int.not_lt.1 hs)
  |false=>exact q.jdat (Int.not_lt.1 hs)
end
section
variable {P0:Program}{E:Env}{F:T CFn}{K:T (List AV×AV)}(L:Lg P0 E F K)(X:Fx F K)
include L X
omit L X in
theorem Dv.prog_ok {D:Dv}{b:Nat}{all:List Nat}(hoff:D.off=false)(hcut:D.cut= -1)(hb:b<D.nb)(hx:(D.bl b).nx<D.P):
  D.prog ((b:Nat):Int) all=(D.wr b all,if D.flt D.n=true then 54 else 0)∧(D.wr b all).off=false∧D.pgW all=if D.flt D.n=true then⟨4,[]⟩else⟨2,all⟩:=by
 have hn: ¬((D.n:Int)=D.cut):=by rw [hcut];omega
 refine⟨?_,?_,?_⟩
 ·unfold Dv.prog
  rw [if_pos ⟨by omega,by omega,by rw [Int.toNat_natCast];exact hx⟩,if_neg (by rw [hoff];simp),if_neg hn,Int.toNat_natCast]
 ·show(D.off || decide ((D.n:Int)=D.cut))=false
  rw [hoff,decide_eq_false hn];rfl
 ·unfold Dv.pgW;rw [if_neg hn]
omit L X in
theorem AInv.wr {S:Ap}{b:Nat}{all:List Nat}(q:AInv S)(hb:b<S.D.nb)(hp:S.ps b=2)(hx:(S.D.bl b).nx<S.D.P)(su:Int→Bool):
  AInv {S with D:=S.D.wr b all,su:=su}∧Keep S {S with D:=S.D.wr b all,su:=su}:=by
 have ho:=(Dv.prog_ok (all:=all) q.off q.cut hb hx).2.1
 have hbl: ∀i,i≠b→(S.D.wr b all).bl i=S.D.bl i:=fun i h=>upd_ne _ _ h
 have hbb:(S.D.wr b all).bl b=⟨upd (S.D.bl b).pg (S.D.bl b).nx (S.D.pgW all),(S.D.bl b).nx+1,(S.D.bl b).er⟩:=upd_eq _ _ _
 have hpg: ∀i j,j<(S.D.bl i).nx→((S.D.wr b all).bl i).pg j=(S.D.bl i).pg j:=by
  intro i j hj
  by_cases e:i=b
  ·subst e;rw [hbb];exact upd_ne _ _ (by omega)
  ·rw [hbl i e]
 have hnx: ∀i,(S.D.bl i).nx≤((S.D.wr b all).bl i).nx:=by
  intro i
  by_cases e:i=b
  ·subst e;rw [hbb];exact Nat.le_succ _
  ·rw [hbl i e];exact Nat.le_refl _
 refine⟨⟨⟨q.geo.nb,q.geo.P,q.geo.sz,q.geo.en⟩,ho,q.cut,q.dn,⟨fun k=>⟨(q.iw.wi k).sel,(q.iw.wi k).lo⟩,q.iw.ne⟩,fun i hi=>?_,q.op2,fun i hi h=>?_,q.jr,q.jlog,q.jdat,fun s p h=>?_,q.inj⟩,⟨fun i _=>hnx i,fun i j _ hj=>hpg i j hj,fun _ _ h=>h,fun _ _ h=>h,fun _ _ _=>rfl,fun _ _ h=>h⟩⟩
 ·show((S.D.wr b all).bl i).nx≤S.D.P
  by_cases e:i=b
  ·subst e;rw [hbb];exact hx
  ·rw [hbl i e];exact q.nxP i hi
 ·show((S.D.wr b all).bl i).nx=0
  have h':S.ps i=1:=h
  rw [hbl i (fun e=>by subst e;omega)]
  exact q.free i hi h'
 ·obtain⟨e1,e2,i,j,h3,h4,h5,h6,h7,h8,h9⟩:=q.map s p h
  exact⟨e1,e2,i,j,h3,h4,h5,h6,h7,Nat.lt_of_lt_of_le h8 (hnx i),by show(((S.D.wr b all).bl i).pg j).st=2;rw [hpg i j h8];exact h9⟩
end
section
variable {P0:Program}{E:Env}{F:T CFn}{K:T (List AV×AV)}(L:Lg P0 E F K)(X:Fx F K)
include L X
omit L X in
theorem AInv.nx_lt {S S2:Ap}{k:Bool}(q:AInv S)(h:(S.cls k).opn k=some S2):(S2.D.bl (S2.sel k).toNat).nx<S2.D.P:=by
 have q1:=(q.cls k).1
 have hP:=q1.geo.P
 obtain⟨hiw,hD,hs0,-⟩:=q1.iw.opn h
 by_cases hs:(S.cls k).sel k<0
 ·unfold Ap.opn at h
  rw [if_pos hs]at h
  split at h
  ·cases h
  ·rename_i hcold
   rcases Ex (S.cls k).ps (S.cls k).pe 1 (S.cls k).D.nb with⟨h1,-⟩|⟨c,hc,h1,h2⟩
   ·rw [h1]at hcold;omega
   ·rw [hD]
    have e:S2.sel k=((c:Nat):Int):=by
     rw [h1]at h
     cases h
     exact C6 _ _ _
    rw [e,Int.toNat_natCast,q1.free c hc h2]
    omega
 ·have e2:S2=S.cls k:=by
   unfold Ap.opn at h
   rw [if_neg hs]at h
   cases h;rfl
  subst e2
  by_cases hc:0≤S.sel k∧(S.D.bl (S.sel k).toNat).nx=S.D.P
  ·have e:S.cls k=({S with ps:=upd S.ps (S.sel k).toNat 3}).put k (-1):=by unfold Ap.cls;rw [if_pos hc]
   rw [e,C6]at hs
   omega
  ·have e:S.cls k=S:=by unfold Ap.cls;rw [if_neg hc]
   rw [e]at hs ⊢
   obtain⟨g1,g2⟩:=(q.iw.wi k).sel (by omega)
   have:=q.nxP (S.sel k).toNat (by omega)
   have hne:(S.D.bl (S.sel k).toNat).nx≠S.D.P:=fun e=>hc ⟨by omega,e⟩
   omega
omit L X in
theorem um (S:Ap)(k:Bool):(S.cls k).D=S.D:=by unfold Ap.cls;split <;> cases k <;> rfl
omit L X in
theorem AInv.w1 {S:Ap}(q:AInv S)(k:Bool)(all:List Nat):AInv (S.w1 k all).1∧Keep S (S.w1 k all).1∧(S.w1 k all).2≠ .pow∧((S.w1 k all).2= .full→ ∀i,i<S.D.nb→(S.w1 k all).1.ps i≠1)∧
  (∀p,(S.w1 k all).2= .done p→ ∃b j:Nat,p=b*S.D.P+j∧b<S.D.nb∧j<S.D.P∧(S.w1 k all).1.ps b=2∧(S.w1 k all).1.jr ((b:Nat):Int)=k∧j<((S.w1 k all).1.D.bl b).nx∧((S.w1 k all).1.D.bl b).pg j=⟨2,all⟩∧(S.D.bl b).nx=j):=by
 obtain⟨q1,k1⟩:=q.cls k
 have hiw:=(q.iw.w1 k all).1
 have hn1:(S.cls k).D=S.D:=um S k
 cases ho:(S.cls k).opn k with
 |none=>
  have e:S.w1 k all=(S.cls k,.full):=by unfold Ap.w1;rw [ho]
  rw [e]
  refine⟨q1,k1,(by simp),fun _ i hi=>?_,fun p h=>by cases h⟩
  unfold Ap.opn at ho
  split at ho
  ·split at ho
   ·rename_i hcold
    rcases Ex (S.cls k).ps (S.cls k).pe 1 (S.cls k).D.nb with⟨h1,h2⟩|⟨c,hc,h1,h2⟩
    ·exact h2 i (by rw [hn1];exact hi)
    ·rw [h1]at hcold;omega
   ·cases ho
  ·cases ho
 |some S2=>
  obtain⟨q2,k2,hj2⟩:=q1.opn ho
  have hx:=q.nx_lt ho
  obtain⟨-,hD2,hs0,-⟩:=q1.iw.opn ho
  obtain⟨g1,g2⟩:=(q2.iw.wi k).sel hs0
  obtain⟨b,hb⟩:=Int.eq_ofNat_of_zero_le hs0
  have hsame:S2.D=S.D:=hD2.trans hn1
  rw [hb,Int.toNat_natCast]at hx g2
  rw [hb]at hj2
  have hbn:b<S2.D.nb:=by omega
  obtain⟨f1,f2,f3⟩:=Dv.prog_ok (all:=all) q2.off q2.cut hbn hx
  have kk:Keep S S2:=k1.trans k2 (by rw [hn1])
  by_cases hfl:S2.D.flt S2.D.n=true
  ·have e:S.w1 k all=(({S2 with D:=S2.D.wr b all,su:=A1 S2.su ((b:Nat):Int) true,ps:=upd S2.ps b 3}:Ap).put k (-1),.again):=by
    unfold Ap.w1
    rw [ho]
    simp only [hb,f1,if_pos hfl,Int.toNat_natCast]
    rfl
   obtain⟨q3,k3⟩:=q2.wr (all:=all) hbn g2 hx (A1 S2.su ((b:Nat):Int) true)
   have hse:({S2 with D:=S2.D.wr b all,su:=A1 S2.su ((b:Nat):Int) true}:Ap).sel k=((b:Nat):Int):=by cases k <;> exact hb
   rw [e]at hiw ⊢
   have hcl:=q3.close (k:=k) (by rw [hse];omega)
   rw [hse,Int.toNat_natCast]at hcl
   obtain⟨q4,k4⟩:=hcl hiw
   exact⟨q4,(kk.trans k3 (by rw [hsame])).trans k4 (by show S2.D.nb=S.D.nb;rw [hsame]),by simp,(fun h=>by cases h),fun p h=>by cases h⟩
  ·have e:S.w1 k all=({S2 with D:=S2.D.wr b all},.done (b*S2.D.P+(S2.D.bl b).nx)):=by
    unfold Ap.w1
    rw [ho]
    simp only [hb,f1,if_neg hfl,Int.toNat_natCast]
    rfl
   obtain⟨q3,k3⟩:=q2.wr (all:=all) hbn g2 hx S2.su
   rw [e]
   refine⟨q3,kk.trans k3 (by rw [hsame]),by simp,(fun h=>by cases h),fun p h=>?_⟩
   cases h
   rw [if_neg hfl]at f3
   refine⟨b,(S2.D.bl b).nx,by rw [←hsame],by rw [←hsame];exact hbn,by rw [←hsame];exact hx,g2,hj2,?_,?_,by rw [hsame]⟩
   ·show(S2.D.bl b).nx<((upd S2.D.bl b ⟨upd (S2.D.bl b).pg (S2.D.bl b).nx (S2.D.pgW all),(S2.D.bl b).nx+1,(S2.D.bl b).er⟩) b).nx
    rw [upd_eq];exact Nat.lt_succ_self _
   ·show((upd S2.D.bl b ⟨upd (S2.D.bl b).pg (S2.D.bl b).nx (S2.D.pgW all),(S2.D.bl b).nx+1,(S2.D.bl b).er⟩) b).pg (S2.D.bl b).nx=_
    rw [upd_eq]
    show upd (S2.D.bl b).pg (S2.D.bl b).nx (S2.D.pgW all) (S2.D.bl b).nx=_
    rw [upd_eq];exact f3
omit L X in
theorem WrP.inv {k:Bool}{all:List Nat}{S S':Ap}{r:WO}(h:WrP k all S S' r)(q:AInv S):AInv S'∧Keep S S'∧r≠ .pow∧(r= .full→ ∀i,i<S.D.nb→S'.ps i≠1)∧
  (∀p,r= .done p→ ∃b j:Nat,p=b*S.D.P+j∧b<S.D.nb∧j<S.D.P∧S'.ps b=2∧S'.jr ((b:Nat):Int)=k∧j<(S'.D.bl b).nx∧(S'.D.bl b).pg j=⟨2,all⟩∧(S.D.bl b).nx≤j):=by
 induction h with
 |stop h=>
  obtain⟨a,b,c,d,e⟩:=q.w1 k all
  exact⟨a,b,c,d,fun p hp=>let⟨b,j,e1,e2,e3,e4,e5,e6,e7,e8⟩:=e p hp;⟨b,j,e1,e2,e3,e4,e5,e6,e7,by omega⟩⟩
 | @more S S' r h _ ih=>
  obtain⟨a,b,c,d,e⟩:=q.w1 k all
  obtain⟨a',b',c',d',e'⟩:=ih a
  have f:=X7 S k all
  refine⟨a',b.trans b' f.nb,c',fun hr i hi=>d' hr i (by rw [f.nb];exact hi),fun p hp=>?_⟩
  obtain⟨i,j,e1,e2,e3,e4,e5,e6,e7,e8⟩:=e' p hp
  rw [f.nb]at e2
  rw [f.P]at e1 e3
  exact⟨i,j,e1,e2,e3,e4,e5,e6,e7,Nat.le_trans (b.nx i e2) e8⟩
end
section
variable {P0:Program}{E:Env}{F:T CFn}{K:T (List AV×AV)}(L:Lg P0 E F K)(X:Fx F K)
include L X
omit L X in
theorem AInv.nw {S:Ap}(q:AInv S)(n l:Nat)(w:Int→Option Nat):AInv {S with next:=n,last:=l,wr:=w}:=
 ⟨q.geo,q.off,q.cut,q.dn,⟨fun k=>⟨(q.iw.wi k).sel,(q.iw.wi k).lo⟩,q.iw.ne⟩,q.nxP,q.op2,q.free,q.jr,q.jlog,q.jdat,q.map,q.inj⟩
omit L X in
theorem StP.inv {sec:Int}{data:List Nat}{S S':Ap}{o:WO}(h:StP sec data S S' o)(q:AInv S):AInv S'∧Keep S S'∧o≠ .pow∧(o= .full→ ∀i,i<S.D.nb→S'.ps i≠1)∧
  (∀p,o= .done p→ ∃b j:Nat,p=b*S.D.P+j∧b<S.D.nb∧j<S.D.P∧S'.ps b=2∧S'.jr ((b:Nat):Int)=false∧j<(S'.D.bl b).nx∧(S'.D.bl b).pg j=⟨2,data++An (spD sec S.next) data⟩∧(S.D.bl b).nx≤j):=by
 have q1:AInv {S with next:=S.next+1}:=q.nw (S.next+1) S.last S.wr
 cases h with
 |ok h=>
  obtain⟨a,b,c,d,e⟩:=h.inv q1
  refine⟨a.nw _ _ _,⟨b.nx,b.pg,b.ps3,b.psm,b.jrm,b.n1⟩,c,d,e⟩
 |bad h hr=>
  obtain⟨a,b,c,d,e⟩:=h.inv q1
  exact⟨a,⟨b.nx,b.pg,b.ps3,b.psm,b.jrm,b.n1⟩,c,d,e⟩
omit L X in
structure PgOk (S:Ap)(sec:Int)(data:List Nat)(p:Int):Prop where
 ex: ∃b j n:Nat,p=((b*S.D.P+j:Nat):Int)∧b<S.D.nb∧j<S.D.P∧(S.ps b=2∨S.ps b=3)∧S.jr ((b:Nat):Int)=false∧j<(S.D.bl b).nx∧(S.D.bl b).pg j=⟨2,data++An (spD sec n) data⟩
omit L X in
theorem PgOk.keep {S S':Ap}{sec:Int}{data:List Nat}{p:Int}(q:PgOk S sec data p)(k:Keep S S')(hP:S'.D.P=S.D.P)(hnb:S'.D.nb=S.D.nb):PgOk S' sec data p:=by
 obtain⟨b,j,n,h1,h2,h3,h4,h5,h6,h7⟩:=q.ex
 exact⟨b,j,n,by rw [hP];exact h1,by rw [hnb];exact h2,by rw [hP];exact h3,k.psm b h2 h4,by rw [k.jrm b h2 (by omega)];exact h5,Nat.lt_of_lt_of_le h6 (k.nx b h2),by rw [k.pg b j h2 h6];exact h7⟩
omit L X in
theorem StP.pg {sec:Int}{data:List Nat}{S S':Ap}{p:Nat}(h:StP sec data S S' (.done p))(q:AInv S):PgOk S' sec data ((p:Nat):Int)∧(∃b j:Nat,p=b*S.D.P+j∧b<S.D.nb∧j<S.D.P∧(S.D.bl b).nx≤j):=by
 have f:=(h.fr q.iw).1
 obtain⟨a,b,c,d,e⟩:=h.inv q
 obtain⟨i,j,e1,e2,e3,e4,e5,e6,e7,e8⟩:=e p rfl
 exact⟨⟨i,j,S.next,by rw [f.P,e1],by rw [f.nb];exact e2,by rw [f.P];exact e3,.inl e4,e5,e6,e7⟩,i,j,e1,e2,e3,e8⟩
end
end Go.Ev
