/- Part of the proof. -/
import Derived.Test.YtgkianlpkdfhkaaGreatH04
import Derived.Test.YtgkianlpkdfhkaaGreatH10
import Derived.Test.YtgkianlpkdfhkaaGreatH08
import Derived.ChangeSame
import Derived.DataReads
set_option linter.unusedVariables false
set_option linter.unusedSectionVars false
set_option linter.unusedSimpArgs false
set_option maxRecDepth 10000
set_option maxHeartbeats 4000000
namespace Go.Ev
variable {D:Dv}{E:Env}{I:Ai}{Q:Nat→AV→Prop}{S S':Ap}{ab b bytes cap2 d fn i j lo m m' n0 nt o2 z:Nat}{cs:List AFr}{data:List Nat}{dfd:Bool}{h:H}{ls:List Ent}{o:WO}{p s sec:Int}{v:AV}{y:O}{κ:Nat→Nat}
section
variable {P0:Program}{F:T CFn}{K:T (List AV×AV)}(L:Lg P0 E F K)(X:Fx F K)(Y:FxH F K)
include L X Y
def xd (S:Ap)(n:Nat):Prop:=n=S.next
omit L X Y in
theorem xe {es:List Ent}{e:Ent}(hx:es[i]?=some e):(es.flatMap Aq)[i*2+0]?=some (AI e.1)∧(es.flatMap Aq)[i*2+1]?=some (AI e.2):=by
 refine⟨?_,?_⟩;·rw [Dc es (Ez es) i 0 e hx (by omega)];rfl
 ·rw [Dc es (Ez es) i 1 e hx (by omega)];rfl
omit L X Y in
theorem Aa3 {l:List (Nat×Option AV)}{x:O}{q:Bool}{a b:Int}(e:evO l x=some (.agg [AI a,AI b]))(e1:evO l y=some (.agg [AI a,AI b])):XV (.bin .neq x y q (.agg [(0,0,.pint),(1,0,.pint)])) h l (.bool false) h:=by refine⟨?_⟩;simp [exec,Af,Ab e,Ab e1,F9,S5,V1,Ui,eqv,H9,X4,Gr,A8,Rr,vo]
theorem ep {lo':Nat}{v':AV}{es:List Ent}(q:EL h lo v es)(q':EL h lo' v' es)(hl:es.length≤2000000):Ct P0 E F K 35 [v,v'] h fun u h'=>u= .bool true∧K0 h h':=by
 rcases q.len with⟨rfl,rfl⟩|⟨g1,b,rfl,g3,_⟩
 ·rcases q'.len with⟨_,rfl⟩|⟨g1',_⟩;·refine Ad L Y.f35 fun Q x cs G=>?_;refine wk ?_;refine A5 L ?_;refine ret Y.f35.1 ?_;exact⟨rfl,kps⟩
  ·exact absurd g1' (Nat.lt_irrefl _)
 ·rcases q'.len with⟨rfl,_⟩|⟨_,b',rfl,g3',_⟩;·exact absurd g1 (Nat.lt_irrefl _)
  have l1:=g3.lt;have l2:=g3'.lt;refine Ad L Y.f35 fun Q x cs G=>?_;refine wk ?_;refine B9 L (α:= Unit) (T:=fun i _=> [(5,some (AN i)),(1,some (.slc b' 0 es.length (Aa+2))),(0,some (.slc b 0 es.length (Aa+2)))]) (n:=es.length) (R:=fun _ _ h2=>K0 h h2) (i0:=0) () tsb kps (Nat.zero_le _) ?_ ?_;·rintro i _ h2 hi w1 ih;have hx:es[i]?=some es[i]:=List.getElem?_eq_getElem hi;obtain⟨x1,x2⟩:=xe hx;have gb:=Ag w1 g3;have gb':=Ag w1 g3';generalize es[i]=e at*;obtain⟨ea,eb⟩:=e;simp only at x1 x2;refine wk ?_;(apply A6 rfl rfl;exact Aa3 rfl rfl);refine wk ?_;exact ih () _ _ (by exact kps) tsb
  ·rintro _ h2 w1;refine ret Y.f35.1 ?_;exact⟨rfl,kps⟩
theorem mz (r:ApR κ h I S)(ka:Bk h ab [.ptr I.s 0]):Ct P0 E F K 19 [.ptr ab 0] h fun v h'=>v= .ptr I.d 0∧h'=h:=by have sk:=r.sk;unfold apC at sk;refine Am L Y.f19 fun Q x cs G=>?_;refine ret Y.f19.1 ?_;exact⟨rfl,rfl⟩
theorem m0 {c:Nat}(r:ApR κ h I S)(kc:Bk h c [Zu])(hc:200≤κ c):Ct P0 E F K 75 [.ptr I.s 0,.ptr c 0] h fun v h'=>Kp (fun j=>j=c) h h'∧ ∃n,xd S n∧Bk h' c [UN n]:=by have sk:=r.sk;have ls:=sk.lt;have lc:=kc.lt;have hcol:=r.col;unfold apC at sk;refine Ad L Y.f75 fun Q x cs G=>?_;refine ret Y.f75.1 ?_;exact⟨kps,_,rfl,lkp⟩
theorem Xn (r:ApR κ h I S)(ka:Bk h ab [.ptr I.s 0]): Ct P0 E F K 26 [.ptr ab 0] h (fun v h'=> ∃κ' n,v= UN n∧xd S n∧ApR κ' h' I S∧AChg κ h κ' h'):=by
 have lk:=ka.lt;refine Am L Y.f26 fun Q x cs G=>?_;refine wk ?_;have k1:K0 h (hp (h.n+1) h.t [(h.n,some (cl [Zu]))]):=kps;have hc1: ∀b,b<h.n→G9 κ h.n b=κ b:=fun b hb=>Ef hb;have r1:ApR (G9 κ h.n) (hp (h.n+1) h.t [(h.n,some (cl [Zu]))]) I S:=r.k0 k1 hc1;have a1:AChg κ h (G9 κ h.n) (hp (h.n+1) h.t [(h.n,some (cl [Zu]))]):=AChg.k0 k1 hc1;have kc1:Bk (hp (h.n+1) h.t [(h.n,some (cl [Zu]))]) h.n [Zu]:=lkp;have hn1:(hp (h.n+1) h.t [(h.n,some (cl [Zu]))]).n=h.n+1:=rfl
 have cl1: ∀κ2 h2,K0 (hp (h.n+1) h.t [(h.n,some (cl [Zu]))]) h2→(hp (h.n+1) h.t [(h.n,some (cl [Zu]))]).n<h2.n→(∀b,b<(hp (h.n+1) h.t [(h.n,some (cl [Zu]))]).n→κ2 b=G9 κ h.n b)→ApR κ2 h2 I S→CtX P0 E F K 75 (.ptr I.s 0:: [.ptr h.n 0]) h2
   (fun v h'=> ∃κ' S',ApR κ' h' I S'∧AChX (fun j=>j=h.n) κ2 h2 κ' h'∧(S'=S∧ ∃n,xd S n∧Bk h' h.n [UN n]))
   (fun v h'=> ∃κ' S' e,v= .ifc 44 (AI e)∧ApR κ' h' I S'∧AChX (fun j=>j=h.n) κ2 h2 κ' h'∧False):=by
  intro κ2 h2 k2 n2 c2 r2
  rw [hn1]at n2 c2
  have hk1:κ2 h.n=200:=(c2 _ (by omega)).trans (Dm (Nat.le_refl _))
  refine((m0 L X Y r2 (Ag k2 kc1) (by omega)).mono ?_).X
  rintro v h' ⟨q1,n,q2,q3⟩
  exact⟨ext κ2 h2.n,S,r2.own q1 (fun j _ e=>by subst e;omega) fun b hb=>Ae hb,⟨q1.mono fun b e=> .inr e,fun b hb=>Ae hb⟩,rfl,n,q2,q3⟩
 refine cal ?_ (c:=Gm L X r1 (Ag k1 ka) (fun b e=>by subst e;exact Nat.lt_succ_self _) cl1);rintro v h2 ⟨κ',S',h1,r',a',k',hv⟩;rw [hn1]at k';rcases hv with⟨rfl,u,rfl,n,q0,q1⟩|⟨e,rfl,q⟩
 ·have a2:AChg κ h κ' h2:=a'.own a1 fun b e=>by subst e;exact Nat.le_refl _
  have q1':Bk h2 h.n [UN n]:=Ar k' (by omega) q1;have lq:=q1'.lt;have hk1:κ' h.n=200:=(a'.col _ (by rw [hn1];omega)).trans (Dm (Nat.le_refl _));refine ret Y.f26.1 ?_;refine⟨κ',n,rfl,q0,r'.out (B:=fun j=>j=h.n) ?_ (fun b _ e=>by subst e;omega),AChg.own (B:=fun j=>j=h.n) a2 ?_ (fun b e=>by subst e;exact Nat.le_refl _) fun _ _=>rfl⟩;·exact kps
  ·exact kps
 ·exact q.elim
def Ek:Bool→Ent→List Ent→List Ent
 |d,x,[]=>if d=true then []else [x]
 |d,x,e::r=>(if d=false∧x.1≤e.1 then [x]else [])++((if e.1≠x.1 then [e]else [])++Ek (d || decide (x.1≤e.1)) x r)
section
variable {l:List (Nat×Option AV)}{n:Nat}{t:T Blk}{lh:List (Nat×Option Blk)}{x:O}{gd:Option (Nat×Bool)}{r:List CI}{k:List AItem}{ds:List ADef}{ro:Option Nat}
omit X Y in
theorem Xu {b2 n2:Nat}{new:List Ent}(hg:gdO gd l=some true)(e:evO l x=some v)(q:EL (hp n t lh) lo v ls)(hlo:lo≤n)(e1:evO l y=some (.slc b2 o2 n2 cap2))(k2:SlR 2 (hp n t lh) (.slc b2 o2 n2 cap2) n2 (new.flatMap Aq))(hn:new.length=n2)(hpos:0<n2)(hb:(ls.length+n2)*(bytes+1)≤1099511627776) (g: ∀v' h',EL h' lo v' (ls++new)→Kp (fun j=>lo≤j) (hp n t lh) h'→Good P0 E Q ⟨⟨fn,nt,tms ((d,some v')::l),.ops r::k,ds,.run,dfd,ro⟩,cs,hp h'.n h'.t []⟩): Good P0 E Q ⟨⟨fn,nt,tms l,.ops (⟨some d,gd,.append 2 bytes x y⟩::r)::k,ds,.run,dfd,ro⟩,cs,hp n t lh⟩:=by
 have hne:ls++new≠[]:=fun h=>by rw [(List.append_eq_nil_iff.1 h).2]at hn;simp at hn;omega
 rcases q.len with⟨rfl,rfl⟩|⟨h1,b,rfl,kb,hb2⟩;·have kk:Bk (hp (n+1) t ((n,some (cl (new.flatMap Aq)))::lh)) n (new.flatMap Aq):=lkp;exact I7 L (Ay hg) (D6 e e1 k2 hpos (by simpa using hb)).e (g (.slc n 0 n2 (Aa+2)) (hp (n+1) t ((n,some (cl (new.flatMap Aq)))::lh)) ⟨.inr ⟨hne,n,by rw [List.nil_append,hn],by rw [List.nil_append];exact kk,hlo⟩⟩ kps)
 ·have kk:Bk (hp (n+1) t ((n,some (cl (ls.flatMap Aq++new.flatMap Aq)))::(b,none)::lh)) n (ls.flatMap Aq++new.flatMap Aq):=lkp;exact I7 L (Ay hg) (D8 e e1 (Sf kb) k2 hpos hb (I1 _)).e (g (.slc n 0 (ls.length+n2) (Aa+2)) (hp (n+1) t ((n,some (cl (ls.flatMap Aq++new.flatMap Aq)))::(b,none)::lh)) ⟨.inr ⟨hne,n,by rw [List.length_append,hn],by rw [List.flatMap_append];exact kk,hlo⟩⟩ kps)
end
theorem Vw {lb x1:Nat}{y1 y2:Int}{d0:Bool}{h1:H}{lq:List (Nat×Option AV)}{x:AFr}(hl:ls.length≤2000000)(g5:Bk h1 lb (ls.flatMap Aq))(k3:Bk h1 x1 [AI y1,AI y2]) (G: ∀v h',EL h' h1.n v (Ek d0 (y1,y2) ls)∧K0 h1 h'→GO P0 E Q (finish v cs h' x)) (ht:TSub (tms [(7,some Zi),(6,some (.bool d0)),(5,some .nils),(3,some (.ptr x1 0)),(0,some (.slc lb 0 ls.length (Aa+2)))]) (tms lq)): Good P0 E Q ⟨⟨80,cf80.ntmps,tms lq,[.code ul,.inBlock 0,.code um],[],.run,false,none⟩,x::cs,hp h1.n h1.t []⟩:=by
 have l50:=g5.lt;have l30:=k3.lt;refine B9 L (α:= AV×Bool×List Ent) (T:=fun i a=> [(7,some (AN i)),(6,some (.bool a.2.1)),(5,some a.1),(3,some (.ptr x1 0)),(0,some (.slc lb 0 ls.length (Aa+2)))]) (n:=ls.length) (R:=fun i a hh=>EL hh h1.n a.1 a.2.2∧a.2.2.length≤i+a.2.1.toNat∧Kp (fun j=>h1.n≤j) h1 hh∧a.2.2++Ek a.2.1 (y1,y2) (ls.drop i)=Ek d0 (y1,y2) ls) (i0:=0) (.nils,d0,[]) ht ⟨EL.nil _ _,Nat.zero_le _,Kp.refl _,rfl⟩ (Nat.zero_le _) ?_ ?_
 ·rintro i ⟨v5,d,out⟩ hh hi ⟨u1,u2,u4,u5⟩ ih;simp only at u1 u2 u5;have hx:ls[i]?=some ls[i]:=List.getElem?_eq_getElem hi;have hf0:(ls.flatMap Aq)[i*2+0]?=some (AI ls[i].1):=by rw [Dc _ (Ez _) i 0 _ hx (by omega)];rfl
  have hdt:=D3 ls (Ez ls) i _ hx;rw [List.drop_eq_getElem_cons hi]at u5;generalize ls[i]=e at*;obtain⟨e1,e2⟩:=e;have hdt:i*2+2≤(ls.flatMap Aq).length∧((ls.flatMap Aq).drop (i*2)).take 2= [AI e1,AI e2]:=hdt;have hf0:(ls.flatMap Aq)[i*2+0]?=some (AI e1):=hf0;have g5':=Ar u4 (by omega) g5;have g5r:=g5'.rk;have k3':=Ar u4 (by omega) k3;have l3:=k3'.lt;have l5:=g5'.lt;have n1:=u4.n
  cases d with
  |true=>
   have u2:out.length≤i+1:=u2;by_cases hB:e1=y1;·refine wk ?_;refine ih (v5,true,out) _ _ ⟨u1.k0 kps,by show out.length≤i+1+1;omega,by exact kps,by rw [←u5];simp [Ek, *]⟩ tsb
   ·skip;refine wk ?_;(apply st1 L rfl;exact Bb (by exact lkr) hdt rfl;rfl);refine wk ?_;refine Xu L rfl rfl (new:= [(e1,e2)]) (u1.k0 kps) (by omega) rfl (SlR.of (c:= [AI e1,AI e2]) lkp (Nat.le_refl _) rfl) rfl (by omega) (by omega) ?_;rintro v8 h8 q8 k8;refine wk ?_;refine ih (v8,true,out++ [(e1,e2)]) _ _ ⟨q8.k0 kps,by show(out++ [(e1,e2)]).length≤i+1+1;rw [List.length_append];exact Nat.succ_le_succ u2,Kp.trS (S:=fun j=>h1.n≤j) (by exact kps) (fun _ _ e=>e) (Kp.trS k8 (fun _ _ e=>e) kps),by rw [←u5];simp [Ek, *]⟩ tsb
  |false=>
   have u2:out.length≤i:=u2;by_cases hA:y1≤e1
   ·refine wk ?_;refine Xu L rfl rfl (new:= [(y1,y2)]) (u1.k0 kps) (by omega) rfl (SlR.of (c:= [AI y1,AI y2]) lkp (Nat.le_refl _) rfl) rfl (by omega) (by omega) ?_;rintro v9 h9 q9 k9;have n9:=k9.n;simp only [Aj]at n9;have k9':Kp (fun j=>h1.n≤j) hh h9:=Kp.trS k9 (fun _ _ e=>e) kps;have u2:(out++ [(y1,y2)]).length≤i+1:=(by simp only [List.length_append,List.length_cons,List.length_nil];omega);by_cases hB:e1=y1;·refine wk ?_;refine ih (v9,true,out++ [(y1,y2)]) _ _ ⟨q9.k0 kps,by show(out++ [(y1,y2)]).length≤i+1+1;omega,by exact kps,by rw [←u5];simp [Ek, *]⟩ tsb
    ·have g5'':=Ar k9' (by omega) g5';have g5r:=g5''.rk;refine wk ?_;(apply st1 L rfl;exact Bb (by exact lkr) hdt rfl;rfl);refine wk ?_;refine Xu L rfl rfl (new:= [(e1,e2)]) (q9.k0 kps) (by omega) rfl (SlR.of (c:= [AI e1,AI e2]) lkp (Nat.le_refl _) rfl) rfl (by omega) (by omega) ?_;rintro v8 h8 q8 k8;refine wk ?_;refine ih (v8,true,out++ [(y1,y2)]++ [(e1,e2)]) _ _ ⟨q8.k0 kps,by show(out++ [(y1,y2)]++ [(e1,e2)]).length≤i+1+1;rw [List.length_append];exact Nat.succ_le_succ u2,Kp.trS (S:=fun j=>h1.n≤j) (by exact kps) (fun _ _ e=>e) (Kp.trS k8 (fun _ _ e=>e) kps),by rw [←u5];simp [Ek, *]⟩ tsb
   ·have hB: ¬e1=y1:=(by omega);refine wk ?_;(apply st1 L rfl;exact Bb (by exact lkr) hdt rfl;rfl);refine wk ?_;refine Xu L rfl rfl (new:= [(e1,e2)]) (u1.k0 kps) (by omega) rfl (SlR.of (c:= [AI e1,AI e2]) lkp (Nat.le_refl _) rfl) rfl (by omega) (by omega) ?_;rintro v8 h8 q8 k8;refine wk ?_;refine ih (v8,false,out++ [(e1,e2)]) _ _ ⟨q8.k0 kps,by show(out++ [(e1,e2)]).length≤i+1;rw [List.length_append];exact Nat.succ_le_succ u2,Kp.trS (S:=fun j=>h1.n≤j) (by exact kps) (fun _ _ e=>e) (Kp.trS k8 (fun _ _ e=>e) kps),by rw [←u5];simp [Ek, *]⟩ tsb
 ·rintro⟨v5,d,out⟩ hh ⟨u1,u2,u4,u5⟩;simp only at u1 u2 u5;rw [List.drop_length]at u5;have k3':=Ar u4 (by omega) k3;have l3:=k3'.lt;have n1:=u4.n
  cases d with
  |true=>refine ret Y.f80.1 ?_;exact⟨by rw [←u5];simp only [Ek,if_true,List.append_nil];exact u1.k0 kps,Kp.cut (lo:=h1.n) (by exact kps) (Nat.le_refl _)⟩
  |false=>have u2:out.length≤ls.length:=u2;refine wk ?_;refine Xu L rfl rfl (new:= [(y1,y2)]) (u1.k0 kps) (by omega) rfl (SlR.of (c:= [AI y1,AI y2]) lkp (Nat.le_refl _) rfl) rfl (by omega) (by omega) ?_;rintro v9 h9 q9 k9;refine ret Y.f80.1 ?_;exact⟨by rw [←u5];exact q9.k0 kps,Kp.cut (lo:=h1.n) (Kp.trS (S:=fun j=>h1.n≤j) (by exact kps) (fun _ _ e=>e) (Kp.trS k9 (fun _ _ e=>e) kps)) (Nat.le_refl _)⟩
theorem aj {lv:AV}{x:Ent}(q:EL h lo lv ls)(hl:ls.length≤2000000):Ct P0 E F K 80 [lv,.agg (Aq x)] h fun v h'=>EL h' h.n v (Ek (decide (x.2<0)) x ls)∧K0 h h':=by
 obtain⟨x1,x2⟩:=x;rcases q.len with⟨rfl,rfl⟩|⟨gn,lb,rfl,g5,g6⟩ <;> by_cases hx:x2<0;·rw [show decide ((x1,x2).2<0)=true from decide_eq_true hx];refine Ad L Y.f80 fun Q x cs G=>?_;refine wk ?_;refine A5 L ?_;refine ret Y.f80.1 ?_;exact⟨EL.nil _ _,kps⟩
 ·rw [show decide ((x1,x2).2<0)=false from decide_eq_false hx];refine Ad L Y.f80 fun Q x cs G=>?_;refine wk ?_;refine A5 L ?_;refine wk ?_;(apply st1 L rfl;exact D6 (new:= [AI x1,AI x2]) rfl rfl (SlR.of (c:= [AI x1,AI x2]) lkp (Nat.le_refl _) rfl) (by omega) (by omega);rfl);refine ret Y.f80.1 ?_;exact⟨EL.app (l:= []) (by exact lkp) (by omega) rfl,kps⟩
 all_goals
  have l5:=g5.lt
  first|rw [show decide ((x1,x2).2<0)=true from decide_eq_true hx]|rw [show decide ((x1,x2).2<0)=false from decide_eq_false hx]
  refine Ad L Y.f80 fun Q x cs G=>?_;refine wk ?_;refine Vw L X Y (h1:=hp (h.n+1) h.t [(h.n,some (cl [AI x1,AI x2]))]) (y1:=x1) (y2:=x2) (x1:=h.n) hl (by exact lkp) (by exact lkp) (fun v h' w=>G v h' ⟨w.1.mono (by simp only [Aj];omega),Kp.tr0 w.2 (by exact kps)⟩) ?_;exact tsb
end
section
variable {P0:Program}{F:T CFn}{K:T (List AV×AV)}(L:Lg P0 E F K)(X:Fx F K)
include L X
omit L X
theorem I2: ∀(n v:Nat) (p s:List Nat) (a:Nat),v<256 ^ n→a=p.length→leF (p++leb n v++s) a n=v
 |0,v,p,s,a,h,_=>by simp [leF]at h ⊢;omega
 |n+1,v,p,s,a,h,ha=>by
  subst ha;rw [leF,leb];have h1:(p++(v % 256::leb n (v / 256))++s).getD p.length 0=v % 256:=by rw [List.getD_eq_getElem?_getD,List.append_assoc,List.getElem?_append_right (Nat.le_refl _),Nat.sub_self];rfl
  have h2:p++(v % 256::leb n (v / 256))++s=(p++ [v % 256])++leb n (v / 256)++s:=by simp
  rw [h1,h2,I2 n (v / 256) (p++ [v % 256]) s (p.length+1) (by rw [Nat.pow_succ]at h;omega) (by simp)];omega
theorem E2 {s:Sp}(q:s.Fit):Vq (Ao s data) data=some s:=by
 obtain⟨v,ok⟩:=q;obtain⟨v1,v2,v3,v4,v5,v6⟩:=v;obtain⟨o1,o2,o3⟩:=ok;have e8:(256:Nat) ^ 8=18446744073709551616:=by decide
 have e4:(256:Nat) ^ 4=4294967296:=by decide
 have b1:0≤s.sec∧s.sec≤4294967294:=by rcases v6 with⟨-,a,b,-⟩|⟨-,a,-⟩ <;> omega
 have u1:u64 s.sec=s.sec.toNat:=by unfold u64;omega
 have u2:u64 s.idx=s.idx.toNat:=by unfold u64;omega
 have u3:u64 s.len=s.len.toNat:=by unfold u64;omega
 have hcr:crcB (data++A7 s)<256 ^ 4:=by have:=P7 (data++A7 s);rw [e4];omega
 have ht:(Ao s data).take 60=A7 s:=by unfold Ao;rw [←Fa s,List.take_left]
 have hsp:I0 (Ao s data)=s:=by
  have hk:(Ao s data).getD 4 0=s.kind:=rfl;have f: ∀(n v a:Nat) (p t:List Nat),Ao s data=p++leb n v++t→v<256 ^ n→a=p.length→leF (Ao s data) a n=v:=fun n v a p t h1 h2 h3=>by rw [h1];exact I2 n v p t a h2 h3
  have f1:=f 8 s.seq 8 (mag s.kind) _ (by unfold Ao A7;simp only [List.append_assoc];rfl) (by omega) rfl;have f2:=f 8 s.prev 16 (mag s.kind++leb 8 s.seq) _ (by unfold Ao A7;simp only [List.append_assoc];rfl) (by omega) (by rw [List.length_append,A0];rfl);have f3:=f 4 (u64 s.sec) 24 (mag s.kind++leb 8 s.seq++leb 8 s.prev) _ (by unfold Ao A7;simp only [List.append_assoc];rfl) (by omega) (by simp only [List.length_append,A0];rfl);have f4:=f 4 (u64 s.idx) 28 (mag s.kind++leb 8 s.seq++leb 8 s.prev++leb 4 (u64 s.sec)) _ (by unfold Ao A7;simp only [List.append_assoc];rfl) (by omega) (by simp only [List.length_append,A0];rfl);have f5:=f 4 (u64 s.len) 32 (mag s.kind++leb 8 s.seq++leb 8 s.prev++leb 4 (u64 s.sec)++leb 4 (u64 s.idx)) _ (by unfold Ao A7;simp only [List.append_assoc];rfl) (by omega) (by simp only [List.length_append,A0];rfl);unfold I0;rw [hk,f1,f2,f3,f4,f5,u1,u2,u3];obtain⟨k,sec,seq,prev,idx,len⟩:=s;simp only at b1 v2 v4 ⊢;rw [Int.toNat_of_nonneg b1.1,Int.toNat_of_nonneg v4,Int.toNat_of_nonneg (by omega)]
 have hc:leF (Ao s data) 60 4=crcB (data++(Ao s data).take 60):=by rw [ht];have:=I2 4 (crcB (data++A7 s)) (A7 s) [] 60 hcr (Fa s).symm;rw [List.append_nil]at this;exact this
 unfold Vq;rw [hsp,ht,if_pos ⟨by rw [←ht];exact hc,⟨v1,v2,v3,v4,v5,v6⟩,rfl⟩]
theorem ns {A:Int→Option Int}{D:List Int}(h:DomA A D)(hn: ∀s p,A s=some p→0≤p):stA (fun _=>none) (A9 A D) (A9 A D).length=A:=by
 have hk:(A9 A D).map (·.1)=D:=by unfold A9;rw [List.map_map];exact List.map_id D
 obtain⟨h1,h2⟩:=Vm (A9 A D) (fun _=>none) (by rw [hk];exact h.lt.imp fun {a b} h=>by omega);rw [Mx];funext s;by_cases hs:s∈D
 ·have:=h2 (s,atA A s) (List.mem_map.2 ⟨s,hs,rfl⟩);obtain⟨p,hp⟩:=Option.isSome_iff_exists.1 ((h.mem s).1 hs);have ha:atA A s=p:=by unfold atA;rw [hp];rfl
  simp only [ha]at this;rw [this,if_pos (hn s p hp),hp]
 ·rw [h1 s (by rw [hk];exact hs)]
  cases hA:A s with
  |none=>rfl
  |some p=>exact absurd ((h.mem s).2 (by rw [hA];rfl)) hs
theorem xy (D:Dv)(h:i≠b):(D.erase (b:Int)).1.bl i=D.bl i:=by
 unfold Dv.erase;rw [Int.toNat_natCast];repeat' split
 all_goals first|rfl|exact upd_ne _ _ h
def NewP (S S':Ap)(X:Nat→Nat→Pg→Prop):Prop:= ∀b j,b<S.D.nb→(S.D.bl b).nx≤j→j<(S'.D.bl b).nx→((S'.D.bl b).pg j).st=4∨X b j ((S'.D.bl b).pg j)
theorem NewP.refl {X:Nat→Nat→Pg→Prop}(h:S'.D=S.D):NewP S S' X:=fun b j _ h1 h2=>by rw [h]at h2;omega
theorem NewP.trans {S1:Ap}{X Y:Nat→Nat→Pg→Prop}(a:NewP S S1 X)(k:Keep S1 S')(hn:S1.D.nb=S.D.nb)(b:NewP S1 S' Y):NewP S S' fun i j p=>X i j p∨Y i j p:=fun i j hi h1 h2=>by
 rcases Nat.lt_or_ge j (S1.D.bl i).nx with h|h
 ·rw [k.pg i j (by omega) h]
  exact(a i j hi h1 h).imp id .inl
 ·exact(b i j (by omega) h h2).imp id .inr
theorem NewP.mono {X Y:Nat→Nat→Pg→Prop}(a:NewP S S' X)(h: ∀b j p,b<S.D.nb→X b j p→Y b j p):NewP S S' Y:=fun b j h0 h1 h2=>(a b j h0 h1 h2).imp id (h b j _ h0)
theorem NewP.w1 (q:AInv S)(k:Bool)(all:List Nat):NewP S (S.w1 k all).1 fun b j p=>(S.w1 k all).2= .done (b*S.D.P+j)∧p=⟨2,all⟩:=by
 have q1:=(q.cls k).1;have hn1:(S.cls k).D=S.D:=Acg S k
 cases ho:(S.cls k).opn k with
 |none=>
  have hw:S.w1 k all=(S.cls k,.full):=by unfold Ap.w1;rw [ho]
  rw [hw];exact .refl hn1
 |some S2=>
  obtain⟨q2,-,-⟩:=q1.opn ho;have hx:=q.nx_lt ho;obtain⟨-,hD2,hs0,-⟩:=q1.iw.opn ho;obtain⟨g1,g2⟩:=(q2.iw.wi k).sel hs0;obtain⟨b,hb⟩:=Int.eq_ofNat_of_zero_le hs0;have hsame:S2.D=S.D:=hD2.trans hn1;rw [hb,Int.toNat_natCast]at hx g2;have hbn:b<S2.D.nb:=by omega
  obtain⟨f1,f2,f3⟩:=Dv.prog_ok (all:=all) q2.off q2.cut hbn hx;have key: ∀i j,(S.D.bl i).nx≤j→j<((S2.D.wr b all).bl i).nx→i=b∧j=(S.D.bl b).nx∧((S2.D.wr b all).bl i).pg j=S2.D.pgW all:=fun i j h1 h2=>by
   rw [←hsame]at h1 ⊢;by_cases e:i=b;·subst e;have e2:(S2.D.wr i all).bl i=⟨upd (S2.D.bl i).pg (S2.D.bl i).nx (S2.D.pgW all),(S2.D.bl i).nx+1,(S2.D.bl i).er⟩:=upd_eq _ _ _;rw [e2]at h2 ⊢;have h3:j<(S2.D.bl i).nx+1:=h2;have:j=(S2.D.bl i).nx:=(by omega);subst this;exact⟨rfl,rfl,upd_eq _ _ _⟩
   ·have e2:(S2.D.wr b all).bl i=S2.D.bl i:=upd_ne _ _ e;rw [e2]at h2;omega
  have hD:(S.w1 k all).1.D=S2.D.wr b all∧(S.w1 k all).2=if S2.D.flt S2.D.n=true then .again else .done (b*S.D.P+(S.D.bl b).nx):=by
   unfold Ap.w1;rw [ho,←hsame];simp only [hb,f1,Int.toNat_natCast];by_cases hfl:S2.D.flt S2.D.n=true;·simp only [if_pos hfl];cases k <;> exact⟨rfl,rfl⟩
   ·simp only [if_neg hfl];exact⟨rfl,rfl⟩
  intro i j hi h1 h2;rw [hD.1]at h2 ⊢;obtain⟨rfl,rfl,e⟩:=key i j h1 h2;rw [e,f3,hD.2];by_cases hfl:S2.D.flt S2.D.n=true;·rw [if_pos hfl];exact .inl rfl
  ·rw [if_neg hfl,if_neg hfl];exact .inr ⟨rfl,rfl⟩
theorem WrP.new {k:Bool}{all:List Nat}{r:WO}(h:WrP k all S S' r): ∀q:AInv S,NewP S S' fun b j p=>r= .done (b*S.D.P+j)∧p=⟨2,all⟩:=by
 induction h with
 |stop h=>exact fun q=> .w1 q _ _
 | @more S S' r h t ih=>
  intro q;have f:=dx S k all;obtain⟨a,-⟩:=q.w1 k all;obtain⟨-,kk,-⟩:=t.inv a;refine((NewP.w1 q k all).trans kk f.nb (ih a)).mono fun b j p _ e=>?_;rcases e with⟨e,-⟩|e
  ·rw [h]at e;cases e
  ·rw [f.P]at e;exact e
include L X
def DatP (sz n:Nat)(p:Pg):Prop:= ∃(sec:Int) (m:Nat) (data:List Nat),p=⟨2,data++Ao (spD sec m) data⟩∧data.length=sz∧0≤sec∧sec<1000∧1≤m∧m<n
def JrnP (sz:Nat)(x:JPg):Pg:=⟨2,Bv sz x.2++Ao x.1 (Bv sz x.2)⟩
omit L X
theorem StP.new (h:StP sec data S S' o)(q:AInv S)(hd:data.length=S.D.sz)(hs:0≤sec∧sec<1000)(h1:1≤S.next):NewP S S' fun _ _ p=>DatP S.D.sz (S.next+1) p:=by
 have q1:AInv {S with next:=S.next+1}:=q.nw (S.next+1) S.last S.wr;have key: ∀{S1:Ap} {r:WO},WrP false (data++Ao (spD sec S.next) data) {S with next:=S.next+1} S1 r→NewP {S with next:=S.next+1} S1 fun _ _ p=>DatP S.D.sz (S.next+1) p:=fun h=>(h.new q1).mono fun b j p _ e=>⟨sec,S.next,data,e.2,hd,hs.1,hs.2,h1,Nat.lt_succ_self _⟩
 cases h with
 |ok h=>have r:=key h;exact r
 |bad h _=>exact key h
theorem DatP.mono {sz n n':Nat}{p:Pg}(h:n≤n'):DatP sz n p→DatP sz n' p:=fun⟨s,m,d,h1,h2,h3,h4,h5,h6⟩=>⟨s,m,d,h1,h2,h3,h4,h5,by omega⟩
theorem AppP.new {l:List (Int×Option (List Nat))}{es:List Ent}(h:AppP l S es S' o): ∀(q:AInv S),1≤S.next→(∀s d,(s,some d)∈l→d.length=S.D.sz∧0≤s∧s<1000)→NewP S S' (fun _ _ p=>DatP S.D.sz S'.next p)∧S.next≤S'.next:=by
 induction h with
 |nil=>exact fun q _ _=>⟨.refl rfl,Nat.le_refl _⟩
 |put h r ih=>
  intro q h1 hd;obtain⟨d1,d2⟩:=hd _ _ (List.mem_cons_self ..);obtain⟨f,-,-,fn⟩:=h.fr q.iw;obtain⟨a,-⟩:=h.inv q;obtain⟨-,kk,-⟩:=r.inv a;obtain⟨i1,i2⟩:=ih a (by omega) fun s d hm=>by rw [f.sz];exact hd s d (List.mem_cons_of_mem _ hm)
  rw [f.sz]at i1;exact⟨((h.new q d1 d2 h1).trans kk f.nb i1).mono fun _ _ _ _ e=>e.elim (DatP.mono (by omega)) id,by omega⟩
 |bad h _=>intro q h1 hd;obtain⟨d1,d2⟩:=hd _ _ (List.mem_cons_self ..);obtain⟨f,-,-,fn⟩:=h.fr q.iw;exact⟨by rw [fn];exact h.new q d1 d2 h1,by omega⟩
 |trim _ _ ih=>exact fun q h1 hd=>ih q h1 fun s d hm=>hd s d (List.mem_cons_of_mem _ hm)
 |skip _ _ ih=>exact fun q h1 hd=>ih q h1 fun s d hm=>hd s d (List.mem_cons_of_mem _ hm)
theorem RlP.new {sz:Nat}{l:List JPg}(h:RlP sz l S S' o): ∀q:AInv S,∃m,m≤l.length∧NewP S S' (fun _ _ p=> ∃x∈l.take m,p=JrnP sz x)∧(o≠ .done 0→m<l.length)∧ (o= .done 0→ ∀x∈l,∃b j:Nat,b<S.D.nb∧j<(S'.D.bl b).nx∧(S'.D.bl b).pg j=JrnP sz x∧S'.jr (b:Int)=true∧S.ps b≠3):=by
 induction h with
 |nil=>exact fun q=>⟨0,Nat.le_refl _,.refl rfl,(fun h=>absurd rfl h),fun _ x hx=>by cases hx⟩
 | @cons x r S S1 S' p o h t ih=>
  intro q;obtain⟨a,k1,-,-,e⟩:=h.inv q;have f:=h.fr;obtain⟨b,j,e1,e2,e3,e4,e5,e6,e7,e8⟩:=e p rfl;obtain⟨-,kk,-⟩:=t.inv a;obtain⟨m,m1,m2,m3,m4⟩:=ih a;refine⟨m+1,by simp only [List.length_cons];omega,((h.new q).trans kk f.nb m2).mono fun _ _ p _ e=>?_,(fun ho=>by have:=m3 ho;simp only [List.length_cons];omega),fun ho y hy=>?_⟩
  ·rw [List.take_succ_cons];rcases e with⟨-,e⟩|⟨y,hy,e⟩;·exact⟨x,List.mem_cons_self ..,e⟩
   ·exact⟨y,List.mem_cons_of_mem _ hy,e⟩
  ·rcases List.mem_cons.1 hy with rfl|hy;·refine⟨b,j,e2,Nat.lt_of_lt_of_le e6 (kk.nx b (by rw [f.nb];exact e2)),by rw [kk.pg b j (by rw [f.nb];exact e2) e6];exact e7,by rw [kk.jrm b (by rw [f.nb];exact e2) (by omega)];exact e5,fun h3=>?_⟩;have:=k1.ps3 b e2 h3;omega
   ·obtain⟨b,j,g1,g2,g3,g4,g5⟩:=m4 ho y hy;rw [f.nb]at g1;exact⟨b,j,g1,g2,g3,g4,fun h3=>g5 (k1.ps3 b g1 h3)⟩
 | @bad x r S S1 o h ho=>intro q;refine⟨0,Nat.zero_le _,(h.new q).mono fun b j p _ e=>?_,(fun _=>Nat.succ_pos _),(fun e=>by rcases ho with h|h <;> rw [h]at e <;> cases e)⟩;rcases ho with h|h <;> rw [h]at e <;> cases e.1
include L X
structure Rc where
 k:Nat
 f:Nat
 p:Nat
 es:List Ent
def Rc.n (z:Nat)(r:Rc):Nat:=cntJ z r.es.length
def Rc.pg (z:Nat)(r:Rc)(i:Nat):JPg:=C9 r.k z r.f r.p r.es i
def Rc.l (z:Nat)(r:Rc):Nat:=r.f+r.n z - 1
structure Rc.Ok (z m:Nat)(r:Rc):Prop where
 k:r.k=2∨r.k=3
 p:r.p<r.f
 n:r.f+r.n z≤m
 len:r.es.length≤20
 es: ∀e∈r.es,e.Ok
omit L X
theorem Rc.n1 (z:Nat)(r:Rc):1≤r.n z:=Nat.le_max_left ..
theorem Rc.Ok.mono {r:Rc}(q:r.Ok z m)(h:m≤m'):r.Ok z m':=⟨q.k,q.p,Nat.le_trans q.n h,q.len,q.es⟩
theorem Rc.Ok.fit {r:Rc}(q:r.Ok z m)(hz:12≤z∧z≤30)(hm:m<1000000)(hi:i<r.n z):(r.pg z i).1.Fit:=by have h:=q.n;have hn:=dy (sz:=z) (n:=r.es.length) (by omega) (by have:=q.len;omega);unfold Rc.n at h;exact Ua q.k ⟨q.p,by omega⟩ hi hn.2
theorem Qe {d d' e e':List Nat}{s s':Sp}(h:(⟨2,d++Ao s e⟩:Pg)=⟨2,d'++Ao s' e'⟩)(hl:d.length=d'.length):d=d'∧Ao s e=Ao s' e':=List.append_inj (congrArg Pg.b h) hl
theorem JrnP.inj {x x':JPg}(h:JrnP z x=JrnP z x')(q:x.1.Fit)(q':x'.1.Fit)(l:4+8*x.2.length≤z)(l':4+8*x'.2.length≤z):x.1=x'.1:=by obtain⟨e1,e2⟩:=Qe h (by rw [Fz l,Fz l']);have g:=E2 (data:=Bv z x.2) q;rw [e2,e1,E2 q']at g;exact(Option.some.inj g).symm
theorem DatP.ne {x:JPg}(h:DatP z m (JrnP z x))(q:x.1.Fit)(hk:x.1.kind=2∨x.1.kind=3)(l:4+8*x.2.length≤z)(hm:m<1000000):False:=by obtain⟨sec,n,d,e,hl,h1,h2,h3,h4⟩:=h;obtain⟨e1,e2⟩:=Qe e (by rw [Fz l,hl]);have g:=E2 (data:=Bv z x.2) q;rw [e2,e1,E2 (Mt (by omega) (by omega))]at g;have:=congrArg Sp.kind (Option.some.inj g);have:(1:Nat)=x.1.kind:=this;omega
theorem Rc.Ok.pg_inj {i':Nat}{r r':Rc}(q:r.Ok z m)(q':r'.Ok z m')(hz:12≤z∧z≤30)(hm:m<1000000∧m'<1000000)(hi:i<r.n z)(hi':i'<r'.n z)(h:JrnP z (r.pg z i)=JrnP z (r'.pg z i')):r.f=r'.f∧i=i':=by have e:=JrnP.inj h (q.fit hz hm.1 hi) (q'.fit hz hm.2 hi') (Cw hz.1 i) (Cw hz.1 i');have e1:r.f+i=r'.f+i':=congrArg Sp.seq e;have e2:(i:Int)=(i':Int):=congrArg Sp.idx e;omega
include L X
def On (S:Ap)(b j:Nat)(x:JPg):Prop:=b<S.D.nb∧j<(S.D.bl b).nx∧(S.D.bl b).pg j=JrnP S.D.sz x
def Rc.Abs (S:Ap)(r:Rc):Prop:= ∃i,i<r.n S.D.sz∧ ∀b j,¬On S b j (r.pg S.D.sz i)
def Rc.Liv (S:Ap)(N:Nat→Prop)(r:Rc):Prop:= ∀i,i<r.n S.D.sz→ ∃b j:Nat,On S b j (r.pg S.D.sz i)∧S.jr (b:Int)=true∧ ¬N b
structure JB (S:Ap)(Hs:List Rc):Prop where
 pg: ∀b j,b<S.D.nb→j<(S.D.bl b).nx→(((S.D.bl b).pg j).st≠2∧((S.D.bl b).pg j).st≠3)∨DatP S.D.sz S.next ((S.D.bl b).pg j)∨ ∃r∈Hs,∃i,i<r.n S.D.sz∧(S.D.bl b).pg j=JrnP S.D.sz (r.pg S.D.sz i)
 ok: ∀r∈Hs,r.Ok S.D.sz S.next
 inj: ∀r∈Hs,∀r'∈Hs,r.f=r'.f→r=r'
omit L X in
theorem JB.ext {Hs X:List Rc}(q:JB S Hs)(a:AInv S)(kk:Keep S S')(nb:S'.D.nb=S.D.nb)(sz:S'.D.sz=S.D.sz)(nn:S.next≤S'.next∧S'.next<1000000)(hx: ∀r∈X,r.Ok S.D.sz S'.next∧S.next≤r.f)(hX: ∀r∈X,∀r'∈X,r=r') (new:NewP S S' fun _ _ p=>DatP S.D.sz S'.next p∨ ∃r∈X,∃i,i<r.n S.D.sz∧p=JrnP S.D.sz (r.pg S.D.sz i)):JB S' (X++Hs)∧(∀r∈Hs,r.Abs S→r.Abs S')∧ ∀(r:Rc) (N:Nat→Prop),r.Liv S N→r.Liv S' N:=by
 have hz:=a.geo.sz;refine⟨⟨fun b j hb hj=>?_,fun r hr=>?_,fun r hr r' hr' e=>?_⟩,fun r hr hab=>?_,fun r N hl i hi=>?_⟩
 ·rw [nb]at hb;rw [sz];rcases Nat.lt_or_ge j (S.D.bl b).nx with h|h
  ·rw [kk.pg b j hb h];rcases q.pg b j hb h with h|h|⟨r,h1,h2⟩;·exact .inl h
   ·exact .inr (.inl (h.mono nn.1))
   ·exact .inr (.inr ⟨r,List.mem_append_right _ h1,h2⟩)
  ·rcases new b j hb h hj with h|h|⟨r,h1,h2⟩;·exact .inl (by omega)
   ·exact .inr (.inl h)
   ·exact .inr (.inr ⟨r,List.mem_append_left _ h1,h2⟩)
 ·rw [sz];rcases List.mem_append.1 hr with h|h;·exact(hx r h).1
  ·exact(q.ok r h).mono nn.1
 ·rcases List.mem_append.1 hr with h|h <;> rcases List.mem_append.1 hr' with h'|h';·exact hX r h r' h'
  ·have:=(hx r h).2;have:=(q.ok r' h').n;have:=r'.n1 S.D.sz;omega
  ·have:=(hx r' h').2;have:=(q.ok r h).n;have:=r.n1 S.D.sz;omega
  ·exact q.inj r h r' h' e
 ·obtain⟨i,hi,h⟩:=hab;rw [Rc.Abs,sz];refine⟨i,hi,fun b j ⟨o1,o2,o3⟩=>?_⟩;rw [nb]at o1;rw [sz]at o3;have qr:=q.ok r hr;rcases Nat.lt_or_ge j (S.D.bl b).nx with hj|hj;·exact h b j ⟨o1,hj,by rw [←kk.pg b j o1 hj];exact o3⟩
  ·have n:=new b j o1 hj o2;rw [o3]at n;rcases n with n|n|⟨r',h1,i',h2,h3⟩;·cases n
   ·exact n.ne (qr.fit hz (by omega) hi) qr.k (Cw hz.1 i) nn.2
   ·obtain⟨e,-⟩:=qr.pg_inj (hx r' h1).1 hz (by omega) hi h2 h3;have:=(hx r' h1).2;have:=qr.n;have:=r.n1 S.D.sz;omega
 ·rw [sz]at hi ⊢;obtain⟨b,j,⟨o1,o2,o3⟩,o4,o5⟩:=hl i hi;obtain⟨b',e1,e2,e3⟩:=a.jr _ o4;have hb:b'=b:=by omega
  subst hb;exact⟨b',j,⟨by rw [nb];exact o1,Nat.lt_of_lt_of_le o2 (kk.nx b' o1),by rw [kk.pg b' j o1 o2,sz];exact o3⟩,by rw [kk.jrm b' o1 (by omega)];exact o4,o5⟩
omit L X in
theorem RcP.jb {k:Nat}{es:List Ent}{Hs:List Rc}(h:RcP k es S S' o)(q:JB S Hs)(a:AInv S)(hk:k=2∨k=3)(hl:S.last<S.next)(hn:S.next+recN S es<1000000)(hes:es.length≤20∧ ∀e∈es,e.Ok): JB S' (⟨k,S.next,S.last,es⟩::Hs)∧(∀r∈Hs,r.Abs S→r.Abs S')∧(∀(r:Rc) (N:Nat→Prop),r.Liv S N→r.Liv S' N)∧(o≠ .done 0→Rc.Abs S' ⟨k,S.next,S.last,es⟩)∧(o= .done 0→Rc.Liv S' (fun b=>S.ps b=3) ⟨k,S.next,S.last,es⟩∧S'.last=S.next+recN S es - 1)∧S'.next=S.next+recN S es:=by
 have a1:AInv {S with next:=S.next+recN S es}:=a.nw (S.next+recN S es) S.last S.wr;have hz:=a.geo.sz;have ok:Rc.Ok S.D.sz (S.next+recN S es) ⟨k,S.next,S.last,es⟩:=⟨hk,hl,Nat.le_refl _,hes.1,hes.2⟩;have hL: ∀m x,x∈(F0 k S es).take m→ ∃i,i<m∧i<recN S es∧x=Rc.pg S.D.sz ⟨k,S.next,S.last,es⟩ i:=fun m x hx=>by obtain⟨i,hi,e⟩:=List.mem_take_iff_getElem.1 hx;unfold F0 K4 at hi e;rw [List.length_map,List.length_range]at hi;rw [List.getElem_map,List.getElem_range]at e;exact⟨i,by omega,by omega,e.symm⟩
 have hlen:(F0 k S es).length=recN S es:=by unfold F0 K4;rw [List.length_map,List.length_range]
 have key: ∀{S1:Ap} {o:WO},RlP S.D.sz (F0 k S es) {S with next:=S.next+recN S es} S1 o→Keep S S1∧S1.D.nb=S.D.nb∧S1.D.sz=S.D.sz∧S1.next=S.next+recN S es∧(JB S1 (⟨k,S.next,S.last,es⟩::Hs)∧(∀r∈Hs,r.Abs S→r.Abs S1)∧(∀(r:Rc) (N:Nat→Prop),r.Liv S N→r.Liv S1 N))∧(o≠ .done 0→Rc.Abs S1 ⟨k,S.next,S.last,es⟩)∧
   (o= .done 0→Rc.Liv S1 (fun b=>S.ps b=3) ⟨k,S.next,S.last,es⟩):=by
  intro S1 o h
  obtain⟨b1,kk,-⟩:=h.inv a1
  have f:=(h.fr a1.iw).1
  have kk:Keep S S1:=⟨kk.nx,kk.pg,kk.ps3,kk.psm,kk.jrm,kk.n1⟩
  obtain⟨m,m1,m2,m3,m4⟩:=h.new a1
  have m2:NewP S S1 fun _ _ p=> ∃x∈(F0 k S es).take m,p=JrnP S.D.sz x:=m2
  have fn:S1.next=S.next+recN S es:=f.next
  refine⟨kk,f.nb,f.sz,fn,?_,fun ho=>?_,fun ho i hi=>?_⟩
  ·refine q.ext (X:= [⟨k,S.next,S.last,es⟩]) a kk f.nb f.sz ⟨by omega,by omega⟩ (fun r hr=>?_) (fun r hr r' hr'=>by rw [List.mem_singleton.1 hr,List.mem_singleton.1 hr']) (m2.mono fun b j p _ ⟨x,hx,e⟩=>?_)
   ·rw [List.mem_singleton.1 hr,fn];exact⟨ok,Nat.le_refl _⟩
   ·obtain⟨i,-,hi,rfl⟩:=hL m x hx
    exact .inr ⟨_,List.mem_singleton_self _,i,hi,e⟩
  ·rw [Rc.Abs,f.sz]
   have hm:=m3 ho
   rw [hlen]at hm
   refine⟨m,hm,fun b j ⟨o1,o2,o3⟩=>?_⟩
   rw [f.nb]at o1
   rw [f.sz]at o3
   rcases Nat.lt_or_ge j (S.D.bl b).nx with hj|hj
   ·rw [kk.pg b j o1 hj]at o3
    have n:=q.pg b j o1 hj
    rw [o3]at n
    rcases n with n|n|⟨r',h1,i',h2,h3⟩
    ·exact n.1 rfl
    ·exact n.ne (ok.fit hz hn hm) hk (Cw hz.1 m) (by omega)
    ·have q':=q.ok r' h1
     obtain⟨e,-⟩:=ok.pg_inj q' hz ⟨hn,by omega⟩ hm h2 h3
     have:=q'.n;have:=r'.n1 S.D.sz;simp only at e;omega
   ·have n:=m2 b j o1 hj o2
    rw [o3]at n
    rcases n with n|⟨x,hx,n⟩
    ·cases n
    ·obtain⟨i,hi,hi2,rfl⟩:=hL m x hx
     obtain⟨-,e⟩:=ok.pg_inj ok hz ⟨hn,hn⟩ hm hi2 n
     omega
  ·rw [f.sz]at hi ⊢
   have hin:Rc.pg S.D.sz ⟨k,S.next,S.last,es⟩ i∈F0 k S es:=List.mem_map.2 ⟨i,List.mem_range.2 hi,rfl⟩
   obtain⟨b,j,g1,g2,g3,g4,g5⟩:=m4 ho _ hin
   exact⟨b,j,⟨by rw [f.nb];exact g1,g2,by rw [f.sz];exact g3⟩,g4,g5⟩
 cases h with
 | @ok S1 h=>obtain⟨-,-,-,fn,⟨j1,j2,j3⟩,-,j5⟩:=key h;exact⟨⟨j1.pg,j1.ok,j1.inj⟩,j2,j3,(fun ho=>absurd rfl ho),(fun ho=>⟨j5 ho,rfl⟩),fn⟩
 |bad h ho=>obtain⟨-,-,-,fn,⟨j1,j2,j3⟩,j4,-⟩:=key h;exact⟨j1,j2,j3,j4,(fun e=>by rcases ho with h|h <;> rw [h]at e <;> cases e),fn⟩
def Fol (z n:Nat):List Rc→Nat→Prop
 | [],m=>m=n
 |r::l,m=>r.k=2∧r.p=n∧Fol z (r.l z) l m
omit L X in
theorem Fol.snoc {z m:Nat}{r:Rc}(hk:r.k=2)(hp:r.p=m): ∀{l:List Rc} {n:Nat},Fol z n l m→Fol z n (l++ [r]) (r.l z)
 | [],n,h=>⟨hk,hp.trans h,rfl⟩
 |x::l,n,h=>⟨h.1,h.2.1,Fol.snoc hk hp h.2.2⟩
def Lnk (z:Nat)(Cs:List Rc)(m:Nat):Prop:=Fol z 0 Cs m∨ ∃c l,Cs=c::l∧c.k=3∧Fol z (c.l z) l m
omit L X in
theorem Lnk.snoc {z m:Nat}{r:Rc}{l:List Rc}(hk:r.k=2)(hp:r.p=m)(h:Lnk z l m):Lnk z (l++ [r]) (r.l z):= h.imp (Fol.snoc hk hp) fun⟨c,t,e,hc,hf⟩=>⟨c,t++ [r],by rw [e];rfl,hc,hf.snoc hk hp⟩
def MpG (S:Ap)(s p:Int):Prop:= ∃(b j n:Nat) (data:List Nat),p=((b*S.D.P+j:Nat):Int)∧b<S.D.nb∧j<S.D.P∧j<(S.D.bl b).nx∧(S.D.bl b).pg j=⟨2,data++Ao (spD s n) data⟩∧data.length=S.D.sz
omit L X in
theorem MpG.keep (q:MpG S s p)(k:Keep S S')(hP:S'.D.P=S.D.P)(hnb:S'.D.nb=S.D.nb)(hz:S'.D.sz=S.D.sz):MpG S' s p:=by obtain⟨b,j,n,d,h1,h2,h3,h6,h7,h8⟩:=q;exact⟨b,j,n,d,by rw [hP];exact h1,by rw [hnb];exact h2,by rw [hP];exact h3,Nat.lt_of_lt_of_le h6 (k.nx b h2),by rw [k.pg b j h2 h6];exact h7,by rw [hz];exact h8⟩
omit L X in
theorem PgOk.mp (q:PgOk S s data p)(h:data.length=S.D.sz):MpG S s p:=
 let⟨b,j,n,h1,h2,h3,_,_,h6,h7⟩:=q.ex;⟨b,j,n,data,h1,h2,h3,h6,h7,h⟩
structure Jst (S:Ap)(Hs Cs:List Rc):Prop extends JB S Hs where
 sub: ∀r∈Cs,r∈Hs
 live: ∀r∈Cs,r.Liv S fun _=>False
 rest: ∀r∈Hs,r∈Cs∨(∃c,Cs.head?=some c∧c.k=3∧r.f<c.f)∨r.Abs S
 lnk:Lnk S.D.sz Cs S.last
 sem:S.A=(Cs.flatMap Rc.es).foldl C0 fun _=>none
 map: ∀s p,S.A s=some p→MpG S s p
def JS (n0:Nat)(S:Ap):Prop:=n0≤S.next∧ ∃Hs Cs,Jst S Hs Cs
omit L X
theorem Jst.dat {S S':Ap}{Hs Cs:List Rc}(q:Jst S Hs Cs)(a:AInv S)(kk:Keep S S')(sm:Sm S S')(hA:S'.A=S.A)(hl:S'.last=S.last)(nn:S.next≤S'.next∧S'.next<1000000)(new:NewP S S' fun _ _ p=>DatP S.D.sz S'.next p):Jst S' Hs Cs:=by obtain⟨j1,j2,j3⟩:=q.toJB.ext (X:= []) a kk sm.nb sm.sz nn (fun _ h=>by cases h) (fun _ h=>by cases h) (new.mono fun _ _ _ _ h=> .inl h);exact⟨j1,q.sub,fun r hr=>j3 r _ (q.live r hr),fun r hr=>(q.rest r hr).imp id (·.imp id (j2 r hr)),by rw [sm.sz,hl];exact q.lnk,hA.trans q.sem,fun s p h=>(q.map s p (by rw [←hA];exact h)).keep kk sm.P sm.nb sm.sz⟩
theorem CmP.jst {es:List Ent}{Hs Cs:List Rc}(h:CmP es S S' o)(h0:n0≤S.next)(q:Jst S Hs Cs)(a:AInv S)(hl:S.last<S.next)(hn:S.next+recN S es<1000000)(hes:es.length≤20∧ ∀e∈es,e.Ok)(hp: ∀e∈es,0≤e.2→MpG S e.1 e.2):JS n0 S':=by
 cases h with
 |nil _=>exact⟨h0,Hs,Cs,q⟩
 | @bad S1 o h ho=>
  obtain⟨j1,j2,j3,j4,-,jn⟩:=h.jb q.toJB a (.inl rfl) hl hn hes;obtain⟨b1,kk,-⟩:=h.inv a;have f:=(h.fr a.iw).1;have hod:o≠ .done 0:=fun e=>by rcases ho with h|h <;> rw [h]at e <;> cases e
  have hlast:S'.last=S.last:=by
   cases h with
   |ok _=>exact absurd rfl hod
   |bad h _=>exact(h.fr (a.nw (S.next+recN S es) S.last S.wr).iw).1.last
  exact⟨by omega,_,Cs,j1,fun r hr=>List.mem_cons_of_mem _ (q.sub r hr),fun r hr=>j3 r _ (q.live r hr),fun r hr=>by
   rcases List.mem_cons.1 hr with rfl|hr;·exact .inr (.inr (j4 hod))
   ·exact(q.rest r hr).imp id (·.imp id (j2 r hr)),by rw [f.sz,hlast];exact q.lnk,f.A.trans q.sem,fun s p h=>(q.map s p (by rw [←f.A];exact h)).keep kk f.P f.nb f.sz⟩
 | @ok S1 h hne=>
  obtain⟨j1,j2,j3,-,j5,jn⟩:=h.jb q.toJB a (.inl rfl) hl hn hes;obtain⟨b1,kk,-⟩:=h.inv a;have f:=(h.fr a.iw).1;obtain⟨g1,g2⟩:=j5 rfl;refine⟨(by omega:n0≤S1.next),_,Cs++ [⟨2,S.next,S.last,es⟩],⟨j1.pg,j1.ok,j1.inj⟩,fun r hr=>?_,fun r hr=>?_,fun r hr=>?_,?_,?_,fun s p h=>?_⟩
  ·rcases List.mem_append.1 hr with hr|hr;·exact List.mem_cons_of_mem _ (q.sub r hr)
   ·rw [List.mem_singleton.1 hr];exact List.mem_cons_self ..
  ·rcases List.mem_append.1 hr with hr|hr;·exact j3 r _ (q.live r hr)
   ·rw [List.mem_singleton.1 hr];exact fun i hi=>let⟨b,j,e1,e2,_⟩:=g1 i hi;⟨b,j,e1,e2,id⟩
  ·rcases List.mem_cons.1 hr with rfl|hr;·exact .inl (List.mem_append_right _ (List.mem_singleton_self _))
   ·rcases q.rest r hr with h|⟨c,h,h2⟩|h;·exact .inl (List.mem_append_left _ h)
    ·exact .inr (.inl ⟨c,by rw [List.head?_append,h];rfl,h2⟩)
    ·exact .inr (.inr (j2 r hr h))
  ·show Lnk S1.D.sz _ S1.last;rw [f.sz,g2];exact q.lnk.snoc (r:=⟨2,S.next,S.last,es⟩) rfl rfl
  ·show stA S1.A es es.length=_;rw [Mx,f.A,q.sem,List.flatMap_append,List.foldl_append];simp
  ·have h:stA S1.A es es.length s=some p:=h;have key:MpG S1 s p:=by
    rcases H2 _ s p h with h|⟨j,e,_,e1,e2,e3,e4⟩;·exact(q.map s p (by rw [←f.A];exact h)).keep kk f.P f.nb f.sz
    ·rw [←e2,←e3];exact(hp e (List.mem_of_getElem? e1) (by omega)).keep kk f.P f.nb f.sz
   exact key
theorem AppP.eok {l:List (Int×Option (List Nat))}{es:List Ent}(h:AppP l S es S' o)(q:AInv S)(hS:S.S≤10)(hr: ∀y∈l,0≤y.1∧y.1<(S.S:Int)): ∀e∈es,e.Ok:=fun e he=>by
 obtain⟨⟨y,hy,e1⟩,e2⟩:=h.es q e he
 have h1:=hr y hy
 have hP:=q.geo.P
 have hb:=q.geo.nb
 refine⟨by omega,?_⟩
 rcases e2 with e2|⟨b,j,e2,g1,g2,-⟩
 ·omega
 ·have:=Nat.mul_le_mul (show b≤12 by omega) (show S.D.P≤6 by omega)
  omega
theorem ApdP.js {l:List (Int×Option (List Nat))}{k:Nat}(h:ApdP l S S' o)(a:AInv S)(bd:Bd S k)(hk:k<100000)(hS:S.S≤10)(hl:l.length≤6)(hr: ∀y∈l,0≤y.1∧y.1<(S.S:Int))(hd: ∀s d,(s,some d)∈l→d.length=S.D.sz∧0≤s∧s<S.S)(q:JS n0 S):JS n0 S':=by
 obtain⟨hn0,Hs,Cs,q⟩:=q;have h1:1≤S.next:=by have:=bd.last;omega
 have key: ∀{S1:Ap} {es:List Ent} {o:WO},AppP l S es S1 o→Jst S1 Hs Cs∧AInv S1∧Bd S1 (k+30*l.length)∧(∀e∈es,0≤e.2→MpG S1 e.1 e.2)∧(es.length≤20∧ ∀e∈es,e.Ok)∧S1.D.sz=S.D.sz∧n0≤S1.next:=fun h=>by obtain⟨b,kk,f,-⟩:=h.inv a;obtain⟨n1,n2⟩:=h.new a h1 fun s d hm=>let⟨g1,g2,g3⟩:=hd s d hm;⟨g1,g2,by omega⟩;have b1:=h.bd a.iw a.geo.nb.2 bd;have:=b1.nx;have hle:=h.len;refine⟨q.dat a kk f.sm f.A f.last ⟨n2,by omega⟩ n1,b,b1,fun e he h0=>?_,⟨by omega,h.eok a hS hr⟩,f.sz,by omega⟩;obtain⟨d,g1,g2⟩:=h.pg a e he h0;exact g2.mp (by rw [f.sz];exact(hd _ _ g1).1)
 have cm: ∀{S1 S2:Ap} {es:List Ent} {o:WO},AppP l S es S1 (.done 0)→CmP es S1 S2 o→JS n0 S2:=fun {S1 S2 es o} h c=>by obtain⟨j1,b,b1,mp,hes,hz,hn1⟩:=key h;have:=Iz (S:=S1) (es:=es) (by rw [hz];exact a.geo.sz.1);have:=b1.nx;exact c.jst hn1 j1 b b1.last (by omega) hes mp
 cases h with
 |ok h c=>exact cm h c
 |bad h _=>obtain⟨j1,-,-,-,-,-,hn1⟩:=key h;exact⟨hn1,Hs,Cs,j1⟩
 |bad2 h c _=>exact cm h c
include L X
def Rc.id (z:Nat)(r:Rc):Rec:=(r.k,r.f,r.p,r.n z)
omit L X in
theorem M9 (z i:Nat)(r:Rc):Bi (r.pg z i).1=r.id z:=by show(r.k,r.f+i - (i:Int).toNat,r.p,((cntJ z r.es.length:Nat):Int).toNat)=_;rw [Int.toNat_natCast,Int.toNat_natCast,Nat.add_sub_cancel];rfl
structure Chn (P:List JP)(z m:Nat)(Hs Cs:List Rc):Prop where
 pg: ∀x∈P,∃r∈Hs,∃i,i<r.n z∧x=r.pg z i
 ok: ∀r∈Hs,r.p<r.f
 inj: ∀r∈Hs,∀r'∈Hs,r.f=r'.f→r=r'
 sub: ∀r∈Cs,r∈Hs
 live: ∀r∈Cs,∀i,i<r.n z→r.pg z i∈P
 rest: ∀r∈Hs,r∈Cs∨(∃c,Cs.head?=some c∧c.k=3∧r.f<c.f)∨ ∃i,i<r.n z∧r.pg z i∉P
 lnk:Lnk z Cs m
section
variable {P:List JP}{Hs Cs:List Rc}
omit L X
theorem Chn.fst (q:Chn P z m Hs Cs){r:Rc}(hr:r∈Hs)(h:Ed P (r.id z) (i:Int)=some j):P[j]?=some (r.pg z i):=by
 obtain⟨x,h1,h2,h3⟩:=H7 h;obtain⟨r',g1,i',g2,rfl⟩:=q.pg x (List.mem_of_getElem? h1);rw [M9]at h2;have e:r'=r:=q.inj r' g1 r hr (congrArg (·.2.1) h2);subst e;have h3:(i':Int)=(i:Int):=h3;have:i'=i:=by omega
 subst this;exact h1
theorem Chn.full (q:Chn P z m Hs Cs){r:Rc}(hr:r∈Cs):isK P (r.id z)∧full P (r.id z)=true:=by
 refine⟨?_,?_⟩;·have:=Afa (q.live r hr 0 (r.n1 z));rwa [M9]at this
 ·unfold Go.Ev.full;rw [List.all_eq_true];intro i hi
  cases h:Ed P (r.id z) (i:Int)with
  |some j=>rfl
  |none=>unfold Ed at h;rw [List.findIdx?_eq_none_iff]at h;have:=h _ (q.live r hr i (List.mem_range.1 hi));rw [M9]at this;have e:(r.pg z i).1.idx=(i:Int):=rfl;simp [e]at this
theorem Chn.of (q:Chn P z m Hs Cs){k:Rec}(h1:isK P k)(h2:Go.Ev.full P k=true): ∃r∈Hs,k=r.id z∧(r∈Cs∨ ∃c,Cs.head?=some c∧c.k=3∧r.f<c.f):=by
 obtain⟨x,hx,e⟩:=Vu h1;obtain⟨r,g1,i,g2,rfl⟩:=q.pg x hx;rw [M9]at e;subst e;refine⟨r,g1,rfl,?_⟩;rcases q.rest r g1 with h|h|⟨j,h3,h4⟩;·exact .inl h
 ·exact .inr h
 ·obtain⟨a,ha,-⟩:=M6 h2 (show j<(r.id z).2.2.2 from h3);exact absurd (List.mem_of_getElem? (q.fst g1 ha)) h4
theorem Fol.lt {z:Nat}: ∀{l:List Rc} {n m:Nat},Fol z n l m→(∀r∈l,r.p<r.f)→n≤m∧ ∀r∈l,r.k=2∧n≤r.p∧r.p<m
 | [],n,m,h,_=>⟨by have:m=n:=h;omega,fun _ h=>by cases h⟩
 |x::l,n,m,⟨h1,h2,h3⟩,hp=>by
  have hx:=hp x (List.mem_cons_self ..);obtain⟨a,b⟩:=Fol.lt h3 fun r hr=>hp r (List.mem_cons_of_mem _ hr);have hl:x.f≤x.l z:=by have:=x.n1 z;unfold Rc.l;omega
  refine⟨by omega,fun r hr=>?_⟩;rcases List.mem_cons.1 hr with rfl|hr;·exact⟨h1,by omega,by omega⟩
  ·obtain⟨c,d,e⟩:=b r hr;exact⟨c,by omega,e⟩
theorem Chn.run (q:Chn P z m Hs Cs): ∀{A B:List Rc} {n:Nat},Cs=A++B→Fol z n B m→(∀r∈A,r.p<n)→(∀r∈Hs,(∃c,Cs.head?=some c∧c.k=3∧r.f<c.f)→r.p<n)→BestP P 2 (some n) (B.head?.map (Rc.id z))∧RunP P (B.head?.map (Rc.id z)) (B.map (Rc.id z))
 |A,[],n,e,h,hA,ho=>by
  refine⟨fun k hk=>?_,.none⟩;have h:m=n:=h;rw [List.append_nil]at e
  cases hw:Ee P 2 (some n) k with
  |false=>rfl
  |true=>
   simp only [Ee,Bool.and_eq_true,decide_eq_true_eq]at hw;obtain⟨r,g1,rfl,g3⟩:=q.of hk hw.1.2;have hp:r.p=n:=hw.2;rcases g3 with g|g;·have:=hA r (by rw [←e];exact g);omega
   ·have:=ho r g1 g;omega
 |A,x::B,n,e,⟨h1,h2,h3⟩,hA,ho=>by
  have hx:x∈Cs:=by rw [e];simp
  obtain⟨f1,f2⟩:=q.full hx;have hok:=q.ok x (q.sub x hx);have hl:x.f≤x.l z:=by have:=x.n1 z;unfold Rc.l;omega
  have hB:=Fol.lt h3 fun r hr=>q.ok r (q.sub r (by rw [e];simp [hr]));obtain⟨r1,r2⟩:=q.run (A:=A++ [x]) (B:=B) (n:=x.l z) (by rw [e];simp) h3 (fun r hr=>by
   rcases List.mem_append.1 hr with hr|hr;·have:=hA r hr;omega
   ·rw [List.mem_singleton.1 hr];omega) fun r hr hc=>by have:=ho r hr hc;omega
  refine⟨⟨f1,?_,fun k' hk hw=>?_⟩,.some (k:=x.id z) r1 r2⟩;·have e1:(x.id z).1=2:=h1;have e2:(x.id z).2.2.1=n:=h2;simp [Ee,e1,e2,f2]
  ·simp only [Ee,Bool.and_eq_true,decide_eq_true_eq]at hw;obtain⟨r,g1,rfl,g3⟩:=q.of hk hw.1.2;have hp:r.p=n:=hw.2;rcases g3 with g|g
   ·rw [e]at g;rcases List.mem_append.1 g with g|g;·have:=hA r g;omega
    ·rcases List.mem_cons.1 g with rfl|g;·exact .inl rfl
     ·have:=(hB.2 r g).2.1;omega
   ·have:=ho r g1 g;omega
theorem Chn.start (q:Chn P z m Hs Cs):StartP P (Cs.head?.map (Rc.id z))∧RunP P (Cs.head?.map (Rc.id z)) (Cs.map (Rc.id z)):=by
 rcases q.lnk with h|⟨c,l,e,hc,h⟩
 ·have hk: ∀r∈Cs,r.k=2:=fun r hr=>(h.lt (fun r hr=>q.ok r (q.sub r hr))).2 r hr |>.1;have no: ∀r:Rc,¬ ∃c,Cs.head?=some c∧c.k=3∧r.f<c.f:=fun r ⟨c,h1,h2,_⟩=>by have:=hk c (List.mem_of_mem_head? h1);omega
  obtain⟨a,b⟩:=q.run (A:= []) (B:=Cs) rfl h (fun _ h=>by cases h) fun r _ h=>absurd h (no r);refine⟨⟨none,fun k h1=>?_,a⟩,b⟩
  cases hw:Ee P 3 none k with
  |false=>rfl
  |true=>
   simp only [Ee,Bool.and_eq_true,decide_eq_true_eq]at hw;obtain⟨r,g1,rfl,g3⟩:=q.of h1 hw.1.2;have h3:r.k=3:=hw.1.1;rcases g3 with g|g;·have:=hk r g;omega
   ·exact absurd g (no r)
 ·have hcm:c∈Cs:=by rw [e];simp
  have hok:=q.ok c (q.sub c hcm);have hl:c.f≤c.l z:=by have:=c.n1 z;unfold Rc.l;omega
  have hB:=h.lt fun r hr=>q.ok r (q.sub r (by rw [e];simp [hr]));have hd: ∀r∈Hs,(∃c,Cs.head?=some c∧c.k=3∧r.f<c.f)→r.f<c.f:=fun r _ ⟨c',h1,_,h3⟩=>by rw [e]at h1;cases h1;exact h3
  obtain⟨a,b⟩:=q.run (A:= [c]) (B:=l) e h (fun r hr=>by rw [List.mem_singleton.1 hr];omega) fun r hr hx=>by have:=hd r hr hx;have:=q.ok r hr;omega
  obtain⟨f1,f2⟩:=q.full hcm;have hs:BestP P 3 none (some (c.id z)):=by
   refine⟨f1,?_,fun k' hk hw=>?_⟩;·have e1:(c.id z).1=3:=hc;simp [Ee,e1,f2]
   ·simp only [Ee,Bool.and_eq_true,decide_eq_true_eq]at hw;obtain⟨r,g1,rfl,g3⟩:=q.of hk hw.1.2;have h3:r.k=3:=hw.1.1;rcases g3 with g|g
    ·rw [e]at g;rcases List.mem_cons.1 g with rfl|g;·exact .inl rfl
     ·have:=(hB.2 r g).1;omega
    ·have:=hd r g1 g;refine .inr ?_;have:(r.id z).2.1<(c.id z).2.1:=this;simp [Pr,this]
  rw [e];exact⟨⟨some (c.id z),hs,rfl⟩,.some a b⟩
theorem nu (z:Nat)(es:List Ent)(hz:12≤z):(List.range (cntJ z es.length)).flatMap (Eb z es)=es:=by
 have hm:1≤mostJ z:=by unfold mostJ;omega
 have h: ∀n,(List.range n).flatMap (Eb z es)=es.take (mostJ z*n):=by
  intro n;induction n with
  |zero=>simp
  |succ n ih=>rw [List.range_succ,List.flatMap_append,ih,Nat.mul_succ,List.take_add];simp [Eb]
 rw [h,List.take_of_length_le];unfold cntJ;generalize mostJ z=k at*;have h1:=Nat.div_add_mod (es.length+k - 1) k;have h2:=Nat.mod_lt (es.length+k - 1) hm;have h3:=Nat.mul_le_mul_left k (Nat.le_max_right 1 ((es.length+k - 1) / k));omega
theorem Xv {α β: Type}{l:List α}{f g:α→List β}(h: ∀x∈l,f x=g x):l.flatMap f=l.flatMap g:=by rw [List.flatMap_def,List.flatMap_def,List.map_congr_left h]
theorem Chn.ent (q:Chn P z m Hs Cs)(hz:12≤z):chE P (Cs.map (Rc.id z))=Cs.flatMap Rc.es:=by
 unfold chE;rw [List.flatMap_map];refine Xv fun r hr=>?_;obtain⟨-,hf⟩:=q.full hr;unfold fe C1;rw [List.flatMap_map];have: ∀i∈List.range (r.id z).2.2.2,F8 P ((Ed P (r.id z) (i:Int)).getD 0)=Eb z r.es i:=fun i hi=>by obtain⟨j,h1,-⟩:=M6 hf (List.mem_range.1 hi);rw [h1,Option.getD_some];unfold F8;rw [q.fst (q.sub r hr) h1];rfl
 rw [Xv this];exact nu z r.es hz
theorem StartP.uniq {o o':Option Rec}(h:StartP P o)(h':StartP P o'):o=o':=by
 obtain⟨a,h1,h2⟩:=h;obtain⟨a',h1',h2'⟩:=h';have:=h1.uniq h1';subst this
 cases a with
 |some k=>exact h2.trans h2'.symm
 |none=>exact h2.uniq h2'
theorem Chn.fol (q:Chn P z m Hs Cs)(hz:12≤z){o:Option Rec}{ks:List Rec}(h1:StartP P o)(h2:RunP P o ks):chE P ks=Cs.flatMap Rc.es:=by obtain⟨a,b⟩:=q.start;have:=h1.uniq a;subst this;rw [h2.uniq b,q.ent hz]
end
omit L X in
theorem Xw {es:List Ent}(hl:4+8*es.length≤z)(hz:z≤1000)(hok: ∀e∈es,e.Ok):Vs (Bv z es)=some es:=by
 have e4:(256:Nat) ^ 4=4294967296:=by decide
 have hn:jN (Bv z es)=es.length:=I2 4 es.length [] (es.flatMap Iu++List.replicate (z - 4 - 8*es.length) 0) 0 (by omega) rfl ▸ by unfold jN Bv;simp [List.append_assoc]
 have hg: ∀l:List Ent,(l.flatMap Iu).length=8*l.length:=fun l=>by
  induction l with
  |nil=>rfl
  |cons e l ih=>rw [List.flatMap_cons,List.length_append,ih,List.length_cons];unfold Iu;rw [List.length_append,A0,A0];omega
 have he: ∀i e,es[i]?=some e→Lu (Bv z es) i=e:=fun i e h=>by
  obtain⟨hi,h2⟩:=List.getElem?_eq_some_iff.1 h;obtain⟨o1,o2⟩:=hok e (List.mem_of_getElem? h);have hs:es=es.take i++e::es.drop (i+1):=by rw [←h2,←List.drop_eq_getElem_cons hi,List.take_append_drop]
  have hb:Bv z es=(leb 4 es.length++(es.take i).flatMap Iu)++leb 4 e.1.toNat++(leb 4 (e.2+1).toNat++((es.drop (i+1)).flatMap Iu++List.replicate (z - 4 - 8*es.length) 0)):=by
   unfold Bv;conv=>lhs;rw [show es.flatMap Iu=(es.take i).flatMap Iu++(Iu e++(es.drop (i+1)).flatMap Iu) by conv=>lhs;rw [hs,List.flatMap_append,List.flatMap_cons]]
   unfold Iu;simp only [List.append_assoc]
  have hp:(leb 4 es.length++(es.take i).flatMap Iu).length=4+8*i:=by rw [List.length_append,A0,hg,List.length_take];omega
  have f1:leF (Bv z es) (4+8*i) 4=e.1.toNat:=by rw [hb];exact I2 4 _ _ _ _ (by omega) hp.symm
  have f2:leF (Bv z es) (8+8*i) 4=(e.2+1).toNat:=by rw [hb,←List.append_assoc];exact I2 4 _ _ _ _ (by omega) (by rw [List.length_append,hp,A0];omega)
  unfold Lu;rw [f1,f2];exact Prod.ext (by show(e.1.toNat:Int)=e.1;omega) (by show(((e.2+1).toNat:Nat):Int) - 1=e.2;omega)
 have hE:Ec (Bv z es) es.length=es:=by
  apply List.ext_getElem?;intro i;unfold Ec;rw [List.getElem?_map]
  cases h:es[i]? with
  |none=>rw [List.getElem?_eq_none (by rw [List.length_range];exact List.getElem?_eq_none_iff.1 h)];rfl
  |some e=>rw [List.getElem?_range (List.getElem?_eq_some_iff.1 h).1,Option.map_some,he i e h]
 have hlen:=Fz hl;have hJ:JOk (Bv z es):=by refine⟨by rw [hn,hlen];omega,by rw [hn,hE];exact hok,?_⟩;have:=(Aa5 (b:=Bv z es) (uw _ _) (by rw [hn,hlen];exact hl) (by rw [hn,hE];exact hok)).1 (by rw [hn,hE,hlen]);exact this
 unfold Vs;rw [if_pos hJ,hn,hE]
def Sy (D:Dv)(b j:Nat):List JP:=
 if j<(D.bl b).nx∧((D.bl b).pg j).st=2 then
  match Vq (((D.bl b).pg j).b.drop D.sz) (((D.bl b).pg j).b.take D.sz)with
  |some s=>if s.kind=1 then []else [(s,(Vs (((D.bl b).pg j).b.take D.sz)).getD [])]
  |none=> []
 else []
def jpB (D:Dv)(b n:Nat):List JP:=(List.range n).flatMap (Sy D b)
def jpL (D:Dv)(n:Nat):List JP:=(List.range n).flatMap fun b=>jpB D b D.P
omit L X in
theorem Xx (D:Dv)(b n:Nat):jpB D b (n+1)=jpB D b n++Sy D b n:=by unfold jpB;rw [List.range_succ,List.flatMap_append];simp
omit L X in
theorem Xy (D:Dv)(n:Nat):jpL D (n+1)=jpL D n++jpB D n D.P:=by unfold jpL;rw [List.range_succ,List.flatMap_append];simp
inductive PgC (S:Ap)(Hs:List Rc)(b j:Nat):Prop where
 |no (h:((S.D.bl b).pg j).st≠2∧((S.D.bl b).pg j).st≠3) (e:Sy S.D b j= [])
 |dat (hj:j<(S.D.bl b).nx) {sec:Int} {m:Nat} {d:List Nat} (h:(S.D.bl b).pg j=⟨2,d++Ao (spD sec m) d⟩) (hl:d.length=S.D.sz) (hs:0≤sec∧sec<1000) (hm:1≤m∧m<S.next) (e:Sy S.D b j= [])
 |jrn (hj:j<(S.D.bl b).nx) {r:Rc} {i:Nat} (hr:r∈Hs) (hi:i<r.n S.D.sz) (h:(S.D.bl b).pg j=JrnP S.D.sz (r.pg S.D.sz i)) (e:Sy S.D b j= [r.pg S.D.sz i])
omit L X
theorem JB.c {Hs:List Rc}(q:JB S Hs)(ok:S.D.Ok)(hn:S.next<1000000)(hb:b<S.D.nb)(hj:j<S.D.P):PgC S Hs b j:=by
 have hz:=ok.g.sz;by_cases hx:j<(S.D.bl b).nx
 ·rcases q.pg b j hb hx with h|⟨sec,m,d,h,hl,h1,h2,h3,h4⟩|⟨r,hr,i,hi,h⟩;·exact .no h (if_neg fun e=>h.1 e.2)
  ·refine .dat hx h hl ⟨h1,h2⟩ ⟨h3,h4⟩ ?_;unfold Sy;rw [if_pos ⟨hx,by rw [h]⟩,h];simp only;rw [←hl,List.drop_left,List.take_left,E2 (Mt (by omega) (by omega))];exact if_pos rfl
  ·refine .jrn hx hr hi h ?_;have ko:=q.ok r hr;have hk:=ko.k;unfold Sy;rw [if_pos ⟨hx,by rw [h];rfl⟩,h];have hlen:=Fz (Cw (es:=r.es) hz.1 i);have e1:(JrnP S.D.sz (r.pg S.D.sz i)).b.drop S.D.sz=Ao (r.pg S.D.sz i).1 (Bv S.D.sz (r.pg S.D.sz i).2):=(congrArg (fun n=>(JrnP S.D.sz (r.pg S.D.sz i)).b.drop n) hlen.symm).trans List.drop_left;have e2:(JrnP S.D.sz (r.pg S.D.sz i)).b.take S.D.sz=Bv S.D.sz (r.pg S.D.sz i).2:=(congrArg (fun n=>(JrnP S.D.sz (r.pg S.D.sz i)).b.take n) hlen.symm).trans List.take_left;rw [e1,e2,E2 (ko.fit hz hn hi),show Vs (Bv S.D.sz (r.pg S.D.sz i).2)=some (r.pg S.D.sz i).2 from Xw (Cw hz.1 i) (by omega) (R6 ko.es i)];exact if_neg (by show r.k≠1;omega)
 ·have:=(ok.bl b hb).hi j (by omega) hj;exact .no (by omega) (if_neg fun e=>hx e.1)
theorem Rc.Ok.jr {r:Rc}(q:r.Ok z m)(hz:12≤z∧z≤30)(hm:m<1000000)(hi:i<r.n z):(r.pg z i).1.Jr∧(r.pg z i).2.length≤100∧(r.pg z i).1.seq<9223372036854775808:= ⟨⟨(q.fit hz hm hi).v,(q.fit hz hm hi).ok,q.k⟩,by have:=Cw (es:=r.es) hz.1 i;show(Eb z r.es i).length≤100;omega,by have:=q.n;show r.f+i<_;omega⟩
theorem mem_jpL {x:JP}{n:Nat}:x∈jpL D n↔ ∃b j,b<n∧j<D.P∧x∈Sy D b j:=by
 unfold jpL jpB;simp only [List.mem_flatMap,List.mem_range];constructor;·rintro⟨b,hb,j,hj,h⟩;exact⟨b,j,hb,hj,h⟩
 ·rintro⟨b,j,hb,hj,h⟩;exact⟨b,hb,j,hj,h⟩
theorem am {Hs:List Rc}(q:JB S Hs)(ok:S.D.Ok)(hn:S.next<1000000):(∀b n,b<S.D.nb→n≤S.D.P→(jpB S.D b n).length≤n)∧ ∀n,n≤S.D.nb→(jpL S.D n).length≤n*6:=by
 have h1: ∀b n,b<S.D.nb→n≤S.D.P→(jpB S.D b n).length≤n:=fun b n hb=>by
  induction n with
  |zero=>exact fun _=>Nat.le_refl _
  |succ n ih=>
   intro h;have:=ih (by omega);rw [Xx,List.length_append]
   have:(Sy S.D b n).length≤1:=by cases q.c ok hn hb (show n<S.D.P by omega)with
    |no _ e=>rw [e];exact Nat.zero_le _
    |dat _ _ _ _ _ e=>rw [e];exact Nat.zero_le _
    |jrn _ _ _ _ e=>rw [e];exact Nat.le_refl _
   omega
 refine⟨h1,fun n=>?_⟩;induction n with
 |zero=>exact fun _=>Nat.le_refl _
 |succ n ih=>intro h;have:=ih (by omega);have:=h1 n S.D.P (by omega) (Nat.le_refl _);have:=ok.g.P;rw [Xy,List.length_append];omega
theorem Jst.chn {Hs Cs:List Rc}(q:Jst S Hs Cs)(ok:S.D.Ok)(hn:S.next<1000000):Chn (jpL S.D S.D.nb) S.D.sz S.last Hs Cs:=by
 have hz:=ok.g.sz;have on: ∀{b j:Nat} {x:JPg},On S b j x→b<S.D.nb∧j<S.D.P∧((S.D.bl b).pg j)=JrnP S.D.sz x:=fun⟨o1,o2,o3⟩=>⟨o1,by have:=(ok.bl _ o1).nx;omega,o3⟩;refine⟨fun x hx=>?_,fun r hr=>(q.ok r hr).p,q.inj,q.sub,fun r hr i hi=>?_,fun r hr=>(q.rest r hr).imp id (·.imp id fun⟨i,hi,h⟩=>⟨i,hi,fun hm=>?_⟩),q.lnk⟩
 ·obtain⟨b,j,hb,hj,h⟩:=mem_jpL.1 hx
  cases q.c ok hn hb hj with
  |no _ e=>rw [e]at h;cases h
  |dat _ _ _ _ _ e=>rw [e]at h;cases h
  | @jrn _ r i hr hi _ e=>rw [e,List.mem_singleton]at h;exact⟨r,hr,i,hi,h⟩
 ·obtain⟨b,j,o,-⟩:=q.live r hr i hi;obtain⟨o1,o2,o3⟩:=on o;refine mem_jpL.2 ⟨b,j,o1,o2,?_⟩
  cases q.c ok hn o1 o2 with
  |no h _=>rw [o3]at h;exact absurd rfl h.1
  | @dat _ sec m d h hl hs hm e=>have ko:=q.ok r (q.sub r hr);refine(DatP.ne (z:=S.D.sz) (m:=S.next) (x:=r.pg S.D.sz i) ?_ (ko.fit hz hn hi) ko.k (Cw hz.1 i) hn).elim;exact⟨sec,m,d,by rw [←o3,h],hl,hs.1,hs.2,hm.1,hm.2⟩
  | @jrn _ r' i' hr' hi' h e=>have ko:=q.ok r (q.sub r hr);rw [o3]at h;obtain⟨h1,rfl⟩:=ko.pg_inj (q.ok r' hr') hz ⟨hn,hn⟩ hi hi' h;have:=q.inj r (q.sub r hr) r' hr' h1;subst this;rw [e];exact List.mem_singleton_self _
 ·obtain⟨b,j,hb,hj,h2⟩:=mem_jpL.1 hm
  cases q.c ok hn hb hj with
  |no _ e=>rw [e]at h2;cases h2
  |dat _ _ _ _ _ e=>rw [e]at h2;cases h2
  | @jrn hx r' i' hr' hi' h3 e=>rw [e,List.mem_singleton]at h2;exact h b j ⟨hb,hx,by rw [h2];exact h3⟩
include L X
theorem an:Ct P0 E F K 24 [.nils,.nils] h fun v h'=>(∃e:Nat,v= .tup [.agg (spC sp0),AN e]∧0<e∧e<1000)∧K0 h h':=by refine Ad L X.f24 fun Q x cs G=>?_;refine wk ?_;refine Hx L rfl rfl rfl rfl ?_;refine wk ?_;refine En L rfl rfl rfl rfl rfl (H3 L X) ?_;rintro _ _ ⟨rfl,rfl⟩;exact Fd L X rfl rfl lkp lkp (by omega) G fun h9 k9=>⟨⟨2,rfl,by omega,by omega⟩,Kp.trS k9 (fun i hi e=>by omega) kps⟩
theorem xz (r:DevR κ h d D)(hi:i<D.nb)(hj:j<D.P)(hoff:D.off=false)(he:((D.bl i).pg j).st≠2∧((D.bl i).pg j).st≠3): Ct P0 E F K 23 [.ptr d 0,AN i,AN j] h fun v h'=>(∃e:Nat,v= .tup [.nils,.nils,AN e]∧0<e∧e<1000)∧K0 h h':=by
 obtain⟨ok,fm,bb,cb,q⟩:=r;have hd:=q.dk;have hbk:=q.bk;obtain⟨pn,c,hr⟩:=q.rows i hi;have hst:=((ok.bl i hi).pg j hj).st;have hP:=ok.g.P;have hpk:=hr.row.k;have hc0:=hr.c0;have hc0':cb[i*3+0]?=some (.slc pn 0 D.P D.P):=hc0;have hp1:=(hr.row.pg j hj).st;refine Ba L X.f23 fun Q x cs G=>?_;refine cal ?_ (c:=Gi L X hd);rintro _ rfl;refine cal ?_ (c:=Iv L X hd);rintro _ rfl;rw [decide_eq_true (show(0≤(i:Int)∧(i:Int)<D.nb)∧0≤(j:Int)∧(j:Int)<D.P by omega)];obtain⟨s2,s3⟩:=he;have hp0:=(hr.row.pg j hj).none s2 s3;unfold dvC dvL at hd;rw [hoff]at hd;refine wk ?_;by_cases s1:((D.bl i).pg j).st=1;·refine ret X.f23.1 ?_;exact⟨⟨52,rfl,by omega,by omega⟩,kps⟩
 by_cases s4:((D.bl i).pg j).st=4;·refine ret X.f23.1 ?_;exact⟨⟨53,rfl,by omega,by omega⟩,kps⟩
 ·refine ret X.f23.1 ?_;exact⟨⟨53,rfl,by omega,by omega⟩,kps⟩
theorem Xz {c:Nat}(U:SortOk P0 E F 129)(r:ApR κ h I S)(kc:Bk h c [.nils])(hc:200≤κ c): Ct P0 E F K 55 [.ptr I.s 0,.ptr c 0] h fun v h'=>Kp (fun j=>j=c) h h'∧ ∃w D,Bk h' c [w]∧DomA S.A D∧D.length≤1000∧EL h' h.n w (A9 S.A D):=by have sk:=r.sk;have ls:=sk.lt;have lc:=kc.lt;have hcol:=r.col;unfold apC at sk;refine Ad L X.f55 fun Q x cs G=>?_;refine cal ?_ (c:=J3 L X U r.mp);rintro _ h2 ⟨D,d1,d2,d3,k2⟩;have n2:=k2.n;obtain⟨p1,p2⟩:=d3.plain;generalize hv:A9 S.A D=es at*;refine wk ?_;(apply z8 L rfl rfl rfl p1 p2;exact lkp;(show 0<1;omega);rfl);refine ret X.f55.1 ?_;refine⟨kps,_,D,lkp,d1,d2,?_⟩;rw [hv];exact d3.kS (S:=fun j=>j=c) kps fun b hb e=>by omega
theorem Sg (U:SortOk P0 E F 129)(r:ApR κ h I S)(ka:Bk h ab [.ptr I.s 0]): Ct P0 E F K 18 [.ptr ab 0] h (fun v h'=> ∃κ' D,DomA S.A D∧D.length≤1000∧EL h' h.n v (A9 S.A D)∧(∀b n c,v= .slc b 0 n c→κ' b=0)∧ApR κ' h' I S∧AChg κ h κ' h'):=by
 have lk:=ka.lt;refine Am L X.f18 fun Q x cs G=>?_;refine wk ?_;have k1:K0 h (hp (h.n+1) h.t [(h.n,some (cl [.nils]))]):=kps;have hc1: ∀b,b<h.n→G9 κ h.n b=κ b:=fun b hb=>Ef hb;have r1:ApR (G9 κ h.n) (hp (h.n+1) h.t [(h.n,some (cl [.nils]))]) I S:=r.k0 k1 hc1;have a1:AChg κ h (G9 κ h.n) (hp (h.n+1) h.t [(h.n,some (cl [.nils]))]):=AChg.k0 k1 hc1;have kc1:Bk (hp (h.n+1) h.t [(h.n,some (cl [.nils]))]) h.n [.nils]:=lkp;have hn1:(hp (h.n+1) h.t [(h.n,some (cl [.nils]))]).n=h.n+1:=rfl
 have cl1: ∀κ2 h2,K0 (hp (h.n+1) h.t [(h.n,some (cl [.nils]))]) h2→(hp (h.n+1) h.t [(h.n,some (cl [.nils]))]).n<h2.n→(∀b,b<(hp (h.n+1) h.t [(h.n,some (cl [.nils]))]).n→κ2 b=G9 κ h.n b)→ApR κ2 h2 I S→CtX P0 E F K 55 (.ptr I.s 0:: [.ptr h.n 0]) h2
   (fun v h'=> ∃κ' S',ApR κ' h' I S'∧AChX (fun j=>j=h.n) κ2 h2 κ' h'∧(S'=S∧ ∃w D,Bk h' h.n [w]∧DomA S.A D∧D.length≤1000∧EL h' (h.n+2) w (A9 S.A D)∧ ∀b n c,w= .slc b 0 n c→κ' b=0))
   (fun v h'=> ∃κ' S' e,v= .ifc 44 (AI e)∧ApR κ' h' I S'∧AChX (fun j=>j=h.n) κ2 h2 κ' h'∧False):=by
  intro κ2 h2 k2 n2 c2 r2
  rw [hn1]at n2 c2
  have hk1:κ2 h.n=200:=(c2 _ (by omega)).trans (Dm (Nat.le_refl _))
  refine((Xz L X U r2 (Ag k2 kc1) (by omega)).mono ?_).X
  rintro v h' ⟨q1,w,D,q2,d1,d2,d3⟩
  refine⟨ext κ2 h2.n,S,r2.own q1 (fun j _ e=>by subst e;omega) fun b hb=>Ae hb,⟨q1.mono fun b e=> .inr e,fun b hb=>Ae hb⟩,rfl,w,D,q2,d1,d2,d3.mono (by omega),?_⟩
  rintro b n c rfl
  exact Bq d3.blt.2
 refine cal ?_ (c:=Gm L X r1 (Ag k1 ka) (fun b e=>by subst e;exact Nat.lt_succ_self _) cl1);rintro v h2 ⟨κ',S',h1,r',a',k',hv⟩;rw [hn1]at k';rcases hv with⟨rfl,u,rfl,w,D,q1,d1,d2,q2,q3⟩|⟨e,rfl,q⟩
 ·have a2:AChg κ h κ' h2:=a'.own a1 fun b e=>by subst e;exact Nat.le_refl _
  have q1':Bk h2 h.n [w]:=Ar k' (by omega) q1;have q2':EL h2 (h.n+2) w (A9 S'.A D):=q2.kS k' fun b hb e=>by omega
  have lq:=q1'.lt;have hk1:κ' h.n=200:=(a'.col _ (by rw [hn1];omega)).trans (Dm (Nat.le_refl _));obtain⟨p1,p2⟩:=q2'.plain;refine wk ?_;(apply z8 L rfl rfl rfl p1 p2;exact lkp;(show 0<1;omega);rfl);refine ret X.f18.1 ?_;refine⟨κ',D,d1,d2,(q2'.kS (S:=fun j=>j=h.n) ?_ fun b hb e=>by omega).mono (by omega),q3,r'.out (B:=fun j=>j=h.n) ?_ (fun b _ e=>by subst e;omega),AChg.own (B:=fun j=>j=h.n) a2 ?_ (fun b e=>by subst e;exact Nat.le_refl _) fun _ _=>rfl⟩;·exact kps
  ·exact kps
  ·exact kps
 ·exact q.elim
omit L X
theorem Sl (s:Sp)(data:List Nat):(Ao s data).length=64:=by unfold Ao;rw [List.length_append,Fa,A0]
theorem X0 {n:Nat}{d:List Nat}(h:0≤sec∧sec<1000):leF (Ao (spD sec n) d) 24 4=sec.toNat:=by
 have u1:u64 sec=sec.toNat:=by unfold u64;omega
 have:=I2 4 sec.toNat (mag 1++leb 8 n++leb 8 0) (leb 4 (u64 0)++leb 4 (u64 1)++List.replicate 24 0++leb 4 (crcB (d++A7 (spD sec n)))) 24 (by omega) (by simp only [List.length_append,A0];rfl);rw [←this];congr 1;unfold Ao;rw [show A7 (spD sec n)=mag 1++leb 8 n++leb 8 0++leb 4 (u64 sec)++leb 4 (u64 0)++leb 4 (u64 1)++List.replicate 24 0 from rfl,u1];simp only [List.append_assoc]
theorem Jst.pgd {Hs Cs:List Rc}(q:Jst S Hs Cs)(a:AInv S)(ok:S.D.Ok)(hS:S.S≤10)(hn:S.next<1000000)(h:S.A s=some p): ∃(pn m:Nat) (d:List Nat),p=(pn:Int)∧pn<100000∧pn / S.D.P<S.D.nb∧pn % S.D.P<(S.D.bl (pn / S.D.P)).nx∧(S.D.bl (pn / S.D.P)).pg (pn % S.D.P)=⟨2,d++Ao (spD s m) d⟩∧d.length=S.D.sz∧1≤m∧m<1000000∧(0≤s∧s<S.S)∧S.rd s=d:=by
 have hz:=a.geo.sz;have hnb:=a.geo.nb;have hP:=a.geo.P;obtain⟨r1,r2,-⟩:=a.map s p h;obtain⟨b,j,n,d,rfl,h2,h3,h4,h5,h6⟩:=q.map s p h;obtain⟨d1,d2⟩:=R7 (b:=b) h3;have hlt:=Nat.mul_le_mul (show b≤12 by omega) (show S.D.P≤6 by omega);obtain⟨m,hm,e⟩: ∃m,(1≤m∧m<1000000)∧(S.D.bl b).pg j=⟨2,d++Ao (spD s m) d⟩:=by
  rcases q.pg b j h2 h4 with g|⟨sec,m,d',g,g1,g2,g3,g4,g5⟩|⟨r,hr,i,hi,g⟩;·rw [h5]at g;exact absurd rfl g.1
  ·rw [h5]at g;obtain⟨rfl,e2⟩:=Qe g (by omega);have e3:leF (Ao (spD s n) d) 24 4=leF (Ao (spD sec m) d) 24 4:=(by rw [e2]);rw [X0 (by omega),X0 (by omega)]at e3;have:sec=s:=(by omega);subst this;exact⟨m,by omega,by rw [h5,e2]⟩
  ·rw [h5]at g;obtain⟨-,e2⟩:=Qe g (h6.trans (Fz (Cw hz.1 i)).symm);have e3:=congrArg (fun x=>x.getD 4 0) e2;have e3:1=r.k:=e3;have:=(q.ok r hr).k;omega
 refine⟨b*S.D.P+j,m,d,rfl,by omega,by rw [d1];exact h2,by rw [d1,d2];exact h4,by rw [d1,d2];exact e,h6,hm.1,hm.2,⟨r1,r2⟩,?_⟩;unfold Ap.rd;rw [h];simp only [Int.toNat_natCast,d1,d2];rw [e,←h6];exact List.take_left
include L X
structure PgL (h:H)(lo:Nat)(v:AV)(l:List (JP×AV)):Prop where
 ex:(l= []∧v= .nils)∨(0<l.length∧ ∃b,v= .slc b 0 l.length (Aa+7)∧PgsR h lo b l)
omit L X in
theorem PgL.k0 {h':H}{l:List (JP×AV)}(k:K0 h h')(q:PgL h lo v l):PgL h' lo v l:=⟨q.ex.imp id fun⟨a,b,e,p⟩=>⟨a,b,e,⟨Ag k p.k,fun x hx=>(p.el x hx).k0 k,p.lo,p.bd⟩⟩⟩
omit L X in
theorem PgL.blt {l:List (JP×AV)}(q:PgL h lo v l): ∀b n c,v= .slc b 0 n c→b<h.n:=fun b n c e=>by
 rcases q.ex with⟨-,h⟩|⟨-,b',h,p⟩ <;> rw [h]at e <;> cases e
 exact p.k.lt
section
variable {l:List (Nat×Option AV)}{n:Nat}{t:T Blk}{lh:List (Nat×Option Blk)}{x:O}{gd:Option (Nat×Bool)}{r:List CI}{k:List AItem}{ds:List ADef}{ro:Option Nat}
omit X in
theorem Ajz {lu b2:Nat}{u:AV}{ls:List (JP×AV)}{w:JP}(hg:gdO gd l=some true)(e:evO l x=some v)(q:PgL (hp n t lh) lo v ls)(hlo:lo≤n)(e1:evO l y=some (.slc b2 o2 1 cap2))(k2:SlR 7 (hp n t lh) (.slc b2 o2 1 cap2) 1 (jpC (w,u)))(hu:EL (hp n t lh) lu u w.2)(hl:lo≤lu)(hv: ∀b n c,v= .slc b 0 n c→b<lu)(hb:(ls.length+1)*(bytes+1)≤1099511627776) (g: ∀v' h',PgL h' lo v' (ls++ [(w,u)])→Kp (fun j=>lo≤j) (hp n t lh) h'→Good P0 E Q ⟨⟨fn,nt,tms ((d,some v')::l),.ops r::k,ds,.run,dfd,ro⟩,cs,hp h'.n h'.t []⟩): Good P0 E Q ⟨⟨fn,nt,tms l,.ops (⟨some d,gd,.append 7 bytes x y⟩::r)::k,ds,.run,dfd,ro⟩,cs,hp n t lh⟩:=by
 have hub: ∀c m b',u= .slc b' 0 m c→b'<n:=fun c m b' e=>by rcases hu.ex with⟨-,h⟩|⟨-,b,h,p,-⟩ <;> rw [h]at e <;> cases e;exact p.lt
 have hpl:As (jpC (w,u))=true:=by rcases hu.ex with⟨-,rfl⟩|⟨-,b,rfl,-⟩ <;> rfl
 rcases q.ex with⟨rfl,rfl⟩|⟨h1,b,rfl,pr⟩
 ·have kk:Bk (hp (n+1) t ((n,some (cl (jpC (w,u))))::lh)) n (jpC (w,u)):=lkp;have k0:K0 (hp n t lh) (hp (n+1) t ((n,some (cl (jpC (w,u))))::lh)):=kps;refine I7 L (Ay hg) (D6 e e1 k2 (by omega) (by simpa using hb)).e (g (.slc n 0 1 (Aa+7)) (hp (n+1) t ((n,some (cl (jpC (w,u))))::lh)) ⟨.inr ⟨Nat.succ_pos _,n,rfl,⟨by simpa using kk,fun y hy=>?_,hlo,fun y hy c m b' e=>?_⟩⟩⟩ kps);·rw [List.nil_append,List.mem_singleton]at hy;subst hy;exact(hu.mono hl).k0 k0
  ·rw [List.nil_append,List.mem_singleton]at hy;subst hy;exact hub c m b' e
 ·have hlb:=hv b _ _ rfl;have hbn:b<n:=pr.k.lt;have kk:Bk (hp (n+1) t ((n,some (cl (ls.flatMap jpC++jpC (w,u))))::(b,none)::lh)) n (ls.flatMap jpC++jpC (w,u)):=lkp;have kb:Kp (fun j=>j=b) (hp n t lh) (hp (n+1) t ((n,some (cl (ls.flatMap jpC++jpC (w,u))))::(b,none)::lh)):=kps;have hlo':=pr.lo;have el: ∀{lo':Nat} {z:AV} {es:List Ent},EL (hp n t lh) lo' z es→(∀c m b',z= .slc b' 0 m c→b'≠b)→lo≤lo'→EL (hp (n+1) t ((n,some (cl (ls.flatMap jpC++jpC (w,u))))::(b,none)::lh)) lo z es:=fun q hne h=>by
   rcases q.ex with h7|⟨h7,b',h8,h9,h10⟩;·exact⟨.inl h7⟩
   ·exact⟨.inr ⟨h7,b',h8,Ar kb (hne _ _ _ h8) h9,by omega⟩⟩
  have hfl:=Dt ls (Ku ls);refine I7 L (Ay hg) (D8 e e1 (SlR.of (c:=ls.flatMap jpC) pr.k (by omega) (by rw [List.drop_zero,List.take_of_length_le (by omega)])) k2 (by omega) hb hpl).e (g (.slc n 0 (ls.length+1) (Aa+7)) (hp (n+1) t ((n,some (cl (ls.flatMap jpC++jpC (w,u))))::(b,none)::lh)) ⟨.inr ⟨by simp,n,by simp,⟨by rw [List.flatMap_append];simpa using kk,fun y hy=>?_,hlo,fun y hy c m b' e=>?_⟩⟩⟩ (kb.mono fun j e=>by omega))
  ·rcases List.mem_append.1 hy with hy|hy;·exact el (pr.el y hy) (fun c m b' e=>by have:=pr.bd y hy _ _ _ e;omega) (Nat.le_refl _)
   ·rw [List.mem_singleton.1 hy];exact el hu (fun c m b' e=>by
     rcases hu.ex with⟨-,h⟩|⟨-,b9,h,-,p⟩;·have h:u= .nils:=h;rw [h]at e;cases e
     ·have h:u=_:=h;rw [h]at e;cases e;omega) hl
  ·rcases List.mem_append.1 hy with hy|hy;·have:=pr.bd y hy _ _ _ e;omega
   ·rw [List.mem_singleton.1 hy]at e;exact hub c m b' e
end
end
variable {F:T CFn}{K:T (List AV×AV)}{P0:Program}{b11 b4 g2 g3 gb:Nat}{dv lv:AV}{g0 g1:Int}{h':H}{lq:List (Nat×Option AV)}
section
variable (L:Lg P0 E F K)(X:Fx F K)(Y:FxH F K)
include L X Y
structure RepA (A:Int→Option Int)(l:List Ent):Prop where
 lt:l.Pairwise fun a b=>a.1<b.1
 mem: ∀e:Ent,e∈l↔A e.1=some e.2
omit L X Y
theorem appd_mem {x y:Ent}: ∀{d:Bool} {l:List Ent},y∈Ek d x l↔(y∈l∧y.1≠x.1)∨(d=false∧y=x)
 |d,[]=>by cases d <;> simp [Ek]
 |d,e::r=>by unfold Ek;rw [List.mem_append,List.mem_append,appd_mem];by_cases h1:x.1≤e.1 <;> by_cases h2:e.1=x.1 <;> cases d <;> simp [h1,h2] <;> grind
theorem fh {x:Ent}: ∀{d:Bool} {l:List Ent},l.Pairwise (fun a b=>a.1<b.1)→(Ek d x l).Pairwise fun a b=>a.1<b.1
 |d,[],_=>by cases d <;> simp [Ek]
 |d,e::r,h=>by
  rw [List.pairwise_cons]at h;have ih:=fun d=>fh (x:=x) (d:=d) h.2;unfold Ek;by_cases h1:d=false∧x.1≤e.1
  ·obtain⟨rfl,h1⟩:=h1;rw [if_pos ⟨rfl,h1⟩,show(false || decide (x.1≤e.1))=true from by rw [decide_eq_true h1];rfl];have key: ∀y∈Ek true x r,e.1<y.1:=fun y hy=>by
    rcases appd_mem.1 hy with⟨g,-⟩|⟨g,-⟩;·exact h.1 y g
    ·cases g
   by_cases h2:e.1=x.1;·rw [if_neg (by simpa using h2)];exact List.pairwise_cons.2 ⟨fun y hy=>by have:=key y hy;omega,ih true⟩
   ·rw [if_pos h2];refine List.pairwise_cons.2 ⟨fun y hy=>?_,List.pairwise_cons.2 ⟨key,ih true⟩⟩;rcases List.mem_cons.1 hy with rfl|hy;·omega
    ·have:=key y hy;omega
  ·rw [if_neg h1,List.nil_append];have key: ∀y∈Ek (d || decide (x.1≤e.1)) x r,e.1<y.1:=fun y hy=>by
    rcases appd_mem.1 hy with⟨g,-⟩|⟨g,rfl⟩;·exact h.1 y g
    ·rw [Bool.or_eq_false_iff,decide_eq_false_iff_not]at g;omega
   by_cases h2:e.1=x.1;·rw [if_neg (by simpa using h2)];exact ih _
   ·rw [if_pos h2];exact List.pairwise_cons.2 ⟨key,ih _⟩
theorem RepA.app {A:Int→Option Int}{l:List Ent}(q:RepA A l)(x:Ent):RepA (C0 A x) (Ek (decide (x.2<0)) x l):=by refine⟨fh q.lt,fun e=>?_⟩;rw [appd_mem,q.mem];unfold C0;obtain⟨e1,e2⟩:=e;obtain⟨x1,x2⟩:=x;by_cases h1:e1=x1 <;> by_cases h2:0≤x2 <;> simp [h1,h2] <;> omega
theorem RepA.nil:RepA (fun _=>none) []:=⟨.nil,fun e=>by simp⟩
theorem RepA.uniq {A:Int→Option Int}: ∀{l l':List Ent},RepA A l→RepA A l'→l=l':=by
 intro l;induction l generalizing A with
 |nil=>
  intro l' h h'
  cases l' with
  |nil=>rfl
  |cons x r=>have:=(h.mem x).2 ((h'.mem x).1 (List.mem_cons_self ..));cases this
 |cons x r ih=>
  intro l' h h'
  cases l' with
  |nil=>have:=(h'.mem x).2 ((h.mem x).1 (List.mem_cons_self ..));cases this
  |cons y r'=>
   have h1:=List.pairwise_cons.1 h.lt;have h2:=List.pairwise_cons.1 h'.lt;have e:x=y:=by
    have a:=(h'.mem x).2 ((h.mem x).1 (List.mem_cons_self ..));have b:=(h.mem y).2 ((h'.mem y).1 (List.mem_cons_self ..));rcases List.mem_cons.1 a with e|a;·exact e
    ·rcases List.mem_cons.1 b with e|b;·exact e.symm
     ·have:=h1.1 _ b;have:=h2.1 _ a;omega
   subst e;have key: ∀{s:List Ent},RepA A (x::s)→RepA (fun k=>if k=x.1 then none else A k) s:=fun {s} q=>by
    have q1:=List.pairwise_cons.1 q.lt;refine⟨q1.2,fun e=>⟨fun he=>?_,fun he=>?_⟩⟩;·have:=q1.1 e he;rw [if_neg (by omega)];exact(q.mem e).1 (List.mem_cons_of_mem _ he)
    ·by_cases hk:e.1=x.1;·rw [if_pos hk]at he;cases he
     ·rw [if_neg hk]at he;rcases List.mem_cons.1 ((q.mem e).2 he)with rfl|h;·exact absurd rfl hk
      ·exact h
   rw [ih (key h) (key h')]
theorem RepA.ent {A:Int→Option Int}{D:List Int}(h:DomA A D):RepA A (A9 A D):=by
 refine⟨List.pairwise_map.2 h.lt,fun e=>⟨fun he=>?_,fun he=>List.mem_map.2 ⟨e.1,(h.mem _).2 (by rw [he];rfl),?_⟩⟩⟩;·obtain⟨s,hs,rfl⟩:=List.mem_map.1 he;obtain⟨p,hp⟩:=Option.isSome_iff_exists.1 ((h.mem s).1 hs);show A s=some (atA A s);unfold atA;rw [hp];rfl
 ·unfold atA;rw [he];rfl
include L X Y
def Vy (es:List Ent):List Ent:=es.foldl (fun l x=>Ek (decide (x.2<0)) x l) []
omit L X Y
theorem x7 (es:List Ent):RepA (es.foldl C0 fun _=>none) (Vy es):=by
 unfold Vy;have: ∀{A:Int→Option Int} {l:List Ent},RepA A l→ ∀es:List Ent,RepA (es.foldl C0 A) (es.foldl (fun l x=>Ek (decide (x.2<0)) x l) l):=fun {A l} q es=>by
  induction es generalizing A l with
  |nil=>exact q
  |cons x r ih=>exact ih (q.app x)
 exact this .nil es
theorem X1 (d:Bool)(x:Ent): ∀l:List Ent,(Ek d x l).length≤l.length+1
 | []=>by cases d <;> simp [Ek]
 |e::r=>by
  unfold Ek;have h0:=X1 (d || decide (x.1≤e.1)) x r;by_cases h:d=false∧x.1≤e.1
  ·have h1:(Ek true x r).length≤r.length:=by
    have: ∀l:List Ent,(Ek true x l).length≤l.length:=fun l=>by
     induction l with
     |nil=>simp [Ek]
     |cons y t ih=>unfold Ek;by_cases c:y.1=x.1 <;> simp [c] <;> omega
    exact this r
   rw [if_pos h,show(d || decide (x.1≤e.1))=true from by rw [decide_eq_true h.2,Bool.or_true]];by_cases c:e.1=x.1 <;> simp [c] <;> omega
  ·rw [if_neg h];by_cases c:e.1=x.1 <;> simp [c]at h0 ⊢ <;> omega
theorem x8 (es:List Ent)(i:Nat):(Vy (es.take i)).length≤i:=by
 unfold Vy;induction i with
 |zero=>simp
 |succ i ih=>
  rw [List.take_add_one,List.foldl_append]
  cases h:es[i]? with
  |none=>simp;omega
  |some x=>simp only [Option.toList_some,List.foldl_cons,List.foldl_nil];have:=X1 (decide (x.2<0)) x ((es.take i).foldl (fun l x=>Ek (decide (x.2<0)) x l) []);omega
theorem oa {es:List Ent}{x:Ent}(h:es[i]?=some x):Vy (es.take (i+1))=Ek (decide (x.2<0)) x (Vy (es.take i)):=by unfold Vy;rw [List.take_add_one,h,List.foldl_append];rfl
include L X Y
theorem oc {gv w:AV}{D:List Int}{Hs Cs:List Rc}{lo':Nat}{x:AFr}(T:Tb P0 E F K)(r:ApR κ h I S)(ka:Bk h ab [.ptr I.s 0])(ca:κ ab=0)(kg:Bk h gb (Ej S.D.nb S.D.P g2 g3))(cg:κ gb=0)(a:AInv S)(q:Jst S Hs Cs)(hS:S.S≤10)(hn:S.next<1000000)(hD:DomA S.A D)(hDl:D.length≤1000) (qg:EL h lo gv (A9 S.A D)) (cgv: ∀b n c,gv= .slc b 0 n c→κ b=0) (qw:EL h lo' w (A9 S.A D)) (cw: ∀b n c,w= .slc b 0 n c→κ b=0) (ht:TSub (tms [(20,some Zi),(19,some w),(17,some gv),(5,some (.ptr I.d 0)),(3,some (.ptr gb 0)),(0,some (.ptr ab 0))]) (tms lq)) (G: ∀v h',(∃κ',v= .bool true∧ApR κ' h' I S∧AChg κ h κ' h')→GO P0 E Q (finish v cs h' x)): Good P0 E Q ⟨⟨29,cf29.ntmps,tms lq,[.code Y6,.inBlock 6,.code Y7],[],.run,false,none⟩,x::cs,hp h.n h.t []⟩:=by
 have ok:=r.dv.ok;have hnb:=a.geo.nb;have hP:=a.geo.P;have hz:=a.geo.sz;have hel:(A9 S.A D).length≤1000:=by unfold A9;rw [List.length_map];exact hDl
 have sh: ∀{v:AV} {lo:Nat},EL h lo v (A9 S.A D)→(∀b n c,v= .slc b 0 n c→κ b=0)→ ∀{κ1:Nat→Nat} {h1:H},AChg κ h κ1 h1→EL h1 lo v (A9 S.A D):=fun q c κ1 h1 a1=>by
  rcases q.ex with e|⟨e1,b,rfl,e3,e4⟩;·exact⟨.inl e⟩
  ·exact⟨.inr ⟨e1,b,rfl,(a1.bk e3 (c b _ _ rfl)).1,e4⟩⟩
 refine B9 L (α:= Nat→Nat) (T:=fun i _=> [(20,some (AN i)),(19,some w),(17,some gv),(5,some (.ptr I.d 0)),(3,some (.ptr gb 0)),(0,some (.ptr ab 0))]) (n:=(A9 S.A D).length) (R:=fun i κ1 h1=>ApR κ1 h1 I S∧AChg κ h κ1 h1) (i0:=0) κ ht ⟨r,AChg.refl _ _⟩ (Nat.zero_le _) ?_ ?_
 ·rintro i κ1 h1 hi ⟨r1,a1⟩ ih;obtain⟨ka1,ca1⟩:=a1.bk ka ca;obtain⟨kg1,cg1⟩:=a1.bk kg cg;have qw1:=sh qw cw a1;have hx:(A9 S.A D)[i]?=some (A9 S.A D)[i]:=List.getElem?_eq_getElem hi;obtain⟨x1,x2⟩:=xe hx;have hm:=((RepA.ent hD).mem (A9 S.A D)[i]).1 (List.getElem_mem hi);generalize (A9 S.A D)[i]=e at*;obtain⟨sec,p⟩:=e;simp only at x1 x2 hm;obtain⟨pn,m,d,rfl,p1,p2,p3,p4,p5,p6,p7,p8,p9⟩:=q.pgd a ok hS hn hm;have hb:((S.D.bl (pn / S.D.P)).pg (pn % S.D.P)).b=d++Ao (spD sec m) d:=by rw [p4]
  have hs2:((S.D.bl (pn / S.D.P)).pg (pn % S.D.P)).st=2:=by rw [p4]
  rcases qw1.len with⟨e0,-⟩|⟨-,wb,rfl,kw,-⟩;·rw [e0]at hi;exact absurd hi (Nat.not_lt_zero _)
  have lw:=kw.lt;have lg:=kg1.lt;have lka:=ka1.lt;refine cal ?_ (c:=Mp L X r1.dv p2 p3 a.off (.inl hs2));rintro _ h2 ⟨b1,b2,rfl,w1,w2,w3,w4,w5⟩;rw [hb,←p5,List.take_left]at w1;rw [hb,←p5,List.drop_left]at w2;have n2:=w5.n;have m1:=w1.lt_n;have m2:=w2.lt_n;refine cal ?_ (c:=Og L X T w2 w1 (Sl _ _) p5 (by omega));rintro _ h4 ⟨⟨e,rfl,he0,he1⟩,w6⟩;have hdr:=E2 (data:=d) (Mt (sec:=sec) (n:=m) (by omega) (by omega));have hsc:spC ((Vq (Ao (spD sec m) d) d).getD sp0)= [.int .u8 ((1:Nat):Int),.int .i64 sec,UN m,Zu,.int .i64 0,.int .i64 1]:=by rw [hdr];rfl
  rw [hsc];rw [hdr]at he0;have e0:e=0:=he0.2 rfl;subst e0;have n4:=w6.n;have k4:K0 h1 h4:=Kp.tr0 w6 w5;refine cal ?_ (c:=Dx L X);rintro _ rfl;refine cal ?_ (c:=Dx L X);rintro _ rfl;have hold: ∀h5,K0 h4 h5→Ct P0 E F K 34 [.ptr ab 0,AI sec,.slc b1 0 S.D.sz (Aa+1)] h5 fun v h'=> ∃κ',v= .bool true∧ApR κ' h' I S∧AChg κ h κ' h':=fun h5 k=>by have k5:K0 h1 h5:=Kp.tr0 k k4;refine(xc L X (r1.k0 k5 fun b hb=>Ae hb) (Ag k5 ka1) a p8 (by rw [p9];exact w1.k0 (Kp.tr0 k w6)) (Bq (by omega))).mono ?_;rintro v h' ⟨κ',e,r',a'⟩;exact⟨κ',e,r',(a1.trans (AChg.k0 k5 fun b hb=>Ae hb)).trans a'⟩
  refine cal ?_ (c:=hold (hp (h4.n+1) h4.t [(h4.n,some (cl [.int .u8 ((1:Nat):Int),.int .i64 sec,UN m,Zu,.int .i64 0,.int .i64 1])),(h4.n,some (cl [Zy,Zi,Zu,Zu,Zi,Zi]))]) (by exact kps));rintro _ h7 ⟨κ7,rfl,r7,a7⟩;refine wk ?_;exact ih κ7 _ _ ⟨r7,a7⟩ tsb
 ·rintro κ1 h1 ⟨r1,a1⟩;have qw1:=sh qw cw a1;have qg1:=sh qg cgv a1;rcases qw1.len with⟨e0,rfl⟩|⟨e0,wb,rfl,-,-⟩;·have e1:(A9 S.A D).length=0:=(by rw [e0];rfl);refine cal ?_ (c:=ep L X Y qg1 qw1 (by omega));rintro _ h3 ⟨rfl,k3⟩;refine ret Y.f29.1 ?_;exact⟨ext κ1 h1.n,rfl,r1.k0 k3 fun b hb=>Ae hb,a1.trans (AChg.k0 k3 fun b hb=>Ae hb)⟩
  ·refine cal ?_ (c:=ep L X Y qg1 qw1 (by omega));rintro _ h3 ⟨rfl,k3⟩;refine ret Y.f29.1 ?_;exact⟨ext κ1 h1.n,rfl,r1.k0 k3 fun b hb=>Ae hb,a1.trans (AChg.k0 k3 fun b hb=>Ae hb)⟩
theorem x9 {b16 lst:Nat}{v1 w2:AV}{es:List Ent}{Hs Cs:List Rc}{x:AFr}(T:Tb P0 E F K)(U:SortOk P0 E F 129)(r:ApR κ h I S)(ka:Bk h ab [.ptr I.s 0])(ca:κ ab=0)(kg:Bk h gb (Ej S.D.nb S.D.P g2 g3))(cg:κ gb=0)(a:AInv S)(q:Jst S Hs Cs)(hS:S.S≤10)(hn:S.next<1000000) (qe:EL h lo v1 es) (hes:es=Cs.flatMap Rc.es) (hel:es.length≤1000000) (kc:Bk h b16 [v1,UN lst,w2]) (ht:TSub (tms [(18,some Zi),(17,some .nils),(16,some (.ptr b16 0)),(5,some (.ptr I.d 0)),(3,some (.ptr gb 0)),(0,some (.ptr ab 0))]) (tms lq)) (G: ∀v h',(∃κ',v= .bool true∧ApR κ' h' I S∧AChg κ h κ' h')→GO P0 E Q (finish v cs h' x)): Good P0 E Q ⟨⟨29,cf29.ntmps,tms lq,[.code Y5,.inBlock 4,.code Y8],[],.run,false,none⟩,x::cs,hp h.n h.t []⟩:=by
 refine B9 L (α:= AV) (T:=fun i s=> [(18,some (AN i)),(17,some s),(16,some (.ptr b16 0)),(5,some (.ptr I.d 0)),(3,some (.ptr gb 0)),(0,some (.ptr ab 0))]) (n:=es.length) (R:=fun i s h1=>EL h1 h.n s (Vy (es.take i))∧K0 h h1) (i0:=0) .nils ht ⟨EL.nil _ _,Kp.refl _⟩ (Nat.zero_le _) ?_ ?_
 ·rintro i s h1 hi ⟨q1,k1⟩ ih;have hx:es[i]?=some es[i]:=List.getElem?_eq_getElem hi;have hdt:=D3 es (Ez es) i _ hx;have hap:=oa hx;have hal:=x8 es i;generalize es[i]=e at*;obtain⟨e1,e2⟩:=e;have hdt:i*2+2≤(es.flatMap Aq).length∧((es.flatMap Aq).drop (i*2)).take 2= [AI e1,AI e2]:=hdt;rcases qe.len with⟨e0,-⟩|⟨-,b1,rfl,kb,-⟩;·rw [e0]at hi;exact absurd hi (Nat.not_lt_zero _)
  have kb1:=Ag k1 kb;have kbr:=kb1.rk;have kc1:=Ag k1 kc;have lb:=kb1.lt;have lc:=kc1.lt;refine wk ?_;(apply st1 L rfl;exact Bb (by exact lkr) hdt rfl;rfl);refine cal ?_ (c:=aj L X Y (x:=(e1,e2)) q1 (by omega));rintro v9 h9 ⟨q9,k9⟩;refine wk ?_;exact ih v9 _ _ ⟨by rw [hap];exact q9.mono k1.n,by exact kps⟩ tsb
 ·rintro s h1 ⟨q1,k1⟩;rw [List.take_length]at q1;have kc1:=Ag k1 kc;have lc:=kc1.lt;have r1:ApR κ h1 I S:=r.k0 k1 fun _ _=>rfl;have a1:AChg κ h κ h1:=AChg.k0 k1 fun _ _=>rfl
  have fin: ∀{D:List Int} {w:AV} {h3:H} {κ3:Nat→Nat} {lq:List (Nat×Option AV)},DomA S.A D→D.length≤1000→EL h3 h1.n w (A9 S.A D)→(∀b n c,w= .slc b 0 n c→κ3 b=0)→ApR κ3 h3 I S→AChg (ext κ h.n) h1 κ3 h3→
    TSub (tms [(20,some Zi),(19,some w),(17,some s),(5,some (.ptr I.d 0)),(3,some (.ptr gb 0)),(0,some (.ptr ab 0))]) (tms lq)→
    Good P0 E Q ⟨⟨29,cf29.ntmps,tms lq,[.code Y6,.inBlock 6,.code Y7],[],.run,false,none⟩,x::cs,hp h3.n h3.t []⟩:=by
   intro D w h3 κ3 lq d1 d2 d3 d4 r3 a3 ht
   have a0:AChg κ h (ext κ h.n) h1:=AChg.k0 k1 fun b hb=>Ae hb
   obtain⟨ka3,ca3⟩:=(a0.trans a3).bk ka ca
   obtain⟨kg3,cg3⟩:=(a0.trans a3).bk kg cg
   have he:Vy es=A9 S.A D:=(x7 es).uniq (by rw [hes,←q.sem];exact RepA.ent d1)
   have q3:EL h3 h.n s (A9 S.A D)∧ ∀b n c,s= .slc b 0 n c→κ3 b=0:=by
    rw [←he]
    rcases q1.ex with⟨e1,e2⟩|⟨e1,b,e2,e3,e4⟩
    ·exact⟨⟨.inl ⟨e1,e2⟩⟩,fun b n c e=>by rw [e2]at e;cases e⟩
    ·obtain⟨g1,g2⟩:=a3.bk e3 (Bq e4)
     exact⟨⟨.inr ⟨e1,b,e2,g1,e4⟩⟩,fun b' n c e=>by rw [e2]at e;cases e;exact g2⟩
   refine oc L X Y (h:=h3) T r3 ka3 ca3 kg3 cg3 a q hS hn d1 d2 q3.1 q3.2 d3 d4 ht ?_
   rintro v h' ⟨κ',e,r',a'⟩
   exact G _ _ ⟨κ',e,r',(a0.trans a3).trans a'⟩
  have r1':ApR (ext κ h.n) h1 I S:=r.k0 k1 fun b hb=>Ae hb;rcases qe.len with⟨e0,rfl⟩|⟨e0,b1,rfl,-,-⟩
  ·have e1:es.length=0:=(by rw [e0];rfl);refine cal ?_ (c:=Sg L X U r1' (Ag k1 ka));rintro w h3 ⟨κ3,D,d1,d2,d3,d4,r3,a3⟩;refine wk ?_;exact fin d1 d2 d3 d4 r3 a3 tsb
  ·refine cal ?_ (c:=Sg L X U r1' (Ag k1 ka));rintro w h3 ⟨κ3,D,d1,d2,d3,d4,r3,a3⟩;refine wk ?_;exact fin d1 d2 d3 d4 r3 a3 tsb
theorem Vz (T:Tb P0 E F K)(U:SortOk P0 E F 129)(r:ApR κ h I S)(ka:Bk h ab [.ptr I.s 0])(ca:κ ab=0)(a:AInv S)(q:JS n0 S)(hS:S.S≤10)(hn:S.next<1000000): Ct P0 E F K 29 [.ptr ab 0,.agg (Ej S.D.nb S.D.P g2 g3)] h fun v h'=> ∃κ',v= .bool true∧ApR κ' h' I S∧AChg κ h κ' h':=by
 obtain⟨-,Hs,Cs,q⟩:=q;have ok:=r.dv.ok;have hnb:=a.geo.nb;have hP:=a.geo.P;have hz:=a.geo.sz;have lk:=ka.lt;unfold Ej;refine Ad L Y.f29 fun Q x cs G=>?_;refine wk ?_;have k1:K0 h (hp (h.n+1) h.t [(h.n,some (cl (Ej S.D.nb S.D.P g2 g3)))]):=kps;refine cal ?_ (c:=mz L X Y (r.k0 k1 fun _ _=>rfl) (Ag k1 ka));rintro _ rfl;refine wk ?_;refine B9 L (α:= AV×List (JP×AV)) (T:=fun i s=> [(7,some (AN i)),(6,some s.1),(5,some (.ptr I.d 0)),(3,some (.ptr h.n 0)),(0,some (.ptr ab 0))]) (n:=S.D.nb) (R:=fun i s h1=>PgL h1 (h.n+1) s.1 s.2∧s.2.map (·.1)=jpL S.D i∧Bk h1 h.n (Ej S.D.nb S.D.P g2 g3)∧h.n+1≤h1.n∧K0 h h1) (i0:=0) (.nils,[]) tsb ⟨⟨.inl ⟨rfl,rfl⟩⟩,rfl,(by exact lkp),Nat.le_refl _,kps⟩ (Nat.zero_le _) ?_ ?_
 ·rintro i ⟨v,l⟩ h1 hi ⟨p1,p2,p3,p4,p5⟩ ih;simp only at p1 p2;have lg:=p3.lt;unfold Ej at p3;refine wk ?_;refine B9 L (α:= AV×List (JP×AV)) (T:=fun j s=> [(8,some (AN j)),(7,some (AN i)),(6,some s.1),(5,some (.ptr I.d 0)),(3,some (.ptr h.n 0)),(0,some (.ptr ab 0))]) (n:=S.D.P) (R:=fun j s h2=>PgL h2 (h.n+1) s.1 s.2∧s.2.map (·.1)=jpL S.D i++jpB S.D i j∧Bk h2 h.n (Ej S.D.nb S.D.P g2 g3)∧h.n+1≤h2.n∧K0 h h2) (i0:=0) (v,l) tsb ⟨p1,by rw [p2];exact(List.append_nil _).symm,p3,p4,p5⟩ (Nat.zero_le _) ?_ ?_
  ·clear p1 p2 p3 p4 p5 ih lg;rintro j ⟨v,l⟩ h2 hj ⟨p1,p2,p3,p4,p5⟩ ih;simp only at p1 p2;have lg:=p3.lt;have pl:=p1.blt;have r2:ApR κ h2 I S:=r.k0 p5 fun _ _=>rfl;have hll:l.length≤100:=(by have h1:=congrArg List.length p2;rw [List.length_map,List.length_append]at h1;have h2:=(am q.toJB ok hn).1 i j hi (by omega);have h3:=(am q.toJB ok hn).2 i (by omega);omega);have hsuc:=Xx S.D i j;unfold Ej at p3;have stay: ∀{h':H} {lq:List (Nat×Option AV)},Sy S.D i j= []→K0 h2 h'→TSub (tms [(8,some (AN (j+1))),(7,some (AN i)),(6,some v),(5,some (.ptr I.d 0)),(3,some (.ptr h.n 0)),(0,some (.ptr ab 0))]) (tms lq)→_:=fun {h' lq} e k t=>ih (v,l) h' lq ⟨p1.k0 k,by rw [p2,hsuc,e,List.append_nil],Ag k p3,Nat.le_trans p4 k.n,Kp.tr0 k p5⟩ t
   cases q.toJB.c ok hn hi hj with
   |no hne e=>refine cal ?_ (c:=xz L X r2.dv hi hj a.off hne);rintro _ h3 ⟨⟨e1,rfl,he1,he2⟩,w5⟩;have n3:=w5.n;refine cal ?_ (c:=an L X);rintro _ h4 ⟨⟨e2,rfl,he3,he4⟩,w6⟩;have n4:=w6.n;refine cal ?_ (c:=Dx L X);rintro _ rfl;refine cal ?_ (c:=Dx L X);rintro _ rfl;refine wk ?_;exact stay e (Kp.tr0 (Kp.tr0 (by exact kps) w6) w5) tsb
   | @dat hjx sec m d hpg hl hs hm e=>have hb:((S.D.bl i).pg j).b=d++Ao (spD sec m) d:=(by rw [hpg]);refine cal ?_ (c:=Mp L X r2.dv hi hjx a.off (.inl (by rw [hpg])));rintro _ h3 ⟨b1,b2,rfl,w1,w2,w3,w4,w5⟩;rw [hb,←hl,List.take_left]at w1;rw [hb,←hl,List.drop_left]at w2;have n3:=w5.n;refine cal ?_ (c:=Og L X T w2 w1 (Sl _ _) hl (by omega));rintro _ h4 ⟨⟨e0,rfl,he0,he1⟩,w6⟩;have hdr:=E2 (data:=d) (Mt (sec:=sec) (n:=m) (by omega) (by omega));have hsc:spC ((Vq (Ao (spD sec m) d) d).getD sp0)= [.int .u8 ((1:Nat):Int),.int .i64 sec,UN m,Zu,.int .i64 0,.int .i64 1]:=(by rw [hdr];rfl);rw [hsc];rw [hdr]at he0;have e0:e0=0:=he0.2 rfl;subst e0;have n4:=w6.n;refine cal ?_ (c:=Dx L X);rintro _ rfl;refine cal ?_ (c:=Dx L X);rintro _ rfl;refine wk ?_;exact stay e (Kp.tr0 (Kp.tr0 (by exact kps) w6) w5) tsb
   | @jrn hjx rc ix hr hix hpg e=>
    have ko:=q.ok rc hr;obtain⟨⟨jv,jo,jk⟩,jl,-⟩:=ko.jr hz hn hix;have hfit:=ko.fit hz hn hix;have hel:=Fz (Cw (es:=rc.es) hz.1 ix);have hel:(Bv S.D.sz (rc.pg S.D.sz ix).2).length=S.D.sz:=hel;have hdj:Vs (Bv S.D.sz (rc.pg S.D.sz ix).2)=some (rc.pg S.D.sz ix).2:=Xw (Cw hz.1 ix) (by omega) (R6 ko.es ix);generalize rc.pg S.D.sz ix=w at*;obtain⟨s,es⟩:=w;simp only at jk jl hel hdj hfit;have hb:((S.D.bl i).pg j).b=Bv S.D.sz es++Ao s (Bv S.D.sz es):=(by rw [hpg];rfl);refine cal ?_ (c:=Mp L X r2.dv hi hjx a.off (.inl (by rw [hpg];rfl)));rintro _ h3 ⟨b1,b2,rfl,w1,w2,w3,w4,w5⟩;rw [hb,List.take_left' hel]at w1;rw [hb,List.drop_left' hel]at w2;have n3:=w5.n;refine cal ?_ (c:=Og L X T w2 w1 (Sl _ _) hel (by omega));rintro _ h4 ⟨⟨e0,rfl,he0,he1⟩,w6⟩;have hdr:=E2 (data:=Bv S.D.sz es) hfit;rw [hdr]at he0 ⊢;have e0:e0=0:=he0.2 rfl;subst e0;have n4:=w6.n;have hbd: ∀b n c,v= .slc b 0 n c→b<h4.n:=fun b n c e=>by have:=pl b n c e;omega
    obtain⟨sk,ssec,sseq,sprev,sidx,slen⟩:=s;simp only [Option.getD_some,spC];have jk1:sk≠1:=(by simp only at jk;omega);refine cal ?_ (c:=Dx L X);rintro _ rfl;refine cal ?_ (c:=Dx L X);rintro _ rfl;have kk:K0 h3 (hp (h4.n+1) h4.t [(h4.n,some (cl [.int .u8 (sk:Int),.int .i64 ssec,UN sseq,UN sprev,.int .i64 sidx,.int .i64 slen])),(h4.n,some (cl [Zy,Zi,Zu,Zu,Zi,Zi]))]):=Kp.tr0 (by exact kps) w6;refine cal ?_ (c:=Aa8 L X (w1.k0 kk) hel (by omega));rintro _ h5 ⟨⟨u,e5,rfl,qu,he5,he6⟩,w7⟩;rw [hdj]at qu he5;have e5:e5=0:=he5.2 rfl;subst e5;simp only [Option.getD_some]at qu;have n5:=w7.n;simp only [Aj]at n5 qu;have k25:K0 h2 h5:=Kp.tr0 w7 (Kp.tr0 kk w5);have p15:=p1.k0 k25;have kl5:Bk h5 h.n [AN S.D.nb,AN S.D.P,AN g2,AN g3]:=Ag k25 p3;have k12:Bk h5 h4.n [.int .u8 (sk:Int),.int .i64 ssec,UN sseq,UN sprev,.int .i64 sidx,.int .i64 slen]:=Ag w7 (by exact lkp);have l12:=k12.lt;rcases qu.len with⟨rfl,rfl⟩|⟨-,ub,rfl,-,-⟩
    all_goals
     refine cal ?_ (c:=Dx L X);rintro _ rfl;refine wk ?_;refine Ajz L rfl rfl (w:=(⟨sk,ssec,sseq,sprev,sidx,slen⟩,_)) (p15.k0 (by exact kps)) (by omega) rfl (SlR.of (by exact lkp) (Nat.le_refl _) rfl) (qu.k0 (by exact kps)) (by omega) (fun b n c e=>by have:=hbd b n c e;omega) (by omega) ?_;rintro v9 h9 q9 k9;have n9:=k9.n;simp only [Aj]at n9;refine wk ?_;refine ih (v9,l++ [((⟨sk,ssec,sseq,sprev,sidx,slen⟩,_),_)]) _ _ ⟨q9.k0 (by exact kps),by rw [List.map_append,p2,hsuc,e,List.append_assoc];rfl,Ar (S:=fun j=>h.n+1≤j) (by exact kps) (by omega) kl5,(show h.n+1≤h9.n by omega),?_⟩ tsb;exact Kp.cut (lo:=h.n+1) (Kp.trS (S:=fun j=>h.n+1≤j) (by exact kps) (fun _ _ e=>e) ((Kp.tr0 k25 p5).mono fun _ f=>False.elim f)) (Nat.le_succ _)
  ·clear p1 p2 p3 p4 p5 lg;rintro⟨v,l⟩ h2 ⟨p1,p2,p3,p4,p5⟩;simp only at p1 p2;have lg:=p3.lt;unfold Ej at p3;refine wk ?_;exact ih (v,l) _ _ ⟨p1.k0 (by exact kps),by rw [p2,Xy],by exact lkp,by exact p4,by exact kps⟩ tsb
 ·rintro⟨v,l⟩ h2 ⟨p1,p2,p3,p4,p5⟩;simp only at p1 p2;have lg:=p3.lt;have ch:=q.chn ok hn;rw [←p2]at ch;have hin: ∀y∈l,y.1.1.Jr∧y.1.2.length≤100∧y.1.1.seq<9223372036854775808:=fun y hy=>by obtain⟨rc,hr,i,hi,e⟩:=ch.pg y.1 (List.mem_map.2 ⟨y,hy,rfl⟩);rw [e];exact(q.ok rc hr).jr hz hn hi
  have hll:l.length≤100:=by have h1:=congrArg List.length p2;rw [List.length_map]at h1;have h3:=(am q.toJB ok hn).2 S.D.nb (Nat.le_refl _);omega
  unfold Ej at p3;refine cal ?_ (c:=ny L X (lo:=h.n+1) (fun y hy=>(hin y hy).1) (fun y hy=>by rcases p1.ex with⟨rfl,-⟩|⟨-,b,-,pr⟩;cases hy;exact pr.el y hy) (p1.ex.imp id fun⟨_,b,e,pr⟩=>⟨b,e,pr.k⟩) hll (fun y hy=>(hin y hy).2.1) (fun y hy=>(hin y hy).2.2) U);rintro _ h3 ⟨o,ks,v1,v2,rfl,f1,f2,f3,f4,f5,f6⟩;have hfe:=ch.fol hz.1 f1 f2;have n3:=f6.n;rw [hfe]at f3 f5;have k3:K0 h h3:=Kp.tr0 f6 p5;have kg3:=Ag f6 p3
  have fin: ∀{h4:H} {w2:AV} {lq:List (Nat×Option AV)},K0 h3 h4→Bk h4 h3.n [v1,UN (chL ks),w2]→TSub (tms [(18,some Zi),(17,some .nils),(16,some (.ptr h3.n 0)),(5,some (.ptr I.d 0)),(3,some (.ptr h.n 0)),(0,some (.ptr ab 0))]) (tms lq)→
    Good P0 E Q ⟨⟨29,cf29.ntmps,tms lq,[.code Y5,.inBlock 4,.code Y8],[],.run,false,none⟩,x::cs,h4⟩:=by
   intro h4 w2 lq k4 kc ht
   have k04:K0 h h4:=Kp.tr0 k4 k3
   have a4:AChg κ h (ext κ h.n) h4:=AChg.k0 k04 fun b hb=>Ae hb
   refine x9 L X Y (h:=h4) T U (r.k0 k04 fun b hb=>Ae hb) (Ag k04 ka) (by rw [Ae lk];exact ca) (Ag k4 kg3) (Bq (Nat.le_refl _)) a q hS hn (f3.k0 k4) rfl f5 kc ht ?_
   rintro v h' ⟨κ',e,r',a'⟩
   exact G _ _ ⟨κ',e,r',a4.trans a'⟩
  rcases f3.len with⟨-,rfl⟩|⟨-,b1,rfl,-,-⟩ <;> rcases f4.ex with⟨-,rfl⟩|⟨-,b2,rfl,-,-⟩
  all_goals
   refine wk ?_;exact fin (by exact kps) (by exact lkp) (by exact tsb)
end
section
variable (L:Lg P0 E F K)(X:Fx F K)
include L X
abbrev Act:=(Int×Int×List Int)×AV
def acC (x:Act):List AV:= [AI x.1.1,AI x.1.2.1,x.2]
omit L X in
theorem Qf (l:List Act): ∀x∈l,(acC x).length=3:=fun _ _=>rfl
structure AcR (κ: Nat→Nat)(h:H)(v:AV)(l:List Act):Prop where
 el: ∀x∈l,IntsR κ h x.2 x.1.2.2
 ex:(l= []∧v= .nils)∨(l= []∧ ∃a,v= .opq (.slice (some a) 0 0))∨ ∃b cap,v= .slc b 0 l.length cap∧Rk h b (l.flatMap acC)∧κ b=0
omit L X in
theorem AcR.fw {κ':Nat→Nat}{l:List Act}(q:AcR κ h v l)(f:Fw κ h κ' h'):AcR κ' h' v l:=by
 refine⟨fun x hx=>(q.el x hx).fw f,?_⟩;rcases q.ex with h1|h1|⟨b,cap,h1,h2,h3⟩;·exact .inl h1
 ·exact .inr (.inl h1)
 ·exact .inr (.inr ⟨b,cap,h1,f.rk h2 h3,(f.col b h2.lt).trans h3⟩)
def Aa9 (g0 g1 g2 g3:Int):List AV:= [AI g0,AI g1,AI g2,AI g3]
def Ud (g0 g1 g2 g3 S:Int):Prop:=2≤g0∧g0≤12∧2≤g1∧g1≤5∧12≤g2∧g2≤30∧1≤g3∧g3≤1000∧1≤S∧S≤10
theorem Ue {g2 g3 S:Int}(hs:Ud g0 g1 g2 g3 S):Ct P0 E F K 7 [.agg (Aa9 g0 g1 g2 g3),AI S] h fun u h'=>u= .bool true∧K0 h h':=by obtain⟨h0,h1,h2,h3,h4,h5,h6,h7,h8,h9⟩:=hs;refine Ad L X.f7 fun Q x cs G=>?_;refine ret X.f7.1 ?_;exact⟨rfl,kps⟩
theorem od {g2 g3 S:Int}(hs: ¬Ud g0 g1 g2 g3 S):Ct P0 E F K 7 [.agg (Aa9 g0 g1 g2 g3),AI S] h fun u h'=>u= .bool false∧K0 h h':=by
 unfold Ud at hs;by_cases h0:2≤g0;rotate_left;·refine Ad L X.f7 fun Q x cs G=>?_;refine ret X.f7.1 ?_;exact⟨rfl,kps⟩
 by_cases h1:g0≤12;rotate_left;·refine Ad L X.f7 fun Q x cs G=>?_;refine ret X.f7.1 ?_;exact⟨rfl,kps⟩
 by_cases h2:2≤g1;rotate_left;·refine Ad L X.f7 fun Q x cs G=>?_;refine ret X.f7.1 ?_;exact⟨rfl,kps⟩
 by_cases h3:g1≤5;rotate_left;·refine Ad L X.f7 fun Q x cs G=>?_;refine ret X.f7.1 ?_;exact⟨rfl,kps⟩
 by_cases h4:12≤g2;rotate_left;·refine Ad L X.f7 fun Q x cs G=>?_;refine ret X.f7.1 ?_;exact⟨rfl,kps⟩
 by_cases h5:g2≤30;rotate_left;·refine Ad L X.f7 fun Q x cs G=>?_;refine ret X.f7.1 ?_;exact⟨rfl,kps⟩
 by_cases h6:1≤g3;rotate_left;·refine Ad L X.f7 fun Q x cs G=>?_;refine ret X.f7.1 ?_;exact⟨rfl,kps⟩
 by_cases h7:g3≤1000;rotate_left;·refine Ad L X.f7 fun Q x cs G=>?_;refine ret X.f7.1 ?_;exact⟨rfl,kps⟩
 by_cases h8:1≤S;rotate_left;·refine Ad L X.f7 fun Q x cs G=>?_;refine ret X.f7.1 ?_;exact⟨rfl,kps⟩
 have h9: ¬S≤10:=fun h9=>hs ⟨h0,h1,h2,h3,h4,h5,h6,h7,h8,h9⟩;refine Ad L X.f7 fun Q x cs G=>?_;refine ret X.f7.1 ?_;exact⟨rfl,kps⟩
def Few (l:List Act):Prop:=l.length≤40∧ ∀x∈l,x.1.2.2.length≤6
theorem Afk {l:List Act}(k:AcR κ h v l):Ct P0 E F K 8 [v,AN 40] h fun u h'=> ∃b:Bool,u= .bool b∧(b=true↔Few l)∧K0 h h':=by
 rcases k.ex with⟨rfl,rfl⟩|⟨rfl,a,rfl⟩|⟨b,cap,rfl,hb,hc⟩;·refine Ad L X.f8 fun Q x cs G=>?_;refine wk ?_;refine A5 L ?_;refine ret X.f8.1 ?_;exact⟨true,rfl,⟨fun _=>⟨by simp,fun x hx=>by cases hx⟩,fun _=>rfl⟩,kps⟩
 ·refine Ad L X.f8 fun Q x cs G=>?_;refine wk ?_;refine A5 L ?_;refine ret X.f8.1 ?_;exact⟨true,rfl,⟨fun _=>⟨by simp,fun x hx=>by cases hx⟩,fun _=>rfl⟩,kps⟩
 ·have lb:=hb.lt;by_cases hm:40<l.length;·refine Ad L X.f8 fun Q x cs G=>?_;refine ret X.f8.1 ?_;exact⟨false,rfl,⟨(fun e=>by cases e),fun e=>absurd e.1 (by omega)⟩,kps⟩
  ·refine Ad L X.f8 fun Q x cs G=>?_;refine wk ?_;refine B9 L (α:= Unit) (T:=fun i _=> [(5,some (AN i)),(0,some (.slc b 0 l.length cap))]) (n:=l.length) (R:=fun i _ h2=>(∀x∈l.take i,x.1.2.2.length≤6)∧K0 h h2) (i0:=0) () tsb ⟨by simp,kps⟩ (Nat.zero_le _) ?_ ?_
   ·rintro i _ h2 hi ⟨w1,w2⟩ ih;have hx:l[i]?=some l[i]:=List.getElem?_eq_getElem hi;have htk:l.take (i+1)=l.take i++ [l[i]]:=(by rw [List.take_add_one,hx];rfl);have hk:=Ru w2 hb;have hin:=List.getElem_mem hi;have key:(l.flatMap acC)[i*3+2]?=some l[i].2:=(by rw [Dc l (Qf l) i 2 _ hx (by omega)];rfl);have hq:=k.el _ hin;generalize l[i]=y at*;obtain⟨⟨yw,yb,ys⟩,yv⟩:=y;simp only at hq key;have ok:ys.length≤6→ ∀x∈l.take (i+1),x.1.2.2.length≤6:=fun h6 x hx=>by
     rw [htk]at hx;rcases List.mem_append.1 hx with h|h;·exact w1 x h
     ·rw [List.mem_singleton]at h;subst h;exact h6
    rcases hq.ex with⟨rfl,rfl⟩|⟨rfl,a,rfl⟩|⟨c,cp,rfl,-,-⟩;·refine wk ?_;(apply st1 L rfl;exact Gg rfl lkr key;rfl);refine wk ?_;refine ih () _ _ ⟨ok (by simp),by exact kps⟩ ?_;exact tsb
    ·refine wk ?_;(apply st1 L rfl;exact Gg rfl lkr key;rfl);refine wk ?_;refine ih () _ _ ⟨ok (by simp),by exact kps⟩ ?_;exact tsb
    ·by_cases h6:ys.length≤6;·refine wk ?_;(apply st1 L rfl;exact Gg rfl lkr key;rfl);refine wk ?_;refine ih () _ _ ⟨ok h6,by exact kps⟩ ?_;exact tsb
     ·refine wk ?_;(apply st1 L rfl;exact Gg rfl lkr key;rfl);refine ret X.f8.1 ?_;exact⟨false,rfl,⟨(fun e=>by cases e),fun e=>absurd (e.2 _ hin) h6⟩,kps⟩
   ·rintro _ h2 ⟨w1,w2⟩;rw [List.take_length]at w1;refine ret X.f8.1 ?_;exact⟨true,rfl,⟨fun _=>⟨by omega,w1⟩,fun _=>rfl⟩,by exact kps⟩
omit L X in
theorem Pl.new {nb P sz en S:Nat}{flt:Nat→Bool}(h0:2≤nb∧nb≤12)(h1:2≤P∧P≤6)(h2:12≤sz∧sz≤30)(h3:1≤en∧en≤1000):Pl (Ap.new (Dv.new nb P sz en flt) S) 0 (List.replicate S (List.replicate sz 0)):=by
 have hsel: ∀k,(Ap.new (Dv.new nb P sz en flt) S).sel k= -1:=fun k=>by cases k <;> rfl
 refine⟨⟨⟨h0,h1,h2,h3⟩,rfl,rfl,rfl,⟨fun k=>⟨fun h=>?_,?_⟩,fun k h=>?_⟩,fun b _=>Nat.zero_le _,fun b _ h=>?_,fun b _ _=>rfl,fun y h=>?_,fun h=>?_,fun h=>?_,fun s p h=>?_,fun s s' p h=>?_⟩,⟨?_,fun b n h=>?_,fun b=>Nat.le_refl _,Nat.le_refl _,Nat.le_refl _⟩,List.length_replicate,fun i d hi=>?_⟩;·rw [hsel]at h;omega
 ·rw [hsel];omega
 ·rw [hsel]at h;omega
 ·have h:(1:Nat)=2:=h;omega
 ·have h:false=true:=h;cases h
 ·have h:(0:Int)≤ -1:=h;omega
 ·have h:(0:Int)≤ -1:=h;omega
 ·have h:(none:Option Int)=some p:=h;cases h
 ·have h:(none:Option Int)=some p:=h;cases h
 ·show 0<1;omega
 ·have h:(none:Option Nat)=some n:=h;cases h
 ·rw [List.getElem?_replicate]at hi;split at hi;·cases hi;rfl
  ·cases hi
theorem ar {g0 g1 S:Nat}{fl:List Int}(hs:Ud (g0:Int) (g1:Int) (g2:Int) (g3:Int) (S:Int))(qf:IntsR κ h v fl)(hf: ∀x∈fl,0≤x)(hfn:fl.length<1000): Ct P0 E F K 10 [.agg (Ej g0 g1 g2 g3),AN S,v] h fun u h'=> ∃ab I κ' dv,u= .tup [.ptr ab 0,.agg [AN g2,dv],.bool true]∧ApR κ' h' I (Ap.new (Dv.new g0 g1 g2 g3 (Pp fl)) S)∧Bk h' ab [.ptr I.s 0]∧κ' ab=0∧DkR h' (fun b=>κ' b=0) dv g2 (List.replicate S (List.replicate g2 0))∧K0 h h'∧ ∀b,b<h.n→κ' b=κ b:=by
 obtain⟨h0,h1,h2,h3,h4,h5,h6,h7,h8,h9⟩:=hs;unfold Ej;refine Ba L X.f10 fun Q x cs G=>?_;refine wk ?_;have kk:K0 h (hp (h.n+1+1) h.t [(h.n+1,some (cl [Zi,.nils])),(h.n,some (cl (Ej g0 g1 g2 g3)))]):=kps;have qf1:IntsR (G9 κ h.n) (hp (h.n+1+1) h.t [(h.n+1,some (cl [Zi,.nils])),(h.n,some (cl (Ej g0 g1 g2 g3)))]) v fl:=qf.fw ⟨kk.n,fun b hb _=>kk.old b hb id,fun b hb=>Ef hb⟩;refine cal ?_ (c:=Aet (g0:=g0) (g1:=g1) (g2:=g2) (g3:=g3) L X (by omega) (by omega) (by omega) (by omega) qf1 hf hfn);rintro _ h2' ⟨d,κ2,rfl,k2,r2,c2⟩;have n2:=k2.n;simp only [Aj]at n2 c2;refine cal ?_ (c:=Aaz L X r2 (S:=S) (by omega) rfl (fun _ _=>rfl) (fun _ _=>Nat.zero_le _));rintro _ h3' ⟨ab,I,κ3,rfl,ka,ca,rfl,r3,k3,c3⟩;have n3:=k3.n;refine cal ?_ (c:=Aau (sz:=g2) (S:=S) L X (by omega) (by omega));rintro _ h4' ⟨dv,rfl,q4,k4⟩;have n4:=k4.n;refine cal ?_ (c:=Dx L X);rintro _ rfl;refine cal ?_ (c:=Dx L X);rintro _ rfl;refine wk ?_;have hp9:=q4.plain (z:=(g2:Int));(apply stS L rfl rfl rfl rfl rfl hp9;exact lkp;rfl;rfl);refine wk ?_;refine Agu L X.f10.1 (Abv rfl (Ma rfl (Bk.e lkp) rfl (Db rfl))) G ?_;have c9:κ3 (h.n+1)=200:=(c3 _ (by omega)).trans ((c2 _ (by omega)).trans (Dm (by omega)));have lka:=ka.lt;have nab:ab≠h.n+1:=fun e=>by rw [e,c9]at ca;omega
 refine⟨ab,I,ext κ3 h3'.n,dv,rfl,(r3.k0 k4 fun b hb=>Ae hb).out (B:=fun j=>j=h.n+1) ?_ (fun b _ e=>by subst e;rw [Ae (by (try simp only [Aj]);omega),c9];exact Nat.le_refl _),by exact lkp,(Ae lka).trans ca,(q4.kp (B:=fun j=>j=h.n+1) ?_ fun b e _ u=>by have u9:h3'.n≤b:=u;omega).mono fun b _ u=>Bq u,kps,fun b hb=>(Ae (by omega)).trans ((c3 b (by omega)).trans ((c2 b (by omega)).trans (Ef hb)))⟩;·exact kps
 ·exact kps
omit L X in
theorem AChX.fw0 {Y:Nat→Prop}{κ':Nat→Nat}(x:AChX Y κ h κ' h')(hY: ∀b,Y b→κ b=200):Fw κ h κ' h':=⟨x.k.n,fun b hb hc=>x.k.old b hb (by rintro(e|e) <;> first|omega|(have:=hY b e;omega)),x.col⟩
structure Wk (P:Program)(E:Env)(F:T CFn)(K:T (List AV×AV)):Prop where
 ct: ∀h,Ct P E F K 9 [] h fun v h'=>v= .bool true∧h'=h
end
section
variable (L:Lg P0 E F K)(X:Fx F K)(Y:FxH F K)
include L X Y
theorem ya {b15 bf kk:Nat}{dv0:AV}{Z:List (List Nat)}{k:List AItem}(T:Tb P0 E F K)(U:SortOk P0 E F 129)(r:ApR κ h I S)(ka:Bk h ab [.ptr I.s 0])(ca:κ ab=0)(q:DkR h (fun b=>κ b=0) dv S.D.sz Z)(p:PlG (JS bf) S kk Z)(hkk:kk≤50000) (k4:Bk h b4 (Ej S.D.nb S.D.P g2 g3)) (c4:κ b4=0) (k11:Bk h b11 [AN S.D.sz,dv0]) (c11:κ b11=200) (k15:Bk h b15 [AN S.D.sz,dv]) (h15:b15≠b11) (hi:i<1000000) (hbf:bf<1000000) (hdv:dv= .nils∨ ∃b n c,dv= .slc b 0 n c)  (ht:TSub (tms [(16,some (.bool true)),(15,some (.ptr b15 0)),(14,some (UN bf)),(13,some (AN i)),(11,some (.ptr b11 0)),(10,some (.ptr ab 0)),(4,some (.ptr b4 0)),(3,some lv)]) (tms lq)) (G: ∀h' l' κ',ApR κ' h' I S→AChX (fun b=>b=b11) κ h κ' h'→Bk h' b11 [AN S.D.sz,dv]→TSub (tms [(13,some (AN (i+1))),(11,some (.ptr b11 0)),(10,some (.ptr ab 0)),(4,some (.ptr b4 0)),(3,some lv)]) (tms l')→ Good P0 E Q ⟨⟨6,cf6.ntmps,tms l',.inLoop Tw::k,[],.run,false,none⟩,[],h'⟩): Good P0 E Q ⟨⟨6,cf6.ntmps,tms lq,.ops [Cn 75 2 15,Cs 2 11 75]:: .code uj:: .inBlock 3:: .code cy:: .inLoop Tw::k,[],.run,false,none⟩,[],hp h.n h.t []⟩:=by
 refine Fu L ht ?_;have l11:=k11.lt;have l15:=k15.lt;have n11:b4≠b11:=fun e=>by rw [e,c11]at c4;omega
 have nab:ab≠b11:=fun e=>by rw [e,c11]at ca;omega
 have hnx:=p.bd.nx;rcases hdv with rfl|⟨db,dn,dc,rfl⟩
 all_goals
  refine wk ?_;have kx:=k11;have kx: ∀{w:AV},Kp (fun j=>j=b11) h (hp h.n h.t [(b11,some (cl [AN S.D.sz,w]))]):=kps;refine cal ?_ (c:=Xn (κ:= κ) L X Y (r.out kx fun b _ e=>by subst e;omega) (Ar kx nab ka));rintro _ h3 ⟨κ3,n3,rfl,hn3,r3,a3⟩;have hn3:n3=S.next:=hn3;subst hn3;have hle:=p.ev.1;obtain⟨ka3,ca3⟩:=a3.bk (Ar kx nab ka) ca;obtain⟨k43,c43⟩:=a3.bk (Ar kx n11 k4) c4;obtain⟨k113,c113⟩:=a3.b2 (by exact lkp) c11;have l4:=k43.lt;unfold Ej at k43;refine cal ?_ (c:=Vz L X Y T U r3 ka3 ca3 p.inv p.ev p.hS (by omega));rintro _ h5 ⟨κ5,rfl,r5,a5⟩;obtain⟨k115,c115⟩:=a5.b2 k113 c113;refine wk ?_;refine G _ _ κ5 (r5.k0 (Kp.refl _) fun _ _=>rfl) ⟨Kp.trS (a3.trans a5).k (fun i _ e=> .inl e) (kx.mono fun b e=> .inr e),(a3.trans a5).col⟩ (by exact k115) ?_;exact tsb
theorem Aba {al:List Act}{Z:List (List Nat)}{k:List AItem}(T:Tb P0 E F K)(U:SortOk P0 E F 129)(r:ApR κ h I S)(ka:Bk h ab [.ptr I.s 0])(ca:κ ab=0)(q:DkR h (fun b=>κ b=0) dv S.D.sz Z)(ql:AcR κ h lv al)(hF:Few al)(p:PlG (JS S.next) S (1000*i) Z)(hZ:0<Z.length∧Z.length≤10)(hi:i<al.length) (k4:Bk h b4 (Ej S.D.nb S.D.P g2 g3)) (c4:κ b4=0) (k11:Bk h b11 [AN S.D.sz,dv]) (c11:κ b11=200)  (ht:TSub (tms [(14,some (UN S.next)),(13,some (AN i)),(11,some (.ptr b11 0)),(10,some (.ptr ab 0)),(4,some (.ptr b4 0)),(3,some lv)]) (tms lq)) (G: ∀S' Z' κ' dv' h' l',ApR κ' h' I S'→Bk h' ab [.ptr I.s 0]→κ' ab=0→DkR h' (fun b=>κ' b=0) dv' S.D.sz Z'→AcR κ' h' lv al→Bk h' b4 (Ej S.D.nb S.D.P g2 g3)→κ' b4=0→Bk h' b11 [AN S.D.sz,dv']→κ' b11=200→PlG (JS S.next) S' (1000*(i+1)) Z'→Sm S S'→TSub (tms [(13,some (AN (i+1))),(11,some (.ptr b11 0)),(10,some (.ptr ab 0)),(4,some (.ptr b4 0)),(3,some lv)]) (tms l')→ Good P0 E Q ⟨⟨6,cf6.ntmps,tms l',.inLoop Tw::k,[],.run,false,none⟩,[],h'⟩): Good P0 E Q ⟨⟨6,cf6.ntmps,tms lq,.code Ab8:: .code Ab9:: .inBlock 3:: .code cy:: .inLoop Tw::k,[],.run,false,none⟩,[],hp h.n h.t []⟩:=by
 refine Fu L ht ?_;have l4:=k4.lt;have l11:=k11.lt;have lka:=ka.lt;have hnx:=p.bd.nx;rcases q.ex with⟨rfl,-⟩|⟨-,lb,rows,rfl,-⟩;·exact absurd hZ.1 (Nat.lt_irrefl _)
 have hx:al[i]?=some al[i]:=List.getElem?_eq_getElem hi;have hin:=List.getElem_mem hi;have hdt:=D3 al (Qf al) i _ hx;have hel:=ql.el _ hin;have hsl:=hF.2 _ hin;have hi40:=hF.1;rcases ql.ex with⟨e,-⟩|⟨e,-⟩|⟨lvb,lvc,rfl,klv,clv⟩;·subst e;exact absurd hi (Nat.not_lt_zero i)
 ·subst e;exact absurd hi (Nat.not_lt_zero i)
 generalize al[i]=y at*;obtain⟨⟨yw,yb,ys⟩,yv⟩:=y;simp only at hel hsl;have hdt:i*3+3≤(al.flatMap acC).length∧((al.flatMap acC).drop (i*3)).take 3= [AI yw,AI yb,yv]:=hdt;have hav:Lj 20 (.agg [AI yw,AI yb,yv])=true:=by rcases hel.ex with⟨_,rfl⟩|⟨_,a,rfl⟩|⟨b,c,rfl,_⟩ <;> rfl
 have w0:AS κ h I S ab (.slc lb 0 Z.length (Aa+1)) S.D.sz Z yv ys:=⟨r,ka,ca,q,hel⟩;have kg:Bk h b4 [AN S.D.nb,AN S.D.P,AN g2,AN g3]:=k4
 have fin: ∀(S':Ap) (Z':List (List Nat)) (κ3:Nat→Nat) (lq:List (Nat×Option AV)) (dvx dv':AV) (b15:Nat) (h3:H),AS κ3 h3 I S' ab dv' S.D.sz Z' yv ys→PlG (JS S.next) S' (1000*i+1000) Z'→Sm S S'→(dv'= .nils∨ ∃b n c,dv'= .slc b 0 n c)→AChX (fun b=>h.n≤b) κ h κ3 h3→Bk h3 b11 [AN S.D.sz,dvx]→Bk h3 b15 [AN S.D.sz,dv']→b15≠b11→
   TSub (tms [(16,some (.bool true)),(15,some (.ptr b15 0)),(14,some (UN S.next)),(13,some (AN i)),(11,some (.ptr b11 0)),(10,some (.ptr ab 0)),(4,some (.ptr b4 0)),(3,some (.slc lvb 0 al.length lvc))]) (tms lq)→
   Good P0 E Q ⟨⟨6,cf6.ntmps,tms lq,.ops [Cn 75 2 15,Cs 2 11 75]:: .code uj:: .inBlock 3:: .code cy:: .inLoop Tw::k,[],.run,false,none⟩,[],hp h3.n h3.t []⟩:=by
  intro S' Z' κ3 lq dvx dv' b15 h3 w3 p3 sm3 hdv x3 k113 k153 hne ht3
  have k43:Bk h3 b4 (Ej S'.D.nb S'.D.P g2 g3):=by rw [sm3.nb,sm3.P];exact Ar x3.k (by rintro(e|e) <;> omega) k4
  have c43:κ3 b4=0:=(x3.col _ l4).trans c4
  have c113:κ3 b11=200:=(x3.col _ l11).trans c11
  have q3:=w3.q
  rw [←sm3.sz]at q3 k113 k153
  refine ya L X Y (h:=h3) T U w3.r w3.ka w3.ca q3 p3 (by omega) k43 c43 k113 c113 k153 hne (by omega) (by omega) hdv ht3 ?_
  intro h5 l5 κ5 r5 x5 k115 ht5
  have w5:=w3.chgX x5 (fun b _ e=>by subst e;exact c113) r5
  rw [sm3.sz]at k115
  have k45:Bk h5 b4 (Ej S.D.nb S.D.P g2 g3):=by rw [←sm3.nb,←sm3.P];exact Ar x5.k (by rintro(e|e) <;> (try subst e) <;> omega) k43
  have ql5:AcR κ5 h5 (.slc lvb 0 al.length lvc) al:=(ql.fw ⟨x3.k.n,fun b hb hc=>x3.k.old b hb (by rintro(e|e) <;> omega),x3.col⟩).fw (x5.fw0 fun b e=>by subst e;exact c113)
  exact G S' Z' κ5 dv' h5 l5 r5 w5.ka w5.ca w5.q ql5 k45 ((x5.col _ k43.lt).trans c43) k115 ((x5.col _ k113.lt).trans c113) (p3.mono (by omega)) sm3 ht5
 refine Aaa L ?_ ?_
 ·refine wk ?_;(apply A6 rfl rfl;exact Bb (by exact lkr) hdt rfl);(apply A6 rfl rfl;exact opv);(apply A6 rfl rfl;exact opv);(apply p_0;(apply z9 rfl rfl opv rfl rfl);(apply z9 rfl rfl opv rfl rfl);(apply z9 rfl rfl (Bb (by exact lkr) hdt rfl) rfl hav);exact bz);have aA:AChg κ h (G9 κ h.n) (hp (h.n+1) h.t [(h.n,some (cl [Zi,.nils]))]):=AChg.k0 kps fun b hb=>Ef hb;have wA:=w0.chg aA (r.k0 (by exact kps) fun b hb=>Ef hb);have b14:Bk (hp (h.n+1) h.t [(h.n,some (cl [Zi,.nils]))]) h.n [Zi,.nils]:=lkp;obtain⟨k11A,c11A⟩:=aA.b2 k11 c11;refine cal ?_ (c:=ek L X T U wA p hZ (by omega) hsl (by omega) p.hS);rintro _ h3 ⟨S',Z',κ',dv',rfl,w',p',sm',a'⟩;have n3:=a'.k.n;simp only [Aj]at n3;obtain⟨k14,c14⟩:=a'.b2 b14 (Dm (Nat.le_refl _));obtain⟨k113,c113⟩:=a'.b2 k11A c11A;have a13:=aA.trans a';have hpd:=w'.q.plain (z:=0);have hl':Z'.length=Z.length:=by rw [p'.len,sm'.secs,p.len]
  rcases w'.q.ex with⟨rfl,-⟩|⟨-,lb',rows',rfl,-⟩;·simp at hl';omega
  have l14:=k14.lt;have l113:=k113.lt;refine wk ?_;(apply K8 L rfl rfl rfl rfl rfl rfl rfl;exact lkp;rfl;intro h9 hs9;(repeat(first|(apply A6 rfl rfl;exact opv)|(apply Ll rfl rfl)));(first|(apply p_0;exact chk)|(refine N1 L ?_ rfl ?_;exact chk));refine L7 L hs9 ?_);have kO:Kp (fun j=>j=h.n) h3 (hp h3.n h3.t [(h.n,some (cl [AN S.D.sz,.slc lb' 0 Z'.length (Aa+1)]))]):=kps;have w3:=w'.own kO fun b _ e=>by subst e;exact c14
  refine fin S' Z' _ _ _ _ (h.n) (hp h3.n h3.t [(h.n,some (cl [AN S.D.sz,.slc lb' 0 Z'.length (Aa+1)]))]) w3 p' sm' (.inr ⟨_,_,_,rfl⟩) ?_ (by exact lkp) (by exact lkp) (by omega) ?_;·exact⟨Kp.trS kO (fun i _ e=> .inr (by omega)) (a13.k.mono fun b e=> .inl e),a13.col⟩
  ·exact tsb
 ·refine wk ?_;(apply A6 rfl rfl;exact Bb (by exact lkr) hdt rfl);refine cal ?_ (c:=ek L X T U w0 p hZ (by omega) hsl (by omega) p.hS);rintro _ h3 ⟨S',Z',κ',dv',rfl,w',p',sm',a'⟩;have n3:=a'.k.n;obtain⟨k113,c113⟩:=a'.b2 k11 c11;have hl':Z'.length=Z.length:=by rw [p'.len,sm'.secs,p.len]
  rcases w'.q.ex with⟨rfl,-⟩|⟨-,lb',rows',rfl,-⟩;·simp at hl';omega
  have l113:=k113.lt;refine wk ?_;(apply K8 L rfl rfl rfl rfl rfl rfl rfl;exact lkp;rfl;intro h9 hs9;(repeat(first|(apply A6 rfl rfl;exact opv)|(apply Ll rfl rfl)));(first|(apply p_0;exact chk)|(refine N1 L ?_ rfl ?_;exact chk));refine L7 L hs9 ?_);have kO:K0 h3 (hp (h3.n+1) h3.t [(h3.n,some (cl [AN S.D.sz,.slc lb' 0 Z'.length (Aa+1)])),(h3.n,some (cl [Zi,.nils]))]):=kps;have w3:=w'.chg (AChg.k0 kO fun b hb=>Ae (κ:= κ') hb) (w'.r.k0 kO fun b hb=>Ae hb);refine fin S' Z' _ _ _ _ (h3.n) (hp (h3.n+1) h3.t [(h3.n,some (cl [AN S.D.sz,.slc lb' 0 Z'.length (Aa+1)])),(h3.n,some (cl [Zi,.nils]))]) w3 p' sm' (.inr ⟨_,_,_,rfl⟩) ?_ (by exact lkp) (by exact lkp) (by omega) ?_;·have a3:=a'.trans (AChg.k0 kO fun b hb=>Ae (κ:= κ') hb);exact⟨a3.k.mono fun b e=> .inl e,a3.col⟩
  ·exact tsb
end
variable {W:World}{al:List Act}{cs:List Value}{fv:AV}{held:Bool}{k:Nat}{t:TypeId}{v:Value}
section
variable (L:Lg P0 E F K)(X:Fx F K)
include L X
omit L X
theorem MvS.new {S1:Ap}{ps:List Int}{es:List Ent}(h:MvS (Cu S.A) S ps es S1)(q:AInv S)(ok:S.D.Ok)(hS:S.S≤10)(h1:1≤S.next)(hm: ∀p∈ps,∃s,S.A s=some p):NewP S S1 (fun _ _ p=>DatP S.D.sz S1.next p)∧S.next≤S1.next:=by
 generalize hg:Cu S.A=g at h;induction h with
 |nil=>exact⟨.refl rfl,Nat.le_refl _⟩
 | @snoc S1 S2 ps es p q' r h ih=>
  obtain⟨s,hs⟩:=hm p (by simp);obtain⟨a,kk,f⟩:=r.inv q;obtain⟨i1,i2⟩:=ih (fun p hp=>hm p (List.mem_append_left _ hp));obtain⟨-,k2,-⟩:=h.inv a;obtain⟨-,-,-,fn⟩:=h.fr a.iw;obtain⟨r1,r2,-⟩:=q.map s p hs;have:=h.new a ?_ ?_ (by omega);·rw [f.sz]at this;exact⟨(i1.trans k2 f.nb this).mono fun _ _ _ _ e=>e.elim (DatP.mono (by omega)) (by rw [fn];exact id),by omega⟩
  ·have:=R9 q kk f hs;unfold Ap.pgD at this;rw [this];have h2:=Lr hs;unfold Ap.pgD at h2;rw [h2,R8 q ok,f.sz]
  ·rw [←hg,Fj hs q.inj];omega
theorem yc (h:(S.ers b).2≠ .pow):(∀i,i≠b→(S.ers b).1.D.bl i=S.D.bl i)∧((S.ers b).1.D.bl b=S.D.bl b∨ ∀j,j<((S.ers b).1.D.bl b).nx→(((S.ers b).1.D.bl b).pg j).st=5)∧(S.ers b).1.last=S.last∧(S.ers b).1.next=S.next:=by
 have hE:((S.D.erase (b:Int)).1.bl b=S.D.bl b∨ ∀j,j<((S.D.erase (b:Int)).1.bl b).nx→(((S.D.erase (b:Int)).1.bl b).pg j).st=5):=by
  unfold Dv.erase;rw [Int.toNat_natCast];repeat' split
  all_goals first
   |exact .inl rfl
   |(refine .inr fun j hj=>?_;show((upd S.D.bl b _ b).pg j).st=5;rw [upd_eq];rfl)
   |(refine .inr fun j hj=>?_;have hj:j<(upd S.D.bl b _ b).nx:=hj;rw [upd_eq]at hj;exact absurd hj (Nat.not_lt_zero j))
 unfold Ap.ers at h ⊢;split;·exact⟨fun _ _=>rfl,.inl rfl,rfl,rfl⟩
 ·split;·rename_i h1 h2;rw [if_neg h1,if_pos h2]at h;exact absurd rfl h
  ·split <;> exact⟨fun i hi=>xy _ hi,hE,rfl,rfl⟩
theorem Jst.ers {f:Int→Bool}{N:Nat→Prop}{Hs Cs:List Rc}(q:Jst S Hs Cs)(a:AInv S)(h:(S.ers b).2≠ .pow)(hf: ∀i:Nat,i≠b→f (i:Int)=S.jr (i:Int))(hN:N b)(hl: ∀r∈Cs,r.Liv S N)(hm: ∀s p,S.A s=some p→ ∀j:Nat,j<S.D.P→p≠((b*S.D.P+j:Nat):Int)): Jst {(S.ers b).1 with jr:=f} Hs Cs∧ ∀r∈Cs,r.Liv {(S.ers b).1 with jr:=f} N:=by
 obtain⟨d1,d2,d3,d4⟩:=yc h;have sm:=Vn S b;have hA:=Ajv S b;have old: ∀i j,j<((S.ers b).1.D.bl i).nx→((S.ers b).1.D.bl i).pg j=(S.D.bl i).pg j∧j<(S.D.bl i).nx∨(((S.ers b).1.D.bl i).pg j).st=5:=fun i j hj=>by
  by_cases e:i=b
  ·subst e;rcases d2 with d2|d2;·rw [d2]at hj ⊢;exact .inl ⟨rfl,hj⟩
   ·exact .inr (d2 j hj)
  ·rw [d1 i e]at hj ⊢;exact .inl ⟨rfl,hj⟩
 have liv: ∀r∈Cs,r.Liv {(S.ers b).1 with jr:=f} N:=fun r hr i hi=>by
  have hi:i<r.n (S.ers b).1.D.sz:=hi;rw [sm.sz]at hi;obtain⟨b',j,⟨o1,o2,o3⟩,o4,o5⟩:=hl r hr i hi;have hne:b'≠b:=fun e=>o5 (by rw [e];exact hN);refine⟨b',j,⟨?_,?_,?_⟩,(hf b' hne).trans o4,o5⟩;·show b'<(S.ers b).1.D.nb;rw [sm.nb];exact o1
  ·show j<((S.ers b).1.D.bl b').nx;rw [d1 b' hne];exact o2
  ·show((S.ers b).1.D.bl b').pg j=JrnP (S.ers b).1.D.sz (r.pg (S.ers b).1.D.sz i);rw [d1 b' hne,sm.sz];exact o3
 refine⟨⟨⟨fun i j hi hj=>?_,?_,q.inj⟩,q.sub,fun r hr i hi=>let⟨b,j,e1,e2,_⟩:=liv r hr i hi;⟨b,j,e1,e2,id⟩,fun r hr=>?_,?_,hA.trans q.sem,fun s p h=>?_⟩,liv⟩
 ·have hi:i<(S.ers b).1.D.nb:=hi;have hj:j<((S.ers b).1.D.bl i).nx:=hj;rw [sm.nb]at hi;show(((((S.ers b).1.D.bl i).pg j).st≠2∧(((S.ers b).1.D.bl i).pg j).st≠3)∨DatP (S.ers b).1.D.sz (S.ers b).1.next (((S.ers b).1.D.bl i).pg j)∨ ∃r∈Hs,∃i',i'<r.n (S.ers b).1.D.sz∧((S.ers b).1.D.bl i).pg j=JrnP (S.ers b).1.D.sz (r.pg (S.ers b).1.D.sz i'));rw [sm.sz,d4];rcases old i j hj with⟨e,hj'⟩|e;·rw [e];exact q.pg i j hi hj'
  ·exact .inl (by omega)
 ·show∀r∈Hs,r.Ok (S.ers b).1.D.sz (S.ers b).1.next;rw [sm.sz,d4];exact q.ok
 ·refine(q.rest r hr).imp id (Or.imp id ?_);rintro⟨i,hi,h⟩;refine⟨i,by show i<r.n (S.ers b).1.D.sz;rw [sm.sz];exact hi,fun b' j ⟨o1,o2,o3⟩=>?_⟩;have o1:b'<(S.ers b).1.D.nb:=o1;have o2:j<((S.ers b).1.D.bl b').nx:=o2;have o3:((S.ers b).1.D.bl b').pg j=JrnP (S.ers b).1.D.sz (r.pg (S.ers b).1.D.sz i):=o3;rw [sm.nb]at o1;rw [sm.sz]at o3;rcases old b' j o2 with⟨e,hj'⟩|e;·exact h b' j ⟨o1,hj',by rw [←e];exact o3⟩
  ·rw [o3]at e;cases e
 ·show Lnk (S.ers b).1.D.sz Cs (S.ers b).1.last;rw [sm.sz,d3];exact q.lnk
 ·have hs:(S.ers b).1.A s=some p:=h;rw [hA]at hs;obtain⟨i,j,n,d,e1,e2,e3,e4,e5,e6⟩:=q.map s p hs;have hne:i≠b:=fun e=>hm s p hs j e3 (by rw [←e];exact e1);refine⟨i,j,n,d,?_,?_,?_,?_,?_,?_⟩;·show p=((i*(S.ers b).1.D.P+j:Nat):Int);rw [sm.P];exact e1
  ·show i<(S.ers b).1.D.nb;rw [sm.nb];exact e2
  ·show j<(S.ers b).1.D.P;rw [sm.P];exact e3
  ·show j<((S.ers b).1.D.bl i).nx;rw [d1 i hne];exact e4
  ·show((S.ers b).1.D.bl i).pg j=_;rw [d1 i hne];exact e5
  ·show d.length=(S.ers b).1.D.sz;rw [sm.sz];exact e6
theorem ErP.jst {l:List Int}{N:Nat→Prop}{Hs Cs:List Rc}(h:ErP l S S' o): ∀(a:AInv S) (hd:l.Nodup) (hj: ∀y∈l,∃b:Nat,y=(b:Int)∧b<S.D.nb∧S.ps b=3∧S.jr (b:Int)=true∧N b) (q:Jst S Hs Cs) (hl: ∀r∈Cs,r.Liv S N),Jst S' Hs Cs:=by
 induction h with
 |nil=>exact fun _ _ _ q _=>q
 | @cons b l S S' o h t ih=>
  intro a hd hj q hl;obtain⟨b',e,h1,h2,h3,h4⟩:=hj _ (List.mem_cons_self ..);have:b'=b:=by omega
  subst this;obtain⟨q1,-⟩:=a.ersJ h1 h2 h3;rw [List.nodup_cons]at hd;have hm: ∀s p,S.A s=some p→ ∀j:Nat,j<S.D.P→p≠((b'*S.D.P+j:Nat):Int):=fun s p h j hj2 e=>by obtain⟨-,-,i,m,g1,g2,g3,g4,g5,-⟩:=a.map s p h;obtain⟨rfl,-⟩:=J6 g3 hj2 (show i*S.D.P+m=b'*S.D.P+j by omega);rw [h3]at g5;cases g5
  have hjs: ∀i:Nat,i≠b'→Bh (S.ers b').1.jr (b':Int) false (i:Int)=S.jr (i:Int):=fun i hi=>by unfold Bh;rw [if_neg (by omega),Qc]
  obtain⟨j1,j2⟩:=q.ers a (by rw [h];simp) hjs h4 hl hm;refine ih q1 hd.2 (fun y hy=>?_) j1 j2;obtain⟨i,e5,g1,g2,g3,g4⟩:=hj y (List.mem_cons_of_mem _ hy);have hne:i≠b':=fun e'=>by subst e';rw [e5]at hy;exact hd.1 hy
  exact⟨i,e5,by show i<(S.ers b').1.D.nb;rw [(Vn S b').nb];exact g1,by show(S.ers b').1.ps i=3;rw [ae S b' i hne];exact g2,by show Bh _ _ _ _=_;rw [hjs i hne];exact g3,g4⟩
 | @bad b l S h=>
  intro a hd hj q hl;obtain⟨b',e,h1,h2,h3,h4⟩:=hj _ (List.mem_cons_self ..);have:b'=b:=by omega
  subst this;obtain⟨-,hd⟩:=a.ersJ h1 h2 h3;rw [hd]at h;cases h
theorem ErP.nx {l:List Int}(h:ErP l S S' o):S.next≤S'.next:=by
 induction h with
 |nil=>exact Nat.le_refl _
 |cons h _ ih=>exact Nat.le_trans (Nat.le_of_eq (yc (by rw [h];simp)).2.2.2.symm) ih
 |bad _=>exact Nat.le_of_eq (by
                  unfold Ap.ers;repeat' split
                  all_goals rfl)
theorem CkO.js (h:CkO S S' o)(a:AInv S)(bd:Bd S k)(hk:k<100000)(hS:S.S≤10)(q:JS n0 S):JS n0 S':=by
 obtain⟨hn0,Hs,Cs,q⟩:=q;obtain⟨qc,kc,sc,cA,cj,cl,cb⟩:=a.clg;have b1:=cb k bd;have hn:=b1.nx;have hl:=b1.last;have hz:=a.geo.sz;have clgD:S.clg.D=S.D∧S.clg.last=S.last∧S.clg.next=S.next:=by unfold Ap.clg;split <;> exact⟨rfl,rfl,rfl⟩
 have q1:Jst S.clg Hs Cs:=q.dat a kc sc cA clgD.2.1 ⟨by rw [clgD.2.2];exact Nat.le_refl _,by omega⟩ (.refl clgD.1);have bnd: ∀{D:List Int},DomA S.A D→S.clg.next+recN S.clg (A9 S.A D)<1000000∧(A9 S.A D).length≤20∧ ∀e∈A9 S.A D,e.Ok:=fun {D} hD=>by
  have h1:=hD.len a;have h2:recN S.clg (A9 S.A D)≤(A9 S.A D).length+1:=Iz (by rw [sc.sz];exact hz.1);have h3:(A9 S.A D).length=D.length:=by unfold A9;rw [List.length_map]
  refine⟨by omega,by omega,fun e he=>?_⟩;obtain⟨s,hs,rfl⟩:=List.mem_map.1 he;obtain⟨p,hp⟩:=Option.isSome_iff_exists.1 ((hD.mem s).1 hs);obtain⟨r1,r2,b,i,g1,g2,g3,-⟩:=a.map s p hp;have hP:=a.geo.P;have hb:=a.geo.nb;have:=Nat.mul_le_mul (show b≤12 by omega) (show S.D.P≤6 by omega);have e2:atA S.A s=p:=by unfold atA;rw [hp];rfl
  show 0≤s∧s≤4294967294∧ -1≤atA S.A s∧atA S.A s≤4294967294;rw [e2];omega
 cases h with
 | @bad D _ _ hD h ho=>
  obtain⟨c1,c2⟩:=bnd hD;obtain⟨j1,j2,j3,j4,-,jn⟩:=h.jb q1.toJB qc (.inr rfl) hl c1 c2;obtain⟨-,kk,-⟩:=h.inv qc;have f:=(h.fr qc.iw).1;have hod:o≠ .done 0:=fun e=>by rcases ho with h|h <;> rw [h]at e <;> cases e
  have hlast:S'.last=S.clg.last:=by
   cases h with
   |ok _=>exact absurd rfl hod
   |bad h _=>exact(h.fr (qc.nw (S.clg.next+recN S.clg (A9 S.A D)) S.clg.last S.clg.wr).iw).1.last
  exact⟨by rw [jn,clgD.2.2];omega,_,Cs,j1,fun r hr=>List.mem_cons_of_mem _ (q1.sub r hr),fun r hr=>j3 r _ (q1.live r hr),fun r hr=>by
   rcases List.mem_cons.1 hr with rfl|hr;·exact .inr (.inr (j4 hod))
   ·exact(q1.rest r hr).imp id (·.imp id (j2 r hr)),by rw [f.sz,hlast];exact q1.lnk,f.A.trans q1.sem,fun s p h=>(q1.map s p (by rw [←f.A];exact h)).keep kk f.P f.nb f.sz⟩
 | @run D J S1 S' o hD h hJ t=>
  obtain⟨c1,c2⟩:=bnd hD;obtain⟨j1,j2,j3,-,j5,jn⟩:=h.jb q1.toJB qc (.inr rfl) hl c1 c2;obtain⟨b2,kk,-⟩:=h.inv qc;have f:=(h.fr qc.iw).1;obtain⟨g1,g2⟩:=j5 rfl;obtain⟨-,-,-,-,-,-,-,-,hj⟩:=a.ckR bd hS hD h;have hps: ∀y,S.jr y=true→ ∃b:Nat,y=(b:Int)∧S.clg.ps b=3:=fun y hy=>by obtain⟨b,e1,e2,e3⟩:=qc.jr y (by rw [cj];exact hy);exact⟨b,e1,e3.elim id fun e=>by omega⟩
  have q2:Jst S1 (⟨3,S.clg.next,S.clg.last,A9 S.A D⟩::Hs) [⟨3,S.clg.next,S.clg.last,A9 S.A D⟩]:=by
   refine⟨j1,fun r hr=>by rw [List.mem_singleton.1 hr];exact List.mem_cons_self ..,fun r hr=>by rw [List.mem_singleton.1 hr];exact fun i hi=>let⟨b,j,e1,e2,_⟩:=g1 i hi;⟨b,j,e1,e2,id⟩,fun r hr=>?_,?_,?_,fun s p h=>(q1.map s p (by rw [←f.A];exact h)).keep kk f.P f.nb f.sz⟩
   ·rcases List.mem_cons.1 hr with rfl|hr;·exact .inl (List.mem_singleton_self _)
    ·refine .inr (.inl ⟨_,rfl,rfl,?_⟩);have:=(q1.ok r hr).n;have:=r.n1 S.clg.D.sz;simp only;omega
   ·rw [g2,f.sz];exact .inr ⟨_,[],rfl,rfl,rfl⟩
   ·rw [f.A,cA];have:=ns hD fun s p h=>by obtain⟨-,-,b,j,e,-⟩:=a.map s p h;omega
    rw [Mx]at this;simpa using this.symm
  refine⟨Nat.le_trans (by rw [jn,clgD.2.2];omega) t.nx,_,_,t.jst (N:=fun b=>S.clg.ps b=3) b2 (hJ.lt.imp fun {a b} h=>by omega) (fun y hy=>?_) q2 fun r hr=>by rw [List.mem_singleton.1 hr];exact g1⟩;have hy':=(hJ.mem y).1 hy;obtain⟨b,e1,e2,e3,e4⟩:=hj y hy';obtain⟨b',e5,e6⟩:=hps y hy';have:b'=b:=by omega
  subst this;exact⟨b',e1,e2,e3,e4,e6⟩
theorem MovO.js (h:MovO b S S' o)(a:AInv S)(ok:S.D.Ok)(bd:Bd S k)(hk:k<100000)(hS:S.S≤10)(hb:b<S.D.nb)(h3:S.ps b=3)(hj:S.jr (b:Int)=false)(q:JS n0 S):JS n0 S':=by
 obtain⟨hn0,Hs,Cs,q⟩:=q;have h1:1≤S.next:=by have:=bd.last;omega
 have hz:=a.geo.sz;have hP:=a.geo.P;have hnb:=a.geo.nb;have hlen:=ac (S:=S) (b:=b);have hm: ∀p∈S.mv b,∃s,S.A s=some p:=fun p hp=>let⟨_,s,_,_,h⟩:=J7 hp;⟨s,h⟩;have key: ∀{S1:Ap} {ps:List Int} {es:List Ent},MvS (Cu S.A) S ps es S1→(∀p∈ps,p∈S.mv b)→ps.length≤6→Jst S1 Hs Cs∧AInv S1∧Keep S S1∧FrS S S1∧Bd S1 (k+180)∧es.length=ps.length∧n0≤S1.next:=fun m hp hl=>by obtain⟨b1,kk,f⟩:=m.inv a;obtain⟨n1,n2⟩:=m.new a ok hS h1 fun p h=>hm p (hp p h);obtain⟨bb,hes⟩:=m.bd a bd;have bb:=bb.mono (show _≤k+180 by omega);have:=bb.nx;exact⟨q.dat a kk f.sm f.A f.last ⟨n2,by omega⟩ n1,b1,kk,f,bb,hes,by omega⟩
 have cm: ∀{S1 S2:Ap} {es:List Ent} {o:WO},MvS (Cu S.A) S (S.mv b) es S1→CmP es S1 S2 o→JS n0 S2:=fun {S1 S2 es o} m c=>by
  obtain⟨j1,b1,kk,f,bb,hes,hn1⟩:=key m (fun p h=>h) (by omega);obtain⟨-,e2,-⟩:=m.es a hm;have hr:recN S1 es≤es.length+1:=Iz (by rw [f.sz];exact hz.1);have:=bb.nx;refine c.jst hn1 j1 b1 bb.last (by omega) ⟨by omega,fun e he=>?_⟩ fun e he h0=>?_;·obtain⟨p,g1,g2,-,i,j,g3,g4,g5,-⟩:=e2 e he;obtain⟨s,hs⟩:=hm p g1;rw [Fj hs a.inj]at g2;obtain⟨r1,r2,-⟩:=a.map s p hs;have:=Nat.mul_le_mul (show i≤12 by omega) (show S.D.P≤6 by omega);refine⟨by omega,by omega⟩
  ·obtain⟨p,g1,g2,g3,-⟩:=e2 e he;obtain⟨s,hs⟩:=hm p g1;rw [g2];exact g3.mp (by rw [f.sz,Lr hs];exact R8 a ok s)
 cases h with
 | @bad S1 _ i p es _ m hp h _=>
  obtain⟨j1,b1,kk,f,bb,hes,hn1⟩:=key m (fun p h=>List.mem_of_mem_take h) (by rw [List.length_take];omega);obtain⟨b2,k2,-⟩:=h.inv b1;obtain⟨f2,-,-,fn⟩:=h.fr b1.iw;obtain⟨s,hs⟩:=hm p (List.mem_of_getElem? hp);obtain⟨r1,r2,-⟩:=a.map s p hs;have hlast:=bb.last;have hnx:=bb.nx;refine⟨by omega,Hs,Cs,j1.dat b1 k2 f2.sm f2.A f2.last (by omega) ?_⟩;rw [fn];refine h.new b1 ?_ ?_ (by omega);·have:=R9 a kk f hs;unfold Ap.pgD at this;rw [this];have h2:=Lr hs;unfold Ap.pgD at h2;rw [h2,R8 a ok,f.sz]
  ·rw [Fj hs a.inj];omega
 |badc m c _=>exact cm m c
 | @ok S1 S2 es m c=>
  obtain⟨hn2,Hs2,Cs2,q2⟩:=cm m c;obtain⟨b2,k2,sm,-,-,c3⟩:=m.cm c a ok;obtain⟨-,g2⟩:=c3 rfl;have hj2:S2.jr (b:Int)=false:=by rw [k2.jrm b hb (by omega)];exact hj
  obtain⟨-,ho⟩:=b2.ers (b:=b) (by rw [sm.nb];exact hb) (k2.ps3 b hb h3) (g2 h3) hj2;have:=(q2.ers (f:=(S2.ers b).1.jr) (N:=fun i=>i=b) b2 (by rw [ho];simp) (fun i _=>by rw [Qc]) rfl (fun r hr i hi=>?_) (g2 h3)).1;·exact⟨by rw [(yc (by rw [ho];simp)).2.2.2];exact hn2,Hs2,Cs2,this⟩
  ·obtain⟨b',j,o1,o2,-⟩:=q2.live r hr i hi;exact⟨b',j,o1,o2,fun e=>by rw [e,hj2]at o2;cases o2⟩
theorem JS.new (D:Dv)(S:Nat)(h: ∀b,(D.bl b).nx=0):JS 0 (Ap.new D S):= ⟨Nat.zero_le _,[],[],⟨fun b j _ hj=>by have hj:j<(D.bl b).nx:=hj;rw [h]at hj;exact absurd hj (Nat.not_lt_zero j),(fun _ h=>by cases h),(fun _ h=>by cases h)⟩,(fun _ h=>by cases h),(fun _ h=>by cases h),(fun _ h=>by cases h),.inl rfl,rfl,(fun s p h=>by cases h)⟩
theorem V0 (n0:Nat):Pres (JS n0):= ⟨fun h a bd hk hS hl hr hd q=>h.js a bd (by omega) hS hl hr hd q,fun m a ok bd hk hS hb h3 hj q=>m.js a ok bd (by omega) hS hb h3 hj q,fun h a bd hk hS q=>h.js a bd (by omega) hS q⟩
end
section
variable (L:Lg P0 E F K)(X:Fx F K)(Y:FxH F K)
include L X Y
theorem ye {S0:Ap}{Z0:List (List Nat)}(T:Tb P0 E F K)(U:SortOk P0 E F 129)(W:Wk P0 E F K)(r:ApR κ h I S0)(ka:Bk h ab [.ptr I.s 0])(ca:κ ab=0)(q:DkR h (fun b=>κ b=0) dv S0.D.sz Z0)(ql:AcR κ h lv al)(hF:Few al)(p:PlG (JS 0) S0 0 Z0)(hZ:0<Z0.length∧Z0.length≤10) (k4:Bk h b4 (Ej S0.D.nb S0.D.P g2 g3)) (c4:κ b4=0) (k11:Bk h b11 [AN S0.D.sz,dv]) (c11:κ b11=200)  (ht:TSub (tms [(13,some Zi),(11,some (.ptr b11 0)),(10,some (.ptr ab 0)),(4,some (.ptr b4 0)),(3,some lv)]) (tms lq)): Good P0 E (fun fn u=>fn=6∧u= .bool true) ⟨⟨6,cf6.ntmps,tms lq,[.code Aca,.inBlock 2,.code uk],[],.run,false,none⟩,[],hp h.n h.t []⟩:=by
 refine B9 L (α:= Ap×List (List Nat)×(Nat→Nat)×AV) (T:=fun i _=> [(13,some (AN i)),(11,some (.ptr b11 0)),(10,some (.ptr ab 0)),(4,some (.ptr b4 0)),(3,some lv)]) (n:=al.length) (R:=fun i a hh=>(ApR a.2.2.1 hh I a.1∧Bk hh ab [.ptr I.s 0]∧a.2.2.1 ab=0∧DkR hh (fun b=>a.2.2.1 b=0) a.2.2.2 S0.D.sz a.2.1∧AcR a.2.2.1 hh lv al)∧(Bk hh b4 (Ej S0.D.nb S0.D.P g2 g3)∧a.2.2.1 b4=0∧Bk hh b11 [AN S0.D.sz,a.2.2.2]∧a.2.2.1 b11=200)∧PlG (JS 0) a.1 (1000*i) a.2.1∧Sm S0 a.1) (i0:=0) (S0,Z0,κ,dv) ht ⟨⟨r,ka,ca,q,ql⟩,⟨k4,c4,k11,c11⟩,p,rfl,rfl,rfl,rfl,rfl⟩ (Nat.zero_le _) ?_ ?_
 ·rintro i ⟨S,Z,κ1,dv1⟩ h1 hi ⟨⟨r1,ka1,ca1,q1,ql1⟩,⟨k41,c41,k111,c111⟩,p1,sm1⟩ ih;simp only at r1 ka1 ca1 q1 ql1 k41 c41 k111 c111 p1 sm1;rw [←sm1.nb,←sm1.P]at k41;rw [←sm1.sz]at k111 q1;have hZ1:0<Z.length∧Z.length≤10:=by rw [p1.len,sm1.secs,←p.len];exact hZ
  have act:=fun(h2:H) (κ2:Nat→Nat) (lq:List (Nat×Option AV)) (lv2:AV) (hlv:lv2=lv) (r2:ApR κ2 h2 I S) (a2:AChg κ1 h1 κ2 h2) ht=>Aba L X Y (h:=h2) (κ:= κ2) (lv:=lv2) (lq:=lq) (k:= [.inBlock 2,.code uk]) T U r2 (a2.bk ka1 ca1).1 (a2.bk ka1 ca1).2 (a2.dk q1) (by rw [hlv];exact ql1.fw a2.fw) hF (⟨p1.toPl,⟨Nat.le_refl _,p1.ev.2⟩,V0 _,p1.hS⟩:PlG (JS S.next) S (1000*i) Z) hZ1 hi (a2.bk k41 c41).1 (a2.bk k41 c41).2 (a2.b2 k111 c111).1 (a2.b2 k111 c111).2 ht
   fun S' Z' κ' dv' h' l' r' ka' ca' q' ql' k4' c4' k11' c11' p' sm' ht'=>by
    rw [sm1.nb,sm1.P]at k4'
    rw [sm1.sz]at k11' q'
    exact ih (S',Z',κ',dv') h' l' ⟨⟨r',ka',ca',q',hlv ▸ ql'⟩,⟨k4',c4',k11',c11'⟩,⟨p'.toPl,⟨Nat.zero_le _,p'.ev.2⟩,V0 _,p'.hS⟩,sm1.trans sm'⟩ (hlv ▸ ht')
  rcases ql1.ex with⟨e,-⟩|⟨e,-⟩|⟨lvb,lvc,rfl,-,-⟩;·subst e;exact absurd hi (Nat.not_lt_zero i)
  ·subst e;exact absurd hi (Nat.not_lt_zero i)
  refine cal ?_ (c:=Xn L X Y r1 ka1);rintro _ h2 ⟨κ2,n2,rfl,hn2,r2,a2⟩;have hn2:n2=S.next:=hn2;subst hn2;refine wk ?_;exact act h2 κ2 _ _ rfl r2 a2 (by exact tsb)
 ·rintro⟨S,Z,κ1,dv1⟩ h1 ⟨⟨r1,ka1,ca1,q1,ql1⟩,⟨k41,c41,k111,c111⟩,p1,sm1⟩;have hq0:=ql1.ex;rcases hq0 with⟨e,rfl⟩|⟨e,a,rfl⟩|⟨lvb,lvc,rfl,-,-⟩
  all_goals
   (try(have hz:al.length=0:=by rw [e];rfl));refine cal ?_ (c:=W.ct _);try rintro _ _ ⟨rfl,rfl⟩
   try rintro _ rfl
   refine wk ?_;refine Eh L (todo:= []) ?_;exact Wx L Y.f6.1 (Db rfl) ⟨rfl,rfl⟩
theorem Oi {n1 n2 n3 nS:Nat}{fl:List Int}(T:Tb P0 E F K)(U:SortOk P0 E F 129)(W:Wk P0 E F K)(hs:Ud (n0:Int) (n1:Int) (n2:Int) (n3:Int) (nS:Int))(qf:IntsR κ h fv fl)(t1: ∀x∈fl,0≤x)(hfl:fl.length≤10)(ql:AcR κ h lv al)(hF:Few al)(kb:Bk h b4 (Ej n0 n1 n2 n3))(cb:κ b4=0)  (ht:TSub (tms [(47,some fv),(46,some (AN nS)),(45,some (.agg (Ej n0 n1 n2 n3))),(4,some (.ptr b4 0)),(3,some lv)]) (tms lq)): Good P0 E (fun fn u=>fn=6∧u= .bool true) ⟨⟨6,cf6.ntmps,tms lq,[.ops [Cc 48 10 [.t 45,.t 46,.t 47],Cv 44 48,Ce 49 44 0,Ce 50 44 1,Ce 51 44 2,Cj 11 (.alloc [Zi,.nils]),Cv 10 49,Cs 2 11 50,Cv 12 51],.code Acb],[],.run,false,none⟩,[],hp h.n h.t []⟩:=by
 refine Fu L ht ?_;have hs':=hs;obtain⟨i0,i1,i2,i3,i4,i5,i6,i7,i8,i9⟩:=hs';refine cal ?_ (c:=ar L X hs qf t1 (by omega));rintro _ h4 ⟨ab,I,κ4,dv,rfl,r4,ka4,ca4,q4,k4,c4⟩;have m4:=k4.n;have kb4:=Ag k4 kb;have lb4:=kb.lt;have lkb4:=kb4.lt;have lka4:=ka4.lt;have cb4:κ4 b4=0:=(c4 _ lb4).trans cb;rcases q4.ex with⟨e,-⟩|⟨-,lb,rows,rfl,-⟩;·have:=congrArg List.length e;rw [List.length_replicate,List.length_nil]at this;omega
 refine wk ?_;have k0:K0 h4 (hp (h4.n+1) h4.t [(h4.n,some (cl [AN n2,.slc lb 0 (List.replicate nS (List.replicate n2 0)).length (Aa+1)])),(h4.n,some (cl [Zi,.nils]))]):=kps;have hc: ∀b,b<h4.n→upd κ4 h4.n 200 b=κ4 b:=fun b hb=>upd_ne _ _ (by omega);have ql4:AcR κ4 h4 lv al:=ql.fw ⟨k4.n,fun b hb _=>k4.old b hb id,c4⟩;refine ye L X Y (κ:= upd κ4 h4.n 200) (S0:=Ap.new (Dv.new n0 n1 n2 n3 (Pp fl)) nS) (Z0:=List.replicate nS (List.replicate n2 0)) (h:=hp (h4.n+1) h4.t [(h4.n,some (cl [AN n2,.slc lb 0 (List.replicate nS (List.replicate n2 0)).length (Aa+1)])),(h4.n,some (cl [Zi,.nils]))]) (I:=I) (ab:=ab) (b4:=b4) (b11:=h4.n) (g2:=n2) (g3:=n3) (lv:=lv) (al:=al) T U W (r4.k0 k0 hc) (by exact lkp) ((hc ab ka4.lt).trans ca4) (((q4.mono fun b hb u=>⟨hb,u⟩:DkR h4 (fun b=>b<h4.n∧κ4 b=0) _ n2 _).k0 k0).mono fun b _ u=>(hc b u.1).trans u.2) (ql4.fw ⟨k0.n,fun b hb _=>k0.old b hb id,hc⟩) hF ⟨Pl.new (by omega) (by omega) (by omega) (by omega),JS.new _ _ fun _=>rfl,V0 0,(by show nS≤10;omega)⟩ (by rw [List.length_replicate];omega) (by exact lkp) ((hc b4 (by omega)).trans cb4) (by exact lkp) (upd_eq _ _ _) ?_;exact tsb
theorem oe {g2 g3 S:Int}{fl:List Int}(T:Tb P0 E F K)(U:SortOk P0 E F 129)(W:Wk P0 E F K)(qf:IntsR κ h fv fl)(ql:AcR κ h lv al): Good P0 E (fun fn u=>fn=6∧u= .bool true) ⟨⟨6,cf6.ntmps,tms [(3,some lv),(2,some fv),(1,some (AI S)),(0,some (.agg (Aa9 g0 g1 g2 g3)))],[.code cf6.body],[],.run,false,none⟩,[],hp h.n h.t []⟩:=by
 by_cases hs:Ud g0 g1 g2 g3 S;rotate_left
 ·refine cal ?_ (c:=od L X hs);rintro _ h1 ⟨rfl,k1⟩;refine cal ?_ (c:=W.ct _);try rintro _ _ ⟨rfl,rfl⟩
  try rintro _ rfl
  refine wk ?_;refine Eh L (todo:= []) ?_;exact Wx L Y.f6.1 (Db rfl) ⟨rfl,rfl⟩
 have hs':=hs;obtain⟨i0,i1,i2,i3,i4,i5,i6,i7,i8,i9⟩:=hs';obtain⟨n0,rfl⟩: ∃n:Nat,g0=n:=⟨g0.toNat,by omega⟩;obtain⟨n1,rfl⟩: ∃n:Nat,g1=n:=⟨g1.toNat,by omega⟩;obtain⟨n2,rfl⟩: ∃n:Nat,g2=n:=⟨g2.toNat,by omega⟩;obtain⟨n3,rfl⟩: ∃n:Nat,g3=n:=⟨g3.toNat,by omega⟩;obtain⟨nS,rfl⟩: ∃n:Nat,S=n:=⟨S.toNat,by omega⟩;by_cases hfl:fl.length≤10;rotate_left
 ·rcases qf.ex with⟨e,-⟩|⟨e,-⟩|⟨cb,cp,rfl,-,-⟩;·rw [e]at hfl;simp at hfl
  ·rw [e]at hfl;simp at hfl
  refine cal ?_ (c:=Ue L X hs);rintro _ h1 ⟨rfl,k1⟩;refine cal ?_ (c:=W.ct _);try rintro _ _ ⟨rfl,rfl⟩
  try rintro _ rfl
  refine wk ?_;refine Eh L (todo:= []) ?_;exact Wx L Y.f6.1 (Db rfl) ⟨rfl,rfl⟩
 have fwd: ∀{h1:H},K0 h h1→Fw κ h (ext κ h.n) h1:=fun k=>⟨k.n,fun b hb _=>k.old b hb id,fun b hb=>Ae hb⟩;have qfe:=qf.ex;rcases qfe with⟨hfe,rfl⟩|⟨hfe,fa,rfl⟩|⟨fcb,fcc,rfl,kcf,-⟩
 all_goals
  (try(have hz:fl.length=0:=by rw [hfe];rfl));refine cal ?_ (c:=Ue L X hs);rintro _ h1 ⟨rfl,k1⟩;have m1:=k1.n;simp only [Aj]at m1;have kk1:K0 h h1:=Kp.tr0 k1 (by exact kps);have kb:Bk h1 h.n (Ej n0 n1 n2 n3):=Ag k1 (by exact lkp);have lb:=kb.lt;refine wk ?_;have fct:=Afk L X (ql.fw (fwd kk1));(refine Ab0 L rfl rfl rfl rfl fct ?_);rintro _ h2 ⟨b,rfl,hb,k2⟩;have m2:=k2.n;have kk2:K0 h h2:=Kp.tr0 k2 kk1;have kb2:=Ag k2 kb
  cases b with
  |false=>
   refine cal ?_ (c:=W.ct _);try rintro _ _ ⟨rfl,rfl⟩
   try rintro _ rfl
   refine wk ?_;refine Eh L (todo:= []) ?_;exact Wx L Y.f6.1 (Db rfl) ⟨rfl,rfl⟩
  |true=>?_
 ·have hF:=hb.1 rfl;refine wk ?_;refine A5 L ?_;refine wk ?_;refine Oi L X Y (κ:= ext κ h.n) (h:=h2) T U W hs (qf.fw (fwd kk2)) (by rw [hfe];intro x hx;cases hx) hfl (ql.fw (fwd kk2)) hF kb2 (Bq (Nat.le_refl _)) ?_;exact tsb
 ·have hF:=hb.1 rfl;refine wk ?_;refine A5 L ?_;refine wk ?_;refine Oi L X Y (κ:= ext κ h.n) (h:=h2) T U W hs (qf.fw (fwd kk2)) (by rw [hfe];intro x hx;cases hx) hfl (ql.fw (fwd kk2)) hF kb2 (Bq (Nat.le_refl _)) ?_;exact tsb
 ·have hF:=hb.1 rfl;refine wk ?_;refine B9 L (α:= Unit) (T:=fun i _=> [(9,some (AN i)),(4,some (.ptr h.n 0)),(3,some lv),(2,some (.slc fcb 0 fl.length fcc)),(1,some (AN nS))]) (n:=fl.length) (R:=fun i _ h3=>(∀x∈fl.take i,0≤x)∧K0 h2 h3) (i0:=0) () tsb ⟨by simp,Kp.refl _⟩ (Nat.zero_le _) ?_ ?_
  ·rintro i _ h3 hi ⟨t1,t2⟩ ih;have hx:(fl.map eI)[i]?=some (eI fl[i]):=(by rw [List.getElem?_map,List.getElem?_eq_getElem hi];rfl);have htk:fl.take (i+1)=fl.take i++ [fl[i]]:=(by rw [List.take_add_one,List.getElem?_eq_getElem hi];rfl);have kc3:=Ru t2 (Ru kk2 kcf);generalize fl[i]=y at*;(try refine B0 L 1000 rfl ?_);(repeat(first|(apply st1 L rfl;exact⟨G1 rfl⟩;rfl)|(apply st1 L rfl;exact Mb rfl rfl rfl;rfl)|(apply st1 L rfl;exact Ip rfl rfl (by omega);rfl)|(apply st1 L rfl;exact D2 rfl rfl (by omega);rfl)|(apply st1 L rfl;exact Jt rfl rfl (by omega);rfl)));(apply st1 L rfl;exact Gg rfl lkr hx;rfl);by_cases hy:y<0
   ·refine cal ?_ (c:=W.ct _);try rintro _ _ ⟨rfl,rfl⟩
    try rintro _ rfl
    refine wk ?_;refine Eh L (todo:= []) ?_;exact Wx L Y.f6.1 (Db rfl) ⟨rfl,rfl⟩
   ·refine wk ?_;refine ih () _ _ ⟨?_,by exact t2⟩ ?_
    ·rw [htk];intro z hz;rcases List.mem_append.1 hz with h|h;·exact t1 z h
     ·rw [List.mem_singleton]at h;omega
    ·exact tsb
  ·rintro _ h3 ⟨t1,t2⟩;rw [List.take_length]at t1;have kk3:K0 h h3:=Kp.tr0 t2 kk2;have kb3:=Ag t2 kb2;refine wk ?_;refine Oi L X Y (κ:= ext κ h.n) (h:=h3) T U W hs (qf.fw (fwd kk3)) t1 hfl (ql.fw (fwd kk3)) hF kb3 (Bq (Nat.le_refl _)) ?_;exact tsb
end
open Go.ChangeShapes
noncomputable def ofG {α: Type}:Nat→List α→T α
 |_,[]=> .leaf
 |i,x::r=>T.set (ofG (i+1) r) i (some x)
theorem fj {α: Type}: ∀(l:List α) (i j:Nat),T.get (ofG i l) j=if i≤j then l[j - i]? else none
 | [],i,j=>by simp only [ofG,T.get_leaf];split <;> simp
 |x::r,i,j=>by
  simp only [ofG,T.get_set,fj r];by_cases h1:j=i;·subst h1;simp
  ·rw [if_neg h1];by_cases h2:i+1≤j;·rw [if_pos h2,if_pos (by omega),show j - i=(j - (i+1))+1 by omega,List.getElem?_cons_succ]
   ·rw [if_neg h2,if_neg (by omega)]
theorem Amq {α: Type}(l:List α)(j:Nat):T.get (ofG 0 l) j=l[j]?:=by rw [fj,if_pos (Nat.zero_le _),Nat.sub_zero]
section
variable {a:Addr}{cap:Nat}
theorem og (h:W.cell? a=some v):a.spot=none∧ ∃cs e fr,W.heap[a.block]?=some (.cells cs e fr)∧cs[a.off]?=some v:=by
 unfold World.cell? at h;split at h
 ·rename_i cs e fr hb
  cases hs:a.spot with
  |none=>rw [hs]at h;exact⟨rfl,cs,e,fr,hb,h⟩
  |some _=>rw [hs]at h;cases h
 ·cases h
theorem Afl {n:Nat}(h:a.spot=none):a.add n=⟨a.block,a.off+n,none⟩:=by
 unfold Addr.add;obtain⟨b,o,s⟩:=a;split;·rename_i h0;subst h0;simp only at h;subst h;rfl
 ·rfl
theorem X2 (hk:0<k)(hcap:0<cap){f:Nat→List Value}(h: ∀i,i<cap→W.cells? 0 (a.add (i*k)) k=some (f i)): ∃cs e fr,a.spot=none∧W.heap[a.block]?=some (.cells cs e fr)∧a.off+cap*k≤cs.size∧ ∀i j,i<cap→j<k→cs[a.off+(i*k+j)]?=(f i)[j]?:=by
 have h0:=World.cells?_some (h 0 hcap);have c0:=h0.2.2 0 hk;have hl0:=h0.2.1;rw [List.getElem?_eq_getElem (by omega)]at c0;have e0:(a.add (0*k)).add 0=a:=by rw [Nat.zero_mul];rfl
 rw [e0]at c0;obtain⟨hs,cs,e,fr,hb,-⟩:=og c0;have key: ∀i j,i<cap→j<k→cs[a.off+(i*k+j)]?=(f i)[j]?:=by intro i j hi hj;have h1:=(World.cells?_some (h i hi)).2.2 j hj;rw [Afl hs,C5,Ki hb]at h1;rw [←h1,Nat.add_assoc]
 refine⟨cs,e,fr,hs,hb,?_,key⟩;have h1:=key (cap - 1) (k - 1) (by omega) (by omega);have h2:=(World.cells?_some (h (cap - 1) (by omega))).2.1;rw [List.getElem?_eq_getElem (by omega)]at h1;have h3:=(Array.getElem?_eq_some_iff.1 h1).1;have h4:cap*k=(cap - 1)*k+k:=by
  have:(cap - 1+1)*k=(cap - 1)*k+k:=by rw [Nat.add_mul,Nat.one_mul]
  rwa [show cap - 1+1=cap by omega]at this
 omega
end
section
variable {H:Type}{enc:TypeId×Value→H}{P:Program}{e:TypeId}{fuel:Nat}
theorem Sn (ht:P.underlying t=some (.slice e)){y:DataW H×List MemPlace}(h:DataW.trod enc P W 0 (fun _=>true) held fuel t [v]=some y): v= .slice none 0 0∨ ∃a len cap n,v= .slice (some a) len cap∧len≤cap∧ ∀i,i<cap→ ∃c z,W.cells? 0 (a.add (i*P.cellsOf e)) (P.cellsOf e)=some c∧DataW.trod enc P W 0 (fun _=>true) held n e c=some z:=by
 rcases DataW.trod_slice ht h with⟨h1,-⟩|⟨a,len,cap,elems,rest,n,-,h1,-,-,hle,-,hlen,hel,hsp,-⟩;·left;simpa using h1
 ·right;refine⟨a,len,cap,n,by simpa using h1,hle,fun i hi=>?_⟩;obtain⟨hr1,hr2⟩:=hsp rfl;have: ∃z,(W.cells? 0 (a.add (i*P.cellsOf e)) (P.cellsOf e)).bind (DataW.trod enc P W 0 (fun _=>true) held n e)=some z:=by
   by_cases hi2:i<len;·rw [hel i hi2];exact⟨_,List.getElem?_eq_getElem (by omega)⟩
   ·have:=hr2 (i - len) (by omega);rw [show len+(i - len)=i by omega]at this;rw [this];exact⟨_,List.getElem?_eq_getElem (by omega)⟩
  obtain⟨z,hz⟩:=this;rw [Option.bind_eq_some_iff]at hz;obtain⟨c,h2,h3⟩:=hz;exact⟨c,z,h2,h3⟩
theorem dt1 {o:Nat}(h:(cs.drop o).take 1= [v]):cs[o]?=some v:=by have:=congrArg (fun l=>l[0]?) h;simpa [List.getElem?_take,List.getElem?_drop]using this
theorem Oj {k:IntKind}{o:Nat}{z:DataW H×List MemPlace}{sp:Nat→Bool}(ht:P.underlying t=some (.int k))(hc:P.cellsOf t=1)(h:DataW.trod enc P W 0 sp held fuel t ((cs.drop o).take (P.cellsOf t))=some z): ∃n,cs[o]?=some (.int k n)∧(Lit.int k n).wf=true:=by rw [hc]at h;obtain⟨n,h1,-,h2⟩:=DataW.trod_int ht h;exact⟨n,dt1 h1,h2⟩
end
structure TyA (P:Program):Prop where
 u3:P.underlying 3=some (.int .i64)
 c3:P.cellsOf 3=1
 u24:P.underlying 24=some (.slice 3)
 c24:P.cellsOf 24=1
 u25:P.underlying 25=some (.slice 38)
 u38: ∃fs,P.underlying 38=some (.struct fs)∧fs.map (fun f=>(f.type,f.offset))= #[(3,0),(3,1),(24,2)]
 c38:P.cellsOf 38=3
theorem fld {fs:Array Field}{A:Array (TypeId×Nat)}(h:fs.map (fun f=>(f.type,f.offset))=A){o:Nat}(hi:A[i]?=some (t,o)): ∃f,fs[i]?=some f∧f.type=t∧f.offset=o:=by
 subst h;rw [Array.getElem?_map,Option.map_eq_some_iff]at hi;obtain⟨f,h1,h2⟩:=hi
 cases h2;exact⟨f,h1,rfl,rfl⟩
section
variable {H:Type}{enc:TypeId×Value→H}{P:Program}
theorem yf {x:DataW H×List MemPlace}{A:Array (TypeId×Nat)}{sp:Nat→Bool}(hu: ∃fs,P.underlying t=some (.struct fs)∧fs.map (fun f=>(f.type,f.offset))=A) (h:DataW.trod enc P W 0 sp held n0 t cs=some x):cs.length=P.cellsOf t∧ ∃n,∀(i:Nat) (t':TypeId) (o:Nat),A[i]?=some (t',o)→ ∃z,DataW.trod enc P W 0 sp held n t' ((cs.drop o).take (P.cellsOf t'))=some z:=by obtain⟨fs,h1,h2⟩:=hu;obtain⟨xs,n,-,-,hl,hlen,hf⟩:=DataW.trod_struct h1 h;refine⟨hl,n,fun i t' o hi=>?_⟩;obtain⟨f,h3,h4,h5⟩:=fld h2 hi;have h6:=hf i f h3;have h7:=(Array.getElem?_eq_some_iff.1 h3).1;rw [h4,h5]at h6;rw [h6];exact⟨_,List.getElem?_eq_getElem (by omega)⟩
theorem Aj0 {α: Type}{n:Nat}(hn:0<n){R:Nat→α→Prop}(h: ∀i,i<n→ ∃y,R i y): ∃f:Nat→α,∀i,i<n→R i (f i):=by
 have: ∀i,∃y,i<n→R i y:=fun i=>by
  by_cases hi:i<n;·obtain⟨y,hy⟩:=h i hi;exact⟨y,fun _=>hy⟩
  ·obtain⟨y,-⟩:=h 0 hn;exact⟨y,fun q=>absurd q hi⟩
 exact Classical.axiomOfChoice this
theorem Uf {α: Type}(f:Nat→α)(n i:Nat)(x:α)(h:((List.range n).map f)[i]?=some x):i<n∧x=f i:=by rw [List.getElem?_map,Option.map_eq_some_iff]at h;obtain⟨j,h1,h2⟩:=h;obtain⟨h3,h4⟩:=List.getElem?_eq_some_iff.1 h1;rw [List.length_range]at h3;rw [List.getElem_range]at h4;subst h4;exact⟨h3,h2.symm⟩
theorem Abb (l:List AV)(i:Nat):T.get (ofL 0 (.leaf:T AV) l) i=l[i]?:=Il l i
def InO (W:World)(v:Value)(x:List Int×Option Loc):Prop:=
 match x.2 with
 |none=>x.1= []∧(v= .slice none 0 0∨ ∃a,v= .slice (some a) 0 0)
 |some l=> ∃cap cs e fr,v= .slice (some ⟨l.cb,l.base,none⟩) x.1.length cap∧x.1.length≤cap∧l.base+cap*1≤l.csz∧W.heap[l.cb]?=some (.cells cs e fr)∧cs.size=l.csz∧ ∀i y,x.1[i]?=some y→cs[l.base+i]?=some (.int .i64 y)
theorem Ug (T:TyA P){y:DataW H×List MemPlace}(h:DataW.trod enc P W 0 (fun _=>true) held n0 24 [v]=some y): ∃x,InO W v x:=by
 rcases Sn T.u24 h with rfl|⟨a,len,cap,n,rfl,hle,hc⟩;·exact⟨([],none),rfl,.inl rfl⟩
 ·by_cases hcap:cap=0
  ·subst hcap;obtain rfl:len=0:=by omega
   exact⟨([],none),rfl,.inr ⟨a,rfl⟩⟩
  ·rw [T.c3]at hc;have hc2: ∀i,i<cap→ ∃e:Int,W.cells? 0 (a.add (i*1)) 1=some [.int .i64 e]:=fun i hi=>by obtain⟨c,z,h1,h2⟩:=hc i hi;obtain⟨e,h3,-⟩:=DataW.trod_int T.u3 h2;exact⟨e,by rw [h1,h3]⟩
   obtain⟨f,hf⟩:=Aj0 (Nat.pos_of_ne_zero hcap) hc2;obtain⟨cs,e,fr,hs,hb,hsz,hk⟩:=X2 (k:=1) (f:=fun i=> [.int .i64 (f i)]) (by omega) (Nat.pos_of_ne_zero hcap) hf;obtain⟨ab,ao,spt9⟩:=a;simp only at hs hb hsz hk;subst hs;have hlen:((List.range len).map f).length=len:=(by simp);refine⟨((List.range len).map f,some ⟨ab,ao,cs.size⟩),cap,cs,e,fr,?_,?_,hsz,hb,rfl,fun i y hi=>?_⟩;·show _=Value.slice (some ⟨ab,ao,none⟩) ((List.range len).map f).length cap;rw [hlen]
   ·show((List.range len).map f).length≤cap;rw [hlen];exact hle
   ·obtain⟨h1,rfl⟩:=Uf f len i y hi;have:=hk i 0 (by omega) (by omega);rw [Nat.mul_one,Nat.add_zero]at this;exact this
abbrev X3:=Int×Int×Value×(List Int×Option Loc)
def acV (y:X3):List Value:= [.int .i64 y.1,.int .i64 y.2.1,y.2.2.1]
def AO (W:World)(v:Value)(x:List X3×Option Loc):Prop:=
 (∀y∈x.1,InO W y.2.2.1 y.2.2.2)∧match x.2 with
 |none=>x.1= []∧(v= .slice none 0 0∨ ∃a,v= .slice (some a) 0 0)
 |some l=> ∃cap cs e fr,v= .slice (some ⟨l.cb,l.base,none⟩) x.1.length cap∧x.1.length≤cap∧l.base+cap*3≤l.csz∧W.heap[l.cb]?=some (.cells cs e fr)∧cs.size=l.csz∧ ∀i y,x.1[i]?=some y→ ∀j,j<3→cs[l.base+(i*3+j)]?=(acV y)[j]?
theorem yg (T:TyA P){x:DataW H×List MemPlace}(h:DataW.trod enc P W 0 (fun _=>true) held n0 38 cs=some x): ∃y:X3,cs=acV y∧InO W y.2.2.1 y.2.2.2:=by
 obtain⟨hl,n,hf⟩:=yf T.u38 h;rw [T.c38]at hl;obtain⟨z0,h0⟩:=hf 0 3 0 rfl;obtain⟨z1,h1⟩:=hf 1 3 1 rfl;obtain⟨z2,h2⟩:=hf 2 24 2 rfl;obtain⟨a,a1,-⟩:=Oj T.u3 T.c3 h0;obtain⟨b,b1,-⟩:=Oj T.u3 T.c3 h1;rw [T.c24]at h2;have e2:(cs.drop 2).take 1= [cs[2]]:=by rw [List.drop_eq_getElem_cons (show 2<cs.length by omega)];rfl
 rw [e2]at h2;obtain⟨x,hx⟩:=Ug T h2;refine⟨(a,b,cs[2],x),List.ext_getElem? fun i=>?_,hx⟩;rcases i with _|_|_|i;·exact a1
 ·exact b1
 ·exact List.getElem?_eq_getElem (by omega)
 ·rw [List.getElem?_eq_none (by omega)];rfl
theorem oh (T:TyA P){y:DataW H×List MemPlace}(h:DataW.trod enc P W 0 (fun _=>true) held n0 25 [v]=some y): ∃x,AO W v x:=by
 rcases Sn T.u25 h with rfl|⟨a,len,cap,n,rfl,hle,hc⟩;·exact⟨([],none),(fun y hy=>by cases hy),rfl,.inl rfl⟩
 ·by_cases hcap:cap=0
  ·subst hcap;obtain rfl:len=0:=by omega
   exact⟨([],none),(fun y hy=>by cases hy),rfl,.inr ⟨a,rfl⟩⟩
  ·rw [T.c38]at hc;have hc2: ∀i,i<cap→ ∃y:X3,W.cells? 0 (a.add (i*3)) 3=some (acV y)∧InO W y.2.2.1 y.2.2.2:=fun i hi=>by obtain⟨c,z,h1,h2⟩:=hc i hi;obtain⟨y,rfl,h3⟩:=yg T h2;exact⟨y,h1,h3⟩
   obtain⟨f,hf⟩:=Aj0 (Nat.pos_of_ne_zero hcap) hc2;obtain⟨cs,e,fr,hs,hb,hsz,hk⟩:=X2 (k:=3) (f:=fun i=>acV (f i)) (by omega) (Nat.pos_of_ne_zero hcap) fun i hi=>(hf i hi).1;obtain⟨ab,ao,spt9⟩:=a;simp only at hs hb hsz hk;subst hs;have hlen:((List.range len).map f).length=len:=(by simp);refine⟨((List.range len).map f,some ⟨ab,ao,cs.size⟩),(fun y hy=>?_),cap,cs,e,fr,?_,?_,hsz,hb,rfl,fun i y hi j hj=>?_⟩;·obtain⟨i,h1,rfl⟩:=List.mem_map.1 hy;have:=List.mem_range.1 h1;exact(hf i (by omega)).2
   ·show _=Value.slice (some ⟨ab,ao,none⟩) ((List.range len).map f).length cap;rw [hlen]
   ·show((List.range len).map f).length≤cap;rw [hlen];exact hle
   ·obtain⟨h1,rfl⟩:=Uf f len i y hi;exact hk i j (by omega) hj
end
variable {rows:List (Option Loc×List AV)}{v2 v3:Value}{φ:Phi}
def Fl (rows:List (Option Loc×List AV)):Phi:=fun b=>(rows[b]?).bind (·.1)
noncomputable def Pn (rows:List (Option Loc×List AV)):H:=⟨rows.length,ofG 0 (rows.map fun r=>Ns r.2)⟩
theorem Sr:H.get (Pn rows) b=(rows[b]?).map fun r=>Ns r.2:=by show T.get (ofG 0 (rows.map fun r=>Ns r.2)) b=_;rw [Amq,List.getElem?_map]
theorem fo {o:Option Loc}{c:List AV}(h:rows[b]?=some (o,c)):Rk (Pn rows) b c:= ⟨⟨true,by rw [Sr,h];rfl⟩,(List.getElem?_eq_some_iff.1 h).1⟩
section
variable {P:Program}
theorem Abc (hb: ∀(b:Nat) (l:Loc) (c:List AV),rows[b]?=some (some l,c)→ ∃o,W.heap[l.cb]?=some o∧BR E (Fl rows) l (Ns c) o):HR E W.heap (Fl rows) (Pn rows) W.heap:=by
 have key: ∀b l,Fl rows b=some l→ ∃c,rows[b]?=some (some l,c):=by intro b l h;unfold Fl at h;rw [Option.bind_eq_some_iff]at h;obtain⟨⟨o,c⟩,h1,h2⟩:=h;simp only at h2;subst h2;exact⟨c,h1⟩
 have ro: ∀b x,H.get (Pn rows) b=some x→roB x=true:=by intro b x h;rw [Sr,Option.map_eq_some_iff]at h;obtain⟨r,-,rfl⟩:=h;rfl
 refine⟨fun b l h=>?_,fun b l h=>?_,fun b l x h hx=>?_,fun b b' l l' x x' _ _ hx _ hr _=>?_,fun b l x _ hx hr=>?_,fun _ _=>rfl,Nat.le_refl _⟩;·obtain⟨c,h1⟩:=key b l h;exact(List.getElem?_eq_some_iff.1 h1).1
 ·obtain⟨c,h1⟩:=key b l h;obtain⟨o,h2,-⟩:=hb b l c h1;rcases Nat.lt_or_ge l.cb W.heap.size with h'|h';·exact h'
  ·rw [Array.getElem?_eq_none h']at h2;cases h2
 ·obtain⟨c,h1⟩:=key b l h;rw [Sr,h1]at hx
  cases hx;exact hb b l c h1
 ·rw [ro b x hx]at hr;cases hr
 ·rw [ro b x hx]at hr;cases hr
theorem yi {l:Loc}{xs:List AV}{cs:Array Value}{e:TypeId}{fr:Nat×Nat}(hs:cs.size=l.csz)(hn:l.base+xs.length≤cs.size)(h: ∀(i:Nat) (v:AV),xs[i]?=some v→ ∃v',cs[l.base+i]?=some v'∧VR φ v v'): BR E φ l (Ns xs) (.cells cs e fr):= .cells (fun q=>by cases q) hs hn fun i v hi hv=>h i v (by rw [Abb]at hv;exact hv)
theorem Abd {α: Type}{f:α→List AV}(hk:0<k)(l:List α)(hl: ∀x∈l,(f x).length=k){v:AV}(h:(l.flatMap f)[i]?=some v): ∃x,l[i / k]?=some x∧(f x)[i % k]?=some v∧i / k*k+i % k=i:=by
 have h1:i<(l.flatMap f).length:=(List.getElem?_eq_some_iff.1 h).1;rw [Dt l hl]at h1;have h2:i / k<l.length:=by rw [Nat.div_lt_iff_lt_mul hk];exact h1
 have h3:i / k*k+i % k=i:=by rw [Nat.mul_comm];exact Nat.div_add_mod i k
 refine⟨l[i / k],List.getElem?_eq_getElem h2,?_,h3⟩;rw [←Dc l hl (i / k) (i % k) _ (List.getElem?_eq_getElem h2) (Nat.mod_lt _ hk),h3];exact h
def iAV (b:Nat)(v:Value)(x:List Int×Option Loc):AV:=match x.2 with
 |none=>(match v with
  | .slice none _ _=> .nils
  |_=> .opq v)
 |some _=> .slc b 0 x.1.length (Aa+1)
theorem yj {x:List Int×Option Loc}(h:InO W v x)(hφ: φ b=x.2):VR φ (iAV b v x) v:=by
 obtain⟨xs,ol⟩:=x
 cases ol with
 |none=>
  obtain⟨-,rfl|⟨a,rfl⟩⟩:=h;·exact .nils
  ·exact .opq _
 |some l=>obtain⟨cap,cs,e,fr,rfl,h1,h2,-,-,-⟩:=h;exact .slcU hφ h1 h2 fun _=>rfl
theorem fq {x:List Int×Option Loc}{l:Loc}(h:InO W v x)(hl:x.2=some l): ∃o,W.heap[l.cb]?=some o∧BR E φ l (Ns (x.1.map eI)) o:=by obtain⟨xs,ol⟩:=x;simp only at hl;subst hl;obtain⟨cap,cs,e,fr,rfl,h1,h2,h3,h4,h5⟩:=h;simp only at h1 h5;refine⟨_,h3,yi h4 (by rw [List.length_map];show l.base+xs.length≤cs.size;omega) fun i u hi=>?_⟩;rw [List.getElem?_map,Option.map_eq_some_iff]at hi;obtain⟨y,hy,rfl⟩:=hi;exact⟨_,h5 i y hy,.int _ _⟩
theorem ft {x:List Int×Option Loc}(h:InO W v x)(hr:rows[b]?=some (x.2,x.1.map eI)):IntsR (fun _=>0) (Pn rows) (iAV b v x) x.1:=by
 obtain⟨xs,ol⟩:=x
 cases ol with
 |none=>
  obtain⟨e,rfl|⟨a,rfl⟩⟩:=h;·exact⟨.inl ⟨e,rfl⟩⟩
  ·exact⟨.inr (.inl ⟨e,a,rfl⟩)⟩
 |some l=>exact⟨.inr (.inr ⟨b,_,rfl,fo hr,rfl⟩)⟩
def Afm (i:Nat)(y:X3):Act:=((y.1,y.2.1,y.2.2.2.1),iAV (i+2) y.2.2.1 y.2.2.2)
def Kc (ys:List X3):List Act:=ys.mapIdx Afm
theorem Uh {ys:List X3}:(Kc ys)[i]?=(ys[i]?).map (Afm i):=by unfold Kc;rw [List.getElem?_mapIdx]
def Na (fx:List Int×Option Loc)(ax:List X3×Option Loc):List (Option Loc×List AV):=(fx.2,fx.1.map eI)::(ax.2,(Kc ax.1).flatMap acC)::ax.1.map fun y=>(y.2.2.2.2,y.2.2.2.1.map eI)
theorem oj {H1:Type}{enc:TypeId×Value→H1}(Ty:TyA P){n1:Nat}{fx:List Int×Option Loc}{y3:DataW H1×List MemPlace}(hf:InO W v2 fx)(h3:DataW.trod enc P W 0 (fun _=>true) held n1 25 [v3]=some y3): ∃(h0:H) (φ: Phi) (av2 av3:AV) (fl:List Int) (al:List Act),VR φ av2 v2∧VR φ av3 v3∧HR E W.heap φ h0 W.heap∧IntsR (fun _=>0) h0 av2 fl∧AcR (fun _=>0) h0 av3 al:=by
 obtain⟨ax,ha0,ha⟩:=oh Ty h3;have rowI: ∀i y,ax.1[i]?=some y→(Na fx ax)[i+2]?=some (y.2.2.2.2,y.2.2.2.1.map eI):=by intro i y hi;show(ax.1.map _)[i]?=_;rw [List.getElem?_map,hi];rfl
 have phiI: ∀i y,ax.1[i]?=some y→Fl (Na fx ax) (i+2)=y.2.2.2.2:=by intro i y hi;unfold Fl;rw [rowI i y hi];rfl
 have hlen:(Kc ax.1).length=ax.1.length:=by unfold Kc;rw [List.length_mapIdx]
 have hr:HR E W.heap (Fl (Na fx ax)) (Pn (Na fx ax)) W.heap:=by
  refine Abc fun b l c hb=>?_;rcases b with _|_|i
  ·have hb:some (fx.2,fx.1.map eI)=some (some l,c):=hb;obtain⟨e1,e2⟩:=Prod.mk.inj (Option.some.inj hb);rw [←e2];exact fq hf e1
  ·have hb:some (ax.2,(Kc ax.1).flatMap acC)=some (some l,c):=hb;obtain⟨e1,e2⟩:=Prod.mk.inj (Option.some.inj hb);rw [←e2];rw [e1]at ha;obtain⟨cap,cs,e,fr,rfl,g1,g2,g3,g4,g5⟩:=ha;refine⟨_,g3,yi g4 ?_ fun i u hi=>?_⟩;·rw [Dt _ (Qf _),hlen];have:ax.1.length*3≤cap*3:=Nat.mul_le_mul_right 3 g1;omega
   ·obtain⟨q,q1,q2,q3⟩:=Abd (by omega) _ (Qf _) hi;rw [Uh,Option.map_eq_some_iff]at q1;obtain⟨y,hy,rfl⟩:=q1;have g6:=g5 (i / 3) y hy (i % 3) (Nat.mod_lt _ (by omega));rw [q3]at g6;have hV:VRs (Fl (Na fx ax)) (acC (Afm (i / 3) y)) (acV y):= .cons (.int _ _) (.cons (.int _ _) (.cons (yj (ha0 y (List.mem_of_getElem? hy)) (phiI _ y hy)) .nil));obtain⟨u',h7,h8⟩:=hV.get q2;exact⟨u',by rw [g6];exact h7,h8⟩
  ·have hb:(ax.1.map fun y=>(y.2.2.2.2,y.2.2.2.1.map eI))[i]?=some (some l,c):=hb;rw [List.getElem?_map,Option.map_eq_some_iff]at hb;obtain⟨y,hy,e⟩:=hb;obtain⟨e1,e2⟩:=Prod.mk.inj e;rw [←e2];exact fq (ha0 y (List.mem_of_getElem? hy)) e1
 have el: ∀x∈Kc ax.1,IntsR (fun _=>0) (Pn (Na fx ax)) x.2 x.1.2.2:=by
  intro x hx;obtain⟨i,hi,e⟩:=List.getElem_of_mem hx;have h1:(Kc ax.1)[i]?=some x:=by rw [List.getElem?_eq_getElem hi,e]
  rw [Uh,Option.map_eq_some_iff]at h1;obtain⟨y,hy,rfl⟩:=h1;exact ft (ha0 y (List.mem_of_getElem? hy)) (rowI i y hy)
 have hv2:VR (Fl (Na fx ax)) (iAV 0 v2 fx) v2:=yj hf rfl;have hi2:IntsR (fun _=>0) (Pn (Na fx ax)) (iAV 0 v2 fx) fx.1:=ft hf rfl
 cases he:ax.2 with
 |none=>
  rw [he]at ha;obtain⟨e,rfl|⟨a,rfl⟩⟩:=ha;·exact⟨_,_,_,.nils,_,Kc ax.1,hv2,.nils,hr,hi2,el,.inl ⟨by rw [e];rfl,rfl⟩⟩
  ·exact⟨_,_,_,.opq _,_,Kc ax.1,hv2,.opq _,hr,hi2,el,.inr (.inl ⟨by rw [e];rfl,a,rfl⟩)⟩
 |some l=>have hp:Fl (Na fx ax) 1=some l:=he;rw [he]at ha;obtain⟨cap,cs,e,fr,rfl,g1,g2,g3,g4,g5⟩:=ha;exact⟨_,_,_,.slc 1 0 ax.1.length (Aa+3),_,Kc ax.1,hv2,.slcU hp g1 g2 fun _=>rfl,hr,hi2,el,.inr (.inr ⟨1,Aa+3,by rw [hlen],fo (b:=1) rfl,rfl⟩)⟩
theorem au {H1:Type}{enc:TypeId×Value→H1}(Ty:TyA P){n1:Nat}{y2 y3:DataW H1×List MemPlace}(h2:DataW.trod enc P W 0 (fun _=>true) held n0 24 [v2]=some y2)(h3:DataW.trod enc P W 0 (fun _=>true) held n1 25 [v3]=some y3): ∃(h0:H) (φ: Phi) (av2 av3:AV) (fl:List Int) (al:List Act),VR φ av2 v2∧VR φ av3 v3∧HR E W.heap φ h0 W.heap∧IntsR (fun _=>0) h0 av2 fl∧AcR (fun _=>0) h0 av3 al:=by obtain⟨fx,hf⟩:=Ug Ty h2;exact oj Ty hf h3
