/- Part of the proof. -/
import Derived.Test.YtgkianlpkdfhkaaGreatQ17
import Derived.Test.YtgkianlpkdfhkaaGreatQ15
set_option linter.unusedVariables false
set_option linter.unusedSectionVars false
set_option linter.unusedSimpArgs false
set_option maxRecDepth 10000
set_option maxHeartbeats 4000000
namespace Go.Ev
section
variable {P0:Program}{E:Env}{F:T CFn}{K:T (List AV×AV)}(L:Lg P0 E F K)(X:Fx F K)
include L X
theorem X8 {h:H}{S nb P m r1 r2 vb:Nat}{A:Int→Option Int}(q:MpR S nb P h m r1 r2 vb A){s:Int}(e:A s=none):Ct P0 E F K 91 [.ptr m 0,AI s] h fun v h'=>v= .tup [AI ((0:Nat):Int),.bool false]∧h'=h:=
 (md L X q).mono fun v h' q=>⟨by rw [q.1,e],q.2⟩
theorem X9 {h:H}{S nb P m r1 r2 vb:Nat}{A:Int→Option Int}(q:MpR S nb P h m r1 r2 vb A){s p:Int}(e:A s=some p):Ct P0 E F K 91 [.ptr m 0,AI s] h fun v h'=>v= .tup [AI p,.bool true]∧h'=h:=
 (md L X q).mono fun v h' q=>⟨by rw [q.1,e],q.2⟩
omit L X in
theorem Jg {S:Nat}{d:Bool}{l:List Int}(h:Dc S d l=0): ∀s∈l,0≤s∧s<S:=by
 intro s hs
 unfold Dc at h
 split at h
 ·cases h
 ·split at h
  ·cases h
  ·rename_i hn
   constructor
   ·exact Int.not_lt.1 fun c=>hn ⟨s,hs,.inl c⟩
   ·exact Int.not_le.1 fun c=>hn ⟨s,hs,.inr c⟩
section
variable {h:H}{κ: Nat→Nat}{I:Ai}{S:Ap}
theorem Wn {cb:Nat}(kc:Bk h cb [.nils]):CtP P0 E F K 89 [.ptr I.s 0,.ptr cb 0] h fun v h'=>v= .ifc 44 (AI ((2:Nat):Int))∧K0 h h':=by
 have lc:=kc.lt
 refine Fe L X.f89 X.k89 rfl rfl rfl fun Q x cs G=>?_
 refine wk ?_
 (apply st1 L rfl;exact lz rfl rfl rfl;rfl)
 refine wk ?_
 refine Et L rfl rfl rfl rfl rfl (Wl (I:=I) L X) ?_
 rintro _ h2 ⟨rfl,k2⟩
 refine Ao L X.f89 ?_
 exact G _ _ ⟨rfl,kps⟩
theorem Wo {cb gb:Nat}{l:List GW}{δ: Nat→List Nat}(T:Tb P0 E F K)(r:ApR κ h I S)(iw:IW S)(hS:S.S<1000)(kc:Bk h cb [.slc gb 0 l.length (Aa+2)])(kb:Bk h gb (l.flatMap (gwC S.D.sz)))(hcc:κ cb=0∧κ gb=0)(hl:l≠[])(hlen:l.length≤10)
  (hD: ∀(i:Nat) (s:Int) (b o c:Nat),l[i]?=some (s,some (b,o,c))→BS h b o (δ b)∧κ b=0∧(δ b).length=S.D.sz)
  (hf:S.last<S.next∧S.next<10000000) (hn:S.D.n+1000<100000)
  (hA:Dc S.S S.down (l.map (·.1))=0→ ∀es S',AppP (gpl δ l) S es S' (.done 0)→ ∀j x,es[j]?=some x→okE S.S (S.D.nb*S.D.P) (stA S.A es j) x):
  CtX P0 E F K 89 [.ptr I.s 0,.ptr cb 0] h
   (fun v h'=>Dc S.S S.down (l.map (·.1))=0∧ ∃S' κ',ApdP (gpl δ l) S S' (.done 0)∧ApR κ' h' I S'∧AChg κ h κ' h')
   (fun v h'=>(v= .ifc 44 (AI ((Dc S.S S.down (l.map (·.1)):Nat):Int))∧Dc S.S S.down (l.map (·.1))≠0∧ ∃κ',ApR κ' h' I S∧AChg κ h κ' h')∨
    (Dc S.S S.down (l.map (·.1))=0∧ ∃(o:WO) (S':Ap) (κ':Nat→Nat),v= .ifc 44 (AI ((eOf o:Nat):Int))∧(o= .full∨o= .pow)∧ApdP (gpl δ l) S S' o∧ApR κ' h' I S'∧AChg κ h κ' h')):=by
 have lc:=kc.lt
 have lb:=kb.lt
 have hsz:=r.dv.ok.g.sz
 have hlt:=r.lt
 have hcapn:l.length<Aa:=by simp only [Aa];omega
 refine Ca L X.f89 X.k89 rfl rfl rfl fun Q x cs G Gp=>?_
 refine wk ?_
 refine H3 L (c:=bg (cap:=l.length) L X (Ag (by exact kps) r.sk) (r.mp.k0 (by exact kps)) ⟨hsz.1,by omega⟩ (Ag (by exact kps) kb) hl (by omega)) (g:=?_) (gp:=?_)
 ·rintro _ h2 ⟨rfl,hchk,k2⟩
  have r2:ApR (ext κ h.n) h2 I S:=r.k0 k2 fun b hb=>Af hb
  have a2:AChg κ h (ext κ h.n) h2:=AChg.k0 k2 fun b hb=>Af hb
  have kc2:Bk h2 cb [.slc gb 0 l.length (Aa+2)]:=Ag k2 kc
  have hrg:=Jg hchk
  have hgl:(gpl δ l).length=l.length:=by unfold gpl;rw [List.length_map]
  refine wk ?_
  refine Co L (α:= Ap×(Nat→Nat)×AV×List Ent) (T:=fun i s=> [(18,some (AI ((i:Nat):Int))),(17,some (AI ((l.length:Nat):Int))),(16,some (.slc gb 0 l.length (Aa+2))),(3,some s.2.2.1),(0,some (.ptr I.s 0))]) (n:=l.length)
   (R:=fun i s hh=>ApR s.2.1 hh I s.1∧AChg κ h s.2.1 hh∧IW s.1∧FrS S s.1∧(s.1.next≤S.next+i∧S.next≤s.1.next)∧s.1.D.n+30*(l.length - i)+600<100000∧EL hh h.n s.2.2.1 s.2.2.2∧(∀b n c,s.2.2.1= .slc b 0 n c→s.2.1 b=200)∧s.2.2.2.length≤i∧(∀es'' S'' o,AppP ((gpl δ l).drop i) s.1 es'' S'' o→AppP (gpl δ l) S (s.2.2.2++es'') S'' o)) (i0:=0) (S,ext κ h.n,.nils,[]) tsb
   ⟨r2.k0 (by exact kps) fun _ _=>rfl,a2.trans (AChg.k0 (by exact kps) fun _ _=>rfl),iw,FrS.refl _,⟨by simp only;omega,Nat.le_refl _⟩,by simp only;omega,EL.nil _ _,(by intro b n c e;cases e),Nat.le_refl _,(by intro es'' S'' o q;exact q)⟩ (Nat.zero_le _) ?_ ?_
  ·rintro i ⟨Si,κi,ev,es⟩ hh hi ⟨ri,ai,iwi,fri,hnx,hbi,el,hev,hel,chi⟩ ih
   simp only at ri ai iwi fri hnx hbi el hev hel chi
   have kbi:Bk hh gb (l.flatMap (gwC S.D.sz)):=As ai.k (by omega) kb
   have lbi:=kbi.lt
   have hnn:=ai.k.n
   have ski:=ri.sk
   have lsi:=ski.lt
   have hlti:=ri.lt
   have hnbi:=ri.dv.ok.g.nb
   have hcoli:=ri.col
   have hx:l[i]?=some l[i]:=List.getElem?_eq_getElem hi
   have hdt:=Ff l (Je (sz:=S.D.sz) l) i _ hx
   have hg:(gpl δ l)[i]?=some (l[i].1,l[i].2.map fun q=>δ q.1):=by unfold gpl;rw [List.getElem?_map,hx];rfl
   have hdrop:(gpl δ l).drop i=(l[i].1,l[i].2.map fun q=>δ q.1)::(gpl δ l).drop (i+1):=by
    have hlt:i<(gpl δ l).length:=by omega
    rw [List.drop_eq_getElem_cons hlt]
    rw [List.getElem?_eq_getElem hlt]at hg
    rw [Option.some.inj hg]
   have hs:=hrg l[i].1 (List.mem_map_of_mem (List.getElem_mem hi))
   have hDi:=hD i
   clear hg
   generalize hxe:l[i]=xx at*
   obtain⟨s,q⟩:=xx
   simp only at hs hdrop
   unfold apC at ski
   rcases q with _|⟨b,o,c⟩
   ·have hdt':i*2+2≤(l.flatMap (gwC S.D.sz)).length∧((l.flatMap (gwC S.D.sz)).drop (i*2)).take 2= [AI s,.nils]:=hdt
    clear hdt
    cases hAs:Si.A s with
    |none=>
     refine wk ?_
     (apply st1 L rfl;exact Bs kbi.rk hdt' rfl;rfl)
     refine wk ?_
     refine cal (c:=X8 L X (ri.mp.k0 (by exact kps)) hAs) (g:=?_)
     rintro _ rfl
     refine wk ?_
     refine ih (Si,ext κi hh.n,ev,es) _ _ ⟨ri.k0 ?_ fun b hb=>Af hb,ai.trans (AChg.k0 ?_ fun b hb=>Af hb),iwi,fri,⟨by simp only;omega,hnx.2⟩,by simp only;omega,el.k0 ?_,fun b n c e=>?_,by simp only;omega,fun es'' S'' o q=>chi _ _ _ ?_⟩ tsb
     ·exact kps
     ·exact kps
     ·exact kps
     ·have h200:=hev b n c e
      simp only at e
      subst e
      exact(Af el.blt.1).trans h200
     ·rw [hdrop];exact .skip hAs q
    |some p=>
     refine wk ?_
     (apply st1 L rfl;exact Bs kbi.rk hdt' rfl;rfl)
     refine wk ?_
     refine cal (c:=X9 L X (ri.mp.k0 (by exact kps)) hAs) (g:=?_)
     rintro _ rfl
     have chi': ∀es'' S'' o,AppP ((gpl δ l).drop (i+1)) Si es'' S'' o→AppP (gpl δ l) S ((es++ [(s,-1)])++es'') S'' o:=fun es'' S'' o q=>by
      rw [List.append_assoc];exact chi _ _ _ (by rw [hdrop];exact .trim (by rw [hAs];simp) q)
     rcases el.len with⟨e0,rfl⟩|⟨hpos,b,rfl,hb,hblo⟩
     ·subst e0
      refine wk ?_
      (apply st1 L rfl;exact F0 (new:=Az (s,-1)) rfl rfl (SlR.of (c:=Az (s,-1)) lkp (Nat.le_refl _) rfl) (by omega) (by omega);rfl)
      refine wk ?_
      refine ih (Si,upd (ext κi hh.n) (hh.n+2) 200,.slc (hh.n+2) 0 1 (Aa+2),[(s,-1)]) _ _ ⟨ri.own (B:=fun _=>False) ?_ (fun b _ e=>e.elim) fun b hb=>(upd_ne _ _ (by omega)).trans (Af hb),ai.own (B:=fun _=>False) ?_ (fun b e=>e.elim) fun b hb=>(upd_ne _ _ (by omega)).trans (Af hb),iwi,fri,⟨by simp only;omega,hnx.2⟩,by simp only;omega,EL.app (l:= []) ?_ (by omega) rfl,fun b n c e=>?_,by simp,chi'⟩ tsb
      ·exact kps
      ·exact kps
      ·exact lkp
      ·cases e;exact upd_eq _ _ _
     ·have hlb:=hb.lt
      have h200:=hev b _ _ rfl
      refine wk ?_
      (apply st1 L rfl;exact Fz (old:=es.flatMap Az) (new:=Az (s,-1)) rfl rfl (SlR.of (c:=es.flatMap Az) lkp (by rw [A8];omega) (by rw [List.drop_zero,List.take_of_length_le (by rw [A8];exact Nat.le_refl _)])) (SlR.of (c:=Az (s,-1)) lkp (Nat.le_refl _) rfl) (by omega) (by omega) rfl;rfl)
      refine wk ?_
      refine ih (Si,upd (ext κi hh.n) (hh.n+2) 200,.slc (hh.n+2) 0 (es.length+1) (Aa+2),es++ [(s,-1)]) _ _ ⟨ri.own (B:=fun j=>j=b) ?_ (fun b _ e=>by subst e;omega) fun b hb=>(upd_ne _ _ (by omega)).trans (Af hb),ai.own (B:=fun j=>j=b) ?_ (fun b e=>by subst e;exact hblo) fun b hb=>(upd_ne _ _ (by omega)).trans (Af hb),iwi,fri,⟨by simp only;omega,hnx.2⟩,by simp only;omega,EL.app (l:=es) ?_ (by omega) rfl,fun b n c e=>?_,by simp;omega,chi'⟩ tsb
      ·exact kps
      ·exact kps
      ·exact lkp
      ·cases e;exact upd_eq _ _ _
   ·have hdt':i*2+2≤(l.flatMap (gwC S.D.sz)).length∧((l.flatMap (gwC S.D.sz)).drop (i*2)).take 2= [AI s,.slc b o S.D.sz c]:=hdt
    clear hdt
    obtain⟨hd1,hd2,hd3⟩:=hDi s b o c hx
    have kdi:=ai.bs hd1 hd2
    have hsz1:1≤S.D.sz:=by omega
    have hmu:=L4 Si false
    have call: ∀h5,K0 hh h5→CtX P0 E F K 51 [.ptr I.s 0,AI s,.slc b o S.D.sz c] h5
      (fun v h'=> ∃p S' κ',v= .agg [AI s,AI ((p:Nat):Int)]∧StP s (δ b) Si S' (.done p)∧ApR κ' h' I S'∧AChg (ext κi hh.n) h5 κ' h')
      (fun v h'=> ∃(o:WO) (S':Ap) (κ':Nat→Nat),v= .ifc 44 (AI ((eOf o:Nat):Int))∧(o= .full∨o= .pow)∧StP s (δ b) Si S' o∧ApR κ' h' I S'∧AChg (ext κi hh.n) h5 κ' h'):=by
     intro h5 k5
     have:=Us (c1:=c) (sec:=s) L X T (ri.k0 k5 fun b hb=>Af hb) (iwi.wi false) (by omega) ⟨by omega,by omega⟩ (kdi.1.k0 k5) ((Af kdi.1.lt_n).trans kdi.2) (by rw [fri.sz];exact hd3) (by omega)
     rw [fri.sz]at this
     exact this
    refine wk ?_
    (apply st1 L rfl;exact Bs kbi.rk hdt' rfl;rfl)
    have okc: ∀(p:Nat) (S':Ap) (κ':Nat→Nat) (h5 h' h7:H) (w:AV) (N:Nat),K0 hh h5→StP s (δ b) Si S' (.done p)→ApR κ' h' I S'→AChg (ext κi hh.n) h5 κ' h'→Kp (fun j=> ∃n c,ev= .slc j 0 n c) h' h7→EL h7 h.n w (es++ [(s,((p:Nat):Int))])→h'.n≤N→w= .slc N 0 (es.length+1) (Aa+2)→
      ApR (upd κ' N 200) h7 I S'∧AChg κ h (upd κ' N 200) h7∧IW S'∧FrS S S'∧(S'.next≤S.next+(i+1)∧S.next≤S'.next)∧S'.D.n+30*(l.length - (i+1))+600<100000∧EL h7 h.n w (es++ [(s,((p:Nat):Int))])∧(∀b n c,w= .slc b 0 n c→(upd κ' N 200) b=200)∧(es++ [(s,((p:Nat):Int))]).length≤i+1∧(∀es'' S'' o,AppP ((gpl δ l).drop (i+1)) S' es'' S'' o→AppP (gpl δ l) S ((es++ [(s,((p:Nat):Int))])++es'') S'' o):=by
     intro p S' κ' h5 h' h7 w N k5 hst r' a' k7 hel7 hN hw
     obtain⟨f1,f2,f3,f4⟩:=hst.fr iwi
     have n1:=a'.k.n
     have n0:=k5.n
     have hold: ∀j n c,ev= .slc j 0 n c→κ' j=200∧h.n≤j:=by
      intro j n c e
      have h200:=hev j n c e
      subst e
      have:=el.blt
      exact⟨(a'.col j (by omega)).trans ((Af this.1).trans h200),this.2⟩
     refine⟨r'.own k7 (fun j _ e=>?_) fun j hj=>upd_ne _ _ (by omega),?_,f2,fri.trans f1,⟨by omega,by omega⟩,by omega,hel7,fun b n c e=>?_,by simp;omega,fun es'' S'' o q=>?_⟩
     ·obtain⟨n,c,e⟩:=e
      have:=hold j n c e;omega
     ·refine AChg.own (ai.trans ((AChg.k0 k5 fun b hb=>Af hb).trans a')) k7 (fun j e=>?_) fun j hj=>upd_ne _ _ (by omega)
      obtain⟨n,c,e⟩:=e
      exact(hold j n c e).2
     ·rw [hw]at e;cases e;exact upd_eq _ _ _
     ·rw [List.append_assoc];exact chi _ _ _ (by rw [hdrop];exact .put hst q)
    have badc: ∀(o':WO) (S':Ap),(o'= .full∨o'= .pow)→StP s (δ b) Si S' o'→ApdP (gpl δ l) S S' o':=by
     intro o' S' ho hst
     have:=chi [] S' o' (by rw [hdrop];exact .bad hst ho)
     exact .bad this ho
    clear chi
    cases hAs:Si.A s with
    |none=>
     refine wk ?_
     refine cal (c:=X8 L X (ri.mp.k0 (by exact kps)) hAs) (g:=?_)
     rintro _ rfl
     refine wk ?_
     refine H3 L (c:=call _ (by exact kps)) (g:=?_) (gp:=?_)
     ·rintro _ h5 ⟨p,S',κ',rfl,hw,r',a'⟩
      have n1:=a'.k.n
      simp only [Am]at n1
      rcases el.len with⟨e0,rfl⟩|⟨hpos,b1,rfl,hb1,hblo1⟩
      ·subst e0
       refine wk ?_
       (apply st1 L rfl;exact F0 (new:=Az (s,((p:Nat):Int))) rfl rfl (SlR.of (c:=Az (s,((p:Nat):Int))) lkp (Nat.le_refl _) rfl) (by omega) (by omega);rfl)
       refine wk ?_
       refine ih (S',upd κ' (h5.n+1) 200,.slc (h5.n+1) 0 1 (Aa+2),[(s,((p:Nat):Int))]) _ _ (okc p S' κ' _ h5 _ _ (h5.n+1) ?_ hw r' a' (Kp.mono (S:=fun _=>False) (fun _ f=>f.elim) ?_) (EL.app (l:= []) ?_ (by omega) rfl) (by omega) rfl) tsb
       ·exact kps
       ·exact kps
       ·exact lkp
      ·have hlb1:=hb1.lt
       have h200:=hev b1 _ _ rfl
       have hb5:Bk h5 b1 (es.flatMap Az):=As a'.k (by rw [Af hlb1];omega) (by exact lkp)
       have hlb5:=hb5.lt
       refine wk ?_
       (apply st1 L rfl;exact Fz (old:=es.flatMap Az) (new:=Az (s,((p:Nat):Int))) rfl rfl (SlR.of (c:=es.flatMap Az) lkp (by rw [A8];omega) (by rw [List.drop_zero,List.take_of_length_le (by rw [A8];exact Nat.le_refl _)])) (SlR.of (c:=Az (s,((p:Nat):Int))) lkp (Nat.le_refl _) rfl) (by omega) (by omega) rfl;rfl)
       refine wk ?_
       refine ih (S',upd κ' (h5.n+1) 200,.slc (h5.n+1) 0 (es.length+1) (Aa+2),es++ [(s,((p:Nat):Int))]) _ _ (okc p S' κ' _ h5 _ _ (h5.n+1) ?_ hw r' a' (Kp.mono (S:=fun j=>j=b1) (fun j e=>⟨_,_,by subst e;rfl⟩) ?_) (EL.app (l:=es) ?_ (by omega) rfl) (by omega) rfl) tsb
       ·exact kps
       ·exact kps
       ·exact lkp
     ·rintro _ h5 ⟨o',S',κ',rfl,ho,hw,r',a'⟩
      refine Ao L X.f89 ?_
      refine Gp _ _ (.inr ⟨hchk,o',S',κ',rfl,ho,badc _ _ ho hw,r',ai.trans ((AChg.k0 (κ':=ext κi hh.n) kps fun b hb=>Af hb).trans a')⟩)
    |some pa=>
     refine wk ?_
     refine cal (c:=X9 L X (ri.mp.k0 (by exact kps)) hAs) (g:=?_)
     rintro _ rfl
     refine wk ?_
     refine H3 L (c:=call _ (by exact kps)) (g:=?_) (gp:=?_)
     ·rintro _ h5 ⟨p,S',κ',rfl,hw,r',a'⟩
      have n1:=a'.k.n
      simp only [Am]at n1
      rcases el.len with⟨e0,rfl⟩|⟨hpos,b1,rfl,hb1,hblo1⟩
      ·subst e0
       refine wk ?_
       (apply st1 L rfl;exact F0 (new:=Az (s,((p:Nat):Int))) rfl rfl (SlR.of (c:=Az (s,((p:Nat):Int))) lkp (Nat.le_refl _) rfl) (by omega) (by omega);rfl)
       refine wk ?_
       refine ih (S',upd κ' (h5.n+1) 200,.slc (h5.n+1) 0 1 (Aa+2),[(s,((p:Nat):Int))]) _ _ (okc p S' κ' _ h5 _ _ (h5.n+1) ?_ hw r' a' (Kp.mono (S:=fun _=>False) (fun _ f=>f.elim) ?_) (EL.app (l:= []) ?_ (by omega) rfl) (by omega) rfl) tsb
       ·exact kps
       ·exact kps
       ·exact lkp
      ·have hlb1:=hb1.lt
       have h200:=hev b1 _ _ rfl
       have hb5:Bk h5 b1 (es.flatMap Az):=As a'.k (by rw [Af hlb1];omega) (by exact lkp)
       have hlb5:=hb5.lt
       refine wk ?_
       (apply st1 L rfl;exact Fz (old:=es.flatMap Az) (new:=Az (s,((p:Nat):Int))) rfl rfl (SlR.of (c:=es.flatMap Az) lkp (by rw [A8];omega) (by rw [List.drop_zero,List.take_of_length_le (by rw [A8];exact Nat.le_refl _)])) (SlR.of (c:=Az (s,((p:Nat):Int))) lkp (Nat.le_refl _) rfl) (by omega) (by omega) rfl;rfl)
       refine wk ?_
       refine ih (S',upd κ' (h5.n+1) 200,.slc (h5.n+1) 0 (es.length+1) (Aa+2),es++ [(s,((p:Nat):Int))]) _ _ (okc p S' κ' _ h5 _ _ (h5.n+1) ?_ hw r' a' (Kp.mono (S:=fun j=>j=b1) (fun j e=>⟨_,_,by subst e;rfl⟩) ?_) (EL.app (l:=es) ?_ (by omega) rfl) (by omega) rfl) tsb
       ·exact kps
       ·exact kps
       ·exact lkp
     ·rintro _ h5 ⟨o',S',κ',rfl,ho,hw,r',a'⟩
      refine Ao L X.f89 ?_
      refine Gp _ _ (.inr ⟨hchk,o',S',κ',rfl,ho,badc _ _ ho hw,r',ai.trans ((AChg.k0 (κ':=ext κi hh.n) kps fun b hb=>Af hb).trans a')⟩)
  ·rintro⟨Si,κi,ev,es⟩ hh ⟨ri,ai,iwi,fri,hnx,hbi,el,hev,hel,chi⟩
   simp only at ri ai iwi fri hnx hbi el hev hel chi
   have hnn:=ai.k.n
   have happ:AppP (gpl δ l) S es Si (.done 0):=by
    have:=chi [] Si (.done 0) (by rw [List.drop_of_length_le (by omega)];exact .nil)
    rwa [List.append_nil]at this
   have hAe:=hA hchk es Si happ
   have hok: ∀e∈es,e.Ok:=by
    intro e he
    obtain⟨j,hj⟩:=List.mem_iff_getElem?.1 he
    obtain⟨⟨f1,f2,f3,f4⟩,-⟩:=hAe j e hj
    have hm:S.D.nb*S.D.P≤12*6:=Nat.mul_le_mul r.dv.ok.g.nb.2 (by have:=r.dv.ok.g.P;omega)
    exact⟨f1,by omega,f3,by omega⟩
   have hrec:recN Si es≤es.length+1:=K2 (by rw [fri.sz];omega)
   have hcm:=Ri (lo:=h.n) (ev:=ev) (es:=es) L X T (ri.k0 (κ':=κi) (h':=hp hh.n hh.t []) (by exact kps) fun _ _=>rfl) iwi (el.k0 (by exact kps)) (by omega) (fun b n c e=> .inr (by have:=hev b n c e;omega)) hok (by omega) (by rw [fri.secs,fri.nb,fri.P,fri.A];exact hAe) (by have:=fri.last;omega) (by omega)
   rcases(show ev= .nils∨ ∃b n c,ev= .slc b 0 n c by rcases el.len with⟨_,e⟩|⟨_,b,e,_⟩;exact .inl e;exact .inr ⟨b,_,_,e⟩)with rfl|⟨eb,en,ec,rfl⟩
   all_goals
    refine wk ?_
    refine H3 L (c:=hcm) (g:=?_) (gp:=?_)
    ·rintro _ h5 ⟨S',κ',hc,r',a'⟩
     refine wk ?_
     refine ret X.f89 ?_
     exact⟨hchk,S',κ',.ok happ hc,r'.k0 kps fun _ _=>rfl,ai.trans ((AChg.k0 (κ':=κi) kps fun _ _=>rfl).trans (a'.trans (AChg.k0 kps fun _ _=>rfl)))⟩
    ·rintro _ h5 ⟨o,S',κ',rfl,ho,hc,r',a'⟩
     refine Ao L X.f89 ?_
     exact Gp _ _ (.inr ⟨hchk,o,S',κ',rfl,ho,.bad2 happ hc ho,r',ai.trans ((AChg.k0 (κ':=κi) kps fun _ _=>rfl).trans a')⟩)
 ·rintro _ h2 ⟨rfl,hchk,k2⟩
  refine Ao L X.f89 ?_
  refine Gp _ _ (.inl ⟨rfl,hchk,ext κ h.n,r.k0 k2 fun b hb=>Af hb,AChg.k0 k2 fun b hb=>Af hb⟩)
end
end
section
variable {P0:Program}{E:Env}{F:T CFn}{K:T (List AV×AV)}(L:Lg P0 E F K)(X:Fx F K)
include L X
structure AChX (Y:Nat→Prop)(κ: Nat→Nat)(h:H)(κ':Nat→Nat)(h':H):Prop where
 k:Kp (fun b=>(1≤κ b∧κ b<200)∨Y b) h h'
 col: ∀b,b<h.n→κ' b=κ b
omit L X in
theorem AChg.x {Y:Nat→Prop}{κ κ':Nat→Nat}{h h':H}(a:AChg κ h κ' h'):AChX Y κ h κ' h':=⟨a.k.mono fun b e=> .inl e,a.col⟩
omit L X in
theorem AChX.own {Y:Nat→Prop}{κ κ1 κ':Nat→Nat}{h h1 h':H}(a:AChg κ h κ1 h1)(x:AChX Y κ1 h1 κ' h')(hy: ∀b,Y b→h.n≤b):AChg κ h κ' h':=
 ⟨Kp.trS x.k (fun i hi e=>by
                rcases e with e|e;· rw [a.col i hi]at e;exact e
                ·have:=hy i e;omega) a.k,fun b hl=>(x.col b (Nat.lt_of_lt_of_le hl a.k.n)).trans (a.col b hl)⟩
section
variable {h:H}{κ: Nat→Nat}{I:Ai}{S:Ap}
theorem Ei {ab f:Nat}{cp:List AV}{Y:Nat→Prop}{post:Ap→AV→(Nat→Nat)→H→Prop}{pan:Ap→Int→(Nat→Nat)→H→Prop}(r:ApR κ h I S)(ka:Bk h ab [.ptr I.s 0])(hY: ∀b,Y b→b<h.n)
  (hc: ∀κ2 h2,K0 h h2→h.n<h2.n→(∀b,b<h.n→κ2 b=κ b)→ApR κ2 h2 I S→CtX P0 E F K f (.ptr I.s 0::cp) h2
   (fun v h'=> ∃κ' S',ApR κ' h' I S'∧AChX Y κ2 h2 κ' h'∧post S' v κ' h')
   (fun v h'=> ∃κ' S' e,v= .ifc 44 (AI e)∧ApR κ' h' I S'∧AChX Y κ2 h2 κ' h'∧pan S' e κ' h')):
  Ct P0 E F K 42 [.ptr ab 0,.fn (.func f) [] cp] h
   (fun v h'=> ∃κ' S' h1,ApR κ' h' I S'∧AChX Y κ h κ' h'∧Kp (fun j=>j=h.n) h1 h'∧((v=AI ((0:Nat):Int)∧ ∃u,post S' u κ' h1)∨(∃e,v=AI e∧pan S' e κ' h1))):=by
 have k2:K0 h (hp (h.n+1) h.t [(h.n,some (cl [AI ((0:Nat):Int)]))]):=kps
 have hcol: ∀b,b<h.n→upd κ h.n 200 b=κ b:=fun b hb=>upd_ne _ _ (by omega)
 have r2:ApR (upd κ h.n 200) (hp (h.n+1) h.t [(h.n,some (cl [AI ((0:Nat):Int)]))]) I S:=r.k0 k2 hcol
 have hB: ¬((1≤upd κ h.n 200 h.n∧upd κ h.n 200 h.n<200)∨Y h.n):=by
  rw [upd_eq]
  rintro(e|e)
  ·omega
  ·have:=hY _ e;omega
 have fin: ∀κ' S' h1 h',ApR κ' h1 I S'→AChX Y (upd κ h.n 200) (hp (h.n+1) h.t [(h.n,some (cl [AI ((0:Nat):Int)]))]) κ' h1→Kp (fun j=>j=h.n) h1 h'→ApR κ' h' I S'∧AChX Y κ h κ' h':=by
  intro κ' S' h1 h' r1 a1 k1
  have n1:=a1.k.n
  simp only [Am]at n1
  have hk:κ' h.n=200:=(a1.col _ (by simp only [Am];omega)).trans (upd_eq _ _ _)
  refine⟨r1.out k1 fun b _ e=>by subst e;omega,⟨Kp.trS k1 (fun i hi e=>by omega) (Kp.trS a1.k (fun i hi e=>by rw [hcol i hi]at e;exact e) (k2.mono fun _ f=>f.elim)),fun b hb=>?_⟩⟩
  rw [a1.col b (by simp only [Am];omega),hcol b hb]
 refine(ya L X (s:=I.s) (B:=fun b=>(1≤upd κ h.n 200 b∧upd κ h.n 200 b<200)∨Y b) ka (hc _ _ k2 (by simp only [Am];omega) hcol r2) hB ?_ ?_).mono ?_
 ·rintro v h' ⟨κ',S',-,a,-⟩;exact a.k
 ·rintro v h' ⟨κ',S',e,rfl,-,a,-⟩;exact⟨⟨e,rfl⟩,a.k⟩
 ·rintro v h' (⟨rfl,u,h1,⟨κ',S',r1,a1,p1⟩,k1⟩|⟨e,h1,rfl,⟨κ',S',e',he,r1,a1,p1⟩,k1⟩)
  ·obtain⟨q1,q2⟩:=fin κ' S' h1 h' r1 a1 k1
   exact⟨κ',S',h1,q1,q2,k1,.inl ⟨rfl,u,p1⟩⟩
  ·obtain⟨q1,q2⟩:=fin κ' S' h1 h' r1 a1 k1
   cases he
   exact⟨κ',S',h1,q1,q2,k1,.inr ⟨e,rfl,p1⟩⟩
inductive AppO (l:List Int)(g:List (Int×Option (List Nat)))(S:Ap):Nat→Ap→Prop where
 |bad (h:Dc S.S S.down l≠0):AppO l g S (Dc S.S S.down l) S
 |run {S':Ap} {o:WO} (h:Dc S.S S.down l=0) (ho:o= .done 0∨o= .full∨o= .pow) (a:ApdP g S S' o):AppO l g S (eOf o) S'
theorem bh {ab gb:Nat}{l:List GW}{δ: Nat→List Nat}(T:Tb P0 E F K)(r:ApR κ h I S)(ka:Bk h ab [.ptr I.s 0])(iw:IW S)(hS:S.S<1000)(kb:Bk h gb (l.flatMap (gwC S.D.sz)))(hcc:κ gb=0)(hl:l≠[])(hlen:l.length≤10)
  (hD: ∀(i:Nat) (s:Int) (b o c:Nat),l[i]?=some (s,some (b,o,c))→BS h b o (δ b)∧κ b=0∧(δ b).length=S.D.sz)
  (hf:S.last<S.next∧S.next<10000000) (hn:S.D.n+1000<100000)
  (hA:Dc S.S S.down (l.map (·.1))=0→ ∀es S',AppP (gpl δ l) S es S' (.done 0)→ ∀j x,es[j]?=some x→okE S.S (S.D.nb*S.D.P) (stA S.A es j) x):
  Ct P0 E F K 33 [.ptr ab 0,.slc gb 0 l.length (Aa+2)] h
   (fun v h'=> ∃e S' κ',v=AI ((e:Nat):Int)∧AppO (l.map (·.1)) (gpl δ l) S e S'∧ApR κ' h' I S'∧AChg κ h κ' h'):=by
 have lb:=kb.lt
 have lk:=ka.lt
 refine Ad L X.f33 X.k33 rfl rfl fun Q x cs G=>?_
 refine wk ?_
 have k1:K0 h (hp (h.n+1) h.t [(h.n,some (cl [.slc gb 0 l.length (Aa+2)]))]):=kps
 have r1:ApR (ext κ h.n) (hp (h.n+1) h.t [(h.n,some (cl [.slc gb 0 l.length (Aa+2)]))]) I S:=r.k0 k1 fun b hb=>Af hb
 have a1:AChg κ h (ext κ h.n) (hp (h.n+1) h.t [(h.n,some (cl [.slc gb 0 l.length (Aa+2)]))]):=AChg.k0 k1 fun b hb=>Af hb
 have kc1:Bk (hp (h.n+1) h.t [(h.n,some (cl [.slc gb 0 l.length (Aa+2)]))]) h.n [.slc gb 0 l.length (Aa+2)]:=lkp
 have kb1:=Ag k1 kb
 have cl1: ∀κ2 h2,K0 (hp (h.n+1) h.t [(h.n,some (cl [.slc gb 0 l.length (Aa+2)]))]) h2→(hp (h.n+1) h.t [(h.n,some (cl [.slc gb 0 l.length (Aa+2)]))]).n<h2.n→(∀b,b<(hp (h.n+1) h.t [(h.n,some (cl [.slc gb 0 l.length (Aa+2)]))]).n→κ2 b=ext κ h.n b)→ApR κ2 h2 I S→CtX P0 E F K 89 (.ptr I.s 0:: [.ptr h.n 0]) h2
   (fun v h'=> ∃κ' S',ApR κ' h' I S'∧AChX (fun _=>False) κ2 h2 κ' h'∧(Dc S.S S.down (l.map (·.1))=0∧ApdP (gpl δ l) S S' (.done 0)))
   (fun v h'=> ∃κ' S' e,v= .ifc 44 (AI e)∧ApR κ' h' I S'∧AChX (fun _=>False) κ2 h2 κ' h'∧ ∃e':Nat,e=((e':Nat):Int)∧AppO (l.map (·.1)) (gpl δ l) S e' S'):=by
  intro κ2 h2 k2 n2 c2 r2
  refine(Wo (δ:= δ) L X T r2 iw hS (Ag k2 kc1) (Ag k2 kb1) ⟨(c2 _ (by simp only [Am];omega)).trans (B4 (Nat.le_refl _)),(c2 _ (by simp only [Am];omega)).trans ((Af lb).trans hcc)⟩ hl hlen ?_ hf hn hA).mono ?_ ?_
  ·intro i s b o c hx
   obtain⟨q1,q2,q3⟩:=hD i s b o c hx
   have:=q1.lt_n
   exact⟨(q1.k0 k1).k0 k2,(c2 _ (by simp only [Am];omega)).trans ((Af q1.lt_n).trans q2),q3⟩
  ·rintro v h' ⟨q1,S',κ',q2,q3,q4⟩
   exact⟨κ',S',q3,q4.x,q1,q2⟩
  ·rintro v h' (⟨rfl,q1,κ',q2,q3⟩|⟨q1,o,S',κ',rfl,ho,q2,q3,q4⟩)
   ·exact⟨κ',S,_,rfl,q2,q3.x,_,rfl,.bad q1⟩
   ·exact⟨κ',S',_,rfl,q3,q4.x,_,rfl,.run q1 (.inr ho) q2⟩
 refine cal (c:=Ei L X r1 (Ag k1 ka) (fun b e=>e.elim) cl1) (g:=?_)
 rintro v h2 ⟨κ',S',h1,r',a',-,hv⟩
 have a2:=a'.own a1 fun b e=>e.elim
 rcases hv with⟨rfl,u,q1,q2⟩|⟨e,rfl,e',rfl,q⟩
 ·refine wk ?_
  refine ret X.f33 ?_
  exact⟨0,S',κ',rfl,.run q1 (.inl rfl) q2,r'.k0 kps fun _ _=>rfl,a2.trans (AChg.k0 kps fun _ _=>rfl)⟩
 ·refine wk ?_
  refine ret X.f33 ?_
  exact⟨e',S',κ',rfl,q,r'.k0 kps fun _ _=>rfl,a2.trans (AChg.k0 kps fun _ _=>rfl)⟩
theorem Wp {ab:Nat}(r:ApR κ h I S)(ka:Bk h ab [.ptr I.s 0]):
  Ct P0 E F K 33 [.ptr ab 0,.nils] h (fun v h'=> ∃κ',v=AI ((2:Nat):Int)∧ApR κ' h' I S∧AChg κ h κ' h'):=by
 have lk:=ka.lt
 refine Ad L X.f33 X.k33 rfl rfl fun Q x cs G=>?_
 refine wk ?_
 have k1:K0 h (hp (h.n+1) h.t [(h.n,some (cl [.nils]))]):=kps
 have r1:ApR (ext κ h.n) (hp (h.n+1) h.t [(h.n,some (cl [.nils]))]) I S:=r.k0 k1 fun b hb=>Af hb
 have a1:AChg κ h (ext κ h.n) (hp (h.n+1) h.t [(h.n,some (cl [.nils]))]):=AChg.k0 k1 fun b hb=>Af hb
 have kc1:Bk (hp (h.n+1) h.t [(h.n,some (cl [.nils]))]) h.n [.nils]:=lkp
 have cl1: ∀κ2 h2,K0 (hp (h.n+1) h.t [(h.n,some (cl [.nils]))]) h2→(hp (h.n+1) h.t [(h.n,some (cl [.nils]))]).n<h2.n→(∀b,b<(hp (h.n+1) h.t [(h.n,some (cl [.nils]))]).n→κ2 b=ext κ h.n b)→ApR κ2 h2 I S→CtX P0 E F K 89 (.ptr I.s 0:: [.ptr h.n 0]) h2
   (fun v h'=> ∃κ' S',ApR κ' h' I S'∧AChX (fun _=>False) κ2 h2 κ' h'∧False)
   (fun v h'=> ∃κ' S' e,v= .ifc 44 (AI e)∧ApR κ' h' I S'∧AChX (fun _=>False) κ2 h2 κ' h'∧e=((2:Nat):Int)∧S'=S):=by
  intro κ2 h2 k2 n2 c2 r2
  refine(Wn L X (Ag k2 kc1)).X.mono (fun v h' q=>q) ?_
  rintro v h' ⟨rfl,k3⟩
  exact⟨ext κ2 h2.n,S,_,rfl,r2.k0 k3 fun b hb=>Af hb,(AChg.k0 k3 fun b hb=>Af hb).x,rfl,rfl⟩
 refine cal (c:=Ei L X r1 (Ag k1 ka) (fun b e=>e.elim) cl1) (g:=?_)
 rintro v h2 ⟨κ',S',h1,r',a',-,hv⟩
 have a2:=a'.own a1 fun b e=>e.elim
 rcases hv with⟨rfl,u,q1⟩|⟨e,rfl,rfl,rfl⟩
 ·exact q1.elim
 ·refine wk ?_
  refine ret X.f33 ?_
  exact⟨κ',rfl,r'.k0 kps fun _ _=>rfl,a2.trans (AChg.k0 kps fun _ _=>rfl)⟩
end
end
section
variable {P0:Program}{E:Env}{F:T CFn}{K:T (List AV×AV)}(L:Lg P0 E F K)(X:Fx F K)
include L X
def Ap.rd (S:Ap)(s:Int):List Nat:=match S.A s with
 |none=>List.replicate S.D.sz 0
 |some p=>((S.D.bl (p.toNat / S.D.P)).pg (p.toNat % S.D.P)).b.take S.D.sz
section
variable {h:H}{κ: Nat→Nat}{I:Ai}{S:Ap}
end
end
section
variable {P0:Program}{E:Env}{F:T CFn}{K:T (List AV×AV)}(L:Lg P0 E F K)(X:Fx F K)
include L X
section
variable {h:H}{κ: Nat→Nat}{I:Ai}{S:Ap}
end
end
def CtY (P:Program)(E:Env)(F:T CFn)(K:T (List AV×AV))(f:AFn)(args:List AV)(h:H)(post pan:AV→H→Prop):Prop:=
 ∀(Q:Nat→AV→Prop) (x:AFr) (cs:List AFr),(∀v h',post v h'→GO P E Q (finish v cs h' x))→(∀v h',pan v h'→Good P E Q ⟨J1 x [(v,false)],cs,h'⟩)→GO P E Q (Br F K f args false x cs h)
section
variable {P:Program}{E:Env}{F:T CFn}{K:T (List AV×AV)}{Q:Nat→AV→Prop}
variable {fn nt:Nat}{l:List (Nat×Option AV)}{k:List AItem}{ds:List ADef}{dfd:Bool}{ro:Option Nat}{cs:List AFr}{h:H}{gd:Option (Nat×Bool)}{x:O}{r:List CI}
variable {n:Nat}{t:T Blk}{lh:List (Nat×Option Blk)}{post pan:AV→H→Prop}
variable (L:Lg P E F K)
theorem CtX.Y {f:Nat}{args:List AV}(c:CtX P E F K f args h post pan):CtY P E F K (.func f) args h post pan:=c
theorem CtY.mono {post' pan':AV→H→Prop}{f:AFn}{args:List AV}(c:CtY P E F K f args h post' pan')(m: ∀v h',post' v h'→post v h')(mp: ∀v h',pan' v h'→pan v h'):CtY P E F K f args h post pan:=
 fun Q x cs g gp=>c Q x cs (fun v h' p=>g v h' (m v h' p)) fun v h' p=>gp v h' (mp v h' p)
include L
theorem yc {d:Nat}{f:AFn}{a:List O}{fst va cp r0 args:List AV}(hg:gdO gd l=some true)(e:evO l x=some (.fn f fst cp))(ha:E1 l a=some va)(h0:D3 va cp=some r0)(hr:D3 fst r0=some args)(hc:CtY P E F K f args h post pan)
  (g: ∀v h',post v h'→Good P E Q ⟨⟨fn,nt,tms ((d,some v)::l),.ops r::k,ds,.run,dfd,ro⟩,cs,hp h'.n h'.t []⟩)
  (gp: ∀v h',pan v h'→Good P E Q ⟨⟨fn,nt,tms l,.ops (⟨some d,gd,.callv x a⟩::r)::k,ds,.panicking [(v,false)],dfd,ro⟩,cs,h'⟩):
  Good P E Q ⟨⟨fn,nt,tms l,.ops (⟨some d,gd,.callv x a⟩::r)::k,ds,.run,dfd,ro⟩,cs,h⟩:=
 Q1 L (Ax hg) (Nm e ha h0 hr) (hc Q _ cs (fun v h' p=>Jx L cvb (g v h' p)) fun v h' p=>gp v h' p)
theorem mq {f:AFn}{fst cp r0 args:List AV}{ps:List Nat}{a bd:CC}(e:evO l x=some (.fn f fst cp))(h0:D3 [.fn (.yield (n+1)) [] []] cp=some r0)(hr:D3 fst r0=some args)
  (hc:CtY P E F K f args (hp (n+2) t ((n+1,some (.loop ⟨.ready,none,fn,nt,tms l,ps,a,bd,n⟩))::(n,some (.dfr (some [])))::lh)) post pan)
  (g: ∀v h',post v h'→Good P E Q ⟨⟨fn,nt,tms l,.endRF (n+1)::k,.mark n::ds,.run,dfd,none⟩,cs,h'⟩)
  (gp: ∀v h',pan v h'→Good P E Q ⟨⟨fn,nt,tms l,.inRF (n+1)::k,.mark n::ds,.panicking [(v,false)],dfd,none⟩,cs,h'⟩):
  Good P E Q ⟨⟨fn,nt,tms l,.code (.rangeFunc x ps a bd)::k,ds,.run,dfd,none⟩,cs,hp n t lh⟩:=by
 refine A0 L ?_
 have e1:evL l x= .fn f fst cp:=Ab e
 have e2:List.append fst (.fn (.yield (Nat.succ n)) [] []::cp)=args:=by
  have q0:=Fb h0
  have q1:=Fb hr
  rw [←q0]at q1;exact q1
 simp only [Ev.step,Bg,Bv,enterLoop,Ae,e1,e2]
 exact hc Q _ cs (fun v h' p=>g v h' p) fun v h' p=>gp v h' p
theorem bj {lp:Nat}{ps:List Nat}{args:List AV}{a bd:CC}{l0 l1:List (Nat×Option AV)}{d:Nat}{st:LS}{pd:Option CC}(hl:H.get h lp=some (.loop ⟨st,pd,fn,nt,tms l0,ps,a,bd,d⟩))(hs:Cr ps args (tms l0)=some (tms l1))
  (body: ∀(Q:Nat→AV→Prop) (z:AFr) (cs:List AFr),(∀v h',post v h'→GO P E Q (finish v cs h' z))→(∀v h',pan v h'→Good P E Q ⟨J1 z [(v,false)],cs,h'⟩)→Good P E Q ⟨⟨fn,nt,tms l1,[.code a,.beginRound,.code bd],[],.run,false,some lp⟩,z::cs,hp h.n h.t []⟩):CtY P E F K (.yield lp) args h post pan:=by
 intro Q z cs hG hP
 simp only [Br,hl,hs]
 exact body Q z cs hG hP
end
section
variable {P0:Program}{E:Env}{F:T CFn}{K:T (List AV×AV)}(L:Lg P0 E F K)(X:Fx F K)
include L X
section
variable {h:H}
theorem Wq {lp a b lo:Nat}{va vb':AV}{D:List Int}{g:Int→Int}{pan:AV→H→Prop}(hlen:D.length≤1000)(I:Nat→H→Prop)
  (hI: ∀i hh,I i hh→Bk hh a [va]∧Bk hh b [vb']∧RowN hh lo va D∧RowN hh lo vb' (D.map g)) (hK: ∀i hh h',I i hh→K0 hh h'→I i h')
  (hY: ∀i s hh,D[i]?=some s→I i hh→CtY P0 E F K (.yield lp) [AI s,AI (g s)] hh (fun u h'=>u= .bool true∧I (i+1) h') pan) (h0:I 0 h):
  CtX P0 E F K 144 [.fn (.yield lp) [] [],.ptr a 0,.ptr b 0] h (fun v h'=>I D.length h') pan:=by
 obtain⟨k1,k2,k3,k4⟩:=hI _ _ h0
 rcases k3.ex with⟨rfl,rfl⟩|⟨hp1,da,rfl,k5,k6⟩
 ·refine Ca L X.f144 X.k144 rfl rfl rfl fun Q x cs G Gp=>?_
  refine wk ?_
  refine A2 L ?_
  refine wk ?_
  refine ret X.f144 ?_
  exact hK _ _ _ h0 kps
 rcases k4.ex with⟨e0,rfl⟩|⟨hp2,db,rfl,k7,k8⟩
 ·rw [List.map_eq_nil_iff]at e0;rw [e0]at hp1;exact absurd hp1 (Nat.lt_irrefl 0)
 refine Ca L X.f144 X.k144 rfl rfl rfl fun Q x cs G Gp=>?_
 refine wk ?_
 refine Co L (α:= Unit) (T:=fun i _=> [(8,some (AI ((i:Nat):Int))),(7,some (AI ((D.length:Nat):Int))),(6,some (.slc da 0 D.length (Aa+1))),(2,some (.ptr b 0)),(0,some (.fn (.yield lp) [] []))]) (n:=D.length)
  (R:=fun i _ hh=>I i hh) (i0:=0) () tsb (hK _ _ _ h0 kps) (Nat.zero_le _) ?_ ?_
 ·rintro i _ h2 hi w ih
  have hx:D[i]?=some D[i]:=List.getElem?_eq_getElem hi
  have hxa:(D.map AI)[i]?=some (AI D[i]):=by rw [List.getElem?_map,hx];rfl
  have hxb:((D.map g).map AI)[i]?=some (AI (g D[i])):=by rw [List.getElem?_map,List.getElem?_map,hx];rfl
  have hl2:i<(D.map g).length:=by rw [List.length_map];exact hi
  obtain⟨j1,j2,j3,j4⟩:=hI _ _ w
  have j5:Bk h2 da (D.map AI):=by
   rcases j3.ex with⟨_,e⟩|⟨_,b',e,e2,_⟩
   ·cases e
   ·cases e;exact e2
  have j6:Bk h2 db ((D.map g).map AI):=by
   rcases j4.ex with⟨_,e⟩|⟨_,b',e,e2,_⟩
   ·cases e
   ·cases e;exact e2
  generalize D[i]=s at*
  refine wk ?_
  refine yc L rfl rfl rfl rfl rfl (hY i _ _ hx (hK i _ _ w (by exact kps))) ?_ ?_
  ·rintro _ h3 ⟨rfl,w3⟩
   refine wk ?_
   refine ih () _ _ w3 ?_;exact tsb
  ·intro v h3 w3
   refine Ao L X.f144 ?_
   exact Gp _ _ w3
 ·rintro _ h2 w
  refine wk ?_
  refine ret X.f144 ?_
  exact w
end
end
section
variable {P0:Program}{E:Env}{F:T CFn}{K:T (List AV×AV)}(L:Lg P0 E F K)(X:Fx F K)
include L X
inductive MvS (g:Int→Int):Ap→List Int→List Ent→Ap→Prop where
 |nil {S:Ap}:MvS g S [] [] S
 |snoc {S S1 S2:Ap} {ps:List Int} {es:List Ent} {p:Int} {q:Nat} (r:MvS g S ps es S1) (h:StP (g p) (((S1.D.bl (p.toNat / S1.D.P)).pg (p.toNat % S1.D.P)).b.take S1.D.sz) S1 S2 (.done q)):MvS g S (ps++ [p]) (es++ [(g p,((q:Nat):Int))]) S2
noncomputable def Ap.mv (S:Ap)(b:Nat):List Int:=Do S.A S.D.P b S.D.P
inductive MovO (b:Nat)(S:Ap):Ap→WO→Prop where
 |bad {S1 S':Ap} {i:Nat} {p:Int} {es:List Ent} {o:WO} (m:MvS (B9 S.A) S ((S.mv b).take i) es S1) (hp:(S.mv b)[i]?=some p) (h:StP (B9 S.A p) (((S1.D.bl (p.toNat / S1.D.P)).pg (p.toNat % S1.D.P)).b.take S1.D.sz) S1 S' o) (ho:o= .full∨o= .pow):MovO b S S' o
 |badc {S1 S':Ap} {es:List Ent} {o:WO} (m:MvS (B9 S.A) S (S.mv b) es S1) (c:CmP es S1 S' o) (ho:o= .full∨o= .pow):MovO b S S' o
 |ok {S1 S2:Ap} {es:List Ent} (m:MvS (B9 S.A) S (S.mv b) es S1) (c:CmP es S1 S2 (.done 0)):MovO b S (S2.ers b).1 (S2.ers b).2
omit L X in
theorem CmP.fr {es:List Ent}{S S':Ap}{o:WO}(h:CmP es S S' o)(iw:IW S):(S'.D.nb=S.D.nb∧S'.D.P=S.D.P∧S'.D.sz=S.D.sz∧S'.D.en=S.D.en∧S'.S=S.S∧S'.pe=S.pe∧S'.wr=S.wr∧S'.dat=S.dat∧S'.D.flt=S.D.flt)∧IW S'∧S'.D.n≤S.D.n+(2*S.D.nb+2)*recN S es∧S.next≤S'.next∧S'.next≤S.next+recN S es:=by
 cases h with
 |nil h=>exact⟨⟨rfl,rfl,rfl,rfl,rfl,rfl,rfl,rfl,rfl⟩,iw,Nat.le_add_right _ _,Nat.le_refl _,Nat.le_add_right _ _⟩
 |ok h _=>
  obtain⟨a,b,c,d⟩:=h.fr iw
  exact⟨⟨a.nb,a.P,a.sz,a.en,a.secs,a.pe,a.wr,a.dat,a.flt⟩,⟨fun k=>⟨(b.wi k).sel,(b.wi k).lo⟩,b.ne⟩,c,by simp only;omega,by simp only;omega⟩
 |bad h _=>
  obtain⟨a,b,c,d⟩:=h.fr iw
  exact⟨⟨a.nb,a.P,a.sz,a.en,a.secs,a.pe,a.wr,a.dat,a.flt⟩,b,c,by omega,by omega⟩
def Dd (κ: Nat→Nat)(n:Nat):Nat→Nat:=fun b=>if b<n then κ b else 200
omit L X in
theorem C7 {κ: Nat→Nat}{n b:Nat}(h:b<n):Dd κ n b=κ b:=if_pos h
omit L X in
theorem Be {κ: Nat→Nat}{n b:Nat}(h:n≤b):Dd κ n b=200:=if_neg (by omega)
noncomputable def K3 (s cb bx a b mk:Nat)(st:LS):Blk:= .loop ⟨st,none,47,cf47.ntmps,tms [(46,some (.fn (.func 144) [] [.ptr a 0,.ptr b 0])),(3,some (.ptr (bx+1) 0)),(2,some (.ptr bx 0)),(1,some (.ptr cb 0)),(0,some (.ptr s 0))],[47,48],c47_8,c47_10,mk⟩
structure RMv (κ: Nat→Nat)(h:H)(I:Ai)(S:Ap)(blk cb a b mk:Nat)(va vb':AV)(i:Nat)(hh:H):Prop where
 ka:Bk hh a [va]
 kb:Bk hh b [vb']
 ra:RowN hh (h.n+2) va (S.mv blk)
 rb:RowN hh (h.n+2) vb' ((S.mv blk).map (B9 S.A))
 dk:Gk hh mk (.dfr (some []))
 lp:Gk hh (mk+1) (K3 I.s cb h.n a b mk .ready)
 kx:Bk hh h.n [.ptr I.s 0]
 kc:Bk hh cb [AI ((blk:Nat):Int)]
 ex: ∃κi Si es ev,Bk hh (h.n+1) [ev]∧ApR κi hh I Si∧AChg κ h κi hh∧(∀x,h.n≤x→x<mk+2→κi x=200)∧IW Si∧MvS (B9 S.A) S ((S.mv blk).take i) es Si∧FrS S Si∧(Si.next≤S.next+i∧S.next≤Si.next)∧Si.D.n≤S.D.n+30*i∧EL hh (mk+2) ev es∧(∀x n c,ev= .slc x 0 n c→κi x=200)∧es.length=i
omit L X in
theorem RMv.k0 {κ: Nat→Nat}{h hh h':H}{I:Ai}{S:Ap}{blk cb a b mk:Nat}{va vb':AV}{i:Nat}(q:RMv κ h I S blk cb a b mk va vb' i hh)(k:K0 hh h'):RMv κ h I S blk cb a b mk va vb' i h':=by
 obtain⟨q1,q2,q3,q4,q5,q6,q7,q8,κi,Si,es,ev,e1,e2,e3,e4,e5,e6,e7,e8,e9,e10,e11,e12⟩:=q
 have l6:=q6.lt
 exact⟨Ag k q1,Ag k q2,q3.k0 k,q4.k0 k,E5 k q5,E5 k q6,Ag k q7,Ag k q8,ext κi hh.n,Si,es,ev,Ag k e1,e2.k0 k fun b hb=>Af hb,e3.trans (AChg.k0 k fun b hb=>Af hb),fun x h1 h2=>(Af (by omega)).trans (e4 x h1 h2),e5,e6,e7,e8,e9,e10.k0 k,fun x n c e=>by
  have h1:=e11 x n c e
  subst e
  exact(Af e10.blt.1).trans h1,e12⟩
structure MvOk (S:Ap)(blk:Nat)(i:Nat)(p:Int)(S1:Ap):Prop where
 pg: ∃pn:Nat,p=((pn:Nat):Int)∧pn<100000∧pn / S1.D.P<S1.D.nb∧pn % S1.D.P<(S1.D.bl (pn / S1.D.P)).nx∧(((S1.D.bl (pn / S1.D.P)).pg (pn % S1.D.P)).st=2∨((S1.D.bl (pn / S1.D.P)).pg (pn % S1.D.P)).st=3)∧(((S1.D.bl (pn / S1.D.P)).pg (pn % S1.D.P)).b.take S1.D.sz).length=S1.D.sz
 sec:0≤B9 S.A p∧B9 S.A p≤4294967294
 off:S1.D.off=false
section
variable {h:H}{κ: Nat→Nat}{I:Ai}{S:Ap}
theorem my {cb b:Nat}(T:Tb P0 E F K)(r:ApR κ h I S)(iw:IW S)(kc:Bk h cb [AI ((b:Nat):Int)])(hcc:κ cb=0∨200≤κ cb)(hb:b<S.D.nb)(hdn:S.down=false)(hps:S.ps b=3)(hjr:S.jr ((b:Nat):Int)=false)
  (hf:S.last<S.next∧S.next<10000000) (hn:S.D.n+1000<100000) (hlen:(S.mv b).length≤6)
  (hL: ∀i es S1 p,MvS (B9 S.A) S ((S.mv b).take i) es S1→(S.mv b)[i]?=some p→MvOk S b i p S1)
  (hA: ∀es S1,MvS (B9 S.A) S (S.mv b) es S1→ ∀j x,es[j]?=some x→okE S.S (S.D.nb*S.D.P) (stA S.A es j) x) (hpe:S.pe b<100000) (hS:S.S<1000)
  (hE: ∀es S1 S2,MvS (B9 S.A) S (S.mv b) es S1→CmP es S1 S2 (.done 0)→S2.ps b=3):
  CtX P0 E F K 47 [.ptr I.s 0,.ptr cb 0] h
   (fun v h'=> ∃S' κ',MovO b S S' (.done 0)∧ApR κ' h' I S'∧AChg κ h κ' h')
   (fun v h'=> ∃(o:WO) (S':Ap) (κ':Nat→Nat),v= .ifc 44 (AI ((eOf o:Nat):Int))∧(o= .full∨o= .pow)∧MovO b S S' o∧ApR κ' h' I S'∧AChg κ h κ' h'):=by
 have sk:=r.sk
 have ls:=sk.lt
 have lc:=kc.lt
 have hcol:=r.col
 obtain⟨cbl,po⟩:=r.po
 obtain⟨M,ck,m1,m2,m3⟩:=r.mj.ex
 have lm:=m1.lt
 have hg:=m3 ((b:Nat):Int)
 rw [hjr,if_neg (by simp)]at hg
 unfold apC at sk
 rw [hdn]at sk
 refine Ca L X.f47 X.k47 rfl rfl rfl fun Q x cs G Gp=>?_
 refine wk ?_
 refine cal (c:=Av L X) (g:=?_)
 rintro _ rfl
 refine wk ?_
 refine cal (c:=Av L X) (g:=?_)
 rintro _ rfl
 refine wk ?_
 refine cal (c:=L0 L X (po.k0 (by exact kps)) hb) (g:=?_)
 rintro _ rfl
 rw [hps]
 refine wk ?_
 (apply Cp rfl rfl;exact Dz (KE.int .i64) rfl rfl lkq)
 rw [hg,Option.getD_none]
 refine wk ?_
 refine cal (c:=Av L X) (g:=?_)
 rintro _ rfl
 refine wk ?_
 refine cal (c:=an L X (r.mp.k0 (by exact kps)) hb) (g:=?_)
 rintro _ h2 ⟨a,b',va,vb',rfl,w1,w2,w3,w4,w5,w6,w7⟩
 refine wk ?_
 have n5:=w5.n
 simp only [Am]at n5 w3 w4 w6 w7
 have la:=w1.lt
 have lb':=w2.lt
 refine E0 L (tm':=tms [(46,some (.fn (.func 144) [] [.ptr a 0,.ptr b' 0])),(3,some (.ptr (h.n+1) 0)),(2,some (.ptr h.n 0)),(1,some (.ptr cb 0)),(0,some (.ptr I.s 0))]) tsb ?_
 refine mq L (post:=fun _ h'=>RMv κ h I S b cb a b' h2.n va vb' (S.mv b).length h') (pan:=fun v h'=> ∃(o:WO) (S':Ap) (κ':Nat→Nat),v= .ifc 44 (AI ((eOf o:Nat):Int))∧(o= .full∨o= .pow)∧MovO b S S' o∧ApR κ' h' I S'∧AChg κ h κ' h'∧Gk h' h2.n (.dfr (some []))∧κ' h2.n=200) rfl rfl rfl ?_ ?_ ?_
 ·refine(Wq L X (g:=B9 S.A) (lo:=h.n+2) (by omega) (fun i hh=>RMv κ h I S b cb a b' h2.n va vb' i hh) (fun i hh r=>⟨r.ka,r.kb,r.ra,r.rb⟩) (fun i hh h' r k=>r.k0 k) (fun i s hh hx r=>?_) ?_).Y
  ·obtain⟨r1,r2,r3,r4,r5,r6,r7,r8,κi,Si,es,ev,r9,ri,ai,hci,iwi,mvi,fri,hnx,hni,el,hev,hel⟩:=r
   have hle:=r6.e
   unfold K3 at hle
   have g1:=r1.lt
   have g2:=r2.lt
   have g5:=r5.lt
   have g6:=r6.lt
   have g7:=r7.lt
   have g8:=r8.lt
   have g9:=r9.lt
   have hi:=(List.getElem?_eq_some_iff.1 hx).1
   obtain⟨⟨pn,rfl,p1,p2,p3,p4,p5⟩,hsec,hoff⟩:=hL i es Si s mvi hx
   have hmu:=L4 Si false
   have hnbi:=ri.dv.ok.g.nb
   have hdata:(((pn:Nat):Int)).toNat=pn:=Int.toNat_natCast pn
   have e1:(S.mv b).take (i+1)=(S.mv b).take i++ [((pn:Nat):Int)]:=by rw [List.take_add_one,hx];rfl
   have hcbx:κi cb=κ cb:=ai.col cb lc
   refine bj L (l1:= [(48,some (AI (B9 S.A ((pn:Nat):Int)))),(47,some (AI ((pn:Nat):Int))),(46,some (.fn (.func 144) [] [.ptr a 0,.ptr b' 0])),(3,some (.ptr (h.n+1) 0)),(2,some (.ptr h.n 0)),(1,some (.ptr cb 0)),(0,some (.ptr I.s 0))]) hle rfl ?_
   intro Q z2 cs G2 Gp2
   refine wk ?_
   refine Eu L (Gk.e lkg) ?_
   have kb5:Kp (fun j=>j=h2.n+1) hh (hp hh.n hh.t [(h2.n+1,some (K3 I.s cb h.n a b' h2.n .busy))]):=kps
   have hc6: ∀x,x<hh.n→ext κi hh.n x=κi x:=fun x hx=>Af hx
   have rA: ∀h6,Kp (fun j=>j=h2.n+1) hh h6→ApR (ext κi hh.n) h6 I Si:=fun h6 k6=>ri.own k6 (fun j hj e=>by subst e;rw [hci _ (by omega) (by omega)];omega) hc6
   have ldc: ∀h5,Kp (fun j=>j=h2.n+1) hh h5→CtX P0 E F K 52 [.ptr I.s 0,AI ((pn:Nat):Int)] h5
     (fun v h'=> ∃b1,v= .slc b1 0 Si.D.sz (Aa+1)∧BS h' b1 0 (((Si.D.bl (pn / Si.D.P)).pg (pn % Si.D.P)).b.take Si.D.sz)∧hh.n≤b1∧K0 h5 h') (fun v h'=>False):=fun h5 k5=>
    (sf L X (rA h5 k5) p1 p2 p3 (fun _=>p4)).mono (fun v h' q=>let⟨_,b1,q2,q3,q4,q5⟩:=q;⟨b1,q2,q3,Nat.le_trans k5.n q4,q5⟩) fun v h' q=>by rw [hoff]at q;exact absurd q.2.1 (by simp)
   have stc: ∀h6 b1,Kp (fun j=>j=h2.n+1) hh h6→hh.n≤b1→BS h6 b1 0 (((Si.D.bl (pn / Si.D.P)).pg (pn % Si.D.P)).b.take Si.D.sz)→CtX P0 E F K 51 [.ptr I.s 0,AI (B9 S.A ((pn:Nat):Int)),.slc b1 0 Si.D.sz (Aa+1)] h6
     (fun v h'=> ∃p S' κ',v= .agg [AI (B9 S.A ((pn:Nat):Int)),AI ((p:Nat):Int)]∧StP (B9 S.A ((pn:Nat):Int)) (((Si.D.bl (pn / Si.D.P)).pg (pn % Si.D.P)).b.take Si.D.sz) Si S' (.done p)∧ApR κ' h' I S'∧AChg (ext κi hh.n) h6 κ' h')
     (fun v h'=> ∃(o:WO) (S':Ap) (κ':Nat→Nat),v= .ifc 44 (AI ((eOf o:Nat):Int))∧(o= .full∨o= .pow)∧StP (B9 S.A ((pn:Nat):Int)) (((Si.D.bl (pn / Si.D.P)).pg (pn % Si.D.P)).b.take Si.D.sz) Si S' o∧ApR κ' h' I S'∧AChg (ext κi hh.n) h6 κ' h'):=fun h6 b1 k6 hb1 hbs=>
    Us L X T (rA h6 k6) (iwi.wi false) hsec ⟨by omega,by omega⟩ hbs (B4 hb1) p5 (by omega)
   have n6: ∀x,h.n≤x→x<h2.n+2→ ¬(1≤ext κi hh.n x∧ext κi hh.n x<200):=fun x q1 q2=>by rw [hc6 _ (by omega),hci x q1 q2];omega
   have nc6: ¬(1≤ext κi hh.n cb∧ext κi hh.n cb<200):=by rw [hc6 _ (by omega),hcbx];omega
   have hle5:Gk (hp hh.n hh.t [(h2.n+1,some (K3 I.s cb h.n a b' h2.n .busy))]) (h2.n+1) (K3 I.s cb h.n a b' h2.n .busy):=Dx (by omega)
   have okc: ∀(p:Nat) (S':Ap) (κ':Nat→Nat) (h6 h7 h9:H) (w:AV) (N:Nat),Kp (fun j=>j=h2.n+1) hh h6→StP (B9 S.A ((pn:Nat):Int)) (((Si.D.bl (pn / Si.D.P)).pg (pn % Si.D.P)).b.take Si.D.sz) Si S' (.done p)→ApR κ' h7 I S'→AChg (ext κi hh.n) h6 κ' h7→Kp (fun j=>j=h2.n+1∨j=h.n+1∨ ∃n c,ev= .slc j 0 n c) h7 h9→EL h9 (h2.n+2) w (es++ [(B9 S.A ((pn:Nat):Int),((p:Nat):Int))])→h7.n≤N→w= .slc N 0 (es.length+1) (Aa+2)→
     Gk h9 (h2.n+1) (K3 I.s cb h.n a b' h2.n .ready)→Bk h9 (h.n+1) [w]→RMv κ h I S b cb a b' h2.n va vb' (i+1) h9:=by
    intro p S' κ' h6 h7 h9 w N k6 hst r' a' k9 hel9 hN hw hlp hec
    obtain⟨f1,f2,f3,f4⟩:=hst.fr iwi
    have nn1:=a'.k.n
    have nn0:=k6.n
    have hnn:=ai.k.n
    have hev2: ∀j n c,ev= .slc j 0 n c→j<hh.n∧h2.n+2≤j∧κi j=200:=by
     intro j n c e
     have h200:=hev j n c e
     subst e
     exact⟨el.blt.1,el.blt.2,h200⟩
    have kk: ∀x,x<hh.n→ ¬(1≤ext κi hh.n x∧ext κi hh.n x<200)→x≠h2.n+1→x≠h.n+1→x<h2.n+2→(¬(fun j=>j=h2.n+1) x)∧(¬(1≤ext κi hh.n x∧ext κi hh.n x<200))∧ ¬(x=h2.n+1∨x=h.n+1∨ ∃n c,ev= .slc x 0 n c):=by
     intro x q1 q2 q3 q4 q5
     refine⟨q3,q2,?_⟩
     rintro(e|e|⟨n,c,e⟩)
     ·exact q3 e
     ·exact q4 e
     ·have:=hev2 x n c e;omega
    have mvB: ∀x c,Bk hh x c→h.n≤x→x≠h2.n+1→x≠h.n+1→x<h2.n+2→Bk h9 x c:=fun x c q q1 q2 q3 q4=>
     have t:=kk x q.lt (n6 x q1 q4) q2 q3 q4
     As k9 t.2.2 (As a'.k t.2.1 (As k6 t.1 q))
    have mvR: ∀v D,RowN hh (h.n+2) v D→(∀x n c,v= .slc x 0 n c→x<h2.n)→RowN h9 (h.n+2) v D:=by
     intro v D q hb
     rcases q.ex with q1|⟨q1,x,q2,q3,q4⟩
     ·exact⟨.inl q1⟩
     ·have:=hb _ _ _ q2
      exact⟨.inr ⟨q1,x,q2,mvB x _ q3 (by omega) (by omega) (by omega) (by omega),q4⟩⟩
    have tk:=kk h2.n (by omega) (n6 _ (by omega) (by omega)) (by omega) (by omega) (by omega)
    have tc:=kk cb (by omega) nc6 (by omega) (by omega) (by omega)
    refine⟨mvB a _ r1 (by omega) (by omega) (by omega) (by omega),mvB b' _ r2 (by omega) (by omega) (by omega) (by omega),mvR _ _ r3 w3.bd,mvR _ _ r4 w4.bd,Il k9 tk.2.2 (Il a'.k tk.2.1 (Il k6 tk.1 r5)),hlp,mvB h.n _ r7 (by omega) (by omega) (by omega) (by omega),As k9 tc.2.2 (As a'.k tc.2.1 (As k6 tc.1 r8)),upd κ' N 200,S',_,w,hec,r'.own k9 (fun j hj e=>?_) (fun j hj=>upd_ne _ _ (by omega)),?_,fun x q1 q2=>?_,f2,?_,fri.trans f1,⟨by omega,by omega⟩,by have:=fri.nb;omega,hel9,fun x n c e=>?_,by simp [hel]⟩
    ·have hj':j<hh.n∧ext κi hh.n j=200:=by
      rcases e with rfl|rfl|⟨n,c,e⟩
      ·exact⟨by omega,by rw [hc6 _ (by omega),hci _ (by omega) (by omega)]⟩
      ·exact⟨by omega,by rw [hc6 _ (by omega),hci _ (by omega) (by omega)]⟩
      ·have:=hev2 j n c e
       exact⟨this.1,by rw [hc6 _ this.1];exact this.2.2⟩
     rw [a'.col j (by omega),hj'.2];omega
    ·refine AChg.own (AChg.trans (AChg.own ai k6 (fun j e=>by subst e;omega) hc6) a') k9 (fun j e=>?_) fun j hj=>upd_ne _ _ (by omega)
     rcases e with rfl|rfl|⟨n,c,e⟩
     ·omega
     ·omega
     ·have:=hev2 j n c e;omega
    ·rw [upd_ne _ _ (by omega),a'.col x (by omega),hc6 _ (by omega)];exact hci x q1 q2
    ·rw [e1];exact .snoc mvi (by rw [hdata];exact hst)
    ·rw [hw]at e;cases e;exact upd_eq _ _ _
   have badc: ∀(o':WO) (S':Ap) (κ':Nat→Nat) (h6 h7:H),Kp (fun j=>j=h2.n+1) hh h6→(o'= .full∨o'= .pow)→StP (B9 S.A ((pn:Nat):Int)) (((Si.D.bl (pn / Si.D.P)).pg (pn % Si.D.P)).b.take Si.D.sz) Si S' o'→ApR κ' h7 I S'→AChg (ext κi hh.n) h6 κ' h7→
     MovO b S S' o'∧ApR κ' h7 I S'∧AChg κ h κ' h7∧Gk h7 h2.n (.dfr (some []))∧κ' h2.n=200:=by
    intro o' S' κ' h6 h7 k6 ho hst r' a'
    have nn0:=k6.n
    have hnn:=ai.k.n
    refine⟨.bad mvi hx (by rw [hdata];exact hst) ho,r',(AChg.own ai k6 (fun j e=>by subst e;omega) hc6).trans a',Il a'.k (n6 _ (by omega) (by omega)) (Il k6 (by omega) r5),?_⟩
    rw [a'.col _ (by omega),hc6 _ (by omega)];exact hci _ (by omega) (by omega)
   rcases el.len with⟨e0,rfl⟩|⟨hpos,eb,rfl,hb1,hblo1⟩
   ·subst e0
    refine wk ?_
    refine H3 L (c:=ldc _ (by exact kps)) (g:=?_) (gp:=?_)
    ·rintro _ h6 ⟨b1,rfl,q3,q4,q5⟩
     have k6:Kp (fun j=>j=h2.n+1) hh h6:=kps
     have n6':=q5.n
     simp only [Am]at n6'
     have lb1:=q3.lt_n
     refine wk ?_
     refine H3 L (c:=stc _ b1 (by exact kps) q4 (by exact lkb)) (g:=?_) (gp:=?_)
     ·rintro _ h7 ⟨p,S',κ',rfl,hst,r',a'⟩
      have n7:=a'.k.n
      simp only [Am]at n7
      have ke7:Bk h7 (h.n+1) [.nils]:=As a'.k (n6 _ (by omega) (by omega)) (by exact lkp)
      have lp7:Gk h7 (h2.n+1) (K3 I.s cb h.n a b' h2.n .busy):=Il a'.k (n6 _ (by omega) (by omega)) (by exact lkg)
      unfold K3 at lp7
      have le7:=ke7.lt
      have ll7:=lp7.lt
      refine wk ?_
      (apply Ij L rfl rfl;exact F0 (new:=Az (B9 S.A ((pn:Nat):Int),((p:Nat):Int))) rfl rfl (SlR.of (c:=Az (B9 S.A ((pn:Nat):Int),((p:Nat):Int))) lkp (Nat.le_refl _) rfl) (by omega) (by omega))
      refine wk ?_
      refine Da L (Gk.e lkg) G2 ⟨rfl,okc p S' κ' _ h7 _ _ (h7.n+1) ?_ hst r' a' (Kp.mono (S:=fun j=>j=h2.n+1∨j=h.n+1) (fun j e=>by rcases e with e|e;exact .inl e;exact .inr (.inl e)) ?_) (EL.app (l:= []) ?_ (by omega) rfl) (by omega) rfl ?_ ?_⟩
      ·exact kps
      ·exact kps
      ·exact lkp
      ·unfold K3;exact Dx (by omega)
      ·exact lkp
     ·rintro _ h7 ⟨o',S',κ',rfl,ho,hst,r',a'⟩
      refine Ao L X.f47 ?_
      exact Gp2 _ _ ⟨o',S',κ',rfl,ho,badc o' S' κ' _ h7 (by exact kps) ho hst r' a'⟩
    ·intro v h6 q;exact q.elim
   ·have lbe:=hb1.lt
    have h200:=hev eb _ _ rfl
    refine wk ?_
    refine H3 L (c:=ldc _ (by exact kps)) (g:=?_) (gp:=?_)
    ·rintro _ h6 ⟨b1,rfl,q3,q4,q5⟩
     have k6:Kp (fun j=>j=h2.n+1) hh h6:=kps
     have n6':=q5.n
     simp only [Am]at n6'
     have lb1:=q3.lt_n
     refine wk ?_
     refine H3 L (c:=stc _ b1 (by exact kps) q4 (by exact lkb)) (g:=?_) (gp:=?_)
     ·rintro _ h7 ⟨p,S',κ',rfl,hst,r',a'⟩
      have n7:=a'.k.n
      simp only [Am]at n7
      have ke7:Bk h7 (h.n+1) [.slc eb 0 es.length (Aa+2)]:=As a'.k (n6 _ (by omega) (by omega)) (by exact lkp)
      have lp7:Gk h7 (h2.n+1) (K3 I.s cb h.n a b' h2.n .busy):=Il a'.k (n6 _ (by omega) (by omega)) (by exact lkg)
      unfold K3 at lp7
      have le7:=ke7.lt
      have ll7:=lp7.lt
      have hb7:Bk h7 eb (es.flatMap Az):=As a'.k (by rw [hc6 _ (by omega)];omega) (by exact lkp)
      have lb7:=hb7.lt
      refine wk ?_
      (apply Ij L rfl rfl;exact Fz (old:=es.flatMap Az) (new:=Az (B9 S.A ((pn:Nat):Int),((p:Nat):Int))) rfl rfl (SlR.of (c:=es.flatMap Az) lkp (by rw [A8];omega) (by rw [List.drop_zero,List.take_of_length_le (by rw [A8];exact Nat.le_refl _)])) (SlR.of (c:=Az (B9 S.A ((pn:Nat):Int),((p:Nat):Int))) lkp (Nat.le_refl _) rfl) (by omega) (by omega) rfl)
      refine wk ?_
      refine Da L (Gk.e lkg) G2 ⟨rfl,okc p S' κ' _ h7 _ _ (h7.n+1) ?_ hst r' a' (Kp.mono (S:=fun j=>j=h2.n+1∨j=h.n+1∨j=eb) (fun j e=>by rcases e with e|e|e;exact .inl e;exact .inr (.inl e);exact .inr (.inr ⟨_,_,by rw [e]⟩)) ?_) (EL.app (l:=es) ?_ (by omega) rfl) (by omega) rfl ?_ ?_⟩
      ·exact kps
      ·exact kps
      ·exact lkp
      ·unfold K3;exact Dx (by omega)
      ·exact lkp
     ·rintro _ h7 ⟨o',S',κ',rfl,ho,hst,r',a'⟩
      refine Ao L X.f47 ?_
      exact Gp2 _ _ ⟨o',S',κ',rfl,ho,badc o' S' κ' _ h7 (by exact kps) ho hst r' a'⟩
    ·intro v h6 q;exact q.elim
  ·refine⟨lkp,lkp,w3.k0 ?_,w4.k0 ?_,lkg,(by unfold K3;exact lkg),by exact lkp,by exact lkp,Dd κ h.n,S,[],.nils,by exact lkp,r.k0 ?_ fun x hx=>C7 hx,AChg.k0 ?_ fun x hx=>C7 hx,fun x q1 q2=>Be q1,iw,.nil,FrS.refl _,⟨by omega,Nat.le_refl _⟩,by omega,EL.nil _ _,(by intro x n c e;cases e),rfl⟩
   ·exact kps
   ·exact kps
   ·exact kps
   ·exact kps
 ·rintro v h3 ⟨r1,r2,r3,r4,r5,r6,r7,r8,κi,Si,es,ev,r9,ri,ai,hci,iwi,mvi,fri,hnx,hni,el,hev,hel⟩
  rw [List.take_length]at mvi
  have hle:=r6.e
  unfold K3 at hle
  have g5:=r5.lt
  have g6:=r6.lt
  have g7:=r7.lt
  have g8:=r8.lt
  have g9:=r9.lt
  have hlti:=r.lt
  have hnn:=ai.k.n
  have hnbi:=ri.dv.ok.g.nb
  have hszi:=ri.dv.ok.g.sz
  have hAe:=hA es Si mvi
  have hok: ∀e∈es,e.Ok:=by
   intro e he
   obtain⟨j,hj⟩:=List.mem_iff_getElem?.1 he
   obtain⟨⟨f1,f2,f3,f4⟩,-⟩:=hAe j e hj
   have hm:S.D.nb*S.D.P≤12*6:=Nat.mul_le_mul r.dv.ok.g.nb.2 (by have:=r.dv.ok.g.P;omega)
   exact⟨f1,by omega,f3,by omega⟩
  have hrec:recN Si es≤es.length+1:=K2 (by omega)
  have hmul:(2*Si.D.nb+2)*recN Si es≤26*7:=Nat.mul_le_mul (by omega) (by omega)
  refine Gd L (n:=h3.n) (t:=h3.t) (lh:= []) hle (by intro q;cases q) ?_
  have rE: ∀h5,Kp (fun j=>j=h2.n+1) h3 h5→ApR (ext κi h3.n) h5 I Si:=fun h6 k6=>ri.own k6 (fun j hj e=>by subst e;rw [hci _ (by omega) (by omega)];omega) fun x hx=>Af hx
  have aE: ∀h5,Kp (fun j=>j=h2.n+1) h3 h5→AChg κ h (ext κi h3.n) h5:=fun h6 k6=>AChg.own ai k6 (fun j e=>by subst e;omega) fun x hx=>Af hx
  have cmc: ∀h5,Kp (fun j=>j=h2.n+1) h3 h5→EL h5 (h2.n+2) ev es→_:=fun h5 k5 el5=>Ri (lo:=h2.n+2) (ev:=ev) (es:=es) L X T (rE h5 k5) iwi el5 (by omega) (fun x n c e=> .inr (by have h200:=hev x n c e;subst e;rw [Af el.blt.1];omega)) hok (by omega) (by rw [fri.secs,fri.nb,fri.P,fri.A];exact hAe) (by have:=fri.last;omega) (by omega)
  have kcb: ∀κ5 h5 h6 κ6,(∀x,x<h3.n→κ5 x=κi x)→AChg κ5 h5 κ6 h6→Kp (fun j=>j=h2.n+1) h3 h5→Bk h6 h.n [.ptr I.s 0]∧Bk h6 cb [AI ((b:Nat):Int)]∧Gk h6 h2.n (.dfr (some []))∧κ6 h2.n=200:=by
   intro κ5 h5 h6 κ6 hc a k
   have hcb:κi cb=κ cb:=ai.col cb lc
   refine⟨As a.k ?_ (As k (by omega) r7),As a.k ?_ (As k (by omega) r8),Il a.k ?_ (Il k (by omega) r5),?_⟩
   ·rw [hc _ (by omega),hci _ (by omega) (by omega)];omega
   ·rw [hc _ (by omega)];omega
   ·rw [hc _ (by omega),hci _ (by omega) (by omega)];omega
   ·have:=k.n
    rw [a.col _ (by omega),hc _ (by omega),hci _ (by omega) (by omega)]
  have el3:=el
  rcases(show ev= .nils∨ ∃b n c,ev= .slc b 0 n c by rcases el.len with⟨_,e⟩|⟨_,b,e,_⟩;exact .inl e;exact .inr ⟨b,_,_,e⟩)with rfl|⟨eb,en,ec,rfl⟩
  all_goals
   refine wk ?_
   refine H3 L (c:=cmc _ (by exact kps) (el3.kS (S:=fun j=>j=h2.n+1) (by exact kps) (by intro j q1 q2;omega))) (g:=?_) (gp:=?_)
   ·rintro _ h5 ⟨S2,κ2,hc,r',a'⟩
    obtain⟨⟨f1,f2,f3,f4,f5,f6,f7,f8,f9⟩,iw2,f10,f11,f12⟩:=hc.fr iwi
    obtain⟨x1,x2,x3,x4⟩:=kcb _ _ _ _ (fun x hx=>Af hx) a' (by exact kps)
    have a2:AChg κ h κ2 h5:=(aE _ (by exact kps)).trans a'
    have hps2:=hE es Si S2 mvi hc
    have l1:=x1.lt
    have l2:=x2.lt
    have l3:=x3.lt
    refine wk ?_
    refine H3 L (c:=L3 (b:=b) L X (r'.k0 (κ':=κ2) (by exact kps) fun _ _=>rfl) (by rw [f1,fri.nb];exact hb) (.inr hps2) (by rw [f6,fri.pe];exact hpe) (by omega)) (g:=?_) (gp:=?_)
    ·rintro _ h6 ⟨q1,κ6,q2,q3⟩
     have hk2:Gk h6 h2.n (.dfr (some [])):=Il q3.k (by omega) (by exact lkg)
     have hk6:κ6 h2.n=200:=(q3.col _ (by simp only [Am];omega)).trans x4
     have hl6:=hk2.lt
     have a6:AChg κ h κ6 h6:=a2.trans ((AChg.k0 (κ':=κ2) (by exact kps) fun _ _=>rfl).trans q3)
     have hm:=MovO.ok mvi hc
     rw [q1]at hm
     refine wk ?_
     refine A0 L (show Good P0 E Q ⟨⟨_,_,_,_,_,.returning,false,none⟩,_,_⟩ from ?_)
     refine F2 L (by intro q;cases q) (Gk.e lkg) ?_
     refine Eb L X.f47 (C0 rfl) G ⟨_,κ6,hm,q2.out (B:=fun j=>j=h2.n) ?_ (fun j _ e=>by subst e;omega),AChg.own (B:=fun j=>j=h2.n) a6 ?_ (fun j e=>by subst e;omega) fun _ _=>rfl⟩
     ·exact kps
     ·exact kps
    ·rintro _ h6 ⟨rfl,q1,κ6,q2,q3⟩
     have hk2:Gk h6 h2.n (.dfr (some [])):=Il q3.k (by omega) (by exact lkg)
     have hk6:κ6 h2.n=200:=(q3.col _ (by simp only [Am];omega)).trans x4
     have hl6:=hk2.lt
     have a6:AChg κ h κ6 h6:=a2.trans ((AChg.k0 (κ':=κ2) (by exact kps) fun _ _=>rfl).trans q3)
     have hm:=MovO.ok mvi hc
     rw [q1]at hm
     refine F2 L (n:=h6.n) (t:=h6.t) (lh:= []) (by intro q;cases q) hk2.e ?_
     refine Ao L X.f47 ?_
     refine Gp _ _ ⟨.pow,_,κ6,rfl,.inr rfl,hm,q2.out (B:=fun j=>j=h2.n) ?_ (fun j _ e=>by subst e;omega),AChg.own (B:=fun j=>j=h2.n) a6 ?_ (fun j e=>by subst e;omega) fun _ _=>rfl⟩
     ·exact kps
     ·exact kps
   ·rintro _ h5 ⟨o,S2,κ2,rfl,ho,hc,r',a'⟩
    obtain⟨x1,x2,x3,x4⟩:=kcb _ _ _ _ (fun x hx=>Af hx) a' (by exact kps)
    refine F2 L (n:=h5.n) (t:=h5.t) (lh:= []) (by intro q;cases q) x3.e ?_
    have hl3:=x3.lt
    refine Ao L X.f47 ?_
    refine Gp _ _ ⟨o,S2,κ2,rfl,ho,.badc mvi hc ho,r'.out (B:=fun j=>j=h2.n) ?_ (fun j _ e=>by subst e;omega),AChg.own (B:=fun j=>j=h2.n) ((aE _ (by exact kps)).trans a') ?_ (fun j e=>by subst e;omega) fun _ _=>rfl⟩
    ·exact kps
    ·exact kps
 ·rintro v h3 ⟨o,S',κ',rfl,ho,hm,r',a',gk,hk2⟩
  refine F2 L (n:=h3.n) (t:=h3.t) (lh:= []) (by intro q;cases q) gk.e ?_
  have hl3:=gk.lt
  refine Ao L X.f47 ?_
  refine Gp _ _ ⟨o,S',κ',rfl,ho,hm,r'.out (B:=fun j=>j=h2.n) ?_ (fun j _ e=>by subst e;omega),AChg.own (B:=fun j=>j=h2.n) a' ?_ (fun j e=>by subst e;omega) fun _ _=>rfl⟩
  ·exact kps
  ·exact kps
end
end
section
variable {P0:Program}{E:Env}{F:T CFn}{K:T (List AV×AV)}(L:Lg P0 E F K)(X:Fx F K)
include L X
section
variable {h:H}{κ: Nat→Nat}{I:Ai}{S:Ap}
theorem bm {cb:Nat}{x:Int}(r:ApR κ h I S)(kc:Bk h cb [AI x])(hb: ¬(0≤x∧x<S.D.nb)):
  CtP P0 E F K 47 [.ptr I.s 0,.ptr cb 0] h fun v h'=>v= .ifc 44 (AI ((3:Nat):Int))∧K0 h h':=by
 have sk:=r.sk
 have ls:=sk.lt
 have lc:=kc.lt
 unfold apC at sk
 by_cases c1:x<0
 ·refine Fe L X.f47 X.k47 rfl rfl rfl fun Q x cs G=>?_
  refine wk ?_
  refine Ir L rfl rfl rfl rfl rfl (Bo L X) ?_
  rintro _ h4 ⟨rfl,rfl⟩
  refine Ao L X.f47 ?_
  exact G _ _ ⟨rfl,kps⟩
 ·refine Fe L X.f47 X.k47 rfl rfl rfl fun Q x cs G=>?_
  refine wk ?_
  refine Ir L rfl rfl rfl rfl rfl (Bo L X) ?_
  rintro _ h4 ⟨rfl,rfl⟩
  refine Ao L X.f47 ?_
  exact G _ _ ⟨rfl,kps⟩
theorem mz {cb b:Nat}(r:ApR κ h I S)(kc:Bk h cb [AI ((b:Nat):Int)])(hb:b<S.D.nb)(hdn:S.down=false)(hs:S.ps b≠3∨S.jr ((b:Nat):Int)=true):
  CtP P0 E F K 47 [.ptr I.s 0,.ptr cb 0] h fun v h'=>v= .ifc 44 (AI ((8:Nat):Int))∧K0 h h':=by
 have sk:=r.sk
 have ls:=sk.lt
 have lc:=kc.lt
 obtain⟨cbl,po⟩:=r.po
 obtain⟨M,ck,m1,m2,m3⟩:=r.mj.ex
 have lm:=m1.lt
 have hg:=m3 ((b:Nat):Int)
 unfold apC at sk
 rw [hdn]at sk
 by_cases h3:S.ps b=3
 ·have hjr:S.jr ((b:Nat):Int)=true:=hs.resolve_left fun q=>q h3
  rw [hjr,if_pos rfl]at hg
  refine Fe L X.f47 X.k47 rfl rfl rfl fun Q x cs G=>?_
  refine wk ?_
  refine cal (c:=Av L X) (g:=?_)
  rintro _ rfl
  refine wk ?_
  refine cal (c:=Av L X) (g:=?_)
  rintro _ rfl
  refine wk ?_
  refine cal (c:=L0 L X (po.k0 (by exact kps)) hb) (g:=?_)
  rintro _ rfl
  rw [h3]
  refine wk ?_
  (apply Cp rfl rfl;exact Dz (KE.int .i64) rfl rfl lkq)
  rw [hg,Option.getD_some]
  refine wk ?_
  refine Ir L rfl rfl rfl rfl rfl (Bo L X) ?_
  rintro _ h4 ⟨rfl,rfl⟩
  refine Ao L X.f47 ?_
  exact G _ _ ⟨rfl,kps⟩
 ·refine Fe L X.f47 X.k47 rfl rfl rfl fun Q x cs G=>?_
  refine wk ?_
  refine cal (c:=Av L X) (g:=?_)
  rintro _ rfl
  refine wk ?_
  refine cal (c:=Av L X) (g:=?_)
  rintro _ rfl
  refine wk ?_
  refine cal (c:=L0 L X (po.k0 (by exact kps)) hb) (g:=?_)
  rintro _ rfl
  refine wk ?_
  refine Ir L rfl rfl rfl rfl rfl (Bo L X) ?_
  rintro _ h4 ⟨rfl,rfl⟩
  refine Ao L X.f47 ?_
  exact G _ _ ⟨rfl,kps⟩
inductive MoveO (x:Int)(S:Ap):Nat→Ap→Prop where
 |rng (h: ¬(0≤x∧x<S.D.nb)):MoveO x S 3 S
 |st {b:Nat} (e:x=((b:Nat):Int)) (hb:b<S.D.nb) (h:S.ps b≠3∨S.jr ((b:Nat):Int)=true):MoveO x S 8 S
 |run {b:Nat} {S':Ap} {o:WO} (e:x=((b:Nat):Int)) (hb:b<S.D.nb) (h1:S.ps b=3) (h2:S.jr ((b:Nat):Int)=false) (ho:o= .done 0∨o= .full∨o= .pow) (m:MovO b S S' o):MoveO x S (eOf o) S'
theorem Ya {ab:Nat}{y:Int}(T:Tb P0 E F K)(r:ApR κ h I S)(ka:Bk h ab [.ptr I.s 0])(iw:IW S)(hdn:S.down=false)
  (hf:S.last<S.next∧S.next<10000000) (hn:S.D.n+1000<100000) (hS:S.S<1000)
  (hM: ∀b:Nat,y=((b:Nat):Int)→b<S.D.nb→S.ps b=3→S.jr ((b:Nat):Int)=false→(S.mv b).length≤6∧S.pe b<100000∧
   (∀i es S1 p,MvS (B9 S.A) S ((S.mv b).take i) es S1→(S.mv b)[i]?=some p→MvOk S b i p S1)∧
   (∀es S1,MvS (B9 S.A) S (S.mv b) es S1→ ∀j y,es[j]?=some y→okE S.S (S.D.nb*S.D.P) (stA S.A es j) y)∧
   (∀es S1 S2,MvS (B9 S.A) S (S.mv b) es S1→CmP es S1 S2 (.done 0)→S2.ps b=3)):
  Ct P0 E F K 15 [.ptr ab 0,AI y] h (fun v h'=> ∃e S' κ',v=AI ((e:Nat):Int)∧MoveO y S e S'∧ApR κ' h' I S'∧AChg κ h κ' h'):=by
 have lk:=ka.lt
 refine Ad L X.f15 X.k15 rfl rfl fun Q x cs G=>?_
 refine wk ?_
 have k1:K0 h (hp (h.n+1) h.t [(h.n,some (cl [AI y]))]):=kps
 have r1:ApR (ext κ h.n) (hp (h.n+1) h.t [(h.n,some (cl [AI y]))]) I S:=r.k0 k1 fun b hb=>Af hb
 have a1:AChg κ h (ext κ h.n) (hp (h.n+1) h.t [(h.n,some (cl [AI y]))]):=AChg.k0 k1 fun b hb=>Af hb
 have kc1:Bk (hp (h.n+1) h.t [(h.n,some (cl [AI y]))]) h.n [AI y]:=lkp
 have cl1: ∀κ2 h2,K0 (hp (h.n+1) h.t [(h.n,some (cl [AI y]))]) h2→(hp (h.n+1) h.t [(h.n,some (cl [AI y]))]).n<h2.n→(∀b,b<(hp (h.n+1) h.t [(h.n,some (cl [AI y]))]).n→κ2 b=ext κ h.n b)→ApR κ2 h2 I S→CtX P0 E F K 47 (.ptr I.s 0:: [.ptr h.n 0]) h2
   (fun v h'=> ∃κ' S',ApR κ' h' I S'∧AChX (fun _=>False) κ2 h2 κ' h'∧MoveO y S 0 S')
   (fun v h'=> ∃κ' S' e,v= .ifc 44 (AI e)∧ApR κ' h' I S'∧AChX (fun _=>False) κ2 h2 κ' h'∧ ∃e':Nat,e=((e':Nat):Int)∧MoveO y S e' S'):=by
  intro κ2 h2 k2 n2 c2 r2
  have hk:κ2 h.n=0:=(c2 _ (by simp only [Am];omega)).trans (B4 (Nat.le_refl _))
  by_cases hr:0≤y∧y<S.D.nb
  ·obtain⟨b,rfl⟩:=Int.eq_ofNat_of_zero_le hr.1
   by_cases hs:S.ps b≠3∨S.jr ((b:Nat):Int)=true
   ·refine(mz L X r2 (Ag k2 kc1) (by omega) hdn hs).X.mono (fun v h' q=>q) ?_
    rintro v h' ⟨rfl,k3⟩
    exact⟨ext κ2 h2.n,S,_,rfl,r2.k0 k3 fun b hb=>Af hb,(AChg.k0 k3 fun b hb=>Af hb).x,_,rfl,.st rfl (by omega) hs⟩
   ·have h3:S.ps b=3:=Decidable.byContradiction fun q=>hs (.inl q)
    have hj:S.jr ((b:Nat):Int)=false:=Bool.eq_false_iff.2 fun q=>hs (.inr q)
    obtain⟨m1,m2,m3,m4,m5⟩:=hM b rfl (by omega) h3 hj
    refine(my L X T r2 iw (Ag k2 kc1) (.inl hk) (by omega) hdn h3 hj hf hn m1 m3 m4 m2 hS m5).mono ?_ ?_
    ·rintro v h' ⟨S',κ',q1,q2,q3⟩
     exact⟨κ',S',q2,q3.x,.run rfl (by omega) h3 hj (.inl rfl) q1⟩
    ·rintro v h' ⟨o,S',κ',rfl,ho,q1,q2,q3⟩
     exact⟨κ',S',_,rfl,q2,q3.x,_,rfl,.run rfl (by omega) h3 hj (.inr ho) q1⟩
  ·refine(bm L X r2 (Ag k2 kc1) hr).X.mono (fun v h' q=>q) ?_
   rintro v h' ⟨rfl,k3⟩
   exact⟨ext κ2 h2.n,S,_,rfl,r2.k0 k3 fun b hb=>Af hb,(AChg.k0 k3 fun b hb=>Af hb).x,_,rfl,.rng hr⟩
 refine cal (c:=Ei L X r1 (Ag k1 ka) (fun b e=>e.elim) cl1) (g:=?_)
 rintro v h2 ⟨κ',S',h1,r',a',-,hv⟩
 have a2:=a'.own a1 fun b e=>e.elim
 rcases hv with⟨rfl,u,q1⟩|⟨e,rfl,e',rfl,q⟩
 ·refine wk ?_
  refine ret X.f15 ?_
  exact⟨0,S',κ',rfl,q1,r'.k0 kps fun _ _=>rfl,a2.trans (AChg.k0 kps fun _ _=>rfl)⟩
 ·refine wk ?_
  refine ret X.f15 ?_
  exact⟨e',S',κ',rfl,q,r'.k0 kps fun _ _=>rfl,a2.trans (AChg.k0 kps fun _ _=>rfl)⟩
end
end
end Go.Ev
