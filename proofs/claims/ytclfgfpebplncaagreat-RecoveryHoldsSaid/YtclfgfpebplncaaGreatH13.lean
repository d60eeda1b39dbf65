/- Part of the proof. -/
import Derived.Test.YtclfgfpebplncaaGreatH09
import Derived.Test.YtclfgfpebplncaaGreatH12
import Derived.Test.YtclfgfpebplncaaGreatH11
import Derived.ChangeSame
import Derived.DataReads
set_option linter.unusedVariables false
set_option linter.unusedSectionVars false
set_option linter.unusedSimpArgs false
set_option maxRecDepth 10000
set_option maxHeartbeats 4000000
namespace Go.Ev
variable {D N ab b e i lb lo o:Nat}{I:Ai}{Q:Nat→AV→Prop}{S S':Ap}{U:Nat→Prop}{Z:List (List Nat)}{c:List AV}{cs:List AFr}{dv sv v:AV}{h h' h0:H}{k:List AItem}{rows:List (Nat×Nat)}{s:Int}{secs:List Int}{y:O}{δ:Nat→List Nat}{κ κ':Nat→Nat}
theorem Aoo {p:Prop}(h:p:=by
 refine Bf L X.f80 fun Q x cs G=>?_
 refine wk ?_
 refine Bt L ?_
 refine ret X.f80.1 ?_
 exact⟨[],fun _=> [],⟨.inl ⟨rfl,rfl⟩⟩,rfl,kps⟩):p:=h
section
variable {P0:Program}{E:Env}{F:T CFn}{K:T (List AV×AV)}(L:Lg P0 E F K)(X:Fx F K)
include L X
section
variable {k:IntKind}{l:List (Nat×Option AV)}{x:O}{q:Bool}{sh:Sh}
omit L X in
theorem Aha {a:Int}{d:Nat}(e:evO l x=some (.int k a))(e1:evO l y=some (.int k (d:Int)))(hd:0<d):XV (.bin .rem x y q sh) h l (.int k (Int.tmod a (d:Int))) h:=by
 refine⟨?_⟩;have h0:iEq (d:Int) (Int.ofNat 0)=false:=by rw [Ew];exact decide_eq_false (by show(d:Int)≠0;omega)
 simp only [exec,Ah,Ab e,Ab e1,F0,Ec,Bb,h0,vo]
end
omit L X in
theorem na (bs:List Nat)(m y:Nat):(B7 bs).set m (.int .u8 (y:Int))=B7 (bs.set m y):=by unfold B7;rw [List.map_set]
omit L X in
theorem AllB.set {bs:List Nat}(h:AllB bs){m y:Nat}(hy:y<256):AllB (bs.set m y):=by
 intro i hi;rw [List.length_set]at hi;rw [List.getD_eq_getElem?_getD,List.getElem?_set];split
 ·split;·exact hy
  ·simp
 ·rw [←List.getD_eq_getElem?_getD];exact h i hi
structure GrR (h:H)(lo:Nat)(v:AV)(sz:Nat)(l:List GW)(δ: Nat→List Nat):Prop where
 ex:(l= []∧v= .nils)∨(0<l.length∧ ∃gb:Nat,v= .slc gb 0 l.length (Aa+2)∧Bk h gb (l.flatMap (gwC sz))∧lo≤gb∧ ∀(i:Nat) (s:Int) (b o c:Nat),l[i]?=some (s,some (b,o,c))→BS h b o (δ b)∧(δ b).length=sz∧lo≤b∧o=0∧c=sz∧b≠gb)
omit L X
theorem GrR.k0 {sz:Nat}{l:List GW}(q:GrR h lo v sz l δ)(k:K0 h h'):GrR h' lo v sz l δ:= by
 rcases q.ex with h1|⟨h1,gb,h2,h3,h4,h5⟩
 ·exact⟨.inl h1⟩
 ·exact⟨.inr ⟨h1,gb,h2,Ag k h3,h4,fun i s b o c e=>let⟨g1,g2,g3,g4⟩:=h5 i s b o c e;⟨g1.k0 k,g2,g3,g4⟩⟩⟩
theorem Ub {sz:Nat}(l:List GW):(l.flatMap (gwC sz)).length=l.length*2:=C8 l (Kr l)
theorem GrR.app {sz n:Nat}{l:List GW}{x:GW}(hb:Bk h N (l.flatMap (gwC sz)++gwC sz x))(hN:lo≤N)(hn:l.length=n)(hr: ∀(i:Nat) (s:Int) (b o c:Nat),l[i]?=some (s,some (b,o,c))→BS h b o (δ b)∧(δ b).length=sz∧lo≤b∧o=0∧c=sz∧b≠N)
  (hx: ∀(s:Int) (b o c:Nat),x=(s,some (b,o,c))→BS h b o (δ b)∧(δ b).length=sz∧lo≤b∧o=0∧c=sz∧b≠N):GrR h lo (.slc N 0 (n+1) (Aa+2)) sz (l++ [x]) δ:= by
 refine⟨.inr ⟨by simp,N,by simp [hn],by rw [List.flatMap_append];simpa using hb,hN,fun i s b o c e=>?_⟩⟩
 by_cases hi:i<l.length
 ·rw [List.getElem?_append_left hi]at e;exact hr i s b o c e
 ·rw [List.getElem?_append_right (by omega)]at e
  have hi0:i - l.length=0:=by
   have:=(List.getElem?_eq_some_iff.1 e).1
   simp at this;omega
  rw [hi0]at e
  simp at e
  exact hx s b o c e
include L X
theorem Sb {n sz:Nat}{l:List GW}{w:Option (Nat×Nat×Nat)}{lq:List (Nat×Option AV)}(hi:i<6) (q1:GrR h h0.n v sz l δ) (hl:l.length=i) (kN:Bk h N [AI s,gwV sz w]) (hN:h0.n≤N) (hne: ∀gb n c,v= .slc gb 0 n c→gb≠N) (hw: ∀b o c,w=some (b,o,c)→BS h b o (δ b)∧(δ b).length=sz∧h0.n≤b∧o=0∧c=sz∧ ∀gb n c,v= .slc gb 0 n c→b≠gb) (k0:K0 h0 h) (ht:TSub (tms [(58,some (.slc N 0 1 1)),(56,some v),(8,some (AN i)),(2,some (AN n)),(1,some sv),(0,some (AN sz))]) (tms lq)) (G: ∀v' h' l',GrR h' h0.n v' sz (l++ [(s,w)]) δ→K0 h0 h'→TSub (tms [(8,some (AN (i+1))),(7,some v'),(2,some (AN n)),(1,some sv),(0,some (AN sz))]) (tms l')→ Good P0 E Q ⟨⟨80,cf80.ntmps,tms l',.inLoop Rn::k,[],.run,false,none⟩,cs,h'⟩): Good P0 E Q ⟨⟨80,cf80.ntmps,tms lq,.ops [Cj 59 (.append 2 32 (.t 56) (.t 58)),Cv 7 59]:: .inBlock 1:: .code Y2:: .inLoop Rn::k,[],.run,false,none⟩,cs,hp h.n h.t []⟩:=by
 refine Eh L ht ?_;have n0:=k0.n;have lN:=kN.lt;have hpl:Ar [AI s,gwV sz w]=true:=by cases w <;> rfl
 rcases q1.ex with⟨rfl,rfl⟩|⟨h1,gb,rfl,h3,h4,h5⟩
 ·have:i=0:=by simpa using hl.symm
  subst this;(apply st1 L rfl;exact Dr (new:= [AI s,gwV sz w]) rfl rfl (SlR.of (c:= [AI s,gwV sz w]) lkp (Nat.le_refl _) rfl) (by omega) (by omega);rfl);refine wk ?_;have kk:K0 h (hp (h.n+1) h.t [(h.n,some (cl [AI s,gwV sz w]))]):=kps;refine G _ _ _ (GrR.app (N:=h.n) (n:=0) (l:= []) lkp (by omega) rfl (fun i s b o c e=>by simp at e) fun s' b o c e=>?_) kps tsb
  cases e;obtain⟨g1,g2,g3,g4,g5,g6⟩:=hw b o c rfl;have:=g1.lt_n;exact⟨g1.k0 kk,g2,g3,g4,g5,by omega⟩
 ·have l3:=h3.lt;have hgN:=hne gb _ _ rfl;rw [hl]at h1;subst hl;(apply st1 L rfl;exact Dq (old:=l.flatMap (gwC sz)) (new:= [AI s,gwV sz w]) rfl rfl (SlR.of (c:=l.flatMap (gwC sz)) lkp (by rw [Ub];omega) (by rw [List.drop_zero,List.take_of_length_le (by rw [Ub];omega)])) (SlR.of (c:= [AI s,gwV sz w]) lkp (Nat.le_refl _) rfl) (by omega) (by omega) hpl;rfl);refine wk ?_;have kk:Kp (fun j=>j=gb) h (hp (h.n+1) h.t [(h.n,some (cl (l.flatMap (gwC sz)++ [AI s,gwV sz w]))),(gb,none)]):=kps;refine G _ _ _ (GrR.app (N:=h.n) (x:=(s,w)) lkp (by omega) rfl (fun j s b o c e=>?_) fun s' b o c e=>?_) kps tsb;·obtain⟨g1,g2,g3,g4,g5,g6⟩:=h5 j s b o c e;have:=g1.lt_n;exact⟨U7 kk g6 g1,g2,g3,g4,g5,by omega⟩
  ·cases e;obtain⟨g1,g2,g3,g4,g5,g6⟩:=hw b o c rfl;have:=g1.lt_n;exact⟨U7 kk (g6 _ _ _ rfl) g1,g2,g3,g4,g5,by omega⟩
omit L X in
theorem GrR.upd {h:H}{lo sz D:Nat}{v:AV}{l:List GW}{δ: Nat→List Nat}{bs:List Nat}(q:GrR h lo v sz l δ)(hD:h.n≤D):GrR h lo v sz l (upd δ D bs):=by
 rcases q.ex with h1|⟨h1,gb,h2,h3,h4,h5⟩;·exact⟨.inl h1⟩
 ·refine⟨.inr ⟨h1,gb,h2,h3,h4,fun i s b o c e=>?_⟩⟩;obtain⟨g1,g2⟩:=h5 i s b o c e;have:=g1.lt_n;rw [upd_ne _ _ (by omega)];exact⟨g1,g2⟩
theorem Xs {n sz:Nat}{l:List GW}{h2:H}{bs0:List Nat}{lq:List (Nat×Option AV)}(hi:i<6)(hn:n<100000) (q1:GrR h2 h0.n v sz l δ) (k2:K0 h2 h) (hl:l.length=i) (kN:Bk h N [AI s,.slc D 0 sz sz]) (hN:h2.n≤N) (hDN:D≠N) (kD:Bk h D (B7 bs0)) (hD:h2.n≤D) (hb:bs0.length=sz) (ha:AllB bs0) (hsz:sz<1000) (k0:K0 h0 h) (hvb: ∀gb n c,v= .slc gb 0 n c→gb<h2.n) (k02:K0 h0 h2) (ht:TSub (tms [(10,some Zi),(9,some (.ptr N 0)),(8,some (AN i)),(7,some v),(2,some (AN n)),(1,some sv),(0,some (AN sz))]) (tms lq)) (G: ∀δ' w v' h' l',GrR h' h0.n v' sz (l++ [(s,w)]) δ'→K0 h0 h'→TSub (tms [(8,some (AN (i+1))),(7,some v'),(2,some (AN n)),(1,some sv),(0,some (AN sz))]) (tms l')→ Good P0 E Q ⟨⟨80,cf80.ntmps,tms l',.inLoop Rn::k,[],.run,false,none⟩,cs,h'⟩): Good P0 E Q ⟨⟨80,cf80.ntmps,tms lq,.code tu:: .inBlock 2:: .code tw:: .inBlock 1:: .code Y2:: .inLoop Rn::k,[],.run,false,none⟩,cs,hp h.n h.t []⟩:=by
 have n0:=k0.n;have n02:=k02.n;have n2:=k2.n;refine Bs L (α:= List Nat) (T:=fun j _=> [(10,some (AN j)),(9,some (.ptr N 0)),(8,some (AN i)),(7,some v),(2,some (AN n)),(1,some sv),(0,some (AN sz))]) (n:=sz) (R:=fun j bs hh=>Bk hh D (B7 bs)∧bs.length=sz∧AllB bs∧Kp (fun j=>j=D) h hh) (i0:=0) bs0 ht ⟨kD,hb,ha,Kp.refl _⟩ (Nat.zero_le _) ?_ ?_;·rintro j bs hh hj ⟨r1,r2,r3,r4⟩ ih;have r5:Bk hh N [AI s,.slc D 0 sz sz]:=Aq r4 (by omega) kN;have l1:=r1.lt;have l5:=r5.lt;refine wk ?_;(apply st1 L rfl;exact U2 rfl rfl;rfl);refine wk ?_;(apply Aaf L rfl rfl rfl rfl rfl;exact lkp;(rw [Gw];omega);rfl);refine wk ?_;refine ih (bs.set j ((n+7*i+3*j) % pw .u8)) _ _ ⟨?_,by rw [List.length_set];exact r2,r3.set (Nat.mod_lt _ (by decide)),kps⟩ tsb;rw [←na];exact lkp
 ·rintro bs hh ⟨r1,r2,r3,r4⟩;have r5:Bk hh N [AI s,.slc D 0 sz sz]:=Aq r4 (by omega) kN;have l1:=r1.lt;have l5:=r5.lt;refine wk ?_;have kk:K0 h2 hh:=⟨Nat.le_trans n2 r4.n,fun b hb _=>(r4.old b (by omega) (by omega)).trans (k2.old b hb id)⟩;have n4:=r4.n;have ke:K0 hh (hp (hh.n+1) hh.t [(hh.n,some (cl [AI s,.slc D 0 sz sz]))]):=kps;refine Sb L X (δ:= upd δ D bs) (w:=some (D,0,sz)) (N:=hh.n) (h:=hp (hh.n+1) hh.t [(hh.n,some (cl [AI s,.slc D 0 sz sz]))]) hi (((q1.upd hD).k0 kk).k0 ke) hl (by exact lkp) (by omega) (fun gb n c e=>by have:=hvb gb n c e;omega) (fun b o c e=>?_) ⟨by simp only [Al];omega,fun b hb _=>(ke.old b (by omega) id).trans ((kk.old b (by omega) id).trans (k02.old b hb id))⟩ ?_ (fun v' h' l' g1 g2 g3=>G _ _ v' h' l' g1 g2 g3);·cases e;rw [upd_eq];exact⟨(Mj r1 r3).k0 ke,r2,by omega,rfl,rfl,fun gb n c e=>by have:=hvb gb n c e;omega⟩
  ·exact tsb
omit L X in
theorem GrR.vlt {sz:Nat}{l:List GW}(q:GrR h lo v sz l δ): ∀gb n c,v= .slc gb 0 n c→gb<h.n:=by
 rintro gb n c rfl;rcases q.ex with⟨_,e⟩|⟨_,gb',e,h3,_⟩;·cases e
 ·cases e;exact h3.lt
theorem ng {n sz:Nat}(q:IntsR κ h sv secs)(hsz:12≤sz∧sz≤30)(hl:secs.length≤6)(hn:n<100000): Ct P0 E F K 80 [AN sz,sv,AN n] h fun v h'=> ∃l δ,GrR h' h.n v sz l δ∧l.map (·.1)=secs∧K0 h h':=by
 rcases q.ex with⟨rfl,rfl⟩|⟨rfl,a,rfl⟩|⟨b,cap,rfl,hb,-⟩;·exact Aoo
 ·exact Aoo
 ·have lb:=hb.lt;refine Bf L X.f80 fun Q x cs G=>?_;refine wk ?_;refine Bs L (α:= List GW×(Nat→List Nat)×AV) (T:=fun i a=> [(8,some (AN i)),(7,some a.2.2),(2,some (AN n)),(1,some (.slc b 0 secs.length cap)),(0,some (AN sz))]) (n:=secs.length) (R:=fun i a h2=>GrR h2 h.n a.2.2 sz a.1 a.2.1∧a.1.map (·.1)=secs.take i∧K0 h h2) (i0:=0) ([],fun _=> [],.nils) tsb ⟨⟨.inl ⟨rfl,rfl⟩⟩,rfl,kps⟩ (Nat.zero_le _) ?_ ?_
  ·rintro i ⟨l,δ,v⟩ h2 hi ⟨q1,q2,k2⟩ ih;simp only at q1 q2;have n2:=k2.n;have hk:=Rl k2 hb;have hvb:=q1.vlt;have hpv:Bc v=some [v]∧Bm v=true:=(by rcases q1.ex with⟨_,rfl⟩|⟨_,gb,rfl,_⟩ <;> exact⟨rfl,rfl⟩);have hlen:l.length=i:=(by have:=congrArg List.length q2;rw [List.length_map,List.length_take]at this;omega);have hx:(secs.map eI)[i]?=some (eI secs[i]):=(by rw [List.getElem?_map,List.getElem?_eq_getElem hi];rfl);have hnx:secs.take (i+1)=secs.take i++ [secs[i]]:=(by rw [List.take_add_one,List.getElem?_eq_getElem hi];rfl);generalize secs[i]=s at*;(try refine Bn L 1000 rfl ?_);(repeat(first|(apply st1 L rfl;exact⟨Dy rfl⟩;rfl)|(apply st1 L rfl;exact Hw rfl rfl rfl;rfl)|(apply st1 L rfl;exact Ey rfl rfl (by omega);rfl)|(apply st1 L rfl;exact Cb rfl rfl (by omega);rfl)|(apply st1 L rfl;exact Ff rfl rfl (by omega);rfl)));(apply st1 L rfl;exact Br rfl lkr hx;rfl);refine wk ?_;have fin: ∀δ' w v' h' l',GrR h' h.n v' sz (l++ [(s,w)]) δ'→K0 h h'→TSub (tms [(8,some (AN (i+1))),(7,some v'),(2,some (AN n)),(1,some (.slc b 0 secs.length cap)),(0,some (AN sz))]) (tms l')→_:= fun δ' w v' h' l' g1 g2 g3=>ih (l++ [(s,w)],δ',v') h' l' ⟨g1,by rw [List.map_append,q2,hnx];rfl,g2⟩ g3
   have fill: ∀lq,TSub (tms [(10,some Zi),(9,some (.ptr h2.n 0)),(8,some (AN i)),(7,some v),(2,some (AN n)),(1,some (.slc b 0 secs.length cap)),(0,some (AN sz))]) (tms lq)→
     Good P0 E Q ⟨⟨80,cf80.ntmps,tms lq,[.code tu,.inBlock 2,.code tw,.inBlock 1,.code Y2,.inLoop Rn,.inBlock 0,.code Af3],[],.run,false,none⟩,x::cs,hp (h2.n+1+1) h2.t [(h2.n,some (cl [AI s,.slc (h2.n+1) 0 sz sz])),(h2.n+1,some (cl (rl [Zy] sz))),(h2.n,some (cl [AI s,.nils])),(h2.n,some (cl [Zi,.nils]))]⟩:=by
    intro lq ht
    refine Xs L X (δ:= δ) (h2:=h2) (h:=hp (h2.n+1+1) h2.t [(h2.n,some (cl [AI s,.slc (h2.n+1) 0 sz sz])),(h2.n+1,some (cl (rl [Zy] sz))),(h2.n,some (cl [AI s,.nils])),(h2.n,some (cl [Zi,.nils]))]) (N:=h2.n) (D:=h2.n+1) (bs0:=List.replicate sz 0) (by omega) hn q1 kps hlen (by exact lkp) (by omega) (by omega) (by rw [←E6];exact lkp) (by omega) List.length_replicate (AllB.rep (by omega)) (by omega) (by exact kps) hvb k2 ht fin
   by_cases h2':i % 2=0;·refine wk ?_;rw [Nat.zero_max];refine fill _ ?_;exact tsb
   ·refine wk ?_;(apply st1 L rfl;exact Br rfl lkr hx;rfl);(apply st1 L rfl;exact Aha (d:=5) rfl rfl (by omega);rfl);by_cases h5:Int.tmod s ((5:Nat):Int)=((0:Nat):Int);·(apply st1 L rfl;exact si rfl rfl (by first|exact h5|exact fun e=>e h5);rfl);refine wk ?_;refine Sb L X (δ:= δ) (w:=none) (N:=h2.n+1) (h:=hp (h2.n+1+1) h2.t [(h2.n+1,some (cl [AI s,.nils])),(h2.n,some (cl [AI s,.nils])),(h2.n,some (cl [Zi,.nils]))]) (by omega) (q1.k0 (by exact kps)) hlen (by exact lkp) (by omega) (fun gb n c e=>by have:=hvb gb n c e;omega) (fun b o c e=>by cases e) (by exact kps) ?_ (fun v' h' l' g1 g2 g3=>fin δ none v' h' l' g1 g2 g3);exact tsb
    ·(apply st1 L rfl;exact sg rfl rfl (by first|exact h5|exact fun e=>e h5);rfl);refine wk ?_;rw [Nat.zero_max];refine fill _ ?_;exact tsb
  ·rintro⟨l,δ,v⟩ h2 ⟨q1,q2,k2⟩;simp only at q1 q2;refine ret X.f80.1 ?_;exact⟨l,δ,q1,by rw [q2,List.take_length],by exact k2⟩
omit L X in
theorem dq {l:List GW}{sz:Nat}{x:GW}(hx:l[i]?=some x):(l.flatMap (gwC sz))[i*2+0]?=some (AI x.1)∧(l.flatMap (gwC sz))[i*2+1]?=some (gwV sz x.2):=by
 refine⟨?_,?_⟩;·rw [Di l (Kr l) i 0 x hx (by omega)];rfl
 ·rw [Di l (Kr l) i 1 x hx (by omega)];rfl
theorem ni {lo' sz:Nat}{l:List GW}(q:DkR h U dv sz Z)(hL:0<Z.length∧Z.length≤10)(g:GrR h lo' v sz l δ)(hl:l.length≤6)(hsz:12≤sz∧sz≤30): Ct P0 E F K 81 [.agg [AN sz,dv],v] h fun u h'=>u=AI ((Dl Z.length false (l.map (·.1)):Nat):Int)∧K0 h h':=by
 rcases q.ex with⟨rfl,rfl⟩|⟨-,lb,rows,rfl,-⟩;·exact absurd hL.1 (Nat.lt_irrefl _)
 rcases g.ex with⟨rfl,rfl⟩|⟨h1,gb,rfl,kb,h4,h5⟩;·refine Af L X.f81 fun Q x cs G=>?_;refine ret X.f81.1 ?_;exact⟨rfl,kps⟩
 ·have lgb:=kb.lt;refine Af L X.f81 fun Q x cs G=>?_;refine wk ?_;refine Bs L (α:= Unit) (T:=fun i _=> [(5,some (AN i)),(2,some (.ptr h.n 0)),(1,some (.slc gb 0 l.length (Aa+2)))]) (n:=l.length) (R:=fun i _ h2=>((l.map (·.1)).take i).Nodup∧Bk h2 h.n [AN sz,.slc lb 0 Z.length (Aa+1)]∧K0 h h2) (i0:=0) () tsb ⟨by simp,lkp,kps⟩ (Nat.zero_le _) ?_ ?_
  ·rintro i _ h2 hi ⟨r1,r2,r3⟩ ih;have hx:l[i]?=some l[i]:=List.getElem?_eq_getElem hi;obtain⟨x1,x2⟩:=dq (sz:=sz) hx;have htk:(l.map (·.1)).take (i+1)=(l.map (·.1)).take i++ [l[i].1]:=(by rw [List.take_add_one,List.getElem?_map,hx];rfl);generalize hxe:l[i]=xx at*;obtain⟨s,w⟩:=xx;simp only at x1 x2 htk;have lr:=r2.lt;have kb2:=Ag r3 kb
   have rest: ∀lq,TSub (tms [(6,some Zi),(5,some (AN i)),(2,some (.ptr h.n 0)),(1,some (.slc gb 0 l.length (Aa+2)))]) (tms lq)→
     Good P0 E Q ⟨⟨81,cf81.ntmps,tms lq,[.code Af4,.inBlock 2,.inBlock 1,.code Af5,.inLoop Af6,.inBlock 0,.code Af7],[],.run,false,none⟩,x::cs,hp h2.n h2.t []⟩:=by
    intro lq ht
    refine Bs L (α:= Unit) (T:=fun j _=> [(6,some (AN j)),(5,some (AN i)),(2,some (.ptr h.n 0)),(1,some (.slc gb 0 l.length (Aa+2)))]) (n:=i)
     (R:=fun j _ h3=>s∉(l.map (·.1)).take j∧K0 h2 h3) (i0:=0) () ht ⟨by simp,Kp.refl _⟩ (Nat.zero_le _) ?_ ?_
    ·rintro j _ h3 hj ⟨t1,t2⟩ ih2
     have hy:l[j]?=some l[j]:=List.getElem?_eq_getElem (by omega)
     obtain⟨y1,y2⟩:=dq (sz:=sz) hy
     have htj:(l.map (·.1)).take (j+1)=(l.map (·.1)).take j++ [l[j].1]:=by
      rw [List.take_add_one,List.getElem?_map,hy];rfl
     have hin:l[j].1∈(l.map (·.1)).take i:=by
      rw [List.mem_take_iff_getElem]
      exact⟨j,by rw [List.length_map];omega,by rw [List.getElem_map]⟩
     generalize hye:l[j]=yy at*
     obtain⟨s',w'⟩:=yy
     simp only at y1 y2 htj hin
     have kb3:=Ag t2 kb2
     by_cases e:s'=s
     ·subst e
      refine ret X.f81.1 ?_
      refine⟨?_,by exact Kp.tr0 (by exact kps) r3⟩
      have nn: ¬(l.map (·.1)).Nodup:=fun nn=>by
       have h1:=nn.sublist (List.take_sublist (i+1) _)
       rw [htk,List.nodup_append]at h1
       exact h1.2.2 s' hin s' (List.mem_singleton_self _) rfl
      unfold Dl
      rw [if_pos (.inr nn)];rfl
     ·refine wk ?_
      refine ih2 () _ _ ⟨?_,by exact kps⟩ tsb
      rw [htj];simp [t1,Ne.symm e]
    ·rintro _ h3 ⟨t1,t2⟩
     refine wk ?_
     refine ih () _ _ ⟨?_,?_,?_⟩ tsb
     ·rw [htk];exact R6 r1 t1
     ·exact Ag t2 r2
     ·exact Kp.tr0 t2 r3
   cases w with
   |none=>simp only [gwV]at x2;refine wk ?_;refine rest _ ?_;exact tsb
   |some w=>simp only [gwV]at x2;refine wk ?_;refine rest _ ?_;exact tsb
  ·rintro _ h2 ⟨r1,r2,r3⟩;rw [show l.length=(l.map (·.1)).length from(List.length_map _).symm,List.take_length]at r1;refine wk ?_;refine Bs L (α:= Unit) (T:=fun i _=> [(7,some (AN i)),(2,some (.ptr h.n 0)),(1,some (.slc gb 0 l.length (Aa+2)))]) (n:=l.length) (R:=fun i _ h3=>(∀s∈(l.map (·.1)).take i,0≤s∧s<(Z.length:Int))∧K0 h2 h3) (i0:=0) () tsb ⟨by simp,Kp.refl _⟩ (Nat.zero_le _) ?_ ?_
   ·rintro i _ h3 hi ⟨t1,t2⟩ ih;have hx:l[i]?=some l[i]:=List.getElem?_eq_getElem hi;obtain⟨x1,x2⟩:=dq (sz:=sz) hx;have htk:(l.map (·.1)).take (i+1)=(l.map (·.1)).take i++ [l[i].1]:=(by rw [List.take_add_one,List.getElem?_map,hx];rfl);have hin:l[i].1∈l.map (·.1):=List.mem_map.2 ⟨l[i],List.getElem_mem hi,rfl⟩;generalize hxe:l[i]=xx at*;obtain⟨s,w⟩:=xx;simp only at x1 x2 htk hin;have r2':=Ag t2 r2;have kb3:=Ag t2 (Ag r3 kb);have bad: ¬(0≤s∧s<(Z.length:Int))→Dl Z.length false (l.map (·.1))=3:=fun hb=>by
     unfold Dl;rw [if_neg (by
                         rintro(e|e);· rw [e]at hin;cases hin
                         · exact e r1),if_pos ⟨s,hin,by omega⟩]
    by_cases c1:s<0;·refine ret X.f81.1 ?_;exact⟨by rw [bad (by omega)];rfl,Kp.tr0 (by exact kps) r3⟩
    ·by_cases c2:s<(Z.length:Int)
     ·refine wk ?_;refine ih () _ _ ⟨?_,by exact kps⟩ tsb;rw [htk];intro s' hs';rcases List.mem_append.1 hs' with h|h;·exact t1 s' h
      ·rw [List.mem_singleton]at h;subst h;omega
     ·refine ret X.f81.1 ?_;exact⟨by rw [bad (by omega)];rfl,Kp.tr0 (by exact kps) r3⟩
   ·rintro _ h3 ⟨t1,t2⟩;rw [show l.length=(l.map (·.1)).length from(List.length_map _).symm,List.take_length]at t1;refine ret X.f81.1 ?_;refine⟨?_,Kp.tr0 (by exact kps) r3⟩;unfold Dl;rw [if_neg (by
                       rintro(e|e);· have:=congrArg List.length e;rw [List.length_map]at this;simp only [List.length_nil]at this;omega
                       · exact e r1),if_neg (by rintro⟨s,hs,h⟩;have:=t1 s hs;omega),if_neg (by simp)]
    rfl
omit L X in
theorem xr (h:o≤c.length):F1 [] c o=c:=by apply List.ext_getElem?;intro i;rw [Fc [] c o i (by simpa using h),if_neg (by simp only [List.length_nil];omega)]
omit L X in
theorem nj {xs:List AV}(h:xs.length=c.length):F1 xs c 0=xs:=by
 apply List.ext_getElem?;intro i;rw [Fc xs c 0 i (by omega)];by_cases hi:i<xs.length;·rw [if_pos ⟨Nat.zero_le _,by omega⟩];rfl
 ·rw [if_neg (by omega),List.getElem?_eq_none (by omega),List.getElem?_eq_none (by omega)]
section
variable {fn nt:Nat}{l l':List (Nat×Option AV)}{td':List AItem}{ds:List ADef}{dfd:Bool}{ro:Option Nat}{gd:Option (Nat×Bool)}{r:List CI}
variable {n:Nat}{t:T Blk}{lh:List (Nat×Option Blk)}{x:O}
theorem xu {d size dn dcap:Nat}(hg:gdO gd l=some true)(e:evO l x=some (.slc b o dn dcap))(e1:evO l y=some .nils)(hb:Bk (hp n t lh) b c)(ho:o≤c.length) (ha:adv 1000 (.ops r::k) ((d,some Zi)::l)=(td',l')) (g:Good P0 E Q ⟨⟨fn,nt,tms l',td',ds,.run,dfd,ro⟩,cs,hp n t ((b,some (cl c))::lh)⟩): Good P0 E Q ⟨⟨fn,nt,tms l,.ops (⟨some d,gd,.copy size x y⟩::r)::k,ds,.run,dfd,ro⟩,cs,hp n t lh⟩:=by
 obtain⟨h',q1,q2⟩:=Mc (n:=n) (t:=t) (lh:=lh) (lv:= []) rfl hb.e (by simpa using ho) (xr ho);have hx:exec (.copy size x y) (hp n t lh) (tms l)= .val Zi h':=by
  have hm:K2 0 dn=0:=by rw [Ka];exact Nat.zero_min _
  have hce:cellsOf size 0 (hp n t lh) .nils=some []:=by cases size <;> rfl
  simp only [exec,Ah,Ab e,Ab e1,lenV,hm,hce,q1];rfl
 exact Eg L (Aw hg) hx (Uy L q2 (Bn L 1000 ha g))
end
def apW (sz:Nat)(δ: Nat→List Nat)(Z:List (List Nat))(l:List GW):List (List Nat):=l.foldl (fun Z x=>Z.set x.1.toNat ((x.2.map fun q=>δ q.1).getD (List.replicate sz 0))) Z
omit L X in
theorem Ix {sz:Nat}{δ: Nat→List Nat}: ∀(l:List GW) (Z:List (List Nat)),(apW sz δ Z l).length=Z.length
 | [],Z=>rfl
 |x::r,Z=>by show(apW sz δ (Z.set _ _) r).length=_;rw [Ix r,List.length_set]
omit L X in
theorem xw {sz:Nat}{l:List GW}{x:GW}:apW sz δ Z (l++ [x])=(apW sz δ Z l).set x.1.toNat ((x.2.map fun q=>δ q.1).getD (List.replicate sz 0)):=by unfold apW;rw [List.foldl_append];rfl
structure DkS (h:H)(U:Nat→Prop)(lb sz:Nat)(Z:List (List Nat))(rows:List (Nat×Nat)):Prop where
 k:Bk h lb (rows.map fun b=>AV.slc b.1 0 sz b.2)
 len:rows.length=Z.length
 r: ∀(i:Nat) (b:Nat×Nat) (d:List Nat),rows[i]?=some b→Z[i]?=some d→BS h b.1 0 d∧d.length=sz∧U b.1∧b.1≠lb
omit L X
theorem DkS.dk {V:Nat→Prop}{sz:Nat}(q:DkS h U lb sz Z rows)(hz:0<Z.length)(hl:V lb)(hu: ∀b,U b→V b):DkR h V (.slc lb 0 Z.length (Aa+1)) sz Z:=
 ⟨.inr ⟨hz,lb,rows,rfl,q.k,hl,q.len,fun i b d e1 e2=>let⟨g1,g2,g3,g4⟩:=q.r i b d e1 e2;⟨g1,g2,hu b.1 g3,g4⟩⟩⟩
theorem DkS.kp {B:Nat→Prop}{sz:Nat}(q:DkS h U lb sz Z rows)(k:Kp B h h')(h1: ¬B lb)(hu: ∀b,U b→ ¬B b):DkS h' U lb sz Z rows:=
 ⟨Aq k h1 q.k,q.len,fun i b d e1 e2=>let⟨g1,g2,g3,g4⟩:=q.r i b d e1 e2;⟨U7 k (hu b.1 g3) g1,g2,g3,g4⟩⟩
theorem DkS.set {sz j:Nat}{d:List Nat}(q:DkS h U lb sz Z rows)(hk:Bk h' lb ((rows.map fun b=>AV.slc b.1 0 sz b.2).set j (.slc N 0 sz sz)))(k:Kp (fun i=>i=lb) h h')(hd:BS h' N 0 d)(hl:d.length=sz)(hN:U N∧N≠lb):DkS h' U lb sz (Z.set j d) (rows.set j (N,sz)):=by
 refine⟨by rw [List.map_set];exact hk,by rw [List.length_set,List.length_set,q.len],fun i b d' e1 e2=>?_⟩;rw [List.getElem?_set]at e1 e2;by_cases e:j=i
 ·rw [if_pos e]at e1 e2;split at e1
  ·cases e1;split at e2;·cases e2;exact⟨hd,hl,hN⟩
   ·cases e2
  ·cases e1
 ·rw [if_neg e]at e1 e2;obtain⟨g1,g2,g3,g4⟩:=q.r i b d' e1 e2;exact⟨U7 k g4 g1,g2,g3,g4⟩
include L X
theorem np {V:Nat→Prop}{sz:Nat}{l:List GW}(q:DkR h V dv sz Z)(hlo: ∀b,h.n≤b→V b)(hL:0<Z.length∧Z.length≤10)(g:GrR h lo v sz l δ)(hl:l.length≤6)(hsz:12≤sz∧sz≤30)(hr: ∀x∈l,0≤x.1∧x.1<(Z.length:Int)): Ct P0 E F K 82 [.agg [AN sz,dv],v] h fun u h'=> ∃dv',u= .agg [AN sz,dv']∧DkR h' V dv' sz (apW sz δ Z l)∧K0 h h':=by
 rcases q.ex with⟨rfl,rfl⟩|⟨-,lb,rows,rfl,q1,q2,q3,q4⟩;·exact absurd hL.1 (Nat.lt_irrefl _)
 have l1:=q1.lt;refine Af L X.f82 fun Q x cs G=>?_;refine wk ?_;(apply st1 L rfl;exact Afa (new:=rows.map fun b=>AV.slc b.1 0 sz b.2) rfl rfl (SlR.of (c:=rows.map fun b=>AV.slc b.1 0 sz b.2) lkp (by rw [Hd];omega) (by rw [List.drop_zero,List.take_of_length_le (by rw [Hd];omega)])) (by omega) (by omega);rfl);refine wk ?_;have kk:K0 h (hp (h.n+1+1+1+1) h.t [(h.n,some (cl [AN sz,.slc (h.n+1+1+1) 0 Z.length (Aa+1)])),(h.n+1+1+1,some (cl (rows.map fun b=>AV.slc b.1 0 sz b.2))),(h.n+1+1,some (cl [])),(h.n+1,some (cl [Zi,.nils])),(h.n,some (cl [AN sz,.slc lb 0 Z.length (Aa+1)]))]):=kps;have n9:=kk.n
 have S0:DkS (hp (h.n+1+1+1+1) h.t [(h.n,some (cl [AN sz,.slc (h.n+1+1+1) 0 Z.length (Aa+1)])),(h.n+1+1+1,some (cl (rows.map fun b=>AV.slc b.1 0 sz b.2))),(h.n+1+1,some (cl [])),(h.n+1,some (cl [Zi,.nils])),(h.n,some (cl [AN sz,.slc lb 0 Z.length (Aa+1)]))]) (fun b=>V b∧b≠h.n∧b≠h.n+1) (h.n+1+1+1) sz Z rows:=
  ⟨lkp,q3,fun i b d e1 e2=>let⟨g1,g2,g3,_⟩:=q4 i b d e1 e2;⟨g1.k0 kk,g2,⟨g3,by have:=g1.lt_n;omega,by have:=g1.lt_n;omega⟩,by have:=g1.lt_n;omega⟩⟩
 rcases g.ex with⟨rfl,rfl⟩|⟨h1,gb,rfl,kb,h4,h5⟩;·refine Bt L ?_;refine ret X.f82.1 ?_;refine⟨_,rfl,(S0.kp (B:=fun j=>j=h.n+1) ?_ (by omega) fun b e=>by omega).dk hL.1 (hlo _ (by omega)) fun b e=>e.1,kps⟩;exact kps
 ·have lgb:=kb.lt;refine Bs L (α:= List (Nat×Nat)) (T:=fun i _=> [(5,some (AN i)),(4,some (.ptr (h.n+1) 0)),(2,some (.ptr h.n 0)),(1,some (.slc gb 0 l.length (Aa+2)))]) (n:=l.length) (R:=fun i rz h2=>DkS h2 (fun b=>V b∧b≠h.n∧b≠h.n+1) (h.n+1+1+1) sz (apW sz δ Z (l.take i)) rz∧Bk h2 h.n [AN sz,.slc (h.n+1+1+1) 0 Z.length (Aa+1)]∧Bk h2 (h.n+1) [Zi,.nils]∧K0 h h2) (i0:=0) rows tsb ⟨S0,lkp,lkp,kps⟩ (Nat.zero_le _) ?_ ?_
  ·rintro i rz h2 hi ⟨r1,r2,r3,r4⟩ ih;have hx:l[i]?=some l[i]:=List.getElem?_eq_getElem hi;obtain⟨x1,x2⟩:=dq (sz:=sz) hx;have htk:l.take (i+1)=l.take i++ [l[i]]:=(by rw [List.take_add_one,hx];rfl);obtain⟨s1,s2⟩:=hr _ (List.getElem_mem hi);generalize hxe:l[i]=xx at*;obtain⟨s,w⟩:=xx;simp only at x1 x2 s1 s2;obtain⟨j,rfl⟩:=Int.eq_ofNat_of_zero_le s1;have lr2:=r2.lt;have lr3:=r3.lt;have lk1:=r1.k.lt;have n4:=r4.n;have kb2:=Ag r4 kb;have r1k:=r1.k;have hap:apW sz δ Z (l.take (i+1))=(apW sz δ Z (l.take i)).set j ((w.map fun q=>δ q.1).getD (List.replicate sz 0)):=(by rw [htk,xw];rfl);have hln:=r1.len;rw [Ix]at hln
   cases w with
   |none=>simp only [gwV]at x2;refine wk ?_;refine xu L X (b:=h2.n) (o:=0) (c:=rl [Zy] sz) rfl rfl rfl (by exact lkp) (Nat.zero_le _) rfl ?_;refine wk ?_;(apply ba L rfl rfl rfl rfl rfl rfl;exact lkp;(rw [Hd];omega);refine Bn L 1000 rfl ?_);refine wk ?_;refine ih (rz.set j (h2.n,sz)) _ _ ⟨?_,by exact lkp,by exact lkp,kps⟩ tsb;rw [hap];refine r1.set (h:=h2) (d:=List.replicate sz 0) (by exact lkp) kps (Mj ?_ (AllB.rep (by omega))) List.length_replicate ⟨⟨hlo _ (by omega),by omega,by omega⟩,by omega⟩;rw [←E6];exact lkp
   |some w=>obtain⟨b,o,c⟩:=w;simp only [gwV]at x2;obtain⟨g1,g2,g3,rfl,rfl,g6⟩:=h5 i _ b o c hx;have lb1:=g1.lt_n;refine wk ?_;refine Aal L (lv:=B7 (δ b)) (cs1:=B7 (δ b)) rfl rfl rfl (BS.slr (by exact lkb) g2) lkp (by omega) (E1 _) (by rw [Gw,g2,E6,Gw,List.length_replicate];omega) (by rw [Gw];omega) (nj (by rw [Gw,g2,E6,Gw,List.length_replicate])) rfl ?_;refine wk ?_;(apply ba L rfl rfl rfl rfl rfl rfl;exact lkp;(rw [Hd];omega);refine Bn L 1000 rfl ?_);refine wk ?_;refine ih (rz.set j (h2.n,c)) _ _ ⟨?_,by exact lkp,by exact lkp,kps⟩ tsb;rw [hap];refine r1.set (h:=h2) (d:=δ b) (by exact lkp) kps (Mj ?_ g1.all) g2 ⟨⟨hlo _ (by omega),by omega,by omega⟩,by omega⟩;exact lkp
  ·rintro rz h2 ⟨r1,r2,r3,r4⟩;rw [List.take_length]at r1;have lr2:=r2.lt;have lr3:=r3.lt;refine ret X.f82.1 ?_;have fin:=DkS.dk (V:=V) (r1.kp (h':=hp h2.n h2.t [(h.n+1,some (cl [AN sz,.slc (h.n+1+1+1) 0 Z.length (Aa+1)]))]) (B:=fun j=>j=h.n+1) kps (by omega) fun b e=>by omega) (by rw [Ix];exact hL.1) (hlo _ (by omega)) fun b e=>e.1;rw [Ix]at fin;exact⟨_,rfl,fin,kps⟩
section
variable {d fm bb:Nat}{D:Dv}{cb:List AV}
theorem Sr (hd:Bk h d (dvC D fm bb)):Ct P0 E F K 10 [.ptr d 0] h fun v h'=>v=AN D.n∧h'=h:=by refine Ao L X.f10 fun Q x cs G=>?_;refine cal ?_ (c:=D4 L X hd);rintro _ rfl;refine ret X.f10.1 ?_;exact⟨rfl,rfl⟩
theorem Z3 (hd:Bk h d (dvC D fm bb)):Ct P0 E F K 29 [.ptr d 0] h fun v h'=>v=Zi∧Bk h' d (dvC D.up fm bb)∧Kp (fun i=>i=d) h h':=by refine Ao L X.f29 fun Q x cs G=>?_;refine cal ?_ (c:=D4 L X hd);rintro _ rfl;refine ret X.f29.1 ?_;exact⟨rfl,lkp,kps⟩
theorem Ahb (hd:Bk h d (dvC D fm bb))(hoff:D.off=false)(h2:D.sz≤30){c:Nat}(hc:c<1000000)(hbb:b≤D.sz+64):Ct P0 E F K 9 [.ptr d 0,AN (D.n+c),AN b] h fun v h'=>v=Zi∧Bk h' d (dvC {D with cut:=((D.n+c:Nat):Int),byt:=b} fm bb)∧Kp (fun i=>i=d) h h':=by refine Bf L X.f9 fun Q x cs G=>?_;refine cal ?_ (c:=D4 L X hd);rintro _ rfl;unfold dvC dvL at hd;rw [hoff]at hd;refine ret X.f9.1 ?_;unfold dvC dvL;exact⟨rfl,by rw [hoff];exact lkp,kps⟩
omit L X in
theorem DevC.hd {h':H}{D':Dv}(q:DevC κ h d D fm bb cb)(k:Kp (fun i=>i=d) h h')(hd:Bk h' d (dvC D' fm bb))(e:D'.nb=D.nb∧D'.P=D.P∧D'.bl=D.bl∧D'.flt=D.flt):DevC κ h' d D' fm bb cb:=by
 obtain⟨e1,e2,e3,e4⟩:=e;have f:Fw κ h κ h':=k.fw fun b _ h1=>by subst h1;rw [q.dcol];omega
 have ne: ∀b,κ b≠1→b≠d:=fun b h e=>h (by rw [e,q.dcol]);exact⟨hd,q.dcol,by rw [e4];exact q.fk.kp k (ne _ (by rw [q.fcol];omega)),q.fcol,Aq k (ne _ (by rw [q.bcol];omega)) q.bk,q.bcol,by rw [e1];exact q.blen,by rw [e1];exact q.nb,fun i hi=>by rw [e2,e3];obtain⟨pn,c,h1⟩:=q.rows i (by rw [←e1];exact hi);exact⟨pn,c,h1.fw f (k.old pn h1.row.k.lt (ne _ (by rw [h1.row.col];omega)))⟩⟩
theorem Pk (r:DevR κ h d D):Ct P0 E F K 29 [.ptr d 0] h fun v h'=>v=Zi∧DevR κ h' d D.up∧Kp (fun i=>i=d) h h'∧κ d=1:=by obtain⟨ok,fm,bb,cb,q⟩:=r;exact(Z3 L X q.dk).mono fun v h' ⟨h1,h2,h3⟩=>⟨h1,⟨⟨⟨ok.g.nb,ok.g.P,ok.g.sz,ok.g.en⟩,ok.n,ok.byt,⟨by show(-1:Int)≤ -1;omega,by show(-1:Int)<100000;omega⟩,fun i hi=>⟨(ok.bl i hi).nx,(ok.bl i hi).lo,(ok.bl i hi).hi,(ok.bl i hi).pg,(ok.bl i hi).er⟩⟩,fm,bb,cb,q.hd h3 h2 ⟨rfl,rfl,rfl,rfl⟩⟩,h3,q.dcol⟩
theorem Abq (r:DevR κ h d D)(hoff:D.off=false){c:Nat}(hc:D.n+c<100000)(hb:b≤D.sz+64):Ct P0 E F K 9 [.ptr d 0,AN (D.n+c),AN b] h fun v h'=>v=Zi∧DevR κ h' d {D with cut:=((D.n+c:Nat):Int),byt:=b}∧Kp (fun i=>i=d) h h'∧κ d=1:=by obtain⟨ok,fm,bb,cb,q⟩:=r;exact(Ahb L X q.dk hoff ok.g.sz.2 (by omega) hb).mono fun v h' ⟨h1,h2,h3⟩=>⟨h1,⟨⟨⟨ok.g.nb,ok.g.P,ok.g.sz,ok.g.en⟩,ok.n,hb,⟨by show(-1:Int)≤((D.n+c:Nat):Int);omega,by show((D.n+c:Nat):Int)<100000;omega⟩,fun i hi=>⟨(ok.bl i hi).nx,(ok.bl i hi).lo,(ok.bl i hi).hi,(ok.bl i hi).pg,(ok.bl i hi).er⟩⟩,fm,bb,cb,q.hd h3 h2 ⟨rfl,rfl,rfl,rfl⟩⟩,h3,q.dcol⟩
end
omit L X
theorem du {sz:Nat}{δ: Nat→List Nat}: ∀(l:List GW) (Z:List (List Nat)),(l.map (·.1)).Nodup→(∀x∈l,0≤x.1∧x.1<(Z.length:Int))→ (∀i:Nat,(i:Int)∉l.map (·.1)→(apW sz δ Z l)[i]?=Z[i]?)∧ ∀x∈l,(apW sz δ Z l)[x.1.toNat]?=some ((x.2.map fun q=>δ q.1).getD (List.replicate sz 0))
 | [],Z,_,_=>⟨fun _ _=>rfl,fun x hx=>by cases hx⟩
 |y::r,Z,hn,hr=>by
  rw [List.map_cons,List.nodup_cons]at hn;obtain⟨h1,h2⟩:=du r (Z.set y.1.toNat ((y.2.map fun q=>δ q.1).getD (List.replicate sz 0))) hn.2 fun x hx=>by rw [List.length_set];exact hr x (List.mem_cons_of_mem _ hx)
  obtain⟨y1,y2⟩:=hr y (List.mem_cons_self ..);refine⟨fun i hi=>?_,fun x hx=>?_⟩;·rw [List.map_cons,List.mem_cons,not_or]at hi;show(apW sz δ (Z.set y.1.toNat _) r)[i]?=_;rw [h1 i hi.2,List.getElem?_set_ne (fun e=>hi.1 (by omega))]
  ·rcases List.mem_cons.1 hx with rfl|hx;·show(apW sz δ (Z.set x.1.toNat _) r)[x.1.toNat]?=_;rw [h1 _ (fun e=>hn.1 (by rw [Int.toNat_of_nonneg y1]at e;exact e)),List.getElem?_set_self (by omega)]
   ·exact h2 x hx
theorem dw {S:Nat}{d:Bool}{l:List Int}(h:Dl S d l=0):l.Nodup∧l≠[]:=by
 unfold Dl at h;by_cases e:l= []∨ ¬l.Nodup;·rw [if_pos e]at h;cases h
 ·exact⟨Decidable.byContradiction fun q=>e (.inr q),fun q=>e (.inl q)⟩
theorem Abr {l:List GW}{d:Option (List Nat)}(h:(s,d)∈gpl δ l): ∃x∈l,x.1=s∧d=x.2.map fun q=>δ q.1:=by
 obtain⟨x,h1,h2⟩:=List.mem_map.1 h
 cases h2;exact⟨x,h1,rfl,rfl⟩
theorem J4 (δ: Nat→List Nat)(l:List GW):(gpl δ l).map (·.1)=l.map (·.1):=by unfold gpl;rw [List.map_map];rfl
include L X
structure ZR (S:Ap)(Z:List (List Nat)):Prop where
 len:Z.length=S.S
 rd: ∀(i:Nat) (d:List Nat),Z[i]?=some d→S.rd (i:Int)=d
structure DoP (S S':Ap)(k e:Nat)(Z Z':List (List Nat)):Prop where
 sm:Sm S S'
 bd:Bd S' (k+1000)
 pw:S'.down=true↔e=50
 ln:Z'.length=Z.length
 ex: ∃A' l',AInv {S' with A:=A',last:=l'}∧JS {S' with A:=A',last:=l'}∧l'<S'.next∧(e≠50→A'=S'.A∧l'=S'.last)∧(ZR {S' with A:=A',last:=l'} Z∧e≠0∨ZR {S' with A:=A',last:=l'} Z'∧(e=0∨e=50))
section
variable {k:Nat}{o:WO}
omit L X
theorem ZR.same {A':Int→Option Int}{l':Nat}(z:ZR S Z)(s:Sm S S')(h: ∀s,({S' with A:=A',last:=l'}:Ap).rd s=S.rd s):ZR {S' with A:=A',last:=l'} Z:= ⟨z.len.trans s.secs.symm,fun i d hi=>by rw [h];exact z.rd i d hi⟩
theorem DoP.rf (a:AInv S)(q:JS S)(b:Bd S k)(z:ZR S Z)(hd:S.down=false)(h0:e≠0)(h1:e≠50):DoP S S k e Z Z:= ⟨⟨rfl,rfl,rfl,rfl,rfl⟩,b.mono (by omega),⟨fun h=>absurd (hd.symm.trans h) Bool.false_ne_true,fun h=>absurd h h1⟩,rfl,S.A,S.last,a,q,b.last,fun _=>⟨rfl,rfl⟩,.inl ⟨z,h0⟩⟩
theorem xy (h:o= .done 0∨o= .full∨o= .pow):(eOf o=50↔o= .pow)∧(eOf o=0↔o= .done 0):=by rcases h with rfl|rfl|rfl <;> simp [eOf]
theorem DoP.keep (ho:o= .done 0∨o= .full∨o= .pow)(sm:Sm S S')(b:Bd S' (k+1000))(p:PwR S S' o)(hd:S.down=false)(z:ZR S Z)(r:Rcv S' o fun T=> ∀s,T.rd s=S.rd s):DoP S S' k (eOf o) Z Z:=by
 obtain⟨e1,e2⟩:=xy ho;obtain⟨A',l',h1,h2,h3,h4,h5⟩:=r;refine⟨sm,b,?_,rfl,A',l',h1,h2,h3,fun h=>h4 fun e=>h (e1.2 e),?_⟩;·have p':S'.down=true↔S.down=true∨o= .pow:=p;rw [p',hd,e1];simp
 ·by_cases h:eOf o=0;·exact .inr ⟨z.same sm h5,.inl h⟩
  ·exact .inl ⟨z.same sm h5,h⟩
theorem DoP.move {y:Int}(m:MoveO y S e S')(a:AInv S)(ok:S.D.Ok)(q:JS S)(bd:Bd S k)(hk:k<100000)(hS:S.S≤10)(z:ZR S Z)(hd:S.down=false):DoP S S' k e Z Z:=by
 cases m with
 |rng h=>exact .rf a q bd z hd (by omega) (by omega)
 |st e hb h=>exact .rf a q bd z hd (by omega) (by omega)
 | @run b S' o e hb h1 h2 ho m=>obtain⟨-,sm,b',p,-⟩:=m.inv a ok bd hb h1 h2;exact .keep ho sm b' p hd z (m.rcv a ok bd hk hS hb h1 h2 q)
theorem DoP.ck (m:CkO S S' o)(ho:o= .done 0∨o= .full∨o= .pow)(a:AInv S)(q:JS S)(bd:Bd S k)(hk:k<100000)(hS:S.S≤10)(z:ZR S Z)(hd:S.down=false):DoP S S' k (eOf o) Z Z:=by obtain⟨-,sm,b',p,-⟩:=m.inv a bd hS;exact .keep ho sm b' p hd z (m.rcv a bd hk hS q)
theorem DoP.append {l:List GW}(m:ApdP (gpl δ l) S S' o)(a:AInv S)(q:JS S)(bd:Bd S k)(hk:k<100000)(hS:S.S≤10)(z:ZR S Z)(hdn:S.down=false)(hl:l.length≤6)(hd: ∀(i:Nat) (s:Int) (b o c:Nat),l[i]?=some (s,some (b,o,c))→(δ b).length=S.D.sz)(hc:Dl S.S S.down (l.map (·.1))=0):DoP S S' k (eOf o) Z (apW S.D.sz δ Z l):=by
 have ho:o= .done 0∨o= .full∨o= .pow:=by
  cases m with
  |ok _ _=>exact .inl rfl
  |bad _ h=>exact .inr h
  |bad2 _ _ h=>exact .inr h
 obtain⟨e1,e2⟩:=xy ho;have hr: ∀y∈gpl δ l,0≤y.1∧y.1<(S.S:Int):=fun y hy=>Ku hc y.1 (by rw [←J4 δ l];exact List.mem_map.2 ⟨y,hy,rfl⟩);have hn:((gpl δ l).map (·.1)).Nodup:=by rw [J4];exact(dw hc).1
 have hrl: ∀x∈l,0≤x.1∧x.1<(Z.length:Int):=fun x hx=>by rw [z.len];exact Ku hc x.1 (List.mem_map.2 ⟨x,hx,rfl⟩)
 have hg:(gpl δ l).length≤6:=by unfold gpl;rw [List.length_map];exact hl
 obtain⟨-,-,p,-⟩:=m.inv a hr;have sm:=m.sm a;have hdl: ∀s d,(s,some d)∈gpl δ l→d.length=S.D.sz∧0≤s∧s<S.S:=fun s d hm=>by
  refine⟨?_,hr _ hm⟩;obtain⟨x,x1,x2,x3⟩:=Abr hm;obtain⟨i,hi,ei⟩:=List.getElem_of_mem x1;obtain⟨s',w⟩:=x
  cases w with
  |none=>cases x3
  |some w=>
   obtain⟨b,o,c⟩:=w
   cases x3;exact hd i s' b o c (by rw [List.getElem?_eq_getElem hi,ei])
 obtain⟨A',l',h1,h2,h3,h4,h5⟩:=m.rcv a bd hk hS hg hr hn hdl q;refine⟨sm,m.bd a bd hg,?_,Ix ..,A',l',h1,h2,h3,fun h=>h4 fun e=>h (e1.2 e),?_⟩;·have p':S'.down=true↔S.down=true∨o= .pow:=p;rw [p',hdn,e1];simp
 ·rcases h5 with⟨h5,h6⟩|⟨⟨r1,r2,r3⟩,h6⟩;·exact .inl ⟨z.same sm h5,fun e=>h6 (e2.1 e)⟩
  ·refine .inr ⟨⟨by rw [Ix,z.len];exact sm.secs.symm,fun i d hi=>?_⟩,h6.imp e2.2 e1.2⟩;obtain⟨g1,g2⟩:=du (sz:=S.D.sz) (δ:= δ) l Z (dw hc).1 hrl;by_cases hk:((i:Nat):Int)∈l.map (·.1)
   ·obtain⟨x,x1,x2⟩:=List.mem_map.1 hk;have h3:=g2 x x1;rw [x2,Int.toNat_natCast,hi]at h3
    cases h3;obtain⟨s',w⟩:=x;simp only at x2;subst x2
    cases w with
    |none=>exact r3 _ (List.mem_map.2 ⟨_,x1,rfl⟩)
    |some w=>exact r2 _ _ (List.mem_map.2 ⟨_,x1,rfl⟩)
   ·rw [g1 i hk]at hi;rw [r1 _ (by rw [J4];exact hk)];exact z.rd i d hi
end
theorem J5 {e:Int}:Ct P0 E F K 19 [AI e] h fun v h'=>v=AI e∧h'=h:=by refine Ao L X.f19 fun Q x cs G=>?_;refine ret X.f19.1 ?_;exact⟨rfl,rfl⟩
omit L X
theorem AChg.bk (q:AChg κ h κ' h')(k:Bk h b c)(hc:κ b=0):Bk h' b c∧κ' b=0:=⟨Aq q.k (by omega) k,(q.col b k.lt).trans hc⟩
theorem AChg.fw (q:AChg κ h κ' h'):Fw κ h κ' h':=⟨q.k.n,fun b hb hc=>q.k.old b hb (by omega),q.col⟩
theorem AChg.b2 (q:AChg κ h κ' h')(k:Bk h b c)(hc:κ b=200):Bk h' b c∧κ' b=200:=⟨Aq q.k (by omega) k,(q.col b k.lt).trans hc⟩
theorem AChg.dk {sz:Nat}(a:AChg κ h κ' h')(q:DkR h (fun b=>κ b=0) v sz Z):DkR h' (fun b=>κ' b=0) v sz Z:= ((q.mono fun b hb u=>⟨hb,u⟩:DkR h (fun b=>b<h.n∧κ b=0) v sz Z).kp a.k fun b e _ u=>by omega).mono fun b _ u=>(a.col b u.1).trans u.2
include L X
structure AS (κ: Nat→Nat)(h:H)(I:Ai)(S:Ap)(ab:Nat)(dv:AV)(sz:Nat)(Z:List (List Nat))(sv:AV)(secs:List Int):Prop where
 r:ApR κ h I S
 ka:Bk h ab [.ptr I.s 0]
 ca:κ ab=0
 q:DkR h (fun b=>κ b=0) dv sz Z
 qs:IntsR κ h sv secs
omit L X
theorem AS.chg {sz:Nat}(w:AS κ h I S ab dv sz Z sv secs)(a:AChg κ h κ' h')(r:ApR κ' h' I S'):AS κ' h' I S' ab dv sz Z sv secs:= ⟨r,(a.bk w.ka w.ca).1,(a.bk w.ka w.ca).2,a.dk w.q,w.qs.fw a.fw⟩
theorem AS.own {sz:Nat}{B:Nat→Prop}(w:AS κ h I S ab dv sz Z sv secs)(k:Kp B h h')(hb: ∀b,b<h.n→B b→κ b=200):AS κ h' I S ab dv sz Z sv secs:= ⟨w.r.out k fun b hl e=>by rw [hb b hl e];exact Nat.le_refl _,Aq k (fun e=>by have:=hb _ w.ka.lt e;rw [w.ca]at this;omega) w.ka,w.ca,w.q.kp k fun b e hl u=>by have:=hb b hl e;omega,w.qs.fw (k.fw fun b hl e=>by have:=hb b hl e;omega)⟩
theorem GrR.chg {sz:Nat}{l:List GW}(q:GrR h lo v sz l δ)(a:AChg κ h κ' h')(hc: ∀b,lo≤b→κ b=0):GrR h' lo v sz l δ:= by
 rcases q.ex with h1|⟨h1,gb,h2,h3,h4,h5⟩
 ·exact⟨.inl h1⟩
 ·exact⟨.inr ⟨h1,gb,h2,(a.bk h3 (hc gb h4)).1,h4,fun i s b o c e=>let⟨g1,g2,g3,g4⟩:=h5 i s b o c e;⟨(a.bs g1 (hc b g3)).1,g2,g3,g4⟩⟩⟩
theorem Vv {S:Ap}{b:Nat}: ∀n,b∈S.cds n↔b<n∧S.ps b=3∧S.jr (b:Int)=false
 |0=>by simp [Ap.cds]
 |n+1=>by
  simp only [Ap.cds];split
  ·rename_i h;rw [List.mem_append,List.mem_singleton,Vv n];constructor
   ·rintro(⟨h1,h2⟩|rfl);·exact⟨by omega,h2⟩
    ·exact⟨by omega,h⟩
   ·rintro⟨h1,h2⟩;by_cases e:b=n;·exact .inr e
    ·exact .inl ⟨by omega,h2⟩
  ·rename_i h;rw [Vv n];constructor;·rintro⟨h1,h2⟩;exact⟨by omega,h2⟩
   ·rintro⟨h1,h2⟩;have:b≠n:=fun e=>by subst e;exact h h2
    exact⟨by omega,h2⟩
include L X
def DoR (κ: Nat→Nat)(h:H)(I:Ai)(S:Ap)(k ab:Nat)(dv sv:AV)(secs:List Int)(Z:List (List Nat))(v:AV)(h':H):Prop:=
 ∃S' e Z' κ' dv',v= .tup [AN e,.agg [AN S.D.sz,dv']]∧AS κ' h' I S' ab dv S.D.sz Z sv secs∧DkR h' (fun b=>κ' b=0) dv' S.D.sz Z'∧DoP S S' k e Z Z'∧AChg κ h κ' h'
theorem Adm {k n:Nat}{what blk aft byt:Int}(T:Tb P0 E F K)(U:SortOk P0 E F 171)(w:AS κ h I S ab dv S.D.sz Z sv secs)(a:AInv S)(jq:JS S)(bd:Bd S k)(z:ZR S Z)(hd:S.down=false)(hZ:0<Z.length∧Z.length≤10)(hk:k≤40000)(hsl:secs.length≤6)(hn:n<100000)(hS:S.S≤10): Ct P0 E F K 26 [.ptr ab 0,.agg [AN S.D.sz,dv],.agg [AI what,AI blk,sv,AI aft,AI byt],AN n] h (DoR κ h I S k ab dv sv secs Z):=by
 have lk:=w.ka.lt;rcases w.q.ex with⟨rfl,rfl⟩|⟨-,lb,rows,rfl,-⟩;·exact absurd hZ.1 (Nat.lt_irrefl _)
 refine Yw L X.f26 fun Q x cs G=>?_;refine wk ?_
 have main: ∀(h1:H) (lq:List (Nat×Option AV)),K0 h h1→Bk h1 h.n [AN S.D.sz,.slc lb 0 Z.length (Aa+1)]→Bk h1 (h.n+1) [AI what,AI blk,sv,AI aft,AI byt]→Bk h1 (h.n+1+1) [Zi,.nils]→h.n+3≤h1.n→
   TSub (tms [(12,some (.ptr ab 0)),(9,some (.ptr (h.n+1+1) 0)),(8,some Zi),(6,some (.ptr (h.n+1) 0)),(5,some (.ptr h.n 0)),(3,some (AN n)),(0,some (.ptr ab 0))]) (tms lq)→
   Good P0 E Q ⟨⟨26,cf26.ntmps,tms lq,[.ops [Cc 13 79 [.t 12],Cv 10 13],.code Afp],[],.run,false,none⟩,x::cs,h1⟩:=by
  intro h1 lq k1 b6 b8 b10 hn1 ht
  refine Eh L ht (Uy L (h':=hp h1.n h1.t []) (.refl _) ?_)
  have a1:AChg κ h (Iu κ h.n) h1:=AChg.k0 k1 fun b hb=>Ca hb
  have w1:=w.chg a1 (w.r.k0 k1 fun b hb=>Ca hb)
  refine cal ?_ (c:=Abm L X w1.r w1.ka (fun b n e=>Nat.le_of_lt (bd.wr b n e)) (by have:=bd.nx;omega))
  rintro _ h2 ⟨κ2,cd,cc,r2,a2⟩
  have w2:=w1.chg a2 r2
  obtain⟨k6,c6⟩:=a2.b2 b6 (Cq (Nat.le_refl _))
  obtain⟨k8,c8⟩:=a2.b2 b8 (Cq (Nat.le_succ _))
  obtain⟨k10,c10⟩:=a2.b2 b10 (Cq (by omega))
  have l6:=k6.lt
  have l8:=k8.lt
  have l10:=k10.lt
  have n2:=a2.k.n
  have a12:=a1.trans a2
  have fin: ∀{κ3 h3 h' S' e Z' dv'} (B:Nat→Prop),AS κ3 h3 I S' ab (.slc lb 0 Z.length (Aa+1)) S.D.sz Z sv secs→AChg κ2 h2 κ3 h3→Kp B h3 h'→(∀b,b<h3.n→B b→h.n≤b∧κ3 b=200)→DkR h' (fun b=>κ3 b=0) dv' S.D.sz Z'→DoP S S' k e Z Z'→DoR κ h I S k ab (.slc lb 0 Z.length (Aa+1)) sv secs Z (.tup [AN e,.agg [AN S.D.sz,dv']]) h':=
   fun {κ3 h3 h' S' e Z' dv'} B w3 a3 kb hB q d=>⟨S',e,Z',κ3,dv',rfl,w3.own kb (fun b hb e=>(hB b hb e).2),q,d,⟨Kp.trS kb (fun b hb e=>by
    by_cases hl:b<h3.n
    ·have:=(hB b hl e).1;omega
    ·have:=(a12.trans a3).k.n;omega) (a12.trans a3).k,(a12.trans a3).col⟩⟩
  have ckpt: ∀(lq:List (Nat×Option AV)),TSub (tms [(74,some (.agg [AN S.D.sz,.slc lb 0 Z.length (Aa+1)])),(72,some (.ptr ab 0)),(9,some (.ptr (h.n+1+1) 0)),(8,some Zi),(5,some (.ptr h.n 0))]) (tms lq)→
    Good P0 E Q ⟨⟨26,cf26.ntmps,tms lq,[.drawn ⟨⟨Cc 73 84 [.t 72],[72]⟩,[⟨Cv 8 73,[73]⟩],[⟨Cn 74 2 5,[5]⟩]⟩ [⟨⟨Cs 2 9 74,[9,74]⟩,[],[]⟩],.code .ret],[],.run,false,none⟩,x::cs,hp h2.n h2.t []⟩:=by
   intro lq ht
   refine Eh L ht ?_
   refine cal ?_ (c:=Sq L X T U w2.r w2.ka a.iw hd (by omega) (fun y hy=>let⟨b,e1,e2,_⟩:=a.jr y hy;⟨by omega,by omega⟩) ⟨bd.last,by have:=bd.nx;omega⟩ (by have:=bd.dn;omega) (a.ckH bd hS (by omega)))
   rintro _ h3 ⟨o,S3,κ3,rfl,ho,ck,r3,a3⟩
   have w3:=w2.chg a3 r3
   obtain⟨k6a,c6a⟩:=a3.b2 k6 c6
   obtain⟨k10a,c10a⟩:=a3.b2 k10 c10
   have l6:=k6a.lt
   have l10:=k10a.lt
   have d3:=DoP.ck ck ho a jq bd (by omega) hS z hd
   refine wk ?_
   refine il L X.f26.1 (Tm rfl (E5 rfl (Bk.e lkp) rfl Er)) G ?_
   refine fin (h3:=h3) (fun j=>j=h.n+1+1) w3 a3 ?_ (fun b _ e=>⟨by omega,by rw [e];exact c10a⟩) (w3.q.kp (B:=fun j=>j=h.n+1+1) ?_ (fun b e _ u=>by subst e;rw [c10a]at u;omega)) d3
   ·exact kps
   ·exact kps
  by_cases c1:what<0
  ·refine wk ?_
   exact ckpt _ tsb
  by_cases c2:what≤5
  ·refine cal ?_ (c:=ng L X w2.qs (by exact a.geo.sz) hsl hn)
   rintro gv h3 ⟨l,δ,g,hkeys,kk⟩
   have n3:=kk.n
   have hll:l.length=secs.length:=by rw [←hkeys,List.length_map]
   refine cal ?_ (c:=ni L X (w2.q.k0 kk) hZ g (by omega) a.geo.sz)
   rintro _ h4 ⟨rfl,k4⟩
   have n4:=k4.n
   have kk4:K0 h2 h4:=Kp.tr0 k4 kk
   have a4:AChg κ2 h2 (ext κ2 h2.n) h4:=AChg.k0 kk4 fun b hb=>Aj hb
   have w4:=w2.chg a4 (w2.r.k0 kk4 fun b hb=>Aj hb)
   have g4:=g.k0 k4
   have hee:Dl Z.length false (l.map (·.1))=Dl S.S S.down (l.map (·.1)):=by rw [z.len,hd]
   rw [hee]
   obtain⟨k6a,c6a⟩:=a4.b2 k6 c6
   obtain⟨k10a,c10a⟩:=a4.b2 k10 c10
   have l6:=k6a.lt
   have l10:=k10a.lt
   rcases g4.ex with⟨rfl,rfl⟩|⟨g1,gb,rfl,kb,g5,g6⟩
   ·rw [show Dl S.S S.down (([]:List GW).map (·.1))=2 from rfl]
    refine cal ?_ (c:=Zt L X w4.r w4.ka)
    rintro _ h5 ⟨κ5,rfl,r5,a5⟩
    have w5:=w4.chg a5 r5
    obtain⟨k6b,c6b⟩:=a5.b2 k6a c6a
    obtain⟨k10b,c10b⟩:=a5.b2 k10a c10a
    have l6:=k6b.lt
    have l10:=k10b.lt
    refine wk ?_
    refine il L X.f26.1 (Tm rfl (E5 rfl (Bk.e lkp) rfl Er)) G ?_
    refine fin (h3:=h5) (e:=2) (fun j=>j=h.n+1+1) w5 (a4.trans a5) ?_ (fun b _ e=>⟨by omega,by rw [e];exact c10b⟩) (w5.q.kp (B:=fun j=>j=h.n+1+1) ?_ (fun b e _ u=>by subst e;rw [c10b]at u;omega)) (.rf a jq bd z hd (by omega) (by omega))
    ·exact kps
    ·exact kps
   have hne:l≠[]:=fun e=>by rw [e]at g1;exact absurd g1 (Nat.lt_irrefl _)
   have hx: ∀b,h2.n≤b→ext κ2 h2.n b=0:=fun b hb=>B0 hb
   have hgd: ∀(i:Nat) (s:Int) (b o c:Nat),l[i]?=some (s,some (b,o,c))→(δ b).length=S.D.sz:=fun i s b o c e=>(g6 i s b o c e).2.1
   by_cases hc:Dl S.S S.down (l.map (·.1))=0
   ·have hrl: ∀x∈l,0≤x.1∧x.1<(Z.length:Int):=fun x hx=>by rw [z.len];exact Ku hc x.1 (List.mem_map.2 ⟨x,hx,rfl⟩)
    rw [hc]
    refine cal ?_ (c:=T8 (δ:= δ) L X T w4.r w4.ka a.iw (by omega) kb (hx gb g5) hne (by omega) (fun i s b o c e=>let⟨x1,x2,x3,_⟩:=g6 i s b o c e;⟨x1,hx b x3,x2⟩) ⟨bd.last,by have:=bd.nx;omega⟩ (by have:=bd.dn;omega) (fun hc es S' m=>m.ok a fun y hy=>Ku hc y.1 (by rw [←J4 δ l];exact List.mem_map.2 ⟨y,hy,rfl⟩)))
    rintro _ h5 ⟨e,S5,κ5,rfl,ao,r5,a5⟩
    have w5:=w4.chg a5 r5
    have g5':=g4.chg a5 hx
    obtain⟨k6b,c6b⟩:=a5.b2 k6a c6a
    obtain⟨k10b,c10b⟩:=a5.b2 k10a c10a
    have l6:=k6b.lt
    have l10:=k10b.lt
    cases ao with
    |bad hb=>exact absurd hc hb
    | @run _ o _ ho m=>
     have d5:=DoP.append m a jq bd (by omega) hS z hd (by omega) hgd hc
     refine cal ?_ (c:=np L X (V:=fun b=>ext κ5 h5.n b=0) (w5.q.mono fun b hb u=>(Aj hb).trans u) (fun b hb=>B0 hb) hZ g5' (by omega) a.geo.sz hrl)
     rintro _ h6 ⟨dv',rfl,q6,k7⟩
     have n6:=k7.n
     have a6:AChg κ5 h5 (ext κ5 h5.n) h6:=AChg.k0 k7 fun b hb=>Aj hb
     have w6:=w5.chg a6 (r5.k0 k7 fun b hb=>Aj hb)
     obtain⟨k10c,c10c⟩:=a6.b2 k10b c10b
     have l10:=k10c.lt
     rcases q6.ex with⟨e0,-⟩|⟨z1,lb',rows',rfl,-⟩
     ·have:=congrArg List.length e0;rw [Ix]at this;simp only [List.length_nil]at this;omega
     refine wk ?_
     refine il L X.f26.1 (Tm rfl (E5 rfl (Bk.e lkp) rfl Er)) G ?_
     refine fin (h3:=h6) (fun j=>j=h.n+1+1) w6 ((a4.trans a5).trans a6) ?_ (fun b _ e=>⟨by omega,by rw [e];exact c10c⟩) (q6.kp (B:=fun j=>j=h.n+1+1) ?_ (fun b e _ u=>by subst e;rw [c10c]at u;omega)) d5
     ·exact kps
     ·exact kps
   ·refine cal ?_ (c:=T8 (δ:= δ) L X T w4.r w4.ka a.iw (by omega) kb (hx gb g5) hne (by omega) (fun i s b o c e=>let⟨x1,x2,x3,_⟩:=g6 i s b o c e;⟨x1,hx b x3,x2⟩) ⟨bd.last,by have:=bd.nx;omega⟩ (by have:=bd.dn;omega) (fun hc es S' m=>m.ok a fun y hy=>Ku hc y.1 (by rw [←J4 δ l];exact List.mem_map.2 ⟨y,hy,rfl⟩)))
    rintro _ h5 ⟨e,S5,κ5,rfl,ao,r5,a5⟩
    have w5:=w4.chg a5 r5
    obtain⟨k6b,c6b⟩:=a5.b2 k6a c6a
    obtain⟨k10b,c10b⟩:=a5.b2 k10a c10a
    have l6:=k6b.lt
    have l10:=k10b.lt
    cases ao with
    | @run _ o hc' ho m=>exact absurd hc' hc
    |bad hb=>
     have h50:Dl S.S S.down (l.map (·.1))≠50:=by
      rw [hd];unfold Dl
      repeat' split
      all_goals first|omega|(rename_i h;cases h)
     refine wk ?_
     refine il L X.f26.1 (Tm rfl (E5 rfl (Bk.e lkp) rfl Er)) G ?_
     refine fin (h3:=h5) (fun j=>j=h.n+1+1) w5 (a4.trans a5) ?_ (fun b _ e=>⟨by omega,by rw [e];exact c10b⟩) (w5.q.kp (B:=fun j=>j=h.n+1+1) ?_ (fun b e _ u=>by subst e;rw [c10b]at u;omega)) (.rf a jq bd z hd hb h50)
     ·exact kps
     ·exact kps
  by_cases c3:what=6∨what=7
  rotate_left
  ·obtain⟨c4,c5⟩:=not_or.1 c3
   refine wk ?_
   exact ckpt _ tsb
  have hc8:=Vs S S.D.nb
  have hnb:=a.geo.nb
  rcases cd.ex with⟨e0,rfl⟩|⟨g1,cb,rfl,kcb,-⟩
  ·rcases c3 with rfl|rfl
   ·refine wk ?_
    exact ckpt _ tsb
   ·refine wk ?_
    exact ckpt _ tsb
  ·rcases c3 with rfl|rfl
   all_goals
    have hi:u64 blk % (S.cds S.D.nb).length<(S.cds S.D.nb).length:=Nat.mod_lt _ g1
    have hx:=List.getElem?_eq_getElem hi
    obtain⟨m1,m2,m3⟩:=(Vv (S:=S) S.D.nb).1 (List.mem_of_getElem? hx)
    have hdt:=B4 (S.cds S.D.nb) (Vr S _) _ _ hx
    have h0:((S.cds S.D.nb).flatMap (cdC S))[u64 blk % (S.cds S.D.nb).length*4+0]?=some (AN ((S.cds S.D.nb)[u64 blk % (S.cds S.D.nb).length])):=by
     have:=congrArg (fun r=>r[0]?) hdt.2
     simp only [List.getElem?_take_of_lt (show 0<4 by omega),List.getElem?_drop]at this
     exact this
    generalize (S.cds S.D.nb)[u64 blk % (S.cds S.D.nb).length]=b0 at*
    refine wk ?_
    (apply Ax rfl rfl;exact Jq rfl)
    refine wk ?_
    generalize u64 blk % (S.cds S.D.nb).length=i0 at*
    refine cal ?_ (c:=Abl L X T w2.r w2.ka a.iw hd ⟨bd.last,by have:=bd.nx;omega⟩ (by have:=bd.dn;omega) (by omega) (fun b e hb h3 _=>a.mvH w2.r.dv.ok (by omega) hd bd (by omega) b hb h3))
    rintro _ h3 ⟨e,S3,κ3,rfl,m,r3,a3⟩
    have w3:=w2.chg a3 r3
    obtain⟨k6a,c6a⟩:=a3.b2 k6 c6
    obtain⟨k10a,c10a⟩:=a3.b2 k10 c10
    have l6:=k6a.lt
    have l10:=k10a.lt
    refine wk ?_
    refine il L X.f26.1 (Tm rfl (E5 rfl (Bk.e lkp) rfl Er)) G ?_
    refine fin (h3:=h3) (fun j=>j=h.n+1+1) w3 a3 ?_ (fun b _ e=>⟨by omega,by rw [e];exact c10a⟩) (w3.q.kp (B:=fun j=>j=h.n+1+1) ?_ (fun b e _ u=>by subst e;rw [c10a]at u;omega)) (.move m a w2.r.dv.ok jq bd (by omega) hS z hd)
    ·exact kps
    ·exact kps
 refine main _ _ kps lkp lkp lkp ?_ tsb;simp only [Al];omega
omit L X in
theorem ApR.rc2 (q:ApR κ h I S)(hc: ∀b,b<h.n→κ b≠200→κ' b=κ b):ApR κ' h I S:=by obtain⟨t1,t2,t3,t4,t5,t6,t7,t8,t9,t10⟩:=q.lt;obtain⟨c1,c2,c3,c4,c5,c6,c7,c8,c9,c10⟩:=q.col;have col: ∀{b n:Nat},b<h.n→κ b=n→n<200→κ' b=n:=fun h1 h2 h3=>(hc _ h1 (by omega)).trans h2;obtain⟨ok,fm,bb,cb,d⟩:=q.dv;exact⟨q.sk,q.po,⟨ok,fm,bb,cb,d.dk,col d.dk.lt d.dcol (by omega),d.fk,col d.fk.lt d.fcol (by omega),d.bk,col d.bk.lt d.bcol (by omega),d.blen,d.nb,fun i hi=>by obtain⟨pn,c,b⟩:=d.rows i hi;exact⟨pn,c,b.c0,b.c1,b.c2,b.row.k,col b.row.k.lt b.row.col (by have:=d.nb;omega),b.row.len,fun j hj=>⟨(b.row.pg j hj).st,(b.row.pg j hj).none,fun hs=>let⟨x,h1,h2,h3⟩:=(b.row.pg j hj).full hs;⟨x,h1,col h3.lt_n h2 (by omega),h3⟩⟩⟩⟩,q.mp,q.mj,q.ms,q.mw,col t1 c1 (by omega),col t2 c2 (by omega),col t3 c3 (by omega),col t4 c4 (by omega),col t5 c5 (by omega),col t6 c6 (by omega),col t7 c7 (by omega),col t8 c8 (by omega),col t9 c9 (by omega),col t10 c10 (by omega)⟩
def Ap.all (S:Ap)(n:Nat):List (List Nat):=(List.range n).map fun i=>S.rd ((i:Nat):Int)
theorem Pl (r:ApR κ h I S)(ka:Bk h ab [.ptr I.s 0])(hka:κ ab=0)(a:AInv S)(hd:S.down=false)(hS:1≤S.S∧S.S≤10): Ct P0 E F K 32 [.ptr ab 0,AN S.D.sz,AN S.S] h fun v h'=> ∃κ' dv,v= .agg [AN S.D.sz,dv]∧DkR h' (fun b=>κ' b=0) dv S.D.sz (S.all S.S)∧ApR κ' h' I S∧AChg κ h κ' h':=by
 have lk:=ka.lt;have hoff:S.D.off=false:=a.pw.trans hd;refine Bf L X.f32 fun Q x cs G=>?_;refine wk ?_;refine Bs L (α:= (Nat→Nat)×AV) (T:=fun i _=> [(8,some (AN i)),(7,some (.ptr (h.n+1) 0)),(6,some (.ptr h.n 0)),(2,some (AN S.S)),(0,some (.ptr ab 0))]) (n:=S.S) (R:=fun i s h2=>ApR s.1 h2 I S∧AChg κ h s.1 h2∧(Bk h2 (h.n+1) [AN S.D.sz,s.2]∧s.1 (h.n+1)=200)∧(Bk h2 h.n [Zi,.nils]∧s.1 h.n=200)∧DkR h2 (fun b=>h.n+2≤b∧(s.1 b=0∨s.1 b=200)) s.2 S.D.sz (S.all i)∧ ∀b n c,s.2= .slc b 0 n c→s.1 b=200) (i0:=0) (Iu κ h.n,.nils) tsb ⟨r.k0 (by exact kps) fun b hb=>Ca hb,AChg.k0 (by exact kps) fun b hb=>Ca hb,⟨lkp,Cq (by omega)⟩,⟨lkp,Cq (Nat.le_refl _)⟩,⟨.inl ⟨rfl,rfl⟩⟩,(fun _ _ _ e=>by cases e)⟩ (Nat.zero_le _) ?_ ?_
 ·rintro i ⟨κi,dv⟩ h2 hi ⟨r2,a2,⟨k7,c7⟩,⟨k6,c6⟩,q2,hl2⟩ ih;simp only at r2 a2 k7 c7 k6 c6 q2 hl2;obtain⟨ka2,hka2⟩:=a2.bk ka hka;refine cal ?_ (c:=Abj L X r2 ka2 ⟨by omega,by omega⟩ hd hoff a.rdOk);rintro _ h3 ⟨κ3,b,c,rfl,kb,cb,hb,r3,a3⟩;have n3:=a3.k.n;obtain⟨k73,c73⟩:=a3.b2 k7 c7;obtain⟨k63,c63⟩:=a3.b2 k6 c6;have l7:=k73.lt;have l6:=k63.lt;have n2:=a2.k.n;have lb:=kb.lt_n;have l72:h.n+1<h2.n:=k7.lt;have hb2:h.n+2≤b:=by omega
  have q3:DkR h3 (fun b=>h.n+2≤b∧(κ3 b=0∨κ3 b=200)) dv S.D.sz (S.all i):=(DkR.kp (U:=fun b=>b<h2.n∧h.n+2≤b∧(κi b=0∨κi b=200)) (q2.mono fun b hb u=>⟨hb,u⟩) a3.k fun b e hb u=>by omega).mono fun b hb u=>by rw [a3.col b u.1];exact u.2
  have hsz:=R7 a r.dv.ok (i:Int);have hal:S.all (i+1)=S.all i++ [S.rd (i:Int)]:=by unfold Ap.all;rw [List.range_succ,List.map_append];rfl
  have hlen:(S.all i).length=i:=by unfold Ap.all;rw [List.length_map,List.length_range]
  have hl3: ∀b n c,dv= .slc b 0 n c→b<h2.n:=fun b n c e=>by rcases q2.ex with⟨-,e2⟩|⟨-,lb,rows,e2,kl,-⟩ <;> rw [e2]at e <;> cases e;exact kl.lt
  refine cal ?_ (c:=J5 L X);rintro _ rfl;refine wk ?_
  have done: ∀(h4:H) (B:Nat→Prop) (dv':AV) (lq:List (Nat×Option AV)),Kp B h3 h4→(∀b,B b→b=h.n+1∨b<h2.n∧κ3 b=200∧h.n+2≤b)→Bk h4 (h.n+1) [AN S.D.sz,dv']→Bk h4 h.n [Zi,.nils]→DkR h4 (fun b=>h.n+2≤b∧(Iu κ3 h3.n b=0∨Iu κ3 h3.n b=200)) dv' S.D.sz (S.all i++ [S.rd (i:Int)])→(∀b n c,dv'= .slc b 0 n c→Iu κ3 h3.n b=200)→
    TSub (tms [(8,some (AN (i+1))),(7,some (.ptr (h.n+1) 0)),(6,some (.ptr h.n 0)),(2,some (AN S.S)),(0,some (.ptr ab 0))]) (tms lq)→
    Good P0 E Q ⟨⟨32,cf32.ntmps,tms lq,[.inLoop Afq,.inBlock 0,.code Afr],[],.run,false,none⟩,x::cs,h4⟩:=by
   intro h4 B dv' lq k4 hB z1 z2 z3 z4 ht
   refine ih (Iu κ3 h3.n,dv') _ _ ⟨r3.own k4 (fun b hb e=>?_) (fun b hb=>Ca hb),AChg.own (a2.trans a3) k4 (fun b e=>by rcases hB b e with e|e <;> omega) (fun b hb=>Ca hb),⟨z1,(Ca l7).trans c73⟩,⟨z2,(Ca l6).trans c63⟩,by rw [hal];exact z3,z4⟩ ht
   rcases hB b e with e|e
   ·rw [e,c73];exact Nat.le_refl _
   ·omega
  rcases q3.ex with⟨e0,rfl⟩|⟨h1,lb',rows,rfl,g3,g4,g5,g6⟩;·have:i=0:=(by have:=congrArg List.length e0;rw [hlen]at this;exact this);subst this;(apply st1 L rfl;exact Dr (new:= [.slc b 0 S.D.sz c]) rfl rfl (SlR.of (c:= [.slc b 0 S.D.sz c]) lkp (Nat.le_refl _) rfl) (by omega) (by omega);rfl);refine wk ?_;refine done _ (fun j=>j=h.n+1) _ _ (by exact kps) (fun b e=> .inl e) (by exact lkp) (by exact lkp) (DkR.app (rows:= []) (L:= []) (n:=0) (b:=(b,c)) (by exact lkp) ⟨by omega,.inr (Cq (by omega))⟩ rfl rfl (fun i b d e=>by simp at e) (kb.kp (S:=fun j=>j=h.n+1) (by exact kps) (by omega)) hsz ⟨⟨hb2,.inl ((Ca lb).trans cb)⟩,(by show b≠_;omega)⟩) (fun _ _ _ e=>by cases e;exact Cq (by omega)) tsb
  ·have hb3:=hl3 _ _ _ rfl;have c3:κ3 lb'=200:=(a3.col _ hb3).trans (hl2 _ _ _ rfl);rw [hlen]at h1 g5;have l3:=g3.lt;(apply st1 L rfl;exact Dq (old:=rows.map fun b=>AV.slc b.1 0 S.D.sz b.2) (new:= [.slc b 0 S.D.sz c]) rfl rfl (SlR.of (c:=rows.map fun b=>AV.slc b.1 0 S.D.sz b.2) lkp (by rw [Hd];omega) (by rw [List.drop_zero,List.take_of_length_le (by rw [Hd];omega)])) (SlR.of (c:= [.slc b 0 S.D.sz c]) lkp (Nat.le_refl _) rfl) (by omega) (by omega) rfl;rfl);refine wk ?_;refine done _ (fun j=>j=lb'∨j=h.n+1) (.slc (h3.n+1) 0 ((S.all i).length+1) (Aa+1)) _ (by exact kps) (fun b e=>by rcases e with rfl|e;exact .inr ⟨hb3,c3,g4.1⟩;exact .inl e) (by exact lkp) (by exact lkp) (DkR.app (rows:=rows) (b:=(b,c)) (by exact lkp) ⟨by omega,.inr (Cq (by omega))⟩ (by rw [g5,hlen]) rfl (fun j b d e1 e2=>?_) (kb.kp (S:=fun j=>j=lb'∨j=h.n+1) (by exact kps) (by omega)) hsz ⟨⟨hb2,.inl ((Ca lb).trans cb)⟩,(by show b≠_;omega)⟩) (fun _ _ _ e=>by cases e;exact Cq (by omega)) tsb;obtain⟨y1,y2,y3,y4⟩:=g6 j b d e1 e2;have y5:=y1.lt_n;exact⟨y1.kp (S:=fun j=>j=lb'∨j=h.n+1) (by exact kps) (by omega),y2,by rw [Ca y5];exact y3,by omega⟩
 ·rintro⟨κi,dv⟩ h2 ⟨r2,a2,⟨k7,c7⟩,⟨k6,c6⟩,q2,hl2⟩;simp only at r2 a2 k7 c7 k6 c6 q2 hl2;have l6:=k6.lt;have l7:=k7.lt;have hp9:=q2.plain (z:=(S.D.sz:Int));refine wk ?_;(apply stS L rfl rfl rfl rfl rfl hp9;exact lkp;rfl;rfl);refine ret X.f32.1 ?_;refine⟨fun b=>if b<h.n then κi b else if κi b=200 then 0 else κi b,dv,rfl,(q2.kp (B:=fun j=>j=h.n) kps (fun b e _ u=>by omega)).mono fun b _ u=>?_,(r2.out (B:=fun j=>j=h.n) ?_ (fun b _ e=>by subst e;omega)).rc2 fun b _ e=>?_,AChg.mk (Kp.trS (S':=fun j=>j=h.n) (m:=h2) ?_ (fun b hb e=>by omega) a2.k) fun b hb=>?_⟩;·show(if b<h.n then κi b else if κi b=200 then 0 else κi b)=0;rw [if_neg (by omega)];split <;> omega
  ·exact kps
  ·show(if b<h.n then κi b else if κi b=200 then 0 else κi b)=κi b;rw [if_neg e];exact ite_self _
  ·exact kps
  ·show(if b<h.n then κi b else if κi b=200 then 0 else κi b)=κ b;rw [if_pos hb];exact a2.col b hb
end
variable {Z':List (List Nat)}{al:List Act}{b13 b16 b4 g0 g1 g3 k nS:Nat}{dv' lv v':AV}{kk:List AItem}{lq:List (Nat×Option AV)}{p:Prop}{z:Int}
theorem Aop (h:p:=by
 refine Bf L X.f22 fun Q x cs G=>?_
 refine wk ?_
 refine Bt L ?_
 refine ret X.f22.1 ?_
 exact⟨true,rfl,fun _=>⟨⟨s0,s1,s2,s3,s4,s5,s6,s7,s8,s9,by simp⟩,fun x hx=>by cases hx⟩,kps⟩):p:=h
theorem Aoq (h:p:=by
 refine wk ?_
 (apply st1 L rfl;exact Br rfl lkr key;rfl)
 refine wk ?_
 exact ih () _ _ ⟨ok (by simp),by exact kps⟩ tsb):p:=h
theorem Adn (h:p:=by
 refine Bf L X.f22 fun Q x cs G=>?_
 refine ret X.f22.1 ?_
 exact⟨false,rfl,nl,kps⟩):p:=h
section
variable {P0:Program}{E:Env}{F:T CFn}{K:T (List AV×AV)}(L:Lg P0 E F K)(X:Fx F K)
include L X
omit L X in
theorem Ahc {es:List Ent}{e:Ent}(hx:es[i]?=some e):(es.flatMap Az)[i*2+0]?=some (AI e.1)∧(es.flatMap Az)[i*2+1]?=some (AI e.2):=by
 refine⟨?_,?_⟩;·rw [Di es (Fi es) i 0 e hx (by omega)];rfl
 ·rw [Di es (Fi es) i 1 e hx (by omega)];rfl
omit L X in
theorem Abt {l:List (Nat×Option AV)}{x:O}{q:Bool}{a b:Int}(e:evO l x=some (.agg [AI a,AI b]))(e1:evO l y=some (.agg [AI a,AI b])):XV (.bin .neq x y q (.agg [(0,0,.pint),(1,0,.pint)])) h l (.bool false) h:=by refine⟨?_⟩;simp [exec,Ah,Ab e,Ab e1,F0,St,Vx,Uf,eqv,H7,Xy,Gf,Bb,Ri,vo]
theorem Abu {lo':Nat}{es:List Ent}(q:EL h lo v es)(q':EL h lo' v' es)(hl:es.length≤1000000):Ct P0 E F K 30 [v,v'] h fun u h'=>u= .bool true∧K0 h h':=by
 rcases q.len with⟨rfl,rfl⟩|⟨g1,b,rfl,g3,_⟩
 ·rcases q'.len with⟨_,rfl⟩|⟨g1',_⟩;·refine Af L X.f30 fun Q x cs G=>?_;refine wk ?_;refine Bt L ?_;refine ret X.f30.1 ?_;exact⟨rfl,kps⟩
  ·exact absurd g1' (Nat.lt_irrefl _)
 ·rcases q'.len with⟨rfl,_⟩|⟨_,b',rfl,g3',_⟩;·exact absurd g1 (Nat.lt_irrefl _)
  have l1:=g3.lt;have l2:=g3'.lt;refine Af L X.f30 fun Q x cs G=>?_;refine wk ?_;refine Bs L (α:= Unit) (T:=fun i _=> [(5,some (AN i)),(1,some (.slc b' 0 es.length (Aa+2))),(0,some (.slc b 0 es.length (Aa+2)))]) (n:=es.length) (R:=fun _ _ h2=>K0 h h2) (i0:=0) () tsb kps (Nat.zero_le _) ?_ ?_;·rintro i _ h2 hi w1 ih;have hx:es[i]?=some es[i]:=List.getElem?_eq_getElem hi;obtain⟨x1,x2⟩:=Ahc hx;have gb:=Ag w1 g3;have gb':=Ag w1 g3';generalize es[i]=e at*;obtain⟨ea,eb⟩:=e;simp only at x1 x2;refine wk ?_;(apply Ax rfl rfl;exact Abt rfl rfl);refine wk ?_;exact ih () _ _ (by exact kps) tsb
  ·rintro _ h2 w1;refine ret X.f30.1 ?_;exact⟨rfl,kps⟩
theorem Vw {U':Nat→Prop}{sz sz':Nat}{z':Int}(q:DkR h U v sz Z)(q':DkR h U' v' sz' Z')(hl:Z.length=Z'.length∧0<Z.length∧Z.length≤10):Ct P0 E F K 33 [.agg [AI z,v],.agg [AI z',v']] h fun u h'=>u= .bool (decide (Z=Z'))∧K0 h h':=by
 obtain⟨hl,hp,hm⟩:=hl;rcases q.ex with⟨rfl,-⟩|⟨-,b,r,rfl,k,-,kl,kr⟩;·exact absurd hp (Nat.lt_irrefl _)
 rcases q'.ex with⟨rfl,-⟩|⟨-,b',r',rfl,k',-,kl',kr'⟩;·rw [hl]at hp;exact absurd hp (Nat.lt_irrefl _)
 rw [←hl]at kl';have l1:=k.lt;have l2:=k'.lt;refine Af L X.f33 fun Q x cs G=>?_;refine wk ?_;refine Bs L (α:= Unit) (T:=fun i _=> [(5,some (AN i)),(3,some (.ptr (h.n+1) 0)),(2,some (.ptr h.n 0))]) (n:=Z.length) (R:=fun i _ h2=>Z.take i=Z'.take i∧Bk h2 h.n [AI z,.slc b 0 Z.length (Aa+1)]∧Bk h2 (h.n+1) [AI z',.slc b' 0 Z'.length (Aa+1)]∧K0 h h2) (i0:=0) () tsb ⟨rfl,lkp,lkp,kps⟩ (Nat.zero_le _) ?_ ?_
 ·rintro i _ h2 hi ⟨w0,w1,w2,w3⟩ ih;have l3:=w1.lt;have l4:=w2.lt;have hx:r[i]?=some r[i]:=List.getElem?_eq_getElem (by omega);have hx':r'[i]?=some r'[i]:=List.getElem?_eq_getElem (by omega);have hz:Z[i]?=some Z[i]:=List.getElem?_eq_getElem hi;have hz':Z'[i]?=some (Z'[i]'(by omega)):=List.getElem?_eq_getElem (by omega);obtain⟨g1,g2,-⟩:=kr i _ _ hx hz;obtain⟨g1',g2',-⟩:=kr' i _ _ hx' hz';have hr:(r.map fun b=>AV.slc b.1 0 sz b.2)[i]?=some (.slc r[i].1 0 sz r[i].2):=by rw [List.getElem?_map,hx];rfl
  have hr':(r'.map fun b=>AV.slc b.1 0 sz' b.2)[i]?=some (.slc r'[i].1 0 sz' r'[i].2):=by rw [List.getElem?_map,hx'];rfl
  have k2:=Ag w3 k;have k2':=Ag w3 k';have t1:Z.take (i+1)=Z.take i++ [Z[i]]:=by rw [List.take_add_one,hz];rfl
  have t2:Z'.take (i+1)=Z'.take i++ [Z'[i]'(by omega)]:=by rw [List.take_add_one,hz'];rfl
  rw [t1,t2,w0]at ih;have hne:Z[i]≠Z'[i]'(by omega)→Z≠Z':=fun h e=>by subst e;exact h rfl
  generalize r[i]=x1 at*;generalize r'[i]=x2 at*;generalize Z[i]=d1 at*;generalize (Z'[i]'(by omega))=d2 at*;refine wk ?_;(apply Ax rfl rfl;exact Ac0 rfl (g1.k0 w3) g2);refine wk ?_;(apply Ax rfl rfl;exact Ac0 rfl (g1'.k0 w3) g2');(apply Ax rfl rfl;exact Ajm rfl rfl);by_cases e:d1=d2;·rw [decide_eq_false (show¬d1≠d2 from fun h=>h e)];refine wk ?_;refine ih () _ _ ⟨by rw [e],by exact lkp,by exact lkp,by exact kps⟩ tsb
  ·rw [decide_eq_true e];refine ret X.f33.1 ?_;exact⟨by rw [decide_eq_false (hne e)];rfl,kps⟩
 ·rintro _ h2 ⟨w0,w1,w2,w3⟩;rw [List.take_length,hl,List.take_length]at w0;have l3:=w1.lt;have l4:=w2.lt;refine ret X.f33.1 ?_;exact⟨by rw [decide_eq_true w0];rfl,kps⟩
abbrev Act:=(Int×Int×List Int×Int×Int)×AV
def acC (x:Act):List AV:= [AI x.1.1,AI x.1.2.1,x.2,AI x.1.2.2.2.1,AI x.1.2.2.2.2]
omit L X in
theorem K1 (l:List Act): ∀x∈l,(acC x).length=5:=fun _ _=>rfl
structure AcR (κ: Nat→Nat)(h:H)(v:AV)(l:List Act):Prop where
 el: ∀x∈l,IntsR κ h x.2 x.1.2.2.1
 ex:(l= []∧v= .nils)∨(l= []∧ ∃a,v= .opq (.slice (some a) 0 0))∨ ∃b cap,v= .slc b 0 l.length cap∧Rk h b (l.flatMap acC)∧κ b=0
omit L X in
theorem AcR.fw {l:List Act}(q:AcR κ h v l)(f:Fw κ h κ' h'):AcR κ' h' v l:=by refine⟨fun x hx=>(q.el x hx).fw f,?_⟩;exact Apd
def Abv (g0 g1 g2 g3:Int):List AV:= [AI g0,AI g1,AI g2,AI g3]
def Ado (g0 g1 g2 g3 S:Int)(n:Nat):Prop:=4≤g0∧g0≤12∧2≤g1∧g1≤5∧12≤g2∧g2≤30∧1≤g3∧g3≤1000∧1≤S∧S≤8∧n≤30
theorem xz {g0 g1 g2 g3 S:Int}{l:List Act}(k:AcR κ h v l):Ct P0 E F K 22 [.agg (Abv g0 g1 g2 g3),AI S,v] h fun u h'=> ∃b:Bool,u= .bool b∧(b=true→Ado g0 g1 g2 g3 S l.length∧ ∀x∈l,x.1.2.2.1.length≤6)∧K0 h h':=by
 have nl: ∀{p:Prop},(false:Bool)=true→p:=fun e=>by cases e
 have sp:(g0<4∨4≤g0∧(12<g0∨g0≤12∧(g1<2∨2≤g1∧(5<g1∨g1≤5∧(g2<12∨12≤g2∧(30<g2∨g2≤30∧(g3<1∨1≤g3∧(1000<g3∨g3≤1000∧(S<1∨1≤S∧8<S)))))))))∨(4≤g0∧g0≤12∧2≤g1∧g1≤5∧12≤g2∧g2≤30∧1≤g3∧g3≤1000∧1≤S∧S≤8):=by omega
 rcases sp with sp|⟨s0,s1,s2,s3,s4,s5,s6,s7,s8,s9⟩
 ·rcases sp with sp|⟨h0,sp|⟨h1,sp|⟨h2,sp|⟨h3,sp|⟨h4,sp|⟨h5,sp|⟨h6,sp|⟨h7,sp|⟨h8,sp⟩⟩⟩⟩⟩⟩⟩⟩⟩
  all_goals
   exact Adn
 rcases k.ex with⟨rfl,rfl⟩|⟨rfl,a,rfl⟩|⟨b,cap,rfl,hb,hc⟩;·exact Aop
 ·exact Aop
 have lb:=hb.lt;by_cases hm:30<l.length;·exact Adn
 refine Bf L X.f22 fun Q x cs G=>?_;refine wk ?_;refine Bs L (α:= Unit) (T:=fun i _=> [(7,some (AN i)),(2,some (.slc b 0 l.length cap))]) (n:=l.length) (R:=fun i _ h2=>(∀x∈l.take i,x.1.2.2.1.length≤6)∧K0 h h2) (i0:=0) () tsb ⟨by simp,kps⟩ (Nat.zero_le _) ?_ ?_
 ·rintro i _ h2 hi ⟨w1,w2⟩ ih;have hx:l[i]?=some l[i]:=List.getElem?_eq_getElem hi;have htk:l.take (i+1)=l.take i++ [l[i]]:=by rw [List.take_add_one,hx];rfl
  have hk:=Rl w2 hb;have hin:=List.getElem_mem hi;have key:(l.flatMap acC)[i*5+2]?=some l[i].2:=by rw [Di l (K1 l) i 2 _ hx (by omega)];rfl
  have hq:=k.el _ hin;generalize l[i]=y at*;obtain⟨⟨yw,yb,ys,y1,y2⟩,yv⟩:=y;simp only at hq key;have ok:ys.length≤6→ ∀x∈l.take (i+1),x.1.2.2.1.length≤6:=fun h6 x hx=>by
   rw [htk]at hx;rcases List.mem_append.1 hx with h|h;·exact w1 x h
   ·rw [List.mem_singleton]at h;subst h;exact h6
  rcases hq.ex with⟨rfl,rfl⟩|⟨rfl,a,rfl⟩|⟨c,cp,rfl,-,-⟩;·exact Aoq
  ·exact Aoq
  ·by_cases h6:ys.length≤6;·refine wk ?_;(apply st1 L rfl;exact Br rfl lkr key;rfl);refine wk ?_;exact ih () _ _ ⟨ok h6,by exact kps⟩ tsb
   ·refine wk ?_;(apply st1 L rfl;exact Br rfl lkr key;rfl);refine ret X.f22.1 ?_;exact⟨false,rfl,nl,kps⟩
 ·rintro _ h2 ⟨w1,w2⟩;rw [List.take_length]at w1;refine ret X.f22.1 ?_;exact⟨true,rfl,fun _=>⟨⟨s0,s1,s2,s3,s4,s5,s6,s7,s8,s9,by omega⟩,w1⟩,by exact kps⟩
theorem Xt {c:Nat}(U:SortOk P0 E F 171)(r:ApR κ h I S)(kc:Bk h c [.nils])(hc:200≤κ c): Ct P0 E F K 91 [.ptr I.s 0,.ptr c 0] h fun v h'=>Kp (fun j=>j=c) h h'∧ ∃w D,Bk h' c [w]∧DomA S.A D∧D.length≤1000∧EL h' h.n w (A8 S.A D):=by have sk:=r.sk;have ls:=sk.lt;have lc:=kc.lt;have hcol:=r.col;unfold apC at sk;refine Af L X.f91 fun Q x cs G=>?_;refine cal ?_ (c:=Hc L X U r.mp);rintro _ h2 ⟨D,d1,d2,d3,k2⟩;have n2:=k2.n;obtain⟨p1,p2⟩:=d3.plain;generalize hv:A8 S.A D=es at*;refine wk ?_;(apply Aaf L rfl rfl rfl p1 p2;exact lkp;(show 0<1;omega);rfl);refine ret X.f91.1 ?_;refine⟨kps,_,D,lkp,d1,d2,?_⟩;rw [hv];exact d3.kS (S:=fun j=>j=c) kps fun b hb e=>by omega
theorem Z4 (U:SortOk P0 E F 171)(r:ApR κ h I S)(ka:Bk h ab [.ptr I.s 0]): Ct P0 E F K 31 [.ptr ab 0] h (fun v h'=> ∃κ' D,DomA S.A D∧D.length≤1000∧EL h' h.n v (A8 S.A D)∧(∀b n c,v= .slc b 0 n c→κ' b=0)∧ApR κ' h' I S∧AChg κ h κ' h'):=by
 have lk:=ka.lt;refine Ao L X.f31 fun Q x cs G=>?_;refine wk ?_;have k1:K0 h (hp (h.n+1) h.t [(h.n,some (cl [.nils]))]):=kps;have hc1: ∀b,b<h.n→Iu κ h.n b=κ b:=fun b hb=>Ca hb;have r1:ApR (Iu κ h.n) (hp (h.n+1) h.t [(h.n,some (cl [.nils]))]) I S:=r.k0 k1 hc1;have a1:AChg κ h (Iu κ h.n) (hp (h.n+1) h.t [(h.n,some (cl [.nils]))]):=AChg.k0 k1 hc1;have kc1:Bk (hp (h.n+1) h.t [(h.n,some (cl [.nils]))]) h.n [.nils]:=lkp;have hn1:(hp (h.n+1) h.t [(h.n,some (cl [.nils]))]).n=h.n+1:=rfl
 have cl1: ∀κ2 h2,K0 (hp (h.n+1) h.t [(h.n,some (cl [.nils]))]) h2→(hp (h.n+1) h.t [(h.n,some (cl [.nils]))]).n<h2.n→(∀b,b<(hp (h.n+1) h.t [(h.n,some (cl [.nils]))]).n→κ2 b=Iu κ h.n b)→ApR κ2 h2 I S→CtX P0 E F K 91 (.ptr I.s 0:: [.ptr h.n 0]) h2
   (fun v h'=> ∃κ' S',ApR κ' h' I S'∧AChX (fun j=>j=h.n) κ2 h2 κ' h'∧(S'=S∧ ∃w D,Bk h' h.n [w]∧DomA S.A D∧D.length≤1000∧EL h' (h.n+2) w (A8 S.A D)∧ ∀b n c,w= .slc b 0 n c→κ' b=0))
   (fun v h'=> ∃κ' S' e,v= .ifc 34 (AI e)∧ApR κ' h' I S'∧AChX (fun j=>j=h.n) κ2 h2 κ' h'∧False):=by
  intro κ2 h2 k2 n2 c2 r2
  rw [hn1]at n2 c2
  have hk1:κ2 h.n=200:=(c2 _ (by omega)).trans (Cq (Nat.le_refl _))
  refine((Xt L X U r2 (Ag k2 kc1) (by omega)).mono ?_).X
  rintro v h' ⟨q1,w,D,q2,d1,d2,d3⟩
  refine⟨ext κ2 h2.n,S,r2.own q1 (fun j _ e=>by subst e;omega) fun b hb=>Aj hb,⟨q1.mono fun b e=> .inr e,fun b hb=>Aj hb⟩,rfl,w,D,q2,d1,d2,d3.mono (by omega),?_⟩
  rintro b n c rfl
  exact B0 d3.blt.2
 refine cal ?_ (c:=He L X r1 (Ag k1 ka) (fun b e=>by subst e;exact Nat.lt_succ_self _) cl1);rintro v h2 ⟨κ',S',h1,r',a',k',hv⟩;rw [hn1]at k';rcases hv with⟨rfl,u,rfl,w,D,q1,d1,d2,q2,q3⟩|⟨e,rfl,q⟩
 ·have a2:AChg κ h κ' h2:=a'.own a1 fun b e=>by subst e;exact Nat.le_refl _
  have q1':Bk h2 h.n [w]:=Aq k' (by omega) q1;have q2':EL h2 (h.n+2) w (A8 S'.A D):=q2.kS k' fun b hb e=>by omega
  have lq:=q1'.lt;have hk1:κ' h.n=200:=(a'.col _ (by rw [hn1];omega)).trans (Cq (Nat.le_refl _));obtain⟨p1,p2⟩:=q2'.plain;refine wk ?_;(apply Aaf L rfl rfl rfl p1 p2;exact lkp;(show 0<1;omega);rfl);refine ret X.f31.1 ?_;refine⟨κ',D,d1,d2,(q2'.kS (S:=fun j=>j=h.n) ?_ fun b hb e=>by omega).mono (by omega),q3,r'.out (B:=fun j=>j=h.n) ?_ (fun b _ e=>by subst e;omega),AChg.own (B:=fun j=>j=h.n) a2 ?_ (fun b e=>by subst e;exact Nat.le_refl _) fun _ _=>rfl⟩;·exact kps
  ·exact kps
  ·exact kps
 ·exact q.elim
omit L X
theorem Abw (q:AInv S){D:List Int}(h:DomA S.A D): ∀j x,(A8 S.A D)[j]?=some x→okE S.S (S.D.nb*S.D.P) (stA (fun _=>none) (A8 S.A D) j) x:=by
 intro j x hx;have mem: ∀y∈A8 S.A D,S.A y.1=some y.2:=fun y hy=>by obtain⟨s,hs,rfl⟩:=List.mem_map.1 hy;obtain⟨p,hp⟩:=Option.isSome_iff_exists.1 ((h.mem s).1 hs);show S.A s=some (atA S.A s);unfold atA;rw [hp];rfl
 have hm:=mem x (List.mem_of_getElem? hx);obtain⟨r1,r2,b,i,g1,g2,g3,-⟩:=q.map x.1 x.2 hm;have hb:b*S.D.P+i<S.D.nb*S.D.P:=by have:=Nat.mul_le_mul_right S.D.P (show b+1≤S.D.nb from g2);rw [Nat.succ_mul]at this;omega
 refine⟨⟨r1,r2,by omega,by omega⟩,?_⟩;rintro⟨s,hs,hne⟩;rcases Gx j s x.2 hs with h1|⟨j',e,h1,h2,h3,h4,h5⟩;·cases h1
 ·have:=mem e (List.mem_of_getElem? h2);rw [h3,h4]at this;exact hne (q.inj _ _ _ this hm)
theorem Ap.rd_eq {T:Ap}(hA:T.A=S.A)(hb:T.D.bl=S.D.bl)(hP:T.D.P=S.D.P∧T.D.sz=S.D.sz)(s:Int):T.rd s=S.rd s:=by unfold Ap.rd;rw [hA,hb,hP.1,hP.2]
theorem ZR.of {T:Ap}(z:ZR S Z)(hS:T.S=S.S)(h: ∀s,T.rd s=S.rd s):ZR T Z:=⟨z.len.trans hS.symm,fun i d hi=>by rw [h];exact z.rd i d hi⟩
theorem ZR.all (z:ZR S Z):S.all S.S=Z:=by
 apply List.ext_getElem?;intro i;unfold Ap.all;rw [List.getElem?_map];by_cases h:i<S.S
 ·rw [List.getElem?_range h,Option.map_some];have hi:i<Z.length:=by rw [z.len];exact h
  rw [List.getElem?_eq_getElem hi,z.rd i _ (List.getElem?_eq_getElem hi)]
 ·rw [List.getElem?_eq_none (by rw [List.length_range];omega),List.getElem?_eq_none (by rw [z.len];omega)];rfl
theorem Abx {nb P sz en S:Nat}{flt:Nat→Bool}(h0:2≤nb∧nb≤12)(h1:2≤P∧P≤6)(h2:12≤sz∧sz≤30)(h3:1≤en∧en≤1000): AInv (Ap.ini (Dv.new nb P sz en flt) S (fun _=>none) 1 0 [] [])∧JS (Ap.ini (Dv.new nb P sz en flt) S (fun _=>none) 1 0 [] [])∧Bd (Ap.ini (Dv.new nb P sz en flt) S (fun _=>none) 1 0 [] []) k∧ZR (Ap.ini (Dv.new nb P sz en flt) S (fun _=>none) 1 0 [] []) (List.replicate S (List.replicate sz 0)):=by
 have hsel: ∀k,(Ap.ini (Dv.new nb P sz en flt) S (fun _=>none) 1 0 [] []).sel k= -1:=fun k=>by cases k <;> rfl
 have hps: ∀b,(Ap.ini (Dv.new nb P sz en flt) S (fun _=>none) 1 0 [] []).ps b=1:=fun b=>by show(if((b:Nat):Int)∈([]:List Int)++ []then 3 else 1)=1;simp
 refine⟨⟨⟨h0,h1,h2,h3⟩,rfl,Nat.le_refl _,⟨fun k=>⟨fun h=>?_,?_⟩,fun k h=>?_⟩,fun b _=>Nat.zero_le _,fun b _ h=>?_,fun b _ _=>rfl,fun y h=>?_,fun h=>?_,fun h=>?_,fun s p h=>?_,fun s s' p h=>?_⟩,⟨[],[],⟨fun b j _ hj=>absurd hj (Nat.not_lt_zero _),fun r hr=>(by cases hr),fun r hr=>(by cases hr)⟩,fun r hr=>(by cases hr),fun r hr=>(by cases hr),fun r hr=>(by cases hr),fun r hr=>(by cases hr),.inl rfl,rfl,fun j x h=>(by cases h),fun s p h=>?_⟩,⟨?_,fun b n h=>?_,fun b=>?_,?_,Nat.zero_le _⟩,List.length_replicate,fun i d hi=>?_⟩;·rw [hsel]at h;omega
 ·rw [hsel];omega
 ·rw [hsel]at h;omega
 ·rw [hps]at h;omega
 ·have h:decide (y∈([]:List Int))=true:=h;simp at h
 ·have h:(0:Int)≤ -1:=h;omega
 ·have h:(0:Int)≤ -1:=h;omega
 ·have h:(none:Option Int)=some p:=h;cases h
 ·have h:(none:Option Int)=some p:=h;cases h
 ·have h:(none:Option Int)=some p:=h;cases h
 ·show 0<1;omega
 ·have h:(none:Option Nat)=some n:=h;cases h
 ·show(if b<nb then 0 else 0)≤k;split <;> omega
 ·show 1≤k+1;omega
 ·rw [List.getElem?_replicate]at hi;split at hi;·cases hi;rfl
  ·cases hi
theorem Aby {T:Ap}{Hs Cs:List Rc}{js ds:List Int}(q:Jst T Hs Cs)(a:AInv T)(ok:T.D.Ok)(b:T.next≤k+1∧T.D.n≤k∧1000≤k∧k<100000)(hoff:T.D.off=false)(hS:T.S≤10)(f:Fnd T.D js ds)(hJ: ∀b:Nat,(b:Int)∈js↔ ∃r∈Cs,∃i,i<r.n T.D.sz∧ ∃j,On T b j (r.pg T.D.sz i)): AInv (Ap.ini T.D T.S T.A (A4 (Ae T.D)) T.last js ds)∧JS (Ap.ini T.D T.S T.A (A4 (Ae T.D)) T.last js ds)∧Bd (Ap.ini T.D T.S T.A (A4 (Ae T.D)) T.last js ds) (k+100):=by
 have hn:T.next<1000000:=by omega
 obtain⟨h1,h2⟩:=q.fnd a hoff hn hS f hJ;obtain⟨-,g2,-⟩:=q.seq a hn;refine⟨h1,h2,q.last a hn,fun b n h=>?_,fun i=>?_,?_,?_⟩;·have h:(none:Option Nat)=some n:=h;cases h
 ·show(if i<T.D.nb then(T.D.bl i).er else 0)≤k+100;split;·rename_i hi;have:=(ok.bl i hi).er;have:=a.geo.en;omega
  ·omega
 ·show A4 (Ae T.D)≤k+100+1;omega
 ·show T.D.n≤k+100;omega
include L X
theorem x6 (hz:z<0):Ct P0 E F K 75 [eI z] h fun u h'=>u= .bool true∧h'=h:=by refine Ao L X.f75 fun Q x cs G=>?_;refine ret X.f75.1 ?_;exact⟨rfl,rfl⟩
theorem nq {l:List Int}{j:Nat}(q:IntsR κ h v l)(hlen:l.length<1000)(hj:l[j]?=some z)(hz:z<0)(hb: ∀i x,i<j→l[i]?=some x→0≤x):Ct P0 E F K 126 [v,.fn (.func 75) [] []] h fun u h'=>u=AN j∧K0 h h':=by
 have hjl:=(List.getElem?_eq_some_iff.1 hj).1;rcases q.ex with⟨rfl,rfl⟩|⟨rfl,a,rfl⟩|⟨b,cap,rfl,hb',-⟩;·exact absurd hjl (Nat.not_lt_zero _)
 ·exact absurd hjl (Nat.not_lt_zero _)
 refine Af L X.f126 fun Q x cs G=>?_;refine wk ?_;refine Bs L (α:= Unit) (T:=fun i _=> [(8,some (AN i)),(7,some (AN l.length)),(0,some (.slc b 0 l.length cap)),(1,some (.fn (.func 75) [] []))]) (n:=j) (R:=fun i _ h2=>K0 h h2) (i0:=0) () tsb kps (Nat.zero_le _) ?_ ?_
 ·rintro i _ h2 hi k2 ih;have hk:=Rl k2 hb';have hx:(l.map eI)[i]?=some (eI (l[i]'(by omega))):=by rw [List.getElem?_map,List.getElem?_eq_getElem (by omega)];rfl
  have h0:=hb i _ hi (List.getElem?_eq_getElem (by omega));generalize (l[i]'(by omega))=x at*;(try refine Bn L 1000 rfl ?_);(repeat(first|(apply st1 L rfl;exact⟨Dy rfl⟩;rfl)|(apply st1 L rfl;exact Hw rfl rfl rfl;rfl)|(apply st1 L rfl;exact Ey rfl rfl (by omega);rfl)|(apply st1 L rfl;exact Cb rfl rfl (by omega);rfl)|(apply st1 L rfl;exact Ff rfl rfl (by omega);rfl)));(apply st1 L rfl;exact Br rfl lkr hx;rfl);refine cal ?_ (c:=bv L X h0);rintro _ rfl;refine wk ?_;exact ih () _ _ kps tsb
 ·rintro _ h2 k2;have hk:=Rl k2 hb';have hx:(l.map eI)[j]?=some (eI z):=by rw [List.getElem?_map,hj];rfl
  (try refine Bn L 1000 rfl ?_);(repeat(first|(apply st1 L rfl;exact⟨Dy rfl⟩;rfl)|(apply st1 L rfl;exact Hw rfl rfl rfl;rfl)|(apply st1 L rfl;exact Ey rfl rfl (by omega);rfl)|(apply st1 L rfl;exact Cb rfl rfl (by omega);rfl)|(apply st1 L rfl;exact Ff rfl rfl (by omega);rfl)));(apply st1 L rfl;exact Br rfl lkr hx;rfl);refine cal ?_ (c:=x6 L X hz);rintro _ rfl;refine ret X.f126.1 ?_;exact⟨rfl,k2⟩
theorem Abz {g2:Nat}(h0:2≤g0∧g0≤12)(h1:2≤g1∧g1≤6)(h2:12≤g2∧g2≤30)(h3:1≤g3∧g3≤1000){fl:List Int}(qf:IntsR κ h v fl)(hf: ¬ ∀x∈fl,0≤x)(hfn:fl.length<1000): Ct P0 E F K 23 [.agg (Gy g0 g1 g2 g3),v] h fun v h'=>v= .tup [.nilp,AN 2]∧K0 h h':=by
 obtain⟨j,z,hj,hz,hb⟩: ∃(j:Nat) (z:Int),fl[j]?=some z∧z<0∧ ∀i x,i<j→fl[i]?=some x→0≤x:=by
  cases e:fl.findIdx? (fun x=>decide (x<0))with
  |none=>rw [List.findIdx?_eq_none_iff]at e;exact absurd (fun x hx=>by have:=e x hx;simpa using this) hf
  |some j=>rw [List.findIdx?_eq_some_iff_getElem]at e;obtain⟨h1,h2,h3⟩:=e;exact⟨j,fl[j],List.getElem?_eq_getElem h1,by simpa using h2,fun i x hi hx=>by obtain⟨h4,rfl⟩:=List.getElem?_eq_some_iff.1 hx;have:=h3 i hi;simpa using this⟩
 have hfe:=qf.ex;rcases hfe with⟨rfl,rfl⟩|⟨rfl,a,rfl⟩|⟨b,cap,rfl,hb',-⟩;·cases hj
 ·cases hj
 refine Af L X.f23 fun Q x cs G=>?_;refine cal ?_ (c:=Wx L X h0 h1 h2 h3);rintro _ h4 ⟨rfl,hk4⟩;have n4:=hk4.n;simp only [Al]at n4;have cont: ∀{h5:H},IntsR κ h5 (.slc b 0 fl.length cap) fl→Ct P0 E F K 74 [.slc b 0 fl.length cap,.fn (.func 75) [] []] h5 fun u h'=>u= .bool true∧K0 h5 h':=fun {h5} q=>by refine Af L X.f74 fun Q x cs G=>?_;refine cal ?_ (c:=nq L X q hfn hj hz hb);rintro _ h6 ⟨rfl,k6⟩;refine ret X.f74.1 ?_;exact⟨rfl,k6⟩
 refine cal ?_ (c:=cont (qf.fw (Kp.fw0 (by exact kps))));rintro _ h5 ⟨rfl,hk5⟩;have n5:=hk5.n;simp only [Al]at n5;refine ret X.f23.1 ?_;exact⟨rfl,kps⟩
structure LwR (κ: Nat→Nat)(h:H)(geo:List AV)(b4 b13 d sz nS:Nat)(lv:AV)(al:List Act)(k:Nat)(S:Ap)(I:Ai)(ab:Nat)(Z:List (List Nat))(dv:AV):Prop where
 r:ApR κ h I S
 ka:Bk h ab [.ptr I.s 0]
 ca:κ ab=0
 q:DkR h (fun b=>κ b=0) dv sz Z
 ql:AcR κ h lv al
 k4:Bk h b4 geo
 c4:κ b4=0
 k13:Bk h b13 [AN sz,dv]
 c13:κ b13=200
 dI:I.d=d
 inv:AInv S
 js:JS S
 bd:Bd S k
 z:ZR S Z
 dn:S.down=false
 szz:S.D.sz=sz
 sS:S.S=nS
omit L X
theorem DomA.uniq {A:Int→Option Int}{D D':List Int}(h:DomA A D)(h':DomA A D'):D=D':=by
 have h1:D.Perm D':=(List.perm_ext_iff_of_nodup (h.lt.imp fun q=>by omega) (h'.lt.imp fun q=>by omega)).2 fun s=>by rw [h.mem,h'.mem]
 exact h1.eq_of_pairwise (fun a b _ _ q1 q2=>by omega) h.lt h'.lt
theorem Ap.up_eq (h:S.down=false): {S with D:=S.D.up}=S.up:=by cases S;cases h;rfl
theorem Ch.d {κ: Nat→Nat}{h h':H}{d:Nat}(k:Kp (fun i=>i=d) h h')(c:κ d=1):Ch κ h κ h':=⟨k.mono fun b e=>by subst e;omega,fun _ _=>rfl⟩
include L X
theorem dy {geo:List AV}{d sz:Nat}(T:Tb P0 E F K)(U:SortOk P0 E F 171)(w:LwR κ h geo b4 b13 d sz nS lv al k S I ab Z dv)(hk:k<100000)(hS:1≤nS∧nS≤8)(he:e≠50)(hi:i<1000000)  (ht:TSub (tms [(143,some (.ptr d 0)),(15,some (AN e)),(14,some (AN i)),(13,some (.ptr b13 0)),(11,some (.ptr ab 0)),(9,some (.ptr d 0)),(4,some (.ptr b4 0)),(3,some lv),(1,some (AN nS))]) (tms lq)) (G: ∀κ' h' l',LwR κ' h' geo b4 b13 d sz nS lv al k S.up I ab Z dv→TSub (tms [(14,some (AN (i+1))),(13,some (.ptr b13 0)),(11,some (.ptr ab 0)),(9,some (.ptr d 0)),(4,some (.ptr b4 0)),(3,some lv),(1,some (AN nS))]) (tms l')→ Good P0 E Q ⟨⟨5,cf5.ntmps,tms l',.inLoop Js::kk,[],.run,false,none⟩,[],h'⟩): Good P0 E Q ⟨⟨5,cf5.ntmps,tms lq,.ops [Cc 144 29 [.t 143]]:: .code Ac3:: .inBlock 1:: .code Tr:: .inLoop Js::kk,[],.run,false,none⟩,[],hp h.n h.t []⟩:=by
 refine Eh L ht ?_;obtain⟨r,ka,ca,q,ql,k4,c4,k13,c13,rfl,a,js,bd,z,dn,rfl,rfl⟩:=w;obtain⟨Hs,Cs,jq⟩:=js;have nd: ∀{b c},κ b=c→c≠1→κ I.d=1→b≠I.d:=fun h1 h2 h3 e=>by rw [e,h3]at h1;omega
 refine cal ?_ (c:=Pk L X r.dv);rintro _ h2 ⟨rfl,r2d,k2,cd⟩;have n2:=k2.n;have r2:=r.dev (Ch.d k2 cd) r2d ⟨rfl,rfl,rfl,rfl⟩;rw [Ap.up_eq dn]at r2;have ka2:=Aq k2 (nd ca (by omega) cd) ka;have k42:=Aq k2 (nd c4 (by omega) cd) k4;have k132:=Aq k2 (nd c13 (by omega) cd) k13;have f2:Fw κ h κ h2:=k2.fw fun b _ e=>by subst e;omega
 have q2:=q.kp k2 fun b e _ u=>by subst e;omega
 have ql2:=ql.fw f2;have lka:=ka2.lt;have lk13:=k132.lt;have lk4:=k42.lt;refine cal ?_ (c:=dp L X T U (S:=S.up) r2.dv jq.up a.up rfl (by have:=bd.nx;show S.next<_;omega) ⟨hS.1,by show S.S≤10;omega⟩);rintro _ h3 ⟨ev,v1,v2,Dm,js,ds,rfl,d1,d2,e1,e2,e3,f,hJ,k3⟩;have n3:=k3.n;have a3:AChg κ h2 (ext κ h2.n) h3:=AChg.k0 k3 fun b hb=>Aj hb;have r3:=r2.k0 k3 fun b hb=>Aj (κ:= κ) (n:=h2.n) hb;have pl: ∀{v:AV} {D:List Int},RowN h3 h2.n v D→Bm v=true:=fun q=>by rcases q.ex with⟨-,rfl⟩|⟨-,b,rfl,-⟩ <;> rfl
 have hp2:Ar (Iw ev v1 v2 S.up.last (A4 (Ae S.up.D)))=true:=by have a1:=e1.plain.2;show(match Bm ev with|true=>(match Bm v1 with|true=>(match Bm v2 with|true=>true|false=>false)|false=>false)|false=>false)=true;rw [a1,pl e2,pl e3]
 have kg3:=Ag k3 k42;have kb3:=Ag k3 k132;refine wk ?_;unfold Iw at hp2;(apply stS L rfl rfl rfl rfl rfl hp2;exact lkp;rfl;rfl);refine cal ?_ (c:=J5 L X);rintro _ rfl;have ka3:=Ag k3 ka2;have hc4: ∀b,b<h3.n→ext (ext κ h2.n) h3.n b=ext κ h2.n b:=fun b hb=>Aj hb;have z4: ∀b,h2.n≤b→ext (ext κ h2.n) h3.n b=0:=fun b hb=>by
  by_cases h:b<h3.n;·rw [hc4 b h];exact B0 hb
  ·exact B0 (by omega)
 refine cal ?_ (c:=Z4 (κ:= ext (ext κ h2.n) h3.n) (S:=S.up) (I:=I) L X U (r3.k0 (by exact kps) hc4) (by exact lkp));rintro ve h5 ⟨κ5,Dm',d1',d2',e4,hv,r5,a5⟩;have n5:=a5.k.n;simp only [Al]at n5;obtain rfl:=d1.uniq d1';have k19:Bk h5 h3.n (Iw ev v1 v2 S.up.last (A4 (Ae S.up.D))):=Aq a5.k (by rw [z4 _ n3];omega) (by exact lkp);have l19:=k19.lt;have e5:EL h5 h2.n ev (A8 S.up.A Dm):=(e1.k0 (Kp.tr0 (m:=h3) (by exact kps) (Kp.refl _))).kS a5.k fun b hb e=>by rw [z4 b hb]at e;omega
 have hDl:(A8 S.up.A Dm).length≤1000000:=by unfold A8;rw [List.length_map];omega
 unfold Iw at k19;have hav:K3 20 ev=true:=by rcases e1.ex with⟨-,e⟩|⟨-,b,e,-⟩ <;> rw [e] <;> rfl
 (apply p_0;(apply K4 rfl rfl opv rfl rfl);(apply K4 rfl rfl opv rfl hav);exact Q9);refine cal ?_ (c:=Abu L X e5 e4 hDl);rintro _ h6 ⟨rfl,k6⟩;have n6:=k6.n;refine wk ?_;have a15:AChg (ext κ h2.n) h3 κ5 h5:=(AChg.k0 (κ':=ext (ext κ h2.n) h3.n) (by exact kps) hc4).trans a5;have a25:AChg κ h2 (ext κ5 h5.n) h6:=(a3.trans a15).trans (AChg.k0 k6 fun b hb=>Aj hb);have n25:=a25.k.n;have f5:=a25.fw;refine G (ext κ5 h5.n) h6 _ ⟨r5.k0 k6 fun b hb=>Aj hb,(a25.bk ka2 ca).1,(a25.bk ka2 ca).2,a25.dk q2,ql2.fw f5,(a25.bk k42 c4).1,(a25.bk k42 c4).2,(a25.b2 k132 c13).1,(a25.b2 k132 c13).2,rfl,a.up,⟨Hs,Cs,jq.up⟩,⟨bd.last,bd.wr,bd.pe,bd.nx,bd.dn⟩,z.of rfl fun s=>Ap.rd_eq rfl rfl ⟨rfl,rfl⟩ s,rfl,rfl,rfl⟩ tsb
theorem x7 {d sz l0:Nat}{A':Int→Option Int}(T:Tb P0 E F K)(U:SortOk P0 E F 171) (r:ApR κ h I S) (q:DkR h (fun b=>κ b=0) dv sz Z) (q':DkR h (fun b=>κ b=0) dv' sz Z') (ql:AcR κ h lv al) (k4:Bk h b4 (Gy g0 g1 sz g3)) (c4:κ b4=0) (k13:Bk h b13 [AN sz,dv]) (c13:κ b13=200) (k16:Bk h b16 [AN sz,dv']) (c16:κ b16=200) (dI:I.d=d) (a:AInv {S with A:=A',last:=l0}) (js:JS {S with A:=A',last:=l0}) (z:ZR {S with A:=A',last:=l0} Z∨ZR {S with A:=A',last:=l0} Z') (hZ:Z.length=nS∧Z'.length=nS) (bd:Bd S k) (hk:1000≤k∧k<100000) (szz:S.D.sz=sz) (sS:S.S=nS) (hS:1≤nS∧nS≤8) (hi:i<1000000)  (ht:TSub (tms [(143,some (.ptr d 0)),(16,some (.ptr b16 0)),(15,some (AN 50)),(14,some (AN i)),(13,some (.ptr b13 0)),(11,some (.ptr ab 0)),(9,some (.ptr d 0)),(4,some (.ptr b4 0)),(3,some lv),(1,some (AN nS))]) (tms lq)) (G: ∀κ' h' l' S2 I2 ab2 Z2 dv2,LwR κ' h' (Gy g0 g1 sz g3) b4 b13 d sz nS lv al (k+100) S2 I2 ab2 Z2 dv2→TSub (tms [(14,some (AN (i+1))),(13,some (.ptr b13 0)),(11,some (.ptr ab2 0)),(9,some (.ptr d 0)),(4,some (.ptr b4 0)),(3,some lv),(1,some (AN nS))]) (tms l')→ Good P0 E Q ⟨⟨5,cf5.ntmps,tms l',.inLoop Js::kk,[],.run,false,none⟩,[],h'⟩): Good P0 E Q ⟨⟨5,cf5.ntmps,tms lq,.ops [Cc 144 29 [.t 143]]:: .code Ac3:: .inBlock 1:: .code Tr:: .inLoop Js::kk,[],.run,false,none⟩,[],hp h.n h.t []⟩:=by
 refine Eh L ht ?_;subst dI;obtain⟨Hs,Ks,jq⟩:=js;refine cal ?_ (c:=Pk L X r.dv);rintro _ h2 ⟨rfl,r2,k2,cd⟩;have n2:=k2.n;have a2:AChg κ h κ h2:=⟨k2.mono fun b e=>by subst e;omega,fun _ _=>rfl⟩;have lk16:=(a2.b2 k16 c16).1.lt;have lk13:=(a2.b2 k13 c13).1.lt;have lk4:=(a2.bk k4 c4).1.lt;generalize hT:({S with A:=A',last:=l0}:Ap)=S0 at*;have e1:S0.D=S.D:=by subst hT;rfl
 have e2:S0.S=S.S:=by subst hT;rfl
 have e3:S0.next=S.next:=by subst hT;rfl
 rw [←e1]at r2;obtain rfl:S0.S=nS:=e2.trans sS;obtain rfl:S0.D.sz=sz:=by rw [e1];exact szz
 refine cal ?_ (c:=dp L X T U (S:=S0.up) r2 jq.up a.up rfl (by have:=bd.nx;show S0.next<_;omega) ⟨by show 1≤S0.S;omega,by show S0.S≤10;omega⟩);rintro _ h3 ⟨ev,v1,v2,Dm,js,ds,rfl,d1,d2,q1,q2,q3,f,hJ,k3⟩;have n3:=k3.n;have a3:AChg κ h2 (ext κ h2.n) h3:=AChg.k0 k3 fun b hb=>Aj hb;have a13:=a2.trans a3;have lk163:=(a13.b2 k16 c16).1.lt;have lk133:=(a13.b2 k13 c13).1.lt;have lk43:=(a13.bk k4 c4).1.lt;have pl: ∀{v:AV} {D:List Int},RowN h3 h2.n v D→Bm v=true:=fun q=>by rcases q.ex with⟨-,rfl⟩|⟨-,b,rfl,-⟩ <;> rfl
 have hp2:Ar (Iw ev v1 v2 S0.up.last (A4 (Ae S0.up.D)))=true:=by have a1:=q1.plain.2;show(match Bm ev with|true=>(match Bm v1 with|true=>(match Bm v2 with|true=>true|false=>false)|false=>false)|false=>false)=true;rw [a1,pl q2,pl q3]
 refine wk ?_;unfold Iw at hp2;(apply stS L rfl rfl rfl rfl rfl hp2;exact lkp;rfl;rfl);refine cal ?_ (c:=J5 L X);rintro _ rfl;have k19:Bk (hp (h3.n+1) h3.t [(h3.n,some (cl (Iw ev v1 v2 S0.up.last (A4 (Ae S0.up.D)))))]) h3.n (Iw ev v1 v2 S0.up.last (A4 (Ae S0.up.D))):=lkp;have kz:K0 h3 (hp (h3.n+1) h3.t [(h3.n,some (cl (Iw ev v1 v2 S0.up.last (A4 (Ae S0.up.D)))))]):=kps;have aw:AInv S0:=a;obtain⟨i1,i2,i3⟩:=Aby (k:=k) jq.up a.up (by exact r2.ok) ⟨by show S0.next≤_;rw [e3];exact bd.nx,by show S0.D.n≤_;rw [e1];exact bd.dn,hk.1,hk.2⟩ rfl (by show S0.S≤10;omega) f hJ;refine wk ?_;have r4:DevR κ (hp (h3.n+1) h3.t [(h3.n,some (cl (Iw ev v1 v2 S0.up.last (A4 (Ae S0.up.D))))),(h3.n,some (cl [AV.nils,Zu,Zu,AV.nils,AV.nils]))]) I.d S0.D.up:=(r2.k0 k3).k0 kps;have hDl:=d1.len a.up;have hDl:Dm.length≤S0.S:=hDl;have hes:(A8 S0.up.A Dm).length≤150:=by unfold A8;rw [List.length_map];omega
 have hst:=Ua d1 fun s p h=>by obtain⟨-,-,b,j,rfl,-⟩:=a.up.map s p h;omega
 have h3e: ∀e∈A8 S0.up.A Dm,∃b j:Nat,e.2=((b*S0.D.up.P+j:Nat):Int)∧j<S0.D.up.P∧b<S0.D.up.nb∧(b:Int)∈js++ds∧(b:Int)∉js:=fun e he=>by obtain⟨s,hs,rfl⟩:=List.mem_map.1 he;obtain⟨p,hp⟩:=Option.isSome_iff_exists.1 ((d1.mem s).1 hs);obtain⟨-,-,b,j,g1,g2,g3,-,g5,g6,-⟩:=i1.map s p hp;exact⟨b,j,by show atA S0.up.A s=_;unfold atA;rw [hp];exact g1,g3,g2,(f.nx b g2).2 (Nat.lt_of_le_of_lt (Nat.zero_le _) g6),of_decide_eq_false g5⟩
 refine cal ?_ (c:=Xu L X (lo:=h2.n) (S:=S0.S) r4 (by omega) rfl (fun i hi=>by have:=(r2.ok.bl i hi).er;have:=r2.ok.g.en;omega) (q1.k0 (by exact kps)) (q2.k0 (by exact kps)) (q3.k0 (by exact kps)) i3.last f hes (Abw a.up d1) (h3e));rw [hst];rintro _ h4 ⟨ab4,I4,κ4,rfl,ka4,ca4,dI4,r4',k4',c4'⟩;have n4:=k4'.n;simp only [Al]at n4;have k24:K0 h2 h4:=Kp.tr0 k4' (Kp.tr0 (by exact kps) k3);have a4:AChg κ h κ4 h4:=a2.trans (AChg.k0 k24 fun b hb=>c4' b (by simp only [Al];omega));have r4:ApR κ4 h4 I4 (Ap.ini S0.up.D S0.up.S S0.up.A (A4 (Ae S0.up.D)) S0.up.last js ds):=r4';have z2: ∀Z,ZR S0 Z→ZR (Ap.ini S0.up.D S0.up.S S0.up.A (A4 (Ae S0.up.D)) S0.up.last js ds) Z:=fun Z z=>z.of rfl fun s=>Ap.rd_eq rfl rfl ⟨rfl,rfl⟩ s;have s1:(Ap.ini S0.up.D S0.up.S S0.up.A (A4 (Ae S0.up.D)) S0.up.last js ds).D.sz=S0.D.sz:=rfl;have s2:(Ap.ini S0.up.D S0.up.S S0.up.A (A4 (Ae S0.up.D)) S0.up.last js ds).S=S0.S:=rfl;have s3:(Ap.ini S0.up.D S0.up.S S0.up.A (A4 (Ae S0.up.D)) S0.up.last js ds).down=false:=rfl;generalize Ap.ini S0.up.D S0.up.S S0.up.A (A4 (Ae S0.up.D)) S0.up.last js ds=S2 at r4 i1 i2 i3 z2 s1 s2 s3;have zr:ZR S2 (S2.all S2.S):=by rcases z with z|z <;> (rw [(z2 _ z).all];exact z2 _ z)
 have hall:S2.all S2.S=Z∨S2.all S2.S=Z':=z.imp (fun z=>(z2 _ z).all) fun z=>(z2 _ z).all;have k44:=(a4.bk k4 c4).1;have l44:=k44.lt;have k134:=(a4.b2 k13 c13).1;have l134:=k134.lt;have k164:=(a4.b2 k16 c16).1;have l164:=k164.lt;refine cal ?_ (c:=J5 L X);rintro _ rfl;have cct:=Pl L X r4 ka4 ca4 i1 s3 (by rw [s2];omega);rw [s1,s2]at cct;refine cal ?_ (c:=cct);rintro _ h5 ⟨κ5,dv2,rfl,q5,r5,a5⟩;have n5:=a5.k.n;have a45:=a4.trans a5;have k135:=(a45.b2 k13 c13).1;have l135:=k135.lt;have k165:=(a45.b2 k16 c16).1;have l165:=k165.lt;have hp5:=q5.plain (z:=(S0.D.sz:Int));refine wk ?_;(apply stS L rfl rfl rfl rfl rfl hp5;exact lkp;rfl;rfl);rw [s2]at zr hall;have hl2:(S2.all S0.S).length=S0.S:=zr.len.trans s2;generalize S2.all S0.S=Z2 at zr hall q5 hl2;have kh:K0 h5 (hp (h5.n+1) h5.t [(h5.n,some (cl [AN S0.D.sz,dv2])),(h5.n,some (cl [Zi,.nils]))]):=kps
 have fin: ∀(h6:H) (lq:List (Nat×Option AV)),K0 h5 h6→TSub (tms [(197,some (.agg [AN S0.D.sz,dv2])),(14,some (AN i)),(13,some (.ptr b13 0)),(11,some (.ptr ab4 0)),(9,some (.ptr I.d 0)),(4,some (.ptr b4 0)),(3,some lv),(1,some (AN S0.S))]) (tms lq)→
   Good P0 E Q ⟨⟨5,cf5.ntmps,tms lq,.ops [Cs 2 13 197]:: .inBlock 1:: .code Tr:: .inLoop Js::kk,[],.run,false,none⟩,[],hp h6.n h6.t []⟩:=by
  intro h6 lq k6 ht
  refine Eh L ht ?_
  have a6:AChg κ5 h5 (ext κ5 h5.n) h6:=AChg.k0 k6 fun b hb=>Aj hb
  have a46:=a45.trans a6
  obtain⟨k136,c136⟩:=a46.b2 k13 c13
  have l136:=k136.lt
  obtain⟨ka6,ca6⟩:=(a5.trans a6).bk ka4 ca4
  obtain⟨k46,c46⟩:=a46.bk k4 c4
  have q6:=a6.dk q5
  (apply stS L rfl rfl rfl rfl rfl hp5;exact lkp;rfl;rfl)
  refine wk ?_
  have kO:Kp (fun j=>j=b13) h6 (hp h6.n h6.t [(b13,some (cl [AN S0.D.sz,dv2]))]):=kps
  have ne: ∀{b},ext κ5 h5.n b=0→b≠b13:=fun h e=>by rw [e,c136]at h;omega
  refine G (ext κ5 h5.n) _ _ S2 I4 ab4 Z2 dv2 ⟨(r5.k0 k6 fun b hb=>Aj hb).out kO fun b _ e=>by subst e;omega,Aq kO (ne ca6) ka6,ca6,q6.kp kO fun b e _ u=>ne u e,ql.fw (a46.fw.trans (kO.fw fun b _ e h=>by rw [e,c136]at h;omega)),Aq kO (ne c46) k46,c46,?_,c136,dI4,i1,i2,i3,zr,s3,s1,s2⟩ tsb
  exact lkp
 refine cal ?_ (c:=Vw L X (q5.k0 kh) ((a45.dk q).k0 kh) ⟨by omega,by omega,by omega⟩);rintro _ h6 ⟨rfl,k6⟩;have n6:=k6.n;by_cases e:Z2=Z;·rw [decide_eq_true e];refine wk ?_;refine fin _ _ (Kp.tr0 k6 kh) ?_;exact tsb
 ·rw [decide_eq_false e];refine cal ?_ (c:=Vw L X (q5.k0 (Kp.tr0 k6 kh)) ((a45.dk q').k0 (Kp.tr0 k6 kh)) ⟨by omega,by omega,by omega⟩);rintro _ h7 ⟨rfl,k7⟩;rw [decide_eq_true (hall.resolve_left e)];refine wk ?_;refine fin _ _ (Kp.tr0 k7 (Kp.tr0 k6 kh)) ?_;exact tsb
theorem Sc {d sz:Nat}(T:Tb P0 E F K)(U:SortOk P0 E F 171) (r:ApR κ h I S') (ka:Bk h ab [.ptr I.s 0]) (ca:κ ab=0) (q:DkR h (fun b=>κ b=0) dv sz Z) (q':DkR h (fun b=>κ b=0) dv' sz Z') (ql:AcR κ h lv al) (k4:Bk h b4 (Gy g0 g1 sz g3)) (c4:κ b4=0) (k13:Bk h b13 [AN sz,dv]) (c13:κ b13=200) (k16:Bk h b16 [AN sz,dv']) (c16:κ b16=200) (ne:b16≠b13) (dI:I.d=d) (p:DoP S S' k e Z Z') (hZ:Z.length=nS∧Z'.length=nS) (hk:k<90000) (szz:S.D.sz=sz) (sS:S.S=nS) (hS:1≤nS∧nS≤8) (hi:i<1000000)  (ht:TSub (tms [(126,some (AN e)),(16,some (.ptr b16 0)),(15,some (AN e)),(14,some (AN i)),(13,some (.ptr b13 0)),(11,some (.ptr ab 0)),(9,some (.ptr d 0)),(4,some (.ptr b4 0)),(3,some lv),(1,some (AN nS))]) (tms lq)) (G: ∀κ' h' l' S2 I2 ab2 Z2 dv2,LwR κ' h' (Gy g0 g1 sz g3) b4 b13 d sz nS lv al (k+1100) S2 I2 ab2 Z2 dv2→TSub (tms [(14,some (AN (i+1))),(13,some (.ptr b13 0)),(11,some (.ptr ab2 0)),(9,some (.ptr d 0)),(4,some (.ptr b4 0)),(3,some lv),(1,some (AN nS))]) (tms l')→ Good P0 E Q ⟨⟨5,cf5.ntmps,tms l',.inLoop Js::kk,[],.run,false,none⟩,[],h'⟩): Good P0 E Q ⟨⟨5,cf5.ntmps,tms lq,.ops [Cc 127 19 [.t 126],Ck 128 .eql 127 0]:: .code Ajt:: .code Aju:: .inBlock 1:: .code Tr:: .inLoop Js::kk,[],.run,false,none⟩,[],hp h.n h.t []⟩:=by
 refine Eh L ht ?_;have l13:=k13.lt;have l16:=k16.lt;obtain⟨sm,bd,pw,-,A',l',a,js,hl,hA,hz⟩:=p;have up: ∀{κ' h' S2 I2 ab2 Z2 dv2},LwR κ' h' (Gy g0 g1 sz g3) b4 b13 d sz nS lv al (k+1000) S2 I2 ab2 Z2 dv2→LwR κ' h' (Gy g0 g1 sz g3) b4 b13 d sz nS lv al (k+1100) S2 I2 ab2 Z2 dv2:=fun {_ _ _ _ _ _ _} w=> {w with bd:=w.bd.mono (by omega)};refine cal ?_ (c:=J5 L X);rintro _ rfl;by_cases e0:e=0
 ·subst e0;obtain⟨rfl,rfl⟩:=hA (by omega)
  have hd:S'.down=false:=by cases h:S'.down with
   |false=>rfl
   |true=>have:=pw.1 h;omega
  have hp:=q'.plain (z:=(sz:Int));refine wk ?_;(apply stS L rfl rfl rfl rfl rfl hp;exact lkp;rfl;rfl);refine wk ?_;have kO:Kp (fun j=>j=b13) h (Ev.hp h.n h.t [(b13,some (cl [AN sz,dv']))]):=kps;have ne0: ∀{b},κ b=0→b≠b13:=fun h e=>by rw [e,c13]at h;omega
  refine dy L X T U (S:=S') (Z:=Z') (dv:=dv') ⟨r.out kO fun b _ e=>by subst e;omega,Aq kO (ne0 ca) ka,ca,q'.kp kO fun b e _ u=>ne0 u e,ql.fw (kO.fw fun b _ e=>by subst e;omega),Aq kO (ne0 c4) k4,c4,by exact lkp,c13,dI,a,js,bd,?_,hd,sm.sz.trans szz,sm.secs.trans sS⟩ (by omega) hS (e:=0) (by omega) hi ?_ ?_
  ·rcases hz with⟨-,h⟩|⟨h,-⟩;·exact absurd rfl h
   ·exact h
  ·exact tsb
  ·exact fun κ' h' l' w=>G _ _ _ _ _ _ _ _ (up w)
 ·have hcon:((e:Int)=0)=False:=by simp;omega
  by_cases e5:e=50
  ·subst e5;have hd:S'.down=true:=pw.2 rfl;have hoff:S'.D.off=true:=a.pw.trans hd;refine cal ?_ (c:=wo L X r ka ⟨by omega,by have:=sm.secs;omega⟩ hd);rintro _ h2 ⟨κ2,rfl,r2,a2⟩;obtain⟨k132,c132⟩:=a2.b2 k13 c13;obtain⟨k162,c162⟩:=a2.b2 k16 c16;obtain⟨-,fm,bb,cb,dv2⟩:=r2.dv;have hdk:=dv2.dk;rw [dI]at hdk;refine cal ?_ (c:=Lr L X (by exact hdk));rintro _ rfl;rw [hoff];refine wk ?_;refine x7 L X T U (S:=S') (A':=A') (l0:=l') (ab:=ab) (b16:=b16) (dv:=dv) (dv':=dv') (Z:=Z) (Z':=Z') r2 (a2.dk q) (a2.dk q') (ql.fw a2.fw) (a2.bk k4 c4).1 (a2.bk k4 c4).2 k132 c132 k162 c162 dI a js (hz.imp (fun h=>h.1) fun h=>h.1) hZ bd (by omega) (sm.sz.trans szz) (sm.secs.trans sS) hS hi ?_ ?_;·exact tsb
   ·exact fun κ' h' l' S2 I2 ab2 Z2 dv2 w=>G κ' h' l' S2 I2 ab2 Z2 dv2 w
  ·obtain⟨rfl,rfl⟩:=hA e5
   have hd:S'.down=false:=by cases h:S'.down with
    |false=>rfl
    |true=>exact absurd (pw.1 h) e5
   refine wk ?_;refine dy L X T U (S:=S') (Z:=Z) (dv:=dv) ⟨r,ka,ca,q,ql,k4,c4,k13,c13,dI,a,js,bd,?_,hd,sm.sz.trans szz,sm.secs.trans sS⟩ (by omega) hS e5 hi ?_ ?_
   ·rcases hz with⟨h,-⟩|⟨-,h⟩;·exact h
    ·omega
   ·exact tsb
   ·exact fun κ' h' l' w=>G _ _ _ _ _ _ _ _ (up w)
theorem x8 {d sz lvb lvc:Nat}{x:Act}(T:Tb P0 E F K)(U:SortOk P0 E F 171) (w:LwR κ h (Gy g0 g1 sz g3) b4 b13 d sz nS (.slc lvb 0 al.length lvc) al k S I ab Z dv) (hk:k≤40000) (hS:1≤nS∧nS≤8) (hx:al[i]?=some x) (hsl:x.1.2.2.1.length≤6) (hi:al.length≤30)  (ht:TSub (tms [(14,some (AN i)),(13,some (.ptr b13 0)),(11,some (.ptr ab 0)),(9,some (.ptr d 0)),(4,some (.ptr b4 0)),(3,some (.slc lvb 0 al.length lvc)),(1,some (AN nS))]) (tms lq)) (G: ∀κ' h' l' S2 I2 ab2 Z2 dv2,LwR κ' h' (Gy g0 g1 sz g3) b4 b13 d sz nS (.slc lvb 0 al.length lvc) al (k+1100) S2 I2 ab2 Z2 dv2→TSub (tms [(14,some (AN (i+1))),(13,some (.ptr b13 0)),(11,some (.ptr ab2 0)),(9,some (.ptr d 0)),(4,some (.ptr b4 0)),(3,some (.slc lvb 0 al.length lvc)),(1,some (AN nS))]) (tms l')→ Good P0 E Q ⟨⟨5,cf5.ntmps,tms l',.inLoop Js::kk,[],.run,false,none⟩,[],h'⟩): Good P0 E Q ⟨⟨5,cf5.ntmps,tms lq,.code Ac2:: .code Ac4:: .inBlock 1:: .code Tr:: .inLoop Js::kk,[],.run,false,none⟩,[],hp h.n h.t []⟩:=by
 refine Eh L ht ?_;obtain⟨r,ka,ca,q,ql,k4,c4,k13,c13,dI,a,js,bd,z,dn,rfl,rfl⟩:=w;have hil:=(List.getElem?_eq_some_iff.1 hx).1;have hdt:=B4 al (K1 al) i _ hx;have hel:=ql.el x (List.mem_of_getElem? hx);have l4:=k4.lt;have l13:=k13.lt;have lka:=ka.lt;have hlz:0<Z.length∧Z.length≤10:=by rw [z.len];omega
 rcases ql.ex with⟨e,-⟩|⟨e,-⟩|⟨b,c,e,klv,clv⟩;·subst e;simp at hx
 ·subst e;simp at hx
 cases e;obtain⟨⟨yw,yb,ys,ya,yt⟩,yv⟩:=x;have hel:IntsR κ h yv ys:=hel;have hdt:i*5+5≤(al.flatMap acC).length∧((al.flatMap acC).drop (i*5)).take 5= [AI yw,AI yb,yv,AI ya,AI yt]:=hdt;have hav:K3 20 (.agg [AI yw,AI yb,yv,AI ya,AI yt])=true:=by rcases hel.ex with⟨_,rfl⟩|⟨_,a,rfl⟩|⟨b,c,rfl,_⟩ <;> rfl
 have hk1:=klv;have w0:AS κ h I S ab dv S.D.sz Z yv ys:=⟨r,ka,ca,q,hel⟩;have hsl:ys.length≤6:=hsl;have hpd:=q.plain (z:=(S.D.sz:Int));rcases q.ex with⟨rfl,rfl⟩|⟨-,lb,rows,rfl,-⟩;·exact absurd hlz.1 (Nat.lt_irrefl _)
 refine Aag L ?_ ?_
 ·refine wk ?_;(apply Ax rfl rfl;exact Bg (by exact lkr) hdt rfl);(apply Ax rfl rfl;exact opv);(apply Ax rfl rfl;exact opv);(apply p_0;(apply K4 rfl rfl opv rfl rfl);(apply K4 rfl rfl (Bg (by exact lkr) hdt rfl) rfl hav);exact Q9);have aA:AChg κ h (Iu κ h.n) (hp (h.n+1) h.t [(h.n,some (cl [Zi,.nils]))]):=AChg.k0 kps fun b hb=>Ca hb;have wA:=w0.chg aA (r.k0 (by exact kps) fun b hb=>Ca hb);have b16:Bk (hp (h.n+1) h.t [(h.n,some (cl [Zi,.nils]))]) h.n [Zi,.nils]:=lkp;refine cal ?_ (c:=Adm L X T U wA a js bd z dn hlz (by omega) hsl (by omega) (by omega));rintro _ h3 ⟨S',e,Z',κ',dv',rfl,w',q',p',a'⟩;have n3:=a'.k.n;simp only [Al]at n3;obtain⟨k16,c16⟩:=a'.b2 b16 (Cq (Nat.le_refl _));have a13:=aA.trans a';have l16:=k16.lt;have hpd:=q'.plain (z:=(S.D.sz:Int));have hl':Z'.length=S.S:=p'.ln.trans z.len;rcases q'.ex with⟨rfl,-⟩|⟨-,lb',rows',rfl,-⟩
  ·simp at hl';omega
  refine wk ?_;have kO:Kp (fun j=>j=h.n) h3 (hp h3.n h3.t [(h.n,some (cl [AN S.D.sz,.slc lb' 0 Z'.length (Aa+1)]))]):=kps;have w3:=w'.own kO fun b _ e=>by subst e;exact c16
  have n0: ∀{b},κ' b=0→b≠h.n:=fun h e=>by rw [e,c16]at h;omega
  have c134:=(a13.b2 k13 c13).2;have k134:=Aq kO (by omega) (a13.b2 k13 c13).1;have c44:=(a13.bk k4 c4).2;refine Sc L X (h:=hp h3.n h3.t [(h.n,some (cl [AN S.D.sz,.slc lb' 0 Z'.length (Aa+1)]))]) (b16:=h.n) T U w3.r w3.ka w3.ca w3.q (q'.kp kO fun b e _ u=>n0 u e) (ql.fw (a13.fw.trans (kO.fw fun b _ e=>by subst e;omega))) (Aq kO (n0 c44) (a13.bk k4 c4).1) c44 k134 c134 (by exact lkp) c16 (by omega) dI p' ⟨z.len,hl'⟩ (by omega) rfl rfl hS (by omega) ?_ G;exact tsb
 ·refine wk ?_;(apply Ax rfl rfl;exact Bg (by exact lkr) hdt rfl);refine cal ?_ (c:=Adm L X T U w0 a js bd z dn hlz (by omega) hsl (by omega) (by omega));rintro _ h3 ⟨S',e,Z',κ',dv',rfl,w',q',p',a'⟩;have n3:=a'.k.n;have hpd:=q'.plain (z:=(S.D.sz:Int));have hl':Z'.length=S.S:=p'.ln.trans z.len;rcases q'.ex with⟨rfl,-⟩|⟨-,lb',rows',rfl,-⟩;·simp at hl';omega
  refine wk ?_;have kO:K0 h3 (hp (h3.n+1) h3.t [(h3.n,some (cl [AN S.D.sz,.slc lb' 0 Z'.length (Aa+1)])),(h3.n,some (cl [Zi,.nils]))]):=kps;have aO:AChg κ' h3 (Iu κ' h3.n) _:=AChg.k0 kO fun b hb=>Ca hb;have w3:=w'.chg aO (w'.r.k0 kO fun b hb=>Ca hb);have a14:=a'.trans aO;have c134:=(a14.b2 k13 c13).2;have l134:=(a'.b2 k13 c13).1.lt;refine Sc L X (h:=hp (h3.n+1) h3.t [(h3.n,some (cl [AN S.D.sz,.slc lb' 0 Z'.length (Aa+1)])),(h3.n,some (cl [Zi,.nils]))]) (b16:=h3.n) T U w3.r w3.ka w3.ca w3.q (aO.dk q') (ql.fw a14.fw) (a14.bk k4 c4).1 (a14.bk k4 c4).2 (a14.b2 k13 c13).1 c134 (by exact lkp) (Cq (Nat.le_refl _)) (by omega) dI p' ⟨z.len,hl'⟩ (by omega) rfl rfl hS (by omega) ?_ G;exact tsb
end
variable {E:Env}{P:Program}{W:World}{cs:List Value}{fv:AV}{held:Bool}{n0:Nat}{rows:List (Option Loc×List AV)}{t:TypeId}{v v2 v3:Value}{φ:Phi}
theorem Aor (h:p:=by
 refine cal ?_ (c:=W.ct _)
 rintro _ rfl
 refine wk ?_
 refine Gt L (todo:= []) ?_
 exact Ajo L X.f5.1 (F6 rfl) ⟨rfl,rfl⟩):p:=h
theorem Adp (h:p:=by
 refine wk ?_
 (apply Ax rfl rfl;exact Br rfl lkr x4)
 refine wk ?_
 refine rest _ w1 G ?_
 exact tsb):p:=h
section
variable {P0:Program}{F:T CFn}{K:T (List AV×AV)}(L:Lg P0 E F K)(X:Fx F K)
include L X
structure Wk (P:Program)(E:Env)(F:T CFn)(K:T (List AV×AV)):Prop where
 ct: ∀h,Ct P E F K 7 [] h fun v h'=>v= .bool true∧h'=h
omit L X in
theorem LwR.cut {κ: Nat→Nat}{h h':H}{geo:List AV}{b4 b13 d sz nS k ab:Nat}{c:Int}{b:Nat}{lv dv:AV}{al:List Act}{Z:List (List Nat)}{S:Ap}{I:Ai}(w:LwR κ h geo b4 b13 d sz nS lv al k S I ab Z dv)(r:DevR κ h' d {S.D with cut:=c,byt:=b})(k1:Kp (fun j=>j=d) h h')(cd:κ d=1): LwR κ h' geo b4 b13 d sz nS lv al k {S with D:= {S.D with cut:=c,byt:=b}} I ab Z dv:=by
 obtain⟨r0,ka,ca,q,ql,k4,c4,k13,c13,rfl,a,⟨Hs,Cs,jq⟩,bd,z,dn,e1,e2⟩:=w;have nd: ∀{x n},κ x=n→n≠1→x≠I.d:=fun h1 h2 h3=>by rw [h3,cd]at h1;omega
 exact⟨r0.dev (Ch.d k1 cd) r ⟨rfl,rfl,rfl,rfl⟩,Aq k1 (nd ca (by omega)) ka,ca,q.kp k1 fun x e _ u=>nd u (by omega) e,ql.fw (k1.fw fun x _ e=>by subst e;omega),Aq k1 (nd c4 (by omega)) k4,c4,Aq k1 (nd c13 (by omega)) k13,c13,rfl, ⟨⟨a.geo.nb,a.geo.P,a.geo.sz,a.geo.en⟩,a.pw,a.n0,⟨fun k=>⟨(a.iw.wi k).sel,(a.iw.wi k).lo⟩,a.iw.ne⟩,a.nxP,a.op2,a.free,a.jr,a.jlog,a.jdat,a.map,a.inj⟩,⟨Hs,Cs,⟨⟨jq.pg,jq.ok,jq.inj⟩,jq.sub,jq.live,jq.uq,jq.rest,jq.lnk,jq.sem,jq.ap,jq.map⟩⟩,⟨bd.last,bd.wr,bd.pe,bd.nx,bd.dn⟩,z.of rfl fun s=>Ap.rd_eq rfl rfl ⟨rfl,rfl⟩ s,dn,e1,e2⟩
theorem Z5 {d sz:Nat}(T:Tb P0 E F K)(U:SortOk P0 E F 171)(W:Wk P0 E F K) (w:LwR κ h (Gy g0 g1 sz g3) b4 b13 d sz nS lv al 1000 S I ab Z dv) (hS:1≤nS∧nS≤8) (hsl: ∀x∈al,x.1.2.2.1.length≤6) (hi:al.length≤30)  (ht:TSub (tms [(14,some Zi),(13,some (.ptr b13 0)),(11,some (.ptr ab 0)),(9,some (.ptr d 0)),(4,some (.ptr b4 0)),(3,some lv),(1,some (AN nS))]) (tms lq)): Good P0 E (fun fn u=>fn=5∧u= .bool true) ⟨⟨5,cf5.ntmps,tms lq,[.code Ajv,.inBlock 0,.code tt],[],.run,false,none⟩,[],hp h.n h.t []⟩:=by
 refine Bs L (α:= Nat) (T:=fun i ab=> [(14,some (AN i)),(13,some (.ptr b13 0)),(11,some (.ptr ab 0)),(9,some (.ptr d 0)),(4,some (.ptr b4 0)),(3,some lv),(1,some (AN nS))]) (n:=al.length) (R:=fun i ab h2=> ∃κ I S Z dv,LwR κ h2 (Gy g0 g1 sz g3) b4 b13 d sz nS lv al (1100*i+1000) S I ab Z dv) (i0:=0) ab ht ⟨κ,I,S,Z,dv,w⟩ (Nat.zero_le _) ?_ ?_
 ·rintro i ab1 h1 hi1 ⟨κ1,I1,S1,Z1,dv1,w1⟩ ih;have hx:al[i]?=some al[i]:=List.getElem?_eq_getElem hi1;have hs6:=hsl _ (List.getElem_mem hi1);have k4:=w1.k4;have l4:=k4.lt;have qle:=w1.ql.ex;rcases qle with⟨e,-⟩|⟨e,-⟩|⟨b,c,rfl,klv,clv⟩;·subst e;simp at hx
  ·subst e;simp at hx
  generalize al[i]=x at*;obtain⟨⟨yw,yb,ys,ya,yt⟩,yv⟩:=x;have x3:(al.flatMap acC)[i*5+3]?=some (AI ya):=by rw [Di al (K1 al) i 3 _ hx (by omega)];rfl
  have x4:(al.flatMap acC)[i*5+4]?=some (AI yt):=by rw [Di al (K1 al) i 4 _ hx (by omega)];rfl
  have rest: ∀{κ1:Nat→Nat} {h1:H} {S1:Ap} {I1:Ai} {ab1:Nat} {Z1:List (List Nat)} {dv1:AV} (lq:List (Nat×Option AV)),LwR κ1 h1 (Gy g0 g1 sz g3) b4 b13 d sz nS (.slc b 0 al.length c) al (1100*i+1000) S1 I1 ab1 Z1 dv1→(∀κ' h' l' S2 I2 ab2 Z2 dv2,LwR κ' h' (Gy g0 g1 sz g3) b4 b13 d sz nS (.slc b 0 al.length c) al (1100*i+1000+1100) S2 I2 ab2 Z2 dv2→TSub (tms [(14,some (AN (i+1))),(13,some (.ptr b13 0)),(11,some (.ptr ab2 0)),(9,some (.ptr d 0)),(4,some (.ptr b4 0)),(3,some (.slc b 0 al.length c)),(1,some (AN nS))]) (tms l')→ Good P0 E (fun fn u=>fn=5∧u= .bool true) ⟨⟨5,cf5.ntmps,tms l',[.inLoop Js,.inBlock 0,.code tt],[],.run,false,none⟩,[],h'⟩)→ TSub (tms [(14,some (AN i)),(13,some (.ptr b13 0)),(11,some (.ptr ab1 0)),(9,some (.ptr d 0)),(4,some (.ptr b4 0)),(3,some (.slc b 0 al.length c)),(1,some (AN nS))]) (tms lq)→ Good P0 E (fun fn u=>fn=5∧u= .bool true) ⟨⟨5,cf5.ntmps,tms lq,[.code Ac2,.code Ac4,.inBlock 1,.code Tr,.inLoop Js,.inBlock 0,.code tt],[],.run,false,none⟩,[],hp h1.n h1.t []⟩:= fun lq w G ht=>x8 L X T U w (by omega) hS hx hs6 hi ht G;have G:=fun κ' h' l' S2 I2 ab2 Z2 dv2 (w:LwR κ' h' (Gy g0 g1 sz g3) b4 b13 d sz nS (.slc b 0 al.length c) al (1100*i+1000+1100) S2 I2 ab2 Z2 dv2) ht=>ih ab2 h' l' ⟨κ',I2,S2,Z2,dv2,by rw [show 1100*(i+1)+1000=1100*i+1000+1100 by omega];exact w⟩ ht;have hk1:=klv;have hsz:sz≤30:=by have:=w1.inv.geo.sz;have:=w1.szz;omega
  refine wk ?_;(apply Ax rfl rfl;exact Br rfl lkr x3);by_cases c1:0≤ya;rotate_left;·refine wk ?_;refine rest _ w1 G ?_;exact tsb
  by_cases c2:ya≤20;rotate_left;·refine wk ?_;(apply Ax rfl rfl;exact Br rfl lkr x3);refine wk ?_;refine rest _ w1 G ?_;exact tsb
  by_cases c3:0≤yt;rotate_left;·refine wk ?_;(apply Ax rfl rfl;exact Br rfl lkr x3);exact Adp
  by_cases c4:yt≤(sz:Int)+64;rotate_left;·refine wk ?_;(apply Ax rfl rfl;exact Br rfl lkr x3);refine wk ?_;(apply Ax rfl rfl;exact Br rfl lkr x4);exact Adp
  refine wk ?_;(apply Ax rfl rfl;exact Br rfl lkr x3);refine wk ?_;(apply Ax rfl rfl;exact Br rfl lkr x4);refine wk ?_;(apply Ax rfl rfl;exact Br rfl lkr x4);refine wk ?_;(apply Ax rfl rfl;exact Br rfl lkr x3);refine wk ?_;(apply Ax rfl rfl;exact Br rfl lkr x4);(apply p_0;exact Q9);have r1:=w1.r;obtain⟨-,fm,bb,cb,dv2⟩:=w1.r.dv;have hdk:=dv2.dk;rw [w1.dI]at hdk;refine cal ?_ (c:=Sr L X (by exact hdk));rintro _ rfl;have hn:=w1.bd.dn;have hoff:S1.D.off=false:=w1.inv.pw.trans w1.dn;obtain⟨ya,rfl⟩: ∃n:Nat,ya=n:=⟨ya.toNat,by omega⟩;obtain⟨yt,rfl⟩: ∃n:Nat,yt=n:=⟨yt.toNat,by omega⟩;have hsum:(S1.D.n:Int)+(ya:Int)=((S1.D.n+ya:Nat):Int):=by omega
  (apply Ax rfl rfl;exact opv);(apply p_0;(apply K4 rfl rfl opv rfl rfl);(apply K4 rfl rfl opv rfl rfl);(apply K4 rfl rfl opv rfl rfl);(apply K4 rfl rfl opv rfl rfl);(apply K4 rfl rfl opv rfl rfl);(apply K4 rfl rfl (Br rfl lkr x3) rfl rfl);(apply K4 rfl rfl opv rfl rfl);(apply K4 rfl rfl opv rfl rfl);(apply K4 rfl rfl opv rfl rfl);(apply K4 rfl rfl opv rfl rfl);(apply K4 rfl rfl (Br rfl lkr x4) rfl rfl);exact Q9);have rd:=w1.r.dv;rw [w1.dI]at rd;refine cal ?_ (c:=Abq (c:=ya) (b:=yt) L X rd hoff (by omega) (by rw [w1.szz];omega));rintro _ h3 ⟨rfl,r3,k3,cd⟩;refine wk ?_;refine rest _ (w1.cut r3 k3 cd) G ?_;exact tsb
 ·rintro ab1 h1 ⟨κ1,I1,S1,Z1,dv1,w1⟩;have k4:=w1.k4;have l4:=k4.lt;have k13:=w1.k13;have l13:=k13.lt;have qle:=w1.ql.ex;rcases qle with⟨e,rfl⟩|⟨e,a,rfl⟩|⟨lvb,lvc,rfl,-,-⟩
  all_goals
   (try(have hz:al.length=0:=by rw [e];rfl));have hl1:=w1.z.len;rw [w1.sS]at hl1;rcases w1.q.ex with⟨e,-⟩|⟨-,lb,rows,rfl,-⟩;·subst e;simp at hl1;omega
   refine wk ?_;have cct:=Pl L X w1.r w1.ka w1.ca w1.inv w1.dn (by rw [w1.sS];omega);rw [w1.szz,w1.sS]at cct;refine cal ?_ (c:=cct);rintro _ h5 ⟨κ5,dv2,rfl,q5,r5,a5⟩;have hz1:=w1.z.all;rw [w1.sS]at hz1;rw [hz1]at q5;have k135:=(a5.b2 k13 w1.c13).1;have l135:=k135.lt;refine cal ?_ (c:=Vw L X q5 (a5.dk w1.q) ⟨rfl,by omega,by omega⟩);rintro _ h6 ⟨rfl,k6⟩;rw [decide_eq_true rfl];exact Aor
end
theorem Aos (h:p:=by
 refine wk ?_
 exact Sd L X (κ:= ext κ h.n) (h:=h1) T U W ⟨i0,i1,i2,i3,i4,i5,i6,i7,i8,i9,i10⟩ hsl (qf.fw (fwd kk1)) (by rw [hfe];simp) (ql.fw (fwd kk1)) kb (B0 (Nat.le_refl _)) tsb):p:=h
section
variable {P0:Program}{F:T CFn}{K:T (List AV×AV)}(L:Lg P0 E F K)(X:Fx F K)
include L X
theorem x9 (W:Wk P0 E F K){d:Nat}(hd:d=32∨d=42){k:List AItem}:Good P0 E (fun fn u=>fn=5∧u= .bool true) ⟨⟨5,cf5.ntmps,tms lq,.ops [Cc d 7 [],Cv 8 d]:: .code .ret::k,[],.run,false,none⟩,[],hp h.n h.t []⟩:=by
 rcases hd with rfl|rfl
 all_goals
  exact Aor
theorem Sd {n1 n2 n3:Nat}{fl:List Int}(T:Tb P0 E F K)(U:SortOk P0 E F 171)(W:Wk P0 E F K)(hs:Ado (n0:Int) (n1:Int) (n2:Int) (n3:Int) (nS:Int) al.length)(hsl: ∀x∈al,x.1.2.2.1.length≤6)(qf:IntsR κ h fv fl)(hfl:fl.length≤10)(ql:AcR κ h lv al)(kb:Bk h b4 (Gy n0 n1 n2 n3))(cb:κ b4=0)  (ht:TSub (tms [(35,some fv),(34,some (.agg (Gy n0 n1 n2 n3))),(8,some (.bool false)),(4,some (.ptr b4 0)),(3,some lv),(1,some (AN nS))]) (tms lq)): Good P0 E (fun fn u=>fn=5∧u= .bool true) ⟨⟨5,cf5.ntmps,tms lq,[.ops [Cc 36 23 [.t 34,.t 35],Cv 33 36,Ce 37 33 0,Ce 38 33 1,Cv 9 37,Cv 10 38],.code Ajw],[],.run,false,none⟩,[],hp h.n h.t []⟩:=by
 refine Eh L ht ?_;obtain⟨i0,i1,i2,i3,i4,i5,i6,i7,i8,i9,i10⟩:=hs;have lb:=kb.lt;by_cases t1: ∀x∈fl,0≤x;rotate_left;·refine cal ?_ (c:=Abz (g0:=n0) (g1:=n1) (g2:=n2) (g3:=n3) L X (by omega) (by omega) (by omega) (by omega) qf t1 (by omega));rintro _ h2 ⟨rfl,k2⟩;refine cal ?_ (c:=J5 L X);rintro _ rfl;refine wk ?_;exact x9 L X W (by omega)
 refine cal ?_ (c:=Agc (g0:=n0) (g1:=n1) (g2:=n2) (g3:=n3) L X (by omega) (by omega) (by omega) (by omega) qf t1 (by omega));rintro _ h2 ⟨d,κ2,rfl,k2,r2,c2⟩;have n2':=k2.n;refine cal ?_ (c:=J5 L X);rintro _ rfl;refine wk ?_;have fnd0:Fnd (Dv.new n0 n1 n2 n3 (Pn fl)) [] []:=⟨.nil,fun z hz=>(by cases hz),fun b _=>⟨fun h=>(by cases h),fun h=>absurd h (Nat.lt_irrefl _)⟩⟩;refine cal ?_ (c:=Xu L X (lo:=0) (es:= []) (js:= []) (ds:= []) (ev:= .nils) (v1:= .nils) (v2:= .nils) (la:=0) (nx:=1) r2 (S:=nS) (by omega) rfl (fun _ _=>Nat.zero_le _) (EL.nil _ _) ⟨.inl ⟨rfl,rfl⟩⟩ ⟨.inl ⟨rfl,rfl⟩⟩ (by omega) fnd0 (by simp) (by intro j x e;cases e) (by intro e he;cases he));rintro _ h3 ⟨ab,I,κ3,rfl,ka,ca,hId,r3,k3,c3⟩;have n3':=k3.n;have kb3:=Ag k3 (Ag k2 kb);have lb3:=kb3.lt;refine cal ?_ (c:=J5 L X);rintro _ rfl;refine cal ?_ (c:=Abi (sz:=n2) (S:=nS) L X (by omega) (by omega));rintro _ h4 ⟨dv,rfl,q4,k4⟩;have n4:=k4.n;have hp9:=q4.plain (z:=(n2:Int));refine wk ?_;(apply stS L rfl rfl rfl rfl rfl hp9;exact lkp;rfl;rfl);refine wk ?_;have k0:K0 h3 (hp (h4.n+1) h4.t [(h4.n,some (cl [AN n2,dv])),(h4.n,some (cl [Zi,.nils]))]):=Kp.tr0 (by exact kps) k4;have n4:h3.n≤h4.n:=n4;have hc: ∀b,b<h3.n→upd (ext κ3 h3.n) h4.n 200 b=κ3 b:=fun b hb=>(upd_ne _ _ (by omega)).trans (Aj hb);obtain⟨y1,y2,y3,y4⟩:=Abx (k:=1000) (flt:=Pn fl) (S:=nS) (nb:=n0) (P:=n1) (sz:=n2) (en:=n3) (by omega) (by omega) (by omega) (by omega);have c4:κ3 b4=0:=(c3 _ (by omega)).trans ((c2 _ lb).trans cb);have f3:Fw κ h (upd (ext κ3 h3.n) h4.n 200) (hp (h4.n+1) h4.t [(h4.n,some (cl [AN n2,dv])),(h4.n,some (cl [Zi,.nils]))]):= (Fw.trans ⟨k2.n,fun b hb _=>k2.old b hb id,c2⟩ ⟨k3.n,fun b hb _=>k3.old b hb id,c3⟩).trans ⟨k0.n,fun b hb _=>k0.old b hb id,hc⟩;refine Z5 L X (h:=hp (h4.n+1) h4.t [(h4.n,some (cl [AN n2,dv])),(h4.n,some (cl [Zi,.nils]))]) (κ:= upd (ext κ3 h3.n) h4.n 200) (b13:=h4.n) (g0:=n0) (g1:=n1) (g3:=n3) (sz:=n2) (Z:=List.replicate nS (List.replicate n2 0)) (dv:=dv) (al:=al) (nS:=nS) T U W ⟨r3.k0 k0 hc,Ag k0 ka,(hc _ ka.lt).trans ca,((q4.mono fun b hb u=>⟨hb,u⟩:DkR h4 (fun b=>b<h4.n∧h3.n≤b) dv n2 _).k0 (by exact kps)).mono fun b _ u=>(upd_ne _ _ (by omega)).trans (B0 u.2),ql.fw f3,Ag k0 kb3,(hc _ lb3).trans c4,by exact lkp,upd_eq _ _ _,hId,y1,y2,y3,y4,rfl,rfl,rfl⟩ (by omega) hsl (by omega) ?_;exact tsb
theorem nr {g0 g1 g2 g3 S:Int}{fl:List Int}(T:Tb P0 E F K)(U:SortOk P0 E F 171)(W:Wk P0 E F K)(qf:IntsR κ h fv fl)(ql:AcR κ h lv al): Good P0 E (fun fn u=>fn=5∧u= .bool true) ⟨⟨5,cf5.ntmps,tms [(3,some lv),(2,some fv),(1,some (AI S)),(0,some (.agg (Abv g0 g1 g2 g3)))],[.code cf5.body],[],.run,false,none⟩,[],hp h.n h.t []⟩:=by
 have fwd: ∀{h1:H},K0 h h1→Fw κ h (ext κ h.n) h1:=fun k=>⟨k.n,fun b hb _=>k.old b hb id,fun b hb=>Aj hb⟩;have qfe:=qf.ex;rcases qfe with⟨hfe,rfl⟩|⟨hfe,fa,rfl⟩|⟨fcb,fcc,rfl,kcf,-⟩
 all_goals
  refine wk ?_;have sct:=xz L X (g0:=g0) (g1:=g1) (g2:=g2) (g3:=g3) (S:=S) (h:=hp (h.n+1) h.t [(h.n,some (cl (Abv g0 g1 g2 g3)))]) (ql.fw (fwd (by exact kps)));refine Acw L rfl rfl rfl rfl sct ?_;rintro _ h1 ⟨b,rfl,hb,k1⟩;have n1:=k1.n;simp only [Al]at n1
  cases b with
  |false=>refine wk ?_;exact x9 L X W (by omega)
  |true=>?_
  obtain⟨⟨i0,i1,i2,i3,i4,i5,i6,i7,i8,i9,i10⟩,hsl⟩:=hb rfl;obtain⟨n0,rfl⟩: ∃n:Nat,g0=n:=⟨g0.toNat,by omega⟩;obtain⟨n1',rfl⟩: ∃n:Nat,g1=n:=⟨g1.toNat,by omega⟩;obtain⟨n2,rfl⟩: ∃n:Nat,g2=n:=⟨g2.toNat,by omega⟩;obtain⟨n3,rfl⟩: ∃n:Nat,g3=n:=⟨g3.toNat,by omega⟩;obtain⟨nS,rfl⟩: ∃n:Nat,S=n:=⟨S.toNat,by omega⟩;have kk1:K0 h h1:=Kp.tr0 k1 (by exact kps);have kb:Bk h1 h.n (Gy n0 n1' n2 n3):=Ag k1 (by exact lkp);have lb:=kb.lt
 ·exact Aos
 ·exact Aos
 ·by_cases hfl:fl.length≤10;rotate_left;·refine wk ?_;exact x9 L X W (by omega)
  ·refine wk ?_;exact Sd L X (κ:= ext κ h.n) (h:=h1) T U W ⟨i0,i1,i2,i3,i4,i5,i6,i7,i8,i9,i10⟩ hsl (qf.fw (fwd kk1)) hfl (ql.fw (fwd kk1)) kb (B0 (Nat.le_refl _)) tsb
end
open Go.ChangeShapes
noncomputable def ofG {α: Type}:Nat→List α→T α
 |_,[]=> .leaf
 |i,x::r=>T.set (ofG (i+1) r) i (some x)
theorem dz {α: Type}: ∀(l:List α) (i j:Nat),T.get (ofG i l) j=if i≤j then l[j - i]? else none
 | [],i,j=>by simp only [ofG,T.get_leaf];split <;> simp
 |x::r,i,j=>by
  simp only [ofG,T.get_set,dz r];by_cases h1:j=i;·subst h1;simp
  ·rw [if_neg h1];by_cases h2:i+1≤j;·rw [if_pos h2,if_pos (by omega),show j - i=(j - (i+1))+1 by omega,List.getElem?_cons_succ]
   ·rw [if_neg h2,if_neg (by omega)]
theorem Aqu {α: Type}(l:List α)(j:Nat):T.get (ofG 0 l) j=l[j]?:=by rw [dz,if_pos (Nat.zero_le _),Nat.sub_zero]
section
variable {a:Addr}{cap:Nat}
theorem ns (h:W.cell? a=some v):a.spot=none∧ ∃cs e fr,W.heap[a.block]?=some (.cells cs e fr)∧cs[a.off]?=some v:=by
 unfold World.cell? at h;split at h
 ·rename_i cs e fr hb
  cases hs:a.spot with
  |none=>rw [hs]at h;exact⟨rfl,cs,e,fr,hb,h⟩
  |some _=>rw [hs]at h;cases h
 ·cases h
theorem Ahd {n:Nat}(h:a.spot=none):a.add n=⟨a.block,a.off+n,none⟩:=by
 unfold Addr.add;obtain⟨b,o,s⟩:=a;split;·rename_i h0;subst h0;simp only at h;subst h;rfl
 ·rfl
theorem Xv (hk:0<k)(hcap:0<cap){f:Nat→List Value}(h: ∀i,i<cap→W.cells? 0 (a.add (i*k)) k=some (f i)): ∃cs e fr,a.spot=none∧W.heap[a.block]?=some (.cells cs e fr)∧a.off+cap*k≤cs.size∧ ∀i j,i<cap→j<k→cs[a.off+(i*k+j)]?=(f i)[j]?:=by
 have h0:=World.cells?_some (h 0 hcap);have c0:=h0.2.2 0 hk;have hl0:=h0.2.1;rw [List.getElem?_eq_getElem (by omega)]at c0;have e0:(a.add (0*k)).add 0=a:=by rw [Nat.zero_mul];rfl
 rw [e0]at c0;obtain⟨hs,cs,e,fr,hb,-⟩:=ns c0;have key: ∀i j,i<cap→j<k→cs[a.off+(i*k+j)]?=(f i)[j]?:=by intro i j hi hj;have h1:=(World.cells?_some (h i hi)).2.2 j hj;rw [Ahd hs,Cw,Kd hb]at h1;rw [←h1,Nat.add_assoc]
 refine⟨cs,e,fr,hs,hb,?_,key⟩;have h1:=key (cap - 1) (k - 1) (by omega) (by omega);have h2:=(World.cells?_some (h (cap - 1) (by omega))).2.1;rw [List.getElem?_eq_getElem (by omega)]at h1;have h3:=(Array.getElem?_eq_some_iff.1 h1).1;have h4:cap*k=(cap - 1)*k+k:=by
  have:(cap - 1+1)*k=(cap - 1)*k+k:=by rw [Nat.add_mul,Nat.one_mul]
  rwa [show cap - 1+1=cap by omega]at this
 omega
end
section
variable {H:Type}{enc:TypeId×Value→H}{e:TypeId}{fuel:Nat}
theorem Se (ht:P.underlying t=some (.slice e)){y:DataW H×List MemPlace}(h:DataW.trod enc P W 0 (fun _=>true) held fuel t [v]=some y): v= .slice none 0 0∨ ∃a len cap n,v= .slice (some a) len cap∧len≤cap∧ ∀i,i<cap→ ∃c z,W.cells? 0 (a.add (i*P.cellsOf e)) (P.cellsOf e)=some c∧DataW.trod enc P W 0 (fun _=>true) held n e c=some z:=by
 rcases DataW.trod_slice ht h with⟨h1,-⟩|⟨a,len,cap,elems,rest,n,-,h1,-,-,hle,-,hlen,hel,hsp,-⟩;·left;simpa using h1
 ·right;refine⟨a,len,cap,n,by simpa using h1,hle,fun i hi=>?_⟩;obtain⟨hr1,hr2⟩:=hsp rfl;have: ∃z,(W.cells? 0 (a.add (i*P.cellsOf e)) (P.cellsOf e)).bind (DataW.trod enc P W 0 (fun _=>true) held n e)=some z:=by
   by_cases hi2:i<len;·rw [hel i hi2];exact⟨_,List.getElem?_eq_getElem (by omega)⟩
   ·have:=hr2 (i - len) (by omega);rw [show len+(i - len)=i by omega]at this;rw [this];exact⟨_,List.getElem?_eq_getElem (by omega)⟩
  obtain⟨z,hz⟩:=this;rw [Option.bind_eq_some_iff]at hz;obtain⟨c,h2,h3⟩:=hz;exact⟨c,z,h2,h3⟩
theorem dt1 (h:(cs.drop o).take 1= [v]):cs[o]?=some v:=by have:=congrArg (fun l=>l[0]?) h;simpa [List.getElem?_take,List.getElem?_drop]using this
theorem J6 {k:IntKind}{z:DataW H×List MemPlace}{sp:Nat→Bool}(ht:P.underlying t=some (.int k))(hc:P.cellsOf t=1)(h:DataW.trod enc P W 0 sp held fuel t ((cs.drop o).take (P.cellsOf t))=some z): ∃n,cs[o]?=some (.int k n)∧(Lit.int k n).wf=true:=by rw [hc]at h;obtain⟨n,h1,-,h2⟩:=DataW.trod_int ht h;exact⟨n,dt1 h1,h2⟩
end
structure TyA (P:Program):Prop where
 u3:P.underlying 3=some (.int .i64)
 c3:P.cellsOf 3=1
 u28:P.underlying 28=some (.slice 3)
 c28:P.cellsOf 28=1
 u67:P.underlying 67=some (.slice 79)
 u79: ∃fs,P.underlying 79=some (.struct fs)∧fs.map (fun f=>(f.type,f.offset))= #[(3,0),(3,1),(28,2),(3,3),(3,4)]
 c79:P.cellsOf 79=5
theorem fld {fs:Array Field}{A:Array (TypeId×Nat)}(h:fs.map (fun f=>(f.type,f.offset))=A)(hi:A[i]?=some (t,o)): ∃f,fs[i]?=some f∧f.type=t∧f.offset=o:=by
 subst h;rw [Array.getElem?_map,Option.map_eq_some_iff]at hi;obtain⟨f,h1,h2⟩:=hi
 cases h2;exact⟨f,h1,rfl,rfl⟩
section
variable {H:Type}{enc:TypeId×Value→H}
theorem yc {x:DataW H×List MemPlace}{A:Array (TypeId×Nat)}{sp:Nat→Bool}(hu: ∃fs,P.underlying t=some (.struct fs)∧fs.map (fun f=>(f.type,f.offset))=A) (h:DataW.trod enc P W 0 sp held n0 t cs=some x):cs.length=P.cellsOf t∧ ∃n,∀(i:Nat) (t':TypeId) (o:Nat),A[i]?=some (t',o)→ ∃z,DataW.trod enc P W 0 sp held n t' ((cs.drop o).take (P.cellsOf t'))=some z:=by obtain⟨fs,h1,h2⟩:=hu;obtain⟨xs,n,-,-,hl,hlen,hf⟩:=DataW.trod_struct h1 h;refine⟨hl,n,fun i t' o hi=>?_⟩;obtain⟨f,h3,h4,h5⟩:=fld h2 hi;have h6:=hf i f h3;have h7:=(Array.getElem?_eq_some_iff.1 h3).1;rw [h4,h5]at h6;rw [h6];exact⟨_,List.getElem?_eq_getElem (by omega)⟩
theorem Aot {α: Type}{n:Nat}(hn:0<n){R:Nat→α→Prop}(h: ∀i,i<n→ ∃y,R i y): ∃f:Nat→α,∀i,i<n→R i (f i):=by
 have: ∀i,∃y,i<n→R i y:=fun i=>by
  by_cases hi:i<n;·obtain⟨y,hy⟩:=h i hi;exact⟨y,fun _=>hy⟩
  ·obtain⟨y,-⟩:=h 0 hn;exact⟨y,fun q=>absurd q hi⟩
 exact Classical.axiomOfChoice this
theorem Uc {α: Type}(f:Nat→α)(n i:Nat)(x:α)(h:((List.range n).map f)[i]?=some x):i<n∧x=f i:=by rw [List.getElem?_map,Option.map_eq_some_iff]at h;obtain⟨j,h1,h2⟩:=h;obtain⟨h3,h4⟩:=List.getElem?_eq_some_iff.1 h1;rw [List.length_range]at h3;rw [List.getElem_range]at h4;subst h4;exact⟨h3,h2.symm⟩
theorem Ab1 (l:List AV)(i:Nat):T.get (ofL 0 (.leaf:T AV) l) i=l[i]?:=Ii l i
def InO (W:World)(v:Value)(x:List Int×Option Loc):Prop:=
 match x.2 with
 |none=>x.1= []∧(v= .slice none 0 0∨ ∃a,v= .slice (some a) 0 0)
 |some l=> ∃cap cs e fr,v= .slice (some ⟨l.cb,l.base,none⟩) x.1.length cap∧x.1.length≤cap∧l.base+cap*1≤l.csz∧W.heap[l.cb]?=some (.cells cs e fr)∧cs.size=l.csz∧ ∀i y,x.1[i]?=some y→cs[l.base+i]?=some (.int .i64 y)
theorem Ud (T:TyA P){y:DataW H×List MemPlace}(h:DataW.trod enc P W 0 (fun _=>true) held n0 28 [v]=some y): ∃x,InO W v x:=by
 rcases Se T.u28 h with rfl|⟨a,len,cap,n,rfl,hle,hc⟩;·exact⟨([],none),rfl,.inl rfl⟩
 ·by_cases hcap:cap=0
  ·subst hcap;obtain rfl:len=0:=by omega
   exact⟨([],none),rfl,.inr ⟨a,rfl⟩⟩
  ·rw [T.c3]at hc;have hc2: ∀i,i<cap→ ∃e:Int,W.cells? 0 (a.add (i*1)) 1=some [.int .i64 e]:=fun i hi=>by obtain⟨c,z,h1,h2⟩:=hc i hi;obtain⟨e,h3,-⟩:=DataW.trod_int T.u3 h2;exact⟨e,by rw [h1,h3]⟩
   obtain⟨f,hf⟩:=Aot (Nat.pos_of_ne_zero hcap) hc2;obtain⟨cs,e,fr,hs,hb,hsz,hk⟩:=Xv (k:=1) (f:=fun i=> [.int .i64 (f i)]) (by omega) (Nat.pos_of_ne_zero hcap) hf;obtain⟨ab,ao,spt9⟩:=a;simp only at hs hb hsz hk;subst hs;have hlen:((List.range len).map f).length=len:=(by simp);refine⟨((List.range len).map f,some ⟨ab,ao,cs.size⟩),cap,cs,e,fr,?_,?_,hsz,hb,rfl,fun i y hi=>?_⟩;·show _=Value.slice (some ⟨ab,ao,none⟩) ((List.range len).map f).length cap;rw [hlen]
   ·show((List.range len).map f).length≤cap;rw [hlen];exact hle
   ·obtain⟨h1,rfl⟩:=Uc f len i y hi;have:=hk i 0 (by omega) (by omega);rw [Nat.mul_one,Nat.add_zero]at this;exact this
abbrev Xw:=Int×Int×Value×(List Int×Option Loc)×Int×Int
def acV (y:Xw):List Value:= [.int .i64 y.1,.int .i64 y.2.1,y.2.2.1,.int .i64 y.2.2.2.2.1,.int .i64 y.2.2.2.2.2]
def AO (W:World)(v:Value)(x:List Xw×Option Loc):Prop:=
 (∀y∈x.1,InO W y.2.2.1 y.2.2.2.1)∧match x.2 with
 |none=>x.1= []∧(v= .slice none 0 0∨ ∃a,v= .slice (some a) 0 0)
 |some l=> ∃cap cs e fr,v= .slice (some ⟨l.cb,l.base,none⟩) x.1.length cap∧x.1.length≤cap∧l.base+cap*5≤l.csz∧W.heap[l.cb]?=some (.cells cs e fr)∧cs.size=l.csz∧ ∀i y,x.1[i]?=some y→ ∀j,j<5→cs[l.base+(i*5+j)]?=(acV y)[j]?
theorem ye (T:TyA P){x:DataW H×List MemPlace}(h:DataW.trod enc P W 0 (fun _=>true) held n0 79 cs=some x): ∃y:Xw,cs=acV y∧InO W y.2.2.1 y.2.2.2.1:=by
 obtain⟨hl,n,hf⟩:=yc T.u79 h;rw [T.c79]at hl;obtain⟨z0,h0⟩:=hf 0 3 0 rfl;obtain⟨z1,h1⟩:=hf 1 3 1 rfl;obtain⟨z2,h2⟩:=hf 2 28 2 rfl;obtain⟨z3,h3⟩:=hf 3 3 3 rfl;obtain⟨z4,h4⟩:=hf 4 3 4 rfl;obtain⟨a,a1,-⟩:=J6 T.u3 T.c3 h0;obtain⟨b,b1,-⟩:=J6 T.u3 T.c3 h1;obtain⟨c,c1,-⟩:=J6 T.u3 T.c3 h3;obtain⟨d,d1,-⟩:=J6 T.u3 T.c3 h4;rw [T.c28]at h2;have e2:(cs.drop 2).take 1= [cs[2]]:=by rw [List.drop_eq_getElem_cons (show 2<cs.length by omega)];rfl
 rw [e2]at h2;obtain⟨x,hx⟩:=Ud T h2;refine⟨(a,b,cs[2],x,c,d),List.ext_getElem? fun i=>?_,hx⟩;rcases i with _|_|_|_|_|i;·exact a1
 ·exact b1
 ·exact List.getElem?_eq_getElem (by omega)
 ·exact c1
 ·exact d1
 ·rw [List.getElem?_eq_none (by omega)];rfl
theorem nu (T:TyA P){y:DataW H×List MemPlace}(h:DataW.trod enc P W 0 (fun _=>true) held n0 67 [v]=some y): ∃x,AO W v x:=by
 rcases Se T.u67 h with rfl|⟨a,len,cap,n,rfl,hle,hc⟩;·exact⟨([],none),(fun y hy=>by cases hy),rfl,.inl rfl⟩
 ·by_cases hcap:cap=0
  ·subst hcap;obtain rfl:len=0:=by omega
   exact⟨([],none),(fun y hy=>by cases hy),rfl,.inr ⟨a,rfl⟩⟩
  ·rw [T.c79]at hc;have hc2: ∀i,i<cap→ ∃y:Xw,W.cells? 0 (a.add (i*5)) 5=some (acV y)∧InO W y.2.2.1 y.2.2.2.1:=fun i hi=>by obtain⟨c,z,h1,h2⟩:=hc i hi;obtain⟨y,rfl,h3⟩:=ye T h2;exact⟨y,h1,h3⟩
   obtain⟨f,hf⟩:=Aot (Nat.pos_of_ne_zero hcap) hc2;obtain⟨cs,e,fr,hs,hb,hsz,hk⟩:=Xv (k:=5) (f:=fun i=>acV (f i)) (by omega) (Nat.pos_of_ne_zero hcap) fun i hi=>(hf i hi).1;obtain⟨ab,ao,spt9⟩:=a;simp only at hs hb hsz hk;subst hs;have hlen:((List.range len).map f).length=len:=(by simp);refine⟨((List.range len).map f,some ⟨ab,ao,cs.size⟩),(fun y hy=>?_),cap,cs,e,fr,?_,?_,hsz,hb,rfl,fun i y hi j hj=>?_⟩;·obtain⟨i,h1,rfl⟩:=List.mem_map.1 hy;have:=List.mem_range.1 h1;exact(hf i (by omega)).2
   ·show _=Value.slice (some ⟨ab,ao,none⟩) ((List.range len).map f).length cap;rw [hlen]
   ·show((List.range len).map f).length≤cap;rw [hlen];exact hle
   ·obtain⟨h1,rfl⟩:=Uc f len i y hi;exact hk i j (by omega) hj
end
def E9 (rows:List (Option Loc×List AV)):Phi:=fun b=>(rows[b]?).bind (·.1)
noncomputable def Pm (rows:List (Option Loc×List AV)):H:=⟨rows.length,ofG 0 (rows.map fun r=>Nz r.2)⟩
theorem Sf:H.get (Pm rows) b=(rows[b]?).map fun r=>Nz r.2:=by show T.get (ofG 0 (rows.map fun r=>Nz r.2)) b=_;rw [Aqu,List.getElem?_map]
theorem d6 {o:Option Loc}(h:rows[b]?=some (o,c)):Rk (Pm rows) b c:= ⟨⟨true,by rw [Sf,h];rfl⟩,(List.getElem?_eq_some_iff.1 h).1⟩
section
theorem Ab2 (hb: ∀(b:Nat) (l:Loc) (c:List AV),rows[b]?=some (some l,c)→ ∃o,W.heap[l.cb]?=some o∧BR E (E9 rows) l (Nz c) o):HR E W.heap (E9 rows) (Pm rows) W.heap:=by
 have key: ∀b l,E9 rows b=some l→ ∃c,rows[b]?=some (some l,c):=by intro b l h;unfold E9 at h;rw [Option.bind_eq_some_iff]at h;obtain⟨⟨o,c⟩,h1,h2⟩:=h;simp only at h2;subst h2;exact⟨c,h1⟩
 have ro: ∀b x,H.get (Pm rows) b=some x→roB x=true:=by intro b x h;rw [Sf,Option.map_eq_some_iff]at h;obtain⟨r,-,rfl⟩:=h;rfl
 refine⟨fun b l h=>?_,fun b l h=>?_,fun b l x h hx=>?_,fun b b' l l' x x' _ _ hx _ hr _=>?_,fun b l x _ hx hr=>?_,fun _ _=>rfl,Nat.le_refl _⟩;·obtain⟨c,h1⟩:=key b l h;exact(List.getElem?_eq_some_iff.1 h1).1
 ·obtain⟨c,h1⟩:=key b l h;obtain⟨o,h2,-⟩:=hb b l c h1;rcases Nat.lt_or_ge l.cb W.heap.size with h'|h';·exact h'
  ·rw [Array.getElem?_eq_none h']at h2;cases h2
 ·obtain⟨c,h1⟩:=key b l h;rw [Sf,h1]at hx
  cases hx;exact hb b l c h1
 ·rw [ro b x hx]at hr;cases hr
 ·rw [ro b x hx]at hr;cases hr
theorem yf {l:Loc}{xs:List AV}{cs:Array Value}{e:TypeId}{fr:Nat×Nat}(hs:cs.size=l.csz)(hn:l.base+xs.length≤cs.size)(h: ∀(i:Nat) (v:AV),xs[i]?=some v→ ∃v',cs[l.base+i]?=some v'∧VR φ v v'): BR E φ l (Nz xs) (.cells cs e fr):= .cells (fun q=>by cases q) hs hn fun i v hi hv=>h i v (by rw [Ab1]at hv;exact hv)
theorem Ab3 {α: Type}{f:α→List AV}(hk:0<k)(l:List α)(hl: ∀x∈l,(f x).length=k){v:AV}(h:(l.flatMap f)[i]?=some v): ∃x,l[i / k]?=some x∧(f x)[i % k]?=some v∧i / k*k+i % k=i:=by
 have h1:i<(l.flatMap f).length:=(List.getElem?_eq_some_iff.1 h).1;rw [C8 l hl]at h1;have h2:i / k<l.length:=by rw [Nat.div_lt_iff_lt_mul hk];exact h1
 have h3:i / k*k+i % k=i:=by rw [Nat.mul_comm];exact Nat.div_add_mod i k
 refine⟨l[i / k],List.getElem?_eq_getElem h2,?_,h3⟩;rw [←Di l hl (i / k) (i % k) _ (List.getElem?_eq_getElem h2) (Nat.mod_lt _ hk),h3];exact h
def iAV (b:Nat)(v:Value)(x:List Int×Option Loc):AV:=match x.2 with
 |none=>(match v with
  | .slice none _ _=> .nils
  |_=> .opq v)
 |some _=> .slc b 0 x.1.length (Aa+1)
theorem yg {x:List Int×Option Loc}(h:InO W v x)(hφ: φ b=x.2):VR φ (iAV b v x) v:=by
 obtain⟨xs,ol⟩:=x
 cases ol with
 |none=>
  obtain⟨-,rfl|⟨a,rfl⟩⟩:=h;·exact .nils
  ·exact .opq _
 |some l=>obtain⟨cap,cs,e,fr,rfl,h1,h2,-,-,-⟩:=h;exact .slcU hφ h1 h2 fun _=>rfl
theorem d7 {x:List Int×Option Loc}{l:Loc}(h:InO W v x)(hl:x.2=some l): ∃o,W.heap[l.cb]?=some o∧BR E φ l (Nz (x.1.map eI)) o:=by obtain⟨xs,ol⟩:=x;simp only at hl;subst hl;obtain⟨cap,cs,e,fr,rfl,h1,h2,h3,h4,h5⟩:=h;simp only at h1 h5;refine⟨_,h3,yf h4 (by rw [List.length_map];show l.base+xs.length≤cs.size;omega) fun i u hi=>?_⟩;rw [List.getElem?_map,Option.map_eq_some_iff]at hi;obtain⟨y,hy,rfl⟩:=hi;exact⟨_,h5 i y hy,.int _ _⟩
theorem d8 {x:List Int×Option Loc}(h:InO W v x)(hr:rows[b]?=some (x.2,x.1.map eI)):IntsR (fun _=>0) (Pm rows) (iAV b v x) x.1:=by
 obtain⟨xs,ol⟩:=x
 cases ol with
 |none=>
  obtain⟨e,rfl|⟨a,rfl⟩⟩:=h;·exact⟨.inl ⟨e,rfl⟩⟩
  ·exact⟨.inr (.inl ⟨e,a,rfl⟩)⟩
 |some l=>exact⟨.inr (.inr ⟨b,_,rfl,d6 hr,rfl⟩)⟩
def Ahe (i:Nat)(y:Xw):Act:=((y.1,y.2.1,y.2.2.2.1.1,y.2.2.2.2.1,y.2.2.2.2.2),iAV (i+2) y.2.2.1 y.2.2.2.1)
def J7 (ys:List Xw):List Act:=ys.mapIdx Ahe
theorem Ue {ys:List Xw}:(J7 ys)[i]?=(ys[i]?).map (Ahe i):=by unfold J7;rw [List.getElem?_mapIdx]
def Nf (fx:List Int×Option Loc)(ax:List Xw×Option Loc):List (Option Loc×List AV):=(fx.2,fx.1.map eI)::(ax.2,(J7 ax.1).flatMap acC)::ax.1.map fun y=>(y.2.2.2.1.2,y.2.2.2.1.1.map eI)
theorem nv {H1:Type}{enc:TypeId×Value→H1}(Ty:TyA P){n1:Nat}{fx:List Int×Option Loc}{y3:DataW H1×List MemPlace}(hf:InO W v2 fx)(h3:DataW.trod enc P W 0 (fun _=>true) held n1 67 [v3]=some y3): ∃(h0:H) (φ: Phi) (av2 av3:AV) (fl:List Int) (al:List Act),VR φ av2 v2∧VR φ av3 v3∧HR E W.heap φ h0 W.heap∧IntsR (fun _=>0) h0 av2 fl∧AcR (fun _=>0) h0 av3 al:=by
 obtain⟨ax,ha0,ha⟩:=nu Ty h3;have rowI: ∀i y,ax.1[i]?=some y→(Nf fx ax)[i+2]?=some (y.2.2.2.1.2,y.2.2.2.1.1.map eI):=by intro i y hi;show(ax.1.map _)[i]?=_;rw [List.getElem?_map,hi];rfl
 have phiI: ∀i y,ax.1[i]?=some y→E9 (Nf fx ax) (i+2)=y.2.2.2.1.2:=by intro i y hi;unfold E9;rw [rowI i y hi];rfl
 have hlen:(J7 ax.1).length=ax.1.length:=by unfold J7;rw [List.length_mapIdx]
 have hr:HR E W.heap (E9 (Nf fx ax)) (Pm (Nf fx ax)) W.heap:=by
  refine Ab2 fun b l c hb=>?_;rcases b with _|_|i
  ·have hb:some (fx.2,fx.1.map eI)=some (some l,c):=hb;obtain⟨e1,e2⟩:=Prod.mk.inj (Option.some.inj hb);rw [←e2];exact d7 hf e1
  ·have hb:some (ax.2,(J7 ax.1).flatMap acC)=some (some l,c):=hb;obtain⟨e1,e2⟩:=Prod.mk.inj (Option.some.inj hb);rw [←e2];rw [e1]at ha;obtain⟨cap,cs,e,fr,rfl,g1,g2,g3,g4,g5⟩:=ha;refine⟨_,g3,yf g4 ?_ fun i u hi=>?_⟩;·rw [C8 _ (K1 _),hlen];have:ax.1.length*5≤cap*5:=Nat.mul_le_mul_right 5 g1;omega
   ·obtain⟨q,q1,q2,q3⟩:=Ab3 (by omega) _ (K1 _) hi;rw [Ue,Option.map_eq_some_iff]at q1;obtain⟨y,hy,rfl⟩:=q1;have g6:=g5 (i / 5) y hy (i % 5) (Nat.mod_lt _ (by omega));rw [q3]at g6;have hV:VRs (E9 (Nf fx ax)) (acC (Ahe (i / 5) y)) (acV y):= .cons (.int _ _) (.cons (.int _ _) (.cons (yg (ha0 y (List.mem_of_getElem? hy)) (phiI _ y hy)) (.cons (.int _ _) (.cons (.int _ _) .nil))));obtain⟨u',h7,h8⟩:=hV.get q2;exact⟨u',by rw [g6];exact h7,h8⟩
  ·have hb:(ax.1.map fun y=>(y.2.2.2.1.2,y.2.2.2.1.1.map eI))[i]?=some (some l,c):=hb;rw [List.getElem?_map,Option.map_eq_some_iff]at hb;obtain⟨y,hy,e⟩:=hb;obtain⟨e1,e2⟩:=Prod.mk.inj e;rw [←e2];exact d7 (ha0 y (List.mem_of_getElem? hy)) e1
 have el: ∀x∈J7 ax.1,IntsR (fun _=>0) (Pm (Nf fx ax)) x.2 x.1.2.2.1:=by
  intro x hx;obtain⟨i,hi,e⟩:=List.getElem_of_mem hx;have h1:(J7 ax.1)[i]?=some x:=by rw [List.getElem?_eq_getElem hi,e]
  rw [Ue,Option.map_eq_some_iff]at h1;obtain⟨y,hy,rfl⟩:=h1;exact d8 (ha0 y (List.mem_of_getElem? hy)) (rowI i y hy)
 have hv2:VR (E9 (Nf fx ax)) (iAV 0 v2 fx) v2:=yg hf rfl;have hi2:IntsR (fun _=>0) (Pm (Nf fx ax)) (iAV 0 v2 fx) fx.1:=d8 hf rfl
 cases he:ax.2 with
 |none=>
  rw [he]at ha;obtain⟨e,rfl|⟨a,rfl⟩⟩:=ha;·exact⟨_,_,_,.nils,_,J7 ax.1,hv2,.nils,hr,hi2,el,.inl ⟨by rw [e];rfl,rfl⟩⟩
  ·exact⟨_,_,_,.opq _,_,J7 ax.1,hv2,.opq _,hr,hi2,el,.inr (.inl ⟨by rw [e];rfl,a,rfl⟩)⟩
 |some l=>have hp:E9 (Nf fx ax) 1=some l:=he;rw [he]at ha;obtain⟨cap,cs,e,fr,rfl,g1,g2,g3,g4,g5⟩:=ha;exact⟨_,_,_,.slc 1 0 ax.1.length (Aa+5),_,J7 ax.1,hv2,.slcU hp g1 g2 fun _=>rfl,hr,hi2,el,.inr (.inr ⟨1,Aa+5,by rw [hlen],d6 (b:=1) rfl,rfl⟩)⟩
theorem Z6 {H1:Type}{enc:TypeId×Value→H1}(Ty:TyA P){n1:Nat}{y2 y3:DataW H1×List MemPlace}(h2:DataW.trod enc P W 0 (fun _=>true) held n0 28 [v2]=some y2)(h3:DataW.trod enc P W 0 (fun _=>true) held n1 67 [v3]=some y3): ∃(h0:H) (φ: Phi) (av2 av3:AV) (fl:List Int) (al:List Act),VR φ av2 v2∧VR φ av3 v3∧HR E W.heap φ h0 W.heap∧IntsR (fun _=>0) h0 av2 fl∧AcR (fun _=>0) h0 av3 al:=by obtain⟨fx,hf⟩:=Ud Ty h2;exact nv Ty hf h3
