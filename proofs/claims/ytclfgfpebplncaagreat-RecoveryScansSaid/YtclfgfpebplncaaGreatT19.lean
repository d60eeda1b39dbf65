/- Part of the proof. -/
import Derived.Test.YtclfgfpebplncaaGreatT16
import Derived.Test.YtclfgfpebplncaaGreatT18
set_option linter.unusedVariables false
set_option linter.unusedSectionVars false
set_option linter.unusedSimpArgs false
set_option maxRecDepth 10000
set_option maxHeartbeats 4000000
namespace Go.Ev
section
variable {P0:Program}{E:Env}{F:T CFn}{K:T (List AV×AV)}(L:Lg P0 E F K)(X:Fx F K)
include L X
section
variable {h:H}
omit L X in
def mpV (S nb P:Nat)(lv:AV):List AV:= [AI ((S:Nat):Int),AI ((nb:Nat):Int),AI ((P:Nat):Int),lv]
theorem V4 {S nb P:Nat}(hS:1≤S∧S≤1000)(hn:2≤nb∧nb≤6)(hP:2≤P∧P≤6):Ct P0 E F K 62 [AI ((S:Nat):Int),AI ((nb:Nat):Int),AI ((P:Nat):Int)] h fun v h'=>v= .tup [.agg (mpV S nb P .nils),AI ((0:Nat):Int)]∧K0 h h':=by
 refine A6 L X.f62 X.k62 rfl rfl fun Q x cs G=>?_
 refine wk ?_
 refine ret X.f62 ?_
 exact⟨rfl,kps⟩
omit L X in
theorem K5 {es:List Ent}{i:Nat}{e:Ent}(hx:es[i]?=some e):(es.flatMap An)[i*2+0]?=some (AI e.1)∧(es.flatMap An)[i*2+1]?=some (AI e.2):=by
 refine⟨?_,?_⟩
 ·rw [Dd es (B4 es) i 0 e hx (by omega)];rfl
 ·rw [Dd es (B4 es) i 1 e hx (by omega)];rfl
theorem V5 {S nb P lo:Nat}{lv:AV}{ls:List Ent}{p:Int}(q:EL h lo lv ls)(hl:ls.length≤10000):Ct P0 E F K 120 [.agg (mpV S nb P lv),AI p] h fun v h'=>v=(match N9 ls p with|some e=> .tup [AI e.1,.bool true]|none=> .tup [AI ((0:Nat):Int),.bool false])∧K0 h h':=by
 unfold mpV
 rcases q.len with⟨rfl,rfl⟩|⟨g1,b,rfl,g3,g4⟩
 ·refine Af L X.f120 X.k120 rfl rfl fun Q x cs G=>?_
  refine wk ?_
  refine A4 L ?_
  refine wk ?_
  refine ret X.f120 ?_
  exact⟨rfl,kps⟩
 have l1:=g3.lt
 refine Af L X.f120 X.k120 rfl rfl fun Q x cs G=>?_
 refine wk ?_
 refine Bb L (α:= Unit) (T:=fun i _=> [(6,some (AI ((i:Nat):Int))),(2,some (.ptr h.n 0)),(1,some (AI p))]) (n:=ls.length)
  (R:=fun i _ h2=>K0 h h2∧Bk h2 h.n [AI ((S:Nat):Int),AI ((nb:Nat):Int),AI ((P:Nat):Int),.slc b 0 ls.length (Ac+2)]∧ ∀j e,j<i→ls[j]?=some e→e.2≠p) (i0:=0) () tsb ⟨kps,lkp,fun j e hj=>absurd hj (Nat.not_lt_zero _)⟩ (Nat.zero_le _) ?_ ?_
 ·rintro i _ h2 hi ⟨w1,w2,w3⟩ ih
  have hx:ls[i]?=some ls[i]:=List.getElem?_eq_getElem hi
  obtain⟨x1,x2⟩:=K5 hx
  have gb:=Aj w1 g3
  have n2:=w1.n
  have l2:=w2.lt
  by_cases hp:(ls[i]).2=p
  ·have e1:N9 ls p=some ls[i]:=by
    unfold N9
    rw [List.find?_eq_some_iff_getElem]
    refine⟨by simpa using hp,i,hi,rfl,fun j hj=>?_⟩
    have:=w3 j _ hj (List.getElem?_eq_getElem (by omega))
    simpa using this
   rw [e1]at G
   generalize ls[i]=e at*
   refine wk ?_
   refine ret X.f120 ?_
   exact⟨rfl,kps⟩
  ·have e1: ∀j e,j<i+1→ls[j]?=some e→e.2≠p:=by
    intro j e hj he
    by_cases q:j=i
    ·subst q;rw [hx]at he;cases he;exact hp
    ·exact w3 j e (by omega) he
   generalize ls[i]=e at*
   refine wk ?_
   refine ih () _ _ ⟨by exact kps,by exact lkp,e1⟩ tsb
 ·rintro _ h2 ⟨w1,w2,w3⟩
  have e1:N9 ls p=none:=by
   unfold N9
   rw [List.find?_eq_none]
   intro e he
   obtain⟨i,hi⟩:=List.mem_iff_getElem?.1 he
   have:=w3 i e (List.getElem?_eq_some_iff.1 hi).1 hi
   simpa using this
  rw [e1]at G
  have n2:=w1.n
  have l2:=w2.lt
  refine wk ?_
  refine ret X.f120 ?_
  exact⟨rfl,kps⟩
omit L X in
structure ELo (h:H)(lo:Nat)(v:AV)(l:List Ent):Prop where
 ex:(l= []∧v= .nils)∨(0<l.length∧ ∃b,v= .slc b 0 l.length (Ac+2)∧Bk h b (l.flatMap An)∧lo≤b)
omit L X in
theorem ELo.el {h:H}{lo:Nat}{v:AV}{l:List Ent}(q:ELo h lo v l):EL h lo v l:=by
 rcases q.ex with e|⟨e1,b,e2,e3,e4⟩
 ·exact⟨.inl e⟩
 ·exact⟨.inr ⟨List.length_pos_iff.1 e1,b,e2,e3,e4⟩⟩
theorem Uh {S nb P lo:Nat}{lv:AV}{ls:List Ent}{s:Int}(q:EL h lo lv ls)(hl:ls.length≤10000):Ct P0 E F K 121 [.agg (mpV S nb P lv),AI s] h fun v h'=> ∃lv',v= .agg (mpV S nb P lv')∧EL h' h.n lv' (L5 ls s)∧K0 h h':=by
 unfold mpV
 rcases q.len with⟨rfl,rfl⟩|⟨g1,b,rfl,g3,g4⟩
 ·refine Af L X.f121 X.k121 rfl rfl fun Q x cs G=>?_
  refine wk ?_
  refine A4 L ?_
  refine wk ?_
  refine ret X.f121 ?_
  exact⟨.nils,rfl,EL.nil _ _,kps⟩
 have l1:=g3.lt
 refine Af L X.f121 X.k121 rfl rfl fun Q x cs G=>?_
 refine wk ?_
 refine Bb L (α:= AV) (T:=fun i v=> [(6,some (AI ((i:Nat):Int))),(5,some v),(4,some (.ptr (h.n+1) 0)),(2,some (.ptr h.n 0)),(1,some (AI s))]) (n:=ls.length)
  (R:=fun i v h2=>K0 h h2∧Bk h2 h.n [AI ((S:Nat):Int),AI ((nb:Nat):Int),AI ((P:Nat):Int),.slc b 0 ls.length (Ac+2)]∧Bk h2 (h.n+1) [AI ((0:Nat):Int),AI ((0:Nat):Int),AI ((0:Nat):Int),.nils]∧ELo h2 (h.n+2) v (L5 (ls.take i) s)) (i0:=0) .nils tsb ⟨kps,lkp,lkp,⟨.inl ⟨rfl,rfl⟩⟩⟩ (Nat.zero_le _) ?_ ?_
 ·rintro i v h2 hi ⟨w1,w2,w3,w4⟩ ih
  have hx:ls[i]?=some ls[i]:=List.getElem?_eq_getElem hi
  obtain⟨x1,x2⟩:=K5 hx
  have gb:=Aj w1 g3
  have n2:=w1.n
  have l2:=w2.lt
  have l3:=w3.lt
  have e0:L5 (ls.take (i+1)) s=L5 (ls.take i) s++(if(ls[i]).1≠s then [ls[i]]else []):=by
   unfold L5
   rw [List.take_add_one,hx,List.filter_append]
   by_cases e:(ls[i]).1=s <;> simp [e]
  rw [e0]at ih
  have hdl:(L5 (ls.take i) s).length≤10000:=by
   unfold L5
   refine Nat.le_trans (List.length_filter_le _ _) ?_
   rw [List.length_take];omega
  generalize L5 (ls.take i) s=ds at*
  have hdt:=Bj ls (B4 ls) i _ hx
  by_cases hp:(ls[i]).1=s
  ·rw [if_neg (by simpa using hp),List.append_nil]at ih
   generalize ls[i]=e at*
   refine wk ?_
   refine ih v _ _ ⟨by exact kps,by exact lkp,by exact lkp,?_⟩ tsb
   rcases w4.ex with e|⟨e1,b',e2,e3,e4⟩
   ·exact⟨.inl e⟩
   ·exact⟨.inr ⟨e1,b',e2,by exact lkp,e4⟩⟩
  ·rw [if_pos hp]at ih
   generalize ls[i]=e at*
   obtain⟨ea,eb⟩:=e
   have hdt':i*2+2≤(ls.flatMap An).length∧((ls.flatMap An).drop (i*2)).take 2= [AI ea,AI eb]:=hdt
   simp only at hp x1 x2
   have kr:=gb.rk
   rcases w4.ex with⟨rfl,rfl⟩|⟨e1,b',rfl,e3,e4⟩
   ·refine wk ?_
    (apply st1 L rfl;exact D8 (new:= [AI ea,AI eb]) rfl rfl (SlR.of (c:= [AI ea,AI eb]) lkp (Nat.le_refl _) rfl) (by omega) (by omega);rfl)
    refine wk ?_
    refine ih _ _ _ ⟨by exact kps,by exact lkp,by exact lkp,⟨.inr ⟨by simp,_,rfl,by exact lkp,by omega⟩⟩⟩ tsb
   ·have l5:=e3.lt
    refine wk ?_
    (apply st1 L rfl;exact C2 (old:=ds.flatMap An) (new:= [AI ea,AI eb]) rfl rfl (Jq lkp) (SlR.of (c:= [AI ea,AI eb]) lkp (Nat.le_refl _) rfl) (by omega) (by omega) rfl;rfl)
    refine wk ?_
    refine ih _ _ _ ⟨by exact kps,by exact lkp,by exact lkp,?_⟩ tsb
    exact⟨.inr ⟨by simp,_,(Js (by simp)),(by rw [List.flatMap_append];exact lkp),by omega⟩⟩
 ·rintro v h2 ⟨w1,w2,w3,w4⟩
  rw [List.take_length]at w4
  have n2:=w1.n
  have l2:=w2.lt
  have l3:=w3.lt
  rcases w4.ex with⟨e1,rfl⟩|⟨e1,b',rfl,e3,e4⟩
  ·refine wk ?_
   refine ret X.f121 ?_
   exact⟨.nils,rfl,⟨.inl ⟨e1,rfl⟩⟩,kps⟩
  ·refine wk ?_
   refine ret X.f121 ?_
   exact⟨_,rfl,⟨.inr ⟨List.length_pos_iff.1 e1,b',rfl,by exact lkp,by omega⟩⟩,kps⟩
end
end
section
variable {P0:Program}{E:Env}{F:T CFn}{K:T (List AV×AV)}(L:Lg P0 E F K)(X:Fx F K)
include L X
section
variable {h:H}
omit L X in
theorem Q9 {ls:List Ent}{ea eb:Int}{k:Nat}(hk:I2 ls ea=k):Of ls (ea,eb)=ls.take k++ [(ea,eb)]++ls.drop k:=by subst hk;rfl
omit L X in
theorem Zo {ls:List Ent}{ea eb:Int}(hk:I2 ls ea=0):Of ls (ea,eb)=(ea,eb)::ls.drop 0:=by rw [Q9 hk];simp
omit L X in
theorem Ui {h:H}{b cap k:Nat}{ls:List Ent}(q:Bk h b ((ls.take k).flatMap An))(hk:(ls.take k).length=k):SlR 2 h (.slc b 0 k cap) k ((ls.take k).flatMap An):=by
 have:=Jq (cap:=cap) q
 rwa [hk]at this
theorem Aa8 {Q:Nat→AV→Prop}{x:AFr}{cs:List AFr}{S nb P i b8:Nat}{ov lv:AV}{ls:List Ent}{ea eb:Int}{h2:H}(w:K0 h h2)(k2:Bk h2 h.n (mpV S nb P .nils))(k4:Bk h2 (h.n+1) [AI ((0:Nat):Int),AI ((0:Nat):Int),AI ((0:Nat):Int),.nils])
  (k6:Bk h2 (h.n+2) (mpV S nb P ov)) (k8:Bk h2 b8 [AI ea,AI eb]) (h8:h.n+3≤b8) (q:EL h2 (h.n+3) ov ls) (hl:ls.length≤150) (hi:i<1000) (hne: ∀n c,ov≠ .slc b8 0 n c)
  (next: ∀(ov':AV) (h':H) (l':List (Nat×Option AV)),K0 h h'→Bk h' h.n (mpV S nb P .nils)→Bk h' (h.n+1) [AI ((0:Nat):Int),AI ((0:Nat):Int),AI ((0:Nat):Int),.nils]→Bk h' (h.n+2) (mpV S nb P ov')→EL h' (h.n+3) ov' (Of ls (ea,eb))→TSub (tms [(7,some (AI ((i+1:Nat):Int))),(6,some (.ptr (h.n+2) 0)),(4,some (.ptr (h.n+1) 0)),(2,some (.ptr h.n 0)),(1,some lv)]) (tms l')→Good P0 E Q ⟨⟨65,cf65.ntmps,tms l',[.inLoop c65_42,.inBlock 0,.code c65_47],[],.run,false,none⟩,x::cs,h'⟩)
  {lq:List (Nat×Option AV)} (ht:TSub (tms [(11,some (AI ((0:Nat):Int))),(8,some (.ptr b8 0)),(7,some (AI ((i:Nat):Int))),(6,some (.ptr (h.n+2) 0)),(4,some (.ptr (h.n+1) 0)),(2,some (.ptr h.n 0)),(1,some lv)]) (tms lq)):
  Good P0 E Q ⟨⟨65,cf65.ntmps,tms lq,.code c65_27:: [.inBlock 2,.code c65_29,.inBlock 1,.code c65_40,.inLoop c65_42,.inBlock 0,.code c65_47],[],.run,false,none⟩,x::cs,h2⟩:=by
 unfold mpV at*
 have n2:=w.n
 have l4:=k4.lt
 have l6:=k6.lt
 have l8:=k8.lt
 have fin: ∀(h':H) (N m:Nat) (cells:List AV),Bk h' N cells→cells=(Of ls (ea,eb)).flatMap An→m=ls.length+1→h.n+3≤N→EL h' (h.n+3) (.slc N 0 m (Ac+2)) (Of ls (ea,eb)):=by
  intro h' N m cells q1 q2 q3 q4
  refine⟨.inr ⟨fun e=>?_,N,by rw [Q3,q3],by rw [←q2];exact q1,q4⟩⟩
  have:=Q3 ls (ea,eb)
  rw [e]at this;cases this
 rcases q.len with⟨rfl,rfl⟩|⟨g1,b,rfl,g3,g4⟩
 ·refine Bb L (bd:=c65_26) (α:= Unit) (T:=fun j _=> [(11,some (AI ((j:Nat):Int))),(8,some (.ptr b8 0)),(7,some (AI ((i:Nat):Int))),(6,some (.ptr (h.n+2) 0)),(4,some (.ptr (h.n+1) 0)),(2,some (.ptr h.n 0)),(1,some lv)]) (n:=0) (R:=fun _ _ h3=>K0 h2 h3) (i0:=0) () ht (Kp.refl _) (Nat.zero_le _) (fun i s h hi=>absurd hi (Nat.not_lt_zero _)) ?_
  rintro _ h3 w3
  have k2':=Aj w3 k2
  have k4':=Aj w3 k4
  have k6':=Aj w3 k6
  have k8':=Aj w3 k8
  have n3:=w3.n
  have kk:K0 h h3:=Kp.tr0 w3 w
  refine wk ?_
  refine Lq L ?_ ?_
  ·refine wk ?_
   (apply Au rfl rfl;exact C9 rfl rfl)
   (apply p_0;(repeat(first|exact Cr|(apply Ay rfl rfl opv rfl rfl)|(apply Fr rfl rfl rfl)|(apply Ay rfl rfl (Cu rfl rfl (by omega)) rfl rfl)|(apply Ay rfl rfl (C9 rfl rfl) rfl rfl))))
   (apply B5 L rfl rfl;exact jo rfl rfl)
   (apply p_0;(repeat(first|exact Cr|(apply Ay rfl rfl opv rfl rfl)|(apply Fr rfl rfl rfl)|(apply Ay rfl rfl (Cu rfl rfl (by omega)) rfl rfl)|(apply Ay rfl rfl (C9 rfl rfl) rfl rfl))))
   (apply B5 L rfl rfl;exact M0 (new:= [AI ea,AI eb]) rfl rfl (SlR.of (c:= [AI ea,AI eb]) lkp (Nat.le_refl _) rfl) (by omega) (by omega))
   (apply p_0;(repeat(first|exact Cr|(apply Ay rfl rfl opv rfl rfl)|(apply Fr rfl rfl rfl)|(apply Ay rfl rfl (Cu rfl rfl (by omega)) rfl rfl)|(apply Ay rfl rfl (C9 rfl rfl) rfl rfl))))
   (apply B5 L rfl rfl;exact jo rfl rfl)
   refine wk ?_
   refine next _ _ _ (by exact kps) (by exact lkp) (by exact lkp) (by exact lkp) (fin _ _ _ _ (by exact lkp) ?_ ?_ (by omega)) tsb
   ·rfl
   ·rfl
  ·refine wk ?_
   (apply Au rfl rfl;exact C9 rfl rfl)
   (apply p_0;(repeat(first|exact Cr|(apply Ay rfl rfl opv rfl rfl)|(apply Fr rfl rfl rfl)|(apply Ay rfl rfl (Cu rfl rfl (by omega)) rfl rfl)|(apply Ay rfl rfl (C9 rfl rfl) rfl rfl))))
   (apply B5 L rfl rfl;exact jo rfl rfl)
   (apply Au rfl rfl;exact opv)
   (apply p_0;(repeat(first|exact Cr|(apply Ay rfl rfl opv rfl rfl)|(apply Fr rfl rfl rfl)|(apply Ay rfl rfl (Cu rfl rfl (by omega)) rfl rfl)|(apply Ay rfl rfl (C9 rfl rfl) rfl rfl))))
   (apply B5 L rfl rfl;exact M0 (new:= [AI ea,AI eb]) rfl rfl (SlR.of (c:= [AI ea,AI eb]) lkp (Nat.le_refl _) rfl) (by omega) (by omega))
   (apply p_0;(repeat(first|exact Cr|(apply Ay rfl rfl opv rfl rfl)|(apply Fr rfl rfl rfl)|(apply Ay rfl rfl (Cu rfl rfl (by omega)) rfl rfl)|(apply Ay rfl rfl (C9 rfl rfl) rfl rfl))))
   (apply B5 L rfl rfl;exact jo rfl rfl)
   refine wk ?_
   refine next _ _ _ (by exact kps) (by exact lkp) (by exact lkp) (by exact lkp) (fin _ _ _ _ (by exact lkp) ?_ ?_ (by omega)) tsb
   ·rfl
   ·rfl
 have lb:=g3.lt
 have hb8:b≠b8:=fun e=>hne ls.length (Ac+2) (by rw [e])
 have hpl:=Zf ls ea
 generalize hk:I2 ls ea=k at*
 refine Bb L (bd:=c65_26) (α:= Unit) (T:=fun j _=> [(11,some (AI ((j:Nat):Int))),(8,some (.ptr b8 0)),(7,some (AI ((i:Nat):Int))),(6,some (.ptr (h.n+2) 0)),(4,some (.ptr (h.n+1) 0)),(2,some (.ptr h.n 0)),(1,some lv)]) (n:=k)
  (R:=fun _ _ h3=>K0 h2 h3) (i0:=0) () ht (Kp.refl _) (Nat.zero_le _) ?_ ?_
 ·rintro j _ h3 hj w3 ih
  obtain⟨e,he1,he2⟩:=Zg (ls:=ls) (s:=ea) (i:=j) (by omega)
  obtain⟨x1,x2⟩:=K5 he1
  have k6':=Aj w3 k6
  have k8':=Aj w3 k8
  have gb:=Aj w3 g3
  refine wk ?_
  refine ih () _ _ (by exact kps) tsb
 ·rintro _ h3 w3
  have k2':=Aj w3 k2
  have k4':=Aj w3 k4
  have k6':=Aj w3 k6
  have k8':=Aj w3 k8
  have gb:=Aj w3 g3
  have n3:=w3.n
  have kk:K0 h h3:=Kp.tr0 w3 w
  have htk:(ls.take k).length=k:=by rw [List.length_take];omega
  by_cases hr:k=ls.length
  ·have hk0:0<k:=by omega
   refine wk ?_
   refine Lq L ?_ ?_
   ·refine wk ?_
    (apply Au rfl rfl;exact Cu rfl rfl (by omega))
    (apply p_0;(repeat(first|exact Cr|(apply Ay rfl rfl opv rfl rfl)|(apply Fr rfl rfl rfl)|(apply Ay rfl rfl (Cu rfl rfl (by omega)) rfl rfl)|(apply Ay rfl rfl (C9 rfl rfl) rfl rfl))))
    (apply B5 L rfl rfl;exact M0 (new:=(ls.take k).flatMap An) rfl rfl (Ua (ls:=ls) lkp (by omega)) hk0 (by omega))
    (apply p_0;(repeat(first|exact Cr|(apply Ay rfl rfl opv rfl rfl)|(apply Fr rfl rfl rfl)|(apply Ay rfl rfl (Cu rfl rfl (by omega)) rfl rfl)|(apply Ay rfl rfl (C9 rfl rfl) rfl rfl))))
    (apply B5 L rfl rfl;exact C2 (old:=(ls.take k).flatMap An) (new:= [AI ea,AI eb]) rfl rfl (Ui lkp htk) (SlR.of (c:= [AI ea,AI eb]) lkp (Nat.le_refl _) rfl) (by omega) (by omega) rfl)
    (apply p_0;(repeat(first|exact Cr|(apply Ay rfl rfl opv rfl rfl)|(apply Fr rfl rfl rfl)|(apply Ay rfl rfl (Cu rfl rfl (by omega)) rfl rfl)|(apply Ay rfl rfl (C9 rfl rfl) rfl rfl))))
    (apply B5 L rfl rfl;exact Zj rfl rfl (by omega) (by exact lkp) (by rw [A2];omega))
    refine wk ?_
    refine next _ _ _ (by exact kps) (by exact lkp) (by exact lkp) (by exact lkp) (fin _ _ _ _ (by exact lkp) ?_ ?_ (by omega)) tsb
    ·rw [Q9 hk,List.flatMap_append,List.flatMap_append,List.drop_eq_nil_of_le (by omega)];simp [An]
    ·omega
   ·refine wk ?_
    (apply Au rfl rfl;exact Cu rfl rfl (by omega))
    (apply p_0;(repeat(first|exact Cr|(apply Ay rfl rfl opv rfl rfl)|(apply Fr rfl rfl rfl)|(apply Ay rfl rfl (Cu rfl rfl (by omega)) rfl rfl)|(apply Ay rfl rfl (C9 rfl rfl) rfl rfl))))
    (apply B5 L rfl rfl;exact M0 (new:=(ls.take k).flatMap An) rfl rfl (Ua (ls:=ls) lkp (by omega)) hk0 (by omega))
    (apply Au rfl rfl;exact opv)
    (apply p_0;(repeat(first|exact Cr|(apply Ay rfl rfl opv rfl rfl)|(apply Fr rfl rfl rfl)|(apply Ay rfl rfl (Cu rfl rfl (by omega)) rfl rfl)|(apply Ay rfl rfl (C9 rfl rfl) rfl rfl))))
    (apply B5 L rfl rfl;exact C2 (old:=(ls.take k).flatMap An) (new:= [AI ea,AI eb]) rfl rfl (Ui lkp htk) (SlR.of (c:= [AI ea,AI eb]) lkp (Nat.le_refl _) rfl) (by omega) (by omega) rfl)
    (apply p_0;(repeat(first|exact Cr|(apply Ay rfl rfl opv rfl rfl)|(apply Fr rfl rfl rfl)|(apply Ay rfl rfl (Cu rfl rfl (by omega)) rfl rfl)|(apply Ay rfl rfl (C9 rfl rfl) rfl rfl))))
    (apply B5 L rfl rfl;exact Zj rfl rfl (by omega) (by exact lkp) (by rw [A2];omega))
    refine wk ?_
    refine next _ _ _ (by exact kps) (by exact lkp) (by exact lkp) (by exact lkp) (fin _ _ _ _ (by exact lkp) ?_ ?_ (by omega)) tsb
    ·rw [Q9 hk,List.flatMap_append,List.flatMap_append,List.drop_eq_nil_of_le (by omega)];simp [An]
    ·omega
  ·obtain⟨e,he⟩: ∃e,ls[k]?=some e:=⟨ls[k]'(by omega),List.getElem?_eq_getElem _⟩
   have he2:=Zh (ls:=ls) (s:=ea) (e:=e) (by rw [hk];exact he)
   obtain⟨x1,x2⟩:=K5 he
   rcases Nat.eq_zero_or_pos k with rfl|hk0
   ·refine wk ?_
    refine Lq L ?_ ?_
    ·refine wk ?_
     (apply Au rfl rfl;exact Cu rfl rfl (by omega))
     (apply p_0;(repeat(first|exact Cr|(apply Ay rfl rfl opv rfl rfl)|(apply Fr rfl rfl rfl)|(apply Ay rfl rfl (Cu rfl rfl (by omega)) rfl rfl)|(apply Ay rfl rfl (C9 rfl rfl) rfl rfl))))
     (apply B5 L rfl rfl;exact Zj rfl rfl rfl (by exact lkp) (Nat.zero_le _))
     (apply p_0;(repeat(first|exact Cr|(apply Ay rfl rfl opv rfl rfl)|(apply Fr rfl rfl rfl)|(apply Ay rfl rfl (Cu rfl rfl (by omega)) rfl rfl)|(apply Ay rfl rfl (C9 rfl rfl) rfl rfl))))
     (apply B5 L rfl rfl;exact M0 (new:= [AI ea,AI eb]) rfl rfl (SlR.of (c:= [AI ea,AI eb]) lkp (Nat.le_refl _) rfl) (by omega) (by omega))
     (apply p_0;(repeat(first|exact Cr|(apply Ay rfl rfl opv rfl rfl)|(apply Fr rfl rfl rfl)|(apply Ay rfl rfl (Cu rfl rfl (by omega)) rfl rfl)|(apply Ay rfl rfl (C9 rfl rfl) rfl rfl))))
     (apply B5 L rfl rfl;exact C2 (old:= [AI ea,AI eb]) (new:=(ls.drop 0).flatMap An) rfl rfl (SlR.of (c:= [AI ea,AI eb]) lkp (Nat.le_refl _) rfl) (Ub (ls:=ls) (k:=0) lkp (by omega)) (by omega) (by omega) (Dx _))
     refine wk ?_
     refine next _ _ _ (by exact kps) (by exact lkp) (by exact lkp) (by exact lkp) (fin _ _ _ _ (by exact lkp) ?_ ?_ (by omega)) tsb
     ·rw [Zo hk];rfl
     ·omega
    ·refine wk ?_
     (apply Au rfl rfl;exact Cu rfl rfl (by omega))
     (apply p_0;(repeat(first|exact Cr|(apply Ay rfl rfl opv rfl rfl)|(apply Fr rfl rfl rfl)|(apply Ay rfl rfl (Cu rfl rfl (by omega)) rfl rfl)|(apply Ay rfl rfl (C9 rfl rfl) rfl rfl))))
     (apply B5 L rfl rfl;exact Zj rfl rfl rfl (by exact lkp) (Nat.zero_le _))
     (apply Au rfl rfl;exact opv)
     (apply p_0;(repeat(first|exact Cr|(apply Ay rfl rfl opv rfl rfl)|(apply Fr rfl rfl rfl)|(apply Ay rfl rfl (Cu rfl rfl (by omega)) rfl rfl)|(apply Ay rfl rfl (C9 rfl rfl) rfl rfl))))
     (apply B5 L rfl rfl;exact M0 (new:= [AI ea,AI eb]) rfl rfl (SlR.of (c:= [AI ea,AI eb]) lkp (Nat.le_refl _) rfl) (by omega) (by omega))
     (apply p_0;(repeat(first|exact Cr|(apply Ay rfl rfl opv rfl rfl)|(apply Fr rfl rfl rfl)|(apply Ay rfl rfl (Cu rfl rfl (by omega)) rfl rfl)|(apply Ay rfl rfl (C9 rfl rfl) rfl rfl))))
     (apply B5 L rfl rfl;exact C2 (old:= [AI ea,AI eb]) (new:=(ls.drop 0).flatMap An) rfl rfl (SlR.of (c:= [AI ea,AI eb]) lkp (Nat.le_refl _) rfl) (Ub (ls:=ls) (k:=0) lkp (by omega)) (by omega) (by omega) (Dx _))
     refine wk ?_
     refine next _ _ _ (by exact kps) (by exact lkp) (by exact lkp) (by exact lkp) (fin _ _ _ _ (by exact lkp) ?_ ?_ (by omega)) tsb
     ·rw [Zo hk];rfl
     ·omega
   ·refine wk ?_
    refine Lq L ?_ ?_
    ·refine wk ?_
     (apply Au rfl rfl;exact Cu rfl rfl (by omega))
     (apply p_0;(repeat(first|exact Cr|(apply Ay rfl rfl opv rfl rfl)|(apply Fr rfl rfl rfl)|(apply Ay rfl rfl (Cu rfl rfl (by omega)) rfl rfl)|(apply Ay rfl rfl (C9 rfl rfl) rfl rfl))))
     (apply B5 L rfl rfl;exact M0 (new:=(ls.take k).flatMap An) rfl rfl (Ua (ls:=ls) lkp (by omega)) hk0 (by omega))
     (apply p_0;(repeat(first|exact Cr|(apply Ay rfl rfl opv rfl rfl)|(apply Fr rfl rfl rfl)|(apply Ay rfl rfl (Cu rfl rfl (by omega)) rfl rfl)|(apply Ay rfl rfl (C9 rfl rfl) rfl rfl))))
     (apply B5 L rfl rfl;exact C2 (old:=(ls.take k).flatMap An) (new:= [AI ea,AI eb]) rfl rfl (Ui lkp htk) (SlR.of (c:= [AI ea,AI eb]) lkp (Nat.le_refl _) rfl) (by omega) (by omega) rfl)
     (apply p_0;(repeat(first|exact Cr|(apply Ay rfl rfl opv rfl rfl)|(apply Fr rfl rfl rfl)|(apply Ay rfl rfl (Cu rfl rfl (by omega)) rfl rfl)|(apply Ay rfl rfl (C9 rfl rfl) rfl rfl))))
     (apply B5 L rfl rfl;exact C2 (old:=(ls.take k).flatMap An++ [AI ea,AI eb]) (new:=(ls.drop k).flatMap An) rfl rfl (SlR.of (c:=(ls.take k).flatMap An++ [AI ea,AI eb]) lkp (by rw [List.length_append,A2];simp only [List.length_cons,List.length_nil];omega) (by rw [List.drop_zero,List.take_of_length_le (by rw [List.length_append,A2];simp only [List.length_cons,List.length_nil];omega)])) (Ub (ls:=ls) lkp (by omega)) (by omega) (by omega) (Dx _))
     refine wk ?_
     refine next _ _ _ (by exact kps) (by exact lkp) (by exact lkp) (by exact lkp) (fin _ _ _ _ (by exact lkp) ?_ ?_ (by omega)) tsb
     ·rw [Q9 hk,List.flatMap_append,List.flatMap_append];simp [An]
     ·omega
    ·refine wk ?_
     (apply Au rfl rfl;exact Cu rfl rfl (by omega))
     (apply p_0;(repeat(first|exact Cr|(apply Ay rfl rfl opv rfl rfl)|(apply Fr rfl rfl rfl)|(apply Ay rfl rfl (Cu rfl rfl (by omega)) rfl rfl)|(apply Ay rfl rfl (C9 rfl rfl) rfl rfl))))
     (apply B5 L rfl rfl;exact M0 (new:=(ls.take k).flatMap An) rfl rfl (Ua (ls:=ls) lkp (by omega)) hk0 (by omega))
     (apply Au rfl rfl;exact opv)
     (apply p_0;(repeat(first|exact Cr|(apply Ay rfl rfl opv rfl rfl)|(apply Fr rfl rfl rfl)|(apply Ay rfl rfl (Cu rfl rfl (by omega)) rfl rfl)|(apply Ay rfl rfl (C9 rfl rfl) rfl rfl))))
     (apply B5 L rfl rfl;exact C2 (old:=(ls.take k).flatMap An) (new:= [AI ea,AI eb]) rfl rfl (Ui lkp htk) (SlR.of (c:= [AI ea,AI eb]) lkp (Nat.le_refl _) rfl) (by omega) (by omega) rfl)
     (apply p_0;(repeat(first|exact Cr|(apply Ay rfl rfl opv rfl rfl)|(apply Fr rfl rfl rfl)|(apply Ay rfl rfl (Cu rfl rfl (by omega)) rfl rfl)|(apply Ay rfl rfl (C9 rfl rfl) rfl rfl))))
     (apply B5 L rfl rfl;exact C2 (old:=(ls.take k).flatMap An++ [AI ea,AI eb]) (new:=(ls.drop k).flatMap An) rfl rfl (SlR.of (c:=(ls.take k).flatMap An++ [AI ea,AI eb]) lkp (by rw [List.length_append,A2];simp only [List.length_cons,List.length_nil];omega) (by rw [List.drop_zero,List.take_of_length_le (by rw [List.length_append,A2];simp only [List.length_cons,List.length_nil];omega)])) (Ub (ls:=ls) lkp (by omega)) (by omega) (by omega) (Dx _))
     refine wk ?_
     refine next _ _ _ (by exact kps) (by exact lkp) (by exact lkp) (by exact lkp) (fin _ _ _ _ (by exact lkp) ?_ ?_ (by omega)) tsb
     ·rw [Q9 hk,List.flatMap_append,List.flatMap_append];simp [An]
     ·omega
end
end
section
variable {P0:Program}{E:Env}{F:T CFn}{K:T (List AV×AV)}(L:Lg P0 E F K)(X:Fx F K)
include L X
section
variable {h:H}
omit L X in
theorem Zp {S T:Nat}{es:List Ent}{i:Nat}(hi:i≤es.length)(h: ∀j x,j<i→es[j]?=some x→okE S T (stA A0 es j) x):InvA S T (stA A0 es i):=
 InvA.st (A:=A0) ⟨fun s p e=>(by cases e),fun s s' p e=>(by cases e)⟩ i hi h
omit L X in
theorem oc {S T:Nat}{es:List Ent}{i:Nat}{x:Ent}(hx:es[i]?=some x)(h: ¬okE S T (stA A0 es i) x): ¬df S T es:=fun q=>h (q i x hx)
theorem X3 {S nb P lo:Nat}{lv:AV}{es:List Ent}(hS:1≤S∧S≤1000)(hn:2≤nb∧nb≤6)(hP:2≤P∧P≤6)(hl:EL h lo lv es)(hlen:es.length≤150):
  Ct P0 E F K 65 [.agg (mpV S nb P .nils),lv] h fun v h'=> ∃(lv':AV) (e:Nat),v= .tup [.agg (mpV S nb P lv'),AI ((e:Nat):Int)]∧K0 h h'∧((e=0∧df S (nb*P) es∧ ∃ls,RepL (AE es) ls∧EL h' h.n lv' ls∧ls.length≤150)∨(e≠0∧e<1000∧lv'= .nils∧ ¬df S (nb*P) es)):=by
 have hT:nb*P≤6*6:=Nat.mul_le_mul hn.2 hP.2
 rcases hl.len with⟨rfl,rfl⟩|⟨hpos,lb,rfl,g5,g6⟩
 ·unfold mpV
  refine Af L X.f65 X.k65 rfl rfl fun Q x cs G=>?_
  refine wk ?_
  refine A4 L ?_
  refine wk ?_
  refine ret X.f65 ?_
  exact⟨.nils,0,rfl,kps,.inl ⟨rfl,fun j x e=>(by cases e),[],RepL.nil,EL.nil _ _,by simp⟩⟩
 have l1:=g5.lt
 unfold mpV
 refine Af L X.f65 X.k65 rfl rfl fun Q x cs G=>?_
 refine wk ?_
 refine Bb L (α:= AV×List Ent) (T:=fun i s=> [(7,some (AI ((i:Nat):Int))),(6,some (.ptr (h.n+2) 0)),(4,some (.ptr (h.n+1) 0)),(2,some (.ptr h.n 0)),(1,some (.slc lb 0 es.length (Ac+2)))]) (n:=es.length)
  (R:=fun i s h2=>K0 h h2∧Bk h2 h.n (mpV S nb P .nils)∧Bk h2 (h.n+1) [AI ((0:Nat):Int),AI ((0:Nat):Int),AI ((0:Nat):Int),.nils]∧Bk h2 (h.n+2) (mpV S nb P s.1)∧EL h2 (h.n+3) s.1 s.2∧RepL (stA A0 es i) s.2∧s.2.length≤i∧ ∀j x,j<i→es[j]?=some x→okE S (nb*P) (stA A0 es j) x) (i0:=0) (.nils,[]) tsb
  ⟨kps,lkp,lkp,lkp,EL.nil _ _,RepL.nil,Nat.le_refl _,fun j x hj=>absurd hj (Nat.not_lt_zero _)⟩ (Nat.zero_le _) ?_ ?_
 ·rintro i ⟨ov,ls⟩ h2 hi ⟨w1,w2,w3,w4,w5,w6,w7,w8⟩ ih
  simp only at w4 w5 w6 w7
  have hx:es[i]?=some es[i]:=List.getElem?_eq_getElem hi
  obtain⟨x1,x2⟩:=K5 hx
  have gb:=Aj w1 g5
  have n2:=w1.n
  have l2:=w2.lt
  have l3:=w3.lt
  have l4:=w4.lt
  have hinv:=Zp (by omega) w8
  have hsucc:=Lz (A:=A0) hx
  have hnot:=fun q=>oc (S:=S) (T:=nb*P) hx q
  have hok1:okE S (nb*P) (stA A0 es i) es[i]→ ∀j x,j<i+1→es[j]?=some x→okE S (nb*P) (stA A0 es j) x:=by
   intro q j x hj he
   by_cases e:j=i
   ·subst e;rw [hx]at he;cases he;exact q
   ·exact w8 j x (by omega) he
  rw [hsucc]at ih
  generalize es[i]=y at*
  obtain⟨ea,eb⟩:=y
  simp only at x1 x2
  unfold mpV at w2 w4
  have bad: ∀(e:Nat) (h9:H),¬okE S (nb*P) (stA A0 es i) (ea,eb)→e≠0→e<1000→K0 h h9→ ∃(lv':AV) (e_1:Nat),(AV.tup [.agg [AI ((S:Nat):Int),AI ((nb:Nat):Int),AI ((P:Nat):Int),.nils],AI ((e:Nat):Int)])= .tup [.agg (mpV S nb P lv'),AI ((e_1:Nat):Int)]∧K0 h h9∧((e_1=0∧df S (nb*P) es∧ ∃ls,RepL (AE es) ls∧EL h9 h.n lv' ls∧ls.length≤150)∨(e_1≠0∧e_1<1000∧lv'= .nils∧ ¬df S (nb*P) es)):=
   fun e h9 q1 q2 q3 q4=>⟨.nils,e,rfl,q4,.inr ⟨q2,q3,rfl,hnot q1⟩⟩
  by_cases hfit:Hq S (nb*P) (ea,eb)
  rotate_left
  ·have hc:ea<0∨(0≤ea∧(S:Int)≤ea)∨(0≤ea∧ea<S∧eb< -1)∨(0≤ea∧ea<S∧ -1≤eb∧((nb*P:Nat):Int)≤eb):=by
    unfold Hq at hfit
    simp only at hfit
    omega
   have hno: ¬okE S (nb*P) (stA A0 es i) (ea,eb):=fun q=>hfit q.1
   rcases hc with hc|hc|hc|hc <;>
    (
         refine wk ?_
         refine ret X.f65 ?_
         exact bad 3 _ hno (by omega) (by omega) (by exact kps))
  have hfit':=hfit
  obtain⟨f1,f2,f3,f4⟩:=hfit'
  simp only at f1 f2 f3 f4
  refine wk ?_
  refine cal (c:=V5 L X (S:=S) (nb:=nb) (P:=P) (p:=eb) (EL.kS w5 (S:=fun _=>False) (by exact kps) (fun b _ f=>f)) (by omega)) (g:=?_)
  rintro _ h3 ⟨rfl,v1⟩
  have n3:=v1.n
  simp only [Ah]at n3
  have hbusy:=w6.busy hinv.inj (x:=(ea,eb))
  simp only at hbusy
  have cont: ∀(h4:H) (lq:List (Nat×Option AV)),okE S (nb*P) (stA A0 es i) (ea,eb)→K0 h h4→Bk h4 h.n [AI ((S:Nat):Int),AI ((nb:Nat):Int),AI ((P:Nat):Int),.nils]→Bk h4 (h.n+1) [AI ((0:Nat):Int),AI ((0:Nat):Int),AI ((0:Nat):Int),.nils]→Bk h4 (h.n+2) [AI ((S:Nat):Int),AI ((nb:Nat):Int),AI ((P:Nat):Int),ov]→Bk h4 h2.n [AI ea,AI eb]→EL h4 (h.n+3) ov ls→
    TSub (tms [(71,some (AI ea)),(69,some (.agg (mpV S nb P ov))),(8,some (.ptr h2.n 0)),(7,some (AI ((i:Nat):Int))),(6,some (.ptr (h.n+2) 0)),(4,some (.ptr (h.n+1) 0)),(2,some (.ptr h.n 0)),(1,some (.slc lb 0 es.length (Ac+2)))]) (tms lq)→
    Good P0 E Q ⟨⟨65,cf65.ntmps,tms lq,[.ops [Cc 72 121 [.t 69,.t 71],Cs 4 6 72],.code c65_33,.inBlock 1,.code c65_40,.inLoop c65_42,.inBlock 0,.code c65_47],[],.run,false,none⟩,x::cs,h4⟩:=by
   intro h4 lq hok k0 kk2 kk4 kk6 kk8 kel kt
   refine Oc L kt ?_
   have m0:=k0.n
   have m2:=kk2.lt
   have m4:=kk4.lt
   have m6:=kk6.lt
   have m8:=kk8.lt
   refine cal (c:=Uh L X (S:=S) (nb:=nb) (P:=P) (s:=ea) kel (by omega)) (g:=?_)
   rintro _ h5 ⟨ov',rfl,v2,v3⟩
   have n5:=v3.n
   have hdl:(L5 ls ea).length≤ls.length:=List.length_filter_le _ _
   have hpl:As [AI ((S:Nat):Int),AI ((nb:Nat):Int),AI ((P:Nat):Int),ov']=true:=by
    have:=v2.plain.2
    show(match Az ov' with|true=>true|false=>false)=true
    rw [this]
   (apply stS L rfl rfl rfl rfl rfl hpl;exact lkp;rfl;rfl)
   have hdel:=w6.del ea
   by_cases h0:0≤eb
   ·refine wk ?_
    refine Aa8 L X (h:=h) (i:=i) (lv:= .slc lb 0 es.length (Ac+2)) (S:=S) (nb:=nb) (P:=P) (ls:=L5 ls ea) (b8:=h2.n) (by exact kps) (by exact lkp) (by exact lkp) (by exact lkp) (by exact lkp) (by omega) ((v2.kS (S:=fun j=>j=h.n+2) (by exact kps) (fun b hb e=>by omega)).mono (by omega)) (by omega) (by omega) (fun n c e=>?_) (fun ov2 h9 l9 q1 q2 q3 q4 q5 q6=>?_) tsb
    ·rcases v2.ex with⟨_,f⟩|⟨_,b',f,f2,f3⟩
     ·rw [f]at e;cases e
     ·rw [f]at e;cases e;omega
    ·exact ih (ov2,Of (L5 ls ea) (ea,eb)) h9 l9 ⟨q1,q2,q3,q4,q5,RepL.ins hdel h0,by simp only;rw [Q3];omega,hok1 hok⟩ q6
   ·refine wk ?_
    refine ih (ov',L5 ls ea) _ _ ⟨by exact kps,by exact lkp,by exact lkp,by exact lkp,(v2.kS (S:=fun j=>j=h.n+2) (by exact kps) (fun b hb e=>by omega)).mono (by omega),?_,by simp only;omega,hok1 hok⟩ tsb
    rw [Qs (x:=(ea,eb)) h0];exact hdel
  have kel3: ∀h9,Kp (fun j=>False) h2 h9→EL h9 (h.n+3) ov ls:=fun h9 k9=>w5.k0 k9
  cases hsec:N9 ls eb with
  |none=>
   rw [hsec]at hbusy
   have hok:okE S (nb*P) (stA A0 es i) (ea,eb):=⟨hfit,fun q=>by obtain⟨e,f,_⟩:=hbusy.1 q;cases f⟩
   by_cases h0:0≤eb
   ·refine wk ?_
    exact cont _ _ hok (by exact kps) (by exact lkp) (by exact lkp) (by exact lkp) (by exact lkp) (kel3 _ (by exact kps)) tsb
   ·refine wk ?_
    exact cont _ _ hok (by exact kps) (by exact lkp) (by exact lkp) (by exact lkp) (by exact lkp) (kel3 _ (by exact kps)) tsb
  |some e=>
   rw [hsec]at hbusy
   have he2:e.2=eb:=by
    have:=List.find?_some hsec
    simpa using this
   by_cases h0:0≤eb
   ·by_cases he:e.1=ea
    ·have hok:okE S (nb*P) (stA A0 es i) (ea,eb):=⟨hfit,fun q=>by obtain⟨e',f,f2⟩:=hbusy.1 q;cases f;exact f2 he⟩
     refine wk ?_
     exact cont _ _ hok (by exact kps) (by exact lkp) (by exact lkp) (by exact lkp) (by exact lkp) (kel3 _ (by exact kps)) tsb
    ·have hno: ¬okE S (nb*P) (stA A0 es i) (ea,eb):=fun q=>q.2 (hbusy.2 ⟨e,rfl,he⟩)
     refine wk ?_
     refine ret X.f65 ?_
     exact bad 11 _ hno (by omega) (by omega) (by exact kps)
   ·have hok:okE S (nb*P) (stA A0 es i) (ea,eb):=by
     refine⟨hfit,fun q=>?_⟩
     obtain⟨s,q1,q2⟩:=q
     have:=(hinv.rg s eb q1).2.2.1
     omega
    refine wk ?_
    exact cont _ _ hok (by exact kps) (by exact lkp) (by exact lkp) (by exact lkp) (by exact lkp) (kel3 _ (by exact kps)) tsb
 ·rintro⟨ov,ls⟩ h2 ⟨w1,w2,w3,w4,w5,w6,w7,w8⟩
  simp only at w4 w5 w6 w7
  unfold mpV at w2 w4
  have n2:=w1.n
  have l2:=w2.lt
  have l3:=w3.lt
  have l4:=w4.lt
  have hpl:As [AI ((S:Nat):Int),AI ((nb:Nat):Int),AI ((P:Nat):Int),ov]=true:=by
   have:=w5.plain.2
   show(match Az ov with|true=>true|false=>false)=true
   rw [this]
  refine wk ?_
  (apply stS L rfl rfl rfl rfl rfl hpl;exact lkp;rfl;rfl)
  refine wk ?_
  refine ret X.f65 ?_
  refine⟨ov,0,rfl,kps,.inl ⟨rfl,fun j x e=>w8 j x (List.getElem?_eq_some_iff.1 e).1 e,ls,w6,(w5.kS (S:=fun j=>j=h.n+1) (by exact kps) (fun b hb e=>by omega)).mono (by omega),by omega⟩⟩
end
end
section
variable {P0:Program}{E:Env}{F:T CFn}{K:T (List AV×AV)}(L:Lg P0 E F K)(X:Fx F K)
include L X
section
variable {h:H}
omit L X in
theorem Ra {s:Sp}(j:s.Jr): ∃a n:Nat,s=⟨s.kind,0,s.seq,s.prev,((a:Nat):Int),((n:Nat):Int)⟩∧Ak s=(s.kind,s.seq - a,s.prev,n)∧a<n∧n≤65535∧s.prev<s.seq∧a<s.seq - s.prev∧s.seq<18446744073709551616∧(s.kind=2∨s.kind=3):=by
 obtain⟨⟨v1,v2,v3,v4,v5,v6⟩,⟨o1,o2,o3⟩,hk⟩:=j
 obtain⟨kind,sec,seq,prev,idx,len⟩:=s
 simp only at v1 v2 v3 v4 v5 v6 o1 o2 o3 hk
 obtain⟨i,rfl⟩: ∃i:Nat,idx=((i:Nat):Int):=⟨idx.toNat,by omega⟩
 obtain⟨n,rfl⟩: ∃n:Nat,len=((n:Nat):Int):=⟨len.toNat,by omega⟩
 obtain⟨rfl,w1,w2⟩:sec=0∧prev<seq∧i<seq - prev:=by
  rcases v6 with q|q
  ·omega
  ·simp only [Int.toNat_natCast]at q;exact⟨q.2.1,q.2.2.1,q.2.2.2⟩
 exact⟨i,n,rfl,rfl,by omega,by omega,w1,w2,o2,hk⟩
omit L X in
def Rl (P:List JP)(k:Rec)(i:Nat):Int:=match Dr P k ((i:Nat):Int)with
 |some j=>((j:Nat):Int)
 |none=> -1
theorem od {lb i:Nat}{l:List (JP×AV)}{o:Sp}(hj: ∀x∈l,x.1.1.Jr)(ho:o.Jr)(kl:Bk h lb (l.flatMap jpC))(hlen:l.length≤100)(hi:i<100000):
  Ct P0 E F K 211 [.slc lb 0 l.length (Ac+7),.agg (spC o),AI ((i:Nat):Int)] h fun v h'=>v=AI (Rl (l.map (·.1)) (Ak o) i)∧K0 h h':=by
 obtain⟨oa,on,eo,er,o1,o2,o3,o4,o5,o6⟩:=Ra ho
 rw [er]
 generalize o.kind=ok at*
 generalize o.seq=os at*
 generalize o.prev=op at*
 rw [eo]
 show Ct P0 E F K 211 [.slc lb 0 l.length (Ac+7),.agg [.int .u8 ((ok:Nat):Int),.int .i64 ((0:Nat):Int),.int .u64 ((os:Nat):Int),.int .u64 ((op:Nat):Int),.int .i64 ((oa:Nat):Int),.int .i64 ((on:Nat):Int)],AI ((i:Nat):Int)] h _
 have l1:=kl.lt
 refine A6 L X.f211 X.k211 rfl rfl fun Q x cs G=>?_
 refine wk ?_
 refine Bb L (α:= Unit) (T:=fun j _=> [(7,some (AI ((j:Nat):Int))),(4,some (.ptr h.n 0)),(2,some (AI ((i:Nat):Int))),(0,some (.slc lb 0 l.length (Ac+7)))]) (n:=l.length)
  (R:=fun j _ h2=>K0 h h2∧Bk h2 h.n [.int .u8 ((ok:Nat):Int),.int .i64 ((0:Nat):Int),.int .u64 ((os:Nat):Int),.int .u64 ((op:Nat):Int),.int .i64 ((oa:Nat):Int),.int .i64 ((on:Nat):Int)]∧ ∀j' x,j'<j→l[j']?=some x→ ¬(Ak x.1.1=(ok,os - oa,op,on)∧x.1.1.idx=((i:Nat):Int))) (i0:=0) () tsb ⟨kps,lkp,fun j x hj=>absurd hj (Nat.not_lt_zero _)⟩ (Nat.zero_le _) ?_ ?_
 ·rintro j _ h2 hjl ⟨w1,w2,w3⟩ ih
  have hx:l[j]?=some l[j]:=List.getElem?_eq_getElem hjl
  have hjr:=hj _ (List.getElem_mem hjl)
  have hdt:=Bj l (G6 l) j _ hx
  have hmatch:(Ak (l[j]).1.1=(ok,os - oa,op,on)∧(l[j]).1.1.idx=((i:Nat):Int))→Rl (l.map (·.1)) (ok,os - oa,op,on) i=((j:Nat):Int):=by
   intro q
   unfold Rl
   have:Dr (l.map (·.1)) (ok,os - oa,op,on) ((i:Nat):Int)=some j:=by
    unfold Dr
    rw [List.findIdx?_eq_some_iff_getElem]
    refine⟨by rw [List.length_map];exact hjl,by simpa using q,fun j' hj'=>?_⟩
    have:=w3 j' _ hj' (List.getElem?_eq_getElem (by omega))
    rw [List.getElem_map]
    simpa using this
   rw [this]
  have hnext: ¬(Ak (l[j]).1.1=(ok,os - oa,op,on)∧(l[j]).1.1.idx=((i:Nat):Int))→ ∀j' x,j'<j+1→l[j']?=some x→ ¬(Ak x.1.1=(ok,os - oa,op,on)∧x.1.1.idx=((i:Nat):Int)):=by
   intro q j' x hj' hx'
   by_cases e:j'=j
   ·subst e;rw [hx]at hx';cases hx';exact q
   ·exact w3 j' x (by omega) hx'
  generalize l[j]=y at*
  obtain⟨⟨s,es⟩,v⟩:=y
  simp only at hjr hmatch hnext
  obtain⟨a,n,es1,er1,s1,s2,s3,s4,s5,s6⟩:=Ra hjr
  have hv:=hjr.v
  have hok:=hjr.ok
  rw [er1]at hmatch hnext
  have eidx:s.idx=((a:Nat):Int):=by rw [es1]
  rw [eidx]at hmatch hnext
  have hsp:spC s= [.int .u8 ((s.kind:Nat):Int),.int .i64 ((0:Nat):Int),.int .u64 ((s.seq:Nat):Int),.int .u64 ((s.prev:Nat):Int),.int .i64 ((a:Nat):Int),.int .i64 ((n:Nat):Int)]:=by
   conv=>lhs;rw [es1]
   rfl
  have hdt6:j*7+0+6≤(l.flatMap jpC).length∧((l.flatMap jpC).drop (j*7+0)).take 6= [.int .u8 ((s.kind:Nat):Int),.int .i64 ((0:Nat):Int),.int .u64 ((s.seq:Nat):Int),.int .u64 ((s.prev:Nat):Int),.int .i64 ((a:Nat):Int),.int .i64 ((n:Nat):Int)]:=by
   refine⟨by omega,?_⟩
   have:=congrArg (fun r=>r.take 6) hdt.2
   simp only [List.take_take]at this
   rw [←hsp];exact this
  have hrv: ∀h9,Ct P0 E F K 124 [.agg (spC s)] h9 fun v h'=>v= .bool (decide s.Valid)∧K0 h9 h':=fun h9=>J7 L X hok
  rw [decide_eq_true hv,hsp]at hrv
  have kr:=(Aj w1 kl).rk
  have n2:=w1.n
  have l2:=w2.lt
  generalize s.kind=sk at*
  generalize s.seq=ss at*
  generalize s.prev=sp at*
  simp only [Prod.mk.injEq,Int.natCast_inj]at hmatch hnext
  refine wk ?_
  (apply st1 L rfl;exact B6 lkr hdt6 rfl;rfl)
  refine wk ?_
  refine cal (c:=hrv _) (g:=?_)
  rintro _ h3 ⟨rfl,w4⟩
  have n3:=w4.n
  simp only [Ah]at n3
  by_cases c1:sk=ok
  rotate_left
  ·refine wk ?_
   refine ih () _ _ ⟨by exact kps,by exact lkp,hnext (fun q=>c1 q.1.1)⟩ tsb
  by_cases c2:sp=op
  rotate_left
  ·refine wk ?_
   refine ih () _ _ ⟨by exact kps,by exact lkp,hnext (fun q=>c2 q.1.2.2.1)⟩ tsb
  by_cases c3:n=on
  rotate_left
  ·refine wk ?_
   refine ih () _ _ ⟨by exact kps,by exact lkp,hnext (fun q=>c3 q.1.2.2.2)⟩ tsb
  by_cases c4:ss - a=os - oa
  rotate_left
  ·refine wk ?_
   (apply st1 L rfl;exact B0 rfl rfl rfl (by omega) (by simp only [pw];omega);rfl)
   refine wk ?_
   (apply st1 L rfl;exact B0 rfl rfl rfl (by omega) (by simp only [pw];omega);rfl)
   refine wk ?_
   refine ih () _ _ ⟨by exact kps,by exact lkp,hnext (fun q=>c4 q.1.2.1)⟩ tsb
  by_cases c5:a=i
  rotate_left
  ·refine wk ?_
   (apply st1 L rfl;exact B0 rfl rfl rfl (by omega) (by simp only [pw];omega);rfl)
   refine wk ?_
   (apply st1 L rfl;exact B0 rfl rfl rfl (by omega) (by simp only [pw];omega);rfl)
   refine wk ?_
   refine ih () _ _ ⟨by exact kps,by exact lkp,hnext (fun q=>c5 q.2)⟩ tsb
  ·have hm:=hmatch ⟨⟨c1,c4,c2,c3⟩,c5⟩
   rw [hm]at G
   refine wk ?_
   (apply st1 L rfl;exact B0 rfl rfl rfl (by omega) (by simp only [pw];omega);rfl)
   refine wk ?_
   (apply st1 L rfl;exact B0 rfl rfl rfl (by omega) (by simp only [pw];omega);rfl)
   refine wk ?_
   refine ret X.f211 ?_
   exact⟨rfl,kps⟩
 ·rintro _ h2 ⟨w1,w2,w3⟩
  have e1:Rl (l.map (·.1)) (ok,os - oa,op,on) i= -1:=by
   unfold Rl
   have:Dr (l.map (·.1)) (ok,os - oa,op,on) ((i:Nat):Int)=none:=by
    unfold Dr
    rw [List.findIdx?_eq_none_iff]
    intro x hx
    obtain⟨y,hy,rfl⟩:=List.mem_map.1 hx
    obtain⟨j,hj⟩:=List.mem_iff_getElem?.1 hy
    have:=w3 j y (List.getElem?_eq_some_iff.1 hj).1 hj
    simpa using this
   rw [this]
  rw [e1]at G
  have n2:=w1.n
  refine wk ?_
  refine ret X.f211 ?_
  exact⟨rfl,kps⟩
end
end
section
variable {P0:Program}{E:Env}{F:T CFn}{K:T (List AV×AV)}(L:Lg P0 E F K)(X:Fx F K)
include L X
section
variable {h:H}
theorem S3 {lb:Nat}{l:List (JP×AV)}{o:Sp}(hj: ∀x∈l,x.1.1.Jr)(ho:o.Jr)(kl:Bk h lb (l.flatMap jpC))(hlen:l.length≤100):
  Ct P0 E F K 176 [.slc lb 0 l.length (Ac+7),.agg (spC o)] h fun v h'=>K0 h h'∧((full (l.map (·.1)) (Ak o)=false∧v= .nils)∨(full (l.map (·.1)) (Ak o)=true∧RowN h' h.n v (nI (Al (l.map (·.1)) (Ak o))))):=by
 obtain⟨oa,on,eo,er,o1,o2,o3,o4,o5,o6⟩:=Ra ho
 have l1:=kl.lt
 have hpg: ∀(h9:H) (i:Nat),Bk h9 lb (l.flatMap jpC)→i<100000→Ct P0 E F K 211 [.slc lb 0 l.length (Ac+7),.agg (spC o),AI ((i:Nat):Int)] h9 fun v h'=>v=AI (Rl (l.map (·.1)) (Ak o) i)∧K0 h9 h':=fun h9 i k9 hi=>od L X hj ho k9 hlen hi
 have hsp:spC o= [.int .u8 ((o.kind:Nat):Int),.int .i64 ((0:Nat):Int),.int .u64 ((o.seq:Nat):Int),.int .u64 ((o.prev:Nat):Int),.int .i64 ((oa:Nat):Int),.int .i64 ((on:Nat):Int)]:=by
  conv=>lhs;rw [eo]
  rfl
 have hrl:(Ak o).2.2.2=on:=by rw [er]
 have hlP:(l.map (·.1)).length=l.length:=List.length_map _
 rw [hsp]at hpg ⊢
 generalize Ak o=k at*
 generalize l.map (·.1)=P at*
 clear eo hsp
 generalize o.kind=ok at*
 generalize o.seq=os at*
 generalize o.prev=op at*
 by_cases hlong:l.length<on
 ·refine Af L X.f176 X.k176 rfl rfl fun Q x cs G=>?_
  refine wk ?_
  refine ret X.f176 ?_
  refine⟨kps,.inl ⟨?_,rfl⟩⟩
  cases hf:full P k with
  |false=>rfl
  |true=>have:=L3 hf;omega
 refine Af L X.f176 X.k176 rfl rfl fun Q x cs G=>?_
 refine wk ?_
 refine Bb L (α:= AV) (T:=fun i v=> [(6,some (AI ((i:Nat):Int))),(5,some v),(3,some (.ptr h.n 0)),(0,some (.slc lb 0 l.length (Ac+7)))]) (n:=on)
  (R:=fun i v h2=>K0 h h2∧Bk h2 h.n [.int .u8 ((ok:Nat):Int),.int .i64 ((0:Nat):Int),.int .u64 ((os:Nat):Int),.int .u64 ((op:Nat):Int),.int .i64 ((oa:Nat):Int),.int .i64 ((on:Nat):Int)]∧RowN h2 (h.n+1) v (nI ((Al P k).take i))∧ ∀j,j<i→(Dr P k ((j:Nat):Int)).isSome=true) (i0:=0) .nils tsb ⟨kps,lkp,⟨.inl ⟨rfl,rfl⟩⟩,fun j hj=>absurd hj (Nat.not_lt_zero _)⟩ (Nat.zero_le _) ?_ ?_
 ·rintro i v h2 hi ⟨w1,w2,w3,w4⟩ ih
  have gb:=Aj w1 kl
  have n2:=w1.n
  have l2:=w2.lt
  refine wk ?_
  refine cal (c:=hpg _ i (by exact lkp) (by omega)) (g:=?_)
  rintro _ h3 ⟨rfl,w5⟩
  have n3:=w5.n
  try simp only [Ah]at n3
  cases hf:Dr P k ((i:Nat):Int)with
  |none=>
   have e1:Rl P k i= -1:=by unfold Rl;rw [hf]
   rw [e1]
   refine wk ?_
   refine ret X.f176 ?_
   refine⟨kps,.inl ⟨?_,rfl⟩⟩
   cases hf2:full P k with
   |false=>rfl
   |true=>
    obtain⟨j,h1,_⟩:=L2 hf2 (show i<k.2.2.2 by omega)
    rw [hf]at h1;cases h1
  |some j=>
   have e1:Rl P k i=((j:Nat):Int):=by unfold Rl;rw [hf]
   rw [e1]
   have e2:nI ((Al P k).take (i+1))=nI ((Al P k).take i)++ [((j:Nat):Int)]:=by
    have:(Al P k)[i]?=some j:=by
     unfold Al
     rw [List.getElem?_map,List.getElem?_range (by omega),Option.map_some,hf];rfl
    rw [List.take_add_one,this]
    unfold nI;simp
   have e3: ∀j',j'<i+1→(Dr P k ((j':Nat):Int)).isSome=true:=by
    intro j' hj'
    by_cases q:j'=i
    ·rw [q,hf];rfl
    ·exact w4 j' (by omega)
   have e4:(nI ((Al P k).take i)).length≤100:=by unfold nI;rw [List.length_map,List.length_take];omega
   rw [e2]at ih
   generalize nI ((Al P k).take i)=us at*
   rcases w3.ex with⟨rfl,rfl⟩|⟨g1,b,rfl,g3,g4⟩
   ·refine wk ?_
    (apply st1 L rfl;exact D8 (new:= [AI ((j:Nat):Int)]) rfl rfl (B7 lkp) (by omega) (by omega);rfl)
    refine wk ?_
    refine ih _ _ _ ⟨by exact kps,by exact lkp,?_,e3⟩ tsb
    exact⟨.inr ⟨by simp,_,rfl,by exact lkp,by omega⟩⟩
   ·have l5:=g3.lt
    refine wk ?_
    (apply st1 L rfl;exact C2 (old:=us.map AI) (new:= [AI ((j:Nat):Int)]) rfl rfl (Iy lkp) (B7 lkp) (by omega) (by omega) rfl;rfl)
    refine wk ?_
    refine ih _ _ _ ⟨by exact kps,by exact lkp,?_,e3⟩ tsb
    exact⟨.inr ⟨by simp,_,(Js (by simp)),(by rw [List.map_append];exact lkp),by omega⟩⟩
 ·rintro v h2 ⟨w1,w2,w3,w4⟩
  have n2:=w1.n
  have hf:full P k=true:=by
   unfold full
   rw [List.all_eq_true]
   intro i hi
   exact w4 i (by rw [←hrl];exact List.mem_range.1 hi)
  have e1:(Al P k).take on=Al P k:=by rw [List.take_of_length_le];rw [D4];omega
  rw [e1]at w3
  refine wk ?_
  refine ret X.f176 ?_
  refine⟨kps,.inr ⟨hf,?_⟩⟩
  exact(w3.k0 kps).mono (by omega)
omit L X in
def BestTo (P:List JP)(kind:Nat)(prev:Option Nat)(i:Nat)(o:Option Rec):Prop:=match o with
 |none=> ∀j p,j<i→P[j]?=some p→B9 P kind prev (Ak p.1)=false
 |some k=>(∃j p,j<i∧P[j]?=some p∧Ak p.1=k)∧B9 P kind prev k=true∧ ∀j p,j<i→P[j]?=some p→B9 P kind prev (Ak p.1)=true→Ak p.1=k∨Kf P k (Ak p.1)=true
omit L X in
theorem BestTo.best {P:List JP}{kind:Nat}{prev:Option Nat}{o:Option Rec}(q:BestTo P kind prev P.length o):BestP P kind prev o:=by
 have hm: ∀k,isK P k→ ∃j p,j<P.length∧P[j]?=some p∧Ak p.1=k:=by
  intro k hk
  obtain⟨p,hp,e⟩:=T8 hk
  obtain⟨j,hj⟩:=List.mem_iff_getElem?.1 hp
  exact⟨j,p,(List.getElem?_eq_some_iff.1 hj).1,hj,e⟩
 cases o with
 |none=>
  intro k hk
  obtain⟨j,p,h1,h2,rfl⟩:=hm k hk
  exact q j p h1 h2
 |some k=>
  obtain⟨⟨j,p,h1,h2,h3⟩,h4,h5⟩:=q
  refine⟨by rw [←h3];exact yb (List.mem_of_getElem? h2),h4,fun k' hk' hw=>?_⟩
  obtain⟨j',p',g1,g2,rfl⟩:=hm k' hk'
  exact h5 j' p' g1 g2 hw
omit L X in
theorem Zq {P:List JP}{j:Nat}{p:JP}(h:P[j]?=some p): ∃e,Ca P (Ak p.1)=some e∧e≤j:=by
 cases he:Ca P (Ak p.1)with
 |none=>
  unfold Ca at he
  rw [List.findIdx?_eq_none_iff]at he
  have:=he p (List.mem_of_getElem? h)
  simp at this
 |some e=>
  refine⟨e,rfl,?_⟩
  unfold Ca at he
  rw [List.findIdx?_eq_some_iff_getElem]at he
  obtain⟨h1,h2,h3⟩:=he
  refine Nat.le_of_not_lt fun q=>?_
  have:=h3 j q
  obtain⟨g1,g2⟩:=List.getElem?_eq_some_iff.1 h
  rw [g2]at this
  simp at this
omit L X in
theorem BestTo.skip {P:List JP}{kind i:Nat}{prev:Option Nat}{o:Option Rec}{p:JP}(q:BestTo P kind prev i o)(hx:P[i]?=some p)(h:B9 P kind prev (Ak p.1)=false):BestTo P kind prev (i+1) o:=by
 cases o with
 |none=>
  intro j p' hj hp
  by_cases e:j=i
  ·subst e;rw [hx]at hp;cases hp;exact h
  ·exact q j p' (by omega) hp
 |some k=>
  obtain⟨⟨j,p1,h1,h2,h3⟩,h4,h5⟩:=q
  refine⟨⟨j,p1,by omega,h2,h3⟩,h4,fun j' p' hj hp hw=>?_⟩
  by_cases e:j'=i
  ·subst e;rw [hx]at hp;cases hp;rw [h]at hw;cases hw
  ·exact h5 j' p' (by omega) hp hw
omit L X in
theorem BestTo.stay {P:List JP}{kind i:Nat}{prev:Option Nat}{k:Rec}{p:JP}(q:BestTo P kind prev i (some k))(hx:P[i]?=some p)(h:(Ak p.1).2.1≤k.2.1):BestTo P kind prev (i+1) (some k):=by
 obtain⟨⟨j,p1,h1,h2,h3⟩,h4,h5⟩:=q
 refine⟨⟨j,p1,by omega,h2,h3⟩,h4,fun j' p' hj hp hw=>?_⟩
 by_cases e:j'<i
 ·exact h5 j' p' e hp hw
 ·obtain rfl:j'=i:=by omega
  rw [hx]at hp;cases hp
  by_cases e1:Ak p.1=k
  ·exact .inl e1
  right
  unfold Kf
  by_cases e2:(Ak p.1).2.1<k.2.1
  ·rw [decide_eq_true e2];rfl
  have e3:k.2.1=(Ak p.1).2.1:=by omega
  obtain⟨e,he,hle⟩:=Zq hx
  obtain⟨e',he',hle'⟩:=Zq h2
  rw [h3]at he'
  rw [he,he',decide_eq_true e3]
  simp only [Option.getD_some,Bool.true_and,Bool.or_eq_true,decide_eq_true_eq]
  right
  by_cases e4:e=j'
  ·omega
  ·obtain⟨p2,g1,g2⟩:=L1 he
   have:=h5 e p2 (by omega) g1 (by rw [g2];exact hw)
   rw [g2]at this
   rcases this with f|f
   ·exact absurd f e1
   ·unfold Kf at f
    rw [he,he']at f
    simp only [Option.getD_some,Bool.or_eq_true,Bool.and_eq_true,decide_eq_true_eq]at f
    omega
omit L X in
theorem BestTo.take {P:List JP}{kind i:Nat}{prev:Option Nat}{o:Option Rec}{p:JP}(q:BestTo P kind prev i o)(hx:P[i]?=some p)(hw:B9 P kind prev (Ak p.1)=true)(h: ∀k,o=some k→k.2.1<(Ak p.1).2.1):BestTo P kind prev (i+1) (some (Ak p.1)):=by
 refine⟨⟨i,p,by omega,hx,rfl⟩,hw,fun j' p' hj hp hw'=>?_⟩
 by_cases e:j'=i
 ·subst e;rw [hx]at hp;cases hp;exact .inl rfl
 ·cases o with
  |none=>rw [q j' p' (by omega) hp]at hw';cases hw'
  |some k=>
   have h1:=h k rfl
   right
   unfold Kf
   have:(Ak p'.1).2.1<(Ak p.1).2.1:=by
    rcases q.2.2 j' p' (by omega) hp hw' with f|f
    ·rw [f];exact h1
    ·unfold Kf at f
     simp only [Bool.or_eq_true,Bool.and_eq_true,decide_eq_true_eq]at f
     omega
   rw [decide_eq_true this];rfl
end
end
section
variable {P0:Program}{E:Env}{F:T CFn}{K:T (List AV×AV)}(L:Lg P0 E F K)(X:Fx F K)
include L X
section
variable {h:H}
omit L X in
def hiO (o:Option Rec):Nat:=match o with
 |none=>0
 |some k=>k.2.1
omit L X in
def RO (P:List JP)(h:H)(lo:Nat)(v:AV)(o:Option Rec):Prop:=match o with
 |none=>v= .nils
 |some k=>RowN h lo v (nI (Al P k))∧0<(nI (Al P k)).length
omit L X in
theorem RO.k0 {P:List JP}{h h':H}{lo:Nat}{v:AV}{o:Option Rec}(q:RO P h lo v o)(k:K0 h h'):RO P h' lo v o:=by
 cases o with
 |none=>exact q
 |some r=>exact⟨RowN.k0 q.1 k,q.2⟩
theorem ta {lb prev:Nat}{l:List (JP×AV)}(hj: ∀x∈l,x.1.1.Jr)(kl:Bk h lb (l.flatMap jpC))(hlen:l.length≤100):
  Ct P0 E F K 119 [.slc lb 0 l.length (Ac+7),.int .u8 ((2:Nat):Int),.int .u64 ((prev:Nat):Int)] h fun v h'=>K0 h h'∧ ∃o,BestP (l.map (·.1)) 2 (some prev) o∧RO (l.map (·.1)) h' h.n v o:=by
 have l1:=kl.lt
 have hPl:(l.map (·.1)).length=l.length:=List.length_map _
 refine A6 L X.f119 X.k119 rfl rfl fun Q x cs G=>?_
 refine wk ?_
 refine Bb L (α:= AV×Option Rec) (T:=fun i s=> [(9,some (AI ((i:Nat):Int))),(8,some (.int .u64 ((hiO s.2:Nat):Int))),(7,some s.1),(2,some (.int .u64 ((prev:Nat):Int))),(1,some (.int .u8 ((2:Nat):Int))),(0,some (.slc lb 0 l.length (Ac+7)))]) (n:=l.length)
  (R:=fun i s h2=>K0 h h2∧BestTo (l.map (·.1)) 2 (some prev) i s.2∧RO (l.map (·.1)) h2 h.n s.1 s.2) (i0:=0) (.nils,none) tsb ⟨kps,fun j p hj=>absurd hj (Nat.not_lt_zero _),rfl⟩ (Nat.zero_le _) ?_ ?_
 ·rintro i ⟨v,o⟩ h2 hi ⟨w1,w2,w3⟩ ih
  dsimp only
  simp only at w2 w3
  have hx:l[i]?=some l[i]:=List.getElem?_eq_getElem hi
  have hjr:=hj _ (List.getElem_mem hi)
  have hdt:=Bj l (G6 l) i _ hx
  have hPx:(l.map (·.1))[i]?=some (l[i]).1:=by rw [List.getElem?_map,hx];rfl
  generalize l[i]=y at*
  obtain⟨⟨s,es⟩,u⟩:=y
  simp only at hjr hPx
  obtain⟨a,n,es1,er1,s1,s2,s3,s4,s5,s6⟩:=Ra hjr
  have hv:=hjr.v
  have hok:=hjr.ok
  have hsp:spC s= [.int .u8 ((s.kind:Nat):Int),.int .i64 ((0:Nat):Int),.int .u64 ((s.seq:Nat):Int),.int .u64 ((s.prev:Nat):Int),.int .i64 ((a:Nat):Int),.int .i64 ((n:Nat):Int)]:=by
   conv=>lhs;rw [es1]
   rfl
  have hdt6:i*7+0+6≤(l.flatMap jpC).length∧((l.flatMap jpC).drop (i*7+0)).take 6= [.int .u8 ((s.kind:Nat):Int),.int .i64 ((0:Nat):Int),.int .u64 ((s.seq:Nat):Int),.int .u64 ((s.prev:Nat):Int),.int .i64 ((a:Nat):Int),.int .i64 ((n:Nat):Int)]:=by
   refine⟨by omega,?_⟩
   have:=congrArg (fun r=>r.take 6) hdt.2
   simp only [List.take_take]at this
   rw [←hsp];exact this
  have hrv: ∀h9,Ct P0 E F K 124 [.agg (spC s)] h9 fun v h'=>v= .bool (decide s.Valid)∧K0 h9 h':=fun h9=>J7 L X hok
  have hwh: ∀h9,Bk h9 lb (l.flatMap jpC)→Ct P0 E F K 176 [.slc lb 0 l.length (Ac+7),.agg (spC s)] h9 fun v h'=>K0 h9 h'∧((full (l.map (·.1)) (Ak s)=false∧v= .nils)∨(full (l.map (·.1)) (Ak s)=true∧RowN h' h9.n v (nI (Al (l.map (·.1)) (Ak s))))):=fun h9 k9=>S3 L X hj hjr k9 hlen
  have hskip:=fun q=>BestTo.skip (kind:=2) (prev:=(some prev)) w2 hPx q
  have hstay:=fun(k:Rec) (e:o=some k) q=>BestTo.stay (kind:=2) (prev:=(some prev)) (k:=k) (e ▸ w2) hPx q
  have htake:=fun q r=>BestTo.take (kind:=2) (prev:=(some prev)) w2 hPx q r
  have hfst:(Ak s).2.1=s.seq - a:=by rw [er1]
  have hlen1:(nI (Al (l.map (·.1)) (Ak s))).length=n:=by unfold nI;rw [List.length_map,D4,er1]
  have hkd:(Ak s).1=s.kind:=by rw [er1]
  have hpv:(Ak s).2.2.1=s.prev:=by rw [er1]
  rw [decide_eq_true hv,hsp]at hrv
  rw [hsp]at hwh
  have kr:=(Aj w1 kl).rk
  have gb:=Aj w1 kl
  have n2:=w1.n
  simp only at hskip hstay htake
  generalize Ak s=rs at*
  generalize l.map (·.1)=P at*
  clear hdt es1 hsp hjr hv hok
  generalize s.kind=sk at*
  generalize s.seq=ss at*
  generalize s.prev=sp at*
  have wkd:sk≠2→B9 P 2 (some prev) rs=false:=fun q=>by unfold B9;rw [hkd,decide_eq_false q];rfl
  have wfl:full P rs=false→B9 P 2 (some prev) rs=false:=fun q=>by unfold B9;rw [q];simp
  have wpv:sp≠prev→B9 P 2 (some prev) rs=false:=fun q=>by unfold B9;rw [hpv];simp [q]
  have step: ∀(v':AV) (o':Option Rec) (h9:H) (l9:List (Nat×Option AV)),K0 h h9→BestTo P 2 (some prev) (i+1) o'→RO P h9 h.n v' o'→TSub (tms [(9,some (AI ((i+1:Nat):Int))),(8,some (.int .u64 ((hiO o':Nat):Int))),(7,some v'),(2,some (.int .u64 ((prev:Nat):Int))),(1,some (.int .u8 ((2:Nat):Int))),(0,some (.slc lb 0 l.length (Ac+7)))]) (tms l9)→Good P0 E Q ⟨⟨119,cf119.ntmps,tms l9,[.inLoop c119_22,.inBlock 0,.code c119_27],[],.run,false,none⟩,x::cs,h9⟩:=fun v' o' h9 l9 q1 q2 q3 q4=>ih (v',o') h9 l9 ⟨q1,q2,q3⟩ q4
  have w3': ∀h9,K0 h2 h9→RO P h9 h.n v o:=fun h9 k9=>w3.k0 k9
  refine wk ?_
  (apply st1 L rfl;exact B6 lkr hdt6 rfl;rfl)
  refine wk ?_
  refine cal (c:=hrv _) (g:=?_)
  rintro _ h3 ⟨rfl,w4⟩
  have n3:=w4.n
  simp only [Ah]at n3
  by_cases c1:sk=2
  rotate_left
  ·refine wk ?_
   exact step v o _ _ (by exact kps) (hskip (wkd c1)) (w3' _ (by exact kps)) tsb
  by_cases c2:sp=prev
  rotate_left
  ·refine wk ?_
   exact step v o _ _ (by exact kps) (hskip (wpv c2)) (w3' _ (by exact kps)) tsb
  by_cases c3:ss - a<hiO o
  ·refine wk ?_
   (apply st1 L rfl;exact B0 rfl rfl rfl (by omega) (by simp only [pw];omega);rfl)
   refine wk ?_
   refine step v o _ _ (by exact kps) ?_ (w3' _ (by exact kps)) tsb
   cases o with
   |none=>exact absurd c3 (Nat.not_lt_zero _)
   |some k=>exact hstay k rfl (by show rs.2.1≤k.2.1;have:ss - a<k.2.1:=c3;omega)
  refine wk ?_
  (apply st1 L rfl;exact B0 rfl rfl rfl (by omega) (by simp only [pw];omega);rfl)
  refine wk ?_
  refine cal (c:=hwh _ (by exact lkp)) (g:=?_)
  rintro vw h4 ⟨w5,w6⟩
  have n4:=w5.n
  simp only [Ah]at n4
  rcases w6 with⟨hf,rfl⟩|⟨hf,hr⟩
  ·refine wk ?_
   exact step v o _ _ (by exact kps) (hskip (wfl hf)) (w3' _ (by exact kps)) tsb
  have hw:B9 P 2 (some prev) rs=true:=by
   unfold B9
   rw [hkd,hf,decide_eq_true c1]
   simp [hpv,c2]
  rcases hr.ex with⟨e0,_⟩|⟨g1,ub,rfl,g3,g4⟩
  ·rw [e0]at hlen1
   have:n=0:=by rw [←hlen1];rfl
   omega
  have hrow: ∀h9,K0 h4 h9→RowN h9 h.n (.slc ub 0 (nI (Al P rs)).length (Ac+1)) (nI (Al P rs)):=fun h9 k9=>(hr.k0 k9).mono (by show h.n≤h3.n;omega)
  cases o with
  |none=>
   obtain rfl:v= .nils:=w3
   have hb:=htake hw (fun k e=>by cases e)
   refine wk ?_
   (apply Au rfl rfl;exact B0 rfl rfl rfl (by omega) (by simp only [pw];omega))
   refine wk ?_
   exact step _ (some rs) _ _ (by exact kps) hb ⟨hrow _ (by exact kps),g1⟩ (by simp only [hiO,hfst];exact tsb)
  |some k=>
   have w3r:RowN h2 h.n v (nI (Al P k))∧0<(nI (Al P k)).length:=w3
   rcases w3r.1.ex with⟨e0,_⟩|⟨f1,fb,rfl,f3,f4⟩
   ·have:=w3r.2;rw [e0]at this;exact absurd this (Nat.lt_irrefl _)
   have hhi:hiO (some k)=k.2.1:=rfl
   rw [hhi]at c3
   by_cases c4:k.2.1<ss - a
   ·have hb:=htake hw (fun k' e=>by cases e;omega)
    rw [hhi]
    refine wk ?_
    (apply st1 L rfl;exact B0 rfl rfl rfl (by omega) (by simp only [pw];omega);rfl)
    refine wk ?_
    (apply Au rfl rfl;exact B0 rfl rfl rfl (by omega) (by simp only [pw];omega))
    refine wk ?_
    exact step _ (some rs) _ _ (by exact kps) hb ⟨hrow _ (by exact kps),g1⟩ (by simp only [hiO,hfst];exact tsb)
   ·rw [hhi]
    refine wk ?_
    (apply st1 L rfl;exact B0 rfl rfl rfl (by omega) (by simp only [pw];omega);rfl)
    refine wk ?_
    exact step _ (some k) _ _ (by exact kps) (hstay k rfl (by omega)) (w3' _ (by exact kps)) (by simp only [hiO];exact tsb)
 ·rintro⟨v,o⟩ h2 ⟨w1,w2,w3⟩
  simp only at w2 w3
  rw [←hPl]at w2
  have hb:=w2.best
  refine wk ?_
  refine ret X.f119 ?_
  exact⟨kps,o,hb,w3.k0 kps⟩
theorem tc {lb prev:Nat}{l:List (JP×AV)}(hj: ∀x∈l,x.1.1.Jr)(kl:Bk h lb (l.flatMap jpC))(hlen:l.length≤100):
  Ct P0 E F K 119 [.slc lb 0 l.length (Ac+7),.int .u8 ((3:Nat):Int),.int .u64 ((prev:Nat):Int)] h fun v h'=>K0 h h'∧ ∃o,BestP (l.map (·.1)) 3 none o∧RO (l.map (·.1)) h' h.n v o:=by
 have l1:=kl.lt
 have hPl:(l.map (·.1)).length=l.length:=List.length_map _
 refine A6 L X.f119 X.k119 rfl rfl fun Q x cs G=>?_
 refine wk ?_
 refine Bb L (α:= AV×Option Rec) (T:=fun i s=> [(9,some (AI ((i:Nat):Int))),(8,some (.int .u64 ((hiO s.2:Nat):Int))),(7,some s.1),(2,some (.int .u64 ((prev:Nat):Int))),(1,some (.int .u8 ((3:Nat):Int))),(0,some (.slc lb 0 l.length (Ac+7)))]) (n:=l.length)
  (R:=fun i s h2=>K0 h h2∧BestTo (l.map (·.1)) 3 none i s.2∧RO (l.map (·.1)) h2 h.n s.1 s.2) (i0:=0) (.nils,none) tsb ⟨kps,fun j p hj=>absurd hj (Nat.not_lt_zero _),rfl⟩ (Nat.zero_le _) ?_ ?_
 ·rintro i ⟨v,o⟩ h2 hi ⟨w1,w2,w3⟩ ih
  dsimp only
  simp only at w2 w3
  have hx:l[i]?=some l[i]:=List.getElem?_eq_getElem hi
  have hjr:=hj _ (List.getElem_mem hi)
  have hdt:=Bj l (G6 l) i _ hx
  have hPx:(l.map (·.1))[i]?=some (l[i]).1:=by rw [List.getElem?_map,hx];rfl
  generalize l[i]=y at*
  obtain⟨⟨s,es⟩,u⟩:=y
  simp only at hjr hPx
  obtain⟨a,n,es1,er1,s1,s2,s3,s4,s5,s6⟩:=Ra hjr
  have hv:=hjr.v
  have hok:=hjr.ok
  have hsp:spC s= [.int .u8 ((s.kind:Nat):Int),.int .i64 ((0:Nat):Int),.int .u64 ((s.seq:Nat):Int),.int .u64 ((s.prev:Nat):Int),.int .i64 ((a:Nat):Int),.int .i64 ((n:Nat):Int)]:=by
   conv=>lhs;rw [es1]
   rfl
  have hdt6:i*7+0+6≤(l.flatMap jpC).length∧((l.flatMap jpC).drop (i*7+0)).take 6= [.int .u8 ((s.kind:Nat):Int),.int .i64 ((0:Nat):Int),.int .u64 ((s.seq:Nat):Int),.int .u64 ((s.prev:Nat):Int),.int .i64 ((a:Nat):Int),.int .i64 ((n:Nat):Int)]:=by
   refine⟨by omega,?_⟩
   have:=congrArg (fun r=>r.take 6) hdt.2
   simp only [List.take_take]at this
   rw [←hsp];exact this
  have hrv: ∀h9,Ct P0 E F K 124 [.agg (spC s)] h9 fun v h'=>v= .bool (decide s.Valid)∧K0 h9 h':=fun h9=>J7 L X hok
  have hwh: ∀h9,Bk h9 lb (l.flatMap jpC)→Ct P0 E F K 176 [.slc lb 0 l.length (Ac+7),.agg (spC s)] h9 fun v h'=>K0 h9 h'∧((full (l.map (·.1)) (Ak s)=false∧v= .nils)∨(full (l.map (·.1)) (Ak s)=true∧RowN h' h9.n v (nI (Al (l.map (·.1)) (Ak s))))):=fun h9 k9=>S3 L X hj hjr k9 hlen
  have hskip:=fun q=>BestTo.skip (kind:=3) (prev:=none) w2 hPx q
  have hstay:=fun(k:Rec) (e:o=some k) q=>BestTo.stay (kind:=3) (prev:=none) (k:=k) (e ▸ w2) hPx q
  have htake:=fun q r=>BestTo.take (kind:=3) (prev:=none) w2 hPx q r
  have hfst:(Ak s).2.1=s.seq - a:=by rw [er1]
  have hlen1:(nI (Al (l.map (·.1)) (Ak s))).length=n:=by unfold nI;rw [List.length_map,D4,er1]
  have hkd:(Ak s).1=s.kind:=by rw [er1]
  have hpv:(Ak s).2.2.1=s.prev:=by rw [er1]
  rw [decide_eq_true hv,hsp]at hrv
  rw [hsp]at hwh
  have kr:=(Aj w1 kl).rk
  have gb:=Aj w1 kl
  have n2:=w1.n
  simp only at hskip hstay htake
  generalize Ak s=rs at*
  generalize l.map (·.1)=P at*
  clear hdt es1 hsp hjr hv hok
  generalize s.kind=sk at*
  generalize s.seq=ss at*
  generalize s.prev=sp at*
  have wkd:sk≠3→B9 P 3 none rs=false:=fun q=>by unfold B9;rw [hkd,decide_eq_false q];rfl
  have wfl:full P rs=false→B9 P 3 none rs=false:=fun q=>by unfold B9;rw [q];simp
  have step: ∀(v':AV) (o':Option Rec) (h9:H) (l9:List (Nat×Option AV)),K0 h h9→BestTo P 3 none (i+1) o'→RO P h9 h.n v' o'→TSub (tms [(9,some (AI ((i+1:Nat):Int))),(8,some (.int .u64 ((hiO o':Nat):Int))),(7,some v'),(2,some (.int .u64 ((prev:Nat):Int))),(1,some (.int .u8 ((3:Nat):Int))),(0,some (.slc lb 0 l.length (Ac+7)))]) (tms l9)→Good P0 E Q ⟨⟨119,cf119.ntmps,tms l9,[.inLoop c119_22,.inBlock 0,.code c119_27],[],.run,false,none⟩,x::cs,h9⟩:=fun v' o' h9 l9 q1 q2 q3 q4=>ih (v',o') h9 l9 ⟨q1,q2,q3⟩ q4
  have w3': ∀h9,K0 h2 h9→RO P h9 h.n v o:=fun h9 k9=>w3.k0 k9
  refine wk ?_
  (apply st1 L rfl;exact B6 lkr hdt6 rfl;rfl)
  refine wk ?_
  refine cal (c:=hrv _) (g:=?_)
  rintro _ h3 ⟨rfl,w4⟩
  have n3:=w4.n
  simp only [Ah]at n3
  by_cases c1:sk=3
  rotate_left
  ·refine wk ?_
   exact step v o _ _ (by exact kps) (hskip (wkd c1)) (w3' _ (by exact kps)) tsb
  by_cases c3:ss - a<hiO o
  ·refine wk ?_
   (apply st1 L rfl;exact B0 rfl rfl rfl (by omega) (by simp only [pw];omega);rfl)
   refine wk ?_
   refine step v o _ _ (by exact kps) ?_ (w3' _ (by exact kps)) tsb
   cases o with
   |none=>exact absurd c3 (Nat.not_lt_zero _)
   |some k=>exact hstay k rfl (by show rs.2.1≤k.2.1;have:ss - a<k.2.1:=c3;omega)
  refine wk ?_
  (apply st1 L rfl;exact B0 rfl rfl rfl (by omega) (by simp only [pw];omega);rfl)
  refine wk ?_
  refine cal (c:=hwh _ (by exact lkp)) (g:=?_)
  rintro vw h4 ⟨w5,w6⟩
  have n4:=w5.n
  simp only [Ah]at n4
  rcases w6 with⟨hf,rfl⟩|⟨hf,hr⟩
  ·refine wk ?_
   exact step v o _ _ (by exact kps) (hskip (wfl hf)) (w3' _ (by exact kps)) tsb
  have hw:B9 P 3 none rs=true:=by
   unfold B9
   rw [hkd,hf,decide_eq_true c1]
   rfl
  rcases hr.ex with⟨e0,_⟩|⟨g1,ub,rfl,g3,g4⟩
  ·rw [e0]at hlen1
   have:n=0:=by rw [←hlen1];rfl
   omega
  have hrow: ∀h9,K0 h4 h9→RowN h9 h.n (.slc ub 0 (nI (Al P rs)).length (Ac+1)) (nI (Al P rs)):=fun h9 k9=>(hr.k0 k9).mono (by show h.n≤h3.n;omega)
  cases o with
  |none=>
   obtain rfl:v= .nils:=w3
   have hb:=htake hw (fun k e=>by cases e)
   refine wk ?_
   (apply Au rfl rfl;exact B0 rfl rfl rfl (by omega) (by simp only [pw];omega))
   refine wk ?_
   exact step _ (some rs) _ _ (by exact kps) hb ⟨hrow _ (by exact kps),g1⟩ (by simp only [hiO,hfst];exact tsb)
  |some k=>
   have w3r:RowN h2 h.n v (nI (Al P k))∧0<(nI (Al P k)).length:=w3
   rcases w3r.1.ex with⟨e0,_⟩|⟨f1,fb,rfl,f3,f4⟩
   ·have:=w3r.2;rw [e0]at this;exact absurd this (Nat.lt_irrefl _)
   have hhi:hiO (some k)=k.2.1:=rfl
   rw [hhi]at c3
   by_cases c4:k.2.1<ss - a
   ·have hb:=htake hw (fun k' e=>by cases e;omega)
    rw [hhi]
    refine wk ?_
    (apply st1 L rfl;exact B0 rfl rfl rfl (by omega) (by simp only [pw];omega);rfl)
    refine wk ?_
    (apply Au rfl rfl;exact B0 rfl rfl rfl (by omega) (by simp only [pw];omega))
    refine wk ?_
    exact step _ (some rs) _ _ (by exact kps) hb ⟨hrow _ (by exact kps),g1⟩ (by simp only [hiO,hfst];exact tsb)
   ·rw [hhi]
    refine wk ?_
    (apply st1 L rfl;exact B0 rfl rfl rfl (by omega) (by simp only [pw];omega);rfl)
    refine wk ?_
    exact step _ (some k) _ _ (by exact kps) (hstay k rfl (by omega)) (w3' _ (by exact kps)) (by simp only [hiO];exact tsb)
 ·rintro⟨v,o⟩ h2 ⟨w1,w2,w3⟩
  simp only at w2 w3
  rw [←hPl]at w2
  have hb:=w2.best
  refine wk ?_
  refine ret X.f119 ?_
  exact⟨kps,o,hb,w3.k0 kps⟩
end
end
end Go.Ev
