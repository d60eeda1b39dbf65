/- Part of the proof. -/
import Derived.Test.YtclfgfpebplncaaGreatT16
import Derived.Test.YtclfgfpebplncaaGreatT15
set_option linter.unusedVariables false
set_option linter.unusedSectionVars false
set_option linter.unusedSimpArgs false
set_option maxRecDepth 10000
set_option maxHeartbeats 4000000
namespace Go.Ev
section
variable {P0:Program}{E:Env}{F:T CFn}{K:T (List AV×AV)}(L:Lg P0 E F K)(X:Fx F K)
include L X
section
variable {h:H}
theorem yi {r ck rb aa ab ea eb:Nat}{M:List (Rec×AV×Nat)}{a b:Rec}(kb:Bk h rb [.map r])(k:Mk h r (M.map (mE Ir)) ck)(ha:Be M a=some (pgV aa ea))(hb:Be M b=some (pgV ab eb)):
  Ct P0 E F K 167 [Ir a,Ir b,.ptr rb 0] h fun v h'=>v= .bool (decide (b.2.1<a.2.1) || (decide (a.2.1=b.2.1) && decide (ea<eb)))∧K0 h h':=by
 have l1:=k.lt
 have l2:=kb.lt
 by_cases h0:b.2.1<a.2.1
 ·rw [show(decide (b.2.1<a.2.1) || (decide (a.2.1=b.2.1) && decide (ea<eb)))=true by simp [h0]]
  refine A6 L X.f167 X.k167 rfl rfl fun Q x cs G=>?_
  refine wk ?_
  refine ret X.f167 ?_
  exact⟨rfl,kps⟩
 by_cases h1:a.2.1=b.2.1
 ·have e1:(decide (b.2.1<a.2.1) || (decide (a.2.1=b.2.1) && decide (ea<eb)))=decide (ea<eb):=by simp [h0,h1]
  rw [e1]
  by_cases h2:ea<eb
  ·rw [decide_eq_true h2]
   refine A6 L X.f167 X.k167 rfl rfl fun Q x cs G=>?_
   (try refine Br L 1000 rfl ?_);(repeat(first|(apply st1 L rfl;exact⟨Ei rfl⟩;rfl)|(apply st1 L rfl;exact Kj rfl rfl rfl;rfl)|(apply st1 L rfl;exact Hb rfl rfl (by omega);rfl)|(apply st1 L rfl;exact Dh rfl rfl (by omega);rfl)|(apply st1 L rfl;(apply Bp rfl;exact lkp;first|rfl|assumption);rfl)))
   refine Lj L ?_
   (repeat(first|(apply Au rfl rfl;exact⟨Ei rfl⟩)|(apply Au rfl rfl;exact Ig rfl rfl (by omega))|(apply Au rfl rfl;exact Lp rfl rfl (by omega))|(apply Au rfl rfl;(apply Bp rfl;exact lkp;first|rfl|assumption))|(apply Au rfl rfl;(apply E8 rfl;exact lkp;rfl))|(apply Kv rfl rfl)))
   (apply Au rfl rfl;exact Gu KE.recd rfl rfl lkq)
   rw [ha]
   (repeat(first|(apply Au rfl rfl;exact⟨Ei rfl⟩)|(apply Au rfl rfl;exact Ig rfl rfl (by omega))|(apply Au rfl rfl;exact Lp rfl rfl (by omega))|(apply Au rfl rfl;(apply Bp rfl;exact lkp;first|rfl|assumption))|(apply Au rfl rfl;(apply E8 rfl;exact lkp;rfl))|(apply Kv rfl rfl)))
   (apply Au rfl rfl;exact Gu KE.recd rfl rfl lkq)
   rw [hb]
   refine wk ?_
   refine ret X.f167 ?_
   exact⟨rfl,kps⟩
  ·rw [decide_eq_false h2]
   refine A6 L X.f167 X.k167 rfl rfl fun Q x cs G=>?_
   (try refine Br L 1000 rfl ?_);(repeat(first|(apply st1 L rfl;exact⟨Ei rfl⟩;rfl)|(apply st1 L rfl;exact Kj rfl rfl rfl;rfl)|(apply st1 L rfl;exact Hb rfl rfl (by omega);rfl)|(apply st1 L rfl;exact Dh rfl rfl (by omega);rfl)|(apply st1 L rfl;(apply Bp rfl;exact lkp;first|rfl|assumption);rfl)))
   refine Lj L ?_
   (repeat(first|(apply Au rfl rfl;exact⟨Ei rfl⟩)|(apply Au rfl rfl;exact Ig rfl rfl (by omega))|(apply Au rfl rfl;exact Lp rfl rfl (by omega))|(apply Au rfl rfl;(apply Bp rfl;exact lkp;first|rfl|assumption))|(apply Au rfl rfl;(apply E8 rfl;exact lkp;rfl))|(apply Kv rfl rfl)))
   (apply Au rfl rfl;exact Gu KE.recd rfl rfl lkq)
   rw [ha]
   (repeat(first|(apply Au rfl rfl;exact⟨Ei rfl⟩)|(apply Au rfl rfl;exact Ig rfl rfl (by omega))|(apply Au rfl rfl;exact Lp rfl rfl (by omega))|(apply Au rfl rfl;(apply Bp rfl;exact lkp;first|rfl|assumption))|(apply Au rfl rfl;(apply E8 rfl;exact lkp;rfl))|(apply Kv rfl rfl)))
   (apply Au rfl rfl;exact Gu KE.recd rfl rfl lkq)
   rw [hb]
   refine wk ?_
   refine ret X.f167 ?_
   exact⟨rfl,kps⟩
 ·rw [show(decide (b.2.1<a.2.1) || (decide (a.2.1=b.2.1) && decide (ea<eb)))=false by simp [h0,h1]]
  refine A6 L X.f167 X.k167 rfl rfl fun Q x cs G=>?_
  refine wk ?_
  refine ret X.f167 ?_
  exact⟨rfl,kps⟩
end
end
section
variable {P0:Program}{E:Env}{F:T CFn}{K:T (List AV×AV)}(L:Lg P0 E F K)(X:Fx F K)
include L X
section
variable {h:H}
omit L X in
structure ChR (h:H)(lo c:Nat)(v1 v2:AV)(es:List Ent)(us:List Int):Prop where
 e:(es= []∧v1= .nils)∨(0<es.length∧ ∃b,v1= .slc b 0 es.length (Ac+2)∧Bk h b (es.flatMap An)∧lo≤b∧b≠c)
 u:(us= []∧v2= .nils)∨(0<us.length∧ ∃b,v2= .slc b 0 us.length (Ac+1)∧Bk h b (us.map AI)∧lo≤b∧b≠c)
 d: ∀b1 n1 c1 b2 n2 c2,v1= .slc b1 0 n1 c1→v2= .slc b2 0 n2 c2→b1≠b2
omit L X in
theorem ChR.kp {h h':H}{lo c:Nat}{S:Nat→Prop}{v1 v2:AV}{es:List Ent}{us:List Int}(q:ChR h lo c v1 v2 es us)(k:Kp S h h')(hs: ∀b,lo≤b→b≠c→ ¬S b):ChR h' lo c v1 v2 es us:=by
 refine⟨?_,?_,q.d⟩
 ·rcases q.e with e|⟨e1,b,e2,e3,e4,e5⟩
  ·exact .inl e
  ·exact .inr ⟨e1,b,e2,A5 k (hs b e4 e5) e3,e4,e5⟩
 ·rcases q.u with e|⟨e1,b,e2,e3,e4,e5⟩
  ·exact .inl e
  ·exact .inr ⟨e1,b,e2,A5 k (hs b e4 e5) e3,e4,e5⟩
omit L X in
def yj (o:Rec):List AV:= [.int .u8 ((o.1:Nat):Int),.int .u64 ((o.2.1:Nat):Int),.int .u64 ((o.2.2.1:Nat):Int),.int .i64 ((o.2.2.2:Nat):Int)]
omit L X in
def nI (l:List Nat):List Int:=l.map fun x=>((x:Nat):Int)
omit L X in
theorem Q5 {lo ck:Nat}{M:List (Rec×AV×Nat)}{P:List JP}{kind:Nat}{prev:Option Nat}{is:Bool}{out:Rec}(q:RcR h lo M ck P)(w:Top (B9 P kind prev) (Kf P) (M.map (·.1)) is out):BestP P kind prev (if is=true then some out else none):=by
 have hk: ∀k,isK P k→k∈M.map (·.1):=by
  intro k hk
  unfold isK at hk
  cases h1:Ca P k with
  |none=>rw [h1]at hk;cases hk
  |some e=>
   obtain⟨a,Mi,ci,g1,_⟩:=q.at_ k e h1
   rw [Vy,g1];rfl
 rcases w with⟨h1,h2⟩|⟨h1,h2,h3,h4⟩
 ·rw [h1];exact fun k kk=>h2 k (hk k kk)
 ·rw [h1]
  refine⟨?_,h3,fun k kk w=>h4 k (hk k kk) w⟩
  obtain⟨y,hy,rfl⟩:=List.mem_map.1 h2
  obtain⟨a,Mi,ci,e,g1,g2,g3,_⟩:=q.ent hy
  unfold isK;rw [g3];rfl
theorem dj {lo lb:Nat}{l:List (JP×AV)}(hj: ∀x∈l,x.1.1.Jr)(hl0: ∀x∈l,EL h lo x.2 x.1.2)(kl:Bk h lb (l.flatMap jpC))(hlen:l.length≤100)(hes: ∀x∈l,x.1.2.length≤100)(hsq: ∀x∈l,x.1.1.seq<9223372036854775808)(U:SortOk P0 E F 171):
  Ct P0 E F K 111 [.slc lb 0 l.length (Ac+7)] h fun v h'=> ∃o ks v1 v2,v= .agg [v1,.int .u64 ((chL ks:Nat):Int),v2]∧StartP (l.map (·.1)) o∧RunP (l.map (·.1)) o ks∧EL h' h.n v1 (chE (l.map (·.1)) ks)∧RowN h' h.n v2 (Dk (nI (chU (l.map (·.1)) ks)))∧K0 h h':=by
 have l3:=kl.lt
 refine Ao L X.f111 X.k111 rfl rfl fun Q x cs G=>?_
 refine wk ?_
 refine Bb L (α:= List (Rec×AV×Nat)×Nat) (T:=fun i _=> [(22,some (AI ((i:Nat):Int))),(21,some (AI ((l.length:Nat):Int))),(20,some (.slc lb 0 l.length (Ac+7))),(3,some (.ptr (h.n+2) 0)),(2,some (.ptr h.n 0)),(0,some (.slc lb 0 l.length (Ac+7)))]) (n:=l.length)
  (R:=fun i s hh=>RcR hh (h.n+3) s.1 s.2 ((l.take i).map (·.1))∧Mk hh (h.n+1) (s.1.map (mE Ir)) s.2∧Bk hh (h.n+2) [.map (h.n+1)]∧Bk hh h.n [.nils,.int .u64 ((0:Nat):Int),.nils]∧h.n+3≤hh.n∧K0 h hh) (i0:=0) ([],0) tsb ⟨RcR.nil _ _,lkq,lkp,lkp,Nat.le_refl _,kps⟩ (Nat.zero_le _) ?_ ?_
 ·rintro i ⟨M,ck⟩ hh hi ⟨q,i2,i3,i4,i5,i6⟩ ih
  simp only at q i2
  have hx:l[i]?=some l[i]:=List.getElem?_eq_getElem hi
  have hm:=List.getElem_mem hi
  have hjr:=hj _ hm
  have hel:=hl0 _ hm
  have hdt:=Bj l (G6 l) i _ hx
  have e1:((l.take (i+1)).map (·.1))=(l.take i).map (·.1)++ [l[i].1]:=by rw [List.take_add_one,hx,List.map_append];rfl
  have e2:((l.take i).map (·.1)).length=i:=by rw [List.length_map,List.length_take];omega
  generalize hP:(l.take i).map (·.1)=P at*
  generalize l[i]=y at*
  obtain⟨⟨s,es⟩,v⟩:=y
  simp only at hjr hel
  have hdt':i*7+7≤(l.flatMap jpC).length∧((l.flatMap jpC).drop (i*7)).take 7= [.int .u8 ((s.kind:Nat):Int),.int .i64 s.sec,.int .u64 ((s.seq:Nat):Int),.int .u64 ((s.prev:Nat):Int),.int .i64 s.idx,.int .i64 s.len,v]:=hdt
  have k2:Bk hh lb (l.flatMap jpC):=Aj i6 kl
  have l4:=k2.lt
  have l6:=i2.lt
  rcases hel.ex with⟨_,rfl⟩|⟨_,eb,rfl,_,_⟩
  all_goals
   refine wk ?_
   (apply st1 L rfl;exact B6 k2.rk hdt' rfl;rfl)
   refine wk ?_
   refine cal (c:=ye L X hjr) (g:=?_)
   rintro _ h3 ⟨rfl,w1⟩
   have n3:=w1.n
   simp only [Ah]at n3
   refine wk ?_
   cases hE:Ca P (Ak s)with
   |none=>
    have hg:=q.no _ hE
    (apply st1 L rfl;exact T6 KE.recd rfl rfl lkq hg;rfl)
    refine wk ?_
    (apply cq L rfl;exact Qq (k:=Ak s) KE.recd q.ok rfl rfl rfl lkq;rfl)
    refine wk ?_
    (apply st1 L rfl;exact T6 (KE.int .i64) (M:= []) (k:=s.idx) rfl rfl lkq rfl;rfl)
    refine wk ?_
    (apply cq L rfl;exact Qq (M:= []) (k:=s.idx) (KE.int .i64) MOk.nil rfl rfl rfl lkq;rfl)
    refine wk ?_
    refine ih (Ew M ck (Ak s) (.agg [.map (h3.n+1+1),AI ((i:Nat):Int)]),mCk M ck (Ak s)) _ _ ⟨?_,by exact lkq,by exact lkp,by exact lkp,by simp only [Ah];omega,kps⟩ tsb
    rw [e1]
    have hv: ∀h9,RcR h9 (h.n+3) (Ew M ck (Ak s) (.agg [.map (h3.n+1+1),AI ((P.length:Nat):Int)])) (mCk M ck (Ak s)) (P++ [(s,es)])→RcR h9 (h.n+3) (Ew M ck (Ak s) (.agg [.map (h3.n+1+1),AI ((i:Nat):Int)])) (mCk M ck (Ak s)) (P++ [(s,es)]):=by
     intro h9 q9;rw [e2]at q9;exact q9
    refine hv _ (RcR.new (p:=(s,es)) (c':=0) q hE (by omega) (by omega) (by rw [e2];exact lkq) (fun b es c hb hb2 hmk=>by exact lkq))
   |some e=>
    obtain⟨a,Mi,ci,hg,ka,oi,la,hf⟩:=q.at_ _ _ hE
    have lka:=ka.lt
    (apply st1 L rfl;exact Zc KE.recd rfl rfl lkq hg;rfl)
    cases hF:Dr P (Ak s) s.idx with
    |none=>
     have hg2:Be Mi s.idx=none:=by rw [hf,hF];rfl
     refine wk ?_
     (apply st1 L rfl;exact T6 (KE.int .i64) (M:=Mi) (k:=s.idx) rfl rfl lkq hg2;rfl)
     refine wk ?_
     (apply cq L rfl;exact Qq (M:=Mi) (k:=s.idx) (KE.int .i64) oi rfl rfl rfl lkq;rfl)
     refine wk ?_
     refine ih (M,ck) _ _ ⟨?_,by exact lkq,by exact lkp,by exact lkp,by simp only [Ah];omega,kps⟩ tsb
     rw [e1]
     refine RcR.add (p:=(s,es)) (c':=0) q hE hF hg oi la hf (by rw [e2];exact lkq) (fun b es c hb hne hmk=>by have:=hmk.lt;exact lkq)
    |some j=>
     have hg2:Be Mi s.idx=some (AI ((j:Nat):Int)):=by rw [hf,hF];rfl
     refine wk ?_
     (apply st1 L rfl;exact Zc (KE.int .i64) (M:=Mi) (k:=s.idx) rfl rfl lkq hg2;rfl)
     refine wk ?_
     refine ih (M,ck) _ _ ⟨?_,by exact lkq,by exact lkp,by exact lkp,by simp only [Ah];omega,kps⟩ tsb
     rw [e1]
     refine RcR.twice (p:=(s,es)) q hE hF (fun b es c hb hmk=>by have:=hmk.lt;exact lkq)
 ·rintro⟨M,ck⟩ hh ⟨q,i2,i3,i4,i5,i6⟩
  rw [List.take_length]at q
  simp only at q i2
  have hjP: ∀p∈l.map (·.1),p.1.Jr:=by
   intro p hp
   obtain⟨x,hx,rfl⟩:=List.mem_map.1 hp
   exact hj x hx
  have hsP: ∀p∈l.map (·.1),p.1.seq<9223372036854775808:=by
   intro p hp
   obtain⟨x,hx,rfl⟩:=List.mem_map.1 hp
   exact hsq x hx
  have heP: ∀p∈l.map (·.1),p.2.length≤100:=by
   intro p hp
   obtain⟨x,hx,rfl⟩:=List.mem_map.1 hp
   exact hes x hx
  have hgetP: ∀j x,l[j]?=some x→Dw (l.map (·.1)) j=x.1.2:=fun j x hx=>Sq hx
  have hlP:(l.map (·.1)).length=l.length:=List.length_map _
  generalize hP:l.map (·.1)=P at*
  have hv: ∀y∈M,∃a e,y.2.1=pgV a e:=fun y hy=>by
   obtain⟨a,Mi,ci,e,g1,_⟩:=q.ent hy
   exact⟨a,e,g1⟩
  have tot: ∀y∈M,∀z∈M,y.1≠z.1→Kf P y.1 z.1=true∨Kf P z.1 y.1=true:=by
   intro y hy z hz hne
   obtain⟨a,Mi,ci,e,g1,g2,g3,_⟩:=q.ent hy
   obtain⟨a',Mi',ci',e',g1',g2',g3',_⟩:=q.ent hz
   refine nk (E0:=fun k=>(Ca P k).getD 0) _ _ ?_
   show(Ca P y.1).getD 0≠(Ca P z.1).getD 0
   rw [g3,g3']
   intro f
   simp only [Option.getD_some]at f
   subst f
   exact hne (mm g3 g3')
  have hB: ∀h1,Kp (fun j=>j=h.n) hh h1→ ∀y∈M,∀z∈M,∀h2,K0 h1 h2→Ct P0 E F K 167 (Ir y.1::Ir z.1:: [.ptr (h.n+2) 0]) h2 fun v h'=>v= .bool (Kf P y.1 z.1)∧K0 h2 h':=by
   intro h1 k1 y hy z hz h2 k2
   obtain⟨a,Mi,ci,e,g1,g2,g3,_⟩:=q.ent hy
   obtain⟨a',Mi',ci',e',g1',g2',g3',_⟩:=q.ent hz
   have kk:Kp (fun j=>j=h.n) hh h2:=k1.trans (k2.mono fun _ f=>f.elim)
   refine(yi L X (A5 kk (by omega) i3) (Lo kk (by omega) i2) g2 g2').mono fun v h' p=>?_
   have:Kf P y.1 z.1=(decide (z.1.2.1<y.1.2.1) || (decide (y.1.2.1=z.1.2.1) && decide (e<e'))):=by
    unfold Kf;simp only [g3,g3',Option.getD_some]
   rw [this];exact p
  have hW2: ∀h1,Kp (fun j=>j=h.n) hh h1→ ∀y∈M,∀h2,K0 h1 h2→Ct P0 E F K 168 (Ir y.1::y.2.1:: []) h2 fun v h'=>v= .bool (B9 P 3 none y.1)∧K0 h2 h':=by
   intro h1 k1 y hy h2 k2
   obtain⟨a,Mi,ci,e,g1,g2,g3,g4,g5,g6,g7⟩:=q.ent hy
   have kk:Kp (fun j=>j=h.n) hh h2:=k1.trans (k2.mono fun _ f=>f.elim)
   rw [g1,show B9 P 3 none y.1=(decide (y.1.1=3) && full P y.1) from Bool.and_true _,←mn hjP g5 g7]
   exact yf L X (Lo kk (by omega) g4)
  refine wk ?_
  refine cal (c:=Gv L X (W:=B9 P 3 none) (B:=Kf P) (capw:= []) (capb:= [.ptr (h.n+2) 0]) q.ok (by exact lkq) hv (hW2 _ (by exact kps)) (hB _ (by exact kps)) (Ud (E0:=fun k=>(Ca P k).getD 0)) tot) (g:=?_)
  rintro _ h3 ⟨out,is,rfl,w1,w2⟩
  have b1:=Q5 q w1
  have hW3: ∀h1 lst u w,Kp (fun j=>j=h.n) hh h1→Bk h1 h.n [u,.int .u64 ((lst:Nat):Int),w]→ ∀y∈M,∀h2,K0 h1 h2→Ct P0 E F K 169 (Ir y.1::y.2.1:: [.ptr h.n 0]) h2 fun v h'=>v= .bool (B9 P 2 (some lst) y.1)∧K0 h2 h':=by
   intro h1 lst u w k1 kc y hy h2 k2
   obtain⟨a,Mi,ci,e,g1,g2,g3,g4,g5,g6,g7⟩:=q.ent hy
   have kk:Kp (fun j=>j=h.n) hh h2:=k1.trans (k2.mono fun _ f=>f.elim)
   rw [g1,show B9 P 2 (some lst) y.1=(decide (y.1.1=2) && full P y.1 && decide (y.1.2.2.1=lst)) from rfl,←mn hjP g5 g7]
   exact yg L X (Lo kk (by omega) g4) (Aj k2 kc)
  have n3:=w2.n
  simp only [Ah]at n3
  have loop: ∀(h5:H) (b15:Nat) (is5:Bool) (o5:Rec) (lq:List (Nat×Option AV)),Kp (fun j=>j=h.n) hh h5→Bk h5 h.n [.nils,.int .u64 ((0:Nat):Int),.nils]→hh.n≤b15→Bk h5 b15 [.int .u8 ((o5.1:Nat):Int),.int .u64 ((o5.2.1:Nat):Int),.int .u64 ((o5.2.2.1:Nat):Int),.int .i64 ((o5.2.2.2:Nat):Int)]→StartP P (if is5=true then some o5 else none)→
    TSub (tms [(16,some (.bool is5)),(15,some (.ptr b15 0)),(14,some (.fn (.func 169) [] [.ptr h.n 0])),(12,some (.fn (.func 167) [] [.ptr (h.n+2) 0])),(3,some (.ptr (h.n+2) 0)),(2,some (.ptr h.n 0)),(0,some (.slc lb 0 l.length (Ac+7)))]) (tms lq)→
    Good P0 E Q ⟨⟨111,cf111.ntmps,tms lq,[.code c111_71,.inBlock 2,.code c111_76,.inScope c111_85],[],.run,false,none⟩,x::cs,h5⟩:=by
   intro h5 b15 is5 o5 lq k5 c5 lb15 kb15 hst ht5
   have hs0:is5=true→isK P o5∧full P o5=true:=fun e=>by rw [if_pos e]at hst;exact K3 hst
   have l15:=kb15.lt
   refine sj L (bd:=c111_70) (α:= List Rec×Bool×Rec×AV×AV) (T:=fun s=> [(16,some (.bool s.2.1)),(15,some (.ptr b15 0)),(14,some (.fn (.func 169) [] [.ptr h.n 0])),(12,some (.fn (.func 167) [] [.ptr (h.n+2) 0])),(3,some (.ptr (h.n+2) 0)),(2,some (.ptr h.n 0)),(0,some (.slc lb 0 l.length (Ac+7)))]) (mu:=fun s=>muF P s.2.1 s.2.2.1)
    (R:=fun s h6=>Kp (fun j=>j=h.n) hh h6∧ChR h6 hh.n b15 s.2.2.2.1 s.2.2.2.2 (chE P s.1) (nI (chU P s.1))∧Bk h6 h.n [s.2.2.2.1,.int .u64 ((chL s.1:Nat):Int),s.2.2.2.2]∧Bk h6 b15 (yj s.2.2.1)∧
     (∀tl,RunP P (if s.2.1=true then some s.2.2.1 else none) tl→RunP P (if is5=true then some o5 else none) (s.1++tl))∧(s.2.1=true→isK P s.2.2.1∧full P s.2.2.1=true)∧s.1.length+muF P s.2.1 s.2.2.1≤P.length∧ ∀k∈s.1,full P k=true)
    ([],is5,o5,.nils,.nils) ht5 ⟨k5,⟨.inl ⟨rfl,rfl⟩,.inl ⟨rfl,rfl⟩,fun _ _ _ _ _ _ e=>by cases e⟩,c5,kb15,fun _ q=>q,hs0,(by simpa using mw P is5 o5),fun k hk=>by cases hk⟩ ?_
   rintro⟨ks,is,o,v1,v2⟩ h6 ⟨j1,j2,j3,j4,j5,j6,j7,j8⟩ ih
   simp only at j2 j3 j4 j5 j6 j7 j8 ih
   have l6:=j1.n
   have l7:=j4.lt
   cases is with
   |false=>
    have hrun:=j5 [] .none
    rw [List.append_nil]at hrun
    obtain⟨g0,hg0⟩:=U.g
    have hul:(nI (chU P ks)).length<100000:=by
     have h1:=Oy ks j8
     have h2:ks.length*P.length≤100*100:=Nat.mul_le_mul (by omega) (by omega)
     unfold nI;rw [List.length_map];omega
    have fin: ∀(h9:H) (v2':AV),RowN h9 h.n v2' (Dk (nI (chU P ks)))→EL h9 h.n v1 (chE P ks)→K0 h h9→ ∃o ks_1 v1_1 v2_1,(AV.agg [v1,.int .u64 ((chL ks:Nat):Int),v2'])= .agg [v1_1,.int .u64 ((chL ks_1:Nat):Int),v2_1]∧StartP P o∧RunP P o ks_1∧EL h9 h.n v1_1 (chE P ks_1)∧RowN h9 h.n v2_1 (Dk (nI (chU P ks_1)))∧K0 h h9:=
     fun h9 v2' q1 q2 q3=>⟨_,ks,v1,v2',rfl,hst,hrun,q2,q1,q3⟩
    have hdd:=j2.d
    have hE:EL h6 h.n v1 (chE P ks):=by
     rcases j2.e with⟨f1,f2⟩|⟨f1,b1,f2,f3,f4,f5⟩
     ·exact⟨.inl ⟨f1,f2⟩⟩
     ·exact⟨.inr ⟨List.length_pos_iff.1 f1,b1,f2,f3,by omega⟩⟩
    rcases j2.e with⟨f1,rfl⟩|⟨f1,b1,rfl,f3,f4,f5⟩
    ·rcases j2.u with⟨e1,rfl⟩|⟨e1,b,rfl,e3,e4,e5⟩
     ·refine wk ?_
      refine Qo L rfl rfl rfl rfl hg0 (U.x0 _) ?_
      rintro _ _ ⟨rfl,rfl⟩
      refine wk ?_
      refine ret X.f111 ?_
      exact fin _ _ ⟨.inl ⟨by rw [e1];exact List.mergeSort_nil,rfl⟩⟩ ⟨.inl ⟨f1,rfl⟩⟩ (by exact kps)
     ·refine wk ?_
      refine Qo L rfl rfl rfl rfl hg0 (U.x _ _ (nI (chU P ks)) (by exact lkp) e1 hul) ?_
      rintro _ h7 ⟨rfl,w6,w7⟩
      refine wk ?_
      refine ret X.f111 ?_
      exact fin _ _ ⟨.inr ⟨by rw [Df];exact e1,b,by rw [Df],by exact lkp,by omega⟩⟩ ⟨.inl ⟨f1,rfl⟩⟩ (by exact kps)
    ·rcases j2.u with⟨e1,rfl⟩|⟨e1,b,rfl,e3,e4,e5⟩
     ·refine wk ?_
      refine Qo L rfl rfl rfl rfl hg0 (U.x0 _) ?_
      rintro _ _ ⟨rfl,rfl⟩
      refine wk ?_
      refine ret X.f111 ?_
      exact fin _ _ ⟨.inl ⟨by rw [e1];exact List.mergeSort_nil,rfl⟩⟩ ⟨.inr ⟨List.length_pos_iff.1 f1,b1,rfl,by exact lkp,by omega⟩⟩ (by exact kps)
     ·have hbb:=hdd _ _ _ _ _ _ rfl rfl
      refine wk ?_
      refine Qo L rfl rfl rfl rfl hg0 (U.x _ _ (nI (chU P ks)) (by exact lkp) e1 hul) ?_
      rintro _ h7 ⟨rfl,w6,w7⟩
      refine wk ?_
      refine ret X.f111 ?_
      exact fin _ _ ⟨.inr ⟨by rw [Df];exact e1,b,by rw [Df],by exact lkp,by omega⟩⟩ ⟨.inr ⟨List.length_pos_iff.1 f1,b1,rfl,by exact lkp,by omega⟩⟩ (by exact kps)
   |true=>
    obtain⟨hk,hf⟩:=j6 rfl
    have hok:=Qy hjP hk
    have hlast:=sv hjP hk hf hsP
    have hfl:=L3 hf
    obtain⟨e0,he0⟩:=Option.isSome_iff_exists.1 (show(Ca P o).isSome=true from hk)
    obtain⟨a,Mi,ci,hg,ka,oi,la,hfm⟩:=q.at_ o e0 he0
    have lka:=ka.lt
    have i2lt:=i2.lt
    have bU:=Oy ks j8
    have bU2:ks.length*P.length≤100*100:=Nat.mul_le_mul (by omega) (by omega)
    refine wk ?_
    refine Bb L (α:= AV×AV) (T:=fun i s=> [(89,some (AI ((i:Nat):Int))),(88,some (AI ((o.2.2.2:Nat):Int))),(15,some (.ptr b15 0)),(14,some (.fn (.func 169) [] [.ptr h.n 0])),(12,some (.fn (.func 167) [] [.ptr (h.n+2) 0])),(3,some (.ptr (h.n+2) 0)),(2,some (.ptr h.n 0)),(0,some (.slc lb 0 l.length (Ac+7)))]) (n:=o.2.2.2)
     (R:=fun i s h7=>Kp (fun j=>j=h.n) hh h7∧ChR h7 hh.n b15 s.1 s.2 (chE P ks++((Al P o).take i).flatMap (Dw P)) (nI (chU P ks++(Al P o).take i))∧Bk h7 h.n [s.1,.int .u64 ((chL ks:Nat):Int),s.2]∧Bk h7 b15 (yj o)) (i0:=0) (v1,v2) tsb ⟨j1,by simp only [List.take_zero,List.flatMap_nil,List.append_nil];exact j2,j3,j4⟩ (Nat.zero_le _) ?_ ?_
    ·rintro i ⟨v1,v2⟩ h7 hi ⟨t1,t2,t3,t4⟩ ih2
     simp only at t2 t3
     have n7:=t1.n
     have lt4:=t4.lt
     obtain⟨jj,hj1,hj2⟩:=L2 hf hi
     have hjl:=T7 hj1
     have hjl2:jj<l.length:=by omega
     have hx:l[jj]?=some l[jj]:=List.getElem?_eq_getElem hjl2
     have hm:=List.getElem_mem hjl2
     have hel:=hl0 _ hm
     have hes1:=hes _ hm
     have hdt:=Bj l (G6 l) jj _ hx
     have ee:=hgetP jj _ hx
     generalize l[jj]=y at*
     obtain⟨⟨s,es⟩,v⟩:=y
     simp only at hel ee hes1
     have e1:(Al P o).take (i+1)=(Al P o).take i++ [jj]:=by rw [List.take_add_one,hj2];rfl
     have e2:chE P ks++((Al P o).take (i+1)).flatMap (Dw P)=(chE P ks++((Al P o).take i).flatMap (Dw P))++es:=by rw [e1,List.flatMap_append,←List.append_assoc];simp [ee]
     have e3:nI (chU P ks++(Al P o).take (i+1))=nI (chU P ks++(Al P o).take i)++ [((jj:Nat):Int)]:=by rw [e1];simp [nI]
     have bE:(chE P ks++((Al P o).take i).flatMap (Dw P)).length≤2000000:=by
      have h1:=Hx heP ((Al P o).take i)
      have h2:=Hx heP (chU P ks)
      rw [←Q2]at h2
      have h3:((Al P o).take i).length≤100:=by rw [List.length_take];omega
      rw [List.length_append]
      omega
     have bU3:(nI (chU P ks++(Al P o).take i)).length≤20000:=by
      unfold nI
      rw [List.length_map,List.length_append,List.length_take];omega
     have ih3:=fun(v1' v2':AV) (h':H) (l':List (Nat×Option AV)) (a1:Kp (fun j=>j=h.n) hh h') (a2:ChR h' hh.n b15 v1' v2' ((chE P ks++((Al P o).take i).flatMap (Dw P))++es) (nI (chU P ks++(Al P o).take i)++ [((jj:Nat):Int)])) (a3:Bk h' h.n [v1',.int .u64 ((chL ks:Nat):Int),v2']) (a4:Bk h' b15 (yj o))
      (t:TSub (tms [(89,some (AI ((i+1:Nat):Int))),(88,some (AI ((o.2.2.2:Nat):Int))),(15,some (.ptr b15 0)),(14,some (.fn (.func 169) [] [.ptr h.n 0])),(12,some (.fn (.func 167) [] [.ptr (h.n+2) 0])),(3,some (.ptr (h.n+2) 0)),(2,some (.ptr h.n 0)),(0,some (.slc lb 0 l.length (Ac+7)))]) (tms l'))=>
      ih2 (v1',v2') h' l' ⟨a1,by rw [e2,e3];exact a2,a3,a4⟩ t
     clear ih2
     generalize chE P ks++((Al P o).take i).flatMap (Dw P)=ES at*
     generalize nI (chU P ks++(Al P o).take i)=US at*
     have hv6:(l.flatMap jpC)[jj*7+6]?=some v:=by
      have:=congrArg (fun r=>r[6]?) hdt.2
      simp only [List.getElem?_take_of_lt (show 6<7 by omega),List.getElem?_drop]at this
      exact this
     have kl8:Bk h7 lb (l.flatMap jpC):=A5 t1 (by omega) (Aj i6 kl)
     have ka8:=Lo t1 (by omega) ka
     (try refine Br L 1000 rfl ?_);(repeat(first|(apply st1 L rfl;exact⟨Ei rfl⟩;rfl)|(apply st1 L rfl;exact Kj rfl rfl rfl;rfl)|(apply st1 L rfl;exact Hb rfl rfl (by omega);rfl)|(apply st1 L rfl;exact Dh rfl rfl (by omega);rfl)|(apply st1 L rfl;(apply Bp rfl;exact lkp;first|rfl|assumption);rfl)))
     (apply st1 L rfl;exact(by apply E8 rfl;exact lkp;rfl);rfl)
     (apply st1 L rfl;exact Gu (k:=o) KE.recd rfl rfl lkq;rfl)
     rw [hg]
     (try refine Br L 1000 rfl ?_);(repeat(first|(apply st1 L rfl;exact⟨Ei rfl⟩;rfl)|(apply st1 L rfl;exact Kj rfl rfl rfl;rfl)|(apply st1 L rfl;exact Hb rfl rfl (by omega);rfl)|(apply st1 L rfl;exact Dh rfl rfl (by omega);rfl)|(apply st1 L rfl;(apply Bp rfl;exact lkp;first|rfl|assumption);rfl)))
     (apply st1 L rfl;exact Gu (KE.int .i64) (M:=Mi) (k:=((i:Nat):Int)) rfl rfl lkq;rfl)
     rw [hfm,hj1]
     have lk3:=t3.lt
     rcases hel.len with⟨rfl,rfl⟩|⟨g1,eb,rfl,g3,g4⟩
     ·rw [List.append_nil]at ih3
      rcases t2.e with⟨rfl,rfl⟩|⟨m1,b1,rfl,m3,m4,m5⟩
      ·rcases t2.u with⟨rfl,rfl⟩|⟨u1,b2,rfl,u3,u4,u5⟩
       ·refine wk ?_
        (apply st1 L rfl;exact D8 (new:= [AI ((jj:Nat):Int)]) rfl rfl (B7 lkp) (by omega) (by omega);rfl)
        refine wk ?_
        refine ih3 _ _ _ _ (by exact kps) ?_ (by exact lkp) (by exact lkp) tsb
        exact⟨.inl ⟨rfl,rfl⟩,.inr ⟨by simp,_,rfl,(by exact lkp),(by omega),(by omega)⟩,fun _ _ _ _ _ _ p1 p2=>by cases p1⟩
       ·have lu:=u3.lt
        refine wk ?_
        (apply st1 L rfl;exact C2 (old:=US.map AI) (new:= [AI ((jj:Nat):Int)]) rfl rfl (Iy lkp) (B7 lkp) (by omega) (by omega) rfl;rfl)
        refine wk ?_
        refine ih3 _ _ _ _ (by exact kps) ?_ (by exact lkp) (by exact lkp) tsb
        exact⟨.inl ⟨rfl,rfl⟩,.inr ⟨by simp,_,(Js (by rw [List.length_append];rfl)),(by rw [List.map_append];exact lkp),(by omega),(by omega)⟩,fun _ _ _ _ _ _ p1 p2=>by cases p1⟩
      ·rcases t2.u with⟨rfl,rfl⟩|⟨u1,b2,rfl,u3,u4,u5⟩
       ·have lm:=m3.lt
        refine wk ?_
        (apply st1 L rfl;exact D8 (new:= [AI ((jj:Nat):Int)]) rfl rfl (B7 lkp) (by omega) (by omega);rfl)
        refine wk ?_
        refine ih3 _ _ _ _ (by exact kps) ?_ (by exact lkp) (by exact lkp) tsb
        exact⟨.inr ⟨m1,b1,rfl,(by exact lkp),m4,m5⟩,.inr ⟨by simp,_,rfl,(by exact lkp),(by omega),(by omega)⟩,fun _ _ _ _ _ _ p1 p2=>by cases p1;cases p2;omega⟩
       ·have lm:=m3.lt
        have lu:=u3.lt
        have hdd:=t2.d _ _ _ _ _ _ rfl rfl
        refine wk ?_
        (apply st1 L rfl;exact C2 (old:=US.map AI) (new:= [AI ((jj:Nat):Int)]) rfl rfl (Iy lkp) (B7 lkp) (by omega) (by omega) rfl;rfl)
        refine wk ?_
        refine ih3 _ _ _ _ (by exact kps) ?_ (by exact lkp) (by exact lkp) tsb
        exact⟨.inr ⟨m1,b1,rfl,(by exact lkp),m4,m5⟩,.inr ⟨by simp,_,(Js (by rw [List.length_append];rfl)),(by rw [List.map_append];exact lkp),(by omega),(by omega)⟩,fun _ _ _ _ _ _ p1 p2=>by cases p1;cases p2;omega⟩
     ·have gk:Bk h7 eb (es.flatMap An):=A5 t1 (by have:=g3.lt;omega) (Aj i6 g3)
      have gl:=g3.lt
      rcases t2.e with⟨rfl,rfl⟩|⟨m1,b1,rfl,m3,m4,m5⟩
      ·rcases t2.u with⟨rfl,rfl⟩|⟨u1,b2,rfl,u3,u4,u5⟩
       ·refine wk ?_
        (apply B5 L rfl rfl;exact D8 (new:=es.flatMap An) rfl rfl (Jq lkp) g1 (by omega))
        refine wk ?_
        (apply st1 L rfl;exact D8 (new:= [AI ((jj:Nat):Int)]) rfl rfl (B7 lkp) (by omega) (by omega);rfl)
        refine wk ?_
        refine ih3 _ _ _ _ (by exact kps) ?_ (by exact lkp) (by exact lkp) tsb
        exact⟨.inr ⟨g1,_,rfl,(by exact lkp),(by omega),(by omega)⟩,.inr ⟨by simp,_,rfl,(by exact lkp),(by omega),(by omega)⟩,fun _ _ _ _ _ _ p1 p2=>by cases p1;cases p2;omega⟩
       ·have lu:=u3.lt
        refine wk ?_
        (apply B5 L rfl rfl;exact D8 (new:=es.flatMap An) rfl rfl (Jq lkp) g1 (by omega))
        refine wk ?_
        (apply st1 L rfl;exact C2 (old:=US.map AI) (new:= [AI ((jj:Nat):Int)]) rfl rfl (Iy lkp) (B7 lkp) (by omega) (by omega) rfl;rfl)
        refine wk ?_
        refine ih3 _ _ _ _ (by exact kps) ?_ (by exact lkp) (by exact lkp) tsb
        exact⟨.inr ⟨g1,_,rfl,(by exact lkp),(by omega),(by omega)⟩,.inr ⟨by simp,_,(Js (by rw [List.length_append];rfl)),(by rw [List.map_append];exact lkp),(by omega),(by omega)⟩,fun _ _ _ _ _ _ p1 p2=>by cases p1;cases p2;omega⟩
      ·rcases t2.u with⟨rfl,rfl⟩|⟨u1,b2,rfl,u3,u4,u5⟩
       ·have lm:=m3.lt
        refine wk ?_
        (apply B5 L rfl rfl;exact C2 (old:=ES.flatMap An) (new:=es.flatMap An) rfl rfl (Jq lkp) (Jq lkp) g1 (by omega) (Dx _))
        refine wk ?_
        (apply st1 L rfl;exact D8 (new:= [AI ((jj:Nat):Int)]) rfl rfl (B7 lkp) (by omega) (by omega);rfl)
        refine wk ?_
        refine ih3 _ _ _ _ (by exact kps) ?_ (by exact lkp) (by exact lkp) tsb
        exact⟨.inr ⟨(by rw [List.length_append];omega),_,(Js List.length_append.symm),(by rw [List.flatMap_append];exact lkp),(by omega),(by omega)⟩,.inr ⟨by simp,_,rfl,(by exact lkp),(by omega),(by omega)⟩,fun _ _ _ _ _ _ p1 p2=>by cases p1;cases p2;omega⟩
       ·have lm:=m3.lt
        have lu:=u3.lt
        have hdd:=t2.d _ _ _ _ _ _ rfl rfl
        refine wk ?_
        (apply B5 L rfl rfl;exact C2 (old:=ES.flatMap An) (new:=es.flatMap An) rfl rfl (Jq lkp) (Jq lkp) g1 (by omega) (Dx _))
        refine wk ?_
        (apply st1 L rfl;exact C2 (old:=US.map AI) (new:= [AI ((jj:Nat):Int)]) rfl rfl (Iy lkp) (B7 lkp) (by omega) (by omega) rfl;rfl)
        refine wk ?_
        refine ih3 _ _ _ _ (by exact kps) ?_ (by exact lkp) (by exact lkp) tsb
        exact⟨.inr ⟨(by rw [List.length_append];omega),_,(Js List.length_append.symm),(by rw [List.flatMap_append];exact lkp),(by omega),(by omega)⟩,.inr ⟨by simp,_,(Js (by rw [List.length_append];rfl)),(by rw [List.map_append];exact lkp),(by omega),(by omega)⟩,fun _ _ _ _ _ _ p1 p2=>by cases p1;cases p2;omega⟩
    ·rintro⟨v1,v2⟩ h7 ⟨t1,t2,t3,t4⟩
     simp only at t2 t3
     have htk:(Al P o).take o.2.2.2=Al P o:=by rw [←D4 P o,List.take_length]
     rw [htk]at t2
     have n7:=t1.n
     have lt4:=t4.lt
     refine wk ?_
     (apply st1 L rfl;exact Xw rfl rfl rfl (by simp only [pw];omega);rfl)
     refine wk ?_
     (apply st1 L rfl;exact B0 rfl rfl rfl (by omega) (by simp only [pw];omega);rfl)
     refine wk ?_
     refine cal (c:=Gv L X (W:=B9 P 2 (some (Hd o))) (B:=Kf P) (capw:= [.ptr h.n 0]) (capb:= [.ptr (h.n+2) 0]) q.ok (by exact lkq) hv (hW3 _ (Hd o) v1 v2 (by exact kps) (by exact lkp)) (hB _ (by exact kps)) (Ud (E0:=fun k=>(Ca P k).getD 0)) tot) (g:=?_)
     rintro _ h8 ⟨out,is',rfl,w3,w4⟩
     have b2:=Q5 q w3
     have n8:=w4.n
     simp only [Ah]at n8
     have hmu:=Xv hjP hk b2
     refine wk ?_
     refine ih (ks++ [o],is',out,v1,v2) _ _ hmu ⟨by exact kps,?_,?_,by exact lkp,fun tl r=>?_,fun e=>?_,?_,fun k hk2=>?_⟩ tsb
     ·simp only [Qz,Q0]
      exact t2.kp (S:=fun j=>j=h.n∨j=b15) (by exact kps) (fun b hb hn=>by omega)
     ·simp only [Q1];exact lkp
     ·simp only
      rw [List.append_assoc];exact j5 (o::tl) (by rw [if_pos rfl];exact .some b2 r)
     ·simp only at e
      rw [if_pos e]at b2;exact Hw b2
     ·simp only [List.length_append,List.length_cons,List.length_nil];omega
     ·rcases List.mem_append.1 hk2 with e|e
      ·exact j8 _ e
      ·rw [List.mem_singleton.1 e];exact hf
  cases is with
  |true=>
   refine wk ?_
   exact loop _ h3.n true out _ (by exact kps) (by exact lkp) (by omega) (by exact lkp) ⟨_,b1,rfl⟩ (by exact tsb)
  |false=>
   refine wk ?_
   refine cal (c:=Gv L X (W:=B9 P 2 (some 0)) (B:=Kf P) (capw:= [.ptr h.n 0]) (capb:= [.ptr (h.n+2) 0]) q.ok (by exact lkq) hv (hW3 _ 0 .nils .nils (by exact kps) (by exact lkp)) (hB _ (by exact kps)) (Ud (E0:=fun k=>(Ca P k).getD 0)) tot) (g:=?_)
   rintro _ h4 ⟨out2,is2,rfl,w3,w4⟩
   have b2:=Q5 q w3
   refine wk ?_
   exact loop _ h3.n is2 out2 _ (by exact kps) (by exact lkp) (by omega) (by exact lkp) ⟨_,b1,b2⟩ (by exact tsb)
end
end
section
variable {P0:Program}{E:Env}{F:T CFn}{K:T (List AV×AV)}(L:Lg P0 E F K)(X:Fx F K)
include L X
section
variable {h:H}
omit L X in
theorem EL.keep {h h':H}{S:Nat→Prop}{lo:Nat}{v:AV}{l:List Ent}(q:EL h lo v l)(k:Kp S h h')(hs: ∀b n c,v= .slc b 0 n c→ ¬S b):EL h' lo v l:=by
 rcases q.ex with h1|⟨h2,b,h3,h4,h5⟩
 ·exact⟨.inl h1⟩
 ·exact⟨.inr ⟨h2,b,h3,A5 k (hs _ _ _ h3) h4,h5⟩⟩
omit L X in
theorem RowN.mono {h:H}{lo lo':Nat}{v:AV}{D:List Int}(q:RowN h lo v D)(k:lo'≤lo):RowN h lo' v D:=by
 rcases q.ex with h1|⟨h2,b,h3,h4,h5⟩
 ·exact⟨.inl h1⟩
 ·exact⟨.inr ⟨h2,b,h3,h4,Nat.le_trans k h5⟩⟩
omit L X in
theorem RowN.kq {h h':H}{S:Nat→Prop}{lo:Nat}{v:AV}{D:List Int}(q:RowN h lo v D)(k:Kp S h h')(hs: ∀b,lo≤b→ ¬S b):RowN h' lo v D:=by
 rcases q.ex with h1|⟨h2,b,h3,h4,h5⟩
 ·exact⟨.inl h1⟩
 ·exact⟨.inr ⟨h2,b,h3,A5 k (hs b h5) h4,h5⟩⟩
theorem X0 (U:SortOk P0 E F 171):Ct P0 E F K 111 [.nils] h fun v h'=>v= .agg [.nils,.int .u64 ((0:Nat):Int),.nils]∧K0 h h':=by
 obtain⟨g0,hg0⟩:=U.g
 refine Ao L X.f111 X.k111 rfl rfl fun Q x cs G=>?_
 refine wk ?_
 refine A4 L ?_
 refine wk ?_
 refine cal (c:=Gv L X (M:= []) (W:=fun _=>false) (B:=fun _ _=>false) (capw:= []) (capb:= [.ptr (h.n+2) 0]) MOk.nil (by exact lkq) (fun y hy=>by cases hy) (fun y hy=>by cases hy) (fun y hy=>by cases hy) (fun _ _ _ e=>by cases e) (fun y hy=>by cases hy)) (g:=?_)
 rintro _ h3 ⟨out,is,rfl,w1,w2⟩
 have n3:=w2.n
 simp only [Ah]at n3
 obtain rfl:is=false:=by
  rcases w1 with⟨e,_⟩|⟨_,e,_⟩
  ·exact e
  ·cases e
 refine wk ?_
 refine cal (c:=Gv L X (M:= []) (W:=fun _=>false) (B:=fun _ _=>false) (capw:= [.ptr h.n 0]) (capb:= [.ptr (h.n+2) 0]) MOk.nil (by exact lkq) (fun y hy=>by cases hy) (fun y hy=>by cases hy) (fun y hy=>by cases hy) (fun _ _ _ e=>by cases e) (fun y hy=>by cases hy)) (g:=?_)
 rintro _ h4 ⟨out2,is,rfl,w3,w4⟩
 have n4:=w4.n
 simp only [Ah]at n4
 obtain rfl:is=false:=by
  rcases w3 with⟨e,_⟩|⟨_,e,_⟩
  ·exact e
  ·cases e
 refine wk ?_
 refine A4 L ?_
 refine wk ?_
 refine Qo L rfl rfl rfl rfl hg0 (U.x0 _) ?_
 rintro _ h5 ⟨rfl,e5⟩
 have k5:Bk h5 h.n [.nils,.int .u64 ((0:Nat):Int),.nils]:=by rw [e5];exact lkp
 have k6:K0 h h5:=by rw [e5];exact kps
 clear e5
 refine wk ?_
 refine ret X.f111 ?_
 exact⟨rfl,kps⟩
omit L X in
structure JLo (h:H)(lo:Nat)(v:AV)(L:List JP):Prop where
 ex: ∃l:List (JP×AV),l.map (·.1)=L∧(∀x∈l,EL h lo x.2 x.1.2)∧((l= []∧v= .nils)∨(0<l.length∧ ∃b,v= .slc b 0 l.length (Ac+7)∧Bk h b (l.flatMap jpC)∧lo≤b∧ ∀x∈l,∀b' n c,x.2= .slc b' 0 n c→b'≠b))
omit L X in
theorem Sz (p:JP){h:H}{lo:Nat}{v:AV}{es:List Ent}(q:EL h lo v es):As (jpC (p,v))=true:=by
 have:=q.plain.2
 show As [v]=true
 simp only [As,this]
omit L X in
theorem sy {h:H}{b cap:Nat}{l:List (JP×AV)}(k:Bk h b (l.flatMap jpC)):SlR 7 h (.slc b 0 l.length cap) l.length (l.flatMap jpC):=
 SlR.of k (by rw [Co l (G6 l)];omega) (by rw [List.drop_zero,List.take_of_length_le (by rw [Co l (G6 l)];exact Nat.le_refl _)])
theorem np {κ: Nat→Nat}{sz:Nat}{v:AV}{LL:List PgE}(U:SortOk P0 E F 171)(q:PL κ h sz peC v (LL.filter isJ))(hn:12≤sz∧sz≤30)(hl:(jps LL).length≤36)(hok: ∀p∈jps LL,p.1.Jr∧p.1.seq<9223372036854775808∧p.2.length≤3):
  Ct P0 E F K 57 [v] h fun u h'=> ∃o ks v1 v2,u= .agg [v1,.int .u64 ((chL ks:Nat):Int),v2]∧StartP (jps LL) o∧RunP (jps LL) o ks∧EL h' h.n v1 (chE (jps LL) ks)∧RowN h' h.n v2 (Dk (nI (chU (jps LL) ks)))∧K0 h h':=by
 obtain⟨l,hlm,q1,q2⟩:=q.ex
 have hjl: ∀i,(l.take i).map (fun y=>L4 y.1)=((LL.filter isJ).take i).map L4:=by
  intro i;rw [←hlm,←List.map_take,List.map_map];rfl
 have hJ: ∀y∈l,isJ y.1=true:=by
  intro y hy
  have:y.1∈LL.filter isJ:=by rw [←hlm];exact List.mem_map_of_mem hy
  exact(List.mem_filter.1 this).2
 have hll:l.length=(jps LL).length:=by unfold jps;rw [List.length_map,←hlm,List.length_map]
 have hf8: ∀x∈l,(peC sz x).length=8:=fun _ _=>rfl
 rcases q2 with⟨rfl,rfl⟩|⟨q3,lb,rfl,q4,q5⟩
 ·have e0:jps LL= []:=List.length_eq_zero_iff.1 (by rw [←hll];rfl)
  rw [e0]
  refine Ao L X.f57 X.k57 rfl rfl fun Q x cs G=>?_
  refine wk ?_
  refine A4 L ?_
  refine wk ?_
  refine cal (c:=X0 L X U) (g:=?_)
  rintro _ h2 ⟨rfl,w1⟩
  refine wk ?_
  refine ret X.f57 ?_
  exact⟨none,[],.nils,.nils,rfl,⟨none,(fun k hk=>absurd hk (by unfold isK Ca;simp):BestP [] 3 none none),(fun k hk=>absurd hk (by unfold isK Ca;simp):BestP [] 2 (some 0) none)⟩,.none,EL.nil _ _,⟨.inl ⟨List.mergeSort_nil,rfl⟩⟩,kps⟩
 have l1:=q4.lt
 refine Ao L X.f57 X.k57 rfl rfl fun Q x cs G=>?_
 refine wk ?_
 refine Bb L (α:= AV) (T:=fun i v=> [(10,some (AI ((i:Nat):Int))),(9,some (AI ((l.length:Nat):Int))),(8,some (.slc lb 0 l.length (Ac+8))),(3,some v),(2,some (.ptr h.n 0))]) (n:=l.length)
  (R:=fun i v h2=>JLo h2 (h.n+1) v ((l.take i).map fun y=>L4 y.1)∧Bk h2 h.n [.nils,.int .u64 ((0:Nat):Int),.nils]∧K0 h h2) (i0:=0) .nils tsb ⟨⟨[],rfl,(fun x hx=>by cases hx),.inl ⟨rfl,rfl⟩⟩,lkp,kps⟩ (Nat.zero_le _) ?_ ?_
 ·rintro i v h2 hi ⟨w1,w2,w3⟩ ih
  have hx:l[i]?=some l[i]:=List.getElem?_eq_getElem hi
  have hdt:=Bj l hf8 i _ hx
  have hm:=List.getElem_mem hi
  obtain⟨r1,r2,r3⟩:=q1 _ hm
  have hj:=hJ _ hm
  have e1:((l.take (i+1)).map fun y=>L4 y.1)=((l.take i).map fun y=>L4 y.1)++ [L4 l[i].1]:=by
   rw [List.take_add_one,hx,List.map_append];rfl
  rw [e1]at ih
  have hlen2:((l.take i).map fun y=>L4 y.1).length≤36:=by rw [List.length_map,List.length_take];omega
  generalize l[i]=y at*
  obtain⟨⟨pa,s,data⟩,db⟩:=y
  have hdt':i*8+8≤(l.flatMap (peC sz)).length∧((l.flatMap (peC sz)).drop (i*8)).take 8= [.int .u8 ((s.kind:Nat):Int),.int .i64 s.sec,.int .u64 ((s.seq:Nat):Int),.int .u64 ((s.prev:Nat):Int),.int .i64 s.idx,.int .i64 s.len,.int .i64 ((pa:Nat):Int),.slc db 0 sz (Ac+1)]:=hdt
  have k2:=(Aj w3 q4).rk
  have n2:=w3.n
  have r1':=r1.k0 w3
  have ldb:=r1'.lt_n
  have l2:=w2.lt
  refine wk ?_
  (apply st1 L rfl;exact B6 lkr hdt' rfl;rfl)
  refine wk ?_
  refine cal (c:=Zl L X (bs:=data) (by exact lkb) r3 (by omega)) (g:=?_)
  rintro _ h3 ⟨⟨u,e,rfl,x1,x2,x3⟩,x4⟩
  have n3:=x4.n
  simp only [Ah]at n3 x1
  obtain rfl:e=0:=x2.2 (by unfold isJ at hj;simp only [Bool.and_eq_true]at hj;exact hj.2)
  have hpl:=Sz (s,(B2 data).getD []) x1
  have hdj:L4 ⟨pa,s,data⟩=(s,(B2 data).getD []):=rfl
  obtain⟨ll,g1,g2,g3⟩:=w1.ex
  have g4:ll.length≤36:=by rw [←g1,List.length_map]at hlen2;exact hlen2
  refine wk ?_
  refine cal (c:=Ek L X) (g:=?_)
  rintro _ rfl
  have hsep: ∀x∈ll,∀b n c,x.2= .slc b 0 n c→b<h2.n:=by
   intro x hx b n c e
   rcases(g2 x hx).ex with⟨_,e2⟩|⟨_,b',e2,e3,_⟩
   ·rw [e2]at e;cases e
   ·rw [e2]at e;cases e;exact e3.lt
  have usep: ∀b n c,u= .slc b 0 n c→h2.n≤b∧b<h3.n:=by
   intro b n c e
   rcases x1.ex with⟨_,e2⟩|⟨_,b',e2,e3,e4⟩
   ·rw [e2]at e;cases e
   ·rw [e2]at e;cases e;exact⟨by omega,e3.lt⟩
  have step: ∀(h9:H) (N:Nat),Bk h9 N (ll.flatMap jpC++jpC ((s,(B2 data).getD []),u))→h3.n≤N→(∀x∈ll,EL h9 (h.n+1) x.2 x.1.2)→EL h9 (h.n+1) u ((B2 data).getD [])→JLo h9 (h.n+1) (.slc N 0 (ll.length+1) (Ac+7)) (((l.take i).map fun y=>L4 y.1)++ [L4 ⟨pa,s,data⟩]):=by
   intro h9 N b1 b2 b3 b4
   refine⟨ll++ [((s,(B2 data).getD []),u)],by rw [List.map_append,g1,hdj];rfl,fun x hx=>?_,.inr ⟨by simp,N,Js (by rw [List.length_append];rfl),by rw [List.flatMap_append];simpa using b1,by omega,fun x hx b n c e=>?_⟩⟩
   ·rcases List.mem_append.1 hx with hx|hx
    ·exact b3 x hx
    ·rw [List.mem_singleton.1 hx];exact b4
   ·rcases List.mem_append.1 hx with hx|hx
    ·have:=hsep x hx b n c e;omega
    ·rw [List.mem_singleton.1 hx]at e
     have:=usep b n c e;omega
  rcases x1.ex with⟨_,rfl⟩|⟨_,ub,rfl,_,_⟩
  ·rcases g3 with⟨rfl,rfl⟩|⟨gn,lb2,rfl,g5,g6,g7⟩
   ·refine wk ?_
    (apply st1 L rfl;exact D8 (new:=jpC ((s,(B2 data).getD []),AV.nils)) rfl rfl (SlR.of (c:=jpC ((s,(B2 data).getD []),AV.nils)) lkp (Nat.le_refl _) rfl) (by omega) (by omega);rfl)
    refine wk ?_
    refine ih _ _ _ ⟨step _ _ (by exact lkp) (by omega) (fun x hx=>by cases hx) ((x1.kS (S:=fun _=>False) (by exact kps) (fun b _ f=>f)).mono (by omega)),by exact lkp,by exact kps⟩ tsb
   ·have g8:=g5.lt
    refine wk ?_
    (apply st1 L rfl;exact C2 (old:=ll.flatMap jpC) (new:=jpC ((s,(B2 data).getD []),AV.nils)) rfl rfl (sy (l:=ll) lkp) (SlR.of (c:=jpC ((s,(B2 data).getD []),AV.nils)) lkp (Nat.le_refl _) rfl) (by omega) (by omega) hpl;rfl)
    refine wk ?_
    refine ih _ _ _ ⟨step _ _ (by exact lkp) (by omega) (fun x hx=>?_) ?_,by exact lkp,by exact kps⟩ tsb
    ·exact(g2 x hx).keep (S:=fun j=>j=lb2) (by exact kps) (fun b n c e=>g7 x hx b n c e)
    ·exact(x1.keep (S:=fun j=>j=lb2) (by exact kps) (fun b n c e=>by have:=usep b n c e;omega)).mono (by omega)
  ·rcases g3 with⟨rfl,rfl⟩|⟨gn,lb2,rfl,g5,g6,g7⟩
   ·refine wk ?_
    (apply st1 L rfl;exact D8 (new:=jpC ((s,(B2 data).getD []),(AV.slc ub 0 ((B2 data).getD []).length (Ac+2)))) rfl rfl (SlR.of (c:=jpC ((s,(B2 data).getD []),(AV.slc ub 0 ((B2 data).getD []).length (Ac+2)))) lkp (Nat.le_refl _) rfl) (by omega) (by omega);rfl)
    refine wk ?_
    refine ih _ _ _ ⟨step _ _ (by exact lkp) (by omega) (fun x hx=>by cases hx) ((x1.kS (S:=fun _=>False) (by exact kps) (fun b _ f=>f)).mono (by omega)),by exact lkp,by exact kps⟩ tsb
   ·have g8:=g5.lt
    refine wk ?_
    (apply st1 L rfl;exact C2 (old:=ll.flatMap jpC) (new:=jpC ((s,(B2 data).getD []),(AV.slc ub 0 ((B2 data).getD []).length (Ac+2)))) rfl rfl (sy (l:=ll) lkp) (SlR.of (c:=jpC ((s,(B2 data).getD []),(AV.slc ub 0 ((B2 data).getD []).length (Ac+2)))) lkp (Nat.le_refl _) rfl) (by omega) (by omega) hpl;rfl)
    refine wk ?_
    refine ih _ _ _ ⟨step _ _ (by exact lkp) (by omega) (fun x hx=>?_) ?_,by exact lkp,by exact kps⟩ tsb
    ·exact(g2 x hx).keep (S:=fun j=>j=lb2) (by exact kps) (fun b n c e=>g7 x hx b n c e)
    ·exact(x1.keep (S:=fun j=>j=lb2) (by exact kps) (fun b n c e=>by have:=usep b n c e;omega)).mono (by omega)
 ·rintro v h2 ⟨w1,w2,w3⟩
  rw [List.take_length]at w1
  have e9:(l.map fun y=>L4 y.1)=jps LL:=by
   unfold jps
   rw [←hlm,List.map_map];rfl
  rw [e9]at w1
  obtain⟨ll,g1,g2,g3⟩:=w1.ex
  have n2:=w3.n
  have l2:=w2.lt
  have g4:0<ll.length:=by
   have:ll.length=(jps LL).length:=by rw [←g1,List.length_map]
   have:=List.length_pos_iff.2 q3
   omega
  have g4':ll.length=(jps LL).length:=by rw [←g1,List.length_map]
  rcases g3 with⟨rfl,rfl⟩|⟨gn,lb2,rfl,g5,g6,g7⟩
  ·cases g4
  have hm: ∀x∈ll,x.1∈jps LL:=fun x hx=>by rw [←g1];exact List.mem_map_of_mem hx
  refine wk ?_
  refine cal (c:=dj L X (lo:=h.n+1) (l:=ll) (fun x hx=>(hok _ (hm x hx)).1) g2 g5 (by omega) (fun x hx=>by have:=(hok _ (hm x hx)).2.2;omega) (fun x hx=>(hok _ (hm x hx)).2.1) U) (g:=?_)
  rintro _ h3 ⟨o,ks,v1,v2,rfl,y1,y2,y3,y4,y5⟩
  rw [g1]at y1 y2 y3 y4
  have n3:=y5.n
  try simp only [Ah]at n3
  rcases y3.ex with⟨_,rfl⟩|⟨_,eb,rfl,_,_⟩ <;> rcases y4.ex with⟨_,rfl⟩|⟨_,ub,rfl,_,_⟩
  all_goals
   refine wk ?_
   refine ret X.f57 ?_
   exact⟨o,ks,_,_,rfl,y1,y2,(y3.kS (S:=fun j=>j=h.n) (by exact kps) (fun b hb f=>by omega)).mono (by omega),RowN.mono (RowN.kq y4 (S:=fun j=>j=h.n) (by exact kps) (fun b hb f=>by omega)) (by omega),kps⟩
end
end
section
variable {P0:Program}{E:Env}{F:T CFn}{K:T (List AV×AV)}(L:Lg P0 E F K)(X:Fx F K)
include L X
section
variable {h:H}
theorem X1 {x:PgE×Nat}{sz xb:Nat}{s p:Int}(k:Bk h xb [AI s,AI p]):Ct P0 E F K 117 [.agg (peC sz x),.ptr xb 0] h fun v h'=>v= .bool (decide (((x.1.at_:Nat):Int)=p))∧K0 h h':=by
 obtain⟨⟨a,sp,d⟩,b⟩:=x
 have l1:=k.lt
 by_cases q:((a:Nat):Int)=p
 ·rw [show decide ((((PgE.mk a sp d,b).1.at_:Nat):Int)=p)=true from decide_eq_true q]
  show Ct P0 E F K 117 [.agg [.int .u8 ((sp.kind:Nat):Int),.int .i64 sp.sec,.int .u64 ((sp.seq:Nat):Int),.int .u64 ((sp.prev:Nat):Int),.int .i64 sp.idx,.int .i64 sp.len,.int .i64 ((a:Nat):Int),.slc b 0 sz (Ac+1)],.ptr xb 0] h _
  refine Af L X.f117 X.k117 rfl rfl fun Q x cs G=>?_
  refine wk ?_
  refine ret X.f117 ?_
  exact⟨rfl,kps⟩
 ·rw [show decide ((((PgE.mk a sp d,b).1.at_:Nat):Int)=p)=false from decide_eq_false q]
  show Ct P0 E F K 117 [.agg [.int .u8 ((sp.kind:Nat):Int),.int .i64 sp.sec,.int .u64 ((sp.seq:Nat):Int),.int .u64 ((sp.prev:Nat):Int),.int .i64 sp.idx,.int .i64 sp.len,.int .i64 ((a:Nat):Int),.slc b 0 sz (Ac+1)],.ptr xb 0] h _
  refine Af L X.f117 X.k117 rfl rfl fun Q x cs G=>?_
  refine wk ?_
  refine ret X.f117 ?_
  exact⟨rfl,kps⟩
omit L X in
def atP (p:Int)(x:PgE):Bool:=decide (((x.at_:Nat):Int)=p)
theorem Nd {κ: Nat→Nat}{sz xb:Nat}{s p:Int}{lv:AV}{LL:List PgE}(q:PL κ h sz peC lv LL)(k:Bk h xb [AI s,AI p])(hL:LL.length≤100):
  Ct P0 E F K 116 [lv,.fn (.func 117) [] [.ptr xb 0]] h fun v h'=>v=AI (match LL.findIdx? (atP p)with|some j=>((j:Nat):Int)|none=> -1)∧K0 h h':=by
 obtain⟨l,rfl,q1,q2⟩:=q.ex
 have hlen:l.length≤100:=by simpa using hL
 have hf8: ∀x∈l,(peC sz x).length=8:=fun _ _=>rfl
 have l0:=k.lt
 rcases q2 with⟨rfl,rfl⟩|⟨q3,lb,rfl,q4,q5⟩
 ·refine Af L X.f116 X.k116 rfl rfl fun Q x cs G=>?_
  refine wk ?_
  refine A4 L ?_
  refine wk ?_
  refine ret X.f116 ?_
  exact⟨rfl,kps⟩
 have l1:=q4.lt
 have round: ∀(Q:Nat→AV→Prop) (x:AFr) (cs:List AFr) (i:Nat) (y:PgE×Nat) (h2:H),l[i]?=some y→K0 h h2→(∀(h3:H) (lq:List (Nat×Option AV)),atP p y.1=false→K0 h h3→TSub (tms [(8,some (AI ((i+1:Nat):Int))),(7,some (AI ((l.length:Nat):Int))),(0,some (.slc lb 0 l.length (Ac+8))),(1,some (.fn (.func 117) [] [.ptr xb 0]))]) (tms lq)→Good P0 E Q ⟨⟨116,cf116.ntmps,tms lq,[.inLoop c116_15,.inBlock 0,.code c116_20],[],.run,false,none⟩,x::cs,h3⟩)→
   (∀v h',(v=AI ((i:Nat):Int)∧K0 h h')→GO P0 E Q (finish v cs h' x))∨atP p y.1=false→
   Good P0 E Q ⟨⟨116,cf116.ntmps,tms [(8,some (AI ((i:Nat):Int))),(7,some (AI ((l.length:Nat):Int))),(0,some (.slc lb 0 l.length (Ac+8))),(1,some (.fn (.func 117) [] [.ptr xb 0]))],[.code c116_15,.inLoop c116_15,.inBlock 0,.code c116_20],[],.run,false,none⟩,x::cs,hp h2.n h2.t []⟩:=by
  intro Q x cs i y h2 hx k2 cont G0
  have hi:i<l.length:=(List.getElem?_eq_some_iff.1 hx).1
  have hdt:=Bj l hf8 i _ hx
  obtain⟨⟨pa,s,data⟩,db⟩:=y
  have hdt':i*8+8≤(l.flatMap (peC sz)).length∧((l.flatMap (peC sz)).drop (i*8)).take 8= [.int .u8 ((s.kind:Nat):Int),.int .i64 s.sec,.int .u64 ((s.seq:Nat):Int),.int .u64 ((s.prev:Nat):Int),.int .i64 s.idx,.int .i64 s.len,.int .i64 ((pa:Nat):Int),.slc db 0 sz (Ac+1)]:=hdt
  have kr:=(Aj k2 q4).rk
  have kx:=Aj k2 k
  refine wk ?_
  (apply st1 L rfl;exact B6 lkr hdt' rfl;rfl)
  refine wk ?_
  refine Qg L rfl rfl rfl rfl rfl (X1 L X (x:=(⟨pa,s,data⟩,db)) (sz:=sz) (by exact lkp)).A ?_
  rintro _ h3 ⟨rfl,w1⟩
  by_cases hp:atP p ⟨pa,s,data⟩=true
  ·have e1:decide (((((⟨pa,s,data⟩,db):PgE×Nat).1.at_:Nat):Int)=p)=true:=hp
   rw [e1]
   rcases G0 with G|G
   ·refine wk ?_
    refine ret X.f116 ?_
    exact⟨rfl,kps⟩
   ·exact absurd (hp.symm.trans G) (by simp)
  ·have e1:decide (((((⟨pa,s,data⟩,db):PgE×Nat).1.at_:Nat):Int)=p)=false:=Bool.eq_false_iff.2 hp
   rw [e1]
   refine wk ?_
   exact cont _ _ (by simpa using hp) (by exact kps) tsb
 refine Af L X.f116 X.k116 rfl rfl fun Q x cs G=>?_
 refine wk ?_
 cases hf:(l.map (·.1)).findIdx? (atP p)with
 |none=>
  rw [hf]at G
  rw [List.findIdx?_eq_none_iff]at hf
  refine Bb L (α:= Unit) (T:=fun i _=> [(8,some (AI ((i:Nat):Int))),(7,some (AI ((l.length:Nat):Int))),(0,some (.slc lb 0 l.length (Ac+8))),(1,some (.fn (.func 117) [] [.ptr xb 0]))]) (n:=l.length)
   (R:=fun i _ h2=>K0 h h2) (i0:=0) () tsb kps (Nat.zero_le _) ?_ ?_
  ·rintro i _ h2 hi w1 ih
   refine round Q x cs i l[i] h2 (List.getElem?_eq_getElem hi) w1 (fun h3 lq _ k3 t3=>ih () h3 lq k3 t3) (.inr ?_)
   exact hf _ (List.mem_map_of_mem (List.getElem_mem hi))
  ·rintro _ h2 w1
   refine wk ?_
   refine ret X.f116 ?_
   exact⟨rfl,kps⟩
 |some j=>
  rw [hf]at G
  rw [List.findIdx?_eq_some_iff_getElem]at hf
  obtain⟨hj,hp1,hp2⟩:=hf
  rw [List.length_map]at hj
  refine Bb L (α:= Unit) (T:=fun i _=> [(8,some (AI ((i:Nat):Int))),(7,some (AI ((l.length:Nat):Int))),(0,some (.slc lb 0 l.length (Ac+8))),(1,some (.fn (.func 117) [] [.ptr xb 0]))]) (n:=j)
   (R:=fun i _ h2=>K0 h h2) (i0:=0) () tsb kps (Nat.zero_le _) ?_ ?_
  ·rintro i _ h2 hi w1 ih
   refine round Q x cs i (l[i]'(by omega)) h2 (List.getElem?_eq_getElem _) w1 (fun h3 lq _ k3 t3=>ih () h3 lq k3 t3) (.inr ?_)
   have:=hp2 i hi
   rw [List.getElem_map]at this
   simpa using this
  ·rintro _ h2 w1
   refine round Q x cs j l[j] h2 (List.getElem?_eq_getElem hj) w1 (fun h3 lq e k3 t3=>?_) (.inl fun v h' p=>G v h' p)
   rw [List.getElem_map]at hp1
   rw [hp1]at e;cases e
omit L X in
theorem Q6 {LL:List PgE}{e:Ent}{j:Nat}(hf:LL.findIdx? (atP e.2)=some j): ∃x,LL[j]?=some x∧Bz LL e=(Bm x && decide (x.s.sec=e.1)):=by
 unfold Bz
 rw [List.findIdx?_eq_some_iff_getElem]at hf
 obtain⟨hj,h1,h2⟩:=hf
 refine⟨LL[j],List.getElem?_eq_getElem hj,?_⟩
 have:LL.find? (fun x=>decide (((x.at_:Nat):Int)=e.2))=some LL[j]:=by
  rw [List.find?_eq_some_iff_getElem]
  exact⟨h1,j,hj,rfl,fun i hi=>by have:=h2 i hi;simpa [atP]using this⟩
 rw [this]
omit L X in
theorem Q7 {LL:List PgE}{e:Ent}(hf:LL.findIdx? (atP e.2)=none):Bz LL e=false:=by
 unfold Bz
 rw [List.findIdx?_eq_none_iff]at hf
 have:LL.find? (fun x=>decide (((x.at_:Nat):Int)=e.2))=none:=by
  rw [List.find?_eq_none]
  intro x hx
  have:=hf x hx
  unfold atP at this
  rw [this];simp
 rw [this]
theorem dm {κ: Nat→Nat}{sz lo:Nat}{lv ev:AV}{LL:List PgE}{es:List Ent}(q:PL κ h sz peC lv LL)(k:EL h lo ev es)(hL:LL.length≤100)(hE:es.length≤10000)(hall: ∀e∈es,Bz LL e=true):
  Ct P0 E F K 60 [lv,ev] h fun v h'=>v= .tup []∧K0 h h':=by
 rcases k.len with⟨rfl,rfl⟩|⟨g1,eb,rfl,g3,g4⟩
 ·refine Af L X.f60 X.k60 rfl rfl fun Q x cs G=>?_
  refine wk ?_
  refine A4 L ?_
  refine wk ?_
  refine ret X.f60 ?_
  exact⟨rfl,kps⟩
 have l1:=g3.lt
 refine Af L X.f60 X.k60 rfl rfl fun Q x cs G=>?_
 refine wk ?_
 refine Bb L (α:= Unit) (T:=fun i _=> [(9,some (AI ((i:Nat):Int))),(8,some (AI ((es.length:Nat):Int))),(7,some (.slc eb 0 es.length (Ac+2))),(0,some lv)]) (n:=es.length)
  (R:=fun i _ h2=>K0 h h2) (i0:=0) () tsb kps (Nat.zero_le _) ?_ ?_
 ·rintro i _ h2 hi w1 ih
  have hx:es[i]?=some es[i]:=List.getElem?_eq_getElem hi
  have hdt:=Bj es (B4 es) i _ hx
  have hh:=hall _ (List.getElem_mem hi)
  generalize es[i]=e at*
  obtain⟨s,p⟩:=e
  have hdt':i*2+2≤(es.flatMap An).length∧((es.flatMap An).drop (i*2)).take 2= [AI s,AI p]:=hdt
  have kr:=(Aj w1 g3).rk
  have n2:=w1.n
  refine wk ?_
  (apply st1 L rfl;exact B6 lkr hdt' rfl;rfl)
  refine wk ?_
  refine cal (c:=Nd L X (s:=s) (p:=p) (PL.fw q (Kp.fw0 (by exact kps))) (by exact lkp) hL) (g:=?_)
  rintro _ h3 ⟨rfl,w2⟩
  have n3:=w2.n
  simp only [Ah]at n3
  cases hf:LL.findIdx? (atP p)with
  |none=>rw [Q7 (e:=(s,p)) hf]at hh;cases hh
  |some j=>
   obtain⟨x,hxj,e1⟩:=Q6 (e:=(s,p)) hf
   rw [e1]at hh
   simp only [Bool.and_eq_true,decide_eq_true_eq]at hh
   obtain⟨l,rfl,q1,q2⟩:=q.ex
   rw [List.getElem?_map,Option.map_eq_some_iff]at hxj
   obtain⟨y,hy,rfl⟩:=hxj
   have hj:j<l.length:=(List.getElem?_eq_some_iff.1 hy).1
   rcases q2 with⟨rfl,rfl⟩|⟨q3,lb,rfl,q4,q5⟩
   ·cases hy
   have hf8: ∀x∈l,(peC sz x).length=8:=fun _ _=>rfl
   have hdx:=Bj l hf8 j _ hy
   have hsec:(l.flatMap (peC sz))[j*8+0+1]?=some (.int .i64 y.1.s.sec):=by
    have:=congrArg (fun r=>r[1]?) hdx.2
    simp only [List.getElem?_take_of_lt (show 1<8 by omega),List.getElem?_drop]at this
    exact this
   obtain⟨⟨pa,sp,data⟩,db⟩:=y
   simp only at hh hsec
   have hdx':j*8+8≤(l.flatMap (peC sz)).length∧((l.flatMap (peC sz)).drop (j*8)).take 8= [.int .u8 ((sp.kind:Nat):Int),.int .i64 sp.sec,.int .u64 ((sp.seq:Nat):Int),.int .u64 ((sp.prev:Nat):Int),.int .i64 sp.idx,.int .i64 sp.len,.int .i64 ((pa:Nat):Int),.slc db 0 sz (Ac+1)]:=hdx
   have q4':Bk h3 lb (l.flatMap (peC sz)):=Aj w2 (by have:=Aj w1 q4;have:=this.lt;exact lkp)
   have kr2:=q4'.rk
   have hl2:l.length≤100:=by simpa using hL
   refine wk ?_
   (apply Au rfl rfl;exact B6 lkr hdx' rfl)
   refine wk ?_
   refine cal (c:=Hs L X (x:=(⟨pa,sp,data⟩,db)) (sz:=sz)) (g:=?_)
   rintro _ h4 ⟨rfl,w3⟩
   have n4:=w3.n
   try simp only [Ah]at n4
   have hk:sp.kind=1:=by have:=hh.1;unfold Bm at this;simpa using this
   rw [decide_eq_true (show(PgE.mk pa sp data).s.kind=1 from hk)]
   have q4'':=Aj w3 q4'
   refine wk ?_
   refine cal (c:=Ek L X) (g:=?_)
   rintro _ rfl
   refine wk ?_
   refine ih () _ _ (by exact kps) tsb
 ·rintro _ h2 w1
  refine wk ?_
  refine ret X.f60 ?_
  exact⟨rfl,kps⟩
theorem X2 {κ: Nat→Nat}{sz lo:Nat}{lv ev:AV}{LL:List PgE}{es:List Ent}(q:PL κ h sz peC lv LL)(k:EL h lo ev es)(hL:LL.length≤100)(hE:es.length≤10000){i0:Nat}(hi0:i0<es.length)(hpass: ∀i e,i<i0→es[i]?=some e→Bz LL e=true)(hfail0: ∀e,es[i0]?=some e→Bz LL e=false):
  CtP P0 E F K 60 [lv,ev] h fun v h'=>v= .ifc 34 (AI ((6:Nat):Int))∧K0 h h':=by
 rcases k.len with⟨rfl,rfl⟩|⟨g1,eb,rfl,g3,g4⟩
 ·exact absurd hi0 (Nat.not_lt_zero _)
 have l1:=g3.lt
 refine Il L X.f60 X.k60 rfl rfl rfl fun Q x cs G=>?_
 refine wk ?_
 refine Bb L (α:= Unit) (T:=fun i _=> [(9,some (AI ((i:Nat):Int))),(8,some (AI ((es.length:Nat):Int))),(7,some (.slc eb 0 es.length (Ac+2))),(0,some lv)]) (n:=i0)
  (R:=fun i _ h2=>K0 h h2) (i0:=0) () tsb kps (Nat.zero_le _) ?_ ?_
 ·rintro i _ h2 hi' w1 ih
  have hi:i<es.length:=by omega
  have hx:es[i]?=some es[i]:=List.getElem?_eq_getElem hi
  have hdt:=Bj es (B4 es) i _ hx
  have hh:=hpass i _ hi' hx
  generalize es[i]=e at*
  obtain⟨s,p⟩:=e
  have hdt':i*2+2≤(es.flatMap An).length∧((es.flatMap An).drop (i*2)).take 2= [AI s,AI p]:=hdt
  have kr:=(Aj w1 g3).rk
  have n2:=w1.n
  refine wk ?_
  (apply st1 L rfl;exact B6 lkr hdt' rfl;rfl)
  refine wk ?_
  refine cal (c:=Nd L X (s:=s) (p:=p) (PL.fw q (Kp.fw0 (by exact kps))) (by exact lkp) hL) (g:=?_)
  rintro _ h3 ⟨rfl,w2⟩
  have n3:=w2.n
  simp only [Ah]at n3
  cases hf:LL.findIdx? (atP p)with
  |none=>rw [Q7 (e:=(s,p)) hf]at hh;cases hh
  |some j=>
   obtain⟨x,hxj,e1⟩:=Q6 (e:=(s,p)) hf
   rw [e1]at hh
   simp only [Bool.and_eq_true,decide_eq_true_eq]at hh
   obtain⟨l,rfl,q1,q2⟩:=q.ex
   rw [List.getElem?_map,Option.map_eq_some_iff]at hxj
   obtain⟨y,hy,rfl⟩:=hxj
   have hj:j<l.length:=(List.getElem?_eq_some_iff.1 hy).1
   rcases q2 with⟨rfl,rfl⟩|⟨q3,lb,rfl,q4,q5⟩
   ·cases hy
   have hf8: ∀x∈l,(peC sz x).length=8:=fun _ _=>rfl
   have hdx:=Bj l hf8 j _ hy
   have hsec:(l.flatMap (peC sz))[j*8+0+1]?=some (.int .i64 y.1.s.sec):=by
    have:=congrArg (fun r=>r[1]?) hdx.2
    simp only [List.getElem?_take_of_lt (show 1<8 by omega),List.getElem?_drop]at this
    exact this
   obtain⟨⟨pa,sp,data⟩,db⟩:=y
   simp only at hh hsec
   have hdx':j*8+8≤(l.flatMap (peC sz)).length∧((l.flatMap (peC sz)).drop (j*8)).take 8= [.int .u8 ((sp.kind:Nat):Int),.int .i64 sp.sec,.int .u64 ((sp.seq:Nat):Int),.int .u64 ((sp.prev:Nat):Int),.int .i64 sp.idx,.int .i64 sp.len,.int .i64 ((pa:Nat):Int),.slc db 0 sz (Ac+1)]:=hdx
   have q4':Bk h3 lb (l.flatMap (peC sz)):=Aj w2 (by have:=Aj w1 q4;have:=this.lt;exact lkp)
   have kr2:=q4'.rk
   have hl2:l.length≤100:=by simpa using hL
   refine wk ?_
   (apply Au rfl rfl;exact B6 lkr hdx' rfl)
   refine wk ?_
   refine cal (c:=Hs L X (x:=(⟨pa,sp,data⟩,db)) (sz:=sz)) (g:=?_)
   rintro _ h4 ⟨rfl,w3⟩
   have n4:=w3.n
   try simp only [Ah]at n4
   have hk:sp.kind=1:=by have:=hh.1;unfold Bm at this;simpa using this
   rw [decide_eq_true (show(PgE.mk pa sp data).s.kind=1 from hk)]
   have q4'':=Aj w3 q4'
   refine wk ?_
   refine cal (c:=Ek L X) (g:=?_)
   rintro _ rfl
   refine wk ?_
   refine ih () _ _ (by exact kps) tsb
 ·rintro _ h2 w1
  have hi:=hi0
  have hx:es[i0]?=some es[i0]:=List.getElem?_eq_getElem hi
  have hdt:=Bj es (B4 es) i0 _ hx
  have hh:=hfail0 _ hx
  generalize es[i0]=e at*
  obtain⟨s,p⟩:=e
  have hdt':i0*2+2≤(es.flatMap An).length∧((es.flatMap An).drop (i0*2)).take 2= [AI s,AI p]:=hdt
  have kr:=(Aj w1 g3).rk
  have n2:=w1.n
  refine wk ?_
  (apply st1 L rfl;exact B6 lkr hdt' rfl;rfl)
  refine wk ?_
  refine cal (c:=Nd L X (s:=s) (p:=p) (PL.fw q (Kp.fw0 (by exact kps))) (by exact lkp) hL) (g:=?_)
  rintro _ h3 ⟨rfl,w2⟩
  have n3:=w2.n
  simp only [Ah]at n3
  cases hf:LL.findIdx? (atP p)with
  |none=>
   dsimp only
   refine wk ?_
   refine T2 L rfl rfl rfl rfl rfl (E5 L X) ?_
   rintro _ _ ⟨rfl,rfl⟩
   refine F5 L X.f60 ?_
   exact G _ _ ⟨rfl,kps⟩
  |some j=>
   obtain⟨x,hxj,e1⟩:=Q6 (e:=(s,p)) hf
   rw [e1]at hh
   obtain⟨l,rfl,q1,q2⟩:=q.ex
   rw [List.getElem?_map,Option.map_eq_some_iff]at hxj
   obtain⟨y,hy,rfl⟩:=hxj
   have hj:j<l.length:=(List.getElem?_eq_some_iff.1 hy).1
   rcases q2 with⟨rfl,rfl⟩|⟨q3,lb,rfl,q4,q5⟩
   ·cases hy
   have hf8: ∀x∈l,(peC sz x).length=8:=fun _ _=>rfl
   have hdx:=Bj l hf8 j _ hy
   have hsec:(l.flatMap (peC sz))[j*8+0+1]?=some (.int .i64 y.1.s.sec):=by
    have:=congrArg (fun r=>r[1]?) hdx.2
    simp only [List.getElem?_take_of_lt (show 1<8 by omega),List.getElem?_drop]at this
    exact this
   obtain⟨⟨pa,sp,data⟩,db⟩:=y
   simp only at hh hsec
   have hdx':j*8+8≤(l.flatMap (peC sz)).length∧((l.flatMap (peC sz)).drop (j*8)).take 8= [.int .u8 ((sp.kind:Nat):Int),.int .i64 sp.sec,.int .u64 ((sp.seq:Nat):Int),.int .u64 ((sp.prev:Nat):Int),.int .i64 sp.idx,.int .i64 sp.len,.int .i64 ((pa:Nat):Int),.slc db 0 sz (Ac+1)]:=hdx
   have q4':Bk h3 lb (l.flatMap (peC sz)):=Aj w2 (by have:=Aj w1 q4;have:=this.lt;exact lkp)
   have kr2:=q4'.rk
   have hl2:l.length≤100:=by simpa using hL
   refine wk ?_
   (apply Au rfl rfl;exact B6 lkr hdx' rfl)
   refine wk ?_
   refine cal (c:=Hs L X (x:=(⟨pa,sp,data⟩,db)) (sz:=sz)) (g:=?_)
   rintro _ h4 ⟨rfl,w3⟩
   have n4:=w3.n
   try simp only [Ah]at n4
   have q4'':=Aj w3 q4'
   by_cases hk:sp.kind=1
   ·rw [decide_eq_true (show(PgE.mk pa sp data).s.kind=1 from hk)]
    have hs: ¬sp.sec=s:=by
     intro e9
     unfold Bm at hh
     simp [hk,e9]at hh
    refine wk ?_
    refine T2 L rfl rfl rfl rfl rfl (E5 L X) ?_
    rintro _ _ ⟨rfl,rfl⟩
    refine F5 L X.f60 ?_
    exact G _ _ ⟨rfl,kps⟩
   ·rw [decide_eq_false (show¬(PgE.mk pa sp data).s.kind=1 from hk)]
    refine wk ?_
    refine T2 L rfl rfl rfl rfl rfl (E5 L X) ?_
    rintro _ _ ⟨rfl,rfl⟩
    refine F5 L X.f60 ?_
    exact G _ _ ⟨rfl,kps⟩
end
end
section
variable {P0:Program}{E:Env}{F:T CFn}{K:T (List AV×AV)}(L:Lg P0 E F K)(X:Fx F K)
include L X
section
variable {h:H}
theorem Fo {Q:Nat→AV→Prop}{nt:Nat}{l:List (Nat×Option AV)}{todo:List AItem}{z:AFr}{cs:List AFr}{b4 b5:Nat}{e:Int}{x0 x1 x2 x3 x4 y0:AV}{post:AV→H→Prop}(t4:look l 4=some (.ptr b4 0))(t5:look l 5=some (.ptr b5 0))
  (k4:Bk h b4 [x0,x1,x2,x3,x4]) (k5:Bk h b5 [y0]) (hne:b4≠b5) (hG: ∀v h',post v h'→GO P0 E Q (finish v cs h' z))
  (hp1: ∀h',Kp (fun j=>j=b4∨j=b5) h h'→post (.tup [.agg [.nils,.int .u64 ((0:Nat):Int),.int .u64 ((0:Nat):Int),.nils,.nils],AI e]) h'):
  Good P0 E Q ⟨⟨14,nt,tms l,todo,[.call 50 [.ptr b4 0,.ptr b5 0]],.panicking [(.ifc 34 (AI e),false)],false,none⟩,z::cs,h⟩:=by
 have l4:=k4.lt
 have l5:=k5.lt
 refine Db L (by intro q;cases q) X.f50 rfl rfl rfl ?_
 refine Ii L rfl ?_
 refine wk ?_
 (apply Qh L rfl rfl rfl rfl rfl rfl rfl;exact lkp;rfl;intro h9 hs9;(repeat(first|(apply Au rfl rfl;exact opv)|(apply Kv rfl rfl)));(first|(apply p_0;exact chk)|(refine Tr L ?_ rfl ?_;exact chk));refine Od L hs9 ?_)
 refine wk ?_
 refine Ij L X.f50 rfl ?_
 refine Gr L X.f14 (If t4 (Bk.e lkp) rfl (Dn t5 (Bk.e lkp) rfl Ix)) hG (hp1 _ kps)
theorem dp {Q:Nat→AV→Prop}{nt:Nat}{l:List (Nat×Option AV)}{todo:List AItem}{z:AFr}{cs:List AFr}{b4 b5:Nat}{x0 x1 x2 x3 x4 y0:AV}{post:AV→H→Prop}(t4:look l 4=some (.ptr b4 0))(t5:look l 5=some (.ptr b5 0))
  (k4:Bk h b4 [x0,x1,x2,x3,x4]) (k5:Bk h b5 [y0]) (hG: ∀v h',post v h'→GO P0 E Q (finish v cs h' z)) (hp1:post (.tup [.agg [x0,x1,x2,x3,x4],y0]) h):
  Good P0 E Q ⟨⟨14,nt,tms l,todo,[.call 50 [.ptr b4 0,.ptr b5 0]],.returning,false,none⟩,z::cs,h⟩:=by
 refine Db L (by intro q;cases q) X.f50 rfl rfl rfl ?_
 refine Fm L rfl ?_
 refine wk ?_
 (apply st1 L rfl;exact My (k:=true) rfl rfl;rfl)
 refine wk ?_
 refine Ij L X.f50 rfl ?_
 refine Gr L X.f14 (If t4 (Bk.e lkp) rfl (Dn t5 (Bk.e lkp) rfl Ix)) hG hp1
omit L X in
structure ChI (h:H)(lo:Nat)(v1 v2:AV)(es us:List Int):Prop where
 e:(es= []∧v1= .nils)∨(0<es.length∧ ∃b,v1= .slc b 0 es.length (Ac+1)∧Bk h b (es.map AI)∧lo≤b)
 u:(us= []∧v2= .nils)∨(0<us.length∧ ∃b,v2= .slc b 0 us.length (Ac+1)∧Bk h b (us.map AI)∧lo≤b)
 d: ∀b1 n1 c1 b2 n2 c2,v1= .slc b1 0 n1 c1→v2= .slc b2 0 n2 c2→b1≠b2
omit L X in
theorem ChI.kp {h h':H}{lo:Nat}{S:Nat→Prop}{v1 v2:AV}{es us:List Int}(q:ChI h lo v1 v2 es us)(k:Kp S h h')(hs: ∀b,lo≤b→ ¬S b):ChI h' lo v1 v2 es us:=by
 refine⟨?_,?_,q.d⟩
 ·rcases q.e with e|⟨e1,b,e2,e3,e4⟩
  ·exact .inl e
  ·exact .inr ⟨e1,b,e2,A5 k (hs b e4) e3,e4⟩
 ·rcases q.u with e|⟨e1,b,e2,e3,e4⟩
  ·exact .inl e
  ·exact .inr ⟨e1,b,e2,A5 k (hs b e4) e3,e4⟩
omit L X in
theorem ChI.plain {h:H}{lo:Nat}{v1 v2:AV}{es us:List Int}(q:ChI h lo v1 v2 es us):Az v1=true∧Az v2=true:=by
 refine⟨?_,?_⟩
 ·rcases q.e with⟨_,rfl⟩|⟨_,b,rfl,_⟩ <;> rfl
 ·rcases q.u with⟨_,rfl⟩|⟨_,b,rfl,_⟩ <;> rfl
omit L X in
theorem Vz (D:Dv)(bs:List Nat)(n:Nat):jrn D bs (n+1)=jrn D bs n++(if n∈bs then [((n:Nat):Int)]else []):=by
 unfold jrn
 rw [List.range_succ,List.filter_append,List.map_append]
 by_cases e:n∈bs <;> simp [e]
omit L X in
theorem V0 (D:Dv)(bs:List Nat)(n:Nat):drt D bs (n+1)=drt D bs n++(if n∉bs∧0<(D.bl n).nx then [((n:Nat):Int)]else []):=by
 unfold drt
 rw [List.range_succ,List.filter_append,List.map_append]
 by_cases e:n∈bs <;> by_cases f:0<(D.bl n).nx <;> simp [e,f]
omit L X in
theorem Ue (D:Dv)(bs:List Nat)(n:Nat):(jrn D bs n).length≤n∧(drt D bs n).length≤n:=by
 unfold jrn drt
 rw [List.length_map,List.length_map]
 exact⟨Nat.le_trans (List.length_filter_le _ _) (by simp),Nat.le_trans (List.length_filter_le _ _) (by simp)⟩
theorem V1 {Q:Nat→AV→Prop}{x:AFr}{cs:List AFr}{κ: Nat→Nat}{d fm bb:Nat}{D:Dv}{cb:List AV}{post:AV→H→Prop}(ok:D.Ok)(dc:DevC κ h d D fm bb cb){hh:H}{mu ck last next:Nat}{Mu:List (Int×AV×Nat)}{ev:AV}{es:List Ent}{bs:List Nat}
  (w:K0 h hh) (kf:Bk hh h.n [ev,.int .u64 ((last:Nat):Int),.int .u64 ((next:Nat):Int),.nils,.nils]) (ke:Bk hh (h.n+1) [AI ((0:Nat):Int)]) (km:Mk hh mu (Mu.map (mE AI)) ck) (hlo:h.n+2≤mu) (hev:EL hh (h.n+2) ev es)
  (hu1: ∀b∈bs,∃z:Int,Be Mu ((b:Nat):Int)=some (AI z)∧0<z) (hu2: ∀b:Nat,b∉bs→Be Mu ((b:Nat):Int)=none)
  (G: ∀v h',post v h'→GO P0 E Q (finish v cs h' x))
  (hp1: ∀v2 v3 h',RowN h' h.n v2 (jrn D bs D.nb)→RowN h' h.n v3 (drt D bs D.nb)→EL h' h.n ev es→K0 h h'→post (.tup [.agg [ev,.int .u64 ((last:Nat):Int),.int .u64 ((next:Nat):Int),v2,v3],AI ((0:Nat):Int)]) h')
  {lq:List (Nat×Option AV)} (ht:TSub (tms [(105,some (AI ((0:Nat):Int))),(104,some (AI ((D.nb:Nat):Int))),(14,some (.map mu)),(5,some (.ptr (h.n+1) 0)),(4,some (.ptr h.n 0)),(0,some (.ptr d 0))]) (tms lq)):
  Good P0 E Q ⟨⟨14,cf14.ntmps,tms lq,[.code c14_64,.inBlock 4,.code c14_68],[.call 50 [.ptr h.n 0,.ptr (h.n+1) 0]],.run,false,none⟩,x::cs,hh⟩:=by
 have n0:=w.n
 have lmu:=km.lt
 have lke:=ke.lt
 have hnb:=ok.g.nb
 refine Bb L (bd:=c14_63) (α:= AV×AV) (T:=fun i _=> [(105,some (AI ((i:Nat):Int))),(104,some (AI ((D.nb:Nat):Int))),(14,some (.map mu)),(5,some (.ptr (h.n+1) 0)),(4,some (.ptr h.n 0)),(0,some (.ptr d 0))]) (n:=D.nb)
  (R:=fun i s h2=>Kp (fun j=>j=h.n) hh h2∧ChI h2 hh.n s.1 s.2 (jrn D bs i) (drt D bs i)∧Bk h2 h.n [ev,.int .u64 ((last:Nat):Int),.int .u64 ((next:Nat):Int),s.1,s.2]) (i0:=0) (.nils,.nils) ht ⟨Kp.refl _,⟨.inl ⟨rfl,rfl⟩,.inl ⟨rfl,rfl⟩,fun _ _ _ _ _ _ e=>by cases e⟩,kf⟩ (Nat.zero_le _) ?_ ?_
 ·rintro i ⟨v1,v2⟩ h2 hi ⟨w1,w2,w3⟩ ih
  simp only at w2 w3
  have n2:=w1.n
  have l3:=w3.lt
  have hbl:=Ue D bs i
  have ke2:Bk h2 (h.n+1) [AI ((0:Nat):Int)]:=A5 w1 (by omega) ke
  have km2:=Lo w1 (by omega) km
  have kk:K0 h h2:=Kp.trS w1 (fun i hi e=>by omega) w
  have ih2:=fun(v1' v2':AV) (h':H) (l':List (Nat×Option AV)) (a1:Kp (fun j=>j=h.n) hh h') (a2:ChI h' hh.n v1' v2' (jrn D bs i++(if i∈bs then [((i:Nat):Int)]else [])) (drt D bs i++(if i∉bs∧0<(D.bl i).nx then [((i:Nat):Int)]else []))) (a3:Bk h' h.n [ev,.int .u64 ((last:Nat):Int),.int .u64 ((next:Nat):Int),v1',v2'])
   (t:TSub (tms [(105,some (AI ((i+1:Nat):Int))),(104,some (AI ((D.nb:Nat):Int))),(14,some (.map mu)),(5,some (.ptr (h.n+1) 0)),(4,some (.ptr h.n 0)),(0,some (.ptr d 0))]) (tms l'))=>ih (v1',v2') h' l' ⟨a1,by simp only;rw [Vz,V0];exact a2,a3⟩ t
  clear ih
  generalize jrn D bs i=js at*
  generalize drt D bs i=ds at*
  by_cases hb:i∈bs
  ·obtain⟨z,hz,hz0⟩:=hu1 i hb
   rw [if_pos hb,if_neg (show¬(i∉bs∧0<(D.bl i).nx) from fun q=>q.1 hb),List.append_nil]at ih2
   (try refine Br L 1000 rfl ?_);(repeat(first|(apply st1 L rfl;exact⟨Ei rfl⟩;rfl)|(apply st1 L rfl;exact Kj rfl rfl rfl;rfl)|(apply st1 L rfl;exact Hb rfl rfl (by omega);rfl)|(apply st1 L rfl;exact Dh rfl rfl (by omega);rfl)|(apply st1 L rfl;(apply Bp rfl;exact lkp;first|rfl|assumption);rfl)))
   (apply st1 L rfl;exact Gu (KE.int .i64) (M:=Mu) (k:=((i:Nat):Int)) rfl rfl lkq;rfl)
   rw [hz]
   rcases w2.e with⟨rfl,rfl⟩|⟨e1,b1,rfl,e3,e4⟩
   ·refine wk ?_
    (apply st1 L rfl;exact D8 (new:= [AI ((i:Nat):Int)]) rfl rfl (B7 lkp) (by omega) (by omega);rfl)
    refine wk ?_
    refine ih2 _ _ _ _ (by exact kps) ?_ (by exact lkp) tsb
    refine⟨.inr ⟨by simp,_,rfl,(by exact lkp),(by omega)⟩,(w2.kp (S:=fun j=>j=h.n) (by exact kps) (fun b hb e=>by omega)).u,fun b1 n1 c1 b2 n2 c2 p1 p2=>?_⟩
    cases p1
    rcases w2.u with⟨_,f2⟩|⟨_,b',f2,f3,_⟩
    ·rw [f2]at p2;cases p2
    ·rw [f2]at p2;cases p2;have:=f3.lt;omega
   ·have l5:=e3.lt
    refine wk ?_
    (apply st1 L rfl;exact C2 (old:=js.map AI) (new:= [AI ((i:Nat):Int)]) rfl rfl (Iy lkp) (B7 lkp) (by omega) (by omega) rfl;rfl)
    refine wk ?_
    refine ih2 _ _ _ _ (by exact kps) ?_ (by exact lkp) tsb
    refine⟨.inr ⟨by simp,_,(Js (by rw [List.length_append];rfl)),(by rw [List.map_append];exact lkp),(by omega)⟩,?_,fun b1 n1 c1 b2 n2 c2 p1 p2=>?_⟩
    ·rcases w2.u with f|⟨f1,b',f2,f3,f4⟩
     ·exact .inl f
     ·have:=f3.lt
      have:=w2.d _ _ _ _ _ _ rfl f2
      exact .inr ⟨f1,b',f2,by exact lkp,f4⟩
    ·cases p1
     rcases w2.u with⟨_,f2⟩|⟨_,b',f2,f3,_⟩
     ·rw [f2]at p2;cases p2
     ·rw [f2]at p2;cases p2;have:=f3.lt;omega
  ·rw [if_neg hb,List.append_nil]at ih2
   obtain⟨pn,c,hr⟩:=dc.rows i hi
   have kd:=Aj kk dc.dk
   have kbb:=Aj kk dc.bk
   have hnx:=(ok.bl i hi).nx
   (try refine Br L 1000 rfl ?_);(repeat(first|(apply st1 L rfl;exact⟨Ei rfl⟩;rfl)|(apply st1 L rfl;exact Kj rfl rfl rfl;rfl)|(apply st1 L rfl;exact Hb rfl rfl (by omega);rfl)|(apply st1 L rfl;exact Dh rfl rfl (by omega);rfl)|(apply st1 L rfl;(apply Bp rfl;exact lkp;first|rfl|assumption);rfl)))
   (apply st1 L rfl;exact Gu (KE.int .i64) (M:=Mu) (k:=((i:Nat):Int)) rfl rfl lkq;rfl)
   rw [hu2 i hb]
   refine wk ?_
   refine cal (c:=Ts L X (by exact lkp) (by exact lkp) hi hr.c1) (g:=?_)
   rintro _ rfl
   by_cases hx:0<(D.bl i).nx
   ·rw [if_pos (show i∉bs∧0<(D.bl i).nx from⟨hb,hx⟩)]at ih2
    rcases w2.u with⟨rfl,rfl⟩|⟨e1,b1,rfl,e3,e4⟩
    ·refine wk ?_
     (apply st1 L rfl;exact D8 (new:= [AI ((i:Nat):Int)]) rfl rfl (B7 lkp) (by omega) (by omega);rfl)
     refine wk ?_
     refine ih2 _ _ _ _ (by exact kps) ?_ (by exact lkp) tsb
     refine⟨(w2.kp (S:=fun j=>j=h.n) (by exact kps) (fun b hb e=>by omega)).e,.inr ⟨by simp,_,rfl,(by exact lkp),(by omega)⟩,fun b1 n1 c1 b2 n2 c2 p1 p2=>?_⟩
     cases p2
     rcases w2.e with⟨_,f2⟩|⟨_,b',f2,f3,_⟩
     ·rw [f2]at p1;cases p1
     ·rw [f2]at p1;cases p1;have:=f3.lt;omega
    ·have l5:=e3.lt
     refine wk ?_
     (apply st1 L rfl;exact C2 (old:=ds.map AI) (new:= [AI ((i:Nat):Int)]) rfl rfl (Iy lkp) (B7 lkp) (by omega) (by omega) rfl;rfl)
     refine wk ?_
     refine ih2 _ _ _ _ (by exact kps) ?_ (by exact lkp) tsb
     refine⟨?_,.inr ⟨by simp,_,(Js (by rw [List.length_append];rfl)),(by rw [List.map_append];exact lkp),(by omega)⟩,fun b1 n1 c1 b2 n2 c2 p1 p2=>?_⟩
     ·rcases w2.e with f|⟨f1,b',f2,f3,f4⟩
      ·exact .inl f
      ·have:=f3.lt
       have:=w2.d _ _ _ _ _ _ f2 rfl
       exact .inr ⟨f1,b',f2,by exact lkp,f4⟩
     ·cases p2
      rcases w2.e with⟨_,f2⟩|⟨_,b',f2,f3,_⟩
      ·rw [f2]at p1;cases p1
      ·rw [f2]at p1;cases p1;have:=f3.lt;omega
   ·rw [if_neg (show¬(i∉bs∧0<(D.bl i).nx) from fun q=>hx q.2),List.append_nil]at ih2
    refine wk ?_
    refine ih2 _ _ _ _ (by exact kps) ?_ (by exact lkp) tsb
    exact w2.kp (S:=fun j=>False) (by exact kps) (fun b hb e=>e)
 ·rintro⟨v1,v2⟩ h2 ⟨w1,w2,w3⟩
  simp only at w2 w3
  have n2:=w1.n
  have ke2:Bk h2 (h.n+1) [AI ((0:Nat):Int)]:=A5 w1 (by omega) ke
  have kk:K0 h h2:=Kp.trS w1 (fun i hi e=>by omega) w
  have l3:=w3.lt
  have hp2:As [ev,.int .u64 ((last:Nat):Int),.int .u64 ((next:Nat):Int),v1,v2]=true:=by
   have a1:=hev.plain.2
   have a2:=w2.plain.1
   have a3:=w2.plain.2
   show(match Az ev with|true=>(match Az v1 with|true=>(match Az v2 with|true=>true|false=>false)|false=>false)|false=>false)=true
   rw [a1,a2,a3]
  refine wk ?_
  (apply stS L rfl rfl rfl rfl rfl hp2;exact lkp;rfl;rfl)
  refine wk ?_
  refine Gq L (todo:= []) ?_
  refine dp L X rfl rfl lkp lkp G (hp1 _ _ _ ?_ ?_ ?_ (by exact kps))
  ·rcases w2.e with⟨e1,rfl⟩|⟨e1,b1,rfl,e3,e4⟩
   ·exact⟨.inl ⟨e1,rfl⟩⟩
   ·exact⟨.inr ⟨e1,b1,rfl,by exact lkp,by omega⟩⟩
  ·rcases w2.u with⟨e1,rfl⟩|⟨e1,b1,rfl,e3,e4⟩
   ·exact⟨.inl ⟨e1,rfl⟩⟩
   ·exact⟨.inr ⟨e1,b1,rfl,by exact lkp,by omega⟩⟩
  ·have:=hev.kS w1 (fun b hb e=>by omega)
   exact(this.kS (S:=fun j=>j=h.n∨j=h.n+1) (by exact kps) (fun b hb e=>by omega)).mono (by omega)
end
end
end Go.Ev
