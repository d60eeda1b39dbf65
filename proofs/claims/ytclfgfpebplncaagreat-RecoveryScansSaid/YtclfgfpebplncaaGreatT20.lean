/- Part of the proof. -/
import Derived.Test.YtclfgfpebplncaaGreatT19
import Derived.Test.YtclfgfpebplncaaGreatT11
set_option linter.unusedVariables false
set_option linter.unusedSectionVars false
set_option linter.unusedSimpArgs false
set_option maxRecDepth 10000
set_option maxHeartbeats 4000000
namespace Go.Ev
section
variable {P0:Program}{E:Env}{F:T CFn}{K:T (List AV×AV)}(L:Lg P0 E F K)(X:Fx F K)
include L X
section
variable {h:H}
omit L X in
def Dp (n:Nat)(us:List Nat):List AV:=(List.range n).map fun i=> .bool (decide (i∈us))
omit L X in
theorem H0 (n:Nat)(us:List Nat):(Dp n us).length=n:=by simp [Dp]
omit L X in
theorem Zr (n:Nat):rl [.bool false] n=Dp n []:=by
 have: ∀m,rl [.bool false] m=List.replicate m (.bool false):=by
  intro m
  induction m with
  |zero=>rfl
  |succ m ih=>rw [List.replicate_succ];show _::rl _ m=_;rw [ih]
 rw [this]
 unfold Dp
 apply List.ext_getElem?
 intro i
 by_cases hi:i<n <;> simp [hi]
omit L X in
theorem Kc {n i:Nat}{us:List Nat}(hi:i<n):(Dp n us)[i]?=some (.bool (decide (i∈us))):=by simp [Dp,hi]
omit L X in
theorem S4 {n j:Nat}{us:List Nat}(hj:j<n):(Dp n us).set j (.bool true)=Dp n (us++ [j]):=by
 apply List.ext_getElem?
 intro i
 rw [List.getElem?_set,H0]
 by_cases hi:i<n
 ·rw [Kc hi,Kc hi]
  by_cases e:j=i
  ·rw [if_pos e,if_pos hj];simp [e]
  ·rw [if_neg e]
   have:i∈us++ [j]↔i∈us:=by simp [Ne.symm e]
   simp only [this]
 ·have h1:(Dp n us)[i]?=none:=List.getElem?_eq_none (by rw [H0];omega)
  have h2:(Dp n (us++ [j]))[i]?=none:=List.getElem?_eq_none (by rw [H0];omega)
  rw [h1,h2,if_neg (by omega)]
omit L X in
def Nf (n:Nat)(us:List Nat):List Int:=nI ((List.range n).filter fun i=>decide (i∈us))
omit L X in
theorem du (n:Nat)(us:List Nat):Nf (n+1) us=Nf n us++(if n∈us then [((n:Nat):Int)]else []):=by
 unfold Nf nI
 rw [List.range_succ,List.filter_append,List.map_append]
 by_cases e:n∈us <;> simp [e]
omit L X in
theorem oe (n:Nat)(us:List Nat):(Nf n us).length≤n:=by
 unfold Nf nI
 rw [List.length_map]
 exact Nat.le_trans (List.length_filter_le _ _) (by simp)
omit L X in
theorem og {n:Nat}{us:List Nat}(hn:us.Nodup)(hl: ∀j∈us,j<n):Nf n us=Dk (nI us):=by
 have h1:(nI us).Nodup:=by
  unfold nI
  rw [List.nodup_iff_pairwise_ne]at hn ⊢
  exact List.Pairwise.map _ (fun a b h e=>h (by omega)) hn
 have h2:(Nf n us).Pairwise (· < ·):=by
  unfold Nf nI
  refine List.Pairwise.map _ (fun a b h=>?_) (List.pairwise_lt_range.filter _)
  omega
 have h3:=Zb h1
 have h4:(Nf n us).Perm (Dk (nI us)):=(List.perm_ext_iff_of_nodup (h2.imp fun q=>by omega) (h3.imp fun q=>by omega)).2 fun z=>by
  rw [(F8 _).mem_iff]
  unfold Nf nI
  simp only [List.mem_map,List.mem_filter,List.mem_range,decide_eq_true_eq]
  constructor
  ·rintro⟨i,⟨_,h⟩,e⟩;exact⟨i,h,e⟩
  ·rintro⟨i,h,e⟩;exact⟨i,⟨hl i h,h⟩,e⟩
 exact h4.eq_of_pairwise (fun a b _ _ q1 q2=>by omega) h2 h3
theorem V6:Ct P0 E F K 64 [.nils] h fun v h'=>v= .agg [.nils,.int .u64 ((0:Nat):Int),.nils]∧K0 h h':=by
 have hb: ∀(h9:H) (k:Nat),Ct P0 E F K 119 [.nils,.int .u8 ((k:Nat):Int),.int .u64 ((0:Nat):Int)] h9 fun v h'=>v= .nils∧K0 h9 h':=by
  intro h9 k
  refine A6 L X.f119 X.k119 rfl rfl fun Q x cs G=>?_
  refine wk ?_
  refine A4 L ?_
  refine wk ?_
  refine ret X.f119 ?_
  exact⟨rfl,kps⟩
 refine Ao L X.f64 X.k64 rfl rfl fun Q x cs G=>?_
 refine wk ?_
 refine cal (c:=hb _ 3) (g:=?_)
 rintro _ h2 ⟨rfl,w1⟩
 have n2:=w1.n
 simp only [Ah]at n2
 refine wk ?_
 refine cal (c:=hb _ 2) (g:=?_)
 rintro _ h3 ⟨rfl,w2⟩
 have n3:=w2.n
 simp only [Ah]at n3
 refine wk ?_
 refine A4 L ?_
 refine wk ?_
 refine A4 L ?_
 refine wk ?_
 refine ret X.f64 ?_
 exact⟨rfl,kps⟩
theorem V7 {Q:Nat→AV→Prop}{x:AFr}{cs:List AFr}{n lst:Nat}{v1:AV}{es:List Ent}{us:List Nat}{post:AV→H→Prop}{hh:H}{lb:Nat}(hn:n≤100)(w:K0 h hh)(k2:Bk hh h.n [.nils,.int .u64 ((0:Nat):Int),.nils])(k3:Bk hh (h.n+1) [v1,.int .u64 ((lst:Nat):Int),.nils])(k4:Bk hh (h.n+2) (Dp n us))(hE:EL hh (h.n+3) v1 es)
  (G: ∀v h',post v h'→GO P0 E Q (finish v cs h' x)) (hp1: ∀v2 h',RowN h' h.n v2 (Nf n us)→EL h' h.n v1 es→K0 h h'→post (.agg [v1,.int .u64 ((lst:Nat):Int),v2]) h')
  {lq:List (Nat×Option AV)} (ht:TSub (tms [(7,some (AI ((0:Nat):Int))),(4,some (.slc (h.n+2) 0 n n)),(3,some (.ptr (h.n+1) 0)),(2,some (.ptr h.n 0)),(0,some (.slc lb 0 n (Ac+7)))]) (tms lq)):
  Good P0 E Q ⟨⟨64,cf64.ntmps,tms lq,[.code c64_45,.inBlock 4,.code c64_49],[],.run,false,none⟩,x::cs,hh⟩:=by
 have n0:=w.n
 have l4:=k4.lt
 refine Bb L (bd:=c64_44) (α:= AV) (T:=fun i _=> [(7,some (AI ((i:Nat):Int))),(4,some (.slc (h.n+2) 0 n n)),(3,some (.ptr (h.n+1) 0)),(2,some (.ptr h.n 0)),(0,some (.slc lb 0 n (Ac+7)))]) (n:=n)
  (R:=fun i v2 h2=>Kp (fun j=>j=h.n+1) hh h2∧Bk h2 (h.n+1) [v1,.int .u64 ((lst:Nat):Int),v2]∧RowN h2 hh.n v2 (Nf i us)) (i0:=0) .nils ht ⟨Kp.refl _,k3,⟨.inl ⟨rfl,rfl⟩⟩⟩ (Nat.zero_le _) ?_ ?_
 ·rintro i v2 h2 hi ⟨w1,w2,w3⟩ ih
  have n2:=w1.n
  have l3:=w2.lt
  have ku:=A5 w1 (by omega) k4
  have hg:=Kc (us:=us) hi
  have hul:=oe i us
  rw [du]at ih
  generalize Nf i us=ul at*
  by_cases hu:i∈us
  ·rw [decide_eq_true hu]at hg
   rw [if_pos hu]at ih
   rcases w3.ex with⟨rfl,rfl⟩|⟨g1,b,rfl,g3,g4⟩
   ·refine wk ?_
    (apply st1 L rfl;exact D8 (new:= [AI ((i:Nat):Int)]) rfl rfl (B7 lkp) (by omega) (by omega);rfl)
    refine wk ?_
    refine ih _ _ _ ⟨by exact kps,by exact lkp,?_⟩ tsb
    exact⟨.inr ⟨by simp,_,rfl,by exact lkp,by omega⟩⟩
   ·have l5:=g3.lt
    refine wk ?_
    (apply st1 L rfl;exact C2 (old:=ul.map AI) (new:= [AI ((i:Nat):Int)]) rfl rfl (Iy lkp) (B7 lkp) (by omega) (by omega) rfl;rfl)
    refine wk ?_
    refine ih _ _ _ ⟨by exact kps,by exact lkp,?_⟩ tsb
    exact⟨.inr ⟨by simp,_,(Js (by simp)),(by rw [List.map_append];exact lkp),by omega⟩⟩
  ·rw [decide_eq_false hu]at hg
   rw [if_neg hu,List.append_nil]at ih
   refine wk ?_
   refine ih v2 _ _ ⟨by exact kps,by exact lkp,w3.k0 kps⟩ tsb
 ·rintro v2 h2 ⟨w1,w2,w3⟩
  have n2:=w1.n
  have l3:=w2.lt
  have k2':=A5 w1 (by omega) k2
  have kk:K0 h h2:=Kp.trS w1 (fun i hi e=>by omega) w
  have hpl:As [v1,.int .u64 ((lst:Nat):Int),v2]=true:=by
   have a1:=hE.plain.2
   have a2:Az v2=true:=by
    rcases w3.ex with⟨_,rfl⟩|⟨_,b,rfl,_⟩ <;> rfl
   show(match Az v1 with|true=>(match Az v2 with|true=>true|false=>false)|false=>false)=true
   rw [a1,a2]
  refine wk ?_
  (apply stS L rfl rfl rfl rfl rfl hpl;exact lkp;rfl;rfl)
  refine wk ?_
  refine ret X.f64 ?_
  apply hp1 v2
  ·exact RowN.mono (w3.kq (S:=fun j=>j=h.n) (by exact kps) (fun b hb e=>by omega)) (by omega)
  ·clear kk
   exact(hE.kS (S:=fun j=>j=h.n+1∨j=h.n) (by exact kps) (fun b hb e=>by omega)).mono (by omega)
  ·exact kps
theorem X4 {lo lb:Nat}{l:List (JP×AV)}(hj: ∀x∈l,x.1.1.Jr)(hl0: ∀x∈l,EL h lo x.2 x.1.2)(kl:Bk h lb (l.flatMap jpC))(hlen:l.length≤100)(hes: ∀x∈l,x.1.2.length≤100):
  Ct P0 E F K 64 [.slc lb 0 l.length (Ac+7)] h fun v h'=> ∃o ks v1 v2,v= .agg [v1,.int .u64 ((chL ks:Nat):Int),v2]∧StartP (l.map (·.1)) o∧RunP (l.map (·.1)) o ks∧EL h' h.n v1 (chE (l.map (·.1)) ks)∧RowN h' h.n v2 (Dk (nI (chU (l.map (·.1)) ks)))∧K0 h h':=by
 have l1:=kl.lt
 have hb2: ∀(h9:H) (prev:Nat),Bk h9 lb (l.flatMap jpC)→Ct P0 E F K 119 [.slc lb 0 l.length (Ac+7),.int .u8 ((2:Nat):Int),.int .u64 ((prev:Nat):Int)] h9 fun v h'=>K0 h9 h'∧ ∃o,BestP (l.map (·.1)) 2 (some prev) o∧RO (l.map (·.1)) h' h9.n v o:=fun h9 prev k9=>ta L X hj k9 hlen
 have hb3: ∀(h9:H),Bk h9 lb (l.flatMap jpC)→Ct P0 E F K 119 [.slc lb 0 l.length (Ac+7),.int .u8 ((3:Nat):Int),.int .u64 ((0:Nat):Int)] h9 fun v h'=>K0 h9 h'∧ ∃o,BestP (l.map (·.1)) 3 none o∧RO (l.map (·.1)) h' h9.n v o:=fun h9 k9=>tc L X hj k9 hlen
 have hjP: ∀p∈l.map (·.1),p.1.Jr:=by
  intro p hp
  obtain⟨x,hx,rfl⟩:=List.mem_map.1 hp
  exact hj x hx
 have heP: ∀p∈l.map (·.1),p.2.length≤100:=by
  intro p hp
  obtain⟨x,hx,rfl⟩:=List.mem_map.1 hp
  exact hes x hx
 have hgetP: ∀j x,l[j]?=some x→Dw (l.map (·.1)) j=x.1.2:=fun j x hx=>Sq hx
 have hgetL: ∀(j:Nat) (p:JP),(l.map (·.1))[j]?=some p→ ∀x:JP×AV,l[j]?=some x→x.1=p:=by
  intro j p hp x hx
  rw [List.getElem?_map,hx]at hp
  simpa using hp
 have hlP:(l.map (·.1)).length=l.length:=List.length_map _
 generalize hP:l.map (·.1)=P at*
 refine Ao L X.f64 X.k64 rfl rfl fun Q x cs G=>?_
 refine wk ?_
 refine cal (c:=hb3 _ (by exact lkp)) (g:=?_)
 rintro xv0 h3 ⟨w2,o1,b1,r1⟩
 have n3:=w2.n
 simp only [Ah]at n3
 have loop: ∀(h5:H) (is5:Bool) (o5:Rec) (xv5:AV) (lq:List (Nat×Option AV)),K0 h h5→Bk h5 h.n [.nils,.int .u64 ((0:Nat):Int),.nils]→Bk h5 (h.n+1) [.nils,.int .u64 ((0:Nat):Int),.nils]→Bk h5 (h.n+2) (Dp l.length [])→StartP P (if is5=true then some o5 else none)→RO P h5 (h.n+3) xv5 (if is5=true then some o5 else none)→
   TSub (tms [(5,some xv5),(4,some (.slc (h.n+2) 0 l.length l.length)),(3,some (.ptr (h.n+1) 0)),(2,some (.ptr h.n 0)),(0,some (.slc lb 0 l.length (Ac+7)))]) (tms lq)→Good P0 E Q ⟨⟨64,cf64.ntmps,tms lq,[.code c64_31,.inBlock 0,.code c64_50],[],.run,false,none⟩,x::cs,h5⟩:=by
  intro h5 is5 o5 xv5 lq k5 z2 z3 z4 hst hro ht5
  have hs0:is5=true→isK P o5∧full P o5=true:=fun e=>by rw [if_pos e]at hst;exact K3 hst
  have hch: ∀(h9:H) (is:Bool) (o:Rec) (xv:AV),RO P h9 (h.n+3) xv (if is=true then some o else none)→ChR h9 (h.n+3) h.n .nils xv [] (if is=true then nI (Al P o)else []):=by
   intro h9 is o xv q
   refine⟨.inl ⟨rfl,rfl⟩,?_,fun _ _ _ _ _ _ e=>by cases e⟩
   cases is with
   |false=>exact .inl ⟨rfl,q⟩
   |true=>
    obtain⟨q1,q2⟩:=q
    rcases q1.ex with⟨e,_⟩|⟨e1,b,e2,e3,e4⟩
    ·rw [e]at q2;exact absurd q2 (Nat.lt_irrefl _)
    ·exact .inr ⟨e1,b,e2,e3,e4,by omega⟩
  refine sj L (bd:=c64_30) (α:= List Rec×Bool×Rec×AV×AV) (T:=fun s=> [(5,some s.2.2.2.2),(4,some (.slc (h.n+2) 0 l.length l.length)),(3,some (.ptr (h.n+1) 0)),(2,some (.ptr h.n 0)),(0,some (.slc lb 0 l.length (Ac+7)))]) (mu:=fun s=>muF P s.2.1 s.2.2.1)
   (R:=fun s h6=>K0 h h6∧ChR h6 (h.n+3) h.n s.2.2.2.1 s.2.2.2.2 (chE P s.1) (if s.2.1=true then nI (Al P s.2.2.1)else [])∧Bk h6 (h.n+1) [s.2.2.2.1,.int .u64 ((chL s.1:Nat):Int),.nils]∧Bk h6 (h.n+2) (Dp l.length (chU P s.1))∧Bk h6 h.n [.nils,.int .u64 ((0:Nat):Int),.nils]∧
    (∀tl,RunP P (if s.2.1=true then some s.2.2.1 else none) tl→RunP P (if is5=true then some o5 else none) (s.1++tl))∧(s.2.1=true→isK P s.2.2.1∧full P s.2.2.1=true)∧s.1.length+muF P s.2.1 s.2.2.1≤P.length∧ ∀k∈s.1,full P k=true)
   ([],is5,o5,.nils,xv5) ht5 ⟨k5,hch _ _ _ _ hro,z3,z4,z2,fun _ q=>q,hs0,(by simpa using mw P is5 o5),fun k hk=>by cases hk⟩ ?_
  rintro⟨ks,is,o,v1,xv⟩ h6 ⟨j1,j2,j3,j4,jz,j5,j6,j7,j8⟩ ih
  simp only at j2 j3 j4 j5 j6 j7 j8 ih
  have l6:=j1.n
  have l7:=j4.lt
  cases is with
  |false=>
   have hrun:=j5 [] .none
   rw [List.append_nil]at hrun
   obtain⟨c1,c2,c3,c4⟩:=K4 hjP hst hrun
   rw [if_neg (by simp)]at j2
   have hxv:xv= .nils:=by
    rcases j2.u with⟨_,e⟩|⟨e,_⟩
    ·exact e
    ·cases e
   subst hxv
   have hE:EL h6 (h.n+3) v1 (chE P ks):=by
    rcases j2.e with⟨f1,f2⟩|⟨f1,b1,f2,f3,f4,f5⟩
    ·exact⟨.inl ⟨f1,f2⟩⟩
    ·exact⟨.inr ⟨List.length_pos_iff.1 f1,b1,f2,f3,f4⟩⟩
   refine wk ?_
   refine V7 L X (h:=h) (n:=l.length) (lst:=chL ks) (us:=chU P ks) (es:=chE P ks) (v1:=v1) hlen (by exact kps) (by exact lkp) (by exact lkp) (by exact lkp) (hE.k0 kps) G (fun v2 h' q1 q2 q3=>⟨_,ks,v1,v2,rfl,hst,hrun,q2,?_,q3⟩) tsb
   rw [←og (n:=l.length) c2 (fun j hj=>by rw [←hlP];exact c3 j hj)];exact q1
  |true=>
   obtain⟨hk,hf⟩:=j6 rfl
   have hok:=Qy hjP hk
   have hfl:=L3 hf
   have bU:=Oy ks j8
   have bU2:ks.length*P.length≤100*100:=Nat.mul_le_mul (by omega) (by omega)
   rw [if_pos rfl]at j2
   have hul:(nI (Al P o)).length=o.2.2.2:=by unfold nI;rw [List.length_map,D4]
   rcases j2.u with⟨e,_⟩|⟨u1,xb,rfl,u3,u4,u5⟩
   ·rw [e]at hul;have:o.2.2.2=0:=hul.symm;omega
   refine wk ?_
   refine Bb L (α:= AV) (T:=fun i v1=> [(6,some (AI ((i:Nat):Int))),(5,some (.slc xb 0 (nI (Al P o)).length (Ac+1))),(4,some (.slc (h.n+2) 0 l.length l.length)),(3,some (.ptr (h.n+1) 0)),(2,some (.ptr h.n 0)),(0,some (.slc lb 0 l.length (Ac+7)))]) (n:=o.2.2.2)
    (R:=fun i v1 h7=>K0 h h7∧Bk h7 (h.n+1) [v1,.int .u64 (((if i=0 then chL ks else o.2.1+i - 1):Nat):Int),.nils]∧Bk h7 (h.n+2) (Dp l.length (chU P ks++(Al P o).take i))∧ChR h7 (h.n+3) h.n v1 (.slc xb 0 (nI (Al P o)).length (Ac+1)) (chE P ks++((Al P o).take i).flatMap (Dw P)) (nI (Al P o))∧Bk h7 h.n [.nils,.int .u64 ((0:Nat):Int),.nils]) (i0:=0) v1 tsb
    ⟨j1,by exact j3,by simp only [List.take_zero,List.append_nil];exact j4,by simp only [List.take_zero,List.flatMap_nil,List.append_nil];exact j2,jz⟩ (Nat.zero_le _) ?_ ?_
   ·rintro i v1 h7 hi ⟨t1,t2,t3,t4,t5⟩ ih2
    have n7:=t1.n
    have lt3:=t3.lt
    obtain⟨jj,hj1,hj2⟩:=L2 hf hi
    have hjl:=T7 hj1
    have hjl2:jj<l.length:=by omega
    obtain⟨pp,hp1,_,hp3,_⟩:=mq hjP hj1
    have hx:l[jj]?=some l[jj]:=List.getElem?_eq_getElem hjl2
    have hm:=List.getElem_mem hjl2
    have hel:=hl0 _ hm
    have hes1:=hes _ hm
    have hdt:=Bj l (G6 l) jj _ hx
    have ee:=hgetP jj _ hx
    have epp:=hgetL jj pp hp1 _ hx
    rw [←epp]at hp3
    generalize l[jj]=y at*
    obtain⟨⟨s,es⟩,v⟩:=y
    simp only at hel ee hes1 hp3
    have e1:(Al P o).take (i+1)=(Al P o).take i++ [jj]:=by rw [List.take_add_one,hj2];rfl
    have e2:chE P ks++((Al P o).take (i+1)).flatMap (Dw P)=(chE P ks++((Al P o).take i).flatMap (Dw P))++es:=by rw [e1,List.flatMap_append,←List.append_assoc];simp [ee]
    have e3:Dp l.length (chU P ks++(Al P o).take (i+1))=(Dp l.length (chU P ks++(Al P o).take i)).set jj (.bool true):=by rw [S4 hjl2,e1,List.append_assoc]
    have e4:(if i+1=0 then chL ks else o.2.1+(i+1) - 1)=s.seq:=by rw [if_neg (by omega),hp3];omega
    have bE:(chE P ks++((Al P o).take i).flatMap (Dw P)).length≤2000000:=by
     have h1:=Hx heP ((Al P o).take i)
     have h2:=Hx heP (chU P ks)
     rw [←Q2]at h2
     have h3:((Al P o).take i).length≤100:=by rw [List.length_take];omega
     rw [List.length_append]
     omega
    have hxi:((nI (Al P o)).map AI)[i]?=some (AI ((jj:Nat):Int)):=by
     unfold nI
     rw [List.getElem?_map,List.getElem?_map,hj2];rfl
    have hulen:=H0 l.length (chU P ks++(Al P o).take i)
    have ih3:=fun(v1':AV) (h':H) (l':List (Nat×Option AV)) (a1:K0 h h') (a2:Bk h' (h.n+1) [v1',.int .u64 ((s.seq:Nat):Int),.nils]) (a3:Bk h' (h.n+2) ((Dp l.length (chU P ks++(Al P o).take i)).set jj (.bool true))) (a4:ChR h' (h.n+3) h.n v1' (.slc xb 0 (nI (Al P o)).length (Ac+1)) ((chE P ks++((Al P o).take i).flatMap (Dw P))++es) (nI (Al P o))) (a5:Bk h' h.n [.nils,.int .u64 ((0:Nat):Int),.nils])
     (t:TSub (tms [(6,some (AI ((i+1:Nat):Int))),(5,some (.slc xb 0 (nI (Al P o)).length (Ac+1))),(4,some (.slc (h.n+2) 0 l.length l.length)),(3,some (.ptr (h.n+1) 0)),(2,some (.ptr h.n 0)),(0,some (.slc lb 0 l.length (Ac+7)))]) (tms l'))=>
     ih2 v1' h' l' ⟨a1,by rw [e4];exact a2,by rw [e3];exact a3,by rw [e2];exact a4,a5⟩ t
    clear ih2 e1 e2 e3 e4
    generalize chE P ks++((Al P o).take i).flatMap (Dw P)=ES at*
    generalize Dp l.length (chU P ks++(Al P o).take i)=UC at*
    generalize (if i=0 then chL ks else o.2.1+i - 1)=lst at*
    have hv6:(l.flatMap jpC)[jj*7+6]?=some v:=by
     have:=congrArg (fun r=>r[6]?) hdt.2
     simp only [List.getElem?_take_of_lt (show 6<7 by omega),List.getElem?_drop]at this
     exact this
    have hv2:(l.flatMap jpC)[jj*7+0+2]?=some (.int .u64 ((s.seq:Nat):Int)):=by
     have:=congrArg (fun r=>r[2]?) hdt.2
     simp only [List.getElem?_take_of_lt (show 2<7 by omega),List.getElem?_drop]at this
     exact this
    have kl8:Bk h7 lb (l.flatMap jpC):=Aj t1 kl
    rcases t4.u with⟨e,_⟩|⟨u1',xb',xe,u3',_,_⟩
    ·rw [e]at hul;have:o.2.2.2=0:=hul.symm;omega
    simp only [AV.slc.injEq]at xe
    obtain⟨rfl,-⟩:=xe
    have lxb:=u3'.lt
    rcases hel.len with⟨rfl,rfl⟩|⟨g1,eb,rfl,g3,g4⟩
    ·rw [List.append_nil]at ih3
     rcases t4.e with⟨rfl,rfl⟩|⟨m1,b1,rfl,m3,m4,m5⟩
     ·refine wk ?_
      refine ih3 _ _ _ (by exact kps) (by exact lkp) (by exact lkp) ?_ (by exact lkp) tsb
      exact⟨.inl ⟨rfl,rfl⟩,.inr ⟨u1,xb,rfl,(by exact lkp),u4,u5⟩,fun _ _ _ _ _ _ p1 p2=>by cases p1⟩
     ·have lm:=m3.lt
      have hdd:=t4.d _ _ _ _ _ _ rfl rfl
      refine wk ?_
      refine ih3 _ _ _ (by exact kps) (by exact lkp) (by exact lkp) ?_ (by exact lkp) tsb
      exact⟨.inr ⟨m1,b1,rfl,(by exact lkp),m4,m5⟩,.inr ⟨u1,xb,rfl,(by exact lkp),u4,u5⟩,fun _ _ _ _ _ _ p1 p2=>by cases p1;cases p2;omega⟩
    ·have gk:Bk h7 eb (es.flatMap An):=Aj t1 g3
     have gl:=g3.lt
     rcases t4.e with⟨rfl,rfl⟩|⟨m1,b1,rfl,m3,m4,m5⟩
     ·refine wk ?_
      (apply B5 L rfl rfl;exact D8 (new:=es.flatMap An) rfl rfl (Jq lkp) g1 (by omega))
      refine wk ?_
      refine ih3 _ _ _ (by exact kps) (by exact lkp) (by exact lkp) ?_ (by exact lkp) tsb
      exact⟨.inr ⟨g1,_,rfl,(by exact lkp),(by omega),(by omega)⟩,.inr ⟨u1,xb,rfl,(by exact lkp),u4,u5⟩,fun _ _ _ _ _ _ p1 p2=>by cases p1;cases p2;omega⟩
     ·have lm:=m3.lt
      have hdd:=t4.d _ _ _ _ _ _ rfl rfl
      refine wk ?_
      (apply B5 L rfl rfl;exact C2 (old:=ES.flatMap An) (new:=es.flatMap An) rfl rfl (Jq lkp) (Jq lkp) g1 (by omega) (Dx _))
      refine wk ?_
      refine ih3 _ _ _ (by exact kps) (by exact lkp) (by exact lkp) ?_ (by exact lkp) tsb
      exact⟨.inr ⟨(by rw [List.length_append];omega),_,(Js List.length_append.symm),(by rw [List.flatMap_append];exact lkp),(by omega),(by omega)⟩,.inr ⟨u1,xb,rfl,(by exact lkp),u4,u5⟩,fun _ _ _ _ _ _ p1 p2=>by cases p1;cases p2;omega⟩
   ·rintro v1 h7 ⟨t1,t2,t3,t4,t5⟩
    have htk:(Al P o).take o.2.2.2=Al P o:=by rw [←D4 P o,List.take_length]
    rw [htk]at t3 t4
    have hlst:(if o.2.2.2=0 then chL ks else o.2.1+o.2.2.2 - 1)=Hd o:=by rw [if_neg (by omega)];rfl
    rw [hlst]at t2
    have n7:=t1.n
    have lt3:=t3.lt
    refine wk ?_
    refine cal (c:=hb2 _ (Hd o) (Aj (by exact kps) kl)) (g:=?_)
    rintro xv' h8 ⟨w3,o',b2,r2⟩
    have n8:=w3.n
    try simp only [Ah]at n8 r2
    have hE7:EL h7 (h.n+3) v1 (chE P ks++(Al P o).flatMap (Dw P)):=by
     rcases t4.e with⟨f1,f2⟩|⟨f1,b1,f2,f3,f4,f5⟩
     ·exact⟨.inl ⟨f1,f2⟩⟩
     ·exact⟨.inr ⟨List.length_pos_iff.1 f1,b1,f2,f3,f4⟩⟩
    have hnew: ∀h9 (is:Bool) (o2:Rec),K0 h7 h9→RO P h9 h7.n xv' (if is=true then some o2 else none)→ChR h9 (h.n+3) h.n v1 xv' (chE P ks++(Al P o).flatMap (Dw P)) (if is=true then nI (Al P o2)else []):=by
     intro h9 is o2 k9 q
     refine⟨(t4.kp (S:=fun _=>False) k9 (fun b _ _ f=>f)).e,?_,?_⟩
     ·cases is with
      |false=>exact .inl ⟨rfl,q⟩
      |true=>
       obtain⟨q1,q2⟩:=q
       rcases q1.ex with⟨e,_⟩|⟨e1,b,e2,e3,e4⟩
       ·rw [e]at q2;exact absurd q2 (Nat.lt_irrefl _)
       ·exact .inr ⟨e1,b,e2,e3,by omega,by omega⟩
     ·intro b1 m1 c1 b2 m2 c2 p1 p2 e
      have hb1:b1<h7.n:=by
       rcases t4.e with⟨_,f2⟩|⟨_,b,f2,f3,_⟩
       ·rw [f2]at p1;cases p1
       ·rw [f2]at p1;cases p1;exact f3.lt
      cases is with
      |false=>
       have q':xv'= .nils:=q
       rw [q']at p2;cases p2
      |true=>
       obtain⟨q1,q2⟩:=q
       rcases q1.ex with⟨_,f2⟩|⟨_,b,f2,f3,f4⟩
       ·rw [f2]at p2;cases p2
       ·rw [f2]at p2;cases p2;omega
    cases o' with
    |none=>
     have hmu:=Xv (is:=false) (o':=o) hjP hk (by simpa using b2)
     refine wk ?_
     refine ih (ks++ [o],false,o,v1,xv') _ _ hmu ⟨by exact kps,?_,?_,?_,by exact lkp,fun tl r=>?_,(fun e=>by cases e),?_,fun k hk2=>?_⟩ tsb
     ·simp only [Qz]
      exact hnew _ false o (by exact kps) (RO.k0 (o:=none) r2 (by exact kps))
     ·simp only [Q1];exact lkp
     ·simp only [Q0];exact lkp
     ·simp only
      rw [List.append_assoc];exact j5 (o::tl) (by rw [if_pos rfl];exact .some b2 (by simpa using r))
     ·simp only [List.length_append,List.length_cons,List.length_nil];omega
     ·rcases List.mem_append.1 hk2 with e|e
      ·exact j8 _ e
      ·rw [List.mem_singleton.1 e];exact hf
    |some k'=>
     have hmu:=Xv (is:=true) (o':=k') hjP hk (by simpa using b2)
     refine wk ?_
     refine ih (ks++ [o],true,k',v1,xv') _ _ hmu ⟨by exact kps,?_,?_,?_,by exact lkp,fun tl r=>?_,fun e=>Hw b2,?_,fun k hk2=>?_⟩ tsb
     ·simp only [Qz]
      exact hnew _ true k' (by exact kps) (RO.k0 (o:=some k') r2 (by exact kps))
     ·simp only [Q1];exact lkp
     ·simp only [Q0];exact lkp
     ·simp only
      rw [List.append_assoc];exact j5 (o::tl) (by rw [if_pos rfl];exact .some b2 (by simpa using r))
     ·simp only [List.length_append,List.length_cons,List.length_nil];omega
     ·rcases List.mem_append.1 hk2 with e|e
      ·exact j8 _ e
      ·rw [List.mem_singleton.1 e];exact hf
 have hr1: ∀h9 xv o m,K0 h3 h9→RO P h3 m xv o→h.n+3≤m→RO P h9 (h.n+3) xv o:=by
  intro h9 xv o m k9 q hm
  have q':=q.k0 k9
  cases o with
  |none=>exact q'
  |some k=>exact⟨RowN.mono q'.1 hm,q'.2⟩
 have hu0:=Zr l.length
 cases o1 with
 |some k=>
  have r1':RowN h3 _ xv0 (nI (Al P k))∧_:=r1
  rcases r1'.1.ex with⟨e,_⟩|⟨e1,b,rfl,e3,e4⟩
  ·rw [e]at r1';exact absurd r1'.2 (Nat.lt_irrefl _)
  refine wk ?_
  exact loop _ true k _ _ (by exact kps) (by exact lkp) (by exact lkp) (by rw [←hu0];exact lkp) ⟨some k,b1,rfl⟩ (hr1 _ _ (some k) _ (by exact kps) r1 (by simp only [Ah];omega)) (by exact tsb)
 |none=>
  obtain rfl:xv0= .nils:=r1
  refine wk ?_
  refine cal (c:=hb2 _ 0 (by exact lkp)) (g:=?_)
  rintro xv4 h4 ⟨w3,o2,b2,r2⟩
  have n4:=w3.n
  simp only [Ah]at n4 r2
  cases o2 with
  |none=>
   obtain rfl:xv4= .nils:=r2
   refine wk ?_
   exact loop _ false (0,0,0,0) _ _ (by exact kps) (by exact lkp) (by exact lkp) (by rw [←hu0];exact lkp) ⟨none,b1,b2⟩ rfl (by exact tsb)
  |some k=>
   refine wk ?_
   exact loop _ true k _ _ (by exact kps) (by exact lkp) (by exact lkp) (by rw [←hu0];exact lkp) ⟨none,b1,b2⟩ ⟨RowN.mono (RowN.k0 r2.1 (by exact kps)) (by omega),r2.2⟩ (by exact tsb)
end
end
section
variable {P0:Program}{E:Env}{F:T CFn}{K:T (List AV×AV)}(L:Lg P0 E F K)(X:Fx F K)
include L X
section
variable {κ: Nat→Nat}{h:H}{D:Dv}
omit L X in
theorem oh {D:Dv}(ok:D.Ok){i j:Nat}(hi:i<D.nb)(hj:j<D.P):((D.bl i).pg j).st≠1↔j<(D.bl i).nx:=by
 constructor
 ·intro h
  refine Nat.lt_of_not_le fun q=>h ((ok.bl i hi).hi j q hj)
 ·intro h
  exact(ok.bl i hi).lo j h
omit L X in
theorem V8 {sz:Nat}{l:List (PgE×Nat)}{i j:Nat}{y:PgE×Nat}(hx:l[i]?=some y)(hj:j<8):(l.flatMap (peR sz))[i*8+j]?=(peR sz y)[j]?:=
 Dd (k:=8) l (fun _ _=>rfl) i j y hx hj
omit L X in
theorem S5 {p:PgE→Bool}{LL:List PgE}{i:Nat}{x:PgE}(hx:LL[i]?=some x):((LL.take (i+1)).filter p).length=((LL.take i).filter p).length+(if p x=true then 1 else 0):=by
 rw [List.take_add_one,hx,List.filter_append,List.length_append]
 congr 1
 simp only [Option.toList_some,List.filter_cons,List.filter_nil]
 split <;> rfl
omit L X in
theorem L7 {p:PgE→Bool}{LL:List PgE}(i:Nat):((LL.take i).filter p).length≤LL.length:=
 Nat.le_trans (List.length_filter_le _ _) (by rw [List.length_take];omega)
theorem X5 {rv:List AV}(r:RDev κ h D rv):Ct P0 E F K 17 [.agg rv] h fun v h'=>v=Ug D∧K0 h h':=by
 obtain⟨hok,fb,pb,eb,ecap,cp,ce,rfl,hecap,rdc⟩:=r
 have r:RDev κ h D (rvC D fb pb eb ecap):=⟨hok,fb,pb,eb,ecap,cp,ce,rfl,hecap,rdc⟩
 have hP:=hok.g.P
 have hnb:=hok.g.nb
 have hsz:=hok.g.sz
 have hpl:=C8 hok
 cases hoff:D.off with
 |true=>
  have eo:rvC D fb pb eb ecap=rvL D.nb D.P D.sz D.en fb pb eb ecap D.n D.cut D.byt true:=by unfold rvC;rw [hoff]
  rw [eo]
  refine Ao L X.f17 X.k17 rfl rfl fun Q x cs G=>?_
  refine wk ?_
  refine ret X.f17 ?_
  refine⟨?_,kps⟩
  unfold Ug nv
  rw [if_pos hoff,Jo hoff];rfl
 |false=>
 have eo:rvC D fb pb eb ecap=rvL D.nb D.P D.sz D.en fb pb eb ecap D.n D.cut D.byt false:=by unfold rvC;rw [hoff]
 rw [eo]at r ⊢
 have hvv: ∀(h9:H),Bk h9 h.n (rvL D.nb D.P D.sz D.en fb pb eb ecap D.n D.cut D.byt false)→K0 h h9→
   ∀(Q:Nat→AV→Prop) (x:AFr) (cs:List AFr) (lq:List (Nat×Option AV)),(∀v h',(v=Ug D∧K0 h h')→GO P0 E Q (finish v cs h' x))→TSub (tms [(12,some (AI ((0:Nat):Int))),(7,some (AI ((0:Nat):Int))),(6,some (AI ((((Ab D).filter isJ).length:Nat):Int))),(5,some (AI ((((Ab D).filter Bm).length:Nat):Int))),(1,some (.ptr h.n 0))]) (tms lq)→
   Good P0 E Q ⟨⟨17,cf17.ntmps,tms lq,[.code c17_54,.inBlock 2,.code c17_58],[],.run,false,none⟩,x::cs,h9⟩:=by
  intro h9 k9 kk Q x cs lq G ht
  have hd1:=List.length_filter_le Bm (Ab D)
  have hd2:=List.length_filter_le isJ (Ab D)
  refine Bb L (bd:=c17_53) (α:= Unit) (T:=fun i _=> [(12,some (AI ((i:Nat):Int))),(7,some (AI ((sumNx D i:Nat):Int))),(6,some (AI ((((Ab D).filter isJ).length:Nat):Int))),(5,some (AI ((((Ab D).filter Bm).length:Nat):Int))),(1,some (.ptr h.n 0))]) (n:=D.nb)
   (R:=fun _ _ h2=>K0 h9 h2) (i0:=0) () ht (Kp.refl _) (Nat.zero_le _) ?_ ?_
  ·rintro i _ h2 hi w1 ih
   have k2:=Aj w1 k9
   have k2':=k2
   unfold rvL at k2'
   have hs:=Ju hok i (by omega)
   have hs2:i*D.P≤6*6:=Nat.mul_le_mul (by omega) (by omega)
   have hnx:=(hok.bl i hi).nx
   refine wk ?_
   refine Bb L (α:= Unit) (T:=fun j _=> [(13,some (AI ((j:Nat):Int))),(12,some (AI ((i:Nat):Int))),(7,some (AI ((sumNx D i+min j (D.bl i).nx:Nat):Int))),(6,some (AI ((((Ab D).filter isJ).length:Nat):Int))),(5,some (AI ((((Ab D).filter Bm).length:Nat):Int))),(1,some (.ptr h.n 0))]) (n:=D.P)
    (R:=fun _ _ h3=>K0 h2 h3) (i0:=0) () (by simp only [Nat.zero_min,Nat.add_zero];exact tsb) (Kp.refl _) (Nat.zero_le _) ?_ ?_
   ·rintro j _ h3 hj w2 ih2
    have k3:=Aj w2 k2'
    have kk3:K0 h h3:=Kp.tr0 w2 (Kp.tr0 w1 kk)
    have hm:=oh hok hi hj
    refine wk ?_
    refine cal (c:=Hn L X (fb:=fb) (pb:=pb) (eb:=eb) (ecap:=ecap) (sz:=D.sz) (en:=D.en) (n:=D.n) (cut:=D.cut) (byt:=D.byt) (off:=false) (rdc.fw (Kp.fw0 kk3)) hok hi hj) (g:=?_)
    rintro _ h4 ⟨rfl,w3⟩
    by_cases hst:((D.bl i).pg j).st=1
    ·have e1:min (j+1) (D.bl i).nx=min j (D.bl i).nx:=by
      have: ¬j<(D.bl i).nx:=fun q=>(hm.2 q) hst
      omega
     rw [e1]at ih2
     rw [hst]
     refine wk ?_
     exact ih2 () _ _ (by exact kps) tsb
    ·have e1:sumNx D i+min (j+1) (D.bl i).nx=sumNx D i+min j (D.bl i).nx+1:=by
      have:=hm.1 hst
      omega
     rw [e1]at ih2
     refine wk ?_
     exact ih2 () _ _ (by exact kps) tsb
   ·rintro _ h3 w2
    have k3:=Aj w2 k2'
    have e1:sumNx D i+min D.P (D.bl i).nx=sumNx D (i+1):=by
     show _=sumNx D i+(D.bl i).nx
     omega
    rw [e1]
    refine wk ?_
    exact ih () _ _ (by exact kps) tsb
  ·rintro _ h2 w1
   have k2':=Aj w1 k9
   unfold rvL at k2'
   have hs:=Ju hok D.nb (Nat.le_refl _)
   have hs2:D.nb*D.P≤6*6:=Nat.mul_le_mul (by omega) (by omega)
   refine wk ?_
   refine ret X.f17 ?_
   refine⟨?_,kps⟩
   unfold Ug nv
   rw [if_neg (by rw [hoff];simp)];rfl
 refine Ao L X.f17 X.k17 rfl rfl fun Q x cs G=>?_
 refine wk ?_
 refine cal (c:=Q8 L X (D:=D) (κ:= κ) (r.fw (Kp.fw0 (by exact kps)))) (g:=?_)
 rintro lv h2 ⟨w1,w2⟩
 have n2:=w2.n
 simp only [Ah]at n2
 have kr:Bk h2 h.n (rvL D.nb D.P D.sz D.en fb pb eb ecap D.n D.cut D.byt false):=by exact lkp
 obtain⟨l,hlm,q1,q2⟩:=w1.ex
 have hll:(Ab D).length=l.length:=by rw [←hlm,List.length_map]
 rcases q2 with⟨rfl,rfl⟩|⟨q3,lb,rfl,q4,q5⟩
 ·refine wk ?_
  refine A4 L ?_
  refine wk ?_
  have e0:Ab D= []:=by rw [←hlm];rfl
  refine hvv _ (by exact lkp) (by exact kps) Q x cs _ G (by rw [e0];exact tsb)
 refine wk ?_
 refine Bb L (α:= Unit) (T:=fun i _=> [(9,some (AI ((i:Nat):Int))),(8,some (.slc lb 0 l.length (Ac+8))),(7,some (AI ((0:Nat):Int))),(6,some (AI (((((Ab D).take i).filter isJ).length:Nat):Int))),(5,some (AI (((((Ab D).take i).filter Bm).length:Nat):Int))),(1,some (.ptr h.n 0))]) (n:=l.length)
  (R:=fun _ _ h3=>K0 h2 h3) (i0:=0) () tsb (Kp.refl _) (Nat.zero_le _) ?_ ?_
 ·rintro i _ h3 hi w3 ih
  have hx:l[i]?=some l[i]:=List.getElem?_eq_getElem hi
  have hxp:(Ab D)[i]?=some (l[i]).1:=by rw [←hlm,List.getElem?_map,hx];rfl
  have f1:=S5 (p:=isJ) hxp
  have f2:=S5 (p:=Bm) hxp
  have g1:=L7 (p:=isJ) (LL:=Ab D) i
  have g2:=L7 (p:=Bm) (LL:=Ab D) i
  obtain⟨r1,r2,r3⟩:=q1 _ (List.getElem_mem hi)
  have hk1:=V8 (sz:=D.sz) (j:=1) hx (by omega)
  have hk7:=V8 (sz:=D.sz) (j:=7) hx (by omega)
  rw [f1,f2]at ih
  generalize ((Ab D).take i).filter isJ=la at*
  generalize ((Ab D).take i).filter Bm=lb' at*
  have q4':=Aj w3 q4
  have r1':=r1.k0 w3
  generalize l[i]=y at*
  obtain⟨⟨pa,s,data⟩,db⟩:=y
  simp only at r1' r3 ih
  have hk1':(l.flatMap (peR D.sz))[i*8+1+0]?=some (.int .u8 ((s.kind:Nat):Int)):=hk1
  have hk7':(l.flatMap (peR D.sz))[i*8+7]?=some (.slc db 0 D.sz (Ac+1)):=hk7
  by_cases hkd:s.kind=1
  ·have e1:Bm ⟨pa,s,data⟩=true:=by unfold Bm;exact decide_eq_true hkd
   have e2:isJ ⟨pa,s,data⟩=false:=by unfold isJ;rw [e1];rfl
   rw [if_neg (show¬isJ ⟨pa,s,data⟩=true by rw [e2];simp),if_pos e1,Nat.add_zero]at ih
   refine wk ?_
   exact ih () _ _ (by exact kps) tsb
  ·have e1:Bm ⟨pa,s,data⟩=false:=by unfold Bm;exact decide_eq_false hkd
   rw [if_neg (show¬Bm ⟨pa,s,data⟩=true by rw [e1];simp),Nat.add_zero]at ih
   refine wk ?_
   refine cal (c:=Zk L X (bs:=data) (by exact lkb) r3 (by omega)) (g:=?_)
   rintro _ h4 ⟨⟨u,e,rfl,x1,x2,x3⟩,x4⟩
   have e2:isJ ⟨pa,s,data⟩=(B2 data).isSome:=by unfold isJ;rw [e1];rfl
   rw [e2]at ih
   by_cases he:e=0
   ·rw [if_pos (x2.1 he)]at ih
    subst he
    refine wk ?_
    exact ih () _ _ (by exact kps) tsb
   ·rw [if_neg (fun q=>he (x2.2 q)),Nat.add_zero]at ih
    refine wk ?_
    exact ih () _ _ (by exact kps) tsb
 ·rintro _ h3 w3
  have e1:(Ab D).take l.length=Ab D:=by rw [←hll,List.take_length]
  have kr3:=Aj w3 kr
  rw [e1]
  refine wk ?_
  refine hvv _ (by exact lkp) (by exact kps) Q x cs _ G tsb
end
end
section
variable {P0:Program}{E:Env}{F:T CFn}{K:T (List AV×AV)}(L:Lg P0 E F K)(X:Fx F K)
include L X
section
variable {κ: Nat→Nat}{h:H}{D:Dv}
theorem X6 {sz:Nat}{lv:AV}{LL:List PgE}{e:Ent}(q:PL κ h sz peR lv LL)(hL:LL.length≤100):Ct P0 E F K 66 [lv,.agg (An e)] h fun v h'=>v= .bool (Bz LL e)∧K0 h h':=by
 obtain⟨l,rfl,q1,q2⟩:=q.ex
 have hlen:l.length≤100:=by simpa using hL
 obtain⟨ea,ep⟩:=e
 show Ct P0 E F K 66 [lv,.agg [AI ea,AI ep]] h _
 rcases q2 with⟨rfl,rfl⟩|⟨q3,lb,rfl,q4,q5⟩
 ·refine Af L X.f66 X.k66 rfl rfl fun Q x cs G=>?_
  refine wk ?_
  refine A4 L ?_
  refine wk ?_
  refine ret X.f66 ?_
  exact⟨rfl,kps⟩
 have l1:=q4.lt
 refine Af L X.f66 X.k66 rfl rfl fun Q x cs G=>?_
 refine wk ?_
 refine Bb L (α:= Unit) (T:=fun i _=> [(5,some (AI ((i:Nat):Int))),(3,some (.ptr h.n 0)),(0,some (.slc lb 0 l.length (Ac+8)))]) (n:=l.length)
  (R:=fun i _ h2=>K0 h h2∧Bk h2 h.n [AI ea,AI ep]∧ ∀j y,j<i→l[j]?=some y→((y.1.at_:Nat):Int)≠ep) (i0:=0) () tsb ⟨kps,lkp,fun j y hj=>absurd hj (Nat.not_lt_zero _)⟩ (Nat.zero_le _) ?_ ?_
 ·rintro i _ h2 hi ⟨w1,w2,w3⟩ ih
  have hx:l[i]?=some l[i]:=List.getElem?_eq_getElem hi
  have hk0:=V8 (sz:=sz) (j:=0) hx (by omega)
  have hk1:=V8 (sz:=sz) (j:=1) hx (by omega)
  have hk2:=V8 (sz:=sz) (j:=2) hx (by omega)
  have gb:=Aj w1 q4
  have n2:=w1.n
  have l2:=w2.lt
  have hnext:((l[i]).1.at_:Int)≠ep→ ∀j y,j<i+1→l[j]?=some y→((y.1.at_:Nat):Int)≠ep:=by
   intro q j y hj hy
   by_cases e:j=i
   ·subst e;rw [hx]at hy;cases hy;exact q
   ·exact w3 j y (by omega) hy
  have hres:((l[i]).1.at_:Int)=ep→Bz (l.map (·.1)) (ea,ep)=(Bm (l[i]).1 && decide ((l[i]).1.s.sec=ea)):=by
   intro q
   unfold Bz
   have:(l.map (·.1)).find? (fun x=>decide (((x.at_:Nat):Int)=ep))=some (l[i]).1:=by
    rw [List.find?_eq_some_iff_getElem]
    refine⟨by simpa using q,i,by rw [List.length_map];exact hi,by rw [List.getElem_map],fun j hj=>?_⟩
    have:=w3 j _ hj (List.getElem?_eq_getElem (by omega))
    rw [List.getElem_map]
    simpa using this
   rw [this]
  generalize l[i]=y at*
  obtain⟨⟨pa,s,data⟩,db⟩:=y
  simp only at hnext hres
  have hk0':(l.flatMap (peR sz))[i*8+0]?=some (AI ((pa:Nat):Int)):=hk0
  have hk1':(l.flatMap (peR sz))[i*8+1+0]?=some (.int .u8 ((s.kind:Nat):Int)):=hk1
  have hk2':(l.flatMap (peR sz))[i*8+1+1]?=some (AI s.sec):=hk2
  by_cases c1:((pa:Nat):Int)=ep
  rotate_left
  ·refine wk ?_
   exact ih () _ _ ⟨by exact kps,by exact lkp,hnext c1⟩ tsb
  rw [hres c1]at G
  by_cases c2:s.kind=1
  rotate_left
  ·rw [show(Bm ⟨pa,s,data⟩ && decide (s.sec=ea))=false by unfold Bm;rw [decide_eq_false c2];rfl]at G
   refine wk ?_
   refine ret X.f66 ?_
   exact⟨rfl,kps⟩
  by_cases c3:s.sec=ea
  ·rw [show(Bm ⟨pa,s,data⟩ && decide (s.sec=ea))=true by unfold Bm;rw [decide_eq_true c2,decide_eq_true c3];rfl]at G
   refine wk ?_
   refine ret X.f66 ?_
   exact⟨rfl,kps⟩
  ·rw [show(Bm ⟨pa,s,data⟩ && decide (s.sec=ea))=false by unfold Bm;rw [decide_eq_true c2,decide_eq_false c3];rfl]at G
   refine wk ?_
   refine ret X.f66 ?_
   exact⟨rfl,kps⟩
 ·rintro _ h2 ⟨w1,w2,w3⟩
  have e1:Bz (l.map (·.1)) (ea,ep)=false:=by
   unfold Bz
   have:(l.map (·.1)).find? (fun x=>decide (((x.at_:Nat):Int)=ep))=none:=by
    rw [List.find?_eq_none]
    intro x hx
    obtain⟨y,hy,rfl⟩:=List.mem_map.1 hx
    obtain⟨j,hj⟩:=List.mem_iff_getElem?.1 hy
    have:=w3 j y (List.getElem?_eq_some_iff.1 hj).1 hj
    simpa using this
   rw [this]
  rw [e1]at G
  have n2:=w1.n
  refine wk ?_
  refine ret X.f66 ?_
  exact⟨rfl,kps⟩
theorem Rb {Q:Nat→AV→Prop}{x:AFr}{cs:List AFr}{fb pb eb ecap:Nat}{cp ce:List AV}{post:AV→H→Prop}(ok:D.Ok)(rdc:RDevC κ h D pb eb cp ce){hh:H}{b2 b4 b9 ub lo last next:Nat}{ev:AV}{es:List Ent}{bs:List Nat}
  (w:K0 h hh) (k2:Bk hh b2 (rvL D.nb D.P D.sz D.en fb pb eb ecap D.n D.cut D.byt false)) (k4:Bk hh b4 [.nils,.int .u64 ((0:Nat):Int),.int .u64 ((0:Nat):Int),.nils,.nils]) (k9:Bk hh b9 [ev,.int .u64 ((last:Nat):Int),.int .u64 ((next:Nat):Int),.nils,.nils]) (ku:Bk hh ub (Dp D.nb bs)) (hb:h.n≤b2∧b2<b4∧b4<b9∧b9<ub) (hev:EL hh lo ev es) (hlo:b4<lo) (hev9: ∀n c,ev≠ .slc b9 0 n c)
  (G: ∀v h',post v h'→GO P0 E Q (finish v cs h' x))
  (hp1: ∀v2 v3 h',RowN h' h.n v2 (jrn D bs D.nb)→RowN h' h.n v3 (drt D bs D.nb)→EL h' h.n ev es→K0 h h'→post (.tup [.agg [ev,.int .u64 ((last:Nat):Int),.int .u64 ((next:Nat):Int),v2,v3],AI ((0:Nat):Int)]) h')
  {lq:List (Nat×Option AV)} (ht:TSub (tms [(20,some (AI ((0:Nat):Int))),(18,some (.slc ub 0 D.nb D.nb)),(9,some (.ptr b9 0)),(4,some (.ptr b4 0)),(2,some (.ptr b2 0))]) (tms lq)):
  Good P0 E Q ⟨⟨15,cf15.ntmps,tms lq,[.code c15_102,.inBlock 6,.code c15_106],[],.run,false,none⟩,x::cs,hh⟩:=by
 have n0:=w.n
 have lku:=ku.lt
 have hnb:=ok.g.nb
 have hP:=ok.g.P
 have k2u:=k2
 unfold rvL at k2u
 refine Bb L (bd:=c15_101) (α:= AV×AV) (T:=fun i _=> [(20,some (AI ((i:Nat):Int))),(18,some (.slc ub 0 D.nb D.nb)),(9,some (.ptr b9 0)),(4,some (.ptr b4 0)),(2,some (.ptr b2 0))]) (n:=D.nb)
  (R:=fun i s h2=>Kp (fun j=>j=b9) hh h2∧ChI h2 hh.n s.1 s.2 (jrn D bs i) (drt D bs i)∧Bk h2 b9 [ev,.int .u64 ((last:Nat):Int),.int .u64 ((next:Nat):Int),s.1,s.2]) (i0:=0) (.nils,.nils) ht ⟨Kp.refl _,⟨.inl ⟨rfl,rfl⟩,.inl ⟨rfl,rfl⟩,fun _ _ _ _ _ _ e=>by cases e⟩,k9⟩ (Nat.zero_le _) ?_ ?_
 ·rintro i ⟨v1,v2⟩ h2 hi ⟨w1,w2,w3⟩ ih
  simp only at w2 w3
  have n2:=w1.n
  have l3:=w3.lt
  have hbl:=Ue D bs i
  have k2':=A5 w1 (by omega) k2u
  have ku':=A5 w1 (by omega) ku
  have hg:=Kc (us:=bs) hi
  have kk:K0 h h2:=Kp.trS w1 (fun i hi e=>by omega) w
  have ih2:=fun(v1' v2':AV) (h':H) (l':List (Nat×Option AV)) (a1:Kp (fun j=>j=b9) hh h') (a2:ChI h' hh.n v1' v2' (jrn D bs i++(if i∈bs then [((i:Nat):Int)]else [])) (drt D bs i++(if i∉bs∧0<(D.bl i).nx then [((i:Nat):Int)]else []))) (a3:Bk h' b9 [ev,.int .u64 ((last:Nat):Int),.int .u64 ((next:Nat):Int),v1',v2'])
   (t:TSub (tms [(20,some (AI ((i+1:Nat):Int))),(18,some (.slc ub 0 D.nb D.nb)),(9,some (.ptr b9 0)),(4,some (.ptr b4 0)),(2,some (.ptr b2 0))]) (tms l'))=>ih (v1',v2') h' l' ⟨a1,by simp only;rw [Vz,V0];exact a2,a3⟩ t
  clear ih
  generalize jrn D bs i=js at*
  generalize drt D bs i=ds at*
  by_cases hb:i∈bs
  ·rw [if_pos hb,if_neg (show¬(i∉bs∧0<(D.bl i).nx) from fun q=>q.1 hb),List.append_nil]at ih2
   rw [decide_eq_true hb]at hg
   rcases w2.e with⟨rfl,rfl⟩|⟨e1,b1,rfl,e3,e4⟩
   ·refine wk ?_
    (apply st1 L rfl;exact D8 (new:= [AI ((i:Nat):Int)]) rfl rfl (B7 lkp) (by omega) (by omega);rfl)
    refine wk ?_
    refine ih2 _ _ _ _ (by exact kps) ?_ (by exact lkp) tsb
    refine⟨.inr ⟨by simp,_,rfl,(by exact lkp),(by omega)⟩,(w2.kp (S:=fun j=>j=b9) (by exact kps) (fun b hb e=>by omega)).u,fun b1 n1 c1 b2 n2 c2 p1 p2=>?_⟩
    cases p1
    rcases w2.u with⟨_,f2⟩|⟨_,b',f2,f3,_⟩
    ·rw [f2]at p2;cases p2
    ·rw [f2]at p2;cases p2;have:=f3.lt;omega
   ·have l5:=e3.lt
    refine wk ?_
    (apply st1 L rfl;exact C2 (old:=js.map AI) (new:= [AI ((i:Nat):Int)]) rfl rfl (Iy lkp) (B7 lkp) (by omega) (by omega) rfl;rfl)
    refine wk ?_
    refine ih2 _ _ _ _ (by exact kps) ?_ (by exact lkp) tsb
    refine⟨.inr ⟨by simp,_,(Js (by rw [List.length_append];rfl)),(by rw [List.map_append];exact lkp),(by omega)⟩,?_,fun b1 n1 c1 b2 n2 c2 p1 p2=>?_⟩
    ·rcases w2.u with f|⟨f1,b',f2,f3,f4⟩
     ·exact .inl f
     ·have:=f3.lt
      have:=w2.d _ _ _ _ _ _ rfl f2
      exact .inr ⟨f1,b',f2,by exact lkp,f4⟩
    ·cases p1
     rcases w2.u with⟨_,f2⟩|⟨_,b',f2,f3,_⟩
     ·rw [f2]at p2;cases p2
     ·rw [f2]at p2;cases p2;have:=f3.lt;omega
  ·rw [if_neg hb,List.append_nil]at ih2
   rw [decide_eq_false hb]at hg
   have hm:=oh ok hi (show 0<D.P by omega)
   refine wk ?_
   refine cal (c:=Hn L X (fb:=fb) (pb:=pb) (eb:=eb) (ecap:=ecap) (sz:=D.sz) (en:=D.en) (n:=D.n) (cut:=D.cut) (byt:=D.byt) (off:=false) (j:=0) (rdc.fw (Kp.fw0 kk)) ok hi (by omega)) (g:=?_)
   rintro _ h3 ⟨rfl,w4⟩
   have n3:=w4.n
   try simp only [Ah]at n3
   have w2:=w2.kp (S:=fun _=>False) w4 (fun b _ f=>f)
   by_cases hx:0<(D.bl i).nx
   ·have hst:=hm.2 hx
    rw [if_pos (show i∉bs∧0<(D.bl i).nx from⟨hb,hx⟩)]at ih2
    rcases w2.u with⟨rfl,rfl⟩|⟨e1,b1,rfl,e3,e4⟩
    ·refine wk ?_
     (apply st1 L rfl;exact D8 (new:= [AI ((i:Nat):Int)]) rfl rfl (B7 lkp) (by omega) (by omega);rfl)
     refine wk ?_
     refine ih2 _ _ _ _ (by exact kps) ?_ (by exact lkp) tsb
     refine⟨(w2.kp (S:=fun j=>j=b9) (by exact kps) (fun b hb e=>by omega)).e,.inr ⟨by simp,_,rfl,(by exact lkp),(by omega)⟩,fun b1 n1 c1 b2 n2 c2 p1 p2=>?_⟩
     cases p2
     rcases w2.e with⟨_,f2⟩|⟨_,b',f2,f3,_⟩
     ·rw [f2]at p1;cases p1
     ·rw [f2]at p1;cases p1;have:=f3.lt;omega
    ·have l5:=e3.lt
     refine wk ?_
     (apply st1 L rfl;exact C2 (old:=ds.map AI) (new:= [AI ((i:Nat):Int)]) rfl rfl (Iy lkp) (B7 lkp) (by omega) (by omega) rfl;rfl)
     refine wk ?_
     refine ih2 _ _ _ _ (by exact kps) ?_ (by exact lkp) tsb
     refine⟨?_,.inr ⟨by simp,_,(Js (by rw [List.length_append];rfl)),(by rw [List.map_append];exact lkp),(by omega)⟩,fun b1 n1 c1 b2 n2 c2 p1 p2=>?_⟩
     ·rcases w2.e with f|⟨f1,b',f2,f3,f4⟩
      ·exact .inl f
      ·have:=f3.lt
       have:=w2.d _ _ _ _ _ _ f2 rfl
       exact .inr ⟨f1,b',f2,by exact lkp,f4⟩
     ·cases p2
      rcases w2.e with⟨_,f2⟩|⟨_,b',f2,f3,_⟩
      ·rw [f2]at p1;cases p1
      ·rw [f2]at p1;cases p1;have:=f3.lt;omega
   ·have hst:((D.bl i).pg 0).st=1:=Classical.byContradiction fun q=>hx (hm.1 q)
    rw [hst]
    rw [if_neg (show¬(i∉bs∧0<(D.bl i).nx) from fun q=>hx q.2),List.append_nil]at ih2
    refine wk ?_
    refine ih2 _ _ _ _ (by exact kps) ?_ (by exact lkp) tsb
    exact w2.kp (S:=fun j=>False) (by exact kps) (fun b hb e=>e)
 ·rintro⟨v1,v2⟩ h2 ⟨w1,w2,w3⟩
  simp only at w2 w3
  have n2:=w1.n
  have k2':=A5 w1 (by omega) k2u
  have k4':=A5 w1 (by omega) k4
  have l3:=w3.lt
  have l4:=k4'.lt
  have hE2:EL h2 lo ev es:=hev.keep w1 (fun b n c e e2=>by subst e2;exact hev9 _ _ e)
  have hp2:As [ev,.int .u64 ((last:Nat):Int),.int .u64 ((next:Nat):Int),v1,v2]=true:=by
   have a1:=hev.plain.2
   have a2:=w2.plain.1
   have a3:=w2.plain.2
   show(match Az ev with|true=>(match Az v1 with|true=>(match Az v2 with|true=>true|false=>false)|false=>false)|false=>false)=true
   rw [a1,a2,a3]
  have kk:K0 h h2:=Kp.trS w1 (fun i hi e=>by omega) w
  refine wk ?_
  (apply stS L rfl rfl rfl rfl rfl hp2;exact lkp;rfl;rfl)
  refine wk ?_
  refine ret X.f15 ?_
  apply hp1 v1 v2
  ·rcases w2.e with⟨e1,rfl⟩|⟨e1,b1,rfl,e3,e4⟩
   ·exact⟨.inl ⟨e1,rfl⟩⟩
   ·exact⟨.inr ⟨e1,b1,rfl,by exact lkp,by omega⟩⟩
  ·rcases w2.u with⟨e1,rfl⟩|⟨e1,b1,rfl,e3,e4⟩
   ·exact⟨.inl ⟨e1,rfl⟩⟩
   ·exact⟨.inr ⟨e1,b1,rfl,by exact lkp,by omega⟩⟩
  ·exact(hE2.kS (S:=fun j=>j=b4) (by exact kps) (fun b hb e=>by omega)).mono (by omega)
  ·exact kps
theorem V9 {Q:Nat→AV→Prop}{x:AFr}{cs:List AFr}{fb pb eb ecap:Nat}{cp ce:List AV}{post:AV→H→Prop}(ok:D.Ok)(rdc:RDevC κ h D pb eb cp ce){hh:H}{b2 b4 b9 b16 ub lo last next:Nat}{ev atv v1 v2:AV}{es:List Ent}{zs as_:List Int}{bz:Int→Nat}
  (w:K0 h hh) (k2:Bk hh b2 (rvL D.nb D.P D.sz D.en fb pb eb ecap D.n D.cut D.byt false)) (k4:Bk hh b4 [.nils,.int .u64 ((0:Nat):Int),.int .u64 ((0:Nat):Int),.nils,.nils]) (k9:Bk hh b9 [ev,.int .u64 ((last:Nat):Int),.int .u64 ((next:Nat):Int),.nils,.nils]) (k16:Bk hh b16 [v1,.int .u64 ((last:Nat):Int),v2]) (ku:Bk hh ub (Dp D.nb [])) (hb:h.n≤b2∧b2<b4∧b4<b9∧b9<ub∧b16<ub) (hev:EL hh lo ev es) (hlo:b4<lo) (hev9: ∀n c,ev≠ .slc b9 0 n c)
  (hv2:RowN hh (h.n) v2 zs) (hat:RowN hh (h.n) atv as_) (hne: ∀n c,v2≠ .slc ub 0 n c) (hna: ∀n c,atv≠ .slc ub 0 n c) (hne2: ∀n c,ev≠ .slc ub 0 n c) (hz: ∀z∈zs,∃j:Nat,z=((j:Nat):Int)∧as_[j]?=some (((bz z:Nat):Int))∧bz z<D.nb) (hl:zs.length≤100) (hla:as_.length≤100)
  (G: ∀v h',post v h'→GO P0 E Q (finish v cs h' x))
  (hp1: ∀v2 v3 h',RowN h' h.n v2 (jrn D (zs.map bz) D.nb)→RowN h' h.n v3 (drt D (zs.map bz) D.nb)→EL h' h.n ev es→K0 h h'→post (.tup [.agg [ev,.int .u64 ((last:Nat):Int),.int .u64 ((next:Nat):Int),v2,v3],AI ((0:Nat):Int)]) h')
  {lq:List (Nat×Option AV)} (ht:TSub (tms [(19,some (AI ((0:Nat):Int))),(18,some (.slc ub 0 D.nb D.nb)),(16,some (.ptr b16 0)),(11,some atv),(9,some (.ptr b9 0)),(4,some (.ptr b4 0)),(2,some (.ptr b2 0))]) (tms lq)):
  Good P0 E Q ⟨⟨15,cf15.ntmps,tms lq,[.code c15_83,.inBlock 4,.code c15_107],[],.run,false,none⟩,x::cs,hh⟩:=by
 have n0:=w.n
 have lku:=ku.lt
 have hnb:=ok.g.nb
 have k2u:=k2
 unfold rvL at k2u
 refine Bb L (bd:=c15_82) (α:= Unit) (T:=fun i _=> [(19,some (AI ((i:Nat):Int))),(18,some (.slc ub 0 D.nb D.nb)),(16,some (.ptr b16 0)),(11,some atv),(9,some (.ptr b9 0)),(4,some (.ptr b4 0)),(2,some (.ptr b2 0))]) (n:=zs.length)
  (R:=fun i _ h2=>Kp (fun j=>j=ub) hh h2∧Bk h2 ub (Dp D.nb ((zs.take i).map bz))) (i0:=0) () ht ⟨Kp.refl _,ku⟩ (Nat.zero_le _) ?_ ?_
 ·rintro i _ h2 hi ⟨w1,w2⟩ ih
  have n2:=w1.n
  have l3:=w2.lt
  have hx:zs[i]?=some zs[i]:=List.getElem?_eq_getElem hi
  obtain⟨j,hj1,hj2,hj3⟩:=hz _ (List.getElem_mem hi)
  have e1:Dp D.nb ((zs.take (i+1)).map bz)=(Dp D.nb ((zs.take i).map bz)).set (bz zs[i]) (.bool true):=by
   rw [S4 hj3,List.take_add_one,hx,List.map_append];rfl
  have hxv:(zs.map AI)[i]?=some (AI ((j:Nat):Int)):=by rw [List.getElem?_map,hx,hj1];rfl
  have hav:(as_.map AI)[j]?=some (AI ((bz zs[i]:Nat):Int)):=by rw [List.getElem?_map,hj2];rfl
  have hjl:j<as_.length:=(List.getElem?_eq_some_iff.1 hj2).1
  have hul:=H0 D.nb ((zs.take i).map bz)
  rw [e1]at ih
  generalize Dp D.nb ((zs.take i).map bz)=UC at*
  generalize bz zs[i]=bb at*
  have k16':=A5 w1 (by omega) k16
  rcases hv2.ex with⟨rfl,_⟩|⟨_,vb,rfl,hu1,_⟩
  ·exact absurd hi (Nat.not_lt_zero _)
  have hvn:vb≠ub:=fun e=>hne _ _ (by rw [e])
  have hu':=A5 w1 hvn hu1
  rcases hat.ex with⟨rfl,_⟩|⟨_,ab,rfl,ha1,_⟩
  ·exact absurd hjl (Nat.not_lt_zero _)
  have han:ab≠ub:=fun e=>hna _ _ (by rw [e])
  have ha':=A5 w1 han ha1
  refine wk ?_
  refine ih () _ _ ⟨by exact kps,by exact lkp⟩ tsb
 ·rintro _ h2 ⟨w1,w2⟩
  rw [List.take_length]at w2
  have n2:=w1.n
  have k16':=A5 w1 (by omega) k16
  have kk:K0 h h2:=Kp.trS w1 (fun i hi e=>by omega) w
  have k2':=A5 w1 (by omega) k2
  have hE2:EL h2 lo ev es:=hev.keep w1 (fun b n c e e2=>by subst e2;exact hne2 _ _ e)
  rcases hv2.ex with⟨rfl,rfl⟩|⟨_,vb,rfl,hu1,_⟩
  ·refine wk ?_
   exact Rb L X ok rdc (h:=h) (b2:=b2) (b4:=b4) (b9:=b9) (ub:=ub) (lo:=lo) (es:=es) (bs:= [].map bz) kk k2' (A5 w1 (by omega) k4) (A5 w1 (by omega) k9) w2 (by omega) hE2 hlo hev9 G hp1 (by exact tsb)
  ·refine wk ?_
   exact Rb L X ok rdc (h:=h) (b2:=b2) (b4:=b4) (b9:=b9) (ub:=ub) (lo:=lo) (es:=es) (bs:=zs.map bz) kk k2' (A5 w1 (by omega) k4) (A5 w1 (by omega) k9) w2 (by omega) hE2 hlo hev9 G hp1 (by exact tsb)
end
end
section
variable {P0:Program}{E:Env}{F:T CFn}{K:T (List AV×AV)}(L:Lg P0 E F K)(X:Fx F K)
include L X
section
variable {κ: Nat→Nat}{h:H}{D:Dv}
theorem dw {Q:Nat→AV→Prop}{x:AFr}{cs:List AFr}{κ':Nat→Nat}{fb pb eb ecap sz:Nat}{cp ce:List AV}{post:AV→H→Prop}(ok:D.Ok)(rdc:RDevC κ h D pb eb cp ce){hh:H}{b2 b4 b6 b9 b16 lo last next S:Nat}{lv mv atv v1 v2:AV}{ls:List Ent}{LL:List PgE}{zs as_:List Int}{bz:Int→Nat}
  (w:K0 h hh) (k2:Bk hh b2 (rvL D.nb D.P D.sz D.en fb pb eb ecap D.n D.cut D.byt false)) (k4:Bk hh b4 [.nils,.int .u64 ((0:Nat):Int),.int .u64 ((0:Nat):Int),.nils,.nils]) (k6:Bk hh b6 [AI ((S:Nat):Int),AI ((D.nb:Nat):Int),AI ((D.P:Nat):Int),mv]) (k9:Bk hh b9 [.nils,.int .u64 ((0:Nat):Int),.int .u64 ((next:Nat):Int),.nils,.nils]) (k16:Bk hh b16 [v1,.int .u64 ((last:Nat):Int),v2])
  (hb:h.n≤b2∧b2<b4∧b4<b6∧b6<b9∧b9<b16) (hev:EL hh lo mv ls) (hlo:b16<lo) (q:PL κ' hh sz peR lv LL) (hL:LL.length≤100) (hls:ls.length≤1000)
  (hv2:RowN hh (b9+1) v2 zs) (hat:RowN hh (b9+1) atv as_) (hz: ∀z∈zs,∃j:Nat,z=((j:Nat):Int)∧as_[j]?=some (((bz z:Nat):Int))∧bz z<D.nb) (hl:zs.length≤100) (hla:as_.length≤100)
  (G: ∀v h',post v h'→GO P0 E Q (finish v cs h' x)) (bad: ¬(∀e∈ls,Bz LL e=true)→ ∀h',K0 h h'→post (.tup [.agg [.nils,.int .u64 ((0:Nat):Int),.int .u64 ((0:Nat):Int),.nils,.nils],AI ((6:Nat):Int)]) h')
  (hp1:(∀e∈ls,Bz LL e=true)→ ∀v2 v3 h',RowN h' h.n v2 (jrn D (zs.map bz) D.nb)→RowN h' h.n v3 (drt D (zs.map bz) D.nb)→EL h' h.n mv ls→K0 h h'→post (.tup [.agg [mv,.int .u64 ((last:Nat):Int),.int .u64 ((next:Nat):Int),v2,v3],AI ((0:Nat):Int)]) h')
  {lq:List (Nat×Option AV)} (ht:TSub (tms [(17,some (AI ((0:Nat):Int))),(16,some (.ptr b16 0)),(11,some atv),(9,some (.ptr b9 0)),(8,some lv),(6,some (.ptr b6 0)),(4,some (.ptr b4 0)),(2,some (.ptr b2 0))]) (tms lq)):
  Good P0 E Q ⟨⟨15,cf15.ntmps,tms lq,[.code c15_69,.inBlock 2,.code c15_110],[],.run,false,none⟩,x::cs,hh⟩:=by
 have n0:=w.n
 have l16:=k16.lt
 have hnb:=ok.g.nb
 have k2u:=k2
 unfold rvL at k2u
 have hm:ls.length=0∨ ∃b,mv= .slc b 0 ls.length (Ac+2)∧Bk hh b (ls.flatMap An)∧lo≤b:=by
  rcases hev.ex with⟨rfl,_⟩|⟨_,h3⟩
  ·exact .inl rfl
  ·exact .inr h3
 have fin: ∀(h2:H) (lr:List (Nat×Option AV)),K0 hh h2→(∀e∈ls,Bz LL e=true)→TSub (tms [(16,some (.ptr b16 0)),(11,some atv),(9,some (.ptr b9 0)),(8,some lv),(6,some (.ptr b6 0)),(4,some (.ptr b4 0)),(2,some (.ptr b2 0))]) (tms lr)→Good P0 E Q ⟨⟨15,cf15.ntmps,tms lr,[.code c15_72,.code c15_109],[],.run,false,none⟩,x::cs,hp h2.n h2.t []⟩:=by
  intro h2 lr w1 hall kt
  refine Oc L kt ?_
  have n2:=w1.n
  have k2':=Aj w1 k2u
  have k4':=Aj w1 k4
  have k6':=Aj w1 k6
  have k9':=Aj w1 k9
  have k16':=Aj w1 k16
  have p1:=hev.plain
  have hu0:=Zr D.nb
  refine wk ?_
  (apply Qh L rfl rfl rfl rfl p1.1 rfl (by simp only [As,p1.2]);exact lkp;rfl;intro h9 hs9;(apply Au rfl rfl;exact opv);apply p_0;(apply Ay rfl rfl opv rfl rfl);(apply Ay rfl rfl (ng rfl hs9 (by exact lkp) rfl) rfl rfl);exact Cr;refine Od L hs9 ?_)
  have rE:=fun h9 (k9:Kp (fun j=>j=b9) h2 h9)=>EL.kS (S:=fun j=>j=b9) (hev.k0 w1) k9 (fun b hb e=>by omega)
  have l2:=hv2.bd
  have l3:=hat.bd
  have le: ∀b n c,mv= .slc b 0 n c→b<hh.n:=by
   intro b n c e
   rcases hev.ex with⟨_,f⟩|⟨_,b',f,f2,_⟩
   ·rw [f]at e;cases e
   ·rw [f]at e;cases e;exact f2.lt
  rcases hv2.ex with⟨ez,rfl⟩|⟨ez,vb,rfl,_,_⟩
  ·refine wk ?_
   refine V9 L X ok rdc (h:=h) (b2:=b2) (b4:=b4) (b9:=b9) (b16:=b16) (lo:=lo) (es:=ls) (zs:=zs) (as_:=as_) (bz:=bz) (last:=last) (next:=next) (by exact kps) (by exact lkp) (by exact lkp) (by exact lkp) (by exact lkp) (by rw [←hu0];exact lkp) (by omega) (rE _ (by exact kps)) (by omega) (fun n c e=>?_) (RowN.mono (RowN.kq hv2 (S:=fun j=>j=b9) (by exact kps) (fun b hb e=>by omega)) (by omega)) (RowN.mono (RowN.kq hat (S:=fun j=>j=b9) (by exact kps) (fun b hb e=>by omega)) (by omega)) (fun n c e=>by have:=l2 _ _ _ e;omega) (fun n c e=>by have:=l3 _ _ _ e;omega) (fun n c e=>by have:=le _ _ _ e;omega) hz hl hla G (hp1 hall) (by exact tsb)
   rcases hev.ex with⟨_,f⟩|⟨_,b',f,f2,f3⟩
   ·rw [f]at e;cases e
   ·rw [f]at e;cases e;omega
  ·refine wk ?_
   refine V9 L X ok rdc (h:=h) (b2:=b2) (b4:=b4) (b9:=b9) (b16:=b16) (lo:=lo) (es:=ls) (zs:=zs) (as_:=as_) (bz:=bz) (last:=last) (next:=next) (by exact kps) (by exact lkp) (by exact lkp) (by exact lkp) (by exact lkp) (by rw [←hu0];exact lkp) (by omega) (rE _ (by exact kps)) (by omega) (fun n c e=>?_) (RowN.mono (RowN.kq hv2 (S:=fun j=>j=b9) (by exact kps) (fun b hb e=>by omega)) (by omega)) (RowN.mono (RowN.kq hat (S:=fun j=>j=b9) (by exact kps) (fun b hb e=>by omega)) (by omega)) (fun n c e=>by have:=l2 _ _ _ e;omega) (fun n c e=>by have:=l3 _ _ _ e;omega) (fun n c e=>by have:=le _ _ _ e;omega) hz hl hla G (hp1 hall) (by exact tsb)
   rcases hev.ex with⟨_,f⟩|⟨_,b',f,f2,f3⟩
   ·rw [f]at e;cases e
   ·rw [f]at e;cases e;omega
 refine Bb L (bd:=c15_68) (α:= Unit) (T:=fun i _=> [(17,some (AI ((i:Nat):Int))),(16,some (.ptr b16 0)),(11,some atv),(9,some (.ptr b9 0)),(8,some lv),(6,some (.ptr b6 0)),(4,some (.ptr b4 0)),(2,some (.ptr b2 0))]) (n:=ls.length)
  (R:=fun i _ h2=>K0 hh h2∧ ∀j e,j<i→ls[j]?=some e→Bz LL e=true) (i0:=0) () ht ⟨Kp.refl _,fun j e hj=>absurd hj (Nat.not_lt_zero _)⟩ (Nat.zero_le _) ?_ ?_
 ·rintro i _ h2 hi ⟨w1,w2⟩ ih
  have n2:=w1.n
  rcases hm with e|⟨b,rfl,gb,glo⟩
  ·omega
  have hx:ls[i]?=some ls[i]:=List.getElem?_eq_getElem hi
  obtain⟨x1,x2⟩:=K5 hx
  have k4':=Aj w1 k4
  have k6':=Aj w1 k6
  have gb':=Aj w1 gb
  have hnext:Bz LL ls[i]=true→ ∀j e,j<i+1→ls[j]?=some e→Bz LL e=true:=by
   intro q j e hj he
   by_cases e1:j=i
   ·subst e1;rw [hx]at he;cases he;exact q
   ·exact w2 j e (by omega) he
  have hno:Bz LL ls[i]=false→ ¬ ∀e∈ls,Bz LL e=true:=by
   intro q f
   rw [f _ (List.getElem_mem hi)]at q;cases q
  generalize ls[i]=y at*
  refine wk ?_
  refine cal (c:=X6 L X (e:=y) (q.fw (Kp.fw0 (by exact kps))) hL) (g:=?_)
  rintro _ h3 ⟨rfl,w4⟩
  have n3:=w4.n
  try simp only [Ah]at n3
  cases hh9:Bz LL y with
  |true=>
   refine wk ?_
   exact ih () _ _ ⟨by exact kps,hnext hh9⟩ tsb
  |false=>
   refine wk ?_
   refine ret X.f15 ?_
   exact bad (hno hh9) _ (by exact kps)
 ·rintro _ h2 ⟨w1,w2⟩
  have k6':=Aj w1 k6
  have hall: ∀e∈ls,Bz LL e=true:=by
   intro e he
   obtain⟨j,hj⟩:=List.mem_iff_getElem?.1 he
   exact w2 j e (List.getElem?_eq_some_iff.1 hj).1 hj
  rcases hev.ex with⟨e1,rfl⟩|⟨_,b,rfl,_,_⟩
  ·subst e1
   refine Br L 1000 rfl ?_
   (apply st1 L rfl;(apply Bp rfl;exact lkp;rfl);rfl)
   (apply st1 L rfl;exact Xa rfl rfl (Nat.le_refl _);rfl)
   refine fin h2 _ w1 hall ?_;exact tsb
  ·refine Br L 1000 rfl ?_
   (apply st1 L rfl;(apply Bp rfl;exact lkp;rfl);rfl)
   (apply st1 L rfl;exact Xa rfl rfl (Nat.le_refl _);rfl)
   refine fin h2 _ w1 hall ?_;exact tsb
end
end
section
variable {P0:Program}{E:Env}{F:T CFn}{K:T (List AV×AV)}(L:Lg P0 E F K)(X:Fx F K)
include L X
section
variable {κ: Nat→Nat}{h:H}{D:Dv}
omit L X in
def atI (P:Nat)(LL:List PgE):List Int:=(LL.filter isJ).map fun x=>((x.at_ / P:Nat):Int)
omit L X in
theorem Zs (P:Nat)(LL:List PgE):(atI P LL).length=(jps LL).length:=by unfold atI jps;rw [List.length_map,List.length_map]
omit L X in
theorem oj {P:Nat}{LL:List PgE}{i:Nat}{x:PgE}(hx:LL[i]?=some x):atI P (LL.take (i+1))=atI P (LL.take i)++(if isJ x=true then [((x.at_ / P:Nat):Int)]else []):=by
 unfold atI
 rw [List.take_add_one,hx,List.filter_append,List.map_append]
 simp only [Option.toList_some,List.filter_cons,List.filter_nil]
 split <;> rfl
omit L X in
theorem om {LL:List PgE}{i:Nat}{x:PgE}(hx:LL[i]?=some x):jps (LL.take (i+1))=jps (LL.take i)++(if isJ x=true then [L4 x]else []):=by
 unfold jps
 rw [List.take_add_one,hx,List.filter_append,List.map_append]
 simp only [Option.toList_some,List.filter_cons,List.filter_nil]
 split <;> rfl
omit L X in
structure JA (h:H)(lo:Nat)(pv atv:AV)(L:List JP)(us:List Int):Prop where
 ex: ∃l:List (JP×AV),l.map (·.1)=L∧l.length=us.length∧(∀x∈l,EL h lo x.2 x.1.2)∧((l= []∧pv= .nils∧atv= .nils)∨(0<l.length∧ ∃b a,pv= .slc b 0 l.length (Ac+7)∧atv= .slc a 0 us.length (Ac+1)∧Bk h b (l.flatMap jpC)∧Bk h a (us.map AI)∧lo≤b∧lo≤a∧a≠b∧ ∀x∈l,∀b' n c,x.2= .slc b' 0 n c→b'≠b∧b'≠a))
omit L X in
theorem JA.kp {h h':H}{lo:Nat}{S:Nat→Prop}{pv atv:AV}{L:List JP}{us:List Int}(q:JA h lo pv atv L us)(k:Kp S h h')(hs: ∀b,lo≤b→ ¬S b):JA h' lo pv atv L us:=by
 obtain⟨l,h1,h2,h3,h4⟩:=q.ex
 refine⟨l,h1,h2,fun x hx=>(h3 x hx).kS k hs,?_⟩
 rcases h4 with h4|⟨g,b,a,e1,e2,e3,e4,e5,e6,e7,e8⟩
 ·exact .inl h4
 ·exact .inr ⟨g,b,a,e1,e2,A5 k (hs b e5) e3,A5 k (hs a e6) e4,e5,e6,e7,e8⟩
omit L X in
theorem JA.at_ {h:H}{lo:Nat}{pv atv:AV}{L:List JP}{us:List Int}(q:JA h lo pv atv L us):RowN h lo atv us:=by
 obtain⟨l,h1,h2,h3,h4⟩:=q.ex
 rcases h4 with⟨rfl,_,rfl⟩|⟨g,b,a,e1,e2,e3,e4,e5,e6,e7,e8⟩
 ·exact⟨.inl ⟨List.length_eq_zero_iff.1 h2.symm,rfl⟩⟩
 ·exact⟨.inr ⟨by omega,a,e2,e4,e6⟩⟩
theorem Wa {Q:Nat→AV→Prop}{x:AFr}{cs:List AFr}{κ':Nat→Nat}{fb pb eb ecap Sn:Nat}{cp ce:List AV}(ok:D.Ok)(rdc:RDevC κ h D pb eb cp ce)(hS:1≤Sn∧Sn≤1000)(hoff:D.off=false)(hnb': ¬c8 (Ab D)){hh:H}{b2 b4 b6 b9:Nat}{lv pv atv:AV}
  (w:K0 h hh) (k2:Bk hh b2 (rvL D.nb D.P D.sz D.en fb pb eb ecap D.n D.cut D.byt false)) (k4:Bk hh b4 [.nils,.int .u64 ((0:Nat):Int),.int .u64 ((0:Nat):Int),.nils,.nils]) (k6:Bk hh b6 (mpV Sn D.nb D.P .nils)) (k9:Bk hh b9 [.nils,.int .u64 ((0:Nat):Int),.int .u64 ((Eu (Ab D):Nat):Int),.nils,.nils])
  (hb:h.n≤b2∧b2<b4∧b4<b6∧b6<b9) (q:PL κ' hh D.sz peR lv (Ab D)) (hc:κ' b6≠0) (ja:JA hh (b9+1) pv atv (jps (Ab D)) (atI D.P (Ab D)))
  (G: ∀v h',Fp D ((Sn:Nat):Int) h v h'→GO P0 E Q (finish v cs h' x))
  {lq:List (Nat×Option AV)} (ht:TSub (tms [(92,some pv),(11,some atv),(9,some (.ptr b9 0)),(8,some lv),(6,some (.ptr b6 0)),(4,some (.ptr b4 0)),(2,some (.ptr b2 0))]) (tms lq)):
  Good P0 E Q ⟨⟨15,cf15.ntmps,tms lq,[.ops [Cc 93 64 [.t 92],Cj 16 (.alloc [.nils,.int .u64 ((0:Nat):Int),.nils]),Cs 3 16 93],.code c15_113],[],.run,false,none⟩,x::cs,hh⟩:=by
 have n0:=w.n
 have hnb:=ok.g.nb
 have hP:=ok.g.P
 have l9:=k9.lt
 have hjm:=Zd ok hnb'
 have hjl:=Ze ok
 have hpl:=C8 ok
 unfold mpV at k6
 refine Oc L ht ?_
 have hF: ∀h9,K0 hh h9→Ct P0 E F K 64 [pv] h9 fun v h'=> ∃o ks v1 v2,v= .agg [v1,.int .u64 ((chL ks:Nat):Int),v2]∧StartP (jps (Ab D)) o∧RunP (jps (Ab D)) o ks∧EL h' h9.n v1 (chE (jps (Ab D)) ks)∧RowN h' h9.n v2 (Dk (nI (chU (jps (Ab D)) ks)))∧K0 h9 h':=by
  intro h9 k
  obtain⟨l,h1,h2,h3,h4⟩:=ja.ex
  rcases h4 with⟨rfl,rfl,_⟩|⟨g,b,a,rfl,_,e3,_⟩
  ·have e0:jps (Ab D)= []:=by rw [←h1];rfl
   rw [e0]
   refine(V6 L X).mono fun v h' p=>?_
   obtain⟨rfl,k'⟩:=p
   exact⟨none,[],.nils,.nils,rfl,⟨none,(fun k hk=>absurd hk (by unfold isK Ca;simp):BestP [] 3 none none),(fun k hk=>absurd hk (by unfold isK Ca;simp):BestP [] 2 (some 0) none)⟩,.none,EL.nil _ _,⟨.inl ⟨List.mergeSort_nil,rfl⟩⟩,k'⟩
  ·have hm: ∀x∈l,x.1∈jps (Ab D):=fun x hx=>by rw [←h1];exact List.mem_map_of_mem hx
   have hlen:l.length=(jps (Ab D)).length:=by rw [←h1,List.length_map]
   have:=X4 L X (h:=h9) (lo:=b9+1) (l:=l) (fun x hx=>(hjm _ (hm x hx)).1) (fun x hx=>(h3 x hx).k0 k) (Aj k e3) (by omega) (fun x hx=>by have:=(hjm _ (hm x hx)).2.2;omega)
   rw [h1]at this
   exact this
 refine cal (c:=hF _ (by exact kps)) (g:=?_)
 rintro _ h3 ⟨o,ks,v1,v2,rfl,y1,y2,y3,y4,y5⟩
 have n3:=y5.n
 obtain⟨b1,b2',b3,b4'⟩:=K4 (fun p hp=>(hjm p hp).1) y1 y2
 have bE:=mz (fun p hp=>(hjm p hp).2.2) ks
 have resS: ∀e f,na D ((Sn:Nat):Int) ks e f→ScanR D ((Sn:Nat):Int) e f:=fun e f g=> .inr (.inr (.inr ⟨by omega,hoff,hnb',o,ks,y1,y2,g⟩))
 have hjf:((Ab D).filter isJ).length=(jps (Ab D)).length:=by unfold jps;rw [List.length_map]
 have hpl3:As [v1,.int .u64 ((chL ks:Nat):Int),v2]=true:=by
  have a1:=y3.plain.2
  have a2:Az v2=true:=by
   rcases y4.ex with⟨_,rfl⟩|⟨_,b,rfl,_⟩ <;> rfl
  show(match Az v1 with|true=>(match Az v2 with|true=>true|false=>false)|false=>false)=true
  rw [a1,a2]
 have k6':=Aj y5 k6
 have l6:=k6.lt
 refine wk ?_
 (apply stS L rfl rfl rfl rfl rfl hpl3;exact lkp;rfl;rfl)
 refine wk ?_
 refine cal (c:=X3 L X (S:=Sn) (nb:=D.nb) (P:=D.P) hS hnb hP (y3.k0 (by exact kps)) (by omega)) (g:=?_)
 rintro _ h4 ⟨mv,e,rfl,w5,w6⟩
 have n4:=w5.n
 simp only [Ah]at n4
 have hplm:As [AI ((Sn:Nat):Int),AI ((D.nb:Nat):Int),AI ((D.P:Nat):Int),mv]=true:=by
  have:Az mv=true:=by
   rcases w6 with⟨_,_,ls,_,g,_⟩|⟨_,_,rfl,_⟩
   ·exact g.plain.2
   ·rfl
  show(match Az mv with|true=>true|false=>false)=true
  rw [this]
 refine wk ?_
 (apply stS L rfl rfl rfl rfl rfl hplm;exact lkp;rfl;rfl)
 rcases w6 with⟨rfl,a1,ls,a2,a3,a4⟩|⟨a1,_,rfl,a5⟩
 rotate_left
 ·refine wk ?_
  refine ret X.f15 ?_
  exact D9 (e:=6) (resS _ _ (.inl ⟨fun g=>a5 g.1,rfl,rfl⟩)) (by exact kps)
 refine wk ?_
 obtain⟨Dm,d1,d2⟩:=a2.dom
 have hg:(∀e∈ls,Bz (Ab D) e=true)↔ ∀s p,AE (chE (jps (Ab D)) ks) s=some p→Bz (Ab D) (s,p)=true:=by rw [d2];exact S2 d1
 have hus: ∀z∈Dk (nI (chU (jps (Ab D)) ks)),∃j:Nat,z=((j:Nat):Int)∧(atI D.P (Ab D))[j]?=some (((Hz (Ab D) D.P z:Nat):Int))∧Hz (Ab D) D.P z<D.nb:=by
  intro z hz
  rw [(F8 _).mem_iff]at hz
  obtain⟨j,hj,rfl⟩:=List.mem_map.1 hz
  have hjl2:j<((Ab D).filter isJ).length:=by rw [hjf];exact b3 j hj
  have hy:((Ab D).filter isJ)[j]?=some ((Ab D).filter isJ)[j]:=List.getElem?_eq_getElem hjl2
  have hmem:=List.getElem_mem hjl2
  have hbz:Hz (Ab D) D.P ((j:Nat):Int)=(((Ab D).filter isJ)[j]).at_ / D.P:=by
   unfold Hz
   rw [Int.toNat_natCast,hy]
  refine⟨j,rfl,?_,?_⟩
  ·unfold atI
   rw [List.getElem?_map,hy,hbz];rfl
  ·rw [hbz]
   exact T3 (G7 ok (List.mem_filter.1 hmem).1).lt
 have hul:(Dk (nI (chU (jps (Ab D)) ks))).length≤100:=by
  rw [Df];unfold nI;rw [List.length_map];omega
 have hatl:(atI D.P (Ab D)).length≤100:=by rw [Zs];omega
 refine dw L X ok rdc (h:=h) (sz:=D.sz) (κ':=κ') (b2:=b2) (b4:=b4) (b6:=b6) (b9:=b9) (b16:=h3.n) (lo:=h3.n+1) (S:=Sn) (last:=chL ks) (next:=Eu (Ab D)) (LL:=Ab D) (zs:=Dk (nI (chU (jps (Ab D)) ks))) (as_:=atI D.P (Ab D)) (bz:=Hz (Ab D) D.P) (ls:=ls) (by exact kps) (by exact lkp) (by exact lkp) (by exact lkp) (by exact lkp) (by exact lkp) (by omega) ?_ (by omega) ?_ (by omega) (by omega) ?_ ?_ hus hul hatl G (fun hno h' k=>D9 (e:=6) (resS _ _ (.inl ⟨fun g=>hno (hg.2 g.2),rfl,rfl⟩)) k) (fun hall v2 v3 h' r2 r3 re k=>?_) tsb
 ·exact(a3.kS (S:=fun j=>j=b6) (by exact kps) (fun b hb e=>by have hb':h3.n+1≤b:=hb;omega)).mono (by show h3.n+1≤h3.n+1;omega)
 ·exact q.fw (Kp.fw (κ:= κ') (S:=fun j=>j=b6) (by exact kps) (fun b _ e=>by rw [e];exact hc))
 ·exact RowN.mono (RowN.kq y4 (S:=fun j=>j=b6) (by exact kps) (fun b hb e=>by have hb':hh.n≤b:=hb;omega)) (by omega)
 ·exact RowN.kq ja.at_ (S:=fun j=>j=b6) (by exact kps) (fun b hb e=>by omega)
 ·rw [(Ka (fun b=>Kb b) D.nb).1]at r2
  rw [(Ka (fun b=>Kb b) D.nb).2]at r3
  exact⟨_,0,_,rfl,resS _ _ (.inr ⟨⟨a1,hg.1 hall⟩,rfl,Dm,d1,rfl⟩),⟨mv,v2,v3,rfl,by rw [←d2];exact re,r2,r3⟩,k⟩
end
end
end Go.Ev
