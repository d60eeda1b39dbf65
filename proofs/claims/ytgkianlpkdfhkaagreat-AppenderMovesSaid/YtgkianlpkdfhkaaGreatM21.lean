/- Part of the proof. -/
import Derived.Test.YtgkianlpkdfhkaaGreatM20
set_option linter.unusedVariables false
set_option linter.unusedSectionVars false
set_option linter.unusedSimpArgs false
set_option maxRecDepth 10000
set_option maxHeartbeats 4000000
namespace Go.Ev
section
variable {P0:Program}{E:Env}{F:T CFn}{K:T (List AV×AV)}(L:Lg P0 E F K)(X:Fx F K)
include L X
structure AS (κ: Nat→Nat)(h:H)(I:Ai)(S:Ap)(ab:Nat)(dv:AV)(sz:Nat)(Z:List (List Nat))(sv:AV)(secs:List Int):Prop where
 r:ApR κ h I S
 ka:Bk h ab [.ptr I.s 0]
 ca:κ ab=0
 q:DkR h (fun b=>κ b=0) dv sz Z
 qs:IntsR κ h sv secs
omit L X in
theorem AS.chg {κ κ':Nat→Nat}{h h':H}{I:Ai}{S S':Ap}{ab sz:Nat}{dv sv:AV}{Z:List (List Nat)}{secs:List Int}(w:AS κ h I S ab dv sz Z sv secs)(a:AChg κ h κ' h')(r:ApR κ' h' I S'):AS κ' h' I S' ab dv sz Z sv secs:=
 ⟨r,(a.bk w.ka w.ca).1,(a.bk w.ka w.ca).2,a.dk w.q,w.qs.fw a.fw⟩
omit L X in
theorem AS.own {κ: Nat→Nat}{h h':H}{I:Ai}{S:Ap}{ab sz:Nat}{dv sv:AV}{Z:List (List Nat)}{secs:List Int}{B:Nat→Prop}(w:AS κ h I S ab dv sz Z sv secs)(k:Kp B h h')(hb: ∀b,b<h.n→B b→κ b=200):AS κ h' I S ab dv sz Z sv secs:=
 ⟨w.r.out k fun b hl e=>by rw [hb b hl e];exact Nat.le_refl _,As k (fun e=>by have:=hb _ w.ka.lt e;rw [w.ca]at this;omega) w.ka,w.ca,w.q.kp k fun b e hl u=>by have:=hb b hl e;omega,w.qs.fw (k.fw fun b hl e=>by have:=hb b hl e;omega)⟩
omit L X in
theorem AS.disk {κ: Nat→Nat}{h:H}{I:Ai}{S:Ap}{ab sz:Nat}{dv dv' sv:AV}{Z Z':List (List Nat)}{secs:List Int}(w:AS κ h I S ab dv sz Z sv secs)(q:DkR h (fun b=>κ b=0) dv' sz Z'):AS κ h I S ab dv' sz Z' sv secs:=⟨w.r,w.ka,w.ca,q,w.qs⟩
omit L X in
theorem GrR.chg {κ κ':Nat→Nat}{h h':H}{lo sz:Nat}{v:AV}{l:List GW}{δ: Nat→List Nat}(q:GrR h lo v sz l δ)(a:AChg κ h κ' h')(hc: ∀b,lo≤b→κ b=0):GrR h' lo v sz l δ:= by
 rcases q.ex with h1|⟨h1,gb,h2,h3,h4,h5⟩
 ·exact⟨.inl h1⟩
 ·exact⟨.inr ⟨h1,gb,h2,(a.bk h3 (hc gb h4)).1,h4,fun i s b o c e=>let⟨g1,g2,g3,g4⟩:=h5 i s b o c e;⟨(a.bs g1 (hc b g3)).1,g2,g3,g4⟩⟩⟩
omit L X in
theorem AS.chgX {κ κ':Nat→Nat}{h h':H}{I:Ai}{S S':Ap}{ab sz:Nat}{dv sv:AV}{Z:List (List Nat)}{secs:List Int}{Y:Nat→Prop}(w:AS κ h I S ab dv sz Z sv secs)(a:AChX Y κ h κ' h')(hY: ∀b,b<h.n→Y b→κ b=200)(r:ApR κ' h' I S'):AS κ' h' I S' ab dv sz Z sv secs:=
 have nb: ∀b,b<h.n→κ b=0→ ¬((1≤κ b∧κ b<200)∨Y b):=fun b hl hc e=>by
  rcases e with e|e
  ·omega
  ·have:=hY b hl e;omega
 ⟨r,As a.k (nb _ w.ka.lt w.ca) w.ka,(a.col _ w.ka.lt).trans w.ca,((w.q.mono fun b hb u=>⟨hb,u⟩:DkR h (fun b=>b<h.n∧κ b=0) dv sz Z).kp a.k fun b e hl u=>nb b hl u.2 e).mono fun b _ u=>(a.col b u.1).trans u.2,w.qs.fw ⟨a.k.n,fun b hb hc=>a.k.old b hb (nb b hb hc),a.col⟩⟩
omit L X in
theorem AChX.comp {κ κ1 κ2:Nat→Nat}{h h1 h2:H}{Y Y':Nat→Prop}(a:AChg κ h κ1 h1)(x:AChX Y κ1 h1 κ2 h2)(hY: ∀b,b<h.n→Y b→Y' b):AChX Y' κ h κ2 h2:=
 ⟨Kp.trS x.k (fun i hi e=>by
   rcases e with e|e
   ·rw [a.col i hi]at e;exact .inl e
   ·exact .inr (hY i hi e)) (a.k.mono fun b e=> .inl e),fun b hb=>(x.col b (Nat.lt_of_lt_of_le hb a.k.n)).trans (a.col b hb)⟩
omit L X in
theorem AChX.comp2 {κ κ1 κ2:Nat→Nat}{h h1 h1' h2:H}{B Y Y':Nat→Prop}(a:AChg κ h κ1 h1)(k:Kp B h1 h1')(x:AChX Y κ1 h1' κ2 h2)(hB: ∀b,b<h.n→B b→Y' b)(hY: ∀b,b<h.n→Y b→Y' b):AChX Y' κ h κ2 h2:=
 ⟨Kp.trS x.k (fun i hi e=>by
   rcases e with e|e
   ·rw [a.col i hi]at e;exact .inl e
   ·exact .inr (hY i hi e)) (Kp.trS k (fun i hi e=> .inr (hB i hi e)) (a.k.mono fun b e=> .inl e)),fun b hb=>(x.col b (Nat.lt_of_lt_of_le (Nat.lt_of_lt_of_le hb a.k.n) k.n)).trans (a.col b hb)⟩
section
variable {h:H}{κ: Nat→Nat}{I:Ai}{S:Ap}
theorem Xd {n0 e sz lb m:Nat}{lq:List (Nat×Option AV)}{Q:Nat→AV→Prop}{x:AFr}{cs:List AFr}(he:e≠0)(k6:Bk h n0 [AI ((sz:Nat):Int),.slc lb 0 m (Aa+1)])(k10:Bk h (n0+1+1) [AI ((0:Nat):Int),.nils])
  (ht:TSub (tms [(40,some (AI ((e:Nat):Int))),(14,some (AI ((e:Nat):Int))),(10,some (.ptr (n0+1+1) 0)),(6,some (.ptr n0 0))]) (tms lq))
  (G: ∀v h',v= .tup [.agg [AI ((sz:Nat):Int),.slc lb 0 m (Aa+1)],.bool true]∧Kp (fun j=>j=n0+1+1) h h'→GO P0 E Q (finish v cs h' x)):
  Good P0 E Q ⟨⟨11,cf11.ntmps,tms lq,[.ops [Cv 15 40],.code c11_18,.inBlock 0,.code c11_61],[],.run,false,none⟩,x::cs,hp h.n h.t []⟩:=by
 refine En L ht ?_
 have l6:=k6.lt
 have l10:=k10.lt
 refine wk ?_
 refine cal (c:=Gc L X) (g:=?_)
 rintro _ rfl
 refine wk ?_
 (apply Qc L rfl rfl rfl rfl rfl rfl rfl;exact lkp;rfl;intro h9 hs9;(repeat(first|(apply C0 rfl rfl;exact opv)|(apply Uv rfl rfl)));(first|(apply p_0;exact chk)|(refine Ri L ?_ rfl ?_;exact chk));refine O9 L hs9 ?_)
 refine wk ?_
 refine ret X.f11 ?_
 exact⟨rfl,kps⟩
theorem Tu {ab n0 e sz lb m:Nat}{lq:List (Nat×Option AV)}{Q:Nat→AV→Prop}{x:AFr}{cs:List AFr}(r:ApR κ h I S)(ka:Bk h ab [.ptr I.s 0])(he:e=0∨e=7∧frees S=0)(k6:Bk h n0 [AI ((sz:Nat):Int),.slc lb 0 m (Aa+1)])(k10:Bk h (n0+1+1) [AI ((0:Nat):Int),.nils])(c6:κ n0=200)(c10:κ (n0+1+1)=200)
  (ht:TSub (tms [(15,some (AI ((e:Nat):Int))),(10,some (.ptr (n0+1+1) 0)),(6,some (.ptr n0 0)),(0,some (.ptr ab 0))]) (tms lq))
  (G: ∀v h',(∃κ',v= .tup [.agg [AI ((sz:Nat):Int),.slc lb 0 m (Aa+1)],.bool true]∧ApR κ' h' I S∧AChX (fun j=>j=n0+1+1) κ h κ' h')→GO P0 E Q (finish v cs h' x)):
  Good P0 E Q ⟨⟨11,cf11.ntmps,tms lq,[.code c11_15,.code .ret,.inBlock 0,.code c11_61],[],.run,false,none⟩,x::cs,hp h.n h.t []⟩:=by
 refine En L ht ?_
 have l6:=k6.lt
 have l10:=k10.lt
 refine wk ?_
 refine cal (c:=Il L X r ka he) (g:=?_)
 rintro _ h2 ⟨κ2,rfl,r2,a2⟩
 obtain⟨k6',c6'⟩:=a2.b2 k6 c6
 obtain⟨k10',c10'⟩:=a2.b2 k10 c10
 have l6:=k6'.lt
 have l10:=k10'.lt
 refine wk ?_
 (apply Qc L rfl rfl rfl rfl rfl rfl rfl;exact lkp;rfl;intro h9 hs9;(repeat(first|(apply C0 rfl rfl;exact opv)|(apply Uv rfl rfl)));(first|(apply p_0;exact chk)|(refine Ri L ?_ rfl ?_;exact chk));refine O9 L hs9 ?_)
 refine wk ?_
 refine ret X.f11 ?_
 refine⟨κ2,rfl,r2.out (B:=fun j=>j=n0+1+1) ?_ (fun b _ e=>by subst e;omega),⟨Kp.trS (S':=fun j=>j=n0+1+1) ?_ (fun i _ e=> .inr e) (a2.k.mono fun b e=> .inl e),a2.col⟩⟩
 ·exact kps
 ·exact kps
theorem Zq {ab k n n0:Nat}{dv sv:AV}{Z:List (List Nat)}{secs:List Int}{lq:List (Nat×Option AV)}{Q:Nat→AV→Prop}{x:AFr}{cs:List AFr}(T:Tb P0 E F K)(w:AS κ h I S ab dv S.D.sz Z sv secs)(p:Pl S k Z)(hZ:0<Z.length∧Z.length≤10)(hk:k≤40000)(hsl:secs.length≤6)(hn:n<100000)(hS:S.S≤10)
  (k6:Bk h n0 [AI ((S.D.sz:Nat):Int),dv]) (c6:κ n0=200) (k10:Bk h (n0+1+1) [AI ((0:Nat):Int),.nils]) (c10:κ (n0+1+1)=200)
  (ht:TSub (tms [(33,some (AI ((n:Nat):Int))),(32,some sv),(30,some (AI ((S.D.sz:Nat):Int))),(10,some (.ptr (n0+1+1) 0)),(6,some (.ptr n0 0)),(0,some (.ptr ab 0))]) (tms lq))
  (G: ∀v h',(∃S' Z' κ' dv',v= .tup [.agg [AI ((S.D.sz:Nat):Int),dv'],.bool true]∧AS κ' h' I S' ab dv' S.D.sz Z' sv secs∧Pl S' (k+1000) Z'∧Sm S S'∧AChX (fun b=>n0≤b) κ h κ' h')→GO P0 E Q (finish v cs h' x)):
  Good P0 E Q ⟨⟨11,cf11.ntmps,tms lq,[.ops [Cc 34 37 [.t 30,.t 32,.t 33],Cv 13 34],.code c11_20,.inBlock 0,.code c11_61],[],.run,false,none⟩,x::cs,hp h.n h.t []⟩:=by
 refine En L ht ?_
 have hsz:=w.r.dv.ok.g.sz
 have l6:=k6.lt
 have l10:=k10.lt
 refine cal (c:=Zm L X w.qs hsz hsl hn) (g:=?_)
 rintro gv h2 ⟨l,δ,g,hkeys,kk⟩
 have n2:=kk.n
 have hll:l.length=secs.length:=by rw [←hkeys,List.length_map]
 refine wk ?_
 refine cal (c:=Zn L X (w.q.k0 kk) hZ g (by omega) hsz) (g:=?_)
 rintro _ h3 ⟨rfl,k3⟩
 have n3:=k3.n
 have kk3:K0 h h3:=Kp.tr0 k3 kk
 have a3:AChg κ h (ext κ h.n) h3:=AChg.k0 kk3 fun b hb=>Af hb
 have w3:=w.chg a3 (w.r.k0 kk3 fun b hb=>Af hb)
 have g3:=g.k0 k3
 refine wk ?_
 have hee:De Z.length false (l.map (·.1))=De S.S S.down (l.map (·.1)):=by rw [p.len,p.inv.dn]
 obtain⟨-,k6a,c6a⟩:True∧_∧_:=⟨trivial,a3.b2 k6 c6⟩
 obtain⟨-,k10a,c10a⟩:True∧_∧_:=⟨trivial,a3.b2 k10 c10⟩
 rcases w.q.ex with⟨rfl,rfl⟩|⟨-,lb,rows,rfl,-⟩
 ·exact absurd hZ.1 (Nat.lt_irrefl _)
 rcases g3.ex with⟨rfl,rfl⟩|⟨g1,gb,rfl,kb,g4,g5⟩
 ·refine cal (c:=Vp L X w3.r w3.ka) (g:=?_)
  rintro _ h4 ⟨κ4,rfl,r4,a4⟩
  obtain⟨k6b,c6b⟩:=a4.b2 k6a c6a
  obtain⟨k10b,c10b⟩:=a4.b2 k10a c10a
  have e2:De Z.length false (([]:List GW).map (·.1))=2:=rfl
  rw [e2]
  refine Xd L X (h:=h4) (n0:=n0) (e:=2) (by omega) k6b k10b tsb ?_
  rintro _ h5 ⟨rfl,k5⟩
  exact G _ _ ⟨S,Z,κ4,_,rfl,(w3.chg a4 r4).own k5 (fun b _ e=>by subst e;exact c10b),p.mono (by omega),⟨rfl,rfl,rfl,rfl,rfl⟩,Kp.trS k5 (fun i _ e=> .inr (by omega)) ((a3.trans a4).k.mono fun b e=> .inl e),(a3.trans a4).col⟩
 ·have hne:l≠[]:=fun e=>by rw [e]at g1;exact absurd g1 (Nat.lt_irrefl _)
  have hx: ∀b,h.n≤b→ext κ h.n b=0:=fun b hb=>Bs hb
  refine cal (c:=Zc (δ:= δ) L X T w3.r w3.ka p.inv.iw (by omega) kb (hx gb g4) hne (by omega) (fun i s b o c e=>let⟨x1,x2,x3,_⟩:=g5 i s b o c e;⟨x1,hx b x3,x2⟩) ⟨p.bd.last,by have:=p.bd.nx;omega⟩ (by have:=p.bd.dn;omega) (fun hc es S' a=>a.ok p.inv fun y hy=>Kn hc y.1 (by rw [←Ks δ l];exact List.mem_map.2 ⟨y,hy,rfl⟩))) (g:=?_)
  rintro _ h4 ⟨e,S4,κ4,rfl,ao,r4,a4⟩
  obtain⟨k6b,c6b⟩:=a4.b2 k6a c6a
  obtain⟨k10b,c10b⟩:=a4.b2 k10a c10a
  have w4:=w3.chg a4 r4
  have g4':=g3.chg a4 hx
  rw [hee]
  cases ao with
  |bad hb=>
   refine Xd L X (h:=h4) (n0:=n0) hb k6b k10b tsb ?_
   rintro _ h5 ⟨rfl,k5⟩
   exact G _ _ ⟨S,Z,κ4,_,rfl,w4.own k5 (fun b _ e=>by subst e;exact c10b),p.mono (by omega),⟨rfl,rfl,rfl,rfl,rfl⟩,Kp.trS k5 (fun i _ e=> .inr (by omega)) ((a3.trans a4).k.mono fun b e=> .inl e),(a3.trans a4).col⟩
  | @run _ o hc ho a=>
   rw [hc]
   obtain⟨sm,p1,p2⟩:=p.append (by omega) (fun i s b o c e=>(g5 i s b o c e).2.1) hc a
   by_cases hod:o= .done 0
   ·subst hod
    rw [show eOf (.done 0)=0 from rfl]
    refine wk ?_
    refine cal (c:=Gc L X) (g:=?_)
    rintro _ rfl
    refine wk ?_
    have hrl: ∀x∈l,0≤x.1∧x.1<((Z.length:Nat):Int):=fun x hx=>by rw [p.len];exact Kn hc x.1 (List.mem_map.2 ⟨x,hx,rfl⟩)
    refine cal (c:=Zp L X (V:=fun b=>ext κ4 h4.n b=0) (w4.q.mono fun b hb u=>(Af hb).trans u) (fun b hb=>Bs hb) hZ g4' (by omega) hsz hrl) (g:=?_)
    rintro _ h5 ⟨dv',rfl,q5,k5⟩
    have n5:=k5.n
    have a5:AChg κ4 h4 (ext κ4 h4.n) h5:=AChg.k0 k5 fun b hb=>Af hb
    have w5:=(w4.chg a5 (r4.k0 k5 fun b hb=>Af hb)).disk q5
    obtain⟨k6c,c6c⟩:=a5.b2 k6b c6b
    obtain⟨k10c,c10c⟩:=a5.b2 k10b c10b
    rcases q5.ex with⟨e0,-⟩|⟨z1,lb',rows',rfl,-⟩
    ·have:=congrArg List.length e0;rw [I4]at this;simp only [List.length_nil]at this;omega
    (apply stS L rfl rfl rfl rfl rfl rfl;exact lkp;rfl;rfl)
    have k6l:=k6c.lt
    have w6:=w5.own (B:=fun j=>j=n0) (h':=hp h5.n h5.t [(n0,some (cl [AI ((S.D.sz:Nat):Int),.slc lb' 0 (apW S.D.sz δ Z l).length (Aa+1)]))]) kps fun b _ e=>by subst e;exact c6c
    refine Tu L X (κ:= ext κ4 h4.n) (h:=hp h5.n h5.t [(n0,some (cl [AI ((S.D.sz:Nat):Int),.slc lb' 0 (apW S.D.sz δ Z l).length (Aa+1)]))]) (n0:=n0) (e:=0) w6.r w6.ka (.inl rfl) (by exact lkp) (by exact lkp) c6c c10c tsb ?_
    rintro _ h7 ⟨κ7,rfl,r7,a7⟩
    refine G _ _ ⟨S4,_,κ7,_,rfl,w6.chgX a7 (fun b _ e=>by subst e;exact c10c) r7,p1 rfl,sm,?_⟩
    have ke:Kp (fun j=>j=n0) h5 (hp h5.n h5.t [(n0,some (cl [AI ((S.D.sz:Nat):Int),.slc lb' 0 (apW S.D.sz δ Z l).length (Aa+1)]))]):=kps
    refine AChX.comp2 ((a3.trans a4).trans a5) ke (AChX.mk a7.k a7.col) (fun b _ e=>by omega) (fun b _ e=>by omega)
   ·obtain⟨rfl,hf,p3⟩:=p2 hod
    rw [show eOf .full=7 from rfl]
    refine wk ?_
    refine cal (c:=Gc L X) (g:=?_)
    rintro _ rfl
    (apply st1 L rfl;exact rh rfl rfl (by omega);rfl)
    refine Tu L X (h:=h4) (n0:=n0) (e:=7) r4 w4.ka (.inr ⟨rfl,hf⟩) k6b k10b c6b c10b tsb ?_
    rintro _ h5 ⟨κ5,rfl,r5,a5⟩
    exact G _ _ ⟨S4,Z,κ5,_,rfl,w4.chgX a5 (fun b _ e=>by subst e;exact c10b) r5,p3,sm,AChX.comp (a3.trans a4) a5 fun b _ e=>by omega⟩
end
end
section
variable {P0:Program}{E:Env}{F:T CFn}{K:T (List AV×AV)}(L:Lg P0 E F K)(X:Fx F K)
include L X
omit L X in
def Ap.cand (S:Ap)(y:Int):Prop:= ∃b:Nat,y=((b:Nat):Int)∧b<S.D.nb∧S.ps b=3∧S.jr ((b:Nat):Int)=false
omit L X in
theorem Eb {S:Ap}{b:Nat}: ∀n,b∈S.cds n↔b<n∧S.ps b=3∧S.jr ((b:Nat):Int)=false
 |0=>by simp [Ap.cds]
 |n+1=>by
  simp only [Ap.cds]
  split
  ·rename_i h
   rw [List.mem_append,List.mem_singleton,Eb n]
   constructor
   ·rintro(⟨h1,h2⟩|rfl)
    ·exact⟨by omega,h2⟩
    ·exact⟨by omega,h⟩
   ·rintro⟨h1,h2⟩
    by_cases e:b=n
    ·exact .inr e
    ·exact .inl ⟨by omega,h2⟩
  ·rename_i h
   rw [Eb n]
   constructor
   ·rintro⟨h1,h2⟩;exact⟨by omega,h2⟩
   ·rintro⟨h1,h2⟩
    have:b≠n:=fun e=>by subst e;exact h h2
    exact⟨by omega,h2⟩
omit L X in
theorem Pl.move {S S':Ap}{k e:Nat}{y:Int}{Z:List (List Nat)}(p:Pl S k Z)(ok:S.D.Ok)(m:MoveO y S e S'):
  Sm S S'∧Pl S' (k+1000) Z∧((e=0∨e=7∧frees S'=0)∧S.cand y∨e=3∧ ¬(0≤y∧y<((S.D.nb:Nat):Int))∨e=8∧(0≤y∧y<((S.D.nb:Nat):Int))∧ ¬S.cand y):=by
 cases m with
 |rng h=>exact⟨⟨rfl,rfl,rfl,rfl,rfl⟩,p.mono (by omega),.inr (.inl ⟨rfl,h⟩)⟩
 | @st b e hb h=>
  refine⟨⟨rfl,rfl,rfl,rfl,rfl⟩,p.mono (by omega),.inr (.inr ⟨rfl,⟨by omega,by omega⟩,?_⟩)⟩
  rintro⟨b',e',h1,h2,h3⟩
  have:b'=b:=by omega
  subst this
  rcases h with h|h
  ·exact h h2
  ·rw [h3]at h;cases h
 | @run b S' o e hb h1 h2 ho m=>
  obtain⟨q',sm,bd,hp,hf,hrd⟩:=m.inv p.inv ok p.bd hb h1 h2
  refine⟨sm,p.same q' sm bd hrd,.inl ⟨?_,b,e,hb,h1,h2⟩⟩
  rcases ho with rfl|rfl|rfl
  ·exact .inl rfl
  ·exact .inr ⟨rfl,Rw fun i hi=>hf rfl i (by rw [←sm.nb];exact hi)⟩
  ·exact absurd rfl hp
omit L X in
theorem Pl.ck {S S':Ap}{k:Nat}{o:WO}{Z:List (List Nat)}(p:Pl S k Z)(hS:S.S≤10)(ho:o= .done 0∨o= .full∨o= .pow)(m:CkO S S' o):Sm S S'∧Pl S' (k+1000) Z∧(eOf o=0∨eOf o=7∧frees S'=0):=by
 obtain⟨q',sm,bd,hp,hf,hrd⟩:=m.inv p.inv p.bd hS
 refine⟨sm,p.same q' sm bd hrd,?_⟩
 rcases ho with rfl|rfl|rfl
 ·exact .inl rfl
 ·exact .inr ⟨rfl,Rw fun i hi=>hf rfl i (by rw [←sm.nb];exact hi)⟩
 ·exact absurd rfl hp
section
variable {h:H}{κ: Nat→Nat}{I:Ai}{S:Ap}
theorem v8 {ab k n0 lb:Nat}{sv:AV}{Z:List (List Nat)}{secs:List Int}{lq:List (Nat×Option AV)}{Q:Nat→AV→Prop}{x:AFr}{cs:List AFr}(T:Tb P0 E F K)(U:SortOk P0 E F 129)(w:AS κ h I S ab (.slc lb 0 Z.length (Aa+1)) S.D.sz Z sv secs)(p:Pl S k Z)(hk:k≤40000)(hS:S.S≤10)
  (k6:Bk h n0 [AI ((S.D.sz:Nat):Int),.slc lb 0 Z.length (Aa+1)]) (c6:κ n0=200) (k10:Bk h (n0+1+1) [AI ((0:Nat):Int),.nils]) (c10:κ (n0+1+1)=200)
  (ht:TSub (tms [(132,some (.ptr ab 0)),(131,some (.ptr ab 0)),(130,some (.agg [AI ((S.D.sz:Nat):Int),.slc lb 0 Z.length (Aa+1)])),(10,some (.ptr (n0+1+1) 0)),(6,some (.ptr n0 0)),(0,some (.ptr ab 0))]) (tms lq))
  (G: ∀v h',(∃S' Z' κ' dv',v= .tup [.agg [AI ((S.D.sz:Nat):Int),dv'],.bool true]∧AS κ' h' I S' ab dv' S.D.sz Z' sv secs∧Pl S' (k+1000) Z'∧Sm S S'∧AChX (fun b=>n0≤b) κ h κ' h')→GO P0 E Q (finish v cs h' x)):
  Good P0 E Q ⟨⟨11,cf11.ntmps,tms lq,[.drawn ⟨⟨Cc 133 40 [.t 132],[132]⟩,[],[⟨Cn 130 2 6,[6]⟩,⟨Cv 131 0,[0]⟩]⟩ [⟨⟨Cc 134 16 [.t 131,.t 133],[131,133]⟩,[],[⟨Cn 130 2 6,[6]⟩]⟩,⟨⟨Cs 2 10 130,[10,130]⟩,[⟨Cv 11 134,[134]⟩],[]⟩],.code .ret],[],.run,false,none⟩,x::cs,hp h.n h.t []⟩:=by
 refine En L ht ?_
 have l6:=k6.lt
 have l10:=k10.lt
 refine cal (c:=Pb L X T U w.r w.ka p.inv.iw p.inv.dn (by omega) (fun y hy=>let⟨b,e1,e2,_⟩:=p.inv.jr y hy;⟨by omega,by omega⟩) ⟨p.bd.last,by have:=p.bd.nx;omega⟩ (by have:=p.bd.dn;omega) (p.inv.ckH p.bd hS (by omega))) (g:=?_)
 rintro _ h3 ⟨o,S3,κ3,rfl,ho,ck,r3,a3⟩
 obtain⟨sm,p3,he⟩:=p.ck hS ho ck
 have w3:=w.chg a3 r3
 obtain⟨k6a,c6a⟩:=a3.b2 k6 c6
 obtain⟨k10a,c10a⟩:=a3.b2 k10 c10
 have l6:=k6a.lt
 have l10:=k10a.lt
 refine wk ?_
 refine cal (c:=Il L X r3 w3.ka he) (g:=?_)
 rintro _ h4 ⟨κ4,rfl,r4,a4⟩
 have w4:=w3.chg a4 r4
 obtain⟨k6b,c6b⟩:=a4.b2 k6a c6a
 obtain⟨k10b,c10b⟩:=a4.b2 k10a c10a
 have l6:=k6b.lt
 have l10:=k10b.lt
 refine wk ?_
 (apply Qc L rfl rfl rfl rfl rfl rfl rfl;exact lkp;rfl;intro h9 hs9;(repeat(first|(apply C0 rfl rfl;exact opv)|(apply Uv rfl rfl)));(first|(apply p_0;exact chk)|(refine Ri L ?_ rfl ?_;exact chk));refine O9 L hs9 ?_)
 refine wk ?_
 refine ret X.f11 ?_
 refine⟨S3,Z,κ4,_,rfl,w4.own (B:=fun j=>j=n0+1+1) ?_ (fun b _ e=>by subst e;exact c10b),p3,sm,Kp.trS (S':=fun j=>j=n0+1+1) ?_ (fun i _ e=> .inr (by omega)) ((a3.trans a4).k.mono fun b e=> .inl e),(a3.trans a4).col⟩
 ·exact kps
 ·exact kps
end
section
variable {h:H}{κ: Nat→Nat}{I:Ai}{S:Ap}
theorem v9 {ab k n:Nat}{dv sv:AV}{Z:List (List Nat)}{what blk:Int}{secs:List Int}(T:Tb P0 E F K)(U:SortOk P0 E F 129)(w:AS κ h I S ab dv S.D.sz Z sv secs)(p:Pl S k Z)(hZ:0<Z.length∧Z.length≤10)(hk:k≤40000)(hsl:secs.length≤6)(hn:n<100000)(hS:S.S≤10):
  Ct P0 E F K 11 [.ptr ab 0,.agg [AI ((S.D.sz:Nat):Int),dv],AI ((S.D.nb:Nat):Int),.agg [AI what,AI blk,sv],AI ((n:Nat):Int)] h
   (fun v h'=> ∃S' Z' κ' dv',v= .tup [.agg [AI ((S.D.sz:Nat):Int),dv'],.bool true]∧AS κ' h' I S' ab dv' S.D.sz Z' sv secs∧Pl S' (k+1000) Z'∧Sm S S'∧AChg κ h κ' h'):=by
 have lk:=w.ka.lt
 rcases w.q.ex with⟨rfl,rfl⟩|⟨-,lb,rows,rfl,-⟩
 ·exact absurd hZ.1 (Nat.lt_irrefl _)
 refine Ji L X.f11 X.k11 rfl rfl fun Q x cs G=>?_
 refine wk ?_
 have k1:K0 h (hp (h.n+1+1+1) h.t [(h.n+1+1,some (cl [AI ((0:Nat):Int),.nils])),(h.n+1,some (cl [AI what,AI blk,sv])),(h.n,some (cl [AI ((S.D.sz:Nat):Int),.slc lb 0 Z.length (Aa+1)]))]):=kps
 have a1:AChg κ h (Ii κ h.n) (hp (h.n+1+1+1) h.t [(h.n+1+1,some (cl [AI ((0:Nat):Int),.nils])),(h.n+1,some (cl [AI what,AI blk,sv])),(h.n,some (cl [AI ((S.D.sz:Nat):Int),.slc lb 0 Z.length (Aa+1)]))]):=AChg.k0 k1 fun b hb=>E4 hb
 have w1:=w.chg a1 (w.r.k0 k1 fun b hb=>E4 hb)
 have b6:Bk (hp (h.n+1+1+1) h.t [(h.n+1+1,some (cl [AI ((0:Nat):Int),.nils])),(h.n+1,some (cl [AI what,AI blk,sv])),(h.n,some (cl [AI ((S.D.sz:Nat):Int),.slc lb 0 Z.length (Aa+1)]))]) h.n [AI ((S.D.sz:Nat):Int),.slc lb 0 Z.length (Aa+1)]:=lkp
 have b8:Bk (hp (h.n+1+1+1) h.t [(h.n+1+1,some (cl [AI ((0:Nat):Int),.nils])),(h.n+1,some (cl [AI what,AI blk,sv])),(h.n,some (cl [AI ((S.D.sz:Nat):Int),.slc lb 0 Z.length (Aa+1)]))]) (h.n+1) [AI what,AI blk,sv]:=lkp
 have b10:Bk (hp (h.n+1+1+1) h.t [(h.n+1+1,some (cl [AI ((0:Nat):Int),.nils])),(h.n+1,some (cl [AI what,AI blk,sv])),(h.n,some (cl [AI ((S.D.sz:Nat):Int),.slc lb 0 Z.length (Aa+1)]))]) (h.n+1+1) [AI ((0:Nat):Int),.nils]:=lkp
 refine cal (c:=W7 L X w1.r w1.ka (fun b n e=>Nat.le_of_lt (p.bd.wr b n e)) (by have:=p.bd.nx;omega)) (g:=?_)
 rintro _ h2 ⟨κ2,cd,cc,r2,a2⟩
 have w2:=w1.chg a2 r2
 obtain⟨k6,c6⟩:=a2.b2 b6 (Dz (Nat.le_refl _))
 obtain⟨k8,c8⟩:=a2.b2 b8 (Dz (Nat.le_succ _))
 obtain⟨k10,c10⟩:=a2.b2 b10 (Dz (by omega))
 have l6:=k6.lt
 have l8:=k8.lt
 have l10:=k10.lt
 have fin: ∀κ' h',AChX (fun b=>h.n≤b) κ2 h2 κ' h'→AChg κ h κ' h':=fun κ' h' x=>x.own (a1.trans a2) fun b e=>e
 have ck:=fun lq=>v8 L X (h:=h2) (n0:=h.n) (x:=x) (cs:=cs) (Q:=Q) (lq:=lq) T U w2 p hk hS k6 c6 k10 c10
 by_cases c1:what<0
 ·refine wk ?_
  refine ck _ tsb ?_
  rintro v h' ⟨S',Z',κ',dv',rfl,w',p',s',x'⟩
  exact G _ _ ⟨S',Z',κ',dv',rfl,w',p',s',fin κ' h' x'⟩
 by_cases c2:what≤5
 ·refine wk ?_
  refine Zq L X (h:=h2) (n0:=h.n) T w2 p hZ hk hsl hn hS k6 c6 k10 c10 tsb ?_
  rintro v h' ⟨S',Z',κ',dv',rfl,w',p',s',x'⟩
  exact G _ _ ⟨S',Z',κ',dv',rfl,w',p',s',fin κ' h' x'⟩
 by_cases c3:what=8
 ·subst c3
  refine wk ?_
  refine cal (c:=Rs L X T w2.r w2.ka p.inv.iw p.inv.dn ⟨p.bd.last,by have:=p.bd.nx;omega⟩ (by have:=p.bd.dn;omega) (by omega) (fun b e hb h3 _=>p.inv.mvH w2.r.dv.ok (by omega) p.bd (by omega) b hb h3)) (g:=?_)
  rintro _ h3 ⟨e,S3,κ3,rfl,m,r3,a3⟩
  obtain⟨sm,p3,he⟩:=p.move w2.r.dv.ok m
  have w3:=w2.chg a3 r3
  obtain⟨k6a,c6a⟩:=a3.b2 k6 c6
  obtain⟨k8a,c8a⟩:=a3.b2 k8 c8
  obtain⟨k10a,c10a⟩:=a3.b2 k10 c10
  have l6:=k6a.lt
  have l8:=k8a.lt
  have l10:=k10a.lt
  have n23:=a3.k.n
  have done: ∀hh,Kp (fun j=>j=h.n+1+1) h3 hh→GO P0 E Q (finish (.tup [.agg [AI ((S.D.sz:Nat):Int),.slc lb 0 Z.length (Aa+1)],.bool true]) cs hh x):=fun hh kh=>
   G _ _ ⟨S3,Z,κ3,_,rfl,w3.own kh (fun b _ e=>by subst e;exact c10a),p3,sm,fin κ3 hh ⟨Kp.trS kh (fun i _ e=> .inr (by omega)) (a3.k.mono fun b e=> .inl e),a3.col⟩⟩
  by_cases cr:0≤blk∧blk<((S.D.nb:Nat):Int)
  rotate_left
  ·have e3:e=3:=by
    rcases he with⟨_,b,e',hb,_⟩|⟨h,_⟩|⟨_,h,_⟩
    ·exact absurd ⟨by omega,by omega⟩ cr
    ·exact h
    ·exact absurd h cr
   subst e3
   have G:=fun v hh (q:v= .tup [.agg [AI ((S.D.sz:Nat):Int),.slc lb 0 Z.length (Aa+1)],.bool true]∧Kp (fun j=>j=h.n+1+1) h3 hh)=>(show GO P0 E Q (finish v cs hh x) by rw [q.1];exact done hh q.2)
   by_cases cl:blk<0
   ·refine wk ?_
    refine ret X.f11 ?_
    exact⟨rfl,kps⟩
   ·refine wk ?_
    refine ret X.f11 ?_
    exact⟨rfl,kps⟩
  ·have no: ¬S.cand blk→e=8:=fun hn=>by
    rcases he with⟨_,h⟩|⟨_,h⟩|⟨h,_⟩
    ·exact absurd h hn
    ·exact absurd cr h
    ·exact h
   have yes:S.cand blk→e=0∨e=7∧frees S3=0:=fun hc=>by
    rcases he with⟨h,_⟩|⟨_,h⟩|⟨_,_,h⟩
    ·exact h
    ·exact absurd cr h
    ·exact absurd hc h
   rcases cd.ex with⟨e0,rfl⟩|⟨g1,cb,rfl,kcb,-⟩
   ·have e8:=no (by
     rintro⟨b,_,hb⟩
     have:=(Eb (S:=S) (b:=b) S.D.nb).2 hb
     rw [e0]at this;cases this)
    subst e8
    have G:=fun v hh (q:v= .tup [.agg [AI ((S.D.sz:Nat):Int),.slc lb 0 Z.length (Aa+1)],.bool true]∧Kp (fun j=>j=h.n+1+1) h3 hh)=>(show GO P0 E Q (finish v cs hh x) by rw [q.1];exact done hh q.2)
    refine wk ?_
    refine A9 L ?_
    refine wk ?_
    refine ret X.f11 ?_
    exact⟨rfl,kps⟩
   ·obtain⟨kcb3,ccb3⟩:=a3.bk kcb (cc cb _ _ rfl)
    have lcb:=kcb3.lt
    have hlc:=Kq S S.D.nb
    have hnb:=p.inv.geo.nb
    refine wk ?_
    refine Co L (α:= Unit) (T:=fun i _=> [(17,some (AI ((i:Nat):Int))),(16,some (AI ((e:Nat):Int))),(12,some (.slc cb 0 (S.cds S.D.nb).length (Aa+4))),(10,some (.ptr (h.n+1+1) 0)),(8,some (.ptr (h.n+1) 0)),(6,some (.ptr h.n 0)),(0,some (.ptr ab 0))]) (n:=(S.cds S.D.nb).length)
     (R:=fun i _ hh=>(∀b∈(S.cds S.D.nb).take i,((b:Nat):Int)≠blk)∧K0 h3 hh) (i0:=0) () tsb ⟨by simp,Kp.refl _⟩ (Nat.zero_le _) ?_ ?_
    ·rintro i _ hh hi ⟨t1,t2⟩ ih
     have hx:(S.cds S.D.nb)[i]?=some (S.cds S.D.nb)[i]:=List.getElem?_eq_getElem hi
     have htk:(S.cds S.D.nb).take (i+1)=(S.cds S.D.nb).take i++ [(S.cds S.D.nb)[i]]:=by rw [List.take_add_one,hx];rfl
     have hin:=(Eb (S:=S) S.D.nb).1 (List.getElem_mem hi)
     have hf:((S.cds S.D.nb).flatMap (cdC S))[i*4+0]?=some (AI (((S.cds S.D.nb)[i]:Nat):Int)):=by rw [Cw _ (I3 S _) i 0 _ hx (by omega)];rfl
     generalize (S.cds S.D.nb)[i]=b at*
     have kcb4:=Ah t2 kcb3
     have k6b:=Ah t2 k6a
     have k8b:=Ah t2 k8a
     have k10b:=Ah t2 k10a
     by_cases eb:((b:Nat):Int)=blk
     ·subst eb
      have r4:ApR κ3 hh I S3:=r3.k0 t2 fun _ _=>rfl
      refine wk ?_
      refine cal (c:=Il L X r4 (Ah t2 w3.ka) (yes ⟨b,rfl,hin.1,hin.2⟩)) (g:=?_)
      rintro _ h5 ⟨κ5,rfl,r5,a5⟩
      obtain⟨k6c,c6c⟩:=a5.b2 k6b c6a
      obtain⟨k10c,c10c⟩:=a5.b2 k10b c10a
      have l6:=k6c.lt
      have l10:=k10c.lt
      have a4:AChg κ3 h3 κ3 hh:=AChg.k0 t2 fun _ _=>rfl
      have w5:=(w3.chg a4 r4).chg a5 r5
      refine wk ?_
      (apply Qc L rfl rfl rfl rfl rfl rfl rfl;exact lkp;rfl;intro h9 hs9;(repeat(first|(apply C0 rfl rfl;exact opv)|(apply Uv rfl rfl)));(first|(apply p_0;exact chk)|(refine Ri L ?_ rfl ?_;exact chk));refine O9 L hs9 ?_)
      refine wk ?_
      refine ret X.f11 ?_
      refine⟨S3,Z,κ5,_,rfl,w5.own (B:=fun j=>j=h.n+1+1) ?_ (fun b _ e=>by subst e;exact c10c),p3,sm,fin κ5 _ ⟨Kp.trS (S':=fun j=>j=h.n+1+1) ?_ (fun i _ e=> .inr (by omega)) (((a3.trans a4).trans a5).k.mono fun b e=> .inl e),((a3.trans a4).trans a5).col⟩⟩
      ·exact kps
      ·exact kps
     ·refine wk ?_
      refine ih () _ _ ⟨?_,by exact kps⟩ ?_
      ·rw [htk]
       intro b' hb'
       rcases List.mem_append.1 hb' with h|h
       ·exact t1 b' h
       ·rw [List.mem_singleton]at h;subst h;exact eb
      ·exact tsb
    ·rintro _ hh ⟨t1,t2⟩
     rw [List.take_length]at t1
     have e8:=no (by
      rintro⟨b,eb,hb⟩
      exact t1 b ((Eb (S:=S) (b:=b) S.D.nb).2 hb) eb.symm)
     subst e8
     have k6b:=Ah t2 k6a
     have k10b:=Ah t2 k10a
     have l6:=k6b.lt
     have l10:=k10b.lt
     have G:=fun v h4 (q:v= .tup [.agg [AI ((S.D.sz:Nat):Int),.slc lb 0 Z.length (Aa+1)],.bool true]∧Kp (fun j=>j=h.n+1+1) h3 h4)=>(show GO P0 E Q (finish v cs h4 x) by rw [q.1];exact done h4 q.2)
     refine wk ?_
     refine ret X.f11 ?_
     exact⟨rfl,kps⟩
 by_cases c4:what=6∨what=7
 ·rcases cd.ex with⟨e0,rfl⟩|⟨g1,cb,rfl,kcb,-⟩
  ·rcases c4 with rfl|rfl
   all_goals
    refine wk ?_
    refine ck _ tsb ?_
    rintro v h' ⟨S',Z',κ',dv',rfl,w',p',s',x'⟩
    exact G _ _ ⟨S',Z',κ',dv',rfl,w',p',s',fin κ' h' x'⟩
  ·have lcb:=kcb.lt
   have hlc:=Kq S S.D.nb
   have hnb:=p.inv.geo.nb
   have hj:u64 blk % (S.cds S.D.nb).length<(S.cds S.D.nb).length:=Nat.mod_lt _ g1
   have hin:=(Eb (S:=S) S.D.nb).1 (List.getElem_mem hj)
   have hf:((S.cds S.D.nb).flatMap (cdC S))[u64 blk % (S.cds S.D.nb).length*4+0]?=some (AI (((S.cds S.D.nb)[u64 blk % (S.cds S.D.nb).length]:Nat):Int)):=by rw [Cw _ (I3 S _) _ 0 _ (List.getElem?_eq_getElem hj) (by omega)];rfl
   generalize (S.cds S.D.nb)[u64 blk % (S.cds S.D.nb).length]=b at*
   rcases c4 with rfl|rfl
   all_goals
    refine wk ?_
    (apply C0 rfl rfl;exact Ia rfl)
    refine wk ?_
    refine cal (c:=Rs L X T w2.r w2.ka p.inv.iw p.inv.dn ⟨p.bd.last,by have:=p.bd.nx;omega⟩ (by have:=p.bd.dn;omega) (by omega) (fun b e hb h3 _=>p.inv.mvH w2.r.dv.ok (by omega) p.bd (by omega) b hb h3)) (g:=?_)
    rintro _ h3 ⟨e,S3,κ3,rfl,m,r3,a3⟩
    obtain⟨sm,p3,he⟩:=p.move w2.r.dv.ok m
    have hee:e=0∨e=7∧frees S3=0:=by
     rcases he with⟨h,_⟩|⟨_,h⟩|⟨_,_,h⟩
     ·exact h
     ·exact absurd ⟨by omega,by omega⟩ h
     ·exact absurd ⟨b,rfl,hin.1,hin.2⟩ h
    have w3:=w2.chg a3 r3
    obtain⟨k6a,c6a⟩:=a3.b2 k6 c6
    obtain⟨k10a,c10a⟩:=a3.b2 k10 c10
    have l6:=k6a.lt
    have l10:=k10a.lt
    refine wk ?_
    refine cal (c:=Il L X r3 w3.ka hee) (g:=?_)
    rintro _ h4 ⟨κ4,rfl,r4,a4⟩
    have w4:=w3.chg a4 r4
    obtain⟨k6b,c6b⟩:=a4.b2 k6a c6a
    obtain⟨k10b,c10b⟩:=a4.b2 k10a c10a
    have l6:=k6b.lt
    have l10:=k10b.lt
    refine wk ?_
    (apply Qc L rfl rfl rfl rfl rfl rfl rfl;exact lkp;rfl;intro h9 hs9;(repeat(first|(apply C0 rfl rfl;exact opv)|(apply Uv rfl rfl)));(first|(apply p_0;exact chk)|(refine Ri L ?_ rfl ?_;exact chk));refine O9 L hs9 ?_)
    refine wk ?_
    refine ret X.f11 ?_
    refine⟨S3,Z,κ4,_,rfl,w4.own (B:=fun j=>j=h.n+1+1) ?_ (fun b _ e=>by subst e;exact c10b),p3,sm,fin κ4 _ ⟨Kp.trS (S':=fun j=>j=h.n+1+1) ?_ (fun i _ e=> .inr (by omega)) ((a3.trans a4).k.mono fun b e=> .inl e),(a3.trans a4).col⟩⟩
    ·exact kps
    ·exact kps
 ·refine wk ?_
  refine ck _ tsb ?_
  rintro v h' ⟨S',Z',κ',dv',rfl,w',p',s',x'⟩
  exact G _ _ ⟨S',Z',κ',dv',rfl,w',p',s',fin κ' h' x'⟩
end
end
section
variable {P0:Program}{E:Env}{F:T CFn}{K:T (List AV×AV)}(L:Lg P0 E F K)(X:Fx F K)(Y:FxM F K)
include L X Y
omit L X Y in
theorem cmA {S S1 S2:Ap}{b:Nat}{es:List Ent}{o:WO}(h:MvS (B7 S.A) S (S.mv b) es S1)(c:CmP es S1 S2 o)(q:AInv S)(ok:S.D.Ok): ∀s p,S2.A s=some p→S.A s=some p∨ ∃b1 j:Nat,p=((b1*S.D.P+j:Nat):Int)∧j<S.D.P∧S.ps b1≠3:=by
 obtain⟨q1,k1,f1⟩:=h.inv q
 obtain⟨e1,e2,-⟩:=h.es q fun p hp=>let⟨_,s,_,_,h⟩:=Hj hp;⟨s,h⟩
 obtain⟨-,-,-,c1,c2,c3⟩:=h.cm c q ok
 have key:S2.A=stA S.A es es.length∨S2.A=S.A:=by
  cases c with
  |nil h=>subst h;exact .inr f1.A
  |ok h hn=>exact .inl (by show stA _ _ _=_;rw [(h.fr q1.iw).1.A,f1.A])
  |bad h ho=>exact .inr ((h.fr q1.iw).1.A.trans f1.A)
 intro s p hs
 rcases key with e|e
 ·rw [e]at hs
  rcases Gv es.length s p hs with h|⟨j,x,g1,g2,g3,g4,g5⟩
  ·exact .inl h
  ·obtain⟨p',p1,p2,p3,b1,k,p4,p5,p6,p7,p8⟩:=e2 x (List.mem_of_getElem? g2)
   exact .inr ⟨b1,k,by rw [←g4];exact p4,p6,p8⟩
 ·rw [e]at hs;exact .inl hs
omit L X Y in
structure Rest (S:Ap)(b:Nat)(e:Bool):Prop where
 ps:S.ps b=3
 jr:S.jr ((b:Nat):Int)=false
 mv:e=true→S.mv b= []
omit L X Y in
theorem Vx {S S':Ap}{b:Nat}(hP:S'.D.P=S.D.P)(h: ∀s p,S'.A s=some p→S.A s=some p∨ ∃b1 j:Nat,p=((b1*S.D.P+j:Nat):Int)∧j<S.D.P∧S.ps b1≠3)(h3:S.ps b=3)(he:S.mv b= []):S'.mv b= []:=by
 refine List.eq_nil_iff_forall_not_mem.2 fun p hp=>?_
 obtain⟨j,s,h1,h2,h4⟩:=Hj hp
 rw [hP]at h1 h2
 rcases h s p h4 with h5|⟨b1,k,h5,h6,h7⟩
 ·have:=ji (S:=S) (b:=b) h1 (by rw [←h2];exact h5)
  rw [he]at this;cases this
 ·obtain⟨rfl,-⟩:=Ij h1 h6 (show b*S.D.P+j=b1*S.D.P+k by omega)
  exact h7 h3
omit L X Y in
theorem MovO.rest {S S':Ap}{b b':Nat}{o:WO}{e:Bool}(h:MovO b S S' o)(q:AInv S)(ok:S.D.Ok)(hb':b'<S.D.nb)(hne:b'≠b)(r:Rest S b' e):Rest S' b' e:=by
 obtain⟨r1,r2,r3⟩:=r
 cases h with
 | @bad S1 _ i p es _ m hp h ho=>
  obtain⟨q1,k1,f1⟩:=m.inv q
  obtain⟨q2,k2,-⟩:=h.inv q1
  have f2:=(h.fr q1.iw).1
  have kk:=k1.trans k2 f1.nb
  exact⟨kk.ps3 b' hb' r1,by rw [kk.jrm b' hb' (by omega)];exact r2,fun he=>Vx (by rw [f2.P,f1.P]) (fun s p hs=>by rw [f2.A,f1.A]at hs;exact .inl hs) r1 (r3 he)⟩
 | @badc S1 _ es _ m c ho=>
  obtain⟨q2,kk,sm,c1,c2,-⟩:=m.cm c q ok
  exact⟨kk.ps3 b' hb' r1,by rw [kk.jrm b' hb' (by omega)];exact r2,fun he=>Vx sm.P (cmA m c q ok) r1 (r3 he)⟩
 | @ok S1 S2 es m c=>
  obtain⟨q2,kk,sm,-⟩:=m.cm c q ok
  have se:=Rv S2 b
  exact⟨by rw [Vv S2 b b' hne];exact kk.ps3 b' hb' r1,by rw [Rt,kk.jrm b' hb' (by omega)];exact r2,fun he=>Vx (by rw [se.P,sm.P]) (fun s p hs=>cmA m c q ok s p (by rw [zm]at hs;exact hs)) r1 (r3 he)⟩
omit L X Y in
theorem ju {S:Ap}{b:Nat}(hb:b<S.D.nb)(h3:S.ps b=3):frees S≤frees (S.ers b).1:=by
 have key: ∀(S':Ap) (t:Nat),S'.D.nb=S.D.nb→S'.ps=upd S.ps b t→frees S≤frees S':=fun S' t h1 h2=>by
  have:=Bp S.ps b t 1 S.D.nb hb
  rw [h3]at this
  unfold frees
  rw [h1,h2]
  simp at this
  omega
 have sm:=Rv S b
 unfold Ap.ers at sm ⊢
 split at sm
 ·rename_i h;rw [if_pos h];exact key _ 4 sm.nb rfl
 ·rename_i h
  rw [if_neg h]
  split at sm
  ·rename_i h';rw [if_pos h'];show frees S≤cntS S.ps 1 _;unfold frees;rw [sm.nb];exact Nat.le_refl _
  ·rename_i h'
   rw [if_neg h']
   split at sm
   ·rename_i h'';rw [if_pos h''];exact key _ 1 sm.nb rfl
   ·rename_i h'';rw [if_neg h''];exact key _ 4 sm.nb rfl
omit L X Y in
theorem MovO.free {S S':Ap}{b:Nat}(h:MovO b S S' (.done 0))(he:S.mv b= [])(hb:b<S.D.nb)(h3:S.ps b=3):frees S≤frees S':=by
 generalize ho:WO.done 0=o at h
 cases h with
 | @bad S1 _ i p es _ m hp h ho'=>rw [he]at hp;cases hp
 | @badc S1 _ es _ m c ho'=>rcases ho' with e|e <;> rw [e]at ho <;> cases ho
 | @ok S1 S2 es m c=>
  have hm:es= []∧S1=S:=by
   generalize hps:S.mv b=ps at m
   rw [he]at hps
   cases m with
   |nil=>exact⟨rfl,rfl⟩
   |snoc r h=>exact absurd hps (by simp)
  obtain⟨rfl,rfl⟩:=hm
  cases c with
  |nil _=>exact ju hb h3
  |ok _ hn=>exact absurd rfl hn
  |bad _ ho'=>rcases ho' with e|e <;> cases e
omit L X Y in
theorem MoveO.rest {S S':Ap}{b b' e:Nat}{x:Bool}(h:MoveO ((b:Nat):Int) S e S')(q:AInv S)(ok:S.D.Ok)(hb':b'<S.D.nb)(hne:b'≠b)(r:Rest S b' x):Rest S' b' x:=by
 cases h with
 |rng _=>exact r
 |st _ _ _=>exact r
 | @run c _ _ ec hb h1 h2 ho m=>
  have:c=b:=by omega
  subst this
  exact m.rest q ok hb' hne r
omit L X Y in
theorem MoveO.free {S S':Ap}{b:Nat}(h:MoveO ((b:Nat):Int) S 0 S')(he:S.mv b= []):frees S≤frees S':=by
 generalize h0:(0:Nat)=z at h
 cases h with
 |rng _=>exact Nat.le_refl _
 |st _ _ _=>exact Nat.le_refl _
 | @run c _ o ec hb h1 h2 ho m=>
  have:c=b:=by omega
  subst this
  rcases ho with rfl|rfl|rfl
  ·exact m.free he hb h1
  ·cases h0
  ·cases h0
omit L X Y in
theorem jv (S:Ap): ∀n,(S.cds n).Pairwise (· < ·)
 |0=> .nil
 |n+1=>by
  have ih:=jv S n
  simp only [Ap.cds]
  split
  ·rw [List.pairwise_append]
   refine⟨ih,List.pairwise_singleton _ _,fun a ha b hb=>?_⟩
   rw [List.mem_singleton]at hb
   have:=((Eb (S:=S) n).1 ha).1
   omega
  ·exact ih
end
section
variable {P0:Program}{E:Env}{F:T CFn}{K:T (List AV×AV)}(L:Lg P0 E F K)(X:Fx F K)
include L X
abbrev Act:=(Int×Int×List Int)×AV
def acC (x:Act):List AV:= [AI x.1.1,AI x.1.2.1,x.2]
omit L X in
theorem Nf (l:List Act): ∀x∈l,(acC x).length=3:=fun _ _=>rfl
structure AcR (κ: Nat→Nat)(h:H)(v:AV)(l:List Act):Prop where
 el: ∀x∈l,IntsR κ h x.2 x.1.2.2
 ex:(l= []∧v= .nils)∨(l= []∧ ∃a,v= .opq (.slice (some a) 0 0))∨ ∃b cap,v= .slc b 0 l.length cap∧Rk h b (l.flatMap acC)∧κ b=0
omit L X in
theorem AcR.fw {κ κ':Nat→Nat}{h h':H}{v:AV}{l:List Act}(q:AcR κ h v l)(f:Fw κ h κ' h'):AcR κ' h' v l:=by
 refine⟨fun x hx=>(q.el x hx).fw f,?_⟩
 rcases q.ex with h1|h1|⟨b,cap,h1,h2,h3⟩
 ·exact .inl h1
 ·exact .inr (.inl h1)
 ·exact .inr (.inr ⟨b,cap,h1,f.rk h2 h3,(f.col b h2.lt).trans h3⟩)
def p9 (g0 g1 g2 g3:Int):List AV:= [AI g0,AI g1,AI g2,AI g3]
def Tv (g0 g1 g2 g3 S:Int):Prop:=2≤g0∧g0≤12∧2≤g1∧g1≤5∧12≤g2∧g2≤30∧1≤g3∧g3≤1000∧1≤S∧S≤10
section
variable {h:H}
theorem Zr {g0 g1 g2 g3 S:Int}(hs:Tv g0 g1 g2 g3 S):Ct P0 E F K 7 [.agg (p9 g0 g1 g2 g3),AI S] h fun u h'=>u= .bool true∧K0 h h':=by
 obtain⟨h0,h1,h2,h3,h4,h5,h6,h7,h8,h9⟩:=hs
 refine Ae L X.f7 X.k7 rfl rfl fun Q x cs G=>?_
 refine wk ?_
 refine ret X.f7 ?_
 exact⟨rfl,kps⟩
theorem Zs {g0 g1 g2 g3 S:Int}(hs: ¬Tv g0 g1 g2 g3 S):Ct P0 E F K 7 [.agg (p9 g0 g1 g2 g3),AI S] h fun u h'=>u= .bool false∧K0 h h':=by
 unfold Tv at hs
 by_cases h0:2≤g0
 rotate_left
 ·refine Ae L X.f7 X.k7 rfl rfl fun Q x cs G=>?_
  refine wk ?_
  refine ret X.f7 ?_
  exact⟨rfl,kps⟩
 by_cases h1:g0≤12
 rotate_left
 ·refine Ae L X.f7 X.k7 rfl rfl fun Q x cs G=>?_
  refine wk ?_
  refine ret X.f7 ?_
  exact⟨rfl,kps⟩
 by_cases h2:2≤g1
 rotate_left
 ·refine Ae L X.f7 X.k7 rfl rfl fun Q x cs G=>?_
  refine wk ?_
  refine ret X.f7 ?_
  exact⟨rfl,kps⟩
 by_cases h3:g1≤5
 rotate_left
 ·refine Ae L X.f7 X.k7 rfl rfl fun Q x cs G=>?_
  refine wk ?_
  refine ret X.f7 ?_
  exact⟨rfl,kps⟩
 by_cases h4:12≤g2
 rotate_left
 ·refine Ae L X.f7 X.k7 rfl rfl fun Q x cs G=>?_
  refine wk ?_
  refine ret X.f7 ?_
  exact⟨rfl,kps⟩
 by_cases h5:g2≤30
 rotate_left
 ·refine Ae L X.f7 X.k7 rfl rfl fun Q x cs G=>?_
  refine wk ?_
  refine ret X.f7 ?_
  exact⟨rfl,kps⟩
 by_cases h6:1≤g3
 rotate_left
 ·refine Ae L X.f7 X.k7 rfl rfl fun Q x cs G=>?_
  refine wk ?_
  refine ret X.f7 ?_
  exact⟨rfl,kps⟩
 by_cases h7:g3≤1000
 rotate_left
 ·refine Ae L X.f7 X.k7 rfl rfl fun Q x cs G=>?_
  refine wk ?_
  refine ret X.f7 ?_
  exact⟨rfl,kps⟩
 by_cases h8:1≤S
 rotate_left
 ·refine Ae L X.f7 X.k7 rfl rfl fun Q x cs G=>?_
  refine wk ?_
  refine ret X.f7 ?_
  exact⟨rfl,kps⟩
 have h9: ¬S≤10:=fun h9=>hs ⟨h0,h1,h2,h3,h4,h5,h6,h7,h8,h9⟩
 refine Ae L X.f7 X.k7 rfl rfl fun Q x cs G=>?_
 refine wk ?_
 refine ret X.f7 ?_
 exact⟨rfl,kps⟩
def Few (l:List Act):Prop:=l.length≤40∧ ∀x∈l,x.1.2.2.length≤6
theorem wa {κ: Nat→Nat}{v:AV}{l:List Act}(k:AcR κ h v l):Ct P0 E F K 8 [v,AI ((40:Nat):Int)] h fun u h'=> ∃b:Bool,u= .bool b∧(b=true↔Few l)∧K0 h h':=by
 rcases k.ex with⟨rfl,rfl⟩|⟨rfl,a,rfl⟩|⟨b,cap,rfl,hb,hc⟩
 ·refine Ae L X.f8 X.k8 rfl rfl fun Q x cs G=>?_
  refine wk ?_
  refine A9 L ?_
  refine wk ?_
  refine ret X.f8 ?_
  exact⟨true,rfl,⟨fun _=>⟨by simp,fun x hx=>by cases hx⟩,fun _=>rfl⟩,kps⟩
 ·refine Ae L X.f8 X.k8 rfl rfl fun Q x cs G=>?_
  refine wk ?_
  refine A9 L ?_
  refine wk ?_
  refine ret X.f8 ?_
  exact⟨true,rfl,⟨fun _=>⟨by simp,fun x hx=>by cases hx⟩,fun _=>rfl⟩,kps⟩
 ·have lb:=hb.lt
  by_cases hm:40<l.length
  ·refine Ae L X.f8 X.k8 rfl rfl fun Q x cs G=>?_
   refine wk ?_
   refine ret X.f8 ?_
   exact⟨false,rfl,⟨(fun e=>by cases e),fun e=>absurd e.1 (by omega)⟩,kps⟩
  ·refine Ae L X.f8 X.k8 rfl rfl fun Q x cs G=>?_
   refine wk ?_
   refine Co L (α:= Unit) (T:=fun i _=> [(5,some (AI ((i:Nat):Int))),(0,some (.slc b 0 l.length cap))]) (n:=l.length)
    (R:=fun i _ h2=>(∀x∈l.take i,x.1.2.2.length≤6)∧K0 h h2) (i0:=0) () tsb ⟨by simp,kps⟩ (Nat.zero_le _) ?_ ?_
   ·rintro i _ h2 hi ⟨w1,w2⟩ ih
    have hx:l[i]?=some l[i]:=List.getElem?_eq_getElem hi
    have htk:l.take (i+1)=l.take i++ [l[i]]:=by rw [List.take_add_one,hx];rfl
    have hk:=Sw w2 hb
    have hin:=List.getElem_mem hi
    have key:(l.flatMap acC)[i*3+2]?=some l[i].2:=by rw [Cw l (Nf l) i 2 _ hx (by omega)];rfl
    have hq:=k.el _ hin
    generalize l[i]=y at*
    obtain⟨⟨yw,yb,ys⟩,yv⟩:=y
    simp only at hq key
    have ok:ys.length≤6→ ∀x∈l.take (i+1),x.1.2.2.length≤6:=fun h6 x hx=>by
     rw [htk]at hx
     rcases List.mem_append.1 hx with h|h
     ·exact w1 x h
     ·rw [List.mem_singleton]at h;subst h;exact h6
    rcases hq.ex with⟨rfl,rfl⟩|⟨rfl,a,rfl⟩|⟨c,cp,rfl,-,-⟩
    ·refine wk ?_
     (apply st1 L rfl;exact F2 rfl lkr key;rfl)
     refine wk ?_
     refine ih () _ _ ⟨ok (by simp),by exact kps⟩ ?_
     exact tsb
    ·refine wk ?_
     (apply st1 L rfl;exact F2 rfl lkr key;rfl)
     refine wk ?_
     refine ih () _ _ ⟨ok (by simp),by exact kps⟩ ?_
     exact tsb
    ·by_cases h6:ys.length≤6
     ·refine wk ?_
      (apply st1 L rfl;exact F2 rfl lkr key;rfl)
      refine wk ?_
      refine ih () _ _ ⟨ok h6,by exact kps⟩ ?_
      exact tsb
     ·refine wk ?_
      (apply st1 L rfl;exact F2 rfl lkr key;rfl)
      refine wk ?_
      refine ret X.f8 ?_
      exact⟨false,rfl,⟨(fun e=>by cases e),fun e=>absurd (e.2 _ hin) h6⟩,kps⟩
   ·rintro _ h2 ⟨w1,w2⟩
    rw [List.take_length]at w1
    refine wk ?_
    refine ret X.f8 ?_
    exact⟨true,rfl,⟨fun _=>⟨by omega,w1⟩,fun _=>rfl⟩,by exact kps⟩
end
end
section
variable {P0:Program}{E:Env}{F:T CFn}{K:T (List AV×AV)}(L:Lg P0 E F K)(X:Fx F K)
include L X
omit L X in
theorem Pl.new {nb P sz en S:Nat}{flt:Nat→Bool}(h0:2≤nb∧nb≤12)(h1:2≤P∧P≤6)(h2:12≤sz∧sz≤30)(h3:1≤en∧en≤1000):Pl (Ap.new (Dv.new nb P sz en flt) S) 0 (List.replicate S (List.replicate sz 0)):=by
 have hsel: ∀k,(Ap.new (Dv.new nb P sz en flt) S).sel k= -1:=fun k=>by cases k <;> rfl
 refine⟨⟨⟨h0,h1,h2,h3⟩,rfl,rfl,rfl,⟨fun k=>⟨fun h=>?_,?_⟩,fun k h=>?_⟩,fun b _=>Nat.zero_le _,fun b _ h=>?_,fun b _ _=>rfl,fun y h=>?_,fun h=>?_,fun h=>?_,fun s p h=>?_,fun s s' p h=>?_⟩,⟨?_,fun b n h=>?_,fun b=>Nat.le_refl _,Nat.le_refl _,Nat.le_refl _⟩,List.length_replicate,fun i d hi=>?_⟩
 ·rw [hsel]at h;omega
 ·rw [hsel];omega
 ·rw [hsel]at h;omega
 ·have h:(1:Nat)=2:=h;omega
 ·have h:false=true:=h;cases h
 ·have h:(0:Int)≤ -1:=h;omega
 ·have h:(0:Int)≤ -1:=h;omega
 ·have h:(none:Option Int)=some p:=h;cases h
 ·have h:(none:Option Int)=some p:=h;cases h
 ·show 0<1;omega
 ·have h:(none:Option Nat)=some n:=h;cases h
 ·rw [List.getElem?_replicate]at hi
  split at hi
  ·cases hi;rfl
  ·cases hi
section
variable {h:H}
theorem Vy {κ: Nat→Nat}{g0 g1 g2 g3 S:Nat}{v:AV}{fl:List Int}(hs:Tv ((g0:Nat):Int) ((g1:Nat):Int) ((g2:Nat):Int) ((g3:Nat):Int) ((S:Nat):Int))(qf:IntsR κ h v fl)(hf: ∀x∈fl,0≤x)(hfn:fl.length<1000):
  Ct P0 E F K 10 [.agg (Ll g0 g1 g2 g3),AI ((S:Nat):Int),v] h fun u h'=> ∃ab I κ' dv,u= .tup [.ptr ab 0,.agg [AI ((g2:Nat):Int),dv],.bool true]∧ApR κ' h' I (Ap.new (Dv.new g0 g1 g2 g3 (Mt fl)) S)∧Bk h' ab [.ptr I.s 0]∧κ' ab=0∧DkR h' (fun b=>κ' b=0) dv g2 (List.replicate S (List.replicate g2 0))∧K0 h h'∧ ∀b,b<h.n→κ' b=κ b:=by
 obtain⟨h0,h1,h2,h3,h4,h5,h6,h7,h8,h9⟩:=hs
 unfold Ll
 refine B3 L X.f10 X.k10 rfl rfl fun Q x cs G=>?_
 refine wk ?_
 have kk:K0 h (hp (h.n+1+1) h.t [(h.n+1,some (cl [AI ((0:Nat):Int),.nils])),(h.n,some (cl (Ll g0 g1 g2 g3)))]):=kps
 have qf1:IntsR (Ii κ h.n) (hp (h.n+1+1) h.t [(h.n+1,some (cl [AI ((0:Nat):Int),.nils])),(h.n,some (cl (Ll g0 g1 g2 g3)))]) v fl:=qf.fw ⟨kk.n,fun b hb _=>kk.old b hb id,fun b hb=>E4 hb⟩
 refine cal (c:=ve (g0:=g0) (g1:=g1) (g2:=g2) (g3:=g3) L X (by omega) (by omega) (by omega) (by omega) qf1 hf hfn) (g:=?_)
 rintro _ h2' ⟨d,κ2,rfl,k2,r2,c2⟩
 have n2:=k2.n
 simp only [Al]at n2 c2
 refine wk ?_
 refine cal (c:=px L X r2 (S:=S) (by omega) rfl (fun _ _=>rfl) (fun _ _=>Nat.zero_le _)) (g:=?_)
 rintro _ h3' ⟨ab,I,κ3,rfl,ka,ca,rfl,r3,k3,c3⟩
 have n3:=k3.n
 refine wk ?_
 refine cal (c:=pq (sz:=g2) (S:=S) L X (by omega) (by omega)) (g:=?_)
 rintro _ h4' ⟨dv,rfl,q4,k4⟩
 have n4:=k4.n
 refine wk ?_
 refine cal (c:=Gc L X) (g:=?_)
 rintro _ rfl
 refine wk ?_
 refine cal (c:=Gc L X) (g:=?_)
 rintro _ rfl
 refine wk ?_
 have hp9:=q4.plain (z:=((g2:Nat):Int))
 (apply stS L rfl rfl rfl rfl rfl hp9;exact lkp;rfl;rfl)
 refine wk ?_
 refine yr L X.f10 (qz rfl (Rc rfl (Bk.e lkp) rfl (Dd rfl))) G ?_
 have c9:κ3 (h.n+1)=200:=(c3 _ (by omega)).trans ((c2 _ (by omega)).trans (Dz (by omega)))
 have lka:=ka.lt
 have nab:ab≠h.n+1:=fun e=>by rw [e,c9]at ca;omega
 refine⟨ab,I,ext κ3 h3'.n,dv,rfl,(r3.k0 k4 fun b hb=>Af hb).out (B:=fun j=>j=h.n+1) ?_ (fun b _ e=>by subst e;rw [Af (by omega),c9];exact Nat.le_refl _),by exact lkp,(Af lka).trans ca,(q4.kp (B:=fun j=>j=h.n+1) ?_ fun b e _ u=>by have u9:h3'.n≤b:=u;omega).mono fun b _ u=>Bs u,kps,fun b hb=>(Af (by omega)).trans ((c3 b (by omega)).trans ((c2 b (by omega)).trans (E4 hb)))⟩
 ·exact kps
 ·exact kps
end
end
section
variable {P0:Program}{E:Env}{F:T CFn}{K:T (List AV×AV)}(L:Lg P0 E F K)(X:Fx F K)
include L X
structure Wk (P:Program)(E:Env)(F:T CFn)(K:T (List AV×AV)):Prop where
 ct: ∀h,Ct P E F K 9 [] h fun v h'=>v= .bool true∧h'=h
omit L X in
theorem AChX.fw0 {Y:Nat→Prop}{κ κ':Nat→Nat}{h h':H}(x:AChX Y κ h κ' h')(hY: ∀b,Y b→κ b=200):Fw κ h κ' h':=
 ⟨x.k.n,fun b hb hc=>x.k.old b hb (by
                     rintro(e|e);· omega
                     ·have:=hY b e;omega),x.col⟩
section
variable {h:H}{κ: Nat→Nat}
end
section
variable {h:H}{κ: Nat→Nat}
end
section
variable {h:H}{κ: Nat→Nat}
end
end
section
variable {P0:Program}{E:Env}{F:T CFn}{K:T (List AV×AV)}(L:Lg P0 E F K)(X:Fx F K)(Y:FxM F K)
include L X Y
section
variable {h:H}{κ: Nat→Nat}
theorem Lw {I:Ai}{S:Ap}{ab k:Nat}{dv:AV}{Z:List (List Nat)}(W:Wk P0 E F K)(r:ApR κ h I S)(ka:Bk h ab [.ptr I.s 0])(ca:κ ab=0)(q:DkR h (fun b=>κ b=0) dv S.D.sz Z)(hZ:0<Z.length∧Z.length≤10)(p:Pl S k Z)
  {lq:List (Nat×Option AV)} (ht:TSub (tms [(127,some (.agg [AI ((S.D.sz:Nat):Int),dv])),(126,some (.ptr ab 0))]) (tms lq)):
  Good P0 E (fun fn u=>fn=4∧u= .bool true) ⟨⟨4,cf4.ntmps,tms lq,[.ops [Cc 128 12 [.t 126,.t 127],Cv 129 128,Cg 130 129 true (.callv (.c (.fn (.func 9) [] [])) []),Cj 131 (.pick (.t 129) (.t 130) (.c (.bool false))),Cv 6 131],.code .ret],[],.run,false,none⟩,[],hp h.n h.t []⟩:=by
 refine En L ht ?_
 refine cal (c:=Tt L X r ka ca p q hZ) (g:=?_)
 rintro _ h3 ⟨κ3,rfl,r3,a3⟩
 refine wk ?_
 refine cal (c:=W.ct _) (g:=?_)
 try rintro _ _ ⟨rfl,rfl⟩
 try rintro _ rfl
 refine wk ?_
 refine Fj L (todo:= []) ?_
 exact fu L Y.f4 (Dd rfl) ⟨rfl,rfl⟩
theorem Vz {I:Ai}{S:Ap}{ab b3 b8 cb k:Nat}{dv:AV}{Z:List (List Nat)}{g2 g3:Nat}(T:Tb P0 E F K)(U:SortOk P0 E F 129)(W:Wk P0 E F K)(r:ApR κ h I S)(ka:Bk h ab [.ptr I.s 0])(ca:κ ab=0)(q:DkR h (fun b=>κ b=0) dv S.D.sz Z)(hZ:0<Z.length∧Z.length≤10)(p:Pl S k Z)(hk:k≤40000)(hS:S.S≤10)
  (k3:Bk h b3 (Ll S.D.nb S.D.P g2 g3)) (c3:κ b3=0) (k8:Bk h b8 [AI ((S.D.sz:Nat):Int),dv]) (c8:κ b8=200) (kcb:Bk h cb ((S.cds S.D.nb).flatMap (cdC S))) (ccb:κ cb=0)
  {lq:List (Nat×Option AV)} (ht:TSub (tms [(12,some (AI ((0:Nat):Int))),(11,some (.slc cb 0 (S.cds S.D.nb).length (Aa+4))),(8,some (.ptr b8 0)),(7,some (.ptr ab 0)),(3,some (.ptr b3 0))]) (tms lq)):
  Good P0 E (fun fn u=>fn=4∧u= .bool true) ⟨⟨4,cf4.ntmps,tms lq,[.code c4_77,.inBlock 2,.code c4_81],[],.run,false,none⟩,[],hp h.n h.t []⟩:=by
 have hlc:=Kq S S.D.nb
 have hnb:=p.inv.geo.nb
 refine Co L (α:= Ap×(Nat→Nat)) (T:=fun i _=> [(12,some (AI ((i:Nat):Int))),(11,some (.slc cb 0 (S.cds S.D.nb).length (Aa+4))),(8,some (.ptr b8 0)),(7,some (.ptr ab 0)),(3,some (.ptr b3 0))]) (n:=(S.cds S.D.nb).length)
  (R:=fun i a hh=>ApR a.2 hh I a.1∧AChg κ h a.2 hh∧Pl a.1 (k+1000*i) Z∧Sm S a.1∧ ∀j b,i≤j→(S.cds S.D.nb)[j]?=some b→Rest a.1 b (decide (valA S.A S.D.P b=0))) (i0:=0) (S,κ) ht
  ⟨r,AChg.refl _ _,p,⟨rfl,rfl,rfl,rfl,rfl⟩,fun j b _ hb=>?_⟩ (Nat.zero_le _) ?_ ?_
 ·obtain⟨g1,g2,g3⟩:=(Eb (S:=S) (b:=b) S.D.nb).1 (List.mem_of_getElem? hb)
  refine⟨g2,g3,fun he=>?_⟩
  have he:=of_decide_eq_true he
  refine List.length_eq_zero_iff.1 ?_
  unfold Ap.mv
  rw [Gr]
  exact he
 ·rintro i ⟨S1,κ1⟩ h1 hi ⟨r1,a1,p1,sm1,rest⟩ ih
  simp only at r1 a1 p1 sm1 rest
  obtain⟨ka1,ca1⟩:=a1.bk ka ca
  obtain⟨kcb1,ccb1⟩:=a1.bk kcb ccb
  obtain⟨k31,c31⟩:=a1.bk k3 c3
  obtain⟨k81,c81⟩:=a1.b2 k8 c8
  have q1:=a1.dk q
  rw [←sm1.sz]at q1 k81
  have hx:(S.cds S.D.nb)[i]?=some (S.cds S.D.nb)[i]:=List.getElem?_eq_getElem hi
  have hin:=(Eb (S:=S) S.D.nb).1 (List.getElem_mem hi)
  have hrest:=rest i _ (Nat.le_refl _) hx
  have hf0:((S.cds S.D.nb).flatMap (cdC S))[i*4+0]?=some (AI (((S.cds S.D.nb)[i]:Nat):Int)):=by rw [Cw _ (I3 S _) i 0 _ hx (by omega)];rfl
  have hf1:((S.cds S.D.nb).flatMap (cdC S))[i*4+1]?=some (AI ((valA S.A S.D.P (S.cds S.D.nb)[i]:Nat):Int)):=by rw [Cw _ (I3 S _) i 1 _ hx (by omega)];rfl
  have hdist: ∀j b',i+1≤j→(S.cds S.D.nb)[j]?=some b'→b'≠(S.cds S.D.nb)[i]:=fun j b' hj hb' e=>by
   obtain⟨l1,l2⟩:=List.getElem?_eq_some_iff.1 hb'
   have:=List.pairwise_iff_getElem.1 (jv S S.D.nb) i j hi l1 (by omega)
   rw [l2]at this;omega
  generalize (S.cds S.D.nb)[i]=b at*
  have l3:=k31.lt
  have l8:=k81.lt
  have lcb:=kcb1.lt
  refine wk ?_
  refine cal (c:=Nd L X r1 ka1) (g:=?_)
  rintro _ h2 ⟨κ2,rfl,r2,a2⟩
  obtain⟨ka2,ca2⟩:=a2.bk ka1 ca1
  obtain⟨kcb2,ccb2⟩:=a2.bk kcb1 ccb1
  refine wk ?_
  refine cal (c:=Rs L X T r2 ka2 p1.inv.iw p1.inv.dn ⟨p1.bd.last,by have:=p1.bd.nx;omega⟩ (by have:=p1.bd.dn;omega) (by rw [sm1.secs];omega) (fun b e hb h3 _=>p1.inv.mvH r2.dv.ok (by rw [sm1.secs];omega) p1.bd (by omega) b hb h3)) (g:=?_)
  rintro _ h3 ⟨e,S3,κ3,rfl,m,r3,a3⟩
  obtain⟨sm3,p3,he⟩:=p1.move r2.dv.ok m
  have hee:e=0∨e=7∧frees S3=0:=by
   rcases he with⟨h,_⟩|⟨_,h⟩|⟨_,_,h⟩
   ·exact h
   ·exact absurd ⟨by omega,by rw [sm1.nb];omega⟩ h
   ·exact absurd ⟨b,rfl,by rw [sm1.nb];exact hin.1,hrest.ps,hrest.jr⟩ h
  obtain⟨ka3,ca3⟩:=a3.bk ka2 ca2
  refine wk ?_
  refine cal (c:=Il L X r3 ka3 hee) (g:=?_)
  rintro _ h4 ⟨κ4,rfl,r4,a4⟩
  have a14:=(a2.trans a3).trans a4
  obtain⟨ka4,ca4⟩:=a14.bk ka1 ca1
  obtain⟨kcb4,ccb4⟩:=a14.bk kcb1 ccb1
  obtain⟨k34,c34⟩:=a14.bk k31 c31
  obtain⟨k84,c84⟩:=a14.b2 k81 c81
  have q4:=a14.dk q1
  have l3:=k34.lt
  have l8:=k84.lt
  have lcb:=kcb4.lt
  rcases hee with rfl|⟨rfl,-⟩
  rotate_left
  ·refine wk ?_
   refine cal (c:=Gc L X) (g:=?_)
   rintro _ rfl
   refine wk ?_
   rw [←sm3.sz]at q4
   rw [show S1.D.sz=S3.D.sz from sm3.sz.symm]
   refine Lw L X Y (h:=h4) W r4 ka4 ca4 q4 hZ p3 ?_
   exact tsb
  ·refine wk ?_
   refine cal (c:=Gc L X) (g:=?_)
   rintro _ rfl
   refine wk ?_
   refine cal (c:=Vw L X Y U r4 ka4) (g:=?_)
   rintro _ h5 ⟨κ5,D,d1,d2,d3,dc,r5,a5⟩
   have nxt: ∀j b',i+1≤j→(S.cds S.D.nb)[j]?=some b'→Rest S3 b' (decide (valA S.A S.D.P b'=0)):=fun j b' hj hb'=>
    m.rest p1.inv r2.dv.ok (by rw [sm1.nb];exact((Eb (S:=S) S.D.nb).1 (List.mem_of_getElem? hb')).1) (hdist j b' hj hb') (rest j b' (by omega) hb')
   have a15:=a14.trans a5
   have a05:=a1.trans a15
   obtain⟨ka5,ca5⟩:=a5.bk ka4 ca4
   obtain⟨kcb5,ccb5⟩:=a5.bk kcb4 ccb4
   obtain⟨k35,c35⟩:=a5.bk k34 c34
   have l3:=k35.lt
   have lcb:=kcb5.lt
   have hP:=p.inv.geo.P
   have smA:=sm1.trans sm3
   rcases d3.len with⟨e0,rfl⟩|⟨g1',eb,rfl,keb,leb⟩
   ·refine wk ?_
    refine A9 L ?_
    by_cases hv:valA S.A S.D.P b=0
    ·refine wk ?_
     refine cal (c:=Nd L X r5 ka5) (g:=?_)
     rintro _ h7 ⟨κ7,rfl,r7,a7⟩
     have hfr:frees S1≤frees S3:=m.free (hrest.mv (decide_eq_true hv))
     refine wk ?_
     refine ih (S3,κ7) _ _ ⟨r7,a05.trans a7,p3.mono (by omega),sm1.trans sm3,nxt⟩ ?_
     exact tsb
    ·refine wk ?_
     refine ih (S3,κ5) _ _ ⟨r5.k0 (Kp.refl _) fun _ _=>rfl,a05,p3.mono (by omega),sm1.trans sm3,nxt⟩ ?_
     exact tsb
   ·have leb5:=keb.lt
    have hDl:(B4 S3.A D).length=D.length:=by unfold B4;rw [List.length_map]
    refine wk ?_
    refine Co L (α:= Unit) (T:=fun k _=> [(16,some (AI ((k:Nat):Int))),(15,some (.slc eb 0 (B4 S3.A D).length (Aa+2))),(13,some (AI ((frees S1:Nat):Int))),(12,some (AI ((i:Nat):Int))),(11,some (.slc cb 0 (S.cds S.D.nb).length (Aa+4))),(8,some (.ptr b8 0)),(7,some (.ptr ab 0)),(3,some (.ptr b3 0))]) (n:=(B4 S3.A D).length)
     (R:=fun k _ hh=>K0 h5 hh) (i0:=0) () tsb (Kp.refl _) (Nat.zero_le _) ?_ ?_
    ·rintro k _ hh hk t1 ih2
     have hek:(B4 S3.A D)[k]?=some (B4 S3.A D)[k]:=List.getElem?_eq_getElem hk
     have hem:=List.getElem_mem hk
     have hld:((B4 S3.A D).flatMap Ay)[k*2+1]?=some (AI (B4 S3.A D)[k].2):=by rw [Cw _ (Id _) k 1 _ hek (by omega)];rfl
     generalize (B4 S3.A D)[k]=e at*
     obtain⟨s,hsD,hse⟩:=List.mem_map.1 hem
     obtain⟨pg,hpg⟩:=Option.isSome_iff_exists.1 ((d1.mem s).1 hsD)
     obtain⟨-,-,b1,j,m1,m2,m3,m4,m5,m6,m7⟩:=p3.inv.map s pg hpg
     have he2:e.2=((b1*S.D.P+j:Nat):Int):=by rw [←hse];show atA S3.A s=_;unfold atA;rw [hpg,m1,smA.P];rfl
     rw [he2]at hld
     rw [smA.P]at m3
     obtain⟨hdiv,-⟩:=O1 (b:=b1) m3
     have hbnd:b1*S.D.P+j<100000:=by
      have:=Nat.mul_le_mul (show b1≤12 by rw [smA.nb]at m2;omega) (show S.D.P≤6 by omega)
      omega
     generalize b1*S.D.P+j=pn at*
     have keb':=Ah t1 keb
     have kcb':=Ah t1 kcb5
     have k3':=Ah t1 k35
     have r':ApR κ5 hh I S3:=r5.k0 t1 fun _ _=>rfl
     have ka':=Ah t1 ka5
     by_cases hq:pn / S.D.P=b
     ·have hnx:0<(S3.D.bl b).nx:=by rw [←hq,hdiv];omega
      have hbn:b<S3.D.nb:=by rw [←hq,hdiv];exact m2
      refine wk ?_
      refine cal (c:=Zj L X Y r' ka') (g:=?_)
      rintro _ rfl
      refine wk ?_
      refine cal (c:=jm L X Y r'.dv hbn) (g:=?_)
      rintro _ rfl
      refine wk ?_
      refine ih2 () _ _ (by exact t1) ?_
      exact tsb
     ·refine wk ?_
      refine ih2 () _ _ (by exact t1) ?_
      exact tsb
    ·rintro _ hh t1
     have kcb':=Ah t1 kcb5
     have r':ApR κ5 hh I S3:=r5.k0 t1 fun _ _=>rfl
     have ka':=Ah t1 ka5
     have a06:AChg κ h κ5 hh:=a05.trans (AChg.k0 t1 fun _ _=>rfl)
     by_cases hv:valA S.A S.D.P b=0
     ·refine wk ?_
      refine cal (c:=Nd L X r' ka') (g:=?_)
      rintro _ h7 ⟨κ7,rfl,r7,a7⟩
      have hfr:frees S1≤frees S3:=m.free (hrest.mv (decide_eq_true hv))
      refine wk ?_
      refine ih (S3,κ7) _ _ ⟨r7,a06.trans a7,p3.mono (by omega),sm1.trans sm3,nxt⟩ ?_
      exact tsb
     ·refine wk ?_
      refine ih (S3,κ5) _ _ ⟨r'.k0 (Kp.refl _) fun _ _=>rfl,a06,p3.mono (by omega),sm1.trans sm3,nxt⟩ ?_
      exact tsb
 ·rintro⟨S1,κ1⟩ h1 ⟨r1,a1,p1,sm1,rest⟩
  simp only at r1 a1 p1 sm1
  obtain⟨ka1,ca1⟩:=a1.bk ka ca
  obtain⟨k81,c81⟩:=a1.b2 k8 c8
  have q1:=a1.dk q
  rw [←sm1.sz]at q1 k81
  have l8:=k81.lt
  rcases q1.ex with⟨rfl,-⟩|⟨-,lb,rows,rfl,-⟩
  ·exact absurd hZ.1 (Nat.lt_irrefl _)
  refine wk ?_
  refine Lw L X Y (h:=h1) W r1 ka1 ca1 q1 hZ p1 ?_
  exact tsb
end
end
section
variable {P0:Program}{E:Env}{F:T CFn}{K:T (List AV×AV)}(L:Lg P0 E F K)(X:Fx F K)(Y:FxM F K)
include L X Y
section
variable {h:H}{κ: Nat→Nat}
theorem V0 {I:Ai}{S0:Ap}{ab b3 b8 g2 g3:Nat}{dv lv:AV}{al:List Act}{Z0:List (List Nat)}(T:Tb P0 E F K)(U:SortOk P0 E F 129)(W:Wk P0 E F K)(r:ApR κ h I S0)(ka:Bk h ab [.ptr I.s 0])(ca:κ ab=0)(q:DkR h (fun b=>κ b=0) dv S0.D.sz Z0)(ql:AcR κ h lv al)(hF:Few al)(p:Pl S0 0 Z0)(hZ:0<Z0.length∧Z0.length≤10)
  (k3:Bk h b3 (Ll S0.D.nb S0.D.P g2 g3)) (c3:κ b3=0) (k8:Bk h b8 [AI ((S0.D.sz:Nat):Int),dv]) (c8:κ b8=200)
  {lq:List (Nat×Option AV)} (ht:TSub (tms [(10,some (AI ((0:Nat):Int))),(8,some (.ptr b8 0)),(7,some (.ptr ab 0)),(3,some (.ptr b3 0)),(2,some lv)]) (tms lq)):
  Good P0 E (fun fn u=>fn=4∧u= .bool true) ⟨⟨4,cf4.ntmps,tms lq,[.code c4_27,.inBlock 0,.code c4_83],[],.run,false,none⟩,[],hp h.n h.t []⟩:=by
 refine Co L (α:= Ap×List (List Nat)×(Nat→Nat)×AV) (T:=fun i _=> [(10,some (AI ((i:Nat):Int))),(8,some (.ptr b8 0)),(7,some (.ptr ab 0)),(3,some (.ptr b3 0)),(2,some lv)]) (n:=al.length)
  (R:=fun i a hh=>(ApR a.2.2.1 hh I a.1∧Bk hh ab [.ptr I.s 0]∧a.2.2.1 ab=0∧DkR hh (fun b=>a.2.2.1 b=0) a.2.2.2 S0.D.sz a.2.1∧AcR a.2.2.1 hh lv al)∧(Bk hh b3 (Ll S0.D.nb S0.D.P g2 g3)∧a.2.2.1 b3=0∧Bk hh b8 [AI ((S0.D.sz:Nat):Int),a.2.2.2]∧a.2.2.1 b8=200)∧Pl a.1 (1000*i) a.2.1∧Sm S0 a.1) (i0:=0) (S0,Z0,κ,dv) ht
  ⟨⟨r,ka,ca,q,ql⟩,⟨k3,c3,k8,c8⟩,p,rfl,rfl,rfl,rfl,rfl⟩ (Nat.zero_le _) ?_ ?_
 ·rintro i ⟨S,Z,κ1,dv1⟩ h1 hi ⟨⟨r1,ka1,ca1,q1,ql1⟩,⟨k31,c31,k81,c81⟩,p1,sm1⟩ ih
  simp only at r1 ka1 ca1 q1 ql1 k31 c31 k81 c81 p1 sm1
  have l3:=k31.lt
  have l8:=k81.lt
  have lka:=ka1.lt
  have k31':=k31
  rw [←sm1.nb]at k31'
  rw [←sm1.sz]at k81 q1
  have hZ1:0<Z.length∧Z.length≤10:=by rw [p1.len,sm1.secs,←p.len];exact hZ
  rcases q1.ex with⟨rfl,-⟩|⟨-,lb,rows,rfl,-⟩
  ·exact absurd hZ1.1 (Nat.lt_irrefl _)
  have hx:al[i]?=some al[i]:=List.getElem?_eq_getElem hi
  have hin:=List.getElem_mem hi
  have hdt:=E0 al (Nf al) i _ hx
  have hel:=ql1.el _ hin
  have hsl:=hF.2 _ hin
  have hi40:=hF.1
  rcases ql1.ex with⟨e,-⟩|⟨e,-⟩|⟨lvb,lvc,rfl,klv,clv⟩
  ·subst e;exact absurd hi (Nat.not_lt_zero i)
  ·subst e;exact absurd hi (Nat.not_lt_zero i)
  generalize al[i]=y at*
  obtain⟨⟨yw,yb,ys⟩,yv⟩:=y
  simp only at hel hsl
  have hdt:i*3+3≤(al.flatMap acC).length∧((al.flatMap acC).drop (i*3)).take 3= [AI yw,AI yb,yv]:=hdt
  have w0:AS κ1 h1 I S ab (.slc lb 0 Z.length (Aa+1)) S.D.sz Z yv ys:=⟨r1,ka1,ca1,q1,hel⟩
  refine wk ?_
  (apply C0 rfl rfl;exact Br (by exact lkr) hdt rfl)
  refine wk ?_
  refine cal (c:=v9 L X T U w0 p1 hZ1 (by omega) hsl (by omega) (by rw [sm1.secs,←p.len];omega)) (g:=?_)
  rintro _ h3 ⟨S',Z',κ',dv',rfl,w',p',sm',a'⟩
  have n3:=a'.k.n
  obtain⟨k83,c83⟩:=a'.b2 k81 c81
  obtain⟨k33,c33⟩:=a'.bk k31 c31
  have ql3:=ql1.fw a'.fw
  have hZ':0<Z'.length∧Z'.length≤10:=by rw [p'.len,sm'.secs,←p1.len];exact hZ1
  rcases w'.q.ex with⟨rfl,-⟩|⟨-,lb',rows',rfl,-⟩
  ·exact absurd hZ'.1 (Nat.lt_irrefl _)
  have l83:=k83.lt
  refine wk ?_
  (apply Qc L rfl rfl rfl rfl rfl rfl rfl;exact lkp;rfl;intro h9 hs9;(repeat(first|(apply C0 rfl rfl;exact opv)|(apply Uv rfl rfl)));(first|(apply p_0;exact chk)|(refine Ri L ?_ rfl ?_;exact chk));refine O9 L hs9 ?_)
  refine wk ?_
  have kO:Kp (fun j=>j=b8) h3 (hp h3.n h3.t [(b8,some (cl [AI ((S.D.sz:Nat):Int),.slc lb' 0 Z'.length (Aa+1)]))]):=kps
  have w3:=w'.own kO fun b _ e=>by subst e;exact c83
  have k85:Bk (hp h3.n h3.t [(b8,some (cl [AI ((S.D.sz:Nat):Int),.slc lb' 0 Z'.length (Aa+1)]))]) b8 [AI ((S.D.sz:Nat):Int),.slc lb' 0 Z'.length (Aa+1)]:=lkp
  have q5:=w3.q
  have e9:=sm1.sz
  have nb38: ¬b3=b8:=fun e=>by rw [e]at c33;omega
  refine ih (S',Z',κ',.slc lb' 0 Z'.length (Aa+1)) _ _ ⟨⟨w3.r,w3.ka,w3.ca,by rw [←e9];exact q5,ql3.fw (kO.fw fun b hb e=>by subst e;omega)⟩,⟨As kO nb38 k33,c33,by rw [←e9];exact k85,c83⟩,p'.mono (by omega),sm1.trans sm'⟩ ?_
  exact tsb
 ·rintro⟨S,Z,κ1,dv1⟩ h1 ⟨⟨r1,ka1,ca1,q1,ql1⟩,⟨k31,c31,k81,c81⟩,p1,sm1⟩
  simp only at r1 ka1 ca1 q1 ql1 k31 c31 k81 c81 p1 sm1
  rw [←sm1.nb,←sm1.P]at k31
  rw [←sm1.sz]at k81 q1
  have hZ1:0<Z.length∧Z.length≤10:=by rw [p1.len,sm1.secs,←p.len];exact hZ
  have hi40:=hF.1
  have hq0:=ql1.ex
  rcases hq0 with⟨e,rfl⟩|⟨e,a,rfl⟩|⟨lvb,lvc,rfl,-,-⟩
  all_goals
   (try(have hz:al.length=0:=by rw [e];rfl))
   refine wk ?_
   refine cal (c:=W7 L X r1 ka1 (fun b n e=>Nat.le_of_lt (p1.bd.wr b n e)) (by have:=p1.bd.nx;omega)) (g:=?_)
   rintro _ h2 ⟨κ2,cd,cc,r2,a2⟩
   obtain⟨ka2,ca2⟩:=a2.bk ka1 ca1
   obtain⟨k32,c32⟩:=a2.bk k31 c31
   obtain⟨k82,c82⟩:=a2.b2 k81 c81
   have q2:=a2.dk q1
   have l8:=k82.lt
   rcases cd.ex with⟨e0,rfl⟩|⟨g1,cb,rfl,kcb,-⟩
   ·rcases q2.ex with⟨rfl,-⟩|⟨-,lb,rows,rfl,-⟩
    ·exact absurd hZ1.1 (Nat.lt_irrefl _)
    refine wk ?_
    refine A9 L ?_
    refine wk ?_
    refine Lw L X Y (h:=h2) W r2 ka2 ca2 q2 hZ1 p1 ?_
    exact tsb
   ·refine wk ?_
    refine Vz L X Y (h:=h2) T U W r2 ka2 ca2 q2 hZ1 p1 (by omega) (by rw [sm1.secs,←p.len];omega) k32 c32 k82 c82 kcb (cc cb _ _ rfl) ?_
    exact tsb
theorem Zt {g0 g1 g2 g3 S:Int}{lv:AV}{al:List Act}(T:Tb P0 E F K)(U:SortOk P0 E F 129)(W:Wk P0 E F K)(ql:AcR κ h lv al):
  Good P0 E (fun fn u=>fn=4∧u= .bool true) ⟨⟨4,cf4.ntmps,tms [(2,some lv),(1,some (AI S)),(0,some (.agg (p9 g0 g1 g2 g3)))],[.code cf4.body],[],.run,false,none⟩,[],hp h.n h.t []⟩:=by
 by_cases hs:Tv g0 g1 g2 g3 S
 rotate_left
 ·refine wk ?_
  refine cal (c:=Zs L X hs) (g:=?_)
  rintro _ h1 ⟨rfl,k1⟩
  refine wk ?_
  refine cal (c:=W.ct _) (g:=?_)
  try rintro _ _ ⟨rfl,rfl⟩
  try rintro _ rfl
  refine wk ?_
  refine Fj L (todo:= []) ?_
  exact fu L Y.f4 (Dd rfl) ⟨rfl,rfl⟩
 have hs':=hs
 obtain⟨i0,i1,i2,i3,i4,i5,i6,i7,i8,i9⟩:=hs'
 obtain⟨n0,rfl⟩: ∃n:Nat,g0=n:=⟨g0.toNat,by omega⟩
 obtain⟨n1,rfl⟩: ∃n:Nat,g1=n:=⟨g1.toNat,by omega⟩
 obtain⟨n2,rfl⟩: ∃n:Nat,g2=n:=⟨g2.toNat,by omega⟩
 obtain⟨n3,rfl⟩: ∃n:Nat,g3=n:=⟨g3.toNat,by omega⟩
 obtain⟨nS,rfl⟩: ∃n:Nat,S=n:=⟨S.toNat,by omega⟩
 refine wk ?_
 refine cal (c:=Zr L X hs) (g:=?_)
 rintro _ h1 ⟨rfl,k1⟩
 have m1:=k1.n
 simp only [Al]at m1
 have kk1:K0 h h1:=Kp.tr0 k1 (by exact kps)
 have fwd: ∀{h1:H},K0 h h1→Fw κ h (ext κ h.n) h1:=fun k=>⟨k.n,fun b hb _=>k.old b hb id,fun b hb=>Af hb⟩
 have kb:Bk h1 h.n (Ll n0 n1 n2 n3):=Ah k1 (by exact lkp)
 have lb:=kb.lt
 refine wk ?_
 have fct:=wa L X (ql.fw (fwd kk1))
 (refine rn L rfl rfl rfl rfl fct ?_)
 rintro _ h2 ⟨b,rfl,hb,k2⟩
 have m2:=k2.n
 have kk2:K0 h h2:=Kp.tr0 k2 kk1
 have kb2:=Ah k2 kb
 cases b with
 |false=>
  refine wk ?_
  refine cal (c:=W.ct _) (g:=?_)
  try rintro _ _ ⟨rfl,rfl⟩
  try rintro _ rfl
  refine wk ?_
  refine Fj L (todo:= []) ?_
  exact fu L Y.f4 (Dd rfl) ⟨rfl,rfl⟩
 |true=>
  have hF:=hb.1 rfl
  have lb2:=kb2.lt
  refine wk ?_
  refine cal (c:=Vy L X (κ:= ext κ h.n) (g0:=n0) (g1:=n1) (g2:=n2) (g3:=n3) (S:=nS) (v:= .nils) (fl:= []) hs ⟨.inl ⟨rfl,rfl⟩⟩ (by intro x hx;cases hx) (by simp)) (g:=?_)
  rintro _ h4 ⟨ab,I,κ4,dv,rfl,r4,ka4,ca4,q4,k4,c4⟩
  have m4:=k4.n
  have kb4:=Ah k4 kb2
  have lkb4:=kb4.lt
  have lka4:=ka4.lt
  have cb4:κ4 h.n=0:=(c4 _ lb2).trans (Bs (Nat.le_refl _))
  rcases q4.ex with⟨e,-⟩|⟨-,lbz,rows,rfl,-⟩
  ·have:=congrArg List.length e;rw [List.length_replicate,List.length_nil]at this;omega
  refine wk ?_
  have k0:K0 h4 (hp (h4.n+1) h4.t [(h4.n,some (cl [AI ((n2:Nat):Int),.slc lbz 0 (List.replicate nS (List.replicate n2 0)).length (Aa+1)])),(h4.n,some (cl [AI ((0:Nat):Int),.nils]))]):=kps
  have hc: ∀b,b<h4.n→upd κ4 h4.n 200 b=κ4 b:=fun b hb=>upd_ne _ _ (by omega)
  have ql4:AcR κ4 h4 lv al:=(ql.fw (fwd kk2)).fw ⟨k4.n,fun b hb _=>k4.old b hb id,c4⟩
  refine V0 L X Y (κ:= upd κ4 h4.n 200) (S0:=Ap.new (Dv.new n0 n1 n2 n3 (Mt [])) nS) (Z0:=List.replicate nS (List.replicate n2 0)) (h:=hp (h4.n+1) h4.t [(h4.n,some (cl [AI ((n2:Nat):Int),.slc lbz 0 (List.replicate nS (List.replicate n2 0)).length (Aa+1)])),(h4.n,some (cl [AI ((0:Nat):Int),.nils]))]) (I:=I) (ab:=ab) (b3:=h.n) (b8:=h4.n) (g2:=n2) (g3:=n3) (lv:=lv) (al:=al) T U W (r4.k0 k0 hc) (by exact lkp) ((hc ab ka4.lt).trans ca4) (((q4.mono fun b hb u=>⟨hb,u⟩:DkR h4 (fun b=>b<h4.n∧κ4 b=0) _ n2 _).k0 k0).mono fun b _ u=>(hc b u.1).trans u.2) (ql4.fw ⟨k0.n,fun b hb _=>k0.old b hb id,hc⟩) hF (Pl.new (by omega) (by omega) (by omega) (by omega)) (by rw [List.length_replicate];omega) (by exact lkp) ((hc h.n (by omega)).trans cb4) (by exact lkp) (upd_eq _ _ _) ?_
  exact tsb
end
end
end Go.Ev
