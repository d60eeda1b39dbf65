/- Part of the proof. -/
import Derived.Test.YtgkianlpkdfhkaaGreatT19
set_option linter.unusedVariables false
set_option linter.unusedSectionVars false
set_option linter.unusedSimpArgs false
set_option maxRecDepth 10000
set_option maxHeartbeats 4000000
namespace Go.Ev
section
variable {P0:Program}{E:Env}{F:T CFn}{K:T (List AV×AV)}(L:Lg P0 E F K)(X:Fx F K)
include L X
structure AS (κ: Nat→Nat)(h:H)(I:Ai)(S:Aqs)(ab:Nat)(dv:AV)(sz:Nat)(Z:List (List Nat))(sv:AV)(secs:List Int):Prop where
 r:ApR κ h I S
 ka:Bk h ab [.ptr I.s 0]
 ca:κ ab=0
 q:DkR h (fun b=>κ b=0) dv sz Z
 qs:IntsR κ h sv secs
omit L X in
theorem AS.chg {κ κ':Nat→Nat}{h h':H}{I:Ai}{S S':Aqs}{ab sz:Nat}{dv sv:AV}{Z:List (List Nat)}{secs:List Int}(w:AS κ h I S ab dv sz Z sv secs)(a:AChg κ h κ' h')(r:ApR κ' h' I S'):AS κ' h' I S' ab dv sz Z sv secs:=
 ⟨r,(a.bk w.ka w.ca).1,(a.bk w.ka w.ca).2,a.dk w.q,w.qs.fw a.fw⟩
omit L X in
theorem AS.own {κ: Nat→Nat}{h h':H}{I:Ai}{S:Aqs}{ab sz:Nat}{dv sv:AV}{Z:List (List Nat)}{secs:List Int}{B:Nat→Prop}(w:AS κ h I S ab dv sz Z sv secs)(k:Kp B h h')(hb: ∀b,b<h.n→B b→κ b=200):AS κ h' I S ab dv sz Z sv secs:=
 ⟨w.r.out k fun b hl e=>by rw [hb b hl e];exact Nat.le_refl _,As k (fun e=>by have:=hb _ w.ka.lt e;rw [w.ca]at this;omega) w.ka,w.ca,w.q.kp k fun b e hl u=>by have:=hb b hl e;omega,w.qs.fw (k.fw fun b hl e=>by have:=hb b hl e;omega)⟩
omit L X in
theorem AS.disk {κ: Nat→Nat}{h:H}{I:Ai}{S:Aqs}{ab sz:Nat}{dv dv' sv:AV}{Z Z':List (List Nat)}{secs:List Int}(w:AS κ h I S ab dv sz Z sv secs)(q:DkR h (fun b=>κ b=0) dv' sz Z'):AS κ h I S ab dv' sz Z' sv secs:=⟨w.r,w.ka,w.ca,q,w.qs⟩
omit L X in
theorem GrR.chg {κ κ':Nat→Nat}{h h':H}{lo sz:Nat}{v:AV}{l:List GW}{δ: Nat→List Nat}(q:GrR h lo v sz l δ)(a:AChg κ h κ' h')(hc: ∀b,lo≤b→κ b=0):GrR h' lo v sz l δ:= by
 rcases q.ex with h1|⟨h1,gb,h2,h3,h4,h5⟩
 ·exact⟨.inl h1⟩
 ·exact⟨.inr ⟨h1,gb,h2,(a.bk h3 (hc gb h4)).1,h4,fun i s b o c e=>let⟨g1,g2,g3,g4⟩:=h5 i s b o c e;⟨(a.bs g1 (hc b g3)).1,g2,g3,g4⟩⟩⟩
omit L X in
theorem AS.chgX {κ κ':Nat→Nat}{h h':H}{I:Ai}{S S':Aqs}{ab sz:Nat}{dv sv:AV}{Z:List (List Nat)}{secs:List Int}{Y:Nat→Prop}(w:AS κ h I S ab dv sz Z sv secs)(a:AChX Y κ h κ' h')(hY: ∀b,b<h.n→Y b→κ b=200)(r:ApR κ' h' I S'):AS κ' h' I S' ab dv sz Z sv secs:=
 have nb: ∀b,b<h.n→κ b=0→ ¬((1≤κ b∧κ b<200)∨Y b):=fun b hl hc e=>by
  rcases e with e|e
  ·omega
  ·have:=hY b hl e;omega
 ⟨r,As a.k (nb _ w.ka.lt w.ca) w.ka,(a.col _ w.ka.lt).trans w.ca,((w.q.mono fun b hb u=>⟨hb,u⟩:DkR h (fun b=>b<h.n∧κ b=0) dv sz Z).kp a.k fun b e hl u=>nb b hl u.2 e).mono fun b _ u=>(a.col b u.1).trans u.2,w.qs.fw ⟨a.k.n,fun b hb hc=>a.k.old b hb (nb b hb hc),a.col⟩⟩
omit L X in
theorem AChX.comp {κ κ1 κ2:Nat→Nat}{h h1 h2:H}{Y Y':Nat→Prop}(a:AChg κ h κ1 h1)(x:AChX Y κ1 h1 κ2 h2)(hY: ∀b,b<h.n→Y b→Y' b):AChX Y' κ h κ2 h2:=
 ⟨Kp.trS x.k (fun i hi e=>by
   rcases e with e|e
   ·rw [a.col i hi]at e;exact .inl e
   ·exact .inr (hY i hi e)) (a.k.mono fun b e=> .inl e),fun b hb=>(x.col b (Nat.lt_of_lt_of_le hb a.k.n)).trans (a.col b hb)⟩
omit L X in
theorem AChX.comp2 {κ κ1 κ2:Nat→Nat}{h h1 h1' h2:H}{B Y Y':Nat→Prop}(a:AChg κ h κ1 h1)(k:Kp B h1 h1')(x:AChX Y κ1 h1' κ2 h2)(hB: ∀b,b<h.n→B b→Y' b)(hY: ∀b,b<h.n→Y b→Y' b):AChX Y' κ h κ2 h2:=
 ⟨Kp.trS x.k (fun i hi e=>by
   rcases e with e|e
   ·rw [a.col i hi]at e;exact .inl e
   ·exact .inr (hY i hi e)) (Kp.trS k (fun i hi e=> .inr (hB i hi e)) (a.k.mono fun b e=> .inl e)),fun b hb=>(x.col b (Nat.lt_of_lt_of_le (Nat.lt_of_lt_of_le hb a.k.n) k.n)).trans (a.col b hb)⟩
section
variable {h:H}{κ: Nat→Nat}{I:Ai}{S:Aqs}
theorem Xb {n0 e sz lb m:Nat}{lq:List (Nat×Option AV)}{Q:Nat→AV→Prop}{x:AFr}{cs:List AFr}(he:e≠0)(k6:Bk h n0 [AI ((sz:Nat):Int),.slc lb 0 m (Aa+1)])(k10:Bk h (n0+1+1) [AI ((0:Nat):Int),.nils])
  (ht:TSub (tms [(40,some (AI ((e:Nat):Int))),(14,some (AI ((e:Nat):Int))),(10,some (.ptr (n0+1+1) 0)),(6,some (.ptr n0 0))]) (tms lq))
  (G: ∀v h',v= .tup [.agg [AI ((sz:Nat):Int),.slc lb 0 m (Aa+1)],.bool true]∧Kp (fun j=>j=n0+1+1) h h'→GO P0 E Q (finish v cs h' x)):
  Good P0 E Q ⟨⟨11,cf11.ntmps,tms lq,[.ops [Cv 15 40],.code c11_18,.inBlock 0,.code c11_61],[],.run,false,none⟩,x::cs,hp h.n h.t []⟩:=by
 refine Ek L ht ?_
 have l6:=k6.lt
 have l10:=k10.lt
 refine wk ?_
 refine cal (c:=If L X) (g:=?_)
 rintro _ rfl
 refine wk ?_
 (apply Ow L rfl rfl rfl rfl rfl rfl rfl;exact lkp;rfl;intro h9 hs9;(repeat(first|(apply Ca rfl rfl;exact opv)|(apply Su rfl rfl)));(first|(apply p_0;exact chk)|(refine Pi L ?_ rfl ?_;exact chk));refine Oh L hs9 ?_)
 refine wk ?_
 refine ret X.f11 ?_
 exact⟨rfl,kps⟩
theorem Tv {ab n0 e sz lb m:Nat}{lq:List (Nat×Option AV)}{Q:Nat→AV→Prop}{x:AFr}{cs:List AFr}(r:ApR κ h I S)(ka:Bk h ab [.ptr I.s 0])(he:e=0∨e=7∧frees S=0)(k6:Bk h n0 [AI ((sz:Nat):Int),.slc lb 0 m (Aa+1)])(k10:Bk h (n0+1+1) [AI ((0:Nat):Int),.nils])(c6:κ n0=200)(c10:κ (n0+1+1)=200)
  (ht:TSub (tms [(15,some (AI ((e:Nat):Int))),(10,some (.ptr (n0+1+1) 0)),(6,some (.ptr n0 0)),(0,some (.ptr ab 0))]) (tms lq))
  (G: ∀v h',(∃κ',v= .tup [.agg [AI ((sz:Nat):Int),.slc lb 0 m (Aa+1)],.bool true]∧ApR κ' h' I S∧AChX (fun j=>j=n0+1+1) κ h κ' h')→GO P0 E Q (finish v cs h' x)):
  Good P0 E Q ⟨⟨11,cf11.ntmps,tms lq,[.code c11_15,.code .ret,.inBlock 0,.code c11_61],[],.run,false,none⟩,x::cs,hp h.n h.t []⟩:=by
 refine Ek L ht ?_
 have l6:=k6.lt
 have l10:=k10.lt
 refine wk ?_
 refine cal (c:=Ks L X r ka he) (g:=?_)
 rintro _ h2 ⟨κ2,rfl,r2,a2⟩
 obtain⟨k6',c6'⟩:=a2.b2 k6 c6
 obtain⟨k10',c10'⟩:=a2.b2 k10 c10
 have l6:=k6'.lt
 have l10:=k10'.lt
 refine wk ?_
 (apply Ow L rfl rfl rfl rfl rfl rfl rfl;exact lkp;rfl;intro h9 hs9;(repeat(first|(apply Ca rfl rfl;exact opv)|(apply Su rfl rfl)));(first|(apply p_0;exact chk)|(refine Pi L ?_ rfl ?_;exact chk));refine Oh L hs9 ?_)
 refine wk ?_
 refine ret X.f11 ?_
 refine⟨κ2,rfl,r2.out (B:=fun j=>j=n0+1+1) ?_ (fun b _ e=>by subst e;omega),⟨Kp.trS (S':=fun j=>j=n0+1+1) ?_ (fun i _ e=> .inr e) (a2.k.mono fun b e=> .inl e),a2.col⟩⟩
 ·exact kps
 ·exact kps
theorem Zn {ab k n n0:Nat}{dv sv:AV}{Z:List (List Nat)}{secs:List Int}{lq:List (Nat×Option AV)}{Q:Nat→AV→Prop}{x:AFr}{cs:List AFr}(T:Tb P0 E F K)(w:AS κ h I S ab dv S.D.sz Z sv secs)(p:Pl S k Z)(hZ:0<Z.length∧Z.length≤10)(hk:k≤40000)(hsl:secs.length≤6)(hn:n<100000)(hS:S.S≤10)
  (k6:Bk h n0 [AI ((S.D.sz:Nat):Int),dv]) (c6:κ n0=200) (k10:Bk h (n0+1+1) [AI ((0:Nat):Int),.nils]) (c10:κ (n0+1+1)=200)
  (ht:TSub (tms [(33,some (AI ((n:Nat):Int))),(32,some sv),(30,some (AI ((S.D.sz:Nat):Int))),(10,some (.ptr (n0+1+1) 0)),(6,some (.ptr n0 0)),(0,some (.ptr ab 0))]) (tms lq))
  (G: ∀v h',(∃S' Z' κ' dv',v= .tup [.agg [AI ((S.D.sz:Nat):Int),dv'],.bool true]∧AS κ' h' I S' ab dv' S.D.sz Z' sv secs∧Pl S' (k+1000) Z'∧Sm S S'∧AChX (fun b=>n0≤b) κ h κ' h')→GO P0 E Q (finish v cs h' x)):
  Good P0 E Q ⟨⟨11,cf11.ntmps,tms lq,[.ops [Cc 34 37 [.t 30,.t 32,.t 33],Cv 13 34],.code c11_20,.inBlock 0,.code c11_61],[],.run,false,none⟩,x::cs,hp h.n h.t []⟩:=by
 refine Ek L ht ?_
 have hsz:=w.r.dv.ok.g.sz
 have l6:=k6.lt
 have l10:=k10.lt
 refine cal (c:=Zj L X w.qs hsz hsl hn) (g:=?_)
 rintro gv h2 ⟨l,δ,g,hkeys,kk⟩
 have n2:=kk.n
 have hll:l.length=secs.length:=by rw [←hkeys,List.length_map]
 refine wk ?_
 refine cal (c:=Zk L X (w.q.k0 kk) hZ g (by omega) hsz) (g:=?_)
 rintro _ h3 ⟨rfl,k3⟩
 have n3:=k3.n
 have kk3:K0 h h3:=Kp.tr0 k3 kk
 have a3:AChg κ h (ext κ h.n) h3:=AChg.k0 kk3 fun b hb=>Af hb
 have w3:=w.chg a3 (w.r.k0 kk3 fun b hb=>Af hb)
 have g3:=g.k0 k3
 refine wk ?_
 have hee:Dd Z.length false (l.map (·.1))=Dd S.S S.down (l.map (·.1)):=by rw [p.len,p.inv.dn]
 obtain⟨-,k6a,c6a⟩:True∧_∧_:=⟨trivial,a3.b2 k6 c6⟩
 obtain⟨-,k10a,c10a⟩:True∧_∧_:=⟨trivial,a3.b2 k10 c10⟩
 rcases w.q.ex with⟨rfl,rfl⟩|⟨-,lb,rows,rfl,-⟩
 ·exact absurd hZ.1 (Nat.lt_irrefl _)
 rcases g3.ex with⟨rfl,rfl⟩|⟨g1,gb,rfl,kb,g4,g5⟩
 ·refine cal (c:=Vp L X w3.r w3.ka) (g:=?_)
  rintro _ h4 ⟨κ4,rfl,r4,a4⟩
  obtain⟨k6b,c6b⟩:=a4.b2 k6a c6a
  obtain⟨k10b,c10b⟩:=a4.b2 k10a c10a
  have e2:Dd Z.length false (([]:List GW).map (·.1))=2:=rfl
  rw [e2]
  refine Xb L X (h:=h4) (n0:=n0) (e:=2) (by omega) k6b k10b tsb ?_
  rintro _ h5 ⟨rfl,k5⟩
  exact G _ _ ⟨S,Z,κ4,_,rfl,(w3.chg a4 r4).own k5 (fun b _ e=>by subst e;exact c10b),p.mono (by omega),⟨rfl,rfl,rfl,rfl,rfl⟩,Kp.trS k5 (fun i _ e=> .inr (by omega)) ((a3.trans a4).k.mono fun b e=> .inl e),(a3.trans a4).col⟩
 ·have hne:l≠[]:=fun e=>by rw [e]at g1;exact absurd g1 (Nat.lt_irrefl _)
  have hx: ∀b,h.n≤b→ext κ h.n b=0:=fun b hb=>Bo hb
  refine cal (c:=Za (δ:= δ) L X T w3.r w3.ka p.inv.iw (by omega) kb (hx gb g4) hne (by omega) (fun i s b o c e=>let⟨x1,x2,x3,_⟩:=g5 i s b o c e;⟨x1,hx b x3,x2⟩) ⟨p.bd.last,by have:=p.bd.nx;omega⟩ (by have:=p.bd.dn;omega) (fun hc es S' a=>a.ok p.inv fun y hy=>Kn hc y.1 (by rw [←Kt δ l];exact List.mem_map.2 ⟨y,hy,rfl⟩))) (g:=?_)
  rintro _ h4 ⟨e,S4,κ4,rfl,ao,r4,a4⟩
  obtain⟨k6b,c6b⟩:=a4.b2 k6a c6a
  obtain⟨k10b,c10b⟩:=a4.b2 k10a c10a
  have w4:=w3.chg a4 r4
  have g4':=g3.chg a4 hx
  rw [hee]
  cases ao with
  |bad hb=>
   refine Xb L X (h:=h4) (n0:=n0) hb k6b k10b tsb ?_
   rintro _ h5 ⟨rfl,k5⟩
   exact G _ _ ⟨S,Z,κ4,_,rfl,w4.own k5 (fun b _ e=>by subst e;exact c10b),p.mono (by omega),⟨rfl,rfl,rfl,rfl,rfl⟩,Kp.trS k5 (fun i _ e=> .inr (by omega)) ((a3.trans a4).k.mono fun b e=> .inl e),(a3.trans a4).col⟩
  | @run _ o hc ho a=>
   rw [hc]
   obtain⟨sm,p1,p2⟩:=p.append (by omega) (fun i s b o c e=>(g5 i s b o c e).2.1) hc a
   by_cases hod:o= .done 0
   ·subst hod
    rw [show eOf (.done 0)=0 from rfl]
    refine wk ?_
    refine cal (c:=If L X) (g:=?_)
    rintro _ rfl
    refine wk ?_
    have hrl: ∀x∈l,0≤x.1∧x.1<((Z.length:Nat):Int):=fun x hx=>by rw [p.len];exact Kn hc x.1 (List.mem_map.2 ⟨x,hx,rfl⟩)
    refine cal (c:=Zm L X (V:=fun b=>ext κ4 h4.n b=0) (w4.q.mono fun b hb u=>(Af hb).trans u) (fun b hb=>Bo hb) hZ g4' (by omega) hsz hrl) (g:=?_)
    rintro _ h5 ⟨dv',rfl,q5,k5⟩
    have n5:=k5.n
    have a5:AChg κ4 h4 (ext κ4 h4.n) h5:=AChg.k0 k5 fun b hb=>Af hb
    have w5:=(w4.chg a5 (r4.k0 k5 fun b hb=>Af hb)).disk q5
    obtain⟨k6c,c6c⟩:=a5.b2 k6b c6b
    obtain⟨k10c,c10c⟩:=a5.b2 k10b c10b
    rcases q5.ex with⟨e0,-⟩|⟨z1,lb',rows',rfl,-⟩
    ·have:=congrArg List.length e0;rw [Iz]at this;simp only [List.length_nil]at this;omega
    (apply stS L rfl rfl rfl rfl rfl rfl;exact lkp;rfl;rfl)
    have k6l:=k6c.lt
    have w6:=w5.own (B:=fun j=>j=n0) (h':=hp h5.n h5.t [(n0,some (cl [AI ((S.D.sz:Nat):Int),.slc lb' 0 (apW S.D.sz δ Z l).length (Aa+1)]))]) kps fun b _ e=>by subst e;exact c6c
    refine Tv L X (κ:= ext κ4 h4.n) (h:=hp h5.n h5.t [(n0,some (cl [AI ((S.D.sz:Nat):Int),.slc lb' 0 (apW S.D.sz δ Z l).length (Aa+1)]))]) (n0:=n0) (e:=0) w6.r w6.ka (.inl rfl) (by exact lkp) (by exact lkp) c6c c10c tsb ?_
    rintro _ h7 ⟨κ7,rfl,r7,a7⟩
    refine G _ _ ⟨S4,_,κ7,_,rfl,w6.chgX a7 (fun b _ e=>by subst e;exact c10c) r7,p1 rfl,sm,?_⟩
    have ke:Kp (fun j=>j=n0) h5 (hp h5.n h5.t [(n0,some (cl [AI ((S.D.sz:Nat):Int),.slc lb' 0 (apW S.D.sz δ Z l).length (Aa+1)]))]):=kps
    refine AChX.comp2 ((a3.trans a4).trans a5) ke (AChX.mk a7.k a7.col) (fun b _ e=>by omega) (fun b _ e=>by omega)
   ·obtain⟨rfl,hf,p3⟩:=p2 hod
    rw [show eOf .full=7 from rfl]
    refine wk ?_
    refine cal (c:=If L X) (g:=?_)
    rintro _ rfl
    (apply st1 L rfl;exact qw rfl rfl (by omega);rfl)
    refine Tv L X (h:=h4) (n0:=n0) (e:=7) r4 w4.ka (.inr ⟨rfl,hf⟩) k6b k10b c6b c10b tsb ?_
    rintro _ h5 ⟨κ5,rfl,r5,a5⟩
    exact G _ _ ⟨S4,Z,κ5,_,rfl,w4.chgX a5 (fun b _ e=>by subst e;exact c10b) r5,p3,sm,AChX.comp (a3.trans a4) a5 fun b _ e=>by omega⟩
end
end
section
variable {P0:Program}{E:Env}{F:T CFn}{K:T (List AV×AV)}(L:Lg P0 E F K)(X:Fx F K)
include L X
omit L X in
def Aqs.cand (S:Aqs)(y:Int):Prop:= ∃b:Nat,y=((b:Nat):Int)∧b<S.D.nb∧S.ps b=3∧S.jr ((b:Nat):Int)=false
omit L X in
theorem I0 {S:Aqs}{b:Nat}: ∀n,b∈S.cds n↔b<n∧S.ps b=3∧S.jr ((b:Nat):Int)=false
 |0=>by simp [Aqs.cds]
 |n+1=>by
  simp only [Aqs.cds]
  split
  ·rename_i h
   rw [List.mem_append,List.mem_singleton,I0 n]
   constructor
   ·rintro(⟨h1,h2⟩|rfl)
    ·exact⟨by omega,h2⟩
    ·exact⟨by omega,h⟩
   ·rintro⟨h1,h2⟩
    by_cases e:b=n
    ·exact .inr e
    ·exact .inl ⟨by omega,h2⟩
  ·rename_i h
   rw [I0 n]
   constructor
   ·rintro⟨h1,h2⟩;exact⟨by omega,h2⟩
   ·rintro⟨h1,h2⟩
    have:b≠n:=fun e=>by subst e;exact h h2
    exact⟨by omega,h2⟩
omit L X in
theorem Pl.move {S S':Aqs}{k e:Nat}{y:Int}{Z:List (List Nat)}(p:Pl S k Z)(ok:S.D.Ok)(m:MoveO y S e S'):
  Sm S S'∧Pl S' (k+1000) Z∧((e=0∨e=7∧frees S'=0)∧S.cand y∨e=3∧ ¬(0≤y∧y<((S.D.nb:Nat):Int))∨e=8∧(0≤y∧y<((S.D.nb:Nat):Int))∧ ¬S.cand y):=by
 cases m with
 |rng h=>exact⟨⟨rfl,rfl,rfl,rfl,rfl⟩,p.mono (by omega),.inr (.inl ⟨rfl,h⟩)⟩
 | @st b e hb h=>
  refine⟨⟨rfl,rfl,rfl,rfl,rfl⟩,p.mono (by omega),.inr (.inr ⟨rfl,⟨by omega,by omega⟩,?_⟩)⟩
  rintro⟨b',e',h1,h2,h3⟩
  have:b'=b:=by omega
  subst this
  rcases h with h|h
  ·exact h h2
  ·rw [h3]at h;cases h
 | @run b S' o e hb h1 h2 ho m=>
  obtain⟨q',sm,bd,hp,hf,hrd⟩:=m.inv p.inv ok p.bd hb h1 h2
  refine⟨sm,p.same q' sm bd hrd,.inl ⟨?_,b,e,hb,h1,h2⟩⟩
  rcases ho with rfl|rfl|rfl
  ·exact .inl rfl
  ·exact .inr ⟨rfl,Rx fun i hi=>hf rfl i (by rw [←sm.nb];exact hi)⟩
  ·exact absurd rfl hp
omit L X in
theorem Pl.ck {S S':Aqs}{k:Nat}{o:WO}{Z:List (List Nat)}(p:Pl S k Z)(hS:S.S≤10)(ho:o= .done 0∨o= .full∨o= .pow)(m:CkO S S' o):Sm S S'∧Pl S' (k+1000) Z∧(eOf o=0∨eOf o=7∧frees S'=0):=by
 obtain⟨q',sm,bd,hp,hf,hrd⟩:=m.inv p.inv p.bd hS
 refine⟨sm,p.same q' sm bd hrd,?_⟩
 rcases ho with rfl|rfl|rfl
 ·exact .inl rfl
 ·exact .inr ⟨rfl,Rx fun i hi=>hf rfl i (by rw [←sm.nb];exact hi)⟩
 ·exact absurd rfl hp
section
variable {h:H}{κ: Nat→Nat}{I:Ai}{S:Aqs}
theorem vt {ab k n0 lb:Nat}{sv:AV}{Z:List (List Nat)}{secs:List Int}{lq:List (Nat×Option AV)}{Q:Nat→AV→Prop}{x:AFr}{cs:List AFr}(T:Tb P0 E F K)(U:SortOk P0 E F 129)(w:AS κ h I S ab (.slc lb 0 Z.length (Aa+1)) S.D.sz Z sv secs)(p:Pl S k Z)(hk:k≤40000)(hS:S.S≤10)
  (k6:Bk h n0 [AI ((S.D.sz:Nat):Int),.slc lb 0 Z.length (Aa+1)]) (c6:κ n0=200) (k10:Bk h (n0+1+1) [AI ((0:Nat):Int),.nils]) (c10:κ (n0+1+1)=200)
  (ht:TSub (tms [(132,some (.ptr ab 0)),(131,some (.ptr ab 0)),(130,some (.agg [AI ((S.D.sz:Nat):Int),.slc lb 0 Z.length (Aa+1)])),(10,some (.ptr (n0+1+1) 0)),(6,some (.ptr n0 0)),(0,some (.ptr ab 0))]) (tms lq))
  (G: ∀v h',(∃S' Z' κ' dv',v= .tup [.agg [AI ((S.D.sz:Nat):Int),dv'],.bool true]∧AS κ' h' I S' ab dv' S.D.sz Z' sv secs∧Pl S' (k+1000) Z'∧Sm S S'∧AChX (fun b=>n0≤b) κ h κ' h')→GO P0 E Q (finish v cs h' x)):
  Good P0 E Q ⟨⟨11,cf11.ntmps,tms lq,[.drawn ⟨⟨Cc 133 40 [.t 132],[132]⟩,[],[⟨Cn 130 2 6,[6]⟩,⟨Cv 131 0,[0]⟩]⟩ [⟨⟨Cc 134 16 [.t 131,.t 133],[131,133]⟩,[],[⟨Cn 130 2 6,[6]⟩]⟩,⟨⟨Cs 2 10 130,[10,130]⟩,[⟨Cv 11 134,[134]⟩],[]⟩],.code .ret],[],.run,false,none⟩,x::cs,hp h.n h.t []⟩:=by
 refine Ek L ht ?_
 have l6:=k6.lt
 have l10:=k10.lt
 refine cal (c:=Pk L X T U w.r w.ka p.inv.iw p.inv.dn (by omega) (fun y hy=>let⟨b,e1,e2,_⟩:=p.inv.jr y hy;⟨by omega,by omega⟩) ⟨p.bd.last,by have:=p.bd.nx;omega⟩ (by have:=p.bd.dn;omega) (p.inv.ckH p.bd hS (by omega))) (g:=?_)
 rintro _ h3 ⟨o,S3,κ3,rfl,ho,ck,r3,a3⟩
 obtain⟨sm,p3,he⟩:=p.ck hS ho ck
 have w3:=w.chg a3 r3
 obtain⟨k6a,c6a⟩:=a3.b2 k6 c6
 obtain⟨k10a,c10a⟩:=a3.b2 k10 c10
 have l6:=k6a.lt
 have l10:=k10a.lt
 refine wk ?_
 refine cal (c:=Ks L X r3 w3.ka he) (g:=?_)
 rintro _ h4 ⟨κ4,rfl,r4,a4⟩
 have w4:=w3.chg a4 r4
 obtain⟨k6b,c6b⟩:=a4.b2 k6a c6a
 obtain⟨k10b,c10b⟩:=a4.b2 k10a c10a
 have l6:=k6b.lt
 have l10:=k10b.lt
 refine wk ?_
 (apply Ow L rfl rfl rfl rfl rfl rfl rfl;exact lkp;rfl;intro h9 hs9;(repeat(first|(apply Ca rfl rfl;exact opv)|(apply Su rfl rfl)));(first|(apply p_0;exact chk)|(refine Pi L ?_ rfl ?_;exact chk));refine Oh L hs9 ?_)
 refine wk ?_
 refine ret X.f11 ?_
 refine⟨S3,Z,κ4,_,rfl,w4.own (B:=fun j=>j=n0+1+1) ?_ (fun b _ e=>by subst e;exact c10b),p3,sm,Kp.trS (S':=fun j=>j=n0+1+1) ?_ (fun i _ e=> .inr (by omega)) ((a3.trans a4).k.mono fun b e=> .inl e),(a3.trans a4).col⟩
 ·exact kps
 ·exact kps
end
section
variable {h:H}{κ: Nat→Nat}{I:Ai}{S:Aqs}
theorem jm {ab k n:Nat}{dv sv:AV}{Z:List (List Nat)}{what blk:Int}{secs:List Int}(T:Tb P0 E F K)(U:SortOk P0 E F 129)(w:AS κ h I S ab dv S.D.sz Z sv secs)(p:Pl S k Z)(hZ:0<Z.length∧Z.length≤10)(hk:k≤40000)(hsl:secs.length≤6)(hn:n<100000)(hS:S.S≤10):
  Ct P0 E F K 11 [.ptr ab 0,.agg [AI ((S.D.sz:Nat):Int),dv],AI ((S.D.nb:Nat):Int),.agg [AI what,AI blk,sv],AI ((n:Nat):Int)] h
   (fun v h'=> ∃S' Z' κ' dv',v= .tup [.agg [AI ((S.D.sz:Nat):Int),dv'],.bool true]∧AS κ' h' I S' ab dv' S.D.sz Z' sv secs∧Pl S' (k+1000) Z'∧Sm S S'∧AChg κ h κ' h'):=by
 have lk:=w.ka.lt
 rcases w.q.ex with⟨rfl,rfl⟩|⟨-,lb,rows,rfl,-⟩
 ·exact absurd hZ.1 (Nat.lt_irrefl _)
 refine Jg L X.f11 X.k11 rfl rfl fun Q x cs G=>?_
 refine wk ?_
 have k1:K0 h (hp (h.n+1+1+1) h.t [(h.n+1+1,some (cl [AI ((0:Nat):Int),.nils])),(h.n+1,some (cl [AI what,AI blk,sv])),(h.n,some (cl [AI ((S.D.sz:Nat):Int),.slc lb 0 Z.length (Aa+1)]))]):=kps
 have a1:AChg κ h (Ko κ h.n) (hp (h.n+1+1+1) h.t [(h.n+1+1,some (cl [AI ((0:Nat):Int),.nils])),(h.n+1,some (cl [AI what,AI blk,sv])),(h.n,some (cl [AI ((S.D.sz:Nat):Int),.slc lb 0 Z.length (Aa+1)]))]):=AChg.k0 k1 fun b hb=>Eb hb
 have w1:=w.chg a1 (w.r.k0 k1 fun b hb=>Eb hb)
 have b6:Bk (hp (h.n+1+1+1) h.t [(h.n+1+1,some (cl [AI ((0:Nat):Int),.nils])),(h.n+1,some (cl [AI what,AI blk,sv])),(h.n,some (cl [AI ((S.D.sz:Nat):Int),.slc lb 0 Z.length (Aa+1)]))]) h.n [AI ((S.D.sz:Nat):Int),.slc lb 0 Z.length (Aa+1)]:=lkp
 have b8:Bk (hp (h.n+1+1+1) h.t [(h.n+1+1,some (cl [AI ((0:Nat):Int),.nils])),(h.n+1,some (cl [AI what,AI blk,sv])),(h.n,some (cl [AI ((S.D.sz:Nat):Int),.slc lb 0 Z.length (Aa+1)]))]) (h.n+1) [AI what,AI blk,sv]:=lkp
 have b10:Bk (hp (h.n+1+1+1) h.t [(h.n+1+1,some (cl [AI ((0:Nat):Int),.nils])),(h.n+1,some (cl [AI what,AI blk,sv])),(h.n,some (cl [AI ((S.D.sz:Nat):Int),.slc lb 0 Z.length (Aa+1)]))]) (h.n+1+1) [AI ((0:Nat):Int),.nils]:=lkp
 refine cal (c:=o9 L X w1.r w1.ka (fun b n e=>Nat.le_of_lt (p.bd.wr b n e)) (by have:=p.bd.nx;omega)) (g:=?_)
 rintro _ h2 ⟨κ2,cd,cc,r2,a2⟩
 have w2:=w1.chg a2 r2
 obtain⟨k6,c6⟩:=a2.b2 b6 (Ec (Nat.le_refl _))
 obtain⟨k8,c8⟩:=a2.b2 b8 (Ec (Nat.le_succ _))
 obtain⟨k10,c10⟩:=a2.b2 b10 (Ec (by omega))
 have l6:=k6.lt
 have l8:=k8.lt
 have l10:=k10.lt
 have fin: ∀κ' h',AChX (fun b=>h.n≤b) κ2 h2 κ' h'→AChg κ h κ' h':=fun κ' h' x=>x.own (a1.trans a2) fun b e=>e
 have ck:=fun lq=>vt L X (h:=h2) (n0:=h.n) (x:=x) (cs:=cs) (Q:=Q) (lq:=lq) T U w2 p hk hS k6 c6 k10 c10
 by_cases c1:what<0
 ·refine wk ?_
  refine ck _ tsb ?_
  rintro v h' ⟨S',Z',κ',dv',rfl,w',p',s',x'⟩
  exact G _ _ ⟨S',Z',κ',dv',rfl,w',p',s',fin κ' h' x'⟩
 by_cases c2:what≤5
 ·refine wk ?_
  refine Zn L X (h:=h2) (n0:=h.n) T w2 p hZ hk hsl hn hS k6 c6 k10 c10 tsb ?_
  rintro v h' ⟨S',Z',κ',dv',rfl,w',p',s',x'⟩
  exact G _ _ ⟨S',Z',κ',dv',rfl,w',p',s',fin κ' h' x'⟩
 by_cases c3:what=8
 ·subst c3
  refine wk ?_
  refine cal (c:=W4 L X T w2.r w2.ka p.inv.iw p.inv.dn ⟨p.bd.last,by have:=p.bd.nx;omega⟩ (by have:=p.bd.dn;omega) (by omega) (fun b e hb h3 _=>p.inv.mvH w2.r.dv.ok (by omega) p.bd (by omega) b hb h3)) (g:=?_)
  rintro _ h3 ⟨e,S3,κ3,rfl,m,r3,a3⟩
  obtain⟨sm,p3,he⟩:=p.move w2.r.dv.ok m
  have w3:=w2.chg a3 r3
  obtain⟨k6a,c6a⟩:=a3.b2 k6 c6
  obtain⟨k8a,c8a⟩:=a3.b2 k8 c8
  obtain⟨k10a,c10a⟩:=a3.b2 k10 c10
  have l6:=k6a.lt
  have l8:=k8a.lt
  have l10:=k10a.lt
  have n23:=a3.k.n
  have done: ∀hh,Kp (fun j=>j=h.n+1+1) h3 hh→GO P0 E Q (finish (.tup [.agg [AI ((S.D.sz:Nat):Int),.slc lb 0 Z.length (Aa+1)],.bool true]) cs hh x):=fun hh kh=>
   G _ _ ⟨S3,Z,κ3,_,rfl,w3.own kh (fun b _ e=>by subst e;exact c10a),p3,sm,fin κ3 hh ⟨Kp.trS kh (fun i _ e=> .inr (by omega)) (a3.k.mono fun b e=> .inl e),a3.col⟩⟩
  by_cases cr:0≤blk∧blk<((S.D.nb:Nat):Int)
  rotate_left
  ·have e3:e=3:=by
    rcases he with⟨_,b,e',hb,_⟩|⟨h,_⟩|⟨_,h,_⟩
    ·exact absurd ⟨by omega,by omega⟩ cr
    ·exact h
    ·exact absurd h cr
   subst e3
   have G:=fun v hh (q:v= .tup [.agg [AI ((S.D.sz:Nat):Int),.slc lb 0 Z.length (Aa+1)],.bool true]∧Kp (fun j=>j=h.n+1+1) h3 hh)=>(show GO P0 E Q (finish v cs hh x) by rw [q.1];exact done hh q.2)
   by_cases cl:blk<0
   ·refine wk ?_
    refine ret X.f11 ?_
    exact⟨rfl,kps⟩
   ·refine wk ?_
    refine ret X.f11 ?_
    exact⟨rfl,kps⟩
  ·have no: ¬S.cand blk→e=8:=fun hn=>by
    rcases he with⟨_,h⟩|⟨_,h⟩|⟨h,_⟩
    ·exact absurd h hn
    ·exact absurd cr h
    ·exact h
   have yes:S.cand blk→e=0∨e=7∧frees S3=0:=fun hc=>by
    rcases he with⟨h,_⟩|⟨_,h⟩|⟨_,_,h⟩
    ·exact h
    ·exact absurd cr h
    ·exact absurd hc h
   rcases cd.ex with⟨e0,rfl⟩|⟨g1,cb,rfl,kcb,-⟩
   ·have e8:=no (by
     rintro⟨b,_,hb⟩
     have:=(I0 (S:=S) (b:=b) S.D.nb).2 hb
     rw [e0]at this;cases this)
    subst e8
    have G:=fun v hh (q:v= .tup [.agg [AI ((S.D.sz:Nat):Int),.slc lb 0 Z.length (Aa+1)],.bool true]∧Kp (fun j=>j=h.n+1+1) h3 hh)=>(show GO P0 E Q (finish v cs hh x) by rw [q.1];exact done hh q.2)
    refine wk ?_
    refine Ba L ?_
    refine wk ?_
    refine ret X.f11 ?_
    exact⟨rfl,kps⟩
   ·obtain⟨kcb3,ccb3⟩:=a3.bk kcb (cc cb _ _ rfl)
    have lcb:=kcb3.lt
    have hlc:=Nd S S.D.nb
    have hnb:=p.inv.geo.nb
    refine wk ?_
    refine Cr L (α:= Unit) (T:=fun i _=> [(17,some (AI ((i:Nat):Int))),(16,some (AI ((e:Nat):Int))),(12,some (.slc cb 0 (S.cds S.D.nb).length (Aa+4))),(10,some (.ptr (h.n+1+1) 0)),(8,some (.ptr (h.n+1) 0)),(6,some (.ptr h.n 0)),(0,some (.ptr ab 0))]) (n:=(S.cds S.D.nb).length)
     (R:=fun i _ hh=>(∀b∈(S.cds S.D.nb).take i,((b:Nat):Int)≠blk)∧K0 h3 hh) (i0:=0) () tsb ⟨by simp,Kp.refl _⟩ (Nat.zero_le _) ?_ ?_
    ·rintro i _ hh hi ⟨t1,t2⟩ ih
     have hx:(S.cds S.D.nb)[i]?=some (S.cds S.D.nb)[i]:=List.getElem?_eq_getElem hi
     have htk:(S.cds S.D.nb).take (i+1)=(S.cds S.D.nb).take i++ [(S.cds S.D.nb)[i]]:=by rw [List.take_add_one,hx];rfl
     have hin:=(I0 (S:=S) S.D.nb).1 (List.getElem_mem hi)
     have hf:((S.cds S.D.nb).flatMap (cdC S))[i*4+0]?=some (AI (((S.cds S.D.nb)[i]:Nat):Int)):=by rw [Dy _ (Nb S _) i 0 _ hx (by omega)];rfl
     generalize (S.cds S.D.nb)[i]=b at*
     have kcb4:=Ah t2 kcb3
     have k6b:=Ah t2 k6a
     have k8b:=Ah t2 k8a
     have k10b:=Ah t2 k10a
     by_cases eb:((b:Nat):Int)=blk
     ·subst eb
      have r4:ApR κ3 hh I S3:=r3.k0 t2 fun _ _=>rfl
      refine wk ?_
      refine cal (c:=Ks L X r4 (Ah t2 w3.ka) (yes ⟨b,rfl,hin.1,hin.2⟩)) (g:=?_)
      rintro _ h5 ⟨κ5,rfl,r5,a5⟩
      obtain⟨k6c,c6c⟩:=a5.b2 k6b c6a
      obtain⟨k10c,c10c⟩:=a5.b2 k10b c10a
      have l6:=k6c.lt
      have l10:=k10c.lt
      have a4:AChg κ3 h3 κ3 hh:=AChg.k0 t2 fun _ _=>rfl
      have w5:=(w3.chg a4 r4).chg a5 r5
      refine wk ?_
      (apply Ow L rfl rfl rfl rfl rfl rfl rfl;exact lkp;rfl;intro h9 hs9;(repeat(first|(apply Ca rfl rfl;exact opv)|(apply Su rfl rfl)));(first|(apply p_0;exact chk)|(refine Pi L ?_ rfl ?_;exact chk));refine Oh L hs9 ?_)
      refine wk ?_
      refine ret X.f11 ?_
      refine⟨S3,Z,κ5,_,rfl,w5.own (B:=fun j=>j=h.n+1+1) ?_ (fun b _ e=>by subst e;exact c10c),p3,sm,fin κ5 _ ⟨Kp.trS (S':=fun j=>j=h.n+1+1) ?_ (fun i _ e=> .inr (by omega)) (((a3.trans a4).trans a5).k.mono fun b e=> .inl e),((a3.trans a4).trans a5).col⟩⟩
      ·exact kps
      ·exact kps
     ·refine wk ?_
      refine ih () _ _ ⟨?_,by exact kps⟩ ?_
      ·rw [htk]
       intro b' hb'
       rcases List.mem_append.1 hb' with h|h
       ·exact t1 b' h
       ·rw [List.mem_singleton]at h;subst h;exact eb
      ·exact tsb
    ·rintro _ hh ⟨t1,t2⟩
     rw [List.take_length]at t1
     have e8:=no (by
      rintro⟨b,eb,hb⟩
      exact t1 b ((I0 (S:=S) (b:=b) S.D.nb).2 hb) eb.symm)
     subst e8
     have k6b:=Ah t2 k6a
     have k10b:=Ah t2 k10a
     have l6:=k6b.lt
     have l10:=k10b.lt
     have G:=fun v h4 (q:v= .tup [.agg [AI ((S.D.sz:Nat):Int),.slc lb 0 Z.length (Aa+1)],.bool true]∧Kp (fun j=>j=h.n+1+1) h3 h4)=>(show GO P0 E Q (finish v cs h4 x) by rw [q.1];exact done h4 q.2)
     refine wk ?_
     refine ret X.f11 ?_
     exact⟨rfl,kps⟩
 by_cases c4:what=6∨what=7
 ·rcases cd.ex with⟨e0,rfl⟩|⟨g1,cb,rfl,kcb,-⟩
  ·rcases c4 with rfl|rfl
   all_goals
    refine wk ?_
    refine ck _ tsb ?_
    rintro v h' ⟨S',Z',κ',dv',rfl,w',p',s',x'⟩
    exact G _ _ ⟨S',Z',κ',dv',rfl,w',p',s',fin κ' h' x'⟩
  ·have lcb:=kcb.lt
   have hlc:=Nd S S.D.nb
   have hnb:=p.inv.geo.nb
   have hj:u64 blk % (S.cds S.D.nb).length<(S.cds S.D.nb).length:=Nat.mod_lt _ g1
   have hin:=(I0 (S:=S) S.D.nb).1 (List.getElem_mem hj)
   have hf:((S.cds S.D.nb).flatMap (cdC S))[u64 blk % (S.cds S.D.nb).length*4+0]?=some (AI (((S.cds S.D.nb)[u64 blk % (S.cds S.D.nb).length]:Nat):Int)):=by rw [Dy _ (Nb S _) _ 0 _ (List.getElem?_eq_getElem hj) (by omega)];rfl
   generalize (S.cds S.D.nb)[u64 blk % (S.cds S.D.nb).length]=b at*
   rcases c4 with rfl|rfl
   all_goals
    refine wk ?_
    (apply Ca rfl rfl;exact H8 rfl)
    refine wk ?_
    refine cal (c:=W4 L X T w2.r w2.ka p.inv.iw p.inv.dn ⟨p.bd.last,by have:=p.bd.nx;omega⟩ (by have:=p.bd.dn;omega) (by omega) (fun b e hb h3 _=>p.inv.mvH w2.r.dv.ok (by omega) p.bd (by omega) b hb h3)) (g:=?_)
    rintro _ h3 ⟨e,S3,κ3,rfl,m,r3,a3⟩
    obtain⟨sm,p3,he⟩:=p.move w2.r.dv.ok m
    have hee:e=0∨e=7∧frees S3=0:=by
     rcases he with⟨h,_⟩|⟨_,h⟩|⟨_,_,h⟩
     ·exact h
     ·exact absurd ⟨by omega,by omega⟩ h
     ·exact absurd ⟨b,rfl,hin.1,hin.2⟩ h
    have w3:=w2.chg a3 r3
    obtain⟨k6a,c6a⟩:=a3.b2 k6 c6
    obtain⟨k10a,c10a⟩:=a3.b2 k10 c10
    have l6:=k6a.lt
    have l10:=k10a.lt
    refine wk ?_
    refine cal (c:=Ks L X r3 w3.ka hee) (g:=?_)
    rintro _ h4 ⟨κ4,rfl,r4,a4⟩
    have w4:=w3.chg a4 r4
    obtain⟨k6b,c6b⟩:=a4.b2 k6a c6a
    obtain⟨k10b,c10b⟩:=a4.b2 k10a c10a
    have l6:=k6b.lt
    have l10:=k10b.lt
    refine wk ?_
    (apply Ow L rfl rfl rfl rfl rfl rfl rfl;exact lkp;rfl;intro h9 hs9;(repeat(first|(apply Ca rfl rfl;exact opv)|(apply Su rfl rfl)));(first|(apply p_0;exact chk)|(refine Pi L ?_ rfl ?_;exact chk));refine Oh L hs9 ?_)
    refine wk ?_
    refine ret X.f11 ?_
    refine⟨S3,Z,κ4,_,rfl,w4.own (B:=fun j=>j=h.n+1+1) ?_ (fun b _ e=>by subst e;exact c10b),p3,sm,fin κ4 _ ⟨Kp.trS (S':=fun j=>j=h.n+1+1) ?_ (fun i _ e=> .inr (by omega)) ((a3.trans a4).k.mono fun b e=> .inl e),(a3.trans a4).col⟩⟩
    ·exact kps
    ·exact kps
 ·refine wk ?_
  refine ck _ tsb ?_
  rintro v h' ⟨S',Z',κ',dv',rfl,w',p',s',x'⟩
  exact G _ _ ⟨S',Z',κ',dv',rfl,w',p',s',fin κ' h' x'⟩
end
end
section
variable {P0:Program}{E:Env}{F:T CFn}{K:T (List AV×AV)}(L:Lg P0 E F K)(X:Fx F K)
include L X
abbrev Act:=(Int×Int×List Int)×AV
def acC (x:Act):List AV:= [AI x.1.1,AI x.1.2.1,x.2]
omit L X in
theorem Ng (l:List Act): ∀x∈l,(acC x).length=3:=fun _ _=>rfl
structure AcR (κ: Nat→Nat)(h:H)(v:AV)(l:List Act):Prop where
 el: ∀x∈l,IntsR κ h x.2 x.1.2.2
 ex:(l= []∧v= .nils)∨(l= []∧ ∃a,v= .opq (.slice (some a) 0 0))∨ ∃b cap,v= .slc b 0 l.length cap∧Rk h b (l.flatMap acC)∧κ b=0
omit L X in
theorem AcR.fw {κ κ':Nat→Nat}{h h':H}{v:AV}{l:List Act}(q:AcR κ h v l)(f:Fw κ h κ' h'):AcR κ' h' v l:=by
 refine⟨fun x hx=>(q.el x hx).fw f,?_⟩
 rcases q.ex with h1|h1|⟨b,cap,h1,h2,h3⟩
 ·exact .inl h1
 ·exact .inr (.inl h1)
 ·exact .inr (.inr ⟨b,cap,h1,f.rk h2 h3,(f.col b h2.lt).trans h3⟩)
def pt (g0 g1 g2 g3:Int):List AV:= [AI g0,AI g1,AI g2,AI g3]
def Qt (g0 g1 g2 g3 S:Int):Prop:=2≤g0∧g0≤12∧2≤g1∧g1≤5∧12≤g2∧g2≤30∧1≤g3∧g3≤1000∧1≤S∧S≤10
section
variable {h:H}
theorem Qu {g0 g1 g2 g3 S:Int}(hs:Qt g0 g1 g2 g3 S):Ct P0 E F K 7 [.agg (pt g0 g1 g2 g3),AI S] h fun u h'=>u= .bool true∧K0 h h':=by
 obtain⟨h0,h1,h2,h3,h4,h5,h6,h7,h8,h9⟩:=hs
 refine Ae L X.f7 X.k7 rfl rfl fun Q x cs G=>?_
 refine wk ?_
 refine ret X.f7 ?_
 exact⟨rfl,kps⟩
theorem Zo {g0 g1 g2 g3 S:Int}(hs: ¬Qt g0 g1 g2 g3 S):Ct P0 E F K 7 [.agg (pt g0 g1 g2 g3),AI S] h fun u h'=>u= .bool false∧K0 h h':=by
 unfold Qt at hs
 by_cases h0:2≤g0
 rotate_left
 ·refine Ae L X.f7 X.k7 rfl rfl fun Q x cs G=>?_
  refine wk ?_
  refine ret X.f7 ?_
  exact⟨rfl,kps⟩
 by_cases h1:g0≤12
 rotate_left
 ·refine Ae L X.f7 X.k7 rfl rfl fun Q x cs G=>?_
  refine wk ?_
  refine ret X.f7 ?_
  exact⟨rfl,kps⟩
 by_cases h2:2≤g1
 rotate_left
 ·refine Ae L X.f7 X.k7 rfl rfl fun Q x cs G=>?_
  refine wk ?_
  refine ret X.f7 ?_
  exact⟨rfl,kps⟩
 by_cases h3:g1≤5
 rotate_left
 ·refine Ae L X.f7 X.k7 rfl rfl fun Q x cs G=>?_
  refine wk ?_
  refine ret X.f7 ?_
  exact⟨rfl,kps⟩
 by_cases h4:12≤g2
 rotate_left
 ·refine Ae L X.f7 X.k7 rfl rfl fun Q x cs G=>?_
  refine wk ?_
  refine ret X.f7 ?_
  exact⟨rfl,kps⟩
 by_cases h5:g2≤30
 rotate_left
 ·refine Ae L X.f7 X.k7 rfl rfl fun Q x cs G=>?_
  refine wk ?_
  refine ret X.f7 ?_
  exact⟨rfl,kps⟩
 by_cases h6:1≤g3
 rotate_left
 ·refine Ae L X.f7 X.k7 rfl rfl fun Q x cs G=>?_
  refine wk ?_
  refine ret X.f7 ?_
  exact⟨rfl,kps⟩
 by_cases h7:g3≤1000
 rotate_left
 ·refine Ae L X.f7 X.k7 rfl rfl fun Q x cs G=>?_
  refine wk ?_
  refine ret X.f7 ?_
  exact⟨rfl,kps⟩
 by_cases h8:1≤S
 rotate_left
 ·refine Ae L X.f7 X.k7 rfl rfl fun Q x cs G=>?_
  refine wk ?_
  refine ret X.f7 ?_
  exact⟨rfl,kps⟩
 have h9: ¬S≤10:=fun h9=>hs ⟨h0,h1,h2,h3,h4,h5,h6,h7,h8,h9⟩
 refine Ae L X.f7 X.k7 rfl rfl fun Q x cs G=>?_
 refine wk ?_
 refine ret X.f7 ?_
 exact⟨rfl,kps⟩
def Few (l:List Act):Prop:=l.length≤40∧ ∀x∈l,x.1.2.2.length≤6
theorem vu {κ: Nat→Nat}{v:AV}{l:List Act}(k:AcR κ h v l):Ct P0 E F K 8 [v,AI ((40:Nat):Int)] h fun u h'=> ∃b:Bool,u= .bool b∧(b=true↔Few l)∧K0 h h':=by
 rcases k.ex with⟨rfl,rfl⟩|⟨rfl,a,rfl⟩|⟨b,cap,rfl,hb,hc⟩
 ·refine Ae L X.f8 X.k8 rfl rfl fun Q x cs G=>?_
  refine wk ?_
  refine Ba L ?_
  refine wk ?_
  refine ret X.f8 ?_
  exact⟨true,rfl,⟨fun _=>⟨by simp,fun x hx=>by cases hx⟩,fun _=>rfl⟩,kps⟩
 ·refine Ae L X.f8 X.k8 rfl rfl fun Q x cs G=>?_
  refine wk ?_
  refine Ba L ?_
  refine wk ?_
  refine ret X.f8 ?_
  exact⟨true,rfl,⟨fun _=>⟨by simp,fun x hx=>by cases hx⟩,fun _=>rfl⟩,kps⟩
 ·have lb:=hb.lt
  by_cases hm:40<l.length
  ·refine Ae L X.f8 X.k8 rfl rfl fun Q x cs G=>?_
   refine wk ?_
   refine ret X.f8 ?_
   exact⟨false,rfl,⟨(fun e=>by cases e),fun e=>absurd e.1 (by omega)⟩,kps⟩
  ·refine Ae L X.f8 X.k8 rfl rfl fun Q x cs G=>?_
   refine wk ?_
   refine Cr L (α:= Unit) (T:=fun i _=> [(5,some (AI ((i:Nat):Int))),(0,some (.slc b 0 l.length cap))]) (n:=l.length)
    (R:=fun i _ h2=>(∀x∈l.take i,x.1.2.2.length≤6)∧K0 h h2) (i0:=0) () tsb ⟨by simp,kps⟩ (Nat.zero_le _) ?_ ?_
   ·rintro i _ h2 hi ⟨w1,w2⟩ ih
    have hx:l[i]?=some l[i]:=List.getElem?_eq_getElem hi
    have htk:l.take (i+1)=l.take i++ [l[i]]:=by rw [List.take_add_one,hx];rfl
    have hk:=Ou w2 hb
    have hin:=List.getElem_mem hi
    have key:(l.flatMap acC)[i*3+2]?=some l[i].2:=by rw [Dy l (Ng l) i 2 _ hx (by omega)];rfl
    have hq:=k.el _ hin
    generalize l[i]=y at*
    obtain⟨⟨yw,yb,ys⟩,yv⟩:=y
    simp only at hq key
    have ok:ys.length≤6→ ∀x∈l.take (i+1),x.1.2.2.length≤6:=fun h6 x hx=>by
     rw [htk]at hx
     rcases List.mem_append.1 hx with h|h
     ·exact w1 x h
     ·rw [List.mem_singleton]at h;subst h;exact h6
    rcases hq.ex with⟨rfl,rfl⟩|⟨rfl,a,rfl⟩|⟨c,cp,rfl,-,-⟩
    ·refine wk ?_
     (apply st1 L rfl;exact E1 rfl lkr key;rfl)
     refine wk ?_
     refine ih () _ _ ⟨ok (by simp),by exact kps⟩ ?_
     exact tsb
    ·refine wk ?_
     (apply st1 L rfl;exact E1 rfl lkr key;rfl)
     refine wk ?_
     refine ih () _ _ ⟨ok (by simp),by exact kps⟩ ?_
     exact tsb
    ·by_cases h6:ys.length≤6
     ·refine wk ?_
      (apply st1 L rfl;exact E1 rfl lkr key;rfl)
      refine wk ?_
      refine ih () _ _ ⟨ok h6,by exact kps⟩ ?_
      exact tsb
     ·refine wk ?_
      (apply st1 L rfl;exact E1 rfl lkr key;rfl)
      refine wk ?_
      refine ret X.f8 ?_
      exact⟨false,rfl,⟨(fun e=>by cases e),fun e=>absurd (e.2 _ hin) h6⟩,kps⟩
   ·rintro _ h2 ⟨w1,w2⟩
    rw [List.take_length]at w1
    refine wk ?_
    refine ret X.f8 ?_
    exact⟨true,rfl,⟨fun _=>⟨by omega,w1⟩,fun _=>rfl⟩,by exact kps⟩
end
end
section
variable {P0:Program}{E:Env}{F:T CFn}{K:T (List AV×AV)}(L:Lg P0 E F K)(X:Fx F K)
include L X
omit L X in
theorem Pl.new {nb P sz en S:Nat}{flt:Nat→Bool}(h0:2≤nb∧nb≤12)(h1:2≤P∧P≤6)(h2:12≤sz∧sz≤30)(h3:1≤en∧en≤1000):Pl (Aqs.new (Dv.new nb P sz en flt) S) 0 (List.replicate S (List.replicate sz 0)):=by
 have hsel: ∀k,(Aqs.new (Dv.new nb P sz en flt) S).sel k= -1:=fun k=>by cases k <;> rfl
 refine⟨⟨⟨h0,h1,h2,h3⟩,rfl,rfl,rfl,⟨fun k=>⟨fun h=>?_,?_⟩,fun k h=>?_⟩,fun b _=>Nat.zero_le _,fun b _ h=>?_,fun b _ _=>rfl,fun y h=>?_,fun h=>?_,fun h=>?_,fun s p h=>?_,fun s s' p h=>?_⟩,⟨?_,fun b n h=>?_,fun b=>Nat.le_refl _,Nat.le_refl _,Nat.le_refl _⟩,List.length_replicate,fun i d hi=>?_⟩
 ·rw [hsel]at h;omega
 ·rw [hsel];omega
 ·rw [hsel]at h;omega
 ·have h:(1:Nat)=2:=h;omega
 ·have h:false=true:=h;cases h
 ·have h:(0:Int)≤ -1:=h;omega
 ·have h:(0:Int)≤ -1:=h;omega
 ·have h:(none:Option Int)=some p:=h;cases h
 ·have h:(none:Option Int)=some p:=h;cases h
 ·show 0<1;omega
 ·have h:(none:Option Nat)=some n:=h;cases h
 ·rw [List.getElem?_replicate]at hi
  split at hi
  ·cases hi;rfl
  ·cases hi
section
variable {h:H}
theorem Vv {κ: Nat→Nat}{g0 g1 g2 g3 S:Nat}{v:AV}{fl:List Int}(hs:Qt ((g0:Nat):Int) ((g1:Nat):Int) ((g2:Nat):Int) ((g3:Nat):Int) ((S:Nat):Int))(qf:IntsR κ h v fl)(hf: ∀x∈fl,0≤x)(hfn:fl.length<1000):
  Ct P0 E F K 10 [.agg (I1 g0 g1 g2 g3),AI ((S:Nat):Int),v] h fun u h'=> ∃ab I κ' dv,u= .tup [.ptr ab 0,.agg [AI ((g2:Nat):Int),dv],.bool true]∧ApR κ' h' I (Aqs.new (Dv.new g0 g1 g2 g3 (Mt fl)) S)∧Bk h' ab [.ptr I.s 0]∧κ' ab=0∧DkR h' (fun b=>κ' b=0) dv g2 (List.replicate S (List.replicate g2 0))∧K0 h h'∧ ∀b,b<h.n→κ' b=κ b:=by
 obtain⟨h0,h1,h2,h3,h4,h5,h6,h7,h8,h9⟩:=hs
 unfold I1
 refine B0 L X.f10 X.k10 rfl rfl fun Q x cs G=>?_
 refine wk ?_
 have kk:K0 h (hp (h.n+1+1) h.t [(h.n+1,some (cl [AI ((0:Nat):Int),.nils])),(h.n,some (cl (I1 g0 g1 g2 g3)))]):=kps
 have qf1:IntsR (Ko κ h.n) (hp (h.n+1+1) h.t [(h.n+1,some (cl [AI ((0:Nat):Int),.nils])),(h.n,some (cl (I1 g0 g1 g2 g3)))]) v fl:=qf.fw ⟨kk.n,fun b hb _=>kk.old b hb id,fun b hb=>Eb hb⟩
 refine cal (c:=uw (g0:=g0) (g1:=g1) (g2:=g2) (g3:=g3) L X (by omega) (by omega) (by omega) (by omega) qf1 hf hfn) (g:=?_)
 rintro _ h2' ⟨d,κ2,rfl,k2,r2,c2⟩
 have n2:=k2.n
 simp only [Al]at n2 c2
 refine wk ?_
 refine cal (c:=pi L X r2 (S:=S) (by omega) rfl (fun _ _=>rfl) (fun _ _=>Nat.zero_le _)) (g:=?_)
 rintro _ h3' ⟨ab,I,κ3,rfl,ka,ca,rfl,r3,k3,c3⟩
 have n3:=k3.n
 refine wk ?_
 refine cal (c:=o7 (sz:=g2) (S:=S) L X (by omega) (by omega)) (g:=?_)
 rintro _ h4' ⟨dv,rfl,q4,k4⟩
 have n4:=k4.n
 refine wk ?_
 refine cal (c:=If L X) (g:=?_)
 rintro _ rfl
 refine wk ?_
 refine cal (c:=If L X) (g:=?_)
 rintro _ rfl
 refine wk ?_
 have hp9:=q4.plain (z:=((g2:Nat):Int))
 (apply stS L rfl rfl rfl rfl rfl hp9;exact lkp;rfl;rfl)
 refine wk ?_
 refine yo L X.f10 (qt rfl (Rj rfl (Bk.e lkp) rfl (Cq rfl))) G ?_
 have c9:κ3 (h.n+1)=200:=(c3 _ (by omega)).trans ((c2 _ (by omega)).trans (Ec (by omega)))
 have lka:=ka.lt
 have nab:ab≠h.n+1:=fun e=>by rw [e,c9]at ca;omega
 refine⟨ab,I,ext κ3 h3'.n,dv,rfl,(r3.k0 k4 fun b hb=>Af hb).out (B:=fun j=>j=h.n+1) ?_ (fun b _ e=>by subst e;rw [Af (by omega),c9];exact Nat.le_refl _),by exact lkp,(Af lka).trans ca,(q4.kp (B:=fun j=>j=h.n+1) ?_ fun b e _ u=>by have u9:h3'.n≤b:=u;omega).mono fun b _ u=>Bo u,kps,fun b hb=>(Af (by omega)).trans ((c3 b (by omega)).trans ((c2 b (by omega)).trans (Eb hb)))⟩
 ·exact kps
 ·exact kps
end
end
section
variable {P0:Program}{E:Env}{F:T CFn}{K:T (List AV×AV)}(L:Lg P0 E F K)(X:Fx F K)
include L X
structure Wk (P:Program)(E:Env)(F:T CFn)(K:T (List AV×AV)):Prop where
 ct: ∀h,Ct P E F K 9 [] h fun v h'=>v= .bool true∧h'=h
omit L X in
theorem AChX.fw0 {Y:Nat→Prop}{κ κ':Nat→Nat}{h h':H}(x:AChX Y κ h κ' h')(hY: ∀b,Y b→κ b=200):Fw κ h κ' h':=
 ⟨x.k.n,fun b hb hc=>x.k.old b hb (by
                     rintro(e|e);· omega
                     ·have:=hY b e;omega),x.col⟩
section
variable {h:H}{κ: Nat→Nat}
theorem Vw {I:Ai}{S:Aqs}{ab b4 b11 b14 i lb kk:Nat}{dv0 lv:AV}{Z:List (List Nat)}{geo:List AV}{k:List AItem}{Q:Nat→AV→Prop}(r:ApR κ h I S)(ka:Bk h ab [.ptr I.s 0])(ca:κ ab=0)(q:DkR h (fun b=>κ b=0) (.slc lb 0 Z.length (Aa+1)) S.D.sz Z)(hZ:0<Z.length∧Z.length≤10)(p:Pl S kk Z)
  (k4:Bk h b4 geo) (c4:κ b4=0) (k11:Bk h b11 [AI ((S.D.sz:Nat):Int),dv0]) (c11:κ b11=200) (k14:Bk h b14 [AI ((S.D.sz:Nat):Int),.slc lb 0 Z.length (Aa+1)]) (h14:b14≠b11) (hi:i<1000000)
  {lq:List (Nat×Option AV)} (ht:TSub (tms [(15,some (.bool true)),(14,some (.ptr b14 0)),(13,some (AI ((i:Nat):Int))),(11,some (.ptr b11 0)),(10,some (.ptr ab 0)),(4,some (.ptr b4 0)),(3,some lv)]) (tms lq))
  (G: ∀h' l' κ',ApR κ' h' I S→AChX (fun b=>b=b11) κ h κ' h'→Bk h' b11 [AI ((S.D.sz:Nat):Int),.slc lb 0 Z.length (Aa+1)]→TSub (tms [(13,some (AI ((i+1:Nat):Int))),(11,some (.ptr b11 0)),(10,some (.ptr ab 0)),(4,some (.ptr b4 0)),(3,some lv)]) (tms l')→
   Good P0 E Q ⟨⟨3,cf3.ntmps,tms l',.inLoop c3_44::k,[],.run,false,none⟩,[],h'⟩):
  Good P0 E Q ⟨⟨3,cf3.ntmps,tms lq,.ops [Cn 72 2 14,Cs 2 11 72]:: .code c3_38:: .inBlock 3:: .code c3_42:: .inLoop c3_44::k,[],.run,false,none⟩,[],hp h.n h.t []⟩:=by
 refine Ek L ht ?_
 have l11:=k11.lt
 have l14:=k14.lt
 refine wk ?_
 have kx:Kp (fun j=>j=b11) h (hp h.n h.t [(b11,some (cl [AI ((S.D.sz:Nat):Int),.slc lb 0 Z.length (Aa+1)]))]):=kps
 have nab:ab≠b11:=fun e=>by rw [e,c11]at ca;omega
 refine cal (c:=Tu (κ:= κ) L X (r.out kx fun b _ e=>by subst e;omega) (As kx nab ka) ca p (q.kp kx fun b e _ u=>by subst e;omega) hZ) (g:=?_)
 rintro _ h3 ⟨κ3,rfl,r3,a3⟩
 obtain⟨k11c,c11c⟩:=a3.b2 (show Bk (hp h.n h.t [(b11,some (cl [AI ((S.D.sz:Nat):Int),.slc lb 0 Z.length (Aa+1)]))]) b11 [AI ((S.D.sz:Nat):Int),.slc lb 0 Z.length (Aa+1)] from lkp) c11
 refine wk ?_
 refine G _ _ κ3 (r3.k0 (Kp.refl _) fun _ _=>rfl) ⟨Kp.trS a3.k (fun i _ e=> .inl e) (kx.mono fun b e=> .inr e),a3.col⟩ (by exact k11c) ?_
 exact tsb
end
section
variable {h:H}{κ: Nat→Nat}
theorem Vx {I:Ai}{S0:Aqs}{ab b4 b11 g2:Nat}{dv lv:AV}{al:List Act}{Z0:List (List Nat)}{g1 g3:Nat}(T:Tb P0 E F K)(U:SortOk P0 E F 129)(W:Wk P0 E F K)(r:ApR κ h I S0)(ka:Bk h ab [.ptr I.s 0])(ca:κ ab=0)(q:DkR h (fun b=>κ b=0) dv S0.D.sz Z0)(ql:AcR κ h lv al)(hF:Few al)(p:Pl S0 0 Z0)(hZ:0<Z0.length∧Z0.length≤10)
  (k4:Bk h b4 (I1 S0.D.nb g1 g2 g3)) (c4:κ b4=0) (k11:Bk h b11 [AI ((S0.D.sz:Nat):Int),dv]) (c11:κ b11=200)
  {lq:List (Nat×Option AV)} (ht:TSub (tms [(13,some (AI ((0:Nat):Int))),(11,some (.ptr b11 0)),(10,some (.ptr ab 0)),(4,some (.ptr b4 0)),(3,some lv)]) (tms lq)):
  Good P0 E (fun fn u=>fn=3∧u= .bool true) ⟨⟨3,cf3.ntmps,tms lq,[.code c3_45,.inBlock 2,.code c3_49],[],.run,false,none⟩,[],hp h.n h.t []⟩:=by
 refine Cr L (α:= Aqs×List (List Nat)×(Nat→Nat)×AV) (T:=fun i _=> [(13,some (AI ((i:Nat):Int))),(11,some (.ptr b11 0)),(10,some (.ptr ab 0)),(4,some (.ptr b4 0)),(3,some lv)]) (n:=al.length)
  (R:=fun i a hh=>(ApR a.2.2.1 hh I a.1∧Bk hh ab [.ptr I.s 0]∧a.2.2.1 ab=0∧DkR hh (fun b=>a.2.2.1 b=0) a.2.2.2 S0.D.sz a.2.1∧AcR a.2.2.1 hh lv al)∧(Bk hh b4 (I1 S0.D.nb g1 g2 g3)∧a.2.2.1 b4=0∧Bk hh b11 [AI ((S0.D.sz:Nat):Int),a.2.2.2]∧a.2.2.1 b11=200)∧Pl a.1 (1000*i) a.2.1∧Sm S0 a.1) (i0:=0) (S0,Z0,κ,dv) ht
  ⟨⟨r,ka,ca,q,ql⟩,⟨k4,c4,k11,c11⟩,p,rfl,rfl,rfl,rfl,rfl⟩ (Nat.zero_le _) ?_ ?_
 ·rintro i ⟨S,Z,κ1,dv1⟩ h1 hi ⟨⟨r1,ka1,ca1,q1,ql1⟩,⟨k41,c41,k111,c111⟩,p1,sm1⟩ ih
  simp only at r1 ka1 ca1 q1 ql1 k41 c41 k111 c111 p1 sm1
  have l4:=k41.lt
  have l11:=k111.lt
  have lka:=ka1.lt
  rw [←sm1.nb]at k41
  rw [←sm1.sz]at k111 q1
  have hZ1:0<Z.length∧Z.length≤10:=by rw [p1.len,sm1.secs,←p.len];exact hZ
  rcases q1.ex with⟨rfl,-⟩|⟨-,lb,rows,rfl,-⟩
  ·exact absurd hZ1.1 (Nat.lt_irrefl _)
  have hx:al[i]?=some al[i]:=List.getElem?_eq_getElem hi
  have hin:=List.getElem_mem hi
  have hdt:=E2 al (Ng al) i _ hx
  have hel:=ql1.el _ hin
  have hsl:=hF.2 _ hin
  have hi40:=hF.1
  rcases ql1.ex with⟨e,-⟩|⟨e,-⟩|⟨lvb,lvc,rfl,klv,clv⟩
  ·subst e;exact absurd hi (Nat.not_lt_zero i)
  ·subst e;exact absurd hi (Nat.not_lt_zero i)
  generalize al[i]=y at*
  obtain⟨⟨yw,yb,ys⟩,yv⟩:=y
  simp only at hel hsl
  have hdt:i*3+3≤(al.flatMap acC).length∧((al.flatMap acC).drop (i*3)).take 3= [AI yw,AI yb,yv]:=hdt
  have hav:Jf 20 (.agg [AI yw,AI yb,yv])=true:=by rcases hel.ex with⟨_,rfl⟩|⟨_,a,rfl⟩|⟨b,c,rfl,_⟩ <;> rfl
  have hk1:=klv
  have w0:AS κ1 h1 I S ab (.slc lb 0 Z.length (Aa+1)) S.D.sz Z yv ys:=⟨r1,ka1,ca1,q1,hel⟩
  have fin: ∀(S':Aqs) (Z':List (List Nat)) (κ3:Nat→Nat) (lq:List (Nat×Option AV)) (dvx:AV) (b14 lb':Nat) (h3:H),AS κ3 h3 I S' ab (.slc lb' 0 Z'.length (Aa+1)) S.D.sz Z' yv ys→Pl S' (1000*i+1000) Z'→Sm S S'→(0<Z'.length∧Z'.length≤10)→AChX (fun b=>h1.n≤b) κ1 h1 κ3 h3→Bk h3 b11 [AI ((S.D.sz:Nat):Int),dvx]→Bk h3 b14 [AI ((S.D.sz:Nat):Int),.slc lb' 0 Z'.length (Aa+1)]→b14≠b11→
    TSub (tms [(15,some (.bool true)),(14,some (.ptr b14 0)),(13,some (AI ((i:Nat):Int))),(11,some (.ptr b11 0)),(10,some (.ptr ab 0)),(4,some (.ptr b4 0)),(3,some (.slc lvb 0 al.length lvc))]) (tms lq)→
    Good P0 E (fun fn u=>fn=3∧u= .bool true) ⟨⟨3,cf3.ntmps,tms lq,[.ops [Cn 72 2 14,Cs 2 11 72],.code c3_38,.inBlock 3,.code c3_42,.inLoop c3_44,.inBlock 2,.code c3_49],[],.run,false,none⟩,[],hp h3.n h3.t []⟩:=by
   intro S' Z' κ3 lq dvx b14 lb' h3 w3 p3 sm3 hZ3 x3 k113 k143 hne ht3
   have hy: ∀b,b<h1.n→ ¬(h1.n≤b):=fun b hb e=>by omega
   have k43:Bk h3 b4 (I1 S.D.nb g1 g2 g3):=As x3.k (by rintro(e|e) <;> omega) k41
   have c43:κ3 b4=0:=(x3.col _ l4).trans c41
   have c113:κ3 b11=200:=(x3.col _ l11).trans c111
   have sz3:=sm3.sz
   have q3:=w3.q
   rw [←sz3]at q3 k113 k143
   refine Vw L X (h:=h3) w3.r w3.ka w3.ca q3 hZ3 p3 k43 c43 k113 c113 k143 hne (by omega) ht3 ?_
   intro h5 l5 κ5 r5 x5 k115 ht5
   have w5:=w3.chgX x5 (fun b _ e=>by subst e;exact c113) r5
   rw [sz3]at k115
   have q5:=w5.q
   have k45:Bk h5 b4 (I1 S.D.nb g1 g2 g3):=As x5.k (by
                                 rintro(e|e);· omega
                                 ·subst e;omega) k43
   have c45:κ5 b4=0:=(x5.col _ k43.lt).trans c43
   have c115:κ5 b11=200:=(x5.col _ k113.lt).trans c113
   have ql5:AcR κ5 h5 (.slc lvb 0 al.length lvc) al:=(ql1.fw ⟨x3.k.n,fun b hb hc=>x3.k.old b hb (by rintro(e|e) <;> omega),x3.col⟩).fw (x5.fw0 fun b e=>by subst e;exact c113)
   have sm5:=sm1.trans sm3
   rw [sm1.nb]at k45
   rw [sm1.sz]at k115 q5
   exact ih (S',Z',κ5,.slc lb' 0 Z'.length (Aa+1)) h5 l5 ⟨⟨r5,w5.ka,w5.ca,q5,ql5⟩,⟨k45,c45,k115,c115⟩,p3.mono (by omega),sm5⟩ ht5
  refine wk ?_
  refine nr L ?_ ?_
  ·refine wk ?_
   (apply Ca rfl rfl;exact Be (by exact lkr) hdt rfl)
   (apply Ca rfl rfl;exact opv)
   (apply Ca rfl rfl;exact opv)
   (apply p_0;(apply np rfl rfl opv rfl rfl);(apply np rfl rfl opv rfl rfl);(apply np rfl rfl (Be (by exact lkr) hdt rfl) rfl hav);exact Wi)
   have aA:AChg κ1 h1 (Ko κ1 h1.n) (hp (h1.n+1) h1.t [(h1.n,some (cl [AI ((0:Nat):Int),.nils]))]):=AChg.k0 kps fun b hb=>Eb hb
   have wA:=w0.chg aA (r1.k0 (by exact kps) fun b hb=>Eb hb)
   have b14:Bk (hp (h1.n+1) h1.t [(h1.n,some (cl [AI ((0:Nat):Int),.nils]))]) h1.n [AI ((0:Nat):Int),.nils]:=lkp
   obtain⟨k11A,c11A⟩:=aA.b2 k111 c111
   refine cal (c:=jm L X T U wA p1 hZ1 (by omega) hsl (by omega) (by rw [sm1.secs,←p.len];omega)) (g:=?_)
   rintro _ h3 ⟨S',Z',κ',dv',rfl,w',p',sm',a'⟩
   have n3:=a'.k.n
   simp only [Al]at n3
   obtain⟨k14,c14⟩:=a'.b2 b14 (Ec (Nat.le_refl _))
   obtain⟨k113,c113⟩:=a'.b2 k11A c11A
   have a13:=aA.trans a'
   have hZ':0<Z'.length∧Z'.length≤10:=by rw [p'.len,sm'.secs,←p1.len];exact hZ1
   rcases w'.q.ex with⟨rfl,-⟩|⟨-,lb',rows',rfl,-⟩
   ·exact absurd hZ'.1 (Nat.lt_irrefl _)
   have l14:=k14.lt
   have l113:=k113.lt
   refine wk ?_
   (apply Ow L rfl rfl rfl rfl rfl rfl rfl;exact lkp;rfl;intro h9 hs9;(repeat(first|(apply Ca rfl rfl;exact opv)|(apply Su rfl rfl)));(first|(apply p_0;exact chk)|(refine Pi L ?_ rfl ?_;exact chk));refine Oh L hs9 ?_)
   have kO:Kp (fun j=>j=h1.n) h3 (hp h3.n h3.t [(h1.n,some (cl [AI ((S.D.sz:Nat):Int),.slc lb' 0 Z'.length (Aa+1)]))]):=kps
   have w3:=w'.own kO fun b _ e=>by subst e;exact c14
   refine fin S' Z' _ _ _ (h1.n) lb' (hp h3.n h3.t [(h1.n,some (cl [AI ((S.D.sz:Nat):Int),.slc lb' 0 Z'.length (Aa+1)]))]) w3 p' sm' hZ' ?_ (by exact lkp) (by exact lkp) (by omega) ?_
   ·exact⟨Kp.trS kO (fun i _ e=> .inr (by omega)) (a13.k.mono fun b e=> .inl e),a13.col⟩
   ·exact tsb
  ·refine wk ?_
   (apply Ca rfl rfl;exact Be (by exact lkr) hdt rfl)
   refine wk ?_
   refine cal (c:=jm L X T U w0 p1 hZ1 (by omega) hsl (by omega) (by rw [sm1.secs,←p.len];omega)) (g:=?_)
   rintro _ h3 ⟨S',Z',κ',dv',rfl,w',p',sm',a'⟩
   have n3:=a'.k.n
   obtain⟨k113,c113⟩:=a'.b2 k111 c111
   have hZ':0<Z'.length∧Z'.length≤10:=by rw [p'.len,sm'.secs,←p1.len];exact hZ1
   rcases w'.q.ex with⟨rfl,-⟩|⟨-,lb',rows',rfl,-⟩
   ·exact absurd hZ'.1 (Nat.lt_irrefl _)
   have l113:=k113.lt
   refine wk ?_
   (apply Ow L rfl rfl rfl rfl rfl rfl rfl;exact lkp;rfl;intro h9 hs9;(repeat(first|(apply Ca rfl rfl;exact opv)|(apply Su rfl rfl)));(first|(apply p_0;exact chk)|(refine Pi L ?_ rfl ?_;exact chk));refine Oh L hs9 ?_)
   have kO:K0 h3 (hp (h3.n+1) h3.t [(h3.n,some (cl [AI ((S.D.sz:Nat):Int),.slc lb' 0 Z'.length (Aa+1)])),(h3.n,some (cl [AI ((0:Nat):Int),.nils]))]):=kps
   have w3:=w'.chg (AChg.k0 kO fun b hb=>Af (κ:= κ') hb) (w'.r.k0 kO fun b hb=>Af hb)
   refine fin S' Z' _ _ _ (h3.n) lb' (hp (h3.n+1) h3.t [(h3.n,some (cl [AI ((S.D.sz:Nat):Int),.slc lb' 0 Z'.length (Aa+1)])),(h3.n,some (cl [AI ((0:Nat):Int),.nils]))]) w3 p' sm' hZ' ?_ (by exact lkp) (by exact lkp) (by omega) ?_
   ·have a3:=a'.trans (AChg.k0 kO fun b hb=>Af (κ:= κ') hb)
    exact⟨a3.k.mono fun b e=> .inl e,a3.col⟩
   ·exact tsb
 ·rintro⟨S,Z,κ1,dv1⟩ h1 ⟨⟨r1,ka1,ca1,q1,ql1⟩,⟨k41,c41,k111,c111⟩,p1,sm1⟩
  have hq0:=ql1.ex
  rcases hq0 with⟨e,rfl⟩|⟨e,a,rfl⟩|⟨lvb,lvc,rfl,-,-⟩
  all_goals
   (try(have hz:al.length=0:=by rw [e];rfl))
   refine wk ?_
   refine cal (c:=W.ct _) (g:=?_)
   try rintro _ _ ⟨rfl,rfl⟩
   try rintro _ rfl
   refine wk ?_
   refine D7 L (todo:= []) ?_
   exact S5 L X.f3 (Cq rfl) ⟨rfl,rfl⟩
end
section
variable {h:H}{κ: Nat→Nat}
theorem Ig {b4 n0 n1 n2 n3 nS:Nat}{fv lv:AV}{fl:List Int}{al:List Act}(T:Tb P0 E F K)(U:SortOk P0 E F 129)(W:Wk P0 E F K)(hs:Qt ((n0:Nat):Int) ((n1:Nat):Int) ((n2:Nat):Int) ((n3:Nat):Int) ((nS:Nat):Int))(qf:IntsR κ h fv fl)(t1: ∀x∈fl,0≤x)(hfl:fl.length≤10)(ql:AcR κ h lv al)(hF:Few al)(kb:Bk h b4 (I1 n0 n1 n2 n3))(cb:κ b4=0)
  {lq:List (Nat×Option AV)} (ht:TSub (tms [(46,some fv),(45,some (AI ((nS:Nat):Int))),(44,some (.agg (I1 n0 n1 n2 n3))),(4,some (.ptr b4 0)),(3,some lv)]) (tms lq)):
  Good P0 E (fun fn u=>fn=3∧u= .bool true) ⟨⟨3,cf3.ntmps,tms lq,[.ops [Cc 47 10 [.t 44,.t 45,.t 46],Cv 43 47,Ce 48 43 0,Ce 49 43 1,Ce 50 43 2,Cj 11 (.alloc [.int .i64 ((0:Nat):Int),.nils]),Cv 10 48,Cs 2 11 49,Cv 12 50],.code c3_51],[],.run,false,none⟩,[],hp h.n h.t []⟩:=by
 refine Ek L ht ?_
 have hs':=hs
 obtain⟨i0,i1,i2,i3,i4,i5,i6,i7,i8,i9⟩:=hs'
 refine cal (c:=Vv L X hs qf t1 (by omega)) (g:=?_)
 rintro _ h4 ⟨ab,I,κ4,dv,rfl,r4,ka4,ca4,q4,k4,c4⟩
 have m4:=k4.n
 have kb4:=Ah k4 kb
 have lb4:=kb.lt
 have lkb4:=kb4.lt
 have lka4:=ka4.lt
 have cb4:κ4 b4=0:=(c4 _ lb4).trans cb
 rcases q4.ex with⟨e,-⟩|⟨-,lb,rows,rfl,-⟩
 ·have:=congrArg List.length e;rw [List.length_replicate,List.length_nil]at this;omega
 refine wk ?_
 have k0:K0 h4 (hp (h4.n+1) h4.t [(h4.n,some (cl [AI ((n2:Nat):Int),.slc lb 0 (List.replicate nS (List.replicate n2 0)).length (Aa+1)])),(h4.n,some (cl [AI ((0:Nat):Int),.nils]))]):=kps
 have hc: ∀b,b<h4.n→upd κ4 h4.n 200 b=κ4 b:=fun b hb=>upd_ne _ _ (by omega)
 have ql4:AcR κ4 h4 lv al:=ql.fw ⟨k4.n,fun b hb _=>k4.old b hb id,c4⟩
 refine Vx L X (κ:= upd κ4 h4.n 200) (S0:=Aqs.new (Dv.new n0 n1 n2 n3 (Mt fl)) nS) (Z0:=List.replicate nS (List.replicate n2 0)) (h:=hp (h4.n+1) h4.t [(h4.n,some (cl [AI ((n2:Nat):Int),.slc lb 0 (List.replicate nS (List.replicate n2 0)).length (Aa+1)])),(h4.n,some (cl [AI ((0:Nat):Int),.nils]))]) (I:=I) (ab:=ab) (b4:=b4) (b11:=h4.n) (g1:=n1) (g2:=n2) (g3:=n3) (lv:=lv) (al:=al) T U W (r4.k0 k0 hc) (by exact lkp) ((hc ab ka4.lt).trans ca4) (((q4.mono fun b hb u=>⟨hb,u⟩:DkR h4 (fun b=>b<h4.n∧κ4 b=0) _ n2 _).k0 k0).mono fun b _ u=>(hc b u.1).trans u.2) (ql4.fw ⟨k0.n,fun b hb _=>k0.old b hb id,hc⟩) hF (Pl.new (by omega) (by omega) (by omega) (by omega)) (by rw [List.length_replicate];omega) (by exact lkp) ((hc b4 (by omega)).trans cb4) (by exact lkp) (upd_eq _ _ _) ?_
 exact tsb
theorem Zp {g0 g1 g2 g3 S:Int}{fv lv:AV}{fl:List Int}{al:List Act}(T:Tb P0 E F K)(U:SortOk P0 E F 129)(W:Wk P0 E F K)(qf:IntsR κ h fv fl)(ql:AcR κ h lv al):
  Good P0 E (fun fn u=>fn=3∧u= .bool true) ⟨⟨3,cf3.ntmps,tms [(3,some lv),(2,some fv),(1,some (AI S)),(0,some (.agg (pt g0 g1 g2 g3)))],[.code cf3.body],[],.run,false,none⟩,[],hp h.n h.t []⟩:=by
 by_cases hs:Qt g0 g1 g2 g3 S
 rotate_left
 ·refine wk ?_
  refine cal (c:=Zo L X hs) (g:=?_)
  rintro _ h1 ⟨rfl,k1⟩
  refine wk ?_
  refine cal (c:=W.ct _) (g:=?_)
  try rintro _ _ ⟨rfl,rfl⟩
  try rintro _ rfl
  refine wk ?_
  refine D7 L (todo:= []) ?_
  exact S5 L X.f3 (Cq rfl) ⟨rfl,rfl⟩
 have hs':=hs
 obtain⟨i0,i1,i2,i3,i4,i5,i6,i7,i8,i9⟩:=hs'
 obtain⟨n0,rfl⟩: ∃n:Nat,g0=n:=⟨g0.toNat,by omega⟩
 obtain⟨n1,rfl⟩: ∃n:Nat,g1=n:=⟨g1.toNat,by omega⟩
 obtain⟨n2,rfl⟩: ∃n:Nat,g2=n:=⟨g2.toNat,by omega⟩
 obtain⟨n3,rfl⟩: ∃n:Nat,g3=n:=⟨g3.toNat,by omega⟩
 obtain⟨nS,rfl⟩: ∃n:Nat,S=n:=⟨S.toNat,by omega⟩
 by_cases hfl:fl.length≤10
 rotate_left
 ·rcases qf.ex with⟨e,-⟩|⟨e,-⟩|⟨cb,cp,rfl,-,-⟩
  ·rw [e]at hfl;simp at hfl
  ·rw [e]at hfl;simp at hfl
  refine wk ?_
  refine cal (c:=Qu L X hs) (g:=?_)
  rintro _ h1 ⟨rfl,k1⟩
  refine wk ?_
  refine cal (c:=W.ct _) (g:=?_)
  try rintro _ _ ⟨rfl,rfl⟩
  try rintro _ rfl
  refine wk ?_
  refine D7 L (todo:= []) ?_
  exact S5 L X.f3 (Cq rfl) ⟨rfl,rfl⟩
 have fwd: ∀{h1:H},K0 h h1→Fw κ h (ext κ h.n) h1:=fun k=>⟨k.n,fun b hb _=>k.old b hb id,fun b hb=>Af hb⟩
 have qfe:=qf.ex
 rcases qfe with⟨hfe,rfl⟩|⟨hfe,fa,rfl⟩|⟨fcb,fcc,rfl,kcf,-⟩
 all_goals
  (try(have hz:fl.length=0:=by rw [hfe];rfl))
  refine wk ?_
  refine cal (c:=Qu L X hs) (g:=?_)
  rintro _ h1 ⟨rfl,k1⟩
  have m1:=k1.n
  simp only [Al]at m1
  have kk1:K0 h h1:=Kp.tr0 k1 (by exact kps)
  have kb:Bk h1 h.n (I1 n0 n1 n2 n3):=Ah k1 (by exact lkp)
  have lb:=kb.lt
  refine wk ?_
  have fct:=vu L X (ql.fw (fwd kk1))
  (refine qy L rfl rfl rfl rfl fct ?_)
  rintro _ h2 ⟨b,rfl,hb,k2⟩
  have m2:=k2.n
  have kk2:K0 h h2:=Kp.tr0 k2 kk1
  have kb2:=Ah k2 kb
  cases b with
  |false=>
   refine wk ?_
   refine cal (c:=W.ct _) (g:=?_)
   try rintro _ _ ⟨rfl,rfl⟩
   try rintro _ rfl
   refine wk ?_
   refine D7 L (todo:= []) ?_
   exact S5 L X.f3 (Cq rfl) ⟨rfl,rfl⟩
  |true=>?_
 ·have hF:=hb.1 rfl
  refine wk ?_
  refine Ba L ?_
  refine wk ?_
  refine Ig L X (κ:= ext κ h.n) (h:=h2) T U W hs (qf.fw (fwd kk2)) (by rw [hfe];intro x hx;cases hx) hfl (ql.fw (fwd kk2)) hF kb2 (Bo (Nat.le_refl _)) ?_
  exact tsb
 ·have hF:=hb.1 rfl
  refine wk ?_
  refine Ba L ?_
  refine wk ?_
  refine Ig L X (κ:= ext κ h.n) (h:=h2) T U W hs (qf.fw (fwd kk2)) (by rw [hfe];intro x hx;cases hx) hfl (ql.fw (fwd kk2)) hF kb2 (Bo (Nat.le_refl _)) ?_
  exact tsb
 ·have hF:=hb.1 rfl
  refine wk ?_
  refine Cr L (α:= Unit) (T:=fun i _=> [(9,some (AI ((i:Nat):Int))),(4,some (.ptr h.n 0)),(3,some lv),(2,some (.slc fcb 0 fl.length fcc)),(1,some (AI ((nS:Nat):Int)))]) (n:=fl.length)
   (R:=fun i _ h3=>(∀x∈fl.take i,0≤x)∧K0 h2 h3) (i0:=0) () tsb ⟨by simp,Kp.refl _⟩ (Nat.zero_le _) ?_ ?_
  ·rintro i _ h3 hi ⟨t1,t2⟩ ih
   have hx:(fl.map eI)[i]?=some (eI fl[i]):=by rw [List.getElem?_map,List.getElem?_eq_getElem hi];rfl
   have htk:fl.take (i+1)=fl.take i++ [fl[i]]:=by rw [List.take_add_one,List.getElem?_eq_getElem hi];rfl
   have kc3:=Ou t2 (Ou kk2 kcf)
   generalize fl[i]=y at*
   (try refine B4 L 1000 rfl ?_);(repeat(first|(apply st1 L rfl;exact⟨Ol rfl⟩;rfl)|(apply st1 L rfl;exact St rfl rfl rfl;rfl)|(apply st1 L rfl;exact Oo rfl rfl (by omega);rfl)|(apply st1 L rfl;exact Gm rfl rfl (by omega);rfl)|(apply st1 L rfl;exact H3 rfl rfl (by omega);rfl)))
   (apply st1 L rfl;exact E1 rfl lkr hx;rfl)
   by_cases hy:y<0
   ·refine wk ?_
    refine cal (c:=W.ct _) (g:=?_)
    try rintro _ _ ⟨rfl,rfl⟩
    try rintro _ rfl
    refine wk ?_
    refine D7 L (todo:= []) ?_
    exact S5 L X.f3 (Cq rfl) ⟨rfl,rfl⟩
   ·refine wk ?_
    refine ih () _ _ ⟨?_,by exact t2⟩ ?_
    ·rw [htk]
     intro z hz
     rcases List.mem_append.1 hz with h|h
     ·exact t1 z h
     ·rw [List.mem_singleton]at h;omega
    ·exact tsb
  ·rintro _ h3 ⟨t1,t2⟩
   rw [List.take_length]at t1
   have kk3:K0 h h3:=Kp.tr0 t2 kk2
   have kb3:=Ah t2 kb2
   refine wk ?_
   refine Ig L X (κ:= ext κ h.n) (h:=h3) T U W hs (qf.fw (fwd kk3)) t1 hfl (ql.fw (fwd kk3)) hF kb3 (Bo (Nat.le_refl _)) ?_
   exact tsb
end
end
end Go.Ev
