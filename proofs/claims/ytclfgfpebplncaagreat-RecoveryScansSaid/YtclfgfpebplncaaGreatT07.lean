/- Part of the proof. -/
import Derived.Test.YtclfgfpebplncaaGreatT06
set_option linter.unusedVariables false
set_option linter.unusedSimpArgs false
set_option linter.unusedSectionVars false
namespace Go.Ev
inductive BSub:Blk→Blk→Prop where
 |cells {ro:Bool} {n' n:Nat} {c' c:T AV} (hn:n'≤n) (h: ∀i v,i<n'→T.get c' i=some v→T.get c i=some v):BSub (.cells ro n' c') (.cells ro n c)
 |same (x:Blk):BSub x x
theorem BSub.ro {x' x:Blk}(h:BSub x' x):roB x'=roB x:=by cases h <;> rfl
def TSub (tm' tm:T AV):Prop:= ∀t v,T.get tm' t=some v→T.get tm t=some v
structure HSub (h' h:H):Prop where
 n:h.n≤h'.n
 blk: ∀b x',H.get h' b=some x'→ ∃x,H.get h b=some x∧BSub x' x
theorem HSub.refl (h:H):HSub h h:=⟨Nat.le_refl _,fun b x hx=>⟨x,hx,.same x⟩⟩
theorem TSub.refl (t:T AV):TSub t t:=fun _ _ h=>h
theorem BSub.trans {a b c:Blk}(h:BSub a b)(k:BSub b c):BSub a c:=by
 cases h with
 |same=>exact k
 |cells h1 h2=>cases k with
  |same=>exact .cells h1 h2
  |cells k1 k2=>exact .cells (Nat.le_trans h1 k1) fun i v hi hv=>k2 i v (Nat.lt_of_lt_of_le hi h1) (h2 i v hi hv)
theorem HSub.trans {a b c:H}(h:HSub a b)(k:HSub b c):HSub a c:=
 ⟨Nat.le_trans k.n h.n,fun x y hy=>let⟨z,h1,h2⟩:=h.blk x y hy;let⟨u,k1,k2⟩:=k.blk x z h1;⟨u,k1,h2.trans k2⟩⟩
section
variable {E:Env}{w0:World}{φ: Phi}
theorem BR.sub {l:Loc}{x' x:Blk}{o:Obj}(hb:BSub x' x)(h:BR E φ l x o):BR E φ l x' o:=by
 cases hb with
 |same=>exact h
 |cells h1 h2=>cases h with
  |cells hf hs hn hc=>exact .cells hf hs (by omega) fun i v hi hv=>hc i v (by omega) (h2 i v hi hv)
theorem HW.sub {h' h:H}{w:World}(hs:HSub h' h)(k:HW E w0 φ h w):HW E w0 φ h' w:=by
 refine⟨?_,k.like⟩
 have hr:=k.hr
 refine⟨fun b l hb=>Nat.lt_of_lt_of_le (hr.bound b l hb) hs.n,hr.cbound,fun b l x hb hx=>?_,fun b b' l l' x x' h1 h2 h3 h4 h5 h6=>?_,fun b l x hb hx h5=>?_,hr.old,hr.size⟩
 ·obtain⟨y,g1,g2⟩:=hs.blk b x hx
  obtain⟨o,g3,g4⟩:=hr.blk b l y hb g1
  exact⟨o,g3,g4.sub g2⟩
 ·obtain⟨y,g1,g2⟩:=hs.blk b x h3
  obtain⟨y',g3,g4⟩:=hs.blk b' x' h4
  exact hr.inj b b' l l' y y' h1 h2 g1 g3 (by rw [←g2.ro];exact h5) h6
 ·obtain⟨y,g1,g2⟩:=hs.blk b x hx
  exact hr.own b l y hb g1 (by rw [←g2.ro];exact h5)
theorem FR.subT {fn nt:Nat}{tm tm':T AV}{todo:List AItem}{ds:List ADef}{mode:AMode}{dfd:Bool}{ro:Option Nat}{fr:Frame}(ht:TSub tm' tm)(h:FR E φ ⟨fn,nt,tm,todo,ds,mode,dfd,ro⟩ fr):FR E φ ⟨fn,nt,tm',todo,ds,mode,dfd,ro⟩ fr:=by
 refine⟨h.fn,h.kind,h.ro,h.defers,h.mode,?_,h.dr⟩
 have hb:=h.body
 simp only at hb ⊢
 generalize fr.tmps=q1 at hb ⊢
 generalize fr.todo=q2 at hb ⊢
 cases hb with
 |plain h1 hi=>exact .plain ⟨h1.size,fun t v hv=>h1.val t v (ht t v hv)⟩ hi
 |gone h1=>exact .gone ⟨h1.size,fun t v hv=>h1.val t v (ht t v hv)⟩
 |drawn hs he hp h1 hi=>exact .drawn hs he hp ⟨h1.size,fun t v hv=>h1.val t v (ht t v hv)⟩ hi
end
section
variable {P:Program}{E:Env}{F:T CFn}{K:T (List AV×AV)}{Q:Nat→AV→Prop}
theorem P4 {fn nt:Nat}{tm tm':T AV}{todo:List AItem}{ds:List ADef}{mode:AMode}{dfd:Bool}{ro:Option Nat}{cs:List AFr}{h h':H}(ht:TSub tm' tm)(hh:HSub h' h)
  (hg:Good P E Q ⟨⟨fn,nt,tm',todo,ds,mode,dfd,ro⟩,cs,h'⟩):Good P E Q ⟨⟨fn,nt,tm,todo,ds,mode,dfd,ro⟩,cs,h⟩:=by
 intro w0 cs0 m hA
 obtain⟨φ,fr,cs1,w,rfl,hf,hfs,hr⟩:=hA.ex
 exact hg w0 cs0 _ ⟨φ,fr,cs1,w,rfl,hf.subT ht,hfs,hr.sub hh⟩
def GO (P:Program)(E:Env)(Q:Nat→AV→Prop)(o:Out):Prop:=match o with
 | .one c=>Good P E Q c
 | .many l=> ∀c∈l,Good P E Q c
 | .done fn v _=>Q fn v
 | .fail=>False
structure Lg (P:Program)(E:Env)(F:T CFn)(K:T (List AV×AV)):Prop where
 hE:EnvOk P E
 hT:TabOk P E F
 hK:MemOk P K
variable (L:Lg P E F K)
include L
theorem A9 {c:Conf}(h:GO P E Q (step F K c)):Good P E Q c:=by
 refine Mo L.hE L.hT L.hK ?_
 cases hs:step F K c <;> rw [hs]at h <;> exact h
end
noncomputable def ov {α: Type}(t:T α):List (Nat×Option α)→T α
 | []=>t
 |p::r=>T.set (ov t r) p.1 p.2
theorem Tm {α: Type}(t:T α)(k:Nat)(x:Option α)(r:List (Nat×Option α))(i:Nat):T.get (ov t ((k,x)::r)) i=if i=k then x else T.get (ov t r) i:=T.get_set _ _ _ _
theorem y8 {α: Type}(t:T α)(k:Nat)(x:Option α)(r:List (Nat×Option α)):T.get (ov t ((k,x)::r)) k=x:=by rw [Tm,if_pos rfl]
theorem y9 {α: Type}(t:T α){k i:Nat}(x:Option α)(r:List (Nat×Option α))(h:i≠k):T.get (ov t ((k,x)::r)) i=T.get (ov t r) i:=by rw [Tm,if_neg h]
def look {α: Type}:List (Nat×Option α)→Nat→Option α
 | [],_=>none
 |p::r,i=>match Nat.beq i p.1 with
  |true=>p.2
  |false=>look r i
theorem G4 {α: Type}(i:Nat): ∀r:List (Nat×Option α),T.get (ov (.leaf:T α) r) i=look r i
 | []=>T.get_leaf i
 |p::r=>by
  obtain⟨k,x⟩:=p
  rw [Tm,G4 i r]
  simp only [look]
  cases hb:Nat.beq i k with
  |true=>rw [if_pos (Ar hb)]
  |false=>rw [if_neg (Ef hb)]
noncomputable abbrev tms (l:List (Nat×Option AV)):T AV:=ov .leaf l
def evL (l:List (Nat×Option AV))(o:O):AV:=match o with
 | .t i=>(match look l i with|some v=>v|none=> .unk)
 | .c v=>v
theorem Ag (l:List (Nat×Option AV))(o:O):ev (tms l) o=evL l o:=by
 cases o with
 |t i=>simp only [ev,evL,G4];cases look l i <;> rfl
 |c v=>rfl
noncomputable abbrev hp (n:Nat)(t:T Blk)(l:List (Nat×Option Blk)):H:=⟨n,ov t l⟩
noncomputable def cl (l:List AV):Blk:= .cells false l.length (ofL 0 .leaf l)
theorem G9 (l:List AV)(i:Nat):T.get (ofL 0 (.leaf:T AV) l) i=l[i]?:=by
 rw [Jy]
 by_cases h:i<l.length
 ·rw [if_pos (by omega),Nat.sub_zero]
 ·rw [if_neg (by omega),T.get_leaf,List.getElem?_eq_none (by omega)]
theorem Ha (n:Nat)(t:T Blk)(b:Nat)(x:Option Blk)(r:List (Nat×Option Blk)):H.get (hp n t ((b,x)::r)) b=x:=y8 _ _ _ _
theorem D6 (n:Nat)(t:T Blk){b i:Nat}(x:Option Blk)(r:List (Nat×Option Blk))(h:i≠b):H.get (hp n t ((b,x)::r)) i=H.get (hp n t r) i:=y9 _ _ _ h
section
variable {P:Program}{E:Env}{F:T CFn}{K:T (List AV×AV)}{Q:Nat→AV→Prop}
variable (L:Lg P E F K)
variable {fn nt:Nat}{tm:T AV}{todo k:List AItem}{ds:List ADef}{dfd:Bool}{ro:Option Nat}{cs:List AFr}{h h':H}
include L
theorem vn (g:Good P E Q ⟨⟨fn,nt,tm,k,ds,.run,dfd,ro⟩,cs,h⟩):Good P E Q ⟨⟨fn,nt,tm,.code .skip::k,ds,.run,dfd,ro⟩,cs,h⟩:=A9 L g
theorem p7 {l:Nat}(g:Good P E Q ⟨⟨fn,nt,tm,k,ds,.run,dfd,ro⟩,cs,h⟩):Good P E Q ⟨⟨fn,nt,tm,.code (.label l)::k,ds,.run,dfd,ro⟩,cs,h⟩:=A9 L g
theorem zb {a b:CC}(g:Good P E Q ⟨⟨fn,nt,tm,.code a:: .code b::k,ds,.run,dfd,ro⟩,cs,h⟩):Good P E Q ⟨⟨fn,nt,tm,.code (.seq a b)::k,ds,.run,dfd,ro⟩,cs,h⟩:=A9 L g
theorem p8 {id:Nat}{b:CC}(g:Good P E Q ⟨⟨fn,nt,tm,.code b:: .inBlock id::k,ds,.run,dfd,ro⟩,cs,h⟩):Good P E Q ⟨⟨fn,nt,tm,.code (.block id b)::k,ds,.run,dfd,ro⟩,cs,h⟩:=A9 L g
theorem A4 {b:CC}(g:Good P E Q ⟨⟨fn,nt,tm,.code b:: .inLoop b::k,ds,.run,dfd,ro⟩,cs,h⟩):Good P E Q ⟨⟨fn,nt,tm,.code (.loop b)::k,ds,.run,dfd,ro⟩,cs,h⟩:=A9 L g
theorem C7 {b:CC}(g:Good P E Q ⟨⟨fn,nt,tm,.code b:: .inLoop b::k,ds,.run,dfd,ro⟩,cs,h⟩):Good P E Q ⟨⟨fn,nt,tm,.inLoop b::k,ds,.run,dfd,ro⟩,cs,h⟩:=A9 L g
theorem p9 {b:CC}(g:Good P E Q ⟨⟨fn,nt,tm,.code b:: .inScope b::k,ds,.run,dfd,ro⟩,cs,h⟩):Good P E Q ⟨⟨fn,nt,tm,.code (.scope b)::k,ds,.run,dfd,ro⟩,cs,h⟩:=A9 L g
theorem bc {id:Nat}(g:Good P E Q ⟨⟨fn,nt,tm,k,ds,.run,dfd,ro⟩,cs,h⟩):Good P E Q ⟨⟨fn,nt,tm,.inBlock id::k,ds,.run,dfd,ro⟩,cs,h⟩:=A9 L g
theorem be {b:CC}(g:Good P E Q ⟨⟨fn,nt,tm,k,ds,.run,dfd,ro⟩,cs,h⟩):Good P E Q ⟨⟨fn,nt,tm,.inScope b::k,ds,.run,dfd,ro⟩,cs,h⟩:=A9 L g
theorem vp {id:Nat}{k':List AItem}(e:Ev.exitTo id k=some k')(g:Good P E Q ⟨⟨fn,nt,tm,k',ds,.run,dfd,ro⟩,cs,h⟩):Good P E Q ⟨⟨fn,nt,tm,.code (.exit id)::k,ds,.run,dfd,ro⟩,cs,h⟩:=by
 refine A9 L ?_
 simp only [Ev.step,B3,Cw,e];exact g
theorem vq {l:Nat}{k':List AItem}(e:Ev.gotoIn l k=some k')(g:Good P E Q ⟨⟨fn,nt,tm,k',ds,.run,dfd,ro⟩,cs,h⟩):Good P E Q ⟨⟨fn,nt,tm,.code (.goto l)::k,ds,.run,dfd,ro⟩,cs,h⟩:=by
 refine A9 L ?_
 simp only [Ev.step,B3,Cw,e];exact g
theorem vr {x:O}{a b:CC}{t:Bool}(e:ev tm x= .bool t)(g1:t=true→Good P E Q ⟨⟨fn,nt,tm,.code a::k,ds,.run,dfd,ro⟩,cs,h⟩)(g2:t=false→Good P E Q ⟨⟨fn,nt,tm,.code b::k,ds,.run,dfd,ro⟩,cs,h⟩):
  Good P E Q ⟨⟨fn,nt,tm,.code (.cond x a b)::k,ds,.run,dfd,ro⟩,cs,h⟩:=by
 refine A9 L ?_
 show GO P E Q (match ev tm x with| .bool true=> .one ⟨⟨fn,nt,tm,.code a::k,ds,.run,dfd,ro⟩,cs,h⟩| .bool false=> .one ⟨⟨fn,nt,tm,.code b::k,ds,.run,dfd,ro⟩,cs,h⟩|_=> .fail)
 rw [e]
 cases t with
 |true=>exact g1 rfl
 |false=>exact g2 rfl
omit L in
def P5 (P:Program)(E:Env)(F:T CFn)(K:T (List AV×AV))(Q:Nat→AV→Prop)(l:List CI)(k:List AItem)(fn nt:Nat)(tm:T AV)(ds:List ADef)(dfd:Bool)(ro:Option Nat)(cs:List AFr)(h:H):Prop:=
 GO P E Q (Un F K (Dq l tm h) k fn nt ds dfd ro cs)
theorem Ms {l:List CI}(g:P5 P E F K Q l k fn nt tm ds dfd ro cs h):Good P E Q ⟨⟨fn,nt,tm,.ops l::k,ds,.run,dfd,ro⟩,cs,h⟩:=A9 L g
omit L in
theorem vt {dst:Option Nat}{gd:Option (Nat×Bool)}{op:COp}{r:List CI}{f:AFn}{args:List AV}(hw:wanted tm gd=some true)(hx:exec op h tm= .call f args)
  (g:GO P E Q (C1 F K f args false ⟨fn,nt,tm,.ops (⟨dst,gd,op⟩::r)::k,ds,.run,dfd,ro⟩ cs h)):
  P5 P E F K Q (⟨dst,gd,op⟩::r) k fn nt tm ds dfd ro cs h:=by
 unfold P5
 simp only [Dq,hw,hx]
 exact g
omit L in
theorem zc {dst:Option Nat}{gd:Option (Nat×Bool)}{op:COp}{r:List CI}{f:Nat}{args:List AV}(hw:wanted tm gd=some true)(hx:exec op h tm= .dfr f args)
  (g:Good P E Q ⟨⟨fn,nt,put tm dst (.tup []),.ops r::k,.call f args::ds,.run,dfd,none⟩,cs,h⟩):
  P5 P E F K Q (⟨dst,gd,op⟩::r) k fn nt tm ds dfd none cs h:=by
 unfold P5
 simp only [Dq,hw,hx]
 exact g
omit L in
theorem zd {dst:Option Nat}{gd:Option (Nat×Bool)}{op:COp}{r:List CI}{v:AV}(hw:wanted tm gd=some true)(hx:exec op h tm= .pan v)
  (g:Good P E Q ⟨⟨fn,nt,tm,.ops (⟨dst,gd,op⟩::r)::k,ds,.panicking [(v,false)],dfd,ro⟩,cs,h⟩):
  P5 P E F K Q (⟨dst,gd,op⟩::r) k fn nt tm ds dfd ro cs h:=by
 unfold P5
 simp only [Dq,hw,hx]
 exact g
omit L in
theorem vu {dst:Option Nat}{gd:Option (Nat×Bool)}{op:COp}{r:List CI}{l:List (AV×H)}(hw:wanted tm gd=some true)(hx:exec op h tm= .next l)
  (g: ∀x∈l,Good P E Q ⟨⟨fn,nt,put tm dst x.1,.ops r::k,ds,.run,dfd,ro⟩,cs,x.2⟩):
  P5 P E F K Q (⟨dst,gd,op⟩::r) k fn nt tm ds dfd ro cs h:=by
 unfold P5
 simp only [Dq,hw,hx,Un,GO]
 intro c hc
 obtain⟨x,h1,rfl⟩:=List.mem_map.1 hc
 exact g x h1
theorem qe {f:Nat}{g:CFn}{args:List AV}{x:AFr}(hf:T.get F f=some g)(hm:memo K f args=none)(hn:Nat.ble args.length g.ntmps=true)
  (h1:Good P E Q ⟨⟨f,g.ntmps,ofL 0 .leaf args,[.code g.body],[],.run,false,none⟩,x::cs,h⟩):GO P E Q (C1 F K (.func f) args false x cs h):=by
 simp only [C1,hf,Um,hm,hn]
 exact h1
theorem P6 {g:CFn}{l:List AV}{x:AFr}(hf:T.get F fn=some g)(hr:results tm h g.results=some l)(h1:GO P E Q (finish (single l) cs h x)):
  Good P E Q ⟨⟨fn,nt,tm,todo,[],.returning,false,none⟩,x::cs,h⟩:=by
 refine A9 L ?_
 show GO P E Q (match T.get F fn with|none=> .fail|some g=>match results tm h g.results with|some l=>Ev.doReturn fn false (single l) (x::cs) h|none=> .fail)
 rw [hf];simp only [hr]
 exact h1
theorem ze {g:CFn}{l:List AV}{x:AFr}(hf:T.get F fn=some g)(hr:results tm h g.results=some l)(h1:GO P E Q (finish (single l) cs h x)):
  Good P E Q ⟨⟨fn,nt,tm,.code .ret::k,[],.run,false,none⟩,x::cs,h⟩:=
 A9 L (show Good P E Q ⟨⟨fn,nt,tm,.code .ret::k,[],.returning,false,none⟩,x::cs,h⟩ from P6 L hf hr h1)
theorem tx {g:CFn}{l:List AV}{x:AFr}(hf:T.get F fn=some g)(hr:results tm h g.results=some l)(h1:GO P E Q (finish (single l) cs h x)):
  Good P E Q ⟨⟨fn,nt,tm,[],[],.run,false,none⟩,x::cs,h⟩:=
 A9 L (show Good P E Q ⟨⟨fn,nt,tm,[],[],.returning,false,none⟩,x::cs,h⟩ from P6 L hf hr h1)
omit L in
def A8 (P:Program)(E:Env)(Q:Nat→AV→Prop)(pre chk:List DI)(l:List Ph)(k:List AItem)(fn nt:Nat)(tm:T AV)(ds:List ADef)(dfd:Bool)(ro:Option Nat)(cs:List AFr)(h:H):Prop:=
 GO P E Q (Dj pre chk l k fn nt tm ds dfd ro cs h)
omit L in
theorem zf {ci:CI}{nm:List Nat}{pre chk:List DI}{l:List Ph}{v:AV}(hw:wanted (only tm nm) ci.guard=some true)(hx:exec ci.op h (only tm nm)= .val v h')
  (g:A8 P E Q pre chk l k fn nt (put tm ci.dst v) ds dfd ro cs h'):A8 P E Q (⟨ci,nm⟩::pre) chk l k fn nt tm ds dfd ro cs h:=by
 unfold A8 Dj at g ⊢
 simp only [G1,hw,hx]
 exact g
omit L in
theorem vx {ci:CI}{nm:List Nat}{pre chk:List DI}{l:List Ph}(hw:wanted (only tm nm) ci.guard=some false)
  (g:A8 P E Q pre chk l k fn nt (put tm ci.dst (.tup [])) ds dfd ro cs h):A8 P E Q (⟨ci,nm⟩::pre) chk l k fn nt tm ds dfd ro cs h:=by
 unfold A8 Dj at g ⊢
 simp only [G1,hw]
 exact g
omit L in
theorem tz {chk:List DI}{l:List Ph}(hc:checks chk tm h=true)(g:Good P E Q ⟨⟨fn,nt,tm,(match l with| []=>k|p::r=> .drawn p r::k),ds,.run,dfd,ro⟩,cs,h⟩):
  A8 P E Q [] chk l k fn nt tm ds dfd ro cs h:=by
 unfold A8 Dj
 simp only [G1,hc]
 cases l <;> exact g
theorem Lj {pre chk:List DI}{l:List Ph}(g:A8 P E Q pre chk l k fn nt tm ds dfd ro cs h):Good P E Q ⟨⟨fn,nt,tm,.code (.drawn pre chk l)::k,ds,.run,dfd,ro⟩,cs,h⟩:=A9 L g
omit L in
theorem vy {l:List Out}(h1: ∀o∈l,(∃c,o= .one c))(h2: ∀o∈l,GO P E Q o):GO P E Q (Iu l):=by
 rcases J2 (l:=l) rfl with e|⟨xs,e,g⟩
 ·exfalso
  have: ∀l:List Out,(∀o∈l,∃c,o= .one c)→Iu l≠ .fail:=by
   intro l
   induction l with
   |nil=>intro _ h;cases h
   |cons o l ih=>
    intro h h'
    obtain⟨c,rfl⟩:=h o (List.mem_cons_self ..)
    simp only [Iu]at h'
    rcases J2 (l:=l) rfl with e|⟨xs,e,_⟩
    ·exact ih (fun o ho=>h o (List.mem_cons_of_mem _ ho)) e
    ·rw [e]at h';cases h'
  exact this l h1 e
 ·rw [e]
  have: ∀(l:List Out) (xs:List Conf),Iu l= .many xs→(∀o∈l,GO P E Q o)→ ∀c∈xs,Good P E Q c:=by
   intro l
   induction l with
   |nil=>intro xs h _ c hc;cases h;cases hc
   |cons o l ih=>
    intro xs h hg c hc
    simp only [Iu]at h
    cases o with
    |one d=>
     simp only at h
     cases hl:Iu l with
     |many ys=>
      rw [hl]at h
      cases h
      rcases List.mem_cons.1 hc with e|hc
      ·subst e;exact hg _ (List.mem_cons_self ..)
      ·exact ih ys hl (fun o ho=>hg o (List.mem_cons_of_mem _ ho)) c hc
     |_=>rw [hl]at h;cases h
    |_=>cases h
  exact fun c hc=>this l xs e h2 c hc
theorem W8 {l:List Alt}(g: ∀a∈l,A8 P E Q a.pre a.chk a.l k fn nt tm ds dfd ro cs h):Good P E Q ⟨⟨fn,nt,tm,.code (.alts l)::k,ds,.run,dfd,ro⟩,cs,h⟩:=by
 refine A9 L (show GO P E Q (Iu (l.map fun a=>Dj a.pre a.chk a.l k fn nt tm ds dfd ro cs h)) from ?_)
 refine vy (fun o ho=>?_) (fun o ho=>?_)
 ·obtain⟨a,ha,rfl⟩:=List.mem_map.1 ho
  rcases W4 a.pre a.chk a.l k fn nt tm ds dfd ro cs h with e|e
  ·have:=g a ha
   unfold A8 at this
   rw [e]at this;exact this.elim
  ·exact e
 ·obtain⟨a,ha,rfl⟩:=List.mem_map.1 ho
  exact g a ha
theorem Yo {dst:Option Nat}{gd:Option (Nat×Bool)}{op:COp}{nm:List Nat}{pre chk:List DI}{l:List Ph}{v:AV}(hw:wanted (only tm nm) gd=some true)(hx:exec op h (only tm nm)= .val v h')
  (g:A8 P E Q pre chk l k fn nt (put tm dst v) ds dfd ro cs h'):Good P E Q ⟨⟨fn,nt,tm,.drawn ⟨⟨⟨dst,gd,op⟩,nm⟩,pre,chk⟩ l::k,ds,.run,dfd,ro⟩,cs,h⟩:=by
 refine A9 L ?_
 simp only [Ev.step,B3,hw,hx]
 exact g
theorem vz {dst:Option Nat}{gd:Option (Nat×Bool)}{op:COp}{nm:List Nat}{pre chk:List DI}{l:List Ph}(hw:wanted (only tm nm) gd=some false)
  (g:A8 P E Q pre chk l k fn nt (put tm dst (.tup [])) ds dfd ro cs h):Good P E Q ⟨⟨fn,nt,tm,.drawn ⟨⟨⟨dst,gd,op⟩,nm⟩,pre,chk⟩ l::k,ds,.run,dfd,ro⟩,cs,h⟩:=by
 refine A9 L ?_
 simp only [Ev.step,B3,hw]
 exact g
theorem v7 {dst:Option Nat}{gd:Option (Nat×Bool)}{op:COp}{nm:List Nat}{pre chk:List DI}{l:List Ph}{f:AFn}{args:List AV}(hw:wanted (only tm nm) gd=some true)(hx:exec op h (only tm nm)= .call f args)
  (g:GO P E Q (C1 F K f args false ⟨fn,nt,tm,.drawn ⟨⟨⟨dst,gd,op⟩,nm⟩,pre,chk⟩ l::k,ds,.run,dfd,ro⟩ cs h)):Good P E Q ⟨⟨fn,nt,tm,.drawn ⟨⟨⟨dst,gd,op⟩,nm⟩,pre,chk⟩ l::k,ds,.run,dfd,ro⟩,cs,h⟩:=by
 refine A9 L ?_
 simp only [Ev.step,B3,hw,hx]
 exact g
omit L in
theorem Sa {dst:Option Nat}{gd:Option (Nat×Bool)}{op:COp}{nm:List Nat}{pre chk:List DI}{l:List Ph}{v:AV}(hb:op≠ .bad)(g:A8 P E Q pre chk l k fn nt (put tm dst v) ds dfd ro cs h):
  GO P E Q (finish v cs h ⟨fn,nt,tm,.drawn ⟨⟨⟨dst,gd,op⟩,nm⟩,pre,chk⟩ l::k,ds,.run,dfd,ro⟩):=by
 cases op <;> first|exact absurd rfl hb|exact g
end
theorem zg (k:IntKind){a:Int}(h1:k.min≤a)(h2:a≤k.max):wr k a=a:=by
 rw [Gh]
 cases k <;> simp only [IntKind.min,IntKind.max,IntKind.signed,IntKind.bits,IntKind.wrap]at* <;> simp at* <;> (try split) <;> omega
theorem Ks {a:Int}(h1: -9223372036854775808≤a)(h2:a≤9223372036854775807):wr .i64 a=a:=zg .i64 (by simpa [IntKind.min,IntKind.signed,IntKind.bits]using h1) (by simpa [IntKind.max,IntKind.signed,IntKind.bits]using h2)
section
variable {l:List (Nat×Option AV)}{h:H}{x y z:O}{v:AV}{b o:Nat}
theorem Abd (e:evL l x=v):exec (.mv x) h (tms l)= .val v h:=by simp only [exec,Ag,e]
theorem v8 (e:evL l x= .ptr b o):exec (.nilc x) h (tms l)= .val (.ptr b o) h:=by simp only [exec,Ag,e]
theorem qf {off q:Nat}(e:evL l x= .ptr b o)(hq:Nat.add o off=q):exec (.faddr x off) h (tms l)= .val (.ptr b q) h:=by simp only [exec,Ag,e,hq]
theorem Yp {c:List AV}(e:evL l x= .ptr b o)(hb:H.get h b=some (cl c))(hv:c[o]?=some v):exec (.load1 x) h (tms l)= .val v h:=by
 have hlt:o<c.length:=(List.getElem?_eq_some_iff.1 hv).1
 have:Nat.ble (Nat.succ o) c.length=true:=by rw [Nat.ble_eq];exact hlt
 simp only [exec,Ag,e,hb,cl,this,vo,G9,hv]
theorem Lk {k:IntKind}{i len cap size q:Nat}(e:evL l x= .slc b o len cap)(e1:evL l y= .int k (i:Nat))(hi:i<len)(hq:Nat.add o (Nat.mul i size)=q):exec (.iaddrS size x y) h (tms l)= .val (.ptr b q) h:=by
 have:Nat.ble (Nat.succ i) len=true:=by rw [Nat.ble_eq];exact hi
 have e1':evL l y= .int k (Int.ofNat i):=e1
 simp only [exec,Ag,e,e1',this,hq]
theorem ie {len cap:Nat}(e:evL l x= .slc b o len cap):exec (.lenS x) h (tms l)= .val (.int .i64 (len:Nat)) h:=by
 simp only [exec,Ag,e];rfl
theorem Yq (e:evL l x= .nils):exec (.lenS x) h (tms l)= .val (.int .i64 0) h:=by
 simp only [exec,Ag,e];rfl
theorem zh {t:Bool}(e:evL l x= .bool t):exec (.un .not x) h (tms l)= .val (.bool (!t)) h:=by
 simp only [exec,Ag,e]
theorem bf {i:Nat}{vs:List AV}(e:evL l x= .tup vs)(hv:vs[i]?=some v):exec (.extract x i) h (tms l)= .val v h:=by
 simp only [exec,Ag,e,hv,vo]
theorem ig {k j:IntKind}{a r:Int}(e:evL l x= .int j a)(hr:wr k a=r):exec (.conv k x) h (tms l)= .val (.int k r) h:=by
 simp only [exec,Ag,e,hr]
section
variable {k:IntKind}{a c r:Int}{sh:Sh}{q:Bool}
theorem ii (e:evL l x= .int k a)(e1:evL l y= .int k c)(hr:wr k (a+c)=r):exec (.bin .add x y q sh) h (tms l)= .val (.int k r) h:=by
 simp only [exec,Ag,e,e1,F0,En,A7]
 show vo h (some (.int k (wr k (a+c))))=_
 rw [hr];rfl
theorem ij (e:evL l x= .int k a)(e1:evL l y= .int k c)(hr:wr k (a - c)=r):exec (.bin .sub x y q sh) h (tms l)= .val (.int k r) h:=by
 simp only [exec,Ag,e,e1,F0,En,A7]
 show vo h (some (.int k (wr k (a - c))))=_
 rw [hr];rfl
theorem zi (e:evL l x= .int k a)(e1:evL l y= .int k c)(hr:wr k (a*c)=r):exec (.bin .mul x y q sh) h (tms l)= .val (.int k r) h:=by
 simp only [exec,Ag,e,e1,F0,En,A7]
 show vo h (some (.int k (wr k (a*c))))=_
 rw [hr];rfl
theorem t6 {t:Bool}(e:evL l x= .int k a)(e1:evL l y= .int k c)(ht:decide (a<c)=t):exec (.bin .lss x y q sh) h (tms l)= .val (.bool t) h:=by
 simp only [exec,Ag,e,e1,F0,En,A7,G8,vo,ht]
theorem t7 {t:Bool}(e:evL l x= .int k a)(e1:evL l y= .int k c)(ht:decide (a≤c)=t):exec (.bin .leq x y q sh) h (tms l)= .val (.bool t) h:=by
 simp only [exec,Ag,e,e1,F0,En,A7,G8,vo]
 rw [←ht];congr 2
 by_cases hc:a≤c
 ·rw [decide_eq_true hc,decide_eq_false (by omega)];rfl
 ·rw [decide_eq_false hc,decide_eq_true (by omega)];rfl
theorem t8 {t:Bool}(e:evL l x= .int k a)(e1:evL l y= .int k c)(ht:decide (c<a)=t):exec (.bin .gtr x y q sh) h (tms l)= .val (.bool t) h:=by
 simp only [exec,Ag,e,e1,F0,En,A7,G8,vo,ht]
theorem t9 {t:Bool}(e:evL l x= .int k a)(e1:evL l y= .int k c)(ht:decide (c≤a)=t):exec (.bin .geq x y q sh) h (tms l)= .val (.bool t) h:=by
 simp only [exec,Ag,e,e1,F0,En,A7,G8,vo]
 rw [←ht];congr 2
 by_cases hc:c≤a
 ·rw [decide_eq_true hc,decide_eq_false (by omega)];rfl
 ·rw [decide_eq_false hc,decide_eq_true (by omega)];rfl
theorem ua {t:Bool}(e:evL l x= .int k a)(e1:evL l y= .int k c)(ht:decide (a=c)=t):exec (.bin .eql x y q sh) h (tms l)= .val (.bool t) h:=by
 simp only [exec,Ag,e,e1,F0,En,A7,E2,vo,ht]
theorem uc {t:Bool}(e:evL l x= .int k a)(e1:evL l y= .int k c)(ht:decide (a≠c)=t):exec (.bin .neq x y q sh) h (tms l)= .val (.bool t) h:=by
 simp only [exec,Ag,e,e1,F0,En,A7,E2,vo]
 rw [←ht];congr 2
 by_cases hc:a=c
 ·rw [decide_eq_true hc,decide_eq_false (by omega)];rfl
 ·rw [decide_eq_false hc,decide_eq_true hc];rfl
end
end
section
variable {P:Program}{E:Env}{F:T CFn}{K:T (List AV×AV)}{Q:Nat→AV→Prop}
variable {fn nt:Nat}{l:List (Nat×Option AV)}{todo k:List AItem}{ds:List ADef}{dfd:Bool}{ro:Option Nat}{cs:List AFr}{h h':H}
variable (L:Lg P E F K)
include L
theorem zj {f:Nat}{g:CFn}{args:List AV}{l0:List (Nat×Option AV)}{x:AFr}(hf:T.get F f=some g)(hm:T.get K f=none)(hn:Nat.ble args.length g.ntmps=true)(hl:ofL 0 .leaf args=tms l0)
  (h1:Good P E Q ⟨⟨f,g.ntmps,tms l0,[.code g.body],[],.run,false,none⟩,x::cs,h⟩):GO P E Q (C1 F K (.func f) args false x cs h):=
 qe L hf (by simp only [memo,hm]) hn (hl ▸ h1)
end
theorem IR.ops_inv {E:Env}{φ: Phi}{nt:Nat}{l:List CI}{i':Item}(h:IR E φ nt (.ops l) i'): ∃ops td,l=td.map (Bu E nt ops)∧i'= .inRegion ops td:=by
 cases h;exact⟨_,_,rfl,rfl⟩
section
variable {P:Program}{E:Env}{F:T CFn}{K:T (List AV×AV)}{Q:Nat→AV→Prop}
variable (L:Lg P E F K)
variable {fn nt:Nat}{tm:T AV}{todo k:List AItem}{ds:List ADef}{dfd:Bool}{ro:Option Nat}{cs:List AFr}{h h':H}
include L
theorem N1 {dst:Option Nat}{gd:Option (Nat×Bool)}{op:COp}{r:List CI}{v:AV}(hw:wanted tm gd=some true)(hx:exec op h tm= .val v h')
  (g:Good P E Q ⟨⟨fn,nt,put tm dst v,.ops r::k,ds,.run,dfd,ro⟩,cs,h'⟩):Good P E Q ⟨⟨fn,nt,tm,.ops (⟨dst,gd,op⟩::r)::k,ds,.run,dfd,ro⟩,cs,h⟩:=by
 intro w0 cs0 m hA
 obtain⟨φ,fr,cs1,w,rfl,hf,hfs,hr⟩:=hA.ex
 obtain⟨f1,tmps,todo',defers,mode,kind,ro'⟩:=fr
 obtain⟨h1,h2,h3,h4,h5,h6,h7⟩:=hf
 simp only at h1 h2 h3 h4 h5 h6 h7 hfs hr
 cases h5
 cases h6 with
 |plain ht hi=>
  cases hi with
  | @cons _ i' _ k' hi hk=>
   obtain⟨ops,td,e1,rfl⟩:=hi.ops_inv
   cases td with
   |nil=>cases e1
   |cons j rest=>
    rw [List.map_cons,List.cons.injEq]at e1
    obtain⟨e1,rfl⟩:=e1
    rcases Jf E nt ops j with hbad|⟨o,ho,q1,q2,q3,q4⟩
    ·rw [hbad]at e1;cases e1;cases hx
    ·rw [←e1]at q1 q3 q4
     simp only at q1 q3 q4
     subst q1
     have hb:BR' φ fn dfd ro (⟨f1,tmps,.inRegion ops (j::rest)::k',defers,.run,kind,ro'⟩:Frame):=⟨h1,h2,h3⟩
     have hwc:=Es (a:=⟨tmps,defers⟩) ht q3 hw
     rw [q4]at hx
     have hnd: ∀c,o.op≠ .defer c:=Fi hx (by intro _ _ e;cases e) (by intro e;cases e)
     have hsim:=Ol hr.hr (TR.rho (a:=⟨tmps,defers⟩) ht) L.hE hx
     obtain⟨φ1,v',w1,⟨s1,_⟩,s2,s3,s4,s5⟩:=hsim
     have hstep:=Hm (b:=⟨f1,tmps,.inRegion ops (j::rest)::k',defers,.run,kind,ro'⟩) (a:=⟨tmps,defers⟩) (cs:=cs1++cs0) (k:=k') (rest:=rest) ho hwc hnd s2
     have hd':DRs φ1 ds ((⟨tmps,defers⟩:Act).put o.dst v').defers:=by
      have:((⟨tmps,defers⟩:Act).put o.dst v').defers=defers:=by cases o.dst <;> rfl
      rw [this];exact h4.mono s1
     have hA':At E w0 cs0 ⟨⟨fn,nt,put tm o.dst v,.ops (rest.map (Bu E nt ops))::k,ds,.run,dfd,ro⟩,cs,h'⟩ (lone ((⟨f1,tmps,.inRegion ops (j::rest)::k',defers,.run,kind,ro'⟩:Frame).atR ((⟨tmps,defers⟩:Act).put o.dst v') (.inRegion ops rest::k')) (cs1++cs0) w1):=
      ⟨φ1,_,cs1,w1,rfl,(hb.mono s1).FR ((ht.mono s1).put' (a:=⟨tmps,defers⟩) q2 s3) hd' (.cons (.ops ops rest) (hk.mono s1)),hfs.mono s1,hr.to s4 s5⟩
     obtain⟨fn',u,hh,fr',w',φ',u',q,s,t⟩:=g w0 cs0 _ hA'
     exact⟨fn',u,hh,fr',w',φ',u',q,.head hstep s,t⟩
theorem Kt {dst:Option Nat}{gd:Option (Nat×Bool)}{op:COp}{r:List CI}(hw:wanted tm gd=some false)
  (g:Good P E Q ⟨⟨fn,nt,put tm dst (.tup []),.ops r::k,ds,.run,dfd,ro⟩,cs,h⟩):Good P E Q ⟨⟨fn,nt,tm,.ops (⟨dst,gd,op⟩::r)::k,ds,.run,dfd,ro⟩,cs,h⟩:=by
 intro w0 cs0 m hA
 obtain⟨φ,fr,cs1,w,rfl,hf,hfs,hr⟩:=hA.ex
 obtain⟨f1,tmps,todo',defers,mode,kind,ro'⟩:=fr
 obtain⟨h1,h2,h3,h4,h5,h6,h7⟩:=hf
 simp only at h1 h2 h3 h4 h5 h6 h7 hfs hr
 cases h5
 cases h6 with
 |plain ht hi=>
  cases hi with
  | @cons _ i' _ k' hi hk=>
   obtain⟨ops,td,e1,rfl⟩:=hi.ops_inv
   cases td with
   |nil=>cases e1
   |cons j rest=>
    rw [List.map_cons,List.cons.injEq]at e1
    obtain⟨e1,rfl⟩:=e1
    have hb:BR' φ fn dfd ro (⟨f1,tmps,.inRegion ops (j::rest)::k',defers,.run,kind,ro'⟩:Frame):=⟨h1,h2,h3⟩
    rcases Jf E nt ops j with hbad|⟨o,ho,q1,q2,q3,q4⟩
    ·rw [hbad]at e1;cases e1;cases hw
    ·rw [←e1]at q1 q3 q4
     simp only at q1 q3 q4
     subst q1
     have hwc:=Es (a:=⟨tmps,defers⟩) ht q3 hw
     have hstep:=stepR_op_skip (P:=P) (b:=⟨f1,tmps,.inRegion ops (j::rest)::k',defers,.run,kind,ro'⟩) (a:=⟨tmps,defers⟩) (k:=k') (cs:=cs1++cs0) (w:=w) (ops:=ops) (i:=j) (rest:=rest) (by rw [ho];simpa using hwc)
     rw [ho]at hstep
     simp only [Option.bind_some]at hstep
     have hd':DRs φ ds ((⟨tmps,defers⟩:Act).put o.dst undef).defers:=by
      have:((⟨tmps,defers⟩:Act).put o.dst undef).defers=defers:=by cases o.dst <;> rfl
      rw [this];exact h4
     have hA':At E w0 cs0 ⟨⟨fn,nt,put tm o.dst (.tup []),.ops (rest.map (Bu E nt ops))::k,ds,.run,dfd,ro⟩,cs,h⟩ (lone ((⟨f1,tmps,.inRegion ops (j::rest)::k',defers,.run,kind,ro'⟩:Frame).atR ((⟨tmps,defers⟩:Act).put o.dst undef) (.inRegion ops rest::k')) (cs1++cs0) w):=
      ⟨φ,_,cs1,w,rfl,hb.FR (ht.put' (a:=⟨tmps,defers⟩) q2 (.tup .nil)) hd' (.cons (.ops ops rest) hk),hfs,hr⟩
     obtain⟨fn',u,hh,fr',w',φ',u',q,s,t⟩:=g w0 cs0 _ hA'
     exact⟨fn',u,hh,fr',w',φ',u',q,.head hstep s,t⟩
theorem v9 {l:List CI}(g:Good P E Q ⟨⟨fn,nt,tm,.ops l::k,ds,.run,dfd,ro⟩,cs,h⟩):Good P E Q ⟨⟨fn,nt,tm,.code (.ops l)::k,ds,.run,dfd,ro⟩,cs,h⟩:=by
 intro w0 cs0 m hA
 obtain⟨φ,fr,cs1,w,rfl,hf,hfs,hr⟩:=hA.ex
 obtain⟨f1,tmps,todo',defers,mode,kind,ro'⟩:=fr
 obtain⟨h1,h2,h3,h4,h5,h6,h7⟩:=hf
 simp only at h1 h2 h3 h4 h5 h6 h7 hfs hr
 cases h5
 cases h6 with
 |plain ht hi=>
  cases hi with
  | @cons _ i' _ k' hi hk=>
   have hinv: ∀{x:AItem},IR E φ nt x i'→x= .code (.ops l)→ ∃id ops,i'= .code (.region id ops false)∧l=(List.range ops.size).map (Bu E nt ops):=by
    intro x hx ex
    cases hx with
    |code c=>
     simp only [AItem.code.injEq]at ex
     cases c with
     |region id ops d=>
      cases d with
      |false=>
       simp only [Ba,Ez,CC.ops.injEq]at ex
       refine⟨id,ops,rfl,?_⟩
       rw [←ex]
       apply List.ext_getElem?
       intro i
       simp only [List.getElem?_map,Array.getElem?_toList]
       by_cases hi:i<ops.size
       ·rw [List.getElem?_range hi,Array.getElem?_eq_getElem hi];simp [Bu,hi]
       ·rw [Array.getElem?_eq_none (by omega),List.getElem?_eq_none (by simpa using hi)];rfl
      |true=>
       simp only [Ba,Ez]at ex
       repeat' split at ex
       all_goals cases ex
     |rangeFunc f ps a b=>simp only [Ba]at ex;split at ex <;> cases ex
     |_=>cases ex
    |_=>cases ex
   obtain⟨id,ops,rfl,rfl⟩:=hinv hi rfl
   have hb:BR' φ fn dfd ro (⟨f1,tmps,.code (.region id ops false)::k',defers,.run,kind,ro'⟩:Frame):=⟨h1,h2,h3⟩
   have hstep:=stepR_region (P:=P) (b:=⟨f1,tmps,.code (.region id ops false)::k',defers,.run,kind,ro'⟩) (a:=⟨tmps,defers⟩) (k:=k') (cs:=cs1++cs0) (w:=w) (ops:=ops) (id:=id)
   have hA':At E w0 cs0 ⟨⟨fn,nt,tm,.ops ((List.range ops.size).map (Bu E nt ops))::k,ds,.run,dfd,ro⟩,cs,h⟩ (lone ((⟨f1,tmps,.code (.region id ops false)::k',defers,.run,kind,ro'⟩:Frame).atR (⟨tmps,defers⟩:Act) (.inRegion ops (List.range ops.size)::k')) (cs1++cs0) w):=
    ⟨φ,_,cs1,w,rfl,hb.FR (a:=⟨tmps,defers⟩) ht h4 (.cons (.ops ops (List.range ops.size)) hk),hfs,hr⟩
   obtain⟨fn',u,hh,fr',w',φ',u',q,s,t⟩:=g w0 cs0 _ hA'
   exact⟨fn',u,hh,fr',w',φ',u',q,.head hstep s,t⟩
theorem wc (g:Good P E Q ⟨⟨fn,nt,tm,k,ds,.run,dfd,ro⟩,cs,h⟩):Good P E Q ⟨⟨fn,nt,tm,.ops []::k,ds,.run,dfd,ro⟩,cs,h⟩:=A9 L g
theorem Sb {dst:Option Nat}{gd:Option (Nat×Bool)}{op:COp}{r:List CI}{f:AFn}{args:List AV}(hw:wanted tm gd=some true)(hx:exec op h tm= .call f args)
  (g:GO P E Q (C1 F K f args false ⟨fn,nt,tm,.ops (⟨dst,gd,op⟩::r)::k,ds,.run,dfd,ro⟩ cs h)):Good P E Q ⟨⟨fn,nt,tm,.ops (⟨dst,gd,op⟩::r)::k,ds,.run,dfd,ro⟩,cs,h⟩:=
 Ms L (vt hw hx g)
theorem Ku {dst:Option Nat}{gd:Option (Nat×Bool)}{op:COp}{r:List CI}{v:AV}(hb:op≠ .bad)(g:Good P E Q ⟨⟨fn,nt,put tm dst v,.ops r::k,ds,.run,dfd,ro⟩,cs,h⟩):
  GO P E Q (finish v cs h ⟨fn,nt,tm,.ops (⟨dst,gd,op⟩::r)::k,ds,.run,dfd,ro⟩):=by
 cases op <;> first|exact absurd rfl hb|exact g
end
def Tn (l:List (Nat×Option AV)):List O→List AV
 | []=> []
 |x::r=>evL l x::Tn l r
theorem Ll (l:List (Nat×Option AV)): ∀xs:List O,evs (tms l) xs=Tn l xs
 | []=>rfl
 |x::r=>by simp only [evs,Tn,Ag,Ll l r]
def N2 (l:List (Nat×Option AV)):List (Nat×Nat×O)→List AV→Option (List AV)
 | [],cells=>some cells
 |p::r,cells=>
  match Bi (evL l p.2.2)with
  |some x=>(match Nat.beq x.length p.2.1,Nat.ble (Nat.add p.1 p.2.1) cells.length with
   |true,true=>N2 l r (Gx x cells p.1)
   |_,_=>none)
  |none=>none
theorem P7 (l:List (Nat×Option AV)): ∀(ps:List (Nat×Nat×O)) (cells:List AV),fill (tms l) ps cells=N2 l ps cells
 | [],cells=>rfl
 |p::r,cells=>by
  simp only [fill,N2,Ag]
  cases Bi (evL l p.2.2)with
  |none=>rfl
  |some x=>
   simp only [P7 l r]
   generalize Nat.beq x.length p.2.1=q1
   generalize Nat.ble (Nat.add p.1 p.2.1) cells.length=q2
   cases q1 <;> cases q2 <;> rfl
section
variable {l:List (Nat×Option AV)}{lh:List (Nat×Option Blk)}{n:Nat}{t:T Blk}{h:H}{x y z:O}{v:AV}{b o:Nat}{c lv:List AV}
theorem Vb {c:List AV}: ∀{k o:Nat},o+k≤c.length→loadN (ofL 0 (.leaf:T AV) c) k o=some ((c.drop o).take k)
 |0,o,h=>by simp [loadN]
 |k+1,o,h=>by
  have hlt:o<c.length:=by omega
  simp only [loadN,G9,List.getElem?_eq_getElem hlt]
  rw [show Nat.succ o=o+1 from rfl,Vb (k:=k) (o:=o+1) (by omega)]
  simp only [Option.some.injEq]
  rw [List.drop_eq_getElem_cons hlt,List.take_succ_cons]
theorem Id {k:Nat}(hb:H.get h b=some (cl c))(hk:o+k≤c.length):cellsAt h b o k=some ((c.drop o).take k):=by
 cases k with
 |zero=>simp [cellsAt]
 |succ k=>
  have:Nat.ble (Nat.add o (k+1)) c.length=true:=by rw [Nat.ble_eq];exact hk
  simp only [cellsAt,hb,cl,this]
  exact Vb hk
theorem Yr {k:Nat}(e:evL l x= .ptr b o)(hb:H.get h b=some (cl c))(hk:o+k≤c.length)(hv:(c.drop o).take k=lv):exec (.loadN k x) h (tms l)= .val (.agg lv) h:=by
 simp only [exec,Ag,e,Id hb hk,hv]
theorem qg:exec (.alloc c) (hp n t lh) (tms l)= .val (.ptr n 0) (hp (n+1) t ((n,some (cl c))::lh)):=rfl
theorem zl {k:Nat}(e:evL l x=v)(hc:Bi v=some lv)(hk:Nat.beq lv.length k=true):exec (.box k x) (hp n t lh) (tms l)= .val (.ptr n 0) (hp (n+1) t ((n,some (cl lv))::lh)):=by
 simp only [exec,Ag,e,hc,hk];rfl
theorem qh {ps:List (Nat×Nat×O)}(hf:N2 l ps c=some lv):exec (.build c ps) h (tms l)= .val (.agg lv) h:=by
 simp only [exec,P7,hf]
theorem ik {k:Nat}{ps:List (Nat×Nat×O)}(hf:N2 l ps c=some lv):exec (.bslice k c ps) (hp n t lh) (tms l)= .val (.slc n 0 k k) (hp (n+1) t ((n,some (cl lv))::lh)):=by
 simp only [exec,P7,hf];rfl
theorem wd {f:AFn}{a cp:List O}{va vc:List AV}(ha:Tn l a=va)(hc:Tn l cp=vc):exec (.mkfn f a cp) h (tms l)= .val (.fn f va vc) h:=by
 simp only [exec,Ll,ha,hc]
theorem we {f:AFn}{a:List O}{va first cp r:List AV}(e:evL l x= .fn f first cp)(ha:Tn l a=va)(hr:List.append first (List.append va cp)=r):exec (.callv x a) h (tms l)= .call f r:=by
 simp only [exec,Ag,e,Ll,ha,hr]
theorem wg {k:Nat}(e:evL l x=v):exec (.mkif k x) h (tms l)= .val (.ifc k v) h:=by simp only [exec,Ag,e]
theorem bg {k:Nat}{z:AV}(e:evL l x= .ifc k v):exec (.tassert x k z false) h (tms l)= .val v h:=by
 have:Nat.beq k k=true:=Nat.beq_refl k
 simp only [exec,Ag,e,this]
theorem il {vs:List AV}{off:Nat}(e:evL l x= .agg vs)(hv:vs[off]?=some v):exec (.field1 x off) h (tms l)= .val v h:=by simp only [exec,Ag,e,hv,vo]
theorem im {vs:List AV}{off k:Nat}(e:evL l x= .agg vs)(hv:(vs.drop off).take k=lv):exec (.fieldN x off k) h (tms l)= .val (.agg lv) h:=by simp only [exec,Ag,e,hv]
theorem io {k:IntKind}{i len size q:Nat}(e:evL l x= .ptr b o)(e1:evL l y= .int k (i:Nat))(hi:i<len)(hq:Nat.add o (Nat.mul i size)=q):exec (.iaddrA len size x y) h (tms l)= .val (.ptr b q) h:=by
 have:Nat.ble (Nat.succ i) len=true:=by rw [Nat.ble_eq];exact hi
 have e1':evL l y= .int k (Int.ofNat i):=e1
 simp only [exec,Ag,e,e1',this,hq]
theorem bh {k j:IntKind}{ln cn bytes:Nat}(e:evL l x= .int k (ln:Nat))(e1:evL l y= .int j (cn:Nat))(h1:ln≤cn)(h2:cn*bytes≤281474976710656)(h3:cn≤281474976710656)(hv:rl c cn=lv):
  exec (.mkslice bytes c x y) (hp n t lh) (tms l)= .val (.slc n 0 ln cn) (hp (n+1) t ((n,some (cl lv))::lh)):=by
 have e':evL l x= .int k (Int.ofNat ln):=e
 have e1':evL l y= .int j (Int.ofNat cn):=e1
 have g1:Nat.ble ln cn=true:=by rw [Nat.ble_eq];exact h1
 have g2:Nat.ble (Nat.mul cn bytes) 281474976710656=true:=by rw [Nat.ble_eq];exact h2
 have g3:Nat.ble cn 281474976710656=true:=by rw [Nat.ble_eq];exact h3
 simp only [exec,Ag,e',e1',g1,g2,g3,hv];rfl
theorem qi:exec .mkmap (hp n t lh) (tms l)= .val (.map n) (hp (n+1) t ((n,some (.map [] 0))::lh)):=rfl
theorem ud {k:IntKind}{a d r:Int}{mx:Bool}(e:evL l x= .int k a)(e1:evL l y= .int k d)(hr:(match mx with|true=>max a d|false=>min a d)=r):exec (.maxmin mx x y) h (tms l)= .val (.int k r) h:=by
 simp only [exec,Ag,e,e1,F1,A7,vo,G8]
 subst hr
 cases mx with
 |true=>
  by_cases hc:a<d
  ·simp only [decide_eq_true hc];rw [Int.max_eq_right (by omega)]
  ·simp only [decide_eq_false hc];rw [Int.max_eq_left (by omega)]
 |false=>
  by_cases hc:d<a
  ·simp only [decide_eq_true hc];rw [Int.min_eq_right (by omega)]
  ·simp only [decide_eq_false hc];rw [Int.min_eq_left (by omega)]
end
theorem W9 (c lv:List AV)(o:Nat)(hk:o+lv.length≤c.length)(i:Nat):T.get (Kl o (ofL 0 .leaf c) lv) i=(Gx lv c o)[i]?:=by
 rw [Kn,G9]
 exact(Hj lv c o i hk).symm
theorem Vc: ∀(xs l:List AV) (o:Nat),o+xs.length≤l.length→(Gx xs l o).length=l.length
 |xs,l,0,h=>by
  have:Gx xs l 0=xs++l.drop xs.length:=by cases l <;> rfl
  rw [this];simp;omega
 |xs,[],o+1,h=>by simp at h
 |xs,a::l,o+1,h=>by
  simp only [Gx,List.length_cons]at h ⊢
  rw [Vc xs l o (by omega)]
theorem Vd (c:List AV)(v:AV): ∀(o:Nat),o<c.length→Gx [v] c o=c.set o v:=by
 intro o ho
 apply List.ext_getElem?
 intro i
 rw [Hj [v] c o i (by simp;omega),List.getElem?_set]
 by_cases hi:o=i
 ·subst hi;simp [ho]
 ·rw [if_neg hi,if_neg (by simp;omega)]
theorem Ot {n b o:Nat}{t:T Blk}{lh:List (Nat×Option Blk)}{c c' lv:List AV}(hp1:As lv=true)(hb:H.get (hp n t lh) b=some (cl c))(hk:o+lv.length≤c.length)(hs:Gx lv c o=c'):
  ∃h',putBlk (hp n t lh) b o lv=some h'∧HSub (hp n t ((b,some (cl c'))::lh)) h':=by
 cases lv with
 |nil=>
  refine⟨_,rfl,Nat.le_refl _,fun i z hz=>?_⟩
  have hcc:c'=c:=by rw [←hs];apply List.ext_getElem?;intro i;rw [Hj [] c o i (by simpa using hk)];simp;omega
  subst hcc
  by_cases e:i=b
  ·subst e;rw [Ha]at hz;cases hz;exact⟨_,hb,.same _⟩
  ·rw [D6 _ _ _ _ e]at hz;exact⟨z,hz,.same z⟩
 |cons a lv=>
  have g1:Nat.ble (Nat.add o (a::lv).length) c.length=true:=by rw [Nat.ble_eq];exact hk
  refine⟨H.set (hp n t lh) b (.cells false c.length (Kl o (ofL 0 .leaf c) (a::lv))),?_,Nat.le_refl _,fun i z hz=>?_⟩
  ·simp only [putBlk,hb,cl,g1,hp1]
  ·by_cases e:i=b
   ·subst e
    rw [Ha]at hz;cases hz
    refine⟨_,by rw [H.get_set,if_pos rfl],?_⟩
    unfold cl
    refine .cells (by rw [←hs,Vc _ _ _ hk];exact Nat.le_refl _) fun j u hj hu=>?_
    rw [G9]at hu
    rw [W9 _ _ _ hk,hs];exact hu
   ·rw [D6 _ _ _ _ e]at hz
    exact⟨z,by rw [H.get_set,if_neg e];exact hz,.same z⟩
section
variable {P:Program}{E:Env}{F:T CFn}{K:T (List AV×AV)}{Q:Nat→AV→Prop}
variable (L:Lg P E F K)
variable {fn nt:Nat}{l:List (Nat×Option AV)}{todo k:List AItem}{ds:List ADef}{dfd:Bool}{ro:Option Nat}{cs:List AFr}{n b o:Nat}{t:T Blk}{lh:List (Nat×Option Blk)}{r:List CI}{gd:Option (Nat×Bool)}{x y:O}{v:AV}{c c' lv:List AV}
include L
theorem To {m:Nat}(hw:wanted (tms l) gd=some true)(e:evL l x= .ptr b o)(e1:evL l y=v)(hc:Bi v=some lv)(hm:Nat.beq lv.length m=true)(hp1:As lv=true)
  (hb:H.get (hp n t lh) b=some (cl c)) (hk:o+lv.length≤c.length) (hs:Gx lv c o=c')
  (g:Good P E Q ⟨⟨fn,nt,tms l,.ops r::k,ds,.run,dfd,ro⟩,cs,hp n t ((b,some (cl c'))::lh)⟩):
  Good P E Q ⟨⟨fn,nt,tms l,.ops (⟨none,gd,.store m x y⟩::r)::k,ds,.run,dfd,ro⟩,cs,hp n t lh⟩:=by
 have hput:=Ot (n:=n) (t:=t) (lh:=lh) hp1 hb hk hs
 obtain⟨h',q1,q2⟩:=hput
 have hx:exec (.store m x y) (hp n t lh) (tms l)= .val .unk h':=by simp only [exec,Ag,e,e1,hc,hm,q1]
 exact N1 L (dst:=none) hw hx (P4 (.refl _) q2 g)
theorem Oc {tm tm':T AV}{h:H}{mode:AMode}(ht:TSub tm' tm)(g:Good P E Q ⟨⟨fn,nt,tm',todo,ds,mode,dfd,ro⟩,cs,h⟩):Good P E Q ⟨⟨fn,nt,tm,todo,ds,mode,dfd,ro⟩,cs,h⟩:=P4 ht (.refl _) g
theorem Od {tm:T AV}{h h':H}{mode:AMode}(hh:HSub h' h)(g:Good P E Q ⟨⟨fn,nt,tm,todo,ds,mode,dfd,ro⟩,cs,h'⟩):Good P E Q ⟨⟨fn,nt,tm,todo,ds,mode,dfd,ro⟩,cs,h⟩:=P4 (.refl _) hh g
theorem o1 {d:Nat}{op:COp}{h h':H}(hw:wanted (tms l) gd=some true)(hx:exec op h (tms l)= .val v h')(g:Good P E Q ⟨⟨fn,nt,tms ((d,some v)::l),.ops r::k,ds,.run,dfd,ro⟩,cs,h'⟩):
  Good P E Q ⟨⟨fn,nt,tms l,.ops (⟨some d,gd,op⟩::r)::k,ds,.run,dfd,ro⟩,cs,h⟩:=N1 L hw hx g
theorem os {d:Nat}{op:COp}{h:H}(hw:wanted (tms l) gd=some false)(g:Good P E Q ⟨⟨fn,nt,tms ((d,some (.tup []))::l),.ops r::k,ds,.run,dfd,ro⟩,cs,h⟩):
  Good P E Q ⟨⟨fn,nt,tms l,.ops (⟨some d,gd,op⟩::r)::k,ds,.run,dfd,ro⟩,cs,h⟩:=Kt L hw g
theorem fi {d:Nat}{op:COp}{h:H}(hb:op≠ .bad)(g:Good P E Q ⟨⟨fn,nt,tms ((d,some v)::l),.ops r::k,ds,.run,dfd,ro⟩,cs,h⟩):
  GO P E Q (finish v cs h ⟨fn,nt,tms l,.ops (⟨some d,gd,op⟩::r)::k,ds,.run,dfd,ro⟩):=Ku L hb g
end
theorem ip {tm:T AV}:TSub (tms []) tm:=fun t v h=>by rw [G4]at h;cases h
theorem bj {l l':List (Nat×Option AV)}{k:Nat}{v:AV}(h:look l k=some v)(hs:TSub (tms l') (tms l)):TSub (tms ((k,some v)::l')) (tms l):=by
 intro t u hu
 rw [Tm]at hu
 by_cases e:t=k
 ·subst e;rw [if_pos rfl]at hu;cases hu;rw [G4];exact h
 ·rw [if_neg e]at hu;exact hs t u hu
section
variable {P:Program}{E:Env}{F:T CFn}{K:T (List AV×AV)}{Q:Nat→AV→Prop}
variable (L:Lg P E F K)
variable {fn nt:Nat}{l:List (Nat×Option AV)}{todo k:List AItem}{ds:List ADef}{dfd:Bool}{ro:Option Nat}{cs:List AFr}{h:H}{x:O}{a b:CC}{t:Bool}
include L
theorem gc (e:evL l x= .bool t)(g1:t=true→Good P E Q ⟨⟨fn,nt,tms l,.code a::k,ds,.run,dfd,ro⟩,cs,h⟩)(g2:t=false→Good P E Q ⟨⟨fn,nt,tms l,.code b::k,ds,.run,dfd,ro⟩,cs,h⟩):
  Good P E Q ⟨⟨fn,nt,tms l,.code (.cond x a b)::k,ds,.run,dfd,ro⟩,cs,h⟩:=vr L ((Ag l x).trans e) g1 g2
theorem gcT (e:evL l x= .bool true)(g1:Good P E Q ⟨⟨fn,nt,tms l,.code a::k,ds,.run,dfd,ro⟩,cs,h⟩):
  Good P E Q ⟨⟨fn,nt,tms l,.code (.cond x a b)::k,ds,.run,dfd,ro⟩,cs,h⟩:=gc L e (fun _=>g1) (fun h=>by cases h)
theorem gcF (e:evL l x= .bool false)(g1:Good P E Q ⟨⟨fn,nt,tms l,.code b::k,ds,.run,dfd,ro⟩,cs,h⟩):
  Good P E Q ⟨⟨fn,nt,tms l,.code (.cond x a b)::k,ds,.run,dfd,ro⟩,cs,h⟩:=gc L e (fun h=>by cases h) (fun _=>g1)
end
theorem cvb {f:O}{a:List O}:COp.callv f a≠ .bad:=by intro h;cases h
theorem Tp {k:IntKind}(hs:k.signed=false)(a:Nat):wr k (a:Nat)=((a % pw k:Nat):Int):=by
 rw [Gh,d9]
 unfold IntKind.wrap
 have:((a:Nat):Int) % (2 ^ k.bits:Int)=((a % 2 ^ k.bits:Nat):Int):=by
  rw [Int.natCast_emod];congr 1
 rw [this]
 simp only [hs,Bool.false_and,Bool.false_eq_true,if_false,false_and]
theorem Lm {k:IntKind}{a:Nat}(h:a<pw k):toU k (a:Nat)=a:=by
 show Nat.mod a (pw k)=a
 exact Nat.mod_eq_of_lt h
theorem P8 {k:IntKind}(hs:k.signed=false){a:Nat}(h:a<pw k):wr k (a:Nat)=(a:Nat):=by
 rw [Tp hs,Nat.mod_eq_of_lt h]
section
variable {l:List (Nat×Option AV)}{h:H}{x y:O}{k:IntKind}{a c r:Nat}{sh:Sh}{q:Bool}
theorem zm (hs:k.signed=false)(e:evL l x= .int k (a:Nat))(e1:evL l y= .int k (c:Nat))(ha:a<pw k)(hc:c<pw k)(hx:(a ^^^ c)<pw k)(hr:a ^^^ c=r):exec (.bin .xor x y q sh) h (tms l)= .val (.int k (r:Nat)) h:=by
 simp only [exec,Ag,e,e1,F0,En,A7,vo,Lm ha,Lm hc]
 have:wr k (Int.ofNat (Nat.xor a c))=(r:Nat):=by
  show wr k ((a ^^^ c:Nat):Int)=_
  rw [P8 hs hx,hr]
 rw [this]
theorem zn {j:IntKind}{s:Nat}(e:evL l x= .int k (a:Nat))(e1:evL l y= .int j (s:Nat))(hs:s≤bits k)(hr:a >>> s=r):exec (.bin .shr x y q sh) h (tms l)= .val (.int k (r:Nat)) h:=by
 have e1':evL l y= .int j (Int.ofNat s):=e1
 simp only [exec,Ag,e,e1',F0,En,vo]
 have h1:Kk s (bits k)=s:=by rw [La];exact Nat.min_eq_left hs
 have h2:Int.fdiv (a:Nat) (Int.ofNat (Nat.pow 2 s))=((a >>> s:Nat):Int):=by
  rw [Nat.shiftRight_eq_div_pow,Int.fdiv_eq_ediv_of_nonneg _ (by exact Int.natCast_nonneg _)]
  rfl
 rw [h1,h2,hr]
theorem Ys {j:IntKind}{k':IntKind}(hs:k'.signed=false)(e:evL l x= .int j (a:Nat))(hr:a % pw k'=r):exec (.conv k' x) h (tms l)= .val (.int k' (r:Nat)) h:=by
 simp only [exec,Ag,e,Tp hs,hr]
theorem wh (hs:k.signed=false)(e:evL l x= .int k (a:Nat))(ha:a<pw k)(hr:pw k - 1 - a=r):exec (.un .xor x) h (tms l)= .val (.int k (r:Nat)) h:=by
 simp only [exec,Ag,e,Lm ha]
 have:wr k (Int.ofNat (Nat.sub (Nat.sub (pw k) 1) a))=(r:Nat):=by
  show wr k ((pw k - 1 - a:Nat):Int)=_
  have hp:0<pw k:=Nat.lt_of_le_of_lt (Nat.zero_le _) ha
  rw [P8 hs (by omega),hr]
 rw [this]
end
def evO (l:List (Nat×Option AV))(o:O):Option AV:=match o with
 | .t i=>look l i
 | .c v=>some v
theorem Ad {l:List (Nat×Option AV)}{x:O}{v:AV}(e:evO l x=some v):evL l x=v:=by
 cases x with
 |t i=>simp only [evO]at e;simp only [evL,e]
 |c u=>simp only [evO,Option.some.injEq]at e;simp only [evL,e]
def Fj (l:List (Nat×Option AV)):List O→Option (List AV)
 | []=>some []
 |x::r=>match evO l x,Fj l r with
  |some v,some vs=>some (v::vs)
  |_,_=>none
theorem Mt {l:List (Nat×Option AV)}: ∀{xs:List O} {vs:List AV},Fj l xs=some vs→Tn l xs=vs
 | [],vs,h=>by simp only [Fj,Option.some.injEq]at h;simp only [Tn,h]
 |x::r,vs,h=>by
  simp only [Fj]at h
  cases e1:evO l x with
  |none=>rw [e1]at h;cases h
  |some v=>
   cases e2:Fj l r with
   |none=>rw [e1,e2]at h;cases h
   |some us=>
    rw [e1,e2]at h;simp only [Option.some.injEq]at h
    simp only [Tn,Ad e1,Mt e2,h]
def Fq:List AV→List AV→Option (List AV)
 | [],c=>some c
 |v::r,c=>match Fq r c with
  |some x=>some (v::x)
  |none=>none
theorem Ie: ∀{a c r:List AV},Fq a c=some r→List.append a c=r
 | [],c,r,h=>by simp only [Fq,Option.some.injEq]at h;exact h
 |v::a,c,r,h=>by
  simp only [Fq]at h
  cases e:Fq a c with
  |none=>rw [e]at h;cases h
  |some x=>rw [e]at h;simp only [Option.some.injEq]at h;rw [←h,←Ie e];rfl
def ovO:List AV→List AV→Option (List AV)
 | [],c=>some c
 |_::_,[]=>none
 |v::r,_::c=>match ovO r c with
  |some x=>some (v::x)
  |none=>none
def P9 (lv:List AV):List AV→Nat→Option (List AV)
 |c,0=>ovO lv c
 | [],_+1=>none
 |a::c,o+1=>match P9 lv c o with
  |some x=>some (a::x)
  |none=>none
theorem iq: ∀{lv c r:List AV},ovO lv c=some r→lv.length≤c.length∧lv++c.drop lv.length=r
 | [],c,r,h=>by simp only [ovO,Option.some.injEq]at h;simp [h]
 |_::_,[],r,h=>by cases h
 |v::lv,_::c,r,h=>by
  simp only [ovO]at h
  cases e:ovO lv c with
  |none=>rw [e]at h;cases h
  |some x=>
   rw [e]at h;simp only [Option.some.injEq]at h
   obtain⟨h1,h2⟩:=iq e
   refine⟨by simp only [List.length_cons];omega,?_⟩
   rw [←h,←h2];simp
theorem J3 {lv:List AV}: ∀{c:List AV} {o:Nat} {r:List AV},P9 lv c o=some r→o+lv.length≤c.length∧Gx lv c o=r
 |c,0,r,h=>by
  have h':ovO lv c=some r:=by cases c <;> exact h
  obtain⟨h1,h2⟩:=iq h'
  refine⟨by omega,?_⟩
  have:Gx lv c 0=lv++c.drop lv.length:=by cases c <;> rfl
  rw [this,h2]
 | [],o+1,r,h=>by cases h
 |a::c,o+1,r,h=>by
  simp only [P9]at h
  cases e:P9 lv c o with
  |none=>rw [e]at h;cases h
  |some x=>
   rw [e]at h;simp only [Option.some.injEq]at h
   obtain⟨h1,h2⟩:=J3 e
   refine⟨by simp only [List.length_cons];omega,?_⟩
   rw [←h,←h2];rfl
def tkO:List AV→Nat→Option (List AV)
 |_,0=>some []
 | [],_+1=>none
 |v::c,k+1=>match tkO c k with
  |some x=>some (v::x)
  |none=>none
def dtO:List AV→Nat→Nat→Option (List AV)
 |c,0,k=>tkO c k
 | [],_+1,_=>none
 |_::c,o+1,k=>dtO c o k
theorem ir: ∀{c:List AV} {k:Nat} {r:List AV},tkO c k=some r→k≤c.length∧c.take k=r
 |c,0,r,h=>by cases c <;> (simp only [tkO,Option.some.injEq]at h;simp [←h])
 | [],k+1,r,h=>by cases h
 |v::c,k+1,r,h=>by
  simp only [tkO]at h
  cases e:tkO c k with
  |none=>rw [e]at h;cases h
  |some x=>
   rw [e]at h;simp only [Option.some.injEq]at h
   obtain⟨h1,h2⟩:=ir e
   exact⟨by simp only [List.length_cons];omega,by rw [←h,←h2];rfl⟩
theorem Mv: ∀{c:List AV} {o k:Nat} {r:List AV},dtO c o k=some r→o+k≤c.length∧(c.drop o).take k=r
 |c,0,k,r,h=>by
  have h':tkO c k=some r:=by cases c <;> exact h
  obtain⟨h1,h2⟩:=ir h'
  exact⟨by omega,by simpa using h2⟩
 | [],o+1,k,r,h=>by cases h
 |_::c,o+1,k,r,h=>by
  obtain⟨h1,h2⟩:=Mv (c:=c) (o:=o) h
  exact⟨by simp only [List.length_cons];omega,by simpa using h2⟩
def Ln (l:List (Nat×Option AV)):List (Nat×Nat×O)→List AV→Option (List AV)
 | [],c=>some c
 |p::r,c=>match evO l p.2.2 with
  |none=>none
  |some v=>match Bi v with
   |none=>none
   |some x=>match Nat.beq x.length p.2.1 with
    |false=>none
    |true=>match P9 x c p.1 with
     |none=>none
     |some d=>Ln l r d
theorem Tq {l:List (Nat×Option AV)}: ∀{ps:List (Nat×Nat×O)} {c r:List AV},Ln l ps c=some r→N2 l ps c=some r
 | [],c,r,h=>by simp only [Ln]at h;simp only [N2,h]
 |p::ps,c,r,h=>by
  simp only [Ln]at h
  cases e1:evO l p.2.2 with
  |none=>rw [e1]at h;cases h
  |some v=>
   cases e2:Bi v with
   |none=>rw [e1]at h;simp only [e2]at h;cases h
   |some x=>
    cases e3:Nat.beq x.length p.2.1 with
    |false=>rw [e1]at h;simp only [e2,e3]at h;cases h
    |true=>
     cases e4:P9 x c p.1 with
     |none=>rw [e1]at h;simp only [e2,e3,e4]at h;cases h
     |some d=>
      rw [e1]at h;simp only [e2,e3,e4]at h
      obtain⟨h1,h2⟩:=J3 e4
      have h3:=Nat.eq_of_beq_eq_true e3
      have g1:Nat.ble (Nat.add p.1 p.2.1) c.length=true:=by rw [Nat.ble_eq];show p.1+p.2.1≤c.length;omega
      simp only [N2,Ad e1,e2,e3,g1,h2]
      exact Tq h
section
variable {l:List (Nat×Option AV)}{lh:List (Nat×Option Blk)}{n:Nat}{t:T Blk}{h:H}{x y z:O}{v u:AV}{b o:Nat}{c lv:List AV}
theorem Abe (e:evO l x=some v):exec (.mv x) h (tms l)= .val v h:=Abd (Ad e)
theorem qj (e:evO l x=some (.bool true))(e1:evO l y=some v):exec (.pick x y z) h (tms l)= .val v h:=by
 simp only [exec,Ag,Ad e,Ad e1]
theorem qk (e:evO l x=some (.bool false))(e1:evO l z=some v):exec (.pick x y z) h (tms l)= .val v h:=by
 simp only [exec,Ag,Ad e,Ad e1]
theorem zo {k:Nat}(e:evO l x=some v)(hc:Bi v=some lv)(hk:Nat.beq lv.length k=true):exec (.box k x) (hp n t lh) (tms l)= .val (.ptr n 0) (hp (n+1) t ((n,some (cl lv))::lh)):=zl (Ad e) hc hk
theorem qm {ps:List (Nat×Nat×O)}(hf:Ln l ps c=some lv):exec (.build c ps) h (tms l)= .val (.agg lv) h:=qh (Tq hf)
theorem iu {k:Nat}{ps:List (Nat×Nat×O)}(hf:Ln l ps c=some lv):exec (.bslice k c ps) (hp n t lh) (tms l)= .val (.slc n 0 k k) (hp (n+1) t ((n,some (cl lv))::lh)):=ik (Tq hf)
theorem wi {f:AFn}{a cp:List O}{va vc:List AV}(ha:Fj l a=some va)(hc:Fj l cp=some vc):exec (.mkfn f a cp) h (tms l)= .val (.fn f va vc) h:=wd (Mt ha) (Mt hc)
theorem E7 {f:AFn}{a:List O}{va cp r:List AV}(e:evO l x=some (.fn f [] cp))(ha:Fj l a=some va)(hr:Fq va cp=some r):exec (.callv x a) h (tms l)= .call f r:=
 we (Ad e) (Mt ha) (by show List.append va cp=r;exact Ie hr)
theorem wj {k:Nat}(e:evO l x=some v):exec (.mkif k x) h (tms l)= .val (.ifc k v) h:=wg (Ad e)
theorem qn {k:Nat}(e:evO l x=some (.ptr b o))(hb:H.get h b=some (cl c))(hv:dtO c o k=some lv):exec (.loadN k x) h (tms l)= .val (.agg lv) h:=
 Yr (Ad e) hb (Mv hv).1 (Mv hv).2
theorem iv {vs:List AV}{off k:Nat}(e:evO l x=some (.agg vs))(hv:dtO vs off k=some lv):exec (.fieldN x off k) h (tms l)= .val (.agg lv) h:=im (Ad e) (Mv hv).2
section
variable {k:IntKind}{a d r:Nat}{sh:Sh}{q:Bool}
theorem zp (e:evO l x=some (.int .i64 (a:Nat)))(e1:evO l y=some (.int .i64 (d:Nat)))(hr:a+d<9223372036854775808):exec (.bin .add x y q sh) h (tms l)= .val (.int .i64 ((a+d:Nat):Int)) h:=
 ii (Ad e) (Ad e1) (by rw [Ks (by omega) (by omega)];omega)
theorem zq (e:evO l x=some (.int .i64 (a:Nat)))(e1:evO l y=some (.int .i64 (d:Nat)))(hr:d≤a)(h1:a<9223372036854775808):exec (.bin .sub x y q sh) h (tms l)= .val (.int .i64 ((a - d:Nat):Int)) h:=
 ij (Ad e) (Ad e1) (by rw [Ks (by omega) (by omega)];omega)
theorem zr (e:evO l x=some (.int .i64 (a:Nat)))(e1:evO l y=some (.int .i64 (d:Nat)))(hr:a*d<9223372036854775808):exec (.bin .mul x y q sh) h (tms l)= .val (.int .i64 ((a*d:Nat):Int)) h:=
 zi (Ad e) (Ad e1) (by rw [Ks (by have:=Int.mul_nonneg (Int.natCast_nonneg a) (Int.natCast_nonneg d);omega) (by rw [←Int.natCast_mul];omega)];exact(Int.natCast_mul a d).symm)
end
end
section
variable {l:List (Nat×Option AV)}{h:H}{v:AV}{b o i:Nat}{c lv lw:List AV}{rs:List CRes}
theorem Ix:results (tms l) h []=some []:=rfl
theorem ue (e:evO l (.t i)=some v)(r:results (tms l) h rs=some lv):results (tms l) h (.tmp i::rs)=some (v::lv):=by
 simp only [results,r,Ag,Ad e]
theorem Dn (e:evO l (.t i)=some (.ptr b o))(hb:H.get h b=some (cl c))(hv:c[o]?=some v)(r:results (tms l) h rs=some lv):results (tms l) h (.cell1 i::rs)=some (v::lv):=by
 have hlt:o<c.length:=(List.getElem?_eq_some_iff.1 hv).1
 have:Nat.ble (Nat.succ o) c.length=true:=by rw [Nat.ble_eq];exact hlt
 simp only [results,r,Ag,Ad e,hb,cl,this,G9,hv]
theorem If {k:Nat}(e:evO l (.t i)=some (.ptr b o))(hb:H.get h b=some (cl c))(hv:dtO c o k=some lw)(r:results (tms l) h rs=some lv):results (tms l) h (.cellN i k::rs)=some (.agg lw::lv):=by
 simp only [results,r,Ag,Ad e,Id hb (Mv hv).1,(Mv hv).2]
end
section
variable {P:Program}{E:Env}{F:T CFn}{K:T (List AV×AV)}{Q:Nat→AV→Prop}
variable (L:Lg P E F K)
variable {fn nt:Nat}{l:List (Nat×Option AV)}{todo k:List AItem}{ds:List ADef}{dfd:Bool}{ro:Option Nat}{cs:List AFr}{n b o:Nat}{t:T Blk}{lh:List (Nat×Option Blk)}{r:List CI}{gd:Option (Nat×Bool)}{x y:O}{v:AV}{c c' lv:List AV}{h h':H}
include L
theorem qo {m:Nat}(hw:wanted (tms l) gd=some true)(e:evO l x=some (.ptr b o))(e1:evO l y=some v)(hc:Bi v=some lv)(hm:Nat.beq lv.length m=true)(hp1:As lv=true)
  (hb:H.get (hp n t lh) b=some (cl c)) (hs:P9 lv c o=some c')
  (g:Good P E Q ⟨⟨fn,nt,tms l,.ops r::k,ds,.run,dfd,ro⟩,cs,hp n t ((b,some (cl c'))::lh)⟩):
  Good P E Q ⟨⟨fn,nt,tms l,.ops (⟨none,gd,.store m x y⟩::r)::k,ds,.run,dfd,ro⟩,cs,hp n t lh⟩:=
 To L hw (Ad e) (Ad e1) hc hm hp1 hb (J3 hs).1 (J3 hs).2 g
section
variable {f:Nat}{g:CFn}{x:AFr}{a0 a1 a2 a3 a4 a5 a6 a7:AV}(hf:T.get F f=some g)(hm:T.get K f=none)
include hf hm
end
end
structure Kp (S:Nat→Prop)(h h':H):Prop where
 n:h.n≤h'.n
 old: ∀b,b<h.n→ ¬S b→H.get h' b=H.get h b
theorem Kp.refl {S:Nat→Prop}(h:H):Kp S h h:=⟨Nat.le_refl _,fun _ _ _=>rfl⟩
theorem Kp.trans {S:Nat→Prop}{a b c:H}(h:Kp S a b)(k:Kp S b c):Kp S a c:=
 ⟨Nat.le_trans h.n k.n,fun i hi hs=>(k.old i (Nat.lt_of_lt_of_le hi h.n) hs).trans (h.old i hi hs)⟩
theorem Kp.mono {S S':Nat→Prop}{a b:H}(hs: ∀i,S i→S' i)(h:Kp S a b):Kp S' a b:=⟨h.n,fun i hi hn=>h.old i hi fun k=>hn (hs i k)⟩
abbrev K0 (h h':H):Prop:=Kp (fun _=>False) h h'
theorem Kp.get {S:Nat→Prop}{h h':H}{b:Nat}{x:Option Blk}(k:Kp S h h')(hx:H.get h b=x)(hb:b<h.n)(hs: ¬S b):H.get h' b=x:=(k.old b hb hs).trans hx
theorem Kp.nw {S:Nat→Prop}{n:Nat}{t:T Blk}{lh:List (Nat×Option Blk)}{h:H}{x:Option Blk}(k:Kp S h (hp n t lh)):Kp S h (hp (n+1) t ((n,x)::lh)):=by
 refine⟨Nat.le_succ_of_le k.n,fun b hb hs=>?_⟩
 have hlt:b<n:=Nat.lt_of_lt_of_le hb k.n
 refine Eq.trans ?_ (k.old b hb hs)
 exact D6 _ _ _ _ (by omega)
theorem Kp.st {S:Nat→Prop}{n b:Nat}{t:T Blk}{lh:List (Nat×Option Blk)}{h:H}{x:Option Blk}(hb:h.n≤b∨S b)(k:Kp S h (hp n t lh)):Kp S h (hp n t ((b,x)::lh)):=by
 refine⟨k.n,fun i hi hs=>?_⟩
 refine Eq.trans ?_ (k.old i hi hs)
 have hne:i≠b:=by
  intro e;subst e
  rcases hb with h1|h1
  ·omega
  ·exact hs h1
 exact D6 _ _ _ _ hne
def Cq (l:List (Nat×Option AV)):List Nat→Option (List (Nat×Option AV))
 | []=>some []
 |t::r=>match look l t,Cq l r with
  |some v,some q=>some ((t,some v)::q)
  |_,_=>none
theorem Bq {l:List (Nat×Option AV)}: ∀{nm:List Nat} {q:List (Nat×Option AV)},Cq l nm=some q→only (tms l) nm=tms q
 | [],q,h=>by simp only [Cq,Option.some.injEq]at h;subst h;rfl
 |t::r,q,h=>by
  simp only [Cq]at h
  cases e1:look l t with
  |none=>rw [e1]at h;cases h
  |some v=>
   cases e2:Cq l r with
   |none=>rw [e1,e2]at h;cases h
   |some q'=>
    rw [e1,e2]at h;simp only [Option.some.injEq]at h
    subst h
    simp only [only,G4,e1,Bq e2];rfl
def Mw (d:Nat):AV→Bool:=
 match d with
 |0=>fun _=>false
 |Nat.succ d=>fun x=>match x with
  | .fn f a c=>a.all (Mw d) && c.all (Mw d) && (match f with| .func _=>true| .yield _=>false)
  | .ifc _ v=>Mw d v
  | .agg l=>l.all (Mw d)
  | .tup l=>l.all (Mw d)
  | .opq _=>false
  | .unk=>false
  |_=>true
theorem Qa {f:AV→AV→Bool}: ∀{l:List AV},(∀x∈l,f x x=true)→Hg f l l=true
 | [],_=>rfl
 |a::l,h=>by
  simp only [Hg,h a (List.mem_cons_self ..)]
  exact Qa fun x hx=>h x (List.mem_cons_of_mem _ hx)
theorem Mx: ∀(d:Nat) (v:AV),Mw d v=true→Gg d v v=true
 |0,_,h=>by cases h
 |d+1,v,h=>by
  have ih:=Mx d
  have hl: ∀{l:List AV},l.all (Mw d)=true→Hg (Gg d) l l=true:=fun {l} hl=>by
   rw [List.all_eq_true]at hl
   exact Qa fun x hx=>ih x (hl x hx)
  cases v with
  |bool a=>simp only [Gg,Wf,decide_true]
  |int k a=>simp only [Gg,A7,E2,decide_true]
  |str a=>simp only [Gg,Jx,decide_true]
  |ptr b o=>simp only [Gg,Nat.beq_refl]
  |slc b o n c=>simp only [Gg,Nat.beq_refl]
  |map r=>simp only [Gg,Nat.beq_refl]
  |fn f a c=>
   simp only [Mw,Bool.and_eq_true]at h
   obtain⟨⟨h1,h2⟩,h3⟩:=h
   cases f with
   |func n=>simp only [Gg,hl h1,hl h2,ox,Nat.beq_refl]
   |yield n=>cases h3
  |ifc t v=>
   simp only [Mw]at h
   simp only [Gg,Nat.beq_refl,ih v h]
  |agg l=>simp only [Mw]at h;simp only [Gg,hl h]
  |tup l=>simp only [Mw]at h;simp only [Gg,hl h]
  |opq _=>cases h
  |unk=>cases h
  |_=>rfl
section
variable {P:Program}{E:Env}{F:T CFn}{K:T (List AV×AV)}{Q:Nat→AV→Prop}
variable {fn nt:Nat}{l q:List (Nat×Option AV)}{k:List AItem}{ds:List ADef}{dfd:Bool}{ro:Option Nat}{cs:List AFr}{h h':H}{gd:Option (Nat×Bool)}{op:COp}{nm:List Nat}{pre chk:List DI}{ps:List Ph}{v:AV}
theorem p_v {d:Nat}(ho:Cq l nm=some q)(hw:wanted (tms q) gd=some true)(hx:exec op h (tms q)= .val v h')
  (g:A8 P E Q pre chk ps k fn nt (tms ((d,some v)::l)) ds dfd ro cs h'):A8 P E Q (⟨⟨some d,gd,op⟩,nm⟩::pre) chk ps k fn nt (tms l) ds dfd ro cs h:=by
 refine zf (v:=v) (h':=h') ?_ ?_ g <;> (simp only [Bq ho];assumption)
theorem p_s {d:Nat}(ho:Cq l nm=some q)(hw:wanted (tms q) gd=some false)
  (g:A8 P E Q pre chk ps k fn nt (tms ((d,some (.tup []))::l)) ds dfd ro cs h):A8 P E Q (⟨⟨some d,gd,op⟩,nm⟩::pre) chk ps k fn nt (tms l) ds dfd ro cs h:=by
 refine vx ?_ g
 simp only [Bq ho];assumption
theorem p_0 {p:Ph}{r:List Ph}(hc:checks chk (tms l) h=true)(g:Good P E Q ⟨⟨fn,nt,tms l,.drawn p r::k,ds,.run,dfd,ro⟩,cs,h⟩):A8 P E Q [] chk (p::r) k fn nt (tms l) ds dfd ro cs h:=tz hc g
theorem p_e (hc:checks chk (tms l) h=true)(g:Good P E Q ⟨⟨fn,nt,tms l,k,ds,.run,dfd,ro⟩,cs,h⟩):A8 P E Q [] chk [] k fn nt (tms l) ds dfd ro cs h:=tz hc g
theorem Cr {tm:T AV}:checks [] tm h=true:=rfl
theorem k_v {d:Nat}(ho:Cq l nm=some q)(hw:wanted (tms q) gd=some true)(hx:exec op h (tms q)= .val v h')(hl:look l d=some v)(ha:Mw 20 v=true)(g:checks chk (tms l) h=true):
  checks (⟨⟨some d,gd,op⟩,nm⟩::chk) (tms l) h=true:=by
 have:check ⟨⟨some d,gd,op⟩,nm⟩ (tms l) h=true:=by
  unfold check
  simp only [Bq ho,hw,hx,holds,G4,hl]
  exact Mx _ _ ha
 simp only [checks,this,g]
theorem k_s {d:Nat}(ho:Cq l nm=some q)(hw:wanted (tms q) gd=some false)(hl:look l d=some (.tup []))(g:checks chk (tms l) h=true):
  checks (⟨⟨some d,gd,op⟩,nm⟩::chk) (tms l) h=true:=by
 have:check ⟨⟨some d,gd,op⟩,nm⟩ (tms l) h=true:=by
  unfold check
  simp only [Bq ho,hw,holds,G4,hl]
  exact Mx _ _ rfl
 simp only [checks,this,g]
variable (L:Lg P E F K)
include L
theorem e_v {d:Nat}(ho:Cq l nm=some q)(hw:wanted (tms q) gd=some true)(hx:exec op h (tms q)= .val v h')
  (g:A8 P E Q pre chk ps k fn nt (tms ((d,some v)::l)) ds dfd ro cs h'):Good P E Q ⟨⟨fn,nt,tms l,.drawn ⟨⟨⟨some d,gd,op⟩,nm⟩,pre,chk⟩ ps::k,ds,.run,dfd,ro⟩,cs,h⟩:=
 Yo L (v:=v) (h':=h') (by rw [Bq ho];exact hw) (by rw [Bq ho];exact hx) g
theorem e_s {d:Nat}(ho:Cq l nm=some q)(hw:wanted (tms q) gd=some false)
  (g:A8 P E Q pre chk ps k fn nt (tms ((d,some (.tup []))::l)) ds dfd ro cs h):Good P E Q ⟨⟨fn,nt,tms l,.drawn ⟨⟨⟨some d,gd,op⟩,nm⟩,pre,chk⟩ ps::k,ds,.run,dfd,ro⟩,cs,h⟩:=
 vz L (by rw [Bq ho];exact hw) g
theorem e_c {dst:Option Nat}{f:AFn}{args:List AV}(ho:Cq l nm=some q)(hw:wanted (tms q) gd=some true)(hx:exec op h (tms q)= .call f args)
  (g:GO P E Q (C1 F K f args false ⟨fn,nt,tms l,.drawn ⟨⟨⟨dst,gd,op⟩,nm⟩,pre,chk⟩ ps::k,ds,.run,dfd,ro⟩ cs h)):Good P E Q ⟨⟨fn,nt,tms l,.drawn ⟨⟨⟨dst,gd,op⟩,nm⟩,pre,chk⟩ ps::k,ds,.run,dfd,ro⟩,cs,h⟩:=
 v7 L (by rw [Bq ho];exact hw) (by rw [Bq ho];exact hx) g
omit L in
theorem fd {d:Nat}(hb:op≠ .bad)(g:A8 P E Q pre chk ps k fn nt (tms ((d,some v)::l)) ds dfd ro cs h):
  GO P E Q (finish v cs h ⟨fn,nt,tms l,.drawn ⟨⟨⟨some d,gd,op⟩,nm⟩,pre,chk⟩ ps::k,ds,.run,dfd,ro⟩):=Sa hb g
omit L in
theorem fd0 (hb:op≠ .bad)(g:A8 P E Q pre chk ps k fn nt (tms l) ds dfd ro cs h):
  GO P E Q (finish v cs h ⟨fn,nt,tms l,.drawn ⟨⟨⟨none,gd,op⟩,nm⟩,pre,chk⟩ ps::k,ds,.run,dfd,ro⟩):=Sa (dst:=none) hb g
theorem zt {m n b o:Nat}{t:T Blk}{lh:List (Nat×Option Blk)}{x y:O}{c c' lv:List AV}(ho:Cq l nm=some q)(hw:wanted (tms q) gd=some true)(e:evO q x=some (.ptr b o))(e1:evO q y=some v)(hc:Bi v=some lv)(hm:Nat.beq lv.length m=true)(hp1:As lv=true)
  (hb:H.get (hp n t lh) b=some (cl c)) (hs:P9 lv c o=some c')
  (g: ∀h',HSub (hp n t ((b,some (cl c'))::lh)) h'→A8 P E Q pre chk ps k fn nt (tms l) ds dfd ro cs h'):
  Good P E Q ⟨⟨fn,nt,tms l,.drawn ⟨⟨⟨none,gd,.store m x y⟩,nm⟩,pre,chk⟩ ps::k,ds,.run,dfd,ro⟩,cs,hp n t lh⟩:=by
 obtain⟨h',q1,q2⟩:=Ot (n:=n) (t:=t) (lh:=lh) hp1 hb (J3 hs).1 (J3 hs).2
 have hx:exec (.store m x y) (hp n t lh) (tms q)= .val .unk h':=by simp only [exec,Ag,Ad e,Ad e1,hc,hm,q1]
 exact Yo L (dst:=none) (by rw [Bq ho];exact hw) (by rw [Bq ho];exact hx) (g h' q2)
end
inductive SlR (size:Nat)(h:H):AV→Nat→List AV→Prop where
 |nils:SlR size h .nils 0 []
 |slc {b o n cap:Nat} {c xs:List AV} (hb:H.get h b=some (cl c)) (hk:o+n*size≤c.length) (hx:(c.drop o).take (n*size)=xs) (hlt:b<h.n):SlR size h (.slc b o n cap) n xs
def own (v:AV)(i:Nat):Prop:= ∃o n c,v= .slc i o n c
theorem SlR.len {size n:Nat}{h:H}{v:AV}{xs:List AV}(s:SlR size h v n xs):xs.length=n*size:=by
 cases s with
 |nils=>simp
 |slc hb hk hx hlt=>rw [←hx,List.length_take,List.length_drop];omega
theorem SlR.keep {size n:Nat}{h h':H}{v:AV}{xs:List AV}{S:Nat→Prop}(s:SlR size h v n xs)(k:Kp S h h')(ho: ∀i,own v i→ ¬S i):SlR size h' v n xs:=by
 cases s with
 |nils=>exact .nils
 |slc hb hk hx hlt=>exact .slc ((k.old _ hlt (ho _ ⟨_,_,_,rfl⟩)).trans hb) hk hx (Nat.lt_of_lt_of_le hlt k.n)
theorem SlR.cells {size n:Nat}{h:H}{v:AV}{xs:List AV}(s:SlR size h v n xs):cellsOf size n h v=some xs:=by
 cases s with
 |nils=>rfl
 | @slc b o _ cap c _ hb hk hx hlt=>
  show cellsAt h b o (Nat.mul n size)=some xs
  have:=Id hb hk
  rw [hx]at this;exact this
theorem SlR.lenV {size n:Nat}{h:H}{v:AV}{xs:List AV}(s:SlR size h v n xs):lenV v=some n:=by cases s <;> rfl
def capOk (size:Nat):AV→Prop
 | .slc _ _ n cap=>cap=n∧n<Ac∨cap=Ac+size
 |_=>True
section
variable {l:List (Nat×Option AV)}{h:H}{x y:O}{s v:AV}{size bytes sl n:Nat}{old new:List AV}
end
def zu (size:Nat):AV→Prop
 | .slc _ _ n cap=>n≤cap∧cap<Ac∨cap=Ac+size
 |_=>True
theorem capOk.kn {size:Nat}{v:AV}(h:capOk size v):zu size v:=by
 cases v with
 |slc b o n cap=>
  rcases h with⟨h1,h2⟩|h
  ·subst h1;exact .inl ⟨Nat.le_refl _,h2⟩
  ·exact .inr h
 |_=>trivial
inductive BndR (l:List (Nat×Option AV)):Option O→Option Nat→Prop where
 |no:BndR l none none
 | att {x:O} {k:IntKind} {a:Nat} (e:evO l x=some (.int k (a:Nat))):BndR l (some x) (some a)
theorem BndR.opt {l:List (Nat×Option AV)}{o:Option O}{a:Option Nat}(b:BndR l o a):C4 (tms l) o=some a:=by
 cases b with
 |no=>rfl
 | @att x k a e=>
  have e':evO l x=some (.int k (Int.ofNat a)):=e
  simp only [C4,Ag,Ad e']
section
variable {l:List (Nat×Option AV)}{h:H}{x y z:O}{s v:AV}{size n a b:Nat}{xs:List AV}{lo hi:Option O}{la lb:Option Nat}
theorem Gn {a b:Nat}(h:b<a):Nat.ble a b=false:=by
 cases hq:Nat.ble a b with
 |false=>rfl
 |true=>have:=Ai hq;omega
def Ax (bs:List Nat):List AV:=bs.map fun v=> .int .u8 (v:Nat)
theorem N3: ∀{bs:List Nat},(∀v∈bs,v<256)→I4 (Ax bs)=some bs
 | [],_=>rfl
 |v::r,h=>by
  have h1:Nat.ble v 255=true:=by rw [Nat.ble_eq];have:=h v (List.mem_cons_self ..);omega
  have h2:=N3 (bs:=r) fun v hv=>h v (List.mem_cons_of_mem _ hv)
  show I4 (.int .u8 (Int.ofNat v)::Ax r)=_
  simp only [I4,h1,h2]
theorem zw {bs:List Nat}(e:evO l x=some s)(hs:SlR 1 h s n (Ax bs))(hb: ∀v∈bs,v<256):exec (.b2s x) h (tms l)= .val (.str bs) h:=by
 have hc:=hs.cells
 simp only [exec,Ag,Ad e]
 generalize hxs:Ax bs=xs at hs hc
 cases hs with
 |nils=>
  cases bs with
  |nil=>rfl
  |cons v r=>cases hxs
 | @slc b o _ cap c _ hbk hk hx hlt=>
  have:cellsAt h b o n=some xs:=by
   have e:Nat.mul n 1=n:=Nat.mul_one n
   show cellsAt h b o n=some xs
   rw [←e];exact hc
  simp only [this,←hxs,N3 hb]
theorem zx {a b:List Nat}{t:Bool}{q:Bool}(e:evO l x=some (.str a))(e1:evO l y=some (.str b))(ht:decide (a≠b)=t):exec (.bin .neq x y q .pstr) h (tms l)= .val (.bool t) h:=by
 simp only [exec,Ag,Ad e,Ad e1,F0,Rm,Jx]
 rw [←ht]
 by_cases hab:a=b
 ·subst hab;simp [vo]
 ·simp [hab,vo]
end
section
variable {P:Program}{E:Env}{F:T CFn}{K:T (List AV×AV)}{Q:Nat→AV→Prop}
variable {fn nt:Nat}{l q:List (Nat×Option AV)}{k:List AItem}{ds:List ADef}{dfd:Bool}{ro:Option Nat}{cs:List AFr}{h h':H}{gd:Option (Nat×Bool)}{op:COp}{nm:List Nat}{pre chk:List DI}{ps:List Ph}{v:AV}{d:Nat}{r:List CI}
variable (L:Lg P E F K)
include L
end
section
variable {l:List (Nat×Option AV)}{h:H}{x y z:O}{s v zero:AV}{size n a b i:Nat}{xs c lv:List AV}
theorem zy {sh:Sh}{m ky:O}{r cl0:Nat}{kv:AV}(e:evO l m=some (.map r))(hb:H.get h r=some (.map [] cl0))(ek:evO l ky=some kv)(hk:Kh sh kv=true):exec (.lookup sh zero m ky false) h (tms l)= .val zero h:=by
 simp only [exec,Ag,Ad e,Ad ek,hb,It,hk,Gf]
theorem SlR.cell {b o cap i:Nat}(s:SlR 1 h (.slc b o n cap) n xs)(hi:xs[i]?=some v): ∃c,H.get h b=some (cl c)∧c[o+i]?=some v:=by
 cases s with
 |slc hb hk hx hlt=>
  refine⟨_,hb,?_⟩
  have hlen:i<n:=by
   have:=(List.getElem?_eq_some_iff.1 hi).1
   rw [←hx,List.length_take]at this
   omega
  rw [←hx,List.getElem?_take_of_lt (by omega),List.getElem?_drop]at hi
  exact hi
end
theorem Ah (n:Nat)(t:T Blk)(l:List (Nat×Option Blk)):(hp n t l).n=n:=rfl
end Go.Ev
