/- Part of the proof. -/
import Derived.Test.YtgkianlpkdfhkaaGreatQ07
set_option linter.unusedVariables false
set_option linter.unusedSimpArgs false
set_option linter.unusedSectionVars false
namespace Go.Ev
def tv (op:COp)(l:List (Nat×Option AV)):Option AV:=
 match op with
 | .mv x=>evO l x
 | .pick c a b=>(match evO l c with
  |some (.bool true)=>evO l a
  |some (.bool false)=>evO l b
  |_=>none)
 | .nilc x=>(match evO l x with
  |some (.ptr b o)=>some (.ptr b o)
  |_=>none)
 | .faddr x off=>(match evO l x with
  |some (.ptr b o)=>some (.ptr b (o+off))
  |_=>none)
 | .lenS x=>(match evO l x with
  |some (.slc _ _ n _)=>some (.int .i64 ((n:Nat):Int))
  |some .nils=>some (.int .i64 ((0:Nat):Int))
  |some (.opq u)=>(match u with
   | .slice _ n _=>some (.int .i64 ((n:Nat):Int))
   |_=>none)
  |_=>none)
 | .extract x i=>(match evO l x with
  |some (.tup vs)=>vs[i]?
  |_=>none)
 | .field1 x off=>(match evO l x with
  |some (.agg vs)=>vs[off]?
  |_=>none)
 | .fieldN x off k=>(match evO l x with
  |some (.agg vs)=>(match dtO vs off k with
   |some lv=>some (.agg lv)
   |none=>none)
  |_=>none)
 | .build z ps=>(match Kl l ps z with
  |some lv=>some (.agg lv)
  |none=>none)
 | .mkfn f a c=>(match E1 l a with
  |some va=>(match E1 l c with
   |some vc=>some (.fn f va vc)
   |none=>none)
  |none=>none)
 | .mkif k x=>(match evO l x with
  |some v=>some (.ifc k v)
  |none=>none)
 | .un o x=>(match o with
  | .not=>(match evO l x with
   |some (.bool t)=>some (.bool (!t))
   |_=>none)
  |_=>none)
 | .bin o x y _ sh=>(match o with
  | .eql=>(match sh with
   | .ptr=>(match evO l x with
    |some (.ptr _ _)=>(match evO l y with|some .nilp=>some (.bool false)|_=>none)
    |some .nilp=>(match evO l y with|some .nilp=>some (.bool true)|_=>none)
    |_=>none)
   | .nilS=>(match evO l x with
    |some (.slc _ _ _ _)=>(match evO l y with|some .nils=>some (.bool false)|_=>none)
    |some .nils=>(match evO l y with|some .nils=>some (.bool true)|_=>none)
    |_=>none)
   |_=>none)
  | .neq=>(match sh with
   | .ptr=>(match evO l x with
    |some (.ptr _ _)=>(match evO l y with|some .nilp=>some (.bool true)|_=>none)
    |some .nilp=>(match evO l y with|some .nilp=>some (.bool false)|_=>none)
    |_=>none)
   | .nilS=>(match evO l x with
    |some (.slc _ _ _ _)=>(match evO l y with|some .nils=>some (.bool true)|_=>none)
    |some .nils=>(match evO l y with|some .nils=>some (.bool false)|_=>none)
    |_=>none)
   |_=>none)
  |_=>none)
 |_=>none
theorem O5 {op:COp}{l:List (Nat×Option AV)}{v:AV}{h:H}(e:tv op l=some v):exec op h (tms l)= .val v h:=by
 cases op <;> try simp only [tv]at e
 case mv x=>exact Aaz e
 case pick c a b=>
  cases hc:evO l c with
  |none=>rw [hc]at e;cases e
  |some u=>
   rw [hc]at e
   cases u <;> (try simp only at e) <;> first|(cases e;done)|skip
   rename_i t
   cases t <;> (try simp only at e)
   ·exact qe hc e
   ·exact qd hc e
 case nilc x=>
  cases hc:evO l x with
  |none=>rw [hc]at e;cases e
  |some u=>
   rw [hc]at e
   cases u <;> (try simp only at e) <;> first|(cases e;done)|skip
   cases e;exact vu (Ab hc)
 case faddr x off=>
  cases hc:evO l x with
  |none=>rw [hc]at e;cases e
  |some u=>
   rw [hc]at e
   cases u <;> (try simp only at e) <;> first|(cases e;done)|skip
   cases e;exact pv (Ab hc) rfl
 case lenS x=>
  cases hc:evO l x with
  |none=>rw [hc]at e;cases e
  |some u=>
   rw [hc]at e
   cases u <;> (try simp only at e) <;> first|(cases e;done)|skip
   ·cases e;exact py (Ab hc)
   ·cases e;exact vw (Ab hc)
   ·rename_i q
    cases q <;> (try simp only at e) <;> first|(cases e;done)|skip
    cases e;simp only [exec,Ae,Ab hc];rfl
 case extract x i=>
  cases hc:evO l x with
  |none=>rw [hc]at e;cases e
  |some u=>
   rw [hc]at e
   cases u <;> (try simp only at e) <;> first|(cases e;done)|skip
   exact Zk (Ab hc) e
 case field1 x off=>
  cases hc:evO l x with
  |none=>rw [hc]at e;cases e
  |some u=>
   rw [hc]at e
   cases u <;> (try simp only at e) <;> first|(cases e;done)|skip
   exact gw (Ab hc) e
 case fieldN x off k=>
  cases hc:evO l x with
  |none=>rw [hc]at e;cases e
  |some u=>
   rw [hc]at e
   cases u <;> (try simp only at e) <;> first|(cases e;done)|skip
   rename_i vs
   cases hd:dtO vs off k with
   |none=>rw [hd]at e;cases e
   |some lv=>rw [hd]at e;cases e;exact ic hc hd
 case build z ps=>
  cases hc:Kl l ps z with
  |none=>rw [hc]at e;cases e
  |some lv=>rw [hc]at e;cases e;exact qg hc
 case mkfn f a c=>
  cases ha:E1 l a with
  |none=>rw [ha]at e;cases e
  |some va=>
   cases hc:E1 l c with
   |none=>rw [ha,hc]at e;cases e
   |some vc=>rw [ha,hc]at e;cases e;exact wg ha hc
 case mkif k x=>
  cases hc:evO l x with
  |none=>rw [hc]at e;cases e
  |some u=>rw [hc]at e;cases e;exact wh hc
 case un o x=>
  cases o <;> (try simp only at e) <;> first|(cases e;done)|skip
  cases hc:evO l x with
  |none=>rw [hc]at e;cases e
  |some u=>
   rw [hc]at e
   cases u <;> (try simp only at e) <;> first|(cases e;done)|skip
   cases e;exact zd (Ab hc)
 case bin o x y q sh=>
  cases o <;> (try simp only at e) <;> first|(cases e;done)|skip
  all_goals
   cases sh <;> (try simp only at e) <;> first|(cases e;done)|skip
   all_goals
    cases hc:evO l x with
    |none=>rw [hc]at e;cases e
    |some u=>
     rw [hc]at e
     cases u <;> (try simp only at e) <;> first|(cases e;done)|skip
     all_goals
      cases hd:evO l y with
      |none=>rw [hd]at e;cases e
      |some w=>
       rw [hd]at e
       cases w <;> (try simp only at e) <;> first|(cases e;done)|skip
       cases e
       simp only [exec,Ae,Ab hc,Ab hd]
       rfl
 all_goals first|(cases e;done)|(unfold tv at e;cases e;done)
def gdO (g:Option (Nat×Bool))(l:List (Nat×Option AV)):Option Bool:=
 match g with
 |none=>some true
 |some p=>(match look l p.1 with
  |some (.bool c)=>some (bEq c p.2)
  |some (.tup [])=>some false
  |_=>none)
theorem Ax {g:Option (Nat×Bool)}{l:List (Nat×Option AV)}{b:Bool}(e:gdO g l=some b):wanted (tms l) g=some b:=by
 cases g with
 |none=>exact e
 |some p=>simp only [gdO]at e;simp only [wanted,Gb];exact e
def ins (d:Option Nat)(v:AV)(l:List (Nat×Option AV)):List (Nat×Option AV):=
 match d with
 |none=>l
 |some d=>(d,some v)::l
theorem qj (d:Option Nat)(v:AV)(l:List (Nat×Option AV)):put (tms l) d v=tms (ins d v l):=by cases d <;> rfl
def adv:Nat→List AItem→List (Nat×Option AV)→List AItem×List (Nat×Option AV)
 |0,td,l=>(td,l)
 |n+1,td,l=>match td with
  | []=>([],l)
  |i::k=>match i with
   | .inBlock _=>adv n k l
   | .inScope _=>adv n k l
   | .ops r=>(match r with
    | []=>adv n k l
    |c::r=>(match gdO c.guard l with
     |some true=>(match tv c.op l with
      |some v=>(match c.dst with
       |some d=>adv n (.ops r::k) ((d,some v)::l)
       |none=>adv n (.ops r::k) l)
      |none=>(.ops (c::r)::k,l))
     |some false=>(match c.dst with
      |some d=>adv n (.ops r::k) ((d,some (.tup []))::l)
      |none=>adv n (.ops r::k) l)
     |none=>(.ops (c::r)::k,l)))
   | .code c=>(match c with
    | .skip=>adv n k l
    | .label _=>adv n k l
    | .seq a b=>adv n (.code a:: .code b::k) l
    | .block id b=>adv n (.code b:: .inBlock id::k) l
    | .scope b=>adv n (.code b:: .inScope b::k) l
    | .ops r=>adv n (.ops r::k) l
    | .cond x a b=>(match evO l x with
     |some (.bool true)=>adv n (.code a::k) l
     |some (.bool false)=>adv n (.code b::k) l
     |_=>(.code c::k,l))
    | .exit id=>(match exitTo id k with
     |some k'=>adv n k' l
     |none=>(.code c::k,l))
    | .goto lb=>(match gotoIn lb k with
     |some k'=>adv n k' l
     |none=>(.code c::k,l))
    |_=>(.code c::k,l))
   |_=>(i::k,l)
section
variable {P:Program}{E:Env}{F:T CFn}{K:T (List AV×AV)}{Q:Nat→AV→Prop}
variable (L:Lg P E F K)
variable {fn nt:Nat}{k:List AItem}{ds:List ADef}{dfd:Bool}{ro:Option Nat}{cs:List AFr}{h h':H}
include L
theorem B6: ∀(n:Nat) {td td':List AItem} {l l':List (Nat×Option AV)},adv n td l=(td',l')→
  Good P E Q ⟨⟨fn,nt,tms l',td',ds,.run,dfd,ro⟩,cs,h⟩→Good P E Q ⟨⟨fn,nt,tms l,td,ds,.run,dfd,ro⟩,cs,h⟩
 |0,td,td',l,l',e,g=>by cases e;exact g
 |n+1,td,td',l,l',e,g=>by
  have ih:=fun {td:List AItem} {l:List (Nat×Option AV)} (e:adv n td l=(td',l'))=>B6 n e g
  cases td with
  |nil=>cases e;exact g
  |cons i k=>
   cases i with
   |inBlock id=>exact Zg L (ih e)
   |inScope b=>exact Zh L (ih e)
   |ops r=>
    cases r with
    |nil=>exact v9 L (ih e)
    |cons c r=>
     obtain⟨d,gd,op⟩:=c
     simp only [adv]at e
     cases hg:gdO gd l with
     |none=>rw [hg]at e;cases e;exact g
     |some b=>
      rw [hg]at e
      cases b with
      |false=>cases d with
       |none=>exact Jw L (Ax hg) (ih e)
       |some d=>exact Jw L (Ax hg) (ih e)
      |true=>
       simp only at e
       cases hv:tv op l with
       |none=>rw [hv]at e;cases e;exact g
       |some v=>
        rw [hv]at e
        cases d with
        |none=>exact Kh L (Ax hg) (O5 hv) (ih e)
        |some d=>exact Kh L (Ax hg) (O5 hv) (ih e)
   |code c=>
    cases c with
    |skip=>exact vi L (ih e)
    |label _=>exact pj L (ih e)
    |seq a b=>exact y7 L (ih e)
    |block id b=>exact pp L (ih e)
    |scope b=>exact pq L (ih e)
    |ops r=>exact v8 L (ih e)
    |cond x a b=>
     simp only [adv]at e
     cases hx:evO l x with
     |none=>rw [hx]at e;cases e;exact g
     |some u=>
      rw [hx]at e
      cases u <;> (try simp only at e) <;> first|(cases e;exact g)|skip
      rename_i t
      cases t with
      |true=>exact gcT L (Ab hx) (ih e)
      |false=>exact gcF L (Ab hx) (ih e)
    |exit id=>
     simp only [adv]at e
     cases hx:exitTo id k with
     |none=>rw [hx]at e;cases e;exact g
     |some k'=>rw [hx]at e;exact vj L hx (ih e)
    |goto lb=>
     simp only [adv]at e
     cases hx:gotoIn lb k with
     |none=>rw [hx]at e;cases e;exact g
     |some k'=>rw [hx]at e;exact vk L hx (ih e)
    |_=>cases e;exact g
   |_=>cases e;exact g
end
structure Bk (h:H)(b:Nat)(c:List AV):Prop where
 e:H.get h b=some (cl c)
 lt:b<h.n
section
variable {n:Nat}{t:T Blk}{lh:List (Nat×Option Blk)}{b i:Nat}{c c0:List AV}{x:Option Blk}{h h':H}{S:Nat→Prop}
theorem Aa1 (k:Bk h b c):Bk (hp h.n h.t []) b c:=k
theorem iz:Bk (hp (n+1) t ((n,some (cl c))::lh)) n c:=⟨Gj _ _ _ _ _,Nat.lt_succ_self n⟩
theorem zq (k:Bk (hp n t lh) i c):Bk (hp (n+1) t ((n,x)::lh)) i c:=⟨(Ez _ _ _ _ (Nat.ne_of_lt k.lt)).trans k.e,Nat.lt_succ_of_lt k.lt⟩
theorem zr (k:Bk (hp n t lh) b c0):Bk (hp n t ((b,some (cl c))::lh)) b c:=⟨Gj _ _ _ _ _,k.lt⟩
theorem zt (hne:i≠b)(k:Bk (hp n t lh) i c):Bk (hp n t ((b,x)::lh)) i c:=⟨(Ez _ _ _ _ hne).trans k.e,k.lt⟩
theorem As (q:Kp S h h')(hs: ¬S i)(k:Bk h i c):Bk h' i c:=⟨q.get k.e k.lt hs,Nat.lt_of_lt_of_le k.lt q.n⟩
theorem Ag (q:K0 h h')(k:Bk h i c):Bk h' i c:=As q (fun f=>f) k
theorem Kp.tr0 {m:H}(q:K0 m h')(k:Kp S h m):Kp S h h':=
 ⟨Nat.le_trans k.n q.n,fun b hb hs=>(q.old b (Nat.lt_of_lt_of_le hb k.n) fun f=>f).trans (k.old b hb hs)⟩
theorem Kp.trS {m:H}{S':Nat→Prop}(q:Kp S' m h')(hs: ∀i,i<h.n→S' i→S i)(k:Kp S h m):Kp S h h':=
 ⟨Nat.le_trans k.n q.n,fun b hb hn=>(q.old b (Nat.lt_of_lt_of_le hb k.n) fun f=>hn (hs b hb f)).trans (k.old b hb hn)⟩
theorem O6 (e:c0=c)(k:Bk h b c0):Bk h b c:=e ▸ k
theorem Bk.hb (k:Bk h b c):HB h b c:=⟨k.e⟩
end
structure Mk (h:H)(r:Nat)(es:List AEnt)(ck:Nat):Prop where
 e:H.get h r=some (.map es ck)
 lt:r<h.n
section
variable {n:Nat}{t:T Blk}{lh:List (Nat×Option Blk)}{b i ck:Nat}{es:List AEnt}{x:Option Blk}{h h':H}{S:Nat→Prop}
theorem zu (k:Mk h b es ck):Mk (hp h.n h.t []) b es ck:=k
theorem ja:Mk (hp (n+1) t ((n,some (.map es ck))::lh)) n es ck:=⟨Gj _ _ _ _ _,Nat.lt_succ_self n⟩
theorem zw (k:Mk (hp n t lh) i es ck):Mk (hp (n+1) t ((n,x)::lh)) i es ck:=⟨(Ez _ _ _ _ (Nat.ne_of_lt k.lt)).trans k.e,Nat.lt_succ_of_lt k.lt⟩
theorem zx (hne:i≠b)(k:Mk (hp n t lh) i es ck):Mk (hp n t ((b,x)::lh)) i es ck:=⟨(Ez _ _ _ _ hne).trans k.e,k.lt⟩
theorem Sc (q:Kp S h h')(hs: ¬S i)(k:Mk h i es ck):Mk h' i es ck:=⟨q.get k.e k.lt hs,Nat.lt_of_lt_of_le k.lt q.n⟩
theorem O7 (q:K0 h h')(k:Mk h i es ck):Mk h' i es ck:=Sc q (fun f=>f) k
end
section
variable {l:List (Nat×Option AV)}{lh:List (Nat×Option Blk)}{n:Nat}{t:T Blk}{h:H}{x y z:O}{v u:AV}{b o:Nat}{c lv:List AV}
theorem Xo (e:evO l x=some (.ptr b o))(hb:Bk h b c)(hv:c[o]?=some v):XV (.load1 x) h l v h:=⟨px (Ab e) hb.e hv⟩
theorem qk {k:Nat}(e:evO l x=some (.ptr b o))(hb:Bk h b c)(hv:dtO c o k=some lv):XV (.loadN k x) h l (.agg lv) h:=⟨qh e hb.e hv⟩
theorem qm {u:AV}(e:evO l x=some (.ptr b o))(hb:Bk h b c)(hu:c[o]?=some u)(hv:c[o+1]?=some v):XV (.loadN 2 x) h l (.agg [u,v]) h:=by
 have h1:=(List.getElem?_eq_some_iff.1 hv).1
 refine⟨Xm (Ab e) hb.e (by omega) ?_⟩
 apply List.ext_getElem?
 intro i
 rcases i with _|_|i
 ·rw [List.getElem?_take_of_lt (by omega),List.getElem?_drop];exact hu
 ·rw [List.getElem?_take_of_lt (by omega),List.getElem?_drop];exact hv
 ·rw [List.getElem?_take_eq_none (by omega)];rfl
theorem zy {bytes a:Nat}{k j:IntKind}(e:evO l x=some (.int k ((a:Nat):Int)))(e1:evO l y=some (.int j ((a:Nat):Int)))(h2:a*bytes≤281474976710656)(h3:a≤281474976710656):
  XV (.mkslice bytes c x y) (hp n t lh) l (.slc n 0 a a) (hp (n+1) t ((n,some (cl (rl c a)))::lh)):=⟨Zm (Ab e) (Ab e1) (Nat.le_refl _) h2 h3 rfl⟩
theorem jc {k:IntKind}{i len cap:Nat}(e:evO l x=some (.slc b o len cap))(e1:evO l y=some (.int k ((i:Nat):Int)))(hi:i<len):XV (.iaddrS 1 x y) h l (.ptr b (o+i)) h:=⟨O1 (Ab e) (Ab e1) hi (by show o+i*1=_;rw [Nat.mul_one])⟩
theorem Gz {k:IntKind}{i len cap:Nat}(e:evO l x=some (.slc b 0 len cap))(e1:evO l y=some (.int k ((i:Nat):Int)))(hi:i<len):XV (.iaddrS 1 x y) h l (.ptr b i) h:=⟨O1 (Ab e) (Ab e1) hi (by show 0+i*1=_;rw [Nat.mul_one,Nat.zero_add])⟩
theorem Q2 {k:IntKind}{i len:Nat}(e:evO l x=some (.ptr b 0))(e1:evO l y=some (.int k ((i:Nat):Int)))(hi:i<len):XV (.iaddrA len 1 x y) h l (.ptr b i) h:=⟨Tw (Ab e) (Ab e1) hi (by show 0+i*1=_;rw [Nat.mul_one,Nat.zero_add])⟩
theorem qo:XV .mkmap (hp n t lh) l (.map n) (hp (n+1) t ((n,some (.map [] 0))::lh)):=⟨qa⟩
theorem zz {sh:Bool}{k:Nat}(e:evO l x=some (.ifc k v))(e1:evO l y=some .nili):XV (.bin .neq x y sh .iface) h l (.bool true) h:=⟨by simp only [exec,Ae,Ab e,Ab e1];cases sh <;> rfl⟩
theorem O8 {k:Bool}(e:evO l x=some .nili)(e1:evO l y=some .nili):XV (.bin .neq x y true .iface) h l (.bool false) h:=⟨by simp only [exec,Ae,Ab e,Ab e1];rfl⟩
theorem Zo {k:Nat}{z:AV}(e:evO l x=some (.ifc k v)):XV (.tassert x k z false) h l v h:=⟨Zl (Ab e)⟩
section
variable {a d:Nat}{p r:Int}{k j:IntKind}{sh:Sh}{q:Bool}
theorem O9 (e:evO l x=some (.int k ((a:Nat):Int)))(e1:evO l y=some (.int k ((d:Nat):Int)))(ht:a<d):XV (.bin .lss x y q sh) h l (.bool true) h:=ik e e1 (by omega)
theorem wj (e:evO l x=some (.int k ((a:Nat):Int)))(e1:evO l y=some (.int k ((d:Nat):Int)))(ht:d≤a):XV (.bin .lss x y q sh) h l (.bool false) h:=il e e1 (by omega)
theorem wl (e:evO l x=some (.int k ((a:Nat):Int)))(e1:evO l y=some (.int k ((d:Nat):Int)))(ht:a≤d):XV (.bin .leq x y q sh) h l (.bool true) h:=im e e1 (by omega)
theorem wm (e:evO l x=some (.int k ((a:Nat):Int)))(e1:evO l y=some (.int k ((d:Nat):Int)))(ht:d<a):XV (.bin .leq x y q sh) h l (.bool false) h:=io e e1 (by omega)
theorem wo (e:evO l x=some (.int k ((a:Nat):Int)))(e1:evO l y=some (.int k ((d:Nat):Int)))(ht:d<a):XV (.bin .gtr x y q sh) h l (.bool true) h:=ip e e1 (by omega)
theorem wp (e:evO l x=some (.int k ((a:Nat):Int)))(e1:evO l y=some (.int k ((d:Nat):Int)))(ht:a≤d):XV (.bin .gtr x y q sh) h l (.bool false) h:=iq e e1 (by omega)
theorem wq (e:evO l x=some (.int k ((a:Nat):Int)))(e1:evO l y=some (.int k ((d:Nat):Int)))(ht:d≤a):XV (.bin .geq x y q sh) h l (.bool true) h:=ir e e1 (by omega)
theorem wt (e:evO l x=some (.int k ((a:Nat):Int)))(e1:evO l y=some (.int k ((d:Nat):Int)))(ht:a<d):XV (.bin .geq x y q sh) h l (.bool false) h:=iu e e1 (by omega)
theorem z6 (e:evO l x=some (.int k ((a:Nat):Int)))(e1:evO l y=some (.int k ((d:Nat):Int)))(ht:a=d):XV (.bin .eql x y q .pint) h l (.bool true) h:=ud e e1 (by omega)
theorem uf (e:evO l x=some (.int k ((a:Nat):Int)))(e1:evO l y=some (.int k ((d:Nat):Int)))(ht:a≠d):XV (.bin .eql x y q .pint) h l (.bool false) h:=ue e e1 (by omega)
theorem z7 (e:evO l x=some (.int k ((a:Nat):Int)))(e1:evO l y=some (.int k ((d:Nat):Int)))(ht:a≠d):XV (.bin .neq x y q .pint) h l (.bool true) h:=iv e e1 (by omega)
theorem z8 (e:evO l x=some (.int k ((a:Nat):Int)))(e1:evO l y=some (.int k ((d:Nat):Int)))(ht:a=d):XV (.bin .neq x y q .pint) h l (.bool false) h:=iy e e1 (by omega)
theorem wu (e:evO l x=some (.int .i64 p))(e1:evO l y=some (.int .i64 r))(h1: -9223372036854775808≤p+r)(h2:p+r≤9223372036854775807):XV (.bin .add x y q sh) h l (.int .i64 (p+r)) h:=⟨gq (Ab e) (Ab e1) (Jv h1 h2)⟩
theorem wv (e:evO l x=some (.int .i64 p))(e1:evO l y=some (.int .i64 r))(h1: -9223372036854775808≤p - r)(h2:p - r≤9223372036854775807):XV (.bin .sub x y q sh) h l (.int .i64 (p - r)) h:=⟨gt (Ab e) (Ab e1) (Jv h1 h2)⟩
theorem ww (hs:k.signed=false)(e:evO l x=some (.int k ((a:Nat):Int)))(e1:evO l y=some (.int k ((d:Nat):Int))):XV (.bin .add x y q sh) h l (.int k (((a+d) % pw k:Nat):Int)) h:=
 ⟨gq (Ab e) (Ab e1) (by rw [←Int.natCast_add,R9 hs])⟩
theorem Pa (hs:k.signed=false)(e:evO l x=some (.int k ((a:Nat):Int)))(e1:evO l y=some (.int k ((d:Nat):Int)))(hd:d≤a)(ha:a<pw k):XV (.bin .sub x y q sh) h l (.int k ((a - d:Nat):Int)) h:=
 ⟨gt (Ab e) (Ab e1) (by rw [←Int.ofNat_sub hd,Sa hs (by omega)])⟩
theorem qp (hs:k.signed=false)(e:evO l x=some (.int j ((a:Nat):Int)))(ha:a<pw k):XV (.conv k x) h l (.int k ((a:Nat):Int)) h:=⟨Xn hs (Ab e) (Nat.mod_eq_of_lt ha)⟩
theorem Sd (hs:k.signed=false)(e:evO l x=some (.int j ((a:Nat):Int))):XV (.conv k x) h l (.int k ((a % pw k:Nat):Int)) h:=⟨Xn hs (Ab e) rfl⟩
theorem qq (e:evO l x=some (.int j ((a:Nat):Int)))(h2:a<9223372036854775808):XV (.conv .i64 x) h l (.int .i64 ((a:Nat):Int)) h:=⟨gm (Ab e) (Jv (by omega) (by omega))⟩
theorem jd {s:Nat}(e:evO l x=some (.int k ((a:Nat):Int)))(e1:evO l y=some (.int j ((s:Nat):Int)))(hs:s≤bits k):XV (.bin .shr x y q sh) h l (.int k ((a >>> s:Nat):Int)) h:=⟨zh (Ab e) (Ab e1) hs rfl⟩
theorem ug (hs:k.signed=false)(e:evO l x=some (.int k ((a:Nat):Int)))(e1:evO l y=some (.int k ((d:Nat):Int)))(ha:a<pw k)(hc:d<pw k)(hx:(a ^^^ d)<pw k):XV (.bin .xor x y q sh) h l (.int k ((a ^^^ d:Nat):Int)) h:=⟨zg hs (Ab e) (Ab e1) ha hc hx rfl⟩
theorem wx (hs:k.signed=false)(e:evO l x=some (.int k ((a:Nat):Int)))(ha:a<pw k):XV (.un .xor x) h l (.int k ((pw k - 1 - a:Nat):Int)) h:=⟨we hs (Ab e) ha rfl⟩
theorem z9 (e:evO l x=some (.int .i64 ((a:Nat):Int)))(e1:evO l y=some (.int .i64 ((d:Nat):Int)))(hd:0<d)(ha:a<9223372036854775808):XV (.bin .quo x y q sh) h l (.int .i64 ((a / d:Nat):Int)) h:=by
 refine⟨?_⟩
 have h0:iEq ((d:Nat):Int) (Int.ofNat 0)=false:=by
  rw [Ey];exact decide_eq_false (by show((d:Nat):Int)≠0;omega)
 have h1:Int.tdiv ((a:Nat):Int) ((d:Nat):Int)=((a / d:Nat):Int):=rfl
 have h2:a / d≤a:=Nat.div_le_self a d
 simp only [exec,Ae,Ab e,Ab e1,F5,Dq,Bc,h0,h1,vo]
 clear h1
 generalize a / d=q at*
 rw [Jv (by omega) (by omega)]
theorem Aaa (e:evO l x=some (.int k ((a:Nat):Int)))(e1:evO l y=some (.int k ((d:Nat):Int)))(hd:0<d):XV (.bin .rem x y q sh) h l (.int k ((a % d:Nat):Int)) h:=by
 refine⟨?_⟩
 have h0:iEq ((d:Nat):Int) (Int.ofNat 0)=false:=by
  rw [Ey];exact decide_eq_false (by show((d:Nat):Int)≠0;omega)
 have h1:Int.tmod ((a:Nat):Int) ((d:Nat):Int)=((a % d:Nat):Int):=rfl
 simp only [exec,Ae,Ab e,Ab e1,F5,Dq,Bc,h0,h1,vo]
theorem Vu (e:evO l x=some (.int k ((a:Nat):Int)))(e1:evO l y=some (.int k ((d:Nat):Int))):XV (.maxmin false x y) h l (.int k ((min a d:Nat):Int)) h:=⟨ub (Ab e) (Ab e1) (by show min (a:Int) (d:Int)=_;omega)⟩
theorem wy (e:evO l x=some (.int k ((a:Nat):Int)))(e1:evO l y=some (.int k ((d:Nat):Int))):XV (.maxmin true x y) h l (.int k ((max a d:Nat):Int)) h:=⟨ub (Ab e) (Ab e1) (by show max (a:Int) (d:Int)=_;omega)⟩
end
end
def Ct (P:Program)(E:Env)(F:T CFn)(K:T (List AV×AV))(f:Nat)(args:List AV)(h:H)(post:AV→H→Prop):Prop:=
 ∀(Q:Nat→AV→Prop) (x:AFr) (cs:List AFr),(∀v h',post v h'→GO P E Q (finish v cs h' x))→GO P E Q (Br F K (.func f) args false x cs h)
def Zp:Nat→List AV→List (Nat×Option AV)→List (Nat×Option AV)
 |_,[],acc=>acc
 |i,a::r,acc=>Zp (i+1) r ((i,some a)::acc)
theorem Ko: ∀(args:List AV) (i:Nat) (acc:List (Nat×Option AV)),ofL i (tms acc) args=tms (Zp i args acc)
 | [],_,_=>rfl
 |a::r,i,acc=>Ko r (i+1) ((i,some a)::acc)
def qr (l:List (Nat×Option AV)):List CRes→Option (List AV)
 | []=>some []
 | .tmp i::r=>(match look l i with
  |some v=>(match qr l r with
   |some vs=>some (v::vs)
   |none=>none)
  |none=>none)
 |_::_=>none
theorem C0 {l:List (Nat×Option AV)}{h:H}: ∀{rs:List CRes} {vs:List AV},qr l rs=some vs→results (tms l) h rs=some vs
 | [],vs,e=>by cases e;rfl
 | .tmp i::r,vs,e=>by
  simp only [qr]at e
  cases h1:look l i with
  |none=>rw [h1]at e;cases e
  |some v=>
   cases h2:qr l r with
   |none=>rw [h1,h2]at e;cases e
   |some us=>rw [h1,h2]at e;cases e;exact uc h1 (C0 h2)
 | .cell1 _::r,vs,e=>by cases e
 | .cellN _ _::r,vs,e=>by cases e
 | .bad::r,vs,e=>by cases e
section
variable {P:Program}{E:Env}{F:T CFn}{K:T (List AV×AV)}{Q:Nat→AV→Prop}
variable {fn nt:Nat}{l l':List (Nat×Option AV)}{k td':List AItem}{ds:List ADef}{dfd:Bool}{ro:Option Nat}{cs:List AFr}{h h':H}{gd:Option (Nat×Bool)}{op:COp}{v:AV}{d:Option Nat}{r:List CI}
variable {n b o:Nat}{t:T Blk}{lh:List (Nat×Option Blk)}{x y:O}{c c' lv:List AV}{post:AV→H→Prop}
variable (L:Lg P E F K)
include L
theorem st1 {d:Nat}(hg:gdO gd l=some true)(hx:XV op h l v h')(ha:adv 1000 (.ops r::k) ((d,some v)::l)=(td',l'))(g:Good P E Q ⟨⟨fn,nt,tms l',td',ds,.run,dfd,ro⟩,cs,h'⟩):
  Good P E Q ⟨⟨fn,nt,tms l,.ops (⟨some d,gd,op⟩::r)::k,ds,.run,dfd,ro⟩,cs,h⟩:=
 Kh L (Ax hg) hx.e (B6 L 1000 ha g)
theorem stS {m:Nat}(hg:gdO gd l=some true)(e:evO l x=some (.ptr b o))(e1:evO l y=some v)(hc:A9 v=some lv)(hm:Nat.beq lv.length m=true)(hp1:Ar lv=true)(hb:Bk (hp n t lh) b c)(hs:O3 lv c o=some c')
  (ha:adv 1000 (.ops r::k) l=(td',l')) (g:Good P E Q ⟨⟨fn,nt,tms l',td',ds,.run,dfd,ro⟩,cs,hp n t ((b,some (cl c'))::lh)⟩):
  Good P E Q ⟨⟨fn,nt,tms l,.ops (⟨none,gd,.store m x y⟩::r)::k,ds,.run,dfd,ro⟩,cs,hp n t lh⟩:=qi L (Ax hg) e e1 hc hm hp1 hb.e hs (B6 L 1000 ha g)
theorem qt (hg:gdO gd l=some true)(e:evO l x=some (.ptr b o))(e1:evO l y=some v)(hc:A9 v=some [v])(hp1:Dr v=true)(hb:Bk (hp n t lh) b c)(ho:o<c.length)
  (ha:adv 1000 (.ops r::k) l=(td',l')) (g:Good P E Q ⟨⟨fn,nt,tms l',td',ds,.run,dfd,ro⟩,cs,hp n t ((b,some (cl (c.set o v)))::lh)⟩):
  Good P E Q ⟨⟨fn,nt,tms l,.ops (⟨none,gd,.store 1 x y⟩::r)::k,ds,.run,dfd,ro⟩,cs,hp n t lh⟩:=Aa0 L ⟨Ax hg⟩ e e1 hc hp1 ⟨hb.e⟩ ho (B6 L 1000 ha g)
omit L in
theorem je (c:List AV)(v u:AV)(o:Nat)(ho:o+1<c.length):E7 [v,u] c o=(c.set o v).set (o+1) u:=by
 apply List.ext_getElem?
 intro i
 rw [Eo [v,u] c o i (by simp;omega),List.getElem?_set,List.getElem?_set,List.length_set]
 by_cases h1:o+1=i
 ·subst h1;simp [ho]
 ·by_cases h2:o=i
  ·subst h2;simp;omega
  ·rw [if_neg h1,if_neg h2,if_neg (by simp;omega)]
theorem Aa2 {u:AV}(hg:gdO gd l=some true)(e:evO l x=some (.ptr b o))(e1:evO l y=some (.agg [v,u]))(hp1:Dr v=true)(hp2:Dr u=true)(hb:Bk (hp n t lh) b c)(ho:o+1<c.length)
  (ha:adv 1000 (.ops r::k) l=(td',l')) (g:Good P E Q ⟨⟨fn,nt,tms l',td',ds,.run,dfd,ro⟩,cs,hp n t ((b,some (cl ((c.set o v).set (o+1) u)))::lh)⟩):
  Good P E Q ⟨⟨fn,nt,tms l,.ops (⟨none,gd,.store 2 x y⟩::r)::k,ds,.run,dfd,ro⟩,cs,hp n t lh⟩:=
 R8 L (Ax hg) (Ab e) (Ab e1) rfl rfl (by simp only [Ar,hp1,hp2]) hb.e (by have: [v,u].length=2:=rfl;omega) (je c v u o ho) (B6 L 1000 ha g)
theorem uh {d:Nat}{f:Nat}{a:List O}{va cp args:List AV}(hg:gdO gd l=some true)(e:evO l x=some (.fn (.func f) [] cp))(ha:E1 l a=some va)(hr:D3 va cp=some args)(hc:Ct P E F K f args h post)
  (g: ∀v h',post v h'→Good P E Q ⟨⟨fn,nt,tms ((d,some v)::l),.ops r::k,ds,.run,dfd,ro⟩,cs,hp h'.n h'.t []⟩):
  Good P E Q ⟨⟨fn,nt,tms l,.ops (⟨some d,gd,.callv x a⟩::r)::k,ds,.run,dfd,ro⟩,cs,h⟩:=
 Q1 L (Ax hg) (Hl e ha hr) (hc Q _ cs fun v h' p=>Jx L cvb (g v h' p))
theorem wz {d:Nat}{f:Nat}{a:List O}{va cp args:List AV}{R:AV→Prop}(hg:gdO gd l=some true)(e:evO l x=some (.fn (.func f) [] cp))(ha:E1 l a=some va)(hr:D3 va cp=some args)(hc:Ct P E F K f args (hp n t lh) fun v h'=>R v∧h'=hp n t lh)
  (g: ∀v,R v→Good P E Q ⟨⟨fn,nt,tms ((d,some v)::l),.ops r::k,ds,.run,dfd,ro⟩,cs,hp n t lh⟩):
  Good P E Q ⟨⟨fn,nt,tms l,.ops (⟨some d,gd,.callv x a⟩::r)::k,ds,.run,dfd,ro⟩,cs,hp n t lh⟩:=
 Q1 L (Ax hg) (Hl e ha hr) (hc Q _ cs fun v h' p=>Jx L cvb (p.2 ▸ g v p.1))
theorem Pb {f:Nat}{g:CFn}{args:List AV}{l0 l1:List (Nat×Option AV)}{td:List AItem}(hf:T.get F f=some g)(hm:T.get K f=none)(hn:Nat.ble args.length g.ntmps=true)(hl:Zp 0 args []=l0)(ha:adv 1000 [.code g.body] l0=(td,l1))
  (body: ∀(Q:Nat→AV→Prop) (x:AFr) (cs:List AFr),(∀v h',post v h'→GO P E Q (finish v cs h' x))→Good P E Q ⟨⟨f,g.ntmps,tms l1,td,[],.run,false,none⟩,x::cs,hp h.n h.t []⟩):Ct P E F K f args h post:=by
 intro Q x cs hG
 have h1:ofL 0 .leaf args=tms l0:=by rw [←hl];exact Ko args 0 []
 exact vx L hf hm hn h1 (B6 L 1000 ha (body Q x cs hG))
section
variable {f:Nat}{g:CFn}{l1:List (Nat×Option AV)}{td:List AItem}{a0 a1 a2 a3 a4 a5 a6 a7:AV}
theorem Al (hf:T.get F f=some g)(hm:T.get K f=none)(hn:Nat.ble 1 g.ntmps=true)(ha:adv 1000 [.code g.body] [(0,some a0)]=(td,l1))
  (body: ∀(Q:Nat→AV→Prop) (x:AFr) (cs:List AFr),(∀v h',post v h'→GO P E Q (finish v cs h' x))→Good P E Q ⟨⟨f,g.ntmps,tms l1,td,[],.run,false,none⟩,x::cs,hp h.n h.t []⟩):Ct P E F K f [a0] h post:=Pb L hf hm hn rfl ha body
theorem Ad (hf:T.get F f=some g)(hm:T.get K f=none)(hn:Nat.ble 2 g.ntmps=true)(ha:adv 1000 [.code g.body] [(1,some a1),(0,some a0)]=(td,l1))
  (body: ∀(Q:Nat→AV→Prop) (x:AFr) (cs:List AFr),(∀v h',post v h'→GO P E Q (finish v cs h' x))→Good P E Q ⟨⟨f,g.ntmps,tms l1,td,[],.run,false,none⟩,x::cs,hp h.n h.t []⟩):Ct P E F K f [a0,a1] h post:=Pb L hf hm hn rfl ha body
theorem Bz (hf:T.get F f=some g)(hm:T.get K f=none)(hn:Nat.ble 3 g.ntmps=true)(ha:adv 1000 [.code g.body] [(2,some a2),(1,some a1),(0,some a0)]=(td,l1))
  (body: ∀(Q:Nat→AV→Prop) (x:AFr) (cs:List AFr),(∀v h',post v h'→GO P E Q (finish v cs h' x))→Good P E Q ⟨⟨f,g.ntmps,tms l1,td,[],.run,false,none⟩,x::cs,hp h.n h.t []⟩):Ct P E F K f [a0,a1,a2] h post:=Pb L hf hm hn rfl ha body
theorem xc (hf:T.get F f=some g)(hm:T.get K f=none)(hn:Nat.ble 4 g.ntmps=true)(ha:adv 1000 [.code g.body] [(3,some a3),(2,some a2),(1,some a1),(0,some a0)]=(td,l1))
  (body: ∀(Q:Nat→AV→Prop) (x:AFr) (cs:List AFr),(∀v h',post v h'→GO P E Q (finish v cs h' x))→Good P E Q ⟨⟨f,g.ntmps,tms l1,td,[],.run,false,none⟩,x::cs,hp h.n h.t []⟩):Ct P E F K f [a0,a1,a2,a3] h post:=Pb L hf hm hn rfl ha body
theorem Jy (hf:T.get F f=some g)(hm:T.get K f=none)(hn:Nat.ble 5 g.ntmps=true)(ha:adv 1000 [.code g.body] [(4,some a4),(3,some a3),(2,some a2),(1,some a1),(0,some a0)]=(td,l1))
  (body: ∀(Q:Nat→AV→Prop) (x:AFr) (cs:List AFr),(∀v h',post v h'→GO P E Q (finish v cs h' x))→Good P E Q ⟨⟨f,g.ntmps,tms l1,td,[],.run,false,none⟩,x::cs,hp h.n h.t []⟩):Ct P E F K f [a0,a1,a2,a3,a4] h post:=Pb L hf hm hn rfl ha body
end
theorem Aab {g:CFn}{x:AFr}{vs:List AV}(hf:T.get F fn=some g)(hr:results (tms l) h g.results=some vs)(hG: ∀v h',post v h'→GO P E Q (finish v cs h' x))(p:post (single vs) h):
  Good P E Q ⟨⟨fn,nt,tms l,.code .ret::k,[],.run,false,none⟩,x::cs,h⟩:=za L hf hr (hG _ _ p)
theorem Aa3 {g:CFn}{x:AFr}{vs:List AV}(hf:T.get F fn=some g)(hr:results (tms l) h g.results=some vs)(hG: ∀v h',post v h'→GO P E Q (finish v cs h' x))(p:post (single vs) h):
  Good P E Q ⟨⟨fn,nt,tms l,[],[],.run,false,none⟩,x::cs,h⟩:=tw L hf hr (hG _ _ p)
omit L in
theorem Ct.mono {post':AV→H→Prop}{f:Nat}{args:List AV}(c:Ct P E F K f args h post')(m: ∀v h',post' v h'→post v h'):Ct P E F K f args h post:=fun Q x cs g=>c Q x cs fun v h' p=>g v h' (m v h' p)
theorem Co {α: Type}{bd:CC}(T:Nat→α→List (Nat×Option AV))(n:Nat)(R:Nat→α→H→Prop){i0:Nat}(s0:α){h0:H}
  (hT:TSub (tms (T i0 s0)) (tms l)) (hR:R i0 s0 h0) (hi:i0≤n)
  (body: ∀i s h,i<n→R i s h→(∀s' h' l',R (i+1) s' h'→TSub (tms (T (i+1) s')) (tms l')→Good P E Q ⟨⟨fn,nt,tms l',.inLoop bd::k,ds,.run,dfd,ro⟩,cs,h'⟩)→Good P E Q ⟨⟨fn,nt,tms (T i s),.code bd:: .inLoop bd::k,ds,.run,dfd,ro⟩,cs,hp h.n h.t []⟩)
  (done: ∀s h,R n s h→Good P E Q ⟨⟨fn,nt,tms (T n s),.code bd:: .inLoop bd::k,ds,.run,dfd,ro⟩,cs,hp h.n h.t []⟩):
  Good P E Q ⟨⟨fn,nt,tms l,.code (.loop bd)::k,ds,.run,dfd,ro⟩,cs,h0⟩:=by
 have main: ∀m i s h,i+m=n→R i s h→Good P E Q ⟨⟨fn,nt,tms (T i s),.code bd:: .inLoop bd::k,ds,.run,dfd,ro⟩,cs,hp h.n h.t []⟩:=by
  intro m
  induction m with
  |zero=>
       intro i s h e hR;have:i=n:=by omega
       subst this;exact done s h hR
  |succ m ih=>
   intro i s h e hR
   exact body i s h (by omega) hR fun s' h' l' hR' hT'=>Bh L (E0 L hT' (ih (i+1) s' h' (by omega) hR'))
 exact A2 L (E0 L hT (main (n - i0) i0 s0 h0 (by omega) hR))
section
variable {q:List (Nat×Option AV)}{nm:List Nat}{pre chk:List DI}{ps:List Ph}{di:Nat}
omit L in
theorem Cp (ho:Cd l nm=some q)(hg:gdO gd q=some true)(hx:XV op h q v h')
  (g:Bi P E Q pre chk ps k fn nt (tms ((di,some v)::l)) ds dfd ro cs h'):Bi P E Q (⟨⟨some di,gd,op⟩,nm⟩::pre) chk ps k fn nt (tms l) ds dfd ro cs h:=p_v ho (Ax hg) hx.e g
omit L in
theorem Se (ho:Cd l nm=some q)(hg:gdO gd q=some false)
  (g:Bi P E Q pre chk ps k fn nt (tms ((di,some (.tup []))::l)) ds dfd ro cs h):Bi P E Q (⟨⟨some di,gd,op⟩,nm⟩::pre) chk ps k fn nt (tms l) ds dfd ro cs h:=p_s ho (Ax hg) g
omit L in
theorem Aa4 (ho:Cd l nm=some q)(hg:gdO gd q=some true)(hx:XV op h q v h')(hl:look l di=some v)(ha:Kn 20 v=true)(g:checks chk (tms l) h=true):checks (⟨⟨some di,gd,op⟩,nm⟩::chk) (tms l) h=true:=k_v ho (Ax hg) hx.e hl ha g
omit L in
theorem Aa5 (ho:Cd l nm=some q)(hg:gdO gd q=some false)(hl:look l di=some (.tup []))(g:checks chk (tms l) h=true):checks (⟨⟨some di,gd,op⟩,nm⟩::chk) (tms l) h=true:=k_s ho (Ax hg) hl g
theorem Pc (hc:checks chk (tms l) h=true)(ha:adv 1000 k l=(td',l'))(g:Good P E Q ⟨⟨fn,nt,tms l',td',ds,.run,dfd,ro⟩,cs,h⟩):Bi P E Q [] chk [] k fn nt (tms l) ds dfd ro cs h:=p_e hc (B6 L 1000 ha g)
theorem Ij (ho:Cd l nm=some q)(hg:gdO gd q=some true)(hx:XV op h q v h')
  (g:Bi P E Q pre chk ps k fn nt (tms ((di,some v)::l)) ds dfd ro cs h'):Good P E Q ⟨⟨fn,nt,tms l,.drawn ⟨⟨⟨some di,gd,op⟩,nm⟩,pre,chk⟩ ps::k,ds,.run,dfd,ro⟩,cs,h⟩:=e_v L ho (Ax hg) hx.e g
theorem Aa6 (ho:Cd l nm=some q)(hg:gdO gd q=some false)
  (g:Bi P E Q pre chk ps k fn nt (tms ((di,some (.tup []))::l)) ds dfd ro cs h):Good P E Q ⟨⟨fn,nt,tms l,.drawn ⟨⟨⟨some di,gd,op⟩,nm⟩,pre,chk⟩ ps::k,ds,.run,dfd,ro⟩,cs,h⟩:=e_s L ho (Ax hg) g
theorem Aac {f:Nat}{a:List O}{va cp args:List AV}(ho:Cd l nm=some q)(hg:gdO gd q=some true)(e:evO q x=some (.fn (.func f) [] cp))(ha:E1 q a=some va)(hr:D3 va cp=some args)(hc:Ct P E F K f args h post)
  (g: ∀v h',post v h'→Bi P E Q pre chk ps k fn nt (tms ((di,some v)::l)) ds dfd ro cs (hp h'.n h'.t [])):
  Good P E Q ⟨⟨fn,nt,tms l,.drawn ⟨⟨⟨some di,gd,.callv x a⟩,nm⟩,pre,chk⟩ ps::k,ds,.run,dfd,ro⟩,cs,h⟩:=
 e_c L ho (Ax hg) (Hl e ha hr) (hc Q _ cs fun v h' p=>fd cvb (g v h' p))
theorem xd {f:Nat}{a:List O}{va cp args:List AV}{R:AV→Prop}(ho:Cd l nm=some q)(hg:gdO gd q=some true)(e:evO q x=some (.fn (.func f) [] cp))(ha:E1 q a=some va)(hr:D3 va cp=some args)(hc:Ct P E F K f args (hp n t lh) fun v h'=>R v∧h'=hp n t lh)
  (g: ∀v,R v→Bi P E Q pre chk ps k fn nt (tms ((di,some v)::l)) ds dfd ro cs (hp n t lh)):
  Good P E Q ⟨⟨fn,nt,tms l,.drawn ⟨⟨⟨some di,gd,.callv x a⟩,nm⟩,pre,chk⟩ ps::k,ds,.run,dfd,ro⟩,cs,hp n t lh⟩:=
 e_c L ho (Ax hg) (Hl e ha hr) (hc Q _ cs fun v h' p=>fd cvb (p.2 ▸ g v p.1))
theorem Aa7 {m:Nat}(ho:Cd l nm=some q)(hg:gdO gd q=some true)(e:evO q x=some (.ptr b o))(e1:evO q y=some v)(hc:A9 v=some lv)(hm:Nat.beq lv.length m=true)(hp1:Ar lv=true)
  (hb:Bk (hp n t lh) b c) (hs:O3 lv c o=some c') (g:Good P E Q ⟨⟨fn,nt,tms l,k,ds,.run,dfd,ro⟩,cs,hp n t ((b,some (cl c'))::lh)⟩):
  Good P E Q ⟨⟨fn,nt,tms l,.drawn ⟨⟨⟨none,gd,.store m x y⟩,nm⟩,[],[]⟩ []::k,ds,.run,dfd,ro⟩,cs,hp n t lh⟩:=
 zm L ho (Ax hg) e e1 hc hm hp1 hb.e hs fun h' hs'=>p_e ie (M8 L hs' g)
theorem jf (ho:Cd l nm=some q)(hg:gdO gd q=some true)(e:evO q x=some (.ptr b o))(e1:evO q y=some v)(hc:A9 v=some [v])(hp1:Dr v=true)
  (hb:Bk (hp n t lh) b c) (ho':o<c.length) (g:Good P E Q ⟨⟨fn,nt,tms l,k,ds,.run,dfd,ro⟩,cs,hp n t ((b,some (cl (c.set o v)))::lh)⟩):
  Good P E Q ⟨⟨fn,nt,tms l,.drawn ⟨⟨⟨none,gd,.store 1 x y⟩,nm⟩,[],[]⟩ []::k,ds,.run,dfd,ro⟩,cs,hp n t lh⟩:=by
 obtain⟨h',q1,q2⟩:=Kj (n:=n) (t:=t) (lh:=lh) (lv:= [v]) (by simp only [Ar,hp1]) hb.e (by have: [v].length=1:=rfl;omega) (Tz c v o ho')
 have hx:exec (.store 1 x y) (hp n t lh) (tms q)= .val .unk h':=by simp only [exec,Ae,Ab e,Ab e1,hc,q1];rfl
 exact Xl L (dst:=none) (by rw [Bq ho];exact Ax hg) (by rw [Bq ho];exact hx) (p_e (l:=l) ie (M8 L q2 g))
end
end
theorem Aw {a b:Nat}(h:a≤b):Nat.ble a b=true:=by rw [Nat.ble_eq];exact h
theorem Hn {a b:Nat}(h:a≠b):Nat.beq a b=false:=by
 cases hq:Nat.beq a b with
 |false=>rfl
 |true=>exact absurd (Nat.eq_of_beq_eq_true hq) h
section
variable {l:List (Nat×Option AV)}{lh:List (Nat×Option Blk)}{n:Nat}{t:T Blk}{h:H}{x y z w:O}{b o len cap size a c m:Nat}{j k:IntKind}
theorem Aad {lo hi:Option O}{la lb:Option Nat}(e:evO l x=some (.slc b o len (Aa+size)))(h1:BndR l lo la)(h2:BndR l hi lb)(hc:lb.getD len=c)(ha:la.getD 0=a)(hac:a≤c)(hcl:c≤len):
  XV (.sliceS size x lo hi none) h l (.slc b (o+a*size) (c - a) (Aa+size)) h:=by
 refine⟨?_⟩
 have g3:C4 (tms l) none=some none:=rfl
 simp only [exec,Ae,h1.opt,h2.opt,g3,Ab e,Fp,M6,Aw (show Aa≤Aa+size by omega),Nx,ha,hc,Aw hac,Aw hcl]
 have q3:Nat.beq (Aa+size) (Nat.add Aa size)=true:=Nat.beq_refl _
 rw [q3];rfl
theorem Aae (e:evO l x=some (.slc b o len (Aa+size)))(e2:evO l z=some (.int k ((c:Nat):Int)))(hcl:c≤len):XV (.sliceS size x none (some z) none) h l (.slc b o c (Aa+size)) h:=by
 have:=Aad (h:=h) (a:=0) (c:=c) e .no (.att e2) rfl rfl (Nat.zero_le _) hcl
 rwa [Nat.zero_mul,Nat.add_zero,Nat.sub_zero]at this
theorem Aaf (e:evO l x=some (.slc b o len (Aa+1)))(e1:evO l y=some (.int j ((a:Nat):Int)))(hal:a≤len):XV (.sliceS 1 x (some y) none none) h l (.slc b (o+a) (len - a) (Aa+1)) h:=by
 have:=Aad (h:=h) (a:=a) (c:=len) e (.att e1) .no rfl rfl hal (Nat.le_refl _)
 rwa [Nat.mul_one]at this
theorem Aag (e:evO l x=some (.slc b o len (Aa+size)))(e1:evO l z=some (.int j ((c:Nat):Int)))(e2:evO l w=some (.int k ((m:Nat):Int)))(hc:c≤m)(hm:m≤len)(hl:len<Aa):
  XV (.sliceS size x none (some z) (some w)) h l (.slc b o c m) h:=by
 refine⟨?_⟩
 have g1:C4 (tms l) none=some none:=rfl
 simp only [exec,Ae,g1,(BndR.att e1).opt,(BndR.att e2).opt,Ab e,Fp,M6,Aw (show Aa≤Aa+size by omega),Nx,Aw hc,Aw hm,Option.getD_none,Aw (Nat.zero_le c),Aw (show Nat.succ m≤Aa by omega),vo]
 have hz:Nat.mul 0 size=0:=Nat.zero_mul size
 have h3:Nat.sub c 0=c:=rfl
 have h4:Nat.sub m 0=m:=rfl
 simp only [hz,h3,h4]
 cases Nat.beq m 0 <;> rfl
theorem Aah (e:evO l x=some .nils)(e2:evO l z=some (.int k ((0:Nat):Int))):XV (.sliceS size x none (some z) none) h l .nils h:=by
 refine⟨?_⟩
 have g1:C4 (tms l) none=some none:=rfl
 simp only [exec,Ae,g1,(BndR.att e2).opt,Ab e]
 rfl
theorem xe (e:evO l x=some .nils):XV (.capS x) h l (.int .i64 ((0:Nat):Int)) h:=⟨by simp only [exec,Ae,Ab e];rfl⟩
variable {sl bytes:Nat}
theorem Aai (e:evO l x=some .nils)(e1:evO l y=some .nils):XV (.append size bytes x y) h l .nils h:=⟨by simp only [exec,Ae,Ab e,Ab e1];rfl⟩
end
theorem lkp {p:Prop}(h:p:=by
 (repeat(first|assumption|exact iz|(apply Aa1;first|assumption|(apply Ag;assumption)|(apply As;assumption;(first|omega|(dsimp only;omega))))|apply zq|apply zr|(apply zt;first|omega|assumption)))
 (first | done | fail "no")) : p := h
theorem lkm {p:Prop}(h:p:=by
 (repeat(first|assumption|exact ja|(apply zu;first|assumption|(apply O7;assumption)|(apply Sc;assumption;(first|omega|(dsimp only;omega))))|apply zw|(apply zx;first|omega|assumption)))
 (first | done | fail "no")) : p := h
theorem opv {p:Prop}(h:p:=by
 (first
  |exact⟨O5 rfl⟩
  |(apply Xo rfl;exact lkp;first|rfl|assumption)
  |(apply qk rfl;exact lkp;rfl)
  |(apply qm rfl;exact lkp;assumption;assumption)
  |exact Gz rfl rfl (by omega)|exact jc rfl rfl (by omega)|exact Ii rfl rfl (by omega)|exact z_iaddr rfl rfl (by omega)|exact Q2 rfl rfl (by omega)
  |exact zn rfl rfl (by omega)
  |exact O9 rfl rfl (by omega)|exact wj rfl rfl (by omega)
  |exact z6 rfl rfl (by omega)|exact uf rfl rfl (by omega)
  |exact z7 rfl rfl (by omega)|exact z8 rfl rfl (by omega)
  |exact wl rfl rfl (by omega)|exact wm rfl rfl (by omega)
  |exact wo rfl rfl (by omega)|exact wp rfl rfl (by omega)
  |exact wq rfl rfl (by omega)|exact wt rfl rfl (by omega)
  |exact ig|exact T0 rfl rfl rfl|exact ij rfl|exact zy rfl rfl (by omega) (by omega)
  |exact zo rfl rfl (by omega) (by omega)|exact zp rfl rfl (by omega)
  |exact qq rfl (by omega)|exact qp rfl rfl (by simp only [pw];omega)
  |exact z9 rfl rfl (by omega) (by omega)|exact w_quoU rfl rfl rfl (by omega) (by simp only [pw];omega)|exact Aaa rfl rfl (by omega)
  |exact Aae rfl rfl (by omega)|exact Aaf rfl rfl (by omega)|exact sl_u2 rfl rfl rfl (by omega) (by omega)|exact Aag rfl rfl rfl (by omega) (by omega) (by simp only [Aa];omega)
  |exact sl_k0 rfl rfl (by simp only [Aa];omega) (by omega) (by omega)|exact sl_k1 rfl rfl (by simp only [Aa];omega) (by omega) (by omega) (by omega)|exact sl_k2 rfl rfl rfl (by simp only [Aa];omega) (by omega) (by omega) (by omega)
  |exact Aah rfl rfl|exact ap_0 rfl rfl|exact Aai rfl rfl|exact xe rfl
  |(apply w_luk rfl rfl rfl;exact lkm)|exact qo|exact Vu rfl rfl|exact wy rfl rfl
  |exact ik rfl rfl (by omega)|exact il rfl rfl (by omega)
  |exact ud rfl rfl (by omega)|exact ue rfl rfl (by omega)
  |exact iv rfl rfl (by omega)|exact iy rfl rfl (by omega)
  |exact im rfl rfl (by omega)|exact io rfl rfl (by omega)
  |exact ip rfl rfl (by omega)|exact iq rfl rfl (by omega)
  |exact ir rfl rfl (by omega)|exact iu rfl rfl (by omega)
  |exact wu rfl rfl (by omega) (by omega)|exact wv rfl rfl (by omega) (by omega)
  |exact zz rfl rfl|exact O8 rfl rfl|exact Zo rfl)):p:=h
theorem chk {p:Prop}(h:p:=by
 (repeat(first|exact ie|(apply Aa4 rfl rfl opv rfl rfl)|(apply Aa5 rfl rfl rfl)))):p:=h
structure Lft (p:Prop):Prop where
 g:p
theorem wk {B A:Prop}(g:B)(h:Lft B→A:=by
 intro g_
 (try refine B6 L 1000 rfl ?_)
 (repeat(first
  |(apply st1 L rfl;exact opv;rfl)
  |(apply stS L rfl rfl rfl rfl rfl rfl;exact lkp;rfl;rfl)
  |(apply qt L rfl rfl rfl rfl rfl;exact lkp;(first|assumption|omega);rfl)
  |(apply Aa2 L rfl rfl rfl rfl rfl;exact lkp;(first|assumption|omega);rfl)
  |refine pu L ?_
  |(apply Cp rfl rfl;exact opv)
  |(apply Se rfl rfl)
  |(apply Pc L;exact chk;rfl)
  |(apply p_0;exact chk)
  |(apply Ij L rfl rfl;exact opv)
  |(apply Aa6 L rfl rfl)
  |(apply Aa7 L rfl rfl rfl rfl rfl rfl rfl;exact lkp;rfl;refine B6 L 1000 rfl ?_)
  |(apply jf L rfl rfl rfl rfl rfl rfl;exact lkp;(first|assumption|omega);refine B6 L 1000 rfl ?_)))
 exact g_.g):A:=h ⟨g⟩
theorem res {p:Prop}(h:p:=by
 (first
  |exact C0 rfl
  |exact Km rfl (Bk.e lkp) rfl Jn
  |exact Eh rfl (Bk.e lkp) rfl Jn
  |exact Km rfl (Bk.e lkp) rfl (C0 rfl)
  |exact Eh rfl (Bk.e lkp) rfl (C0 rfl))):p:=h
theorem ret {p:Prop}(hf:p){B A:Prop}(g:B)(h:p→Lft B→A:=by
 intro hf_ g_
 first
  |(apply Aab L hf_ res G;exact g_.g)
  |(apply Aa3 L hf_ res G;exact g_.g)):A:=h hf ⟨g⟩
theorem cal {p B A:Prop}(h:p→Lft B→A:=by
 intro hc_ g_
 first
  |(apply wz L rfl rfl rfl rfl;exact hc_;exact g_.g)
  |(apply callc0E L rfl rfl rfl rfl;exact hc_;exact g_.g)
  |(apply xd L rfl rfl rfl rfl rfl;exact hc_;exact g_.g)
  |(apply dcall0E L rfl rfl rfl rfl rfl;exact hc_;exact g_.g)
  |(apply uh L rfl rfl rfl rfl;exact hc_;exact g_.g)
  |(apply callc0 L rfl rfl rfl rfl;exact hc_;exact g_.g)
  |(apply Aac L rfl rfl rfl rfl rfl;exact hc_;exact g_.g)
  |(apply dcall0 L rfl rfl rfl rfl rfl;exact hc_;exact g_.g)) (c:p) (g:B):A:=h c ⟨g⟩
theorem kps {p:Prop}(h:p:=by
 (repeat(first|assumption|exact Kp.refl _|refine Kp.nw ?_|refine Kp.st (by first|exact .inl (by omega)|exact .inr rfl|exact .inr (by assumption)|exact .inr (by(try dsimp only);omega)) ?_|(apply Kp.tr0;assumption)|(apply Kp.trS;assumption;(intro i_ h1_ h2_;(try dsimp only at h2_ ⊢);omega))))):p:=h
theorem tsb {p:Prop}(h:p:=by
 (repeat(first|exact gy|refine Zn rfl ?_))):p:=h
end Go.Ev
