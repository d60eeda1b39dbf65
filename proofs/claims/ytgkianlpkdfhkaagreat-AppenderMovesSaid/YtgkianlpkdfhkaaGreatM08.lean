/- Part of the proof. -/
import Derived.Test.YtgkianlpkdfhkaaGreatM07
set_option linter.unusedVariables false
set_option linter.unusedSimpArgs false
set_option linter.unusedSectionVars false
namespace Go.Ev
def tv (op:COp)(l:List (Nat×Option AV)):Option AV:=
 match op with
 | .mv x=>evO l x
 | .pick c a b=>(match evO l c with
  |some (.bool true)=>evO l a
  |some (.bool false)=>evO l b
  |_=>none)
 | .nilc x=>(match evO l x with
  |some (.ptr b o)=>some (.ptr b o)
  |_=>none)
 | .faddr x off=>(match evO l x with
  |some (.ptr b o)=>some (.ptr b (o+off))
  |_=>none)
 | .lenS x=>(match evO l x with
  |some (.slc _ _ n _)=>some (.int .i64 ((n:Nat):Int))
  |some .nils=>some (.int .i64 ((0:Nat):Int))
  |some (.opq u)=>(match u with
   | .slice _ n _=>some (.int .i64 ((n:Nat):Int))
   |_=>none)
  |_=>none)
 | .extract x i=>(match evO l x with
  |some (.tup vs)=>vs[i]?
  |_=>none)
 | .field1 x off=>(match evO l x with
  |some (.agg vs)=>vs[off]?
  |_=>none)
 | .fieldN x off k=>(match evO l x with
  |some (.agg vs)=>(match dtO vs off k with
   |some lv=>some (.agg lv)
   |none=>none)
  |_=>none)
 | .build z ps=>(match J9 l ps z with
  |some lv=>some (.agg lv)
  |none=>none)
 | .mkfn f a c=>(match Dl l a with
  |some va=>(match Dl l c with
   |some vc=>some (.fn f va vc)
   |none=>none)
  |none=>none)
 | .mkif k x=>(match evO l x with
  |some v=>some (.ifc k v)
  |none=>none)
 | .un o x=>(match o with
  | .not=>(match evO l x with
   |some (.bool t)=>some (.bool (!t))
   |_=>none)
  |_=>none)
 | .bin o x y _ sh=>(match o with
  | .eql=>(match sh with
   | .ptr=>(match evO l x with
    |some (.ptr _ _)=>(match evO l y with|some .nilp=>some (.bool false)|_=>none)
    |some .nilp=>(match evO l y with|some .nilp=>some (.bool true)|_=>none)
    |_=>none)
   | .nilS=>(match evO l x with
    |some (.slc _ _ _ _)=>(match evO l y with|some .nils=>some (.bool false)|_=>none)
    |some .nils=>(match evO l y with|some .nils=>some (.bool true)|_=>none)
    |_=>none)
   |_=>none)
  | .neq=>(match sh with
   | .ptr=>(match evO l x with
    |some (.ptr _ _)=>(match evO l y with|some .nilp=>some (.bool true)|_=>none)
    |some .nilp=>(match evO l y with|some .nilp=>some (.bool false)|_=>none)
    |_=>none)
   | .nilS=>(match evO l x with
    |some (.slc _ _ _ _)=>(match evO l y with|some .nils=>some (.bool true)|_=>none)
    |some .nils=>(match evO l y with|some .nils=>some (.bool false)|_=>none)
    |_=>none)
   |_=>none)
  |_=>none)
 |_=>none
theorem P9 {op:COp}{l:List (Nat×Option AV)}{v:AV}{h:H}(e:tv op l=some v):exec op h (tms l)= .val v h:=by
 cases op <;> try simp only [tv]at e
 case mv x=>exact zt e
 case pick c a b=>
  cases hc:evO l c with
  |none=>rw [hc]at e;cases e
  |some u=>
   rw [hc]at e
   cases u <;> (try simp only at e) <;> first|(cases e;done)|skip
   rename_i t
   cases t <;> (try simp only at e)
   ·exact nf hc e
   ·exact na hc e
 case nilc x=>
  cases hc:evO l x with
  |none=>rw [hc]at e;cases e
  |some u=>
   rw [hc]at e
   cases u <;> (try simp only at e) <;> first|(cases e;done)|skip
   cases e;exact tp (Ab hc)
 case faddr x off=>
  cases hc:evO l x with
  |none=>rw [hc]at e;cases e
  |some u=>
   rw [hc]at e
   cases u <;> (try simp only at e) <;> first|(cases e;done)|skip
   cases e;exact mq (Ab hc) rfl
 case lenS x=>
  cases hc:evO l x with
  |none=>rw [hc]at e;cases e
  |some u=>
   rw [hc]at e
   cases u <;> (try simp only at e) <;> first|(cases e;done)|skip
   ·cases e;exact mz (Ab hc)
   ·cases e;exact tq (Ab hc)
   ·rename_i q
    cases q <;> (try simp only at e) <;> first|(cases e;done)|skip
    cases e;simp only [exec,Ad,Ab hc];rfl
 case extract x i=>
  cases hc:evO l x with
  |none=>rw [hc]at e;cases e
  |some u=>
   rw [hc]at e
   cases u <;> (try simp only at e) <;> first|(cases e;done)|skip
   exact Yc (Ab hc) e
 case field1 x off=>
  cases hc:evO l x with
  |none=>rw [hc]at e;cases e
  |some u=>
   rw [hc]at e
   cases u <;> (try simp only at e) <;> first|(cases e;done)|skip
   exact df (Ab hc) e
 case fieldN x off k=>
  cases hc:evO l x with
  |none=>rw [hc]at e;cases e
  |some u=>
   rw [hc]at e
   cases u <;> (try simp only at e) <;> first|(cases e;done)|skip
   rename_i vs
   cases hd:dtO vs off k with
   |none=>rw [hd]at e;cases e
   |some lv=>rw [hd]at e;cases e;exact dq hc hd
 case build z ps=>
  cases hc:J9 l ps z with
  |none=>rw [hc]at e;cases e
  |some lv=>rw [hc]at e;cases e;exact ng hc
 case mkfn f a c=>
  cases ha:Dl l a with
  |none=>rw [ha]at e;cases e
  |some va=>
   cases hc:Dl l c with
   |none=>rw [ha,hc]at e;cases e
   |some vc=>rw [ha,hc]at e;cases e;exact t7 ha hc
 case mkif k x=>
  cases hc:evO l x with
  |none=>rw [hc]at e;cases e
  |some u=>rw [hc]at e;cases e;exact t8 hc
 case un o x=>
  cases o <;> (try simp only at e) <;> first|(cases e;done)|skip
  cases hc:evO l x with
  |none=>rw [hc]at e;cases e
  |some u=>
   rw [hc]at e
   cases u <;> (try simp only at e) <;> first|(cases e;done)|skip
   cases e;exact xd (Ab hc)
 case bin o x y q sh=>
  cases o <;> (try simp only at e) <;> first|(cases e;done)|skip
  all_goals
   cases sh <;> (try simp only at e) <;> first|(cases e;done)|skip
   all_goals
    cases hc:evO l x with
    |none=>rw [hc]at e;cases e
    |some u=>
     rw [hc]at e
     cases u <;> (try simp only at e) <;> first|(cases e;done)|skip
     all_goals
      cases hd:evO l y with
      |none=>rw [hd]at e;cases e
      |some w=>
       rw [hd]at e
       cases w <;> (try simp only at e) <;> first|(cases e;done)|skip
       cases e
       simp only [exec,Ad,Ab hc,Ab hd]
       rfl
 all_goals first|(cases e;done)|(unfold tv at e;cases e;done)
def gdO (g:Option (Nat×Bool))(l:List (Nat×Option AV)):Option Bool:=
 match g with
 |none=>some true
 |some p=>(match look l p.1 with
  |some (.bool c)=>some (bEq c p.2)
  |some (.tup [])=>some false
  |_=>none)
theorem Av {g:Option (Nat×Bool)}{l:List (Nat×Option AV)}{b:Bool}(e:gdO g l=some b):wanted (tms l) g=some b:=by
 cases g with
 |none=>exact e
 |some p=>simp only [gdO]at e;simp only [wanted,F0];exact e
def ins (d:Option Nat)(v:AV)(l:List (Nat×Option AV)):List (Nat×Option AV):=
 match d with
 |none=>l
 |some d=>(d,some v)::l
theorem nq (d:Option Nat)(v:AV)(l:List (Nat×Option AV)):put (tms l) d v=tms (ins d v l):=by cases d <;> rfl
def adv:Nat→List AItem→List (Nat×Option AV)→List AItem×List (Nat×Option AV)
 |0,td,l=>(td,l)
 |n+1,td,l=>match td with
  | []=>([],l)
  |i::k=>match i with
   | .inBlock _=>adv n k l
   | .inScope _=>adv n k l
   | .ops r=>(match r with
    | []=>adv n k l
    |c::r=>(match gdO c.guard l with
     |some true=>(match tv c.op l with
      |some v=>(match c.dst with
       |some d=>adv n (.ops r::k) ((d,some v)::l)
       |none=>adv n (.ops r::k) l)
      |none=>(.ops (c::r)::k,l))
     |some false=>(match c.dst with
      |some d=>adv n (.ops r::k) ((d,some (.tup []))::l)
      |none=>adv n (.ops r::k) l)
     |none=>(.ops (c::r)::k,l)))
   | .code c=>(match c with
    | .skip=>adv n k l
    | .label _=>adv n k l
    | .seq a b=>adv n (.code a:: .code b::k) l
    | .block id b=>adv n (.code b:: .inBlock id::k) l
    | .scope b=>adv n (.code b:: .inScope b::k) l
    | .ops r=>adv n (.ops r::k) l
    | .cond x a b=>(match evO l x with
     |some (.bool true)=>adv n (.code a::k) l
     |some (.bool false)=>adv n (.code b::k) l
     |_=>(.code c::k,l))
    | .exit id=>(match exitTo id k with
     |some k'=>adv n k' l
     |none=>(.code c::k,l))
    | .goto lb=>(match gotoIn lb k with
     |some k'=>adv n k' l
     |none=>(.code c::k,l))
    |_=>(.code c::k,l))
   |_=>(i::k,l)
section
variable {P:Program}{E:Env}{F:T CFn}{K:T (List AV×AV)}{Q:Nat→AV→Prop}
variable (L:Lg P E F K)
variable {fn nt:Nat}{k:List AItem}{ds:List ADef}{dfd:Bool}{ro:Option Nat}{cs:List AFr}{h h':H}
include L
theorem B6: ∀(n:Nat) {td td':List AItem} {l l':List (Nat×Option AV)},adv n td l=(td',l')→
  Good P E Q ⟨⟨fn,nt,tms l',td',ds,.run,dfd,ro⟩,cs,h⟩→Good P E Q ⟨⟨fn,nt,tms l,td,ds,.run,dfd,ro⟩,cs,h⟩
 |0,td,td',l,l',e,g=>by cases e;exact g
 |n+1,td,td',l,l',e,g=>by
  have ih:=fun {td:List AItem} {l:List (Nat×Option AV)} (e:adv n td l=(td',l'))=>B6 n e g
  cases td with
  |nil=>cases e;exact g
  |cons i k=>
   cases i with
   |inBlock id=>exact Ya L (ih e)
   |inScope b=>exact Yb L (ih e)
   |ops r=>
    cases r with
    |nil=>exact tw L (ih e)
    |cons c r=>
     obtain⟨d,gd,op⟩:=c
     simp only [adv]at e
     cases hg:gdO gd l with
     |none=>rw [hg]at e;cases e;exact g
     |some b=>
      rw [hg]at e
      cases b with
      |false=>cases d with
       |none=>exact Jh L (Av hg) (ih e)
       |some d=>exact Jh L (Av hg) (ih e)
      |true=>
       simp only at e
       cases hv:tv op l with
       |none=>rw [hv]at e;cases e;exact g
       |some v=>
        rw [hv]at e
        cases d with
        |none=>exact J5 L (Av hg) (P9 hv) (ih e)
        |some d=>exact J5 L (Av hg) (P9 hv) (ih e)
   |code c=>
    cases c with
    |skip=>exact ta L (ih e)
    |label _=>exact mi L (ih e)
    |seq a b=>exact wv L (ih e)
    |block id b=>exact ml L (ih e)
    |scope b=>exact mm L (ih e)
    |ops r=>exact tu L (ih e)
    |cond x a b=>
     simp only [adv]at e
     cases hx:evO l x with
     |none=>rw [hx]at e;cases e;exact g
     |some u=>
      rw [hx]at e
      cases u <;> (try simp only at e) <;> first|(cases e;exact g)|skip
      rename_i t
      cases t with
      |true=>exact gcT L (Ab hx) (ih e)
      |false=>exact gcF L (Ab hx) (ih e)
    |exit id=>
     simp only [adv]at e
     cases hx:exitTo id k with
     |none=>rw [hx]at e;cases e;exact g
     |some k'=>rw [hx]at e;exact te L hx (ih e)
    |goto lb=>
     simp only [adv]at e
     cases hx:gotoIn lb k with
     |none=>rw [hx]at e;cases e;exact g
     |some k'=>rw [hx]at e;exact tf L hx (ih e)
    |_=>cases e;exact g
   |_=>cases e;exact g
end
structure Bk (h:H)(b:Nat)(c:List AV):Prop where
 e:H.get h b=some (cl c)
 lt:b<h.n
section
variable {n:Nat}{t:T Blk}{lh:List (Nat×Option Blk)}{b i:Nat}{c c0:List AV}{x:Option Blk}{h h':H}{S:Nat→Prop}
theorem zw (k:Bk h b c):Bk (hp h.n h.t []) b c:=k
theorem eu:Bk (hp (n+1) t ((n,some (cl c))::lh)) n c:=⟨F7 _ _ _ _ _,Nat.lt_succ_self n⟩
theorem x8 (k:Bk (hp n t lh) i c):Bk (hp (n+1) t ((n,x)::lh)) i c:=⟨(Em _ _ _ _ (Nat.ne_of_lt k.lt)).trans k.e,Nat.lt_succ_of_lt k.lt⟩
theorem x9 (k:Bk (hp n t lh) b c0):Bk (hp n t ((b,some (cl c))::lh)) b c:=⟨F7 _ _ _ _ _,k.lt⟩
theorem ya (hne:i≠b)(k:Bk (hp n t lh) i c):Bk (hp n t ((b,x)::lh)) i c:=⟨(Em _ _ _ _ hne).trans k.e,k.lt⟩
theorem As (q:Kp S h h')(hs: ¬S i)(k:Bk h i c):Bk h' i c:=⟨q.get k.e k.lt hs,Nat.lt_of_lt_of_le k.lt q.n⟩
theorem Ah (q:K0 h h')(k:Bk h i c):Bk h' i c:=As q (fun f=>f) k
theorem Kp.tr0 {m:H}(q:K0 m h')(k:Kp S h m):Kp S h h':=
 ⟨Nat.le_trans k.n q.n,fun b hb hs=>(q.old b (Nat.lt_of_lt_of_le hb k.n) fun f=>f).trans (k.old b hb hs)⟩
theorem Kp.trS {m:H}{S':Nat→Prop}(q:Kp S' m h')(hs: ∀i,i<h.n→S' i→S i)(k:Kp S h m):Kp S h h':=
 ⟨Nat.le_trans k.n q.n,fun b hb hn=>(q.old b (Nat.lt_of_lt_of_le hb k.n) fun f=>hn (hs b hb f)).trans (k.old b hb hn)⟩
theorem Oi (e:c0=c)(k:Bk h b c0):Bk h b c:=e ▸ k
theorem Bk.hb (k:Bk h b c):HB h b c:=⟨k.e⟩
end
structure Mk (h:H)(r:Nat)(es:List AEnt)(ck:Nat):Prop where
 e:H.get h r=some (.map es ck)
 lt:r<h.n
section
variable {n:Nat}{t:T Blk}{lh:List (Nat×Option Blk)}{b i ck:Nat}{es:List AEnt}{x:Option Blk}{h h':H}{S:Nat→Prop}
theorem yc (k:Mk h b es ck):Mk (hp h.n h.t []) b es ck:=k
theorem ez:Mk (hp (n+1) t ((n,some (.map es ck))::lh)) n es ck:=⟨F7 _ _ _ _ _,Nat.lt_succ_self n⟩
theorem ye (k:Mk (hp n t lh) i es ck):Mk (hp (n+1) t ((n,x)::lh)) i es ck:=⟨(Em _ _ _ _ (Nat.ne_of_lt k.lt)).trans k.e,Nat.lt_succ_of_lt k.lt⟩
theorem yf (hne:i≠b)(k:Mk (hp n t lh) i es ck):Mk (hp n t ((b,x)::lh)) i es ck:=⟨(Em _ _ _ _ hne).trans k.e,k.lt⟩
theorem Rd (q:Kp S h h')(hs: ¬S i)(k:Mk h i es ck):Mk h' i es ck:=⟨q.get k.e k.lt hs,Nat.lt_of_lt_of_le k.lt q.n⟩
theorem Oj (q:K0 h h')(k:Mk h i es ck):Mk h' i es ck:=Rd q (fun f=>f) k
end
section
variable {l:List (Nat×Option AV)}{lh:List (Nat×Option Blk)}{n:Nat}{t:T Blk}{h:H}{x y z:O}{v u:AV}{b o:Nat}{c lv:List AV}
theorem Wn (e:evO l x=some (.ptr b o))(hb:Bk h b c)(hv:c[o]?=some v):XV (.load1 x) h l v h:=⟨my (Ab e) hb.e hv⟩
theorem nr {k:Nat}(e:evO l x=some (.ptr b o))(hb:Bk h b c)(hv:dtO c o k=some lv):XV (.loadN k x) h l (.agg lv) h:=⟨ni e hb.e hv⟩
theorem ns {u:AV}(e:evO l x=some (.ptr b o))(hb:Bk h b c)(hu:c[o]?=some u)(hv:c[o+1]?=some v):XV (.loadN 2 x) h l (.agg [u,v]) h:=by
 have h1:=(List.getElem?_eq_some_iff.1 hv).1
 refine⟨Wj (Ab e) hb.e (by omega) ?_⟩
 apply List.ext_getElem?
 intro i
 rcases i with _|_|i
 ·rw [List.getElem?_take_of_lt (by omega),List.getElem?_drop];exact hu
 ·rw [List.getElem?_take_of_lt (by omega),List.getElem?_drop];exact hv
 ·rw [List.getElem?_take_eq_none (by omega)];rfl
theorem yg {bytes a:Nat}{k j:IntKind}(e:evO l x=some (.int k ((a:Nat):Int)))(e1:evO l y=some (.int j ((a:Nat):Int)))(h2:a*bytes≤281474976710656)(h3:a≤281474976710656):
  XV (.mkslice bytes c x y) (hp n t lh) l (.slc n 0 a a) (hp (n+1) t ((n,some (cl (rl c a)))::lh)):=⟨Ye (Ab e) (Ab e1) (Nat.le_refl _) h2 h3 rfl⟩
theorem fa {k:IntKind}{i len cap:Nat}(e:evO l x=some (.slc b o len cap))(e1:evO l y=some (.int k ((i:Nat):Int)))(hi:i<len):XV (.iaddrS 1 x y) h l (.ptr b (o+i)) h:=⟨J4 (Ab e) (Ab e1) hi (by show o+i*1=_;rw [Nat.mul_one])⟩
theorem Iv {k:IntKind}{i len cap:Nat}(e:evO l x=some (.slc b 0 len cap))(e1:evO l y=some (.int k ((i:Nat):Int)))(hi:i<len):XV (.iaddrS 1 x y) h l (.ptr b i) h:=⟨J4 (Ab e) (Ab e1) hi (by show 0+i*1=_;rw [Nat.mul_one,Nat.zero_add])⟩
theorem Qa {k:IntKind}{i len:Nat}(e:evO l x=some (.ptr b 0))(e1:evO l y=some (.int k ((i:Nat):Int)))(hi:i<len):XV (.iaddrA len 1 x y) h l (.ptr b i) h:=⟨Sq (Ab e) (Ab e1) hi (by show 0+i*1=_;rw [Nat.mul_one,Nat.zero_add])⟩
theorem nu:XV .mkmap (hp n t lh) l (.map n) (hp (n+1) t ((n,some (.map [] 0))::lh)):=⟨m9⟩
theorem yi {sh:Sh}{r cl0:Nat}{kv zero:AV}(e:evO l x=some (.map r))(ek:evO l y=some kv)(hk:I6 sh kv=true)(hb:Mk h r [] cl0):XV (.lookup sh zero x y false) h l zero h:=⟨xz e hb.e ek hk⟩
theorem yj {sh:Bool}{k:Nat}(e:evO l x=some (.ifc k v))(e1:evO l y=some .nili):XV (.bin .neq x y sh .iface) h l (.bool true) h:=⟨by simp only [exec,Ad,Ab e,Ab e1];cases sh <;> rfl⟩
theorem Re {k:Bool}(e:evO l x=some .nili)(e1:evO l y=some .nili):XV (.bin .neq x y true .iface) h l (.bool false) h:=⟨by simp only [exec,Ad,Ab e,Ab e1];rfl⟩
theorem Yg {k:Nat}{z:AV}(e:evO l x=some (.ifc k v)):XV (.tassert x k z false) h l v h:=⟨Yd (Ab e)⟩
section
variable {a d:Nat}{p r:Int}{k j:IntKind}{sh:Sh}{q:Bool}
theorem Rf (e:evO l x=some (.int k ((a:Nat):Int)))(e1:evO l y=some (.int k ((d:Nat):Int)))(ht:a<d):XV (.bin .lss x y q sh) h l (.bool true) h:=dy e e1 (by omega)
theorem t9 (e:evO l x=some (.int k ((a:Nat):Int)))(e1:evO l y=some (.int k ((d:Nat):Int)))(ht:d≤a):XV (.bin .lss x y q sh) h l (.bool false) h:=dz e e1 (by omega)
theorem ua (e:evO l x=some (.int k ((a:Nat):Int)))(e1:evO l y=some (.int k ((d:Nat):Int)))(ht:a≤d):XV (.bin .leq x y q sh) h l (.bool true) h:=d4 e e1 (by omega)
theorem ub (e:evO l x=some (.int k ((a:Nat):Int)))(e1:evO l y=some (.int k ((d:Nat):Int)))(ht:d<a):XV (.bin .leq x y q sh) h l (.bool false) h:=d5 e e1 (by omega)
theorem uc (e:evO l x=some (.int k ((a:Nat):Int)))(e1:evO l y=some (.int k ((d:Nat):Int)))(ht:d<a):XV (.bin .gtr x y q sh) h l (.bool true) h:=d6 e e1 (by omega)
theorem ud (e:evO l x=some (.int k ((a:Nat):Int)))(e1:evO l y=some (.int k ((d:Nat):Int)))(ht:a≤d):XV (.bin .gtr x y q sh) h l (.bool false) h:=d7 e e1 (by omega)
theorem ue (e:evO l x=some (.int k ((a:Nat):Int)))(e1:evO l y=some (.int k ((d:Nat):Int)))(ht:d≤a):XV (.bin .geq x y q sh) h l (.bool true) h:=d8 e e1 (by omega)
theorem uf (e:evO l x=some (.int k ((a:Nat):Int)))(e1:evO l y=some (.int k ((d:Nat):Int)))(ht:a<d):XV (.bin .geq x y q sh) h l (.bool false) h:=d9 e e1 (by omega)
theorem yk (e:evO l x=some (.int k ((a:Nat):Int)))(e1:evO l y=some (.int k ((d:Nat):Int)))(ht:a=d):XV (.bin .eql x y q .pint) h l (.bool true) h:=re e e1 (by omega)
theorem rh (e:evO l x=some (.int k ((a:Nat):Int)))(e1:evO l y=some (.int k ((d:Nat):Int)))(ht:a≠d):XV (.bin .eql x y q .pint) h l (.bool false) h:=rf e e1 (by omega)
theorem yn (e:evO l x=some (.int k ((a:Nat):Int)))(e1:evO l y=some (.int k ((d:Nat):Int)))(ht:a≠d):XV (.bin .neq x y q .pint) h l (.bool true) h:=eg e e1 (by omega)
theorem yo (e:evO l x=some (.int k ((a:Nat):Int)))(e1:evO l y=some (.int k ((d:Nat):Int)))(ht:a=d):XV (.bin .neq x y q .pint) h l (.bool false) h:=ep e e1 (by omega)
theorem ug (e:evO l x=some (.int .i64 p))(e1:evO l y=some (.int .i64 r))(h1: -9223372036854775808≤p+r)(h2:p+r≤9223372036854775807):XV (.bin .add x y q sh) h l (.int .i64 (p+r)) h:=⟨cy (Ab e) (Ab e1) (Jg h1 h2)⟩
theorem uh (e:evO l x=some (.int .i64 p))(e1:evO l y=some (.int .i64 r))(h1: -9223372036854775808≤p - r)(h2:p - r≤9223372036854775807):XV (.bin .sub x y q sh) h l (.int .i64 (p - r)) h:=⟨cz (Ab e) (Ab e1) (Jg h1 h2)⟩
theorem ui (hs:k.signed=false)(e:evO l x=some (.int k ((a:Nat):Int)))(e1:evO l y=some (.int k ((d:Nat):Int))):XV (.bin .add x y q sh) h l (.int k (((a+d) % pw k:Nat):Int)) h:=
 ⟨cy (Ab e) (Ab e1) (by rw [←Int.natCast_add,Us hs])⟩
theorem Ut (hs:k.signed=false)(e:evO l x=some (.int k ((a:Nat):Int)))(e1:evO l y=some (.int k ((d:Nat):Int)))(hd:d≤a)(ha:a<pw k):XV (.bin .sub x y q sh) h l (.int k ((a - d:Nat):Int)) h:=
 ⟨cz (Ab e) (Ab e1) (by rw [←Int.ofNat_sub hd,Ra hs (by omega)])⟩
theorem nv (hs:k.signed=false)(e:evO l x=some (.int j ((a:Nat):Int)))(ha:a<pw k):XV (.conv k x) h l (.int k ((a:Nat):Int)) h:=⟨Wl hs (Ab e) (Nat.mod_eq_of_lt ha)⟩
theorem Rh (hs:k.signed=false)(e:evO l x=some (.int j ((a:Nat):Int))):XV (.conv k x) h l (.int k ((a % pw k:Nat):Int)) h:=⟨Wl hs (Ab e) rfl⟩
theorem ny (e:evO l x=some (.int j ((a:Nat):Int)))(h2:a<9223372036854775808):XV (.conv .i64 x) h l (.int .i64 ((a:Nat):Int)) h:=⟨cx (Ab e) (Jg (by omega) (by omega))⟩
theorem fc {s:Nat}(e:evO l x=some (.int k ((a:Nat):Int)))(e1:evO l y=some (.int j ((s:Nat):Int)))(hs:s≤bits k):XV (.bin .shr x y q sh) h l (.int k ((a >>> s:Nat):Int)) h:=⟨xh (Ab e) (Ab e1) hs rfl⟩
theorem rm (hs:k.signed=false)(e:evO l x=some (.int k ((a:Nat):Int)))(e1:evO l y=some (.int k ((d:Nat):Int)))(ha:a<pw k)(hc:d<pw k)(hx:(a ^^^ d)<pw k):XV (.bin .xor x y q sh) h l (.int k ((a ^^^ d:Nat):Int)) h:=⟨xg hs (Ab e) (Ab e1) ha hc hx rfl⟩
theorem uj (hs:k.signed=false)(e:evO l x=some (.int k ((a:Nat):Int)))(ha:a<pw k):XV (.un .xor x) h l (.int k ((pw k - 1 - a:Nat):Int)) h:=⟨t6 hs (Ab e) ha rfl⟩
theorem yp (e:evO l x=some (.int .i64 ((a:Nat):Int)))(e1:evO l y=some (.int .i64 ((d:Nat):Int)))(hd:0<d)(ha:a<9223372036854775808):XV (.bin .quo x y q sh) h l (.int .i64 ((a / d:Nat):Int)) h:=by
 refine⟨?_⟩
 have h0:iEq ((d:Nat):Int) (Int.ofNat 0)=false:=by
  rw [D5];exact decide_eq_false (by show((d:Nat):Int)≠0;omega)
 have h1:Int.tdiv ((a:Nat):Int) ((d:Nat):Int)=((a / d:Nat):Int):=rfl
 have h2:a / d≤a:=Nat.div_le_self a d
 simp only [exec,Ad,Ab e,Ab e1,Fs,D1,A8,h0,h1,vo]
 clear h1
 generalize a / d=q at*
 rw [Jg (by omega) (by omega)]
theorem uk (hs:k.signed=false)(e:evO l x=some (.int k ((a:Nat):Int)))(e1:evO l y=some (.int k ((d:Nat):Int)))(hd:0<d)(ha:a<pw k):XV (.bin .quo x y q sh) h l (.int k ((a / d:Nat):Int)) h:=by
 refine⟨?_⟩
 have h0:iEq ((d:Nat):Int) (Int.ofNat 0)=false:=by
  rw [D5];exact decide_eq_false (by show((d:Nat):Int)≠0;omega)
 have h1:Int.tdiv ((a:Nat):Int) ((d:Nat):Int)=((a / d:Nat):Int):=rfl
 have h2:a / d≤a:=Nat.div_le_self a d
 simp only [exec,Ad,Ab e,Ab e1,Fs,D1,A8,h0,h1,vo]
 rw [Ra hs (by omega)]
theorem yq (e:evO l x=some (.int k ((a:Nat):Int)))(e1:evO l y=some (.int k ((d:Nat):Int)))(hd:0<d):XV (.bin .rem x y q sh) h l (.int k ((a % d:Nat):Int)) h:=by
 refine⟨?_⟩
 have h0:iEq ((d:Nat):Int) (Int.ofNat 0)=false:=by
  rw [D5];exact decide_eq_false (by show((d:Nat):Int)≠0;omega)
 have h1:Int.tmod ((a:Nat):Int) ((d:Nat):Int)=((a % d:Nat):Int):=rfl
 simp only [exec,Ad,Ab e,Ab e1,Fs,D1,A8,h0,h1,vo]
theorem Uu (e:evO l x=some (.int k ((a:Nat):Int)))(e1:evO l y=some (.int k ((d:Nat):Int))):XV (.maxmin false x y) h l (.int k ((min a d:Nat):Int)) h:=⟨qy (Ab e) (Ab e1) (by show min (a:Int) (d:Int)=_;omega)⟩
theorem ul (e:evO l x=some (.int k ((a:Nat):Int)))(e1:evO l y=some (.int k ((d:Nat):Int))):XV (.maxmin true x y) h l (.int k ((max a d:Nat):Int)) h:=⟨qy (Ab e) (Ab e1) (by show max (a:Int) (d:Int)=_;omega)⟩
end
end
def Ct (P:Program)(E:Env)(F:T CFn)(K:T (List AV×AV))(f:Nat)(args:List AV)(h:H)(post:AV→H→Prop):Prop:=
 ∀(Q:Nat→AV→Prop) (x:AFr) (cs:List AFr),(∀v h',post v h'→GO P E Q (finish v cs h' x))→GO P E Q (Bq F K (.func f) args false x cs h)
def Yh:Nat→List AV→List (Nat×Option AV)→List (Nat×Option AV)
 |_,[],acc=>acc
 |i,a::r,acc=>Yh (i+1) r ((i,some a)::acc)
theorem Kc: ∀(args:List AV) (i:Nat) (acc:List (Nat×Option AV)),ofL i (tms acc) args=tms (Yh i args acc)
 | [],_,_=>rfl
 |a::r,i,acc=>Kc r (i+1) ((i,some a)::acc)
def oa (l:List (Nat×Option AV)):List CRes→Option (List AV)
 | []=>some []
 | .tmp i::r=>(match look l i with
  |some v=>(match oa l r with
   |some vs=>some (v::vs)
   |none=>none)
  |none=>none)
 |_::_=>none
theorem Dd {l:List (Nat×Option AV)}{h:H}: ∀{rs:List CRes} {vs:List AV},oa l rs=some vs→results (tms l) h rs=some vs
 | [],vs,e=>by cases e;rfl
 | .tmp i::r,vs,e=>by
  simp only [oa]at e
  cases h1:look l i with
  |none=>rw [h1]at e;cases e
  |some v=>
   cases h2:oa l r with
   |none=>rw [h1,h2]at e;cases e
   |some us=>rw [h1,h2]at e;cases e;exact qz h1 (Dd h2)
 | .cell1 _::r,vs,e=>by cases e
 | .cellN _ _::r,vs,e=>by cases e
 | .bad::r,vs,e=>by cases e
section
variable {P:Program}{E:Env}{F:T CFn}{K:T (List AV×AV)}{Q:Nat→AV→Prop}
variable {fn nt:Nat}{l l':List (Nat×Option AV)}{k td':List AItem}{ds:List ADef}{dfd:Bool}{ro:Option Nat}{cs:List AFr}{h h':H}{gd:Option (Nat×Bool)}{op:COp}{v:AV}{d:Option Nat}{r:List CI}
variable {n b o:Nat}{t:T Blk}{lh:List (Nat×Option Blk)}{x y:O}{c c' lv:List AV}{post:AV→H→Prop}
variable (L:Lg P E F K)
include L
theorem st1 {d:Nat}(hg:gdO gd l=some true)(hx:XV op h l v h')(ha:adv 1000 (.ops r::k) ((d,some v)::l)=(td',l'))(g:Good P E Q ⟨⟨fn,nt,tms l',td',ds,.run,dfd,ro⟩,cs,h'⟩):
  Good P E Q ⟨⟨fn,nt,tms l,.ops (⟨some d,gd,op⟩::r)::k,ds,.run,dfd,ro⟩,cs,h⟩:=
 J5 L (Av hg) hx.e (B6 L 1000 ha g)
theorem stS {m:Nat}(hg:gdO gd l=some true)(e:evO l x=some (.ptr b o))(e1:evO l y=some v)(hc:A5 v=some lv)(hm:Nat.beq lv.length m=true)(hp1:Ar lv=true)(hb:Bk (hp n t lh) b c)(hs:Og lv c o=some c')
  (ha:adv 1000 (.ops r::k) l=(td',l')) (g:Good P E Q ⟨⟨fn,nt,tms l',td',ds,.run,dfd,ro⟩,cs,hp n t ((b,some (cl c'))::lh)⟩):
  Good P E Q ⟨⟨fn,nt,tms l,.ops (⟨none,gd,.store m x y⟩::r)::k,ds,.run,dfd,ro⟩,cs,hp n t lh⟩:=nj L (Av hg) e e1 hc hm hp1 hb.e hs (B6 L 1000 ha g)
theorem oc (hg:gdO gd l=some true)(e:evO l x=some (.ptr b o))(e1:evO l y=some v)(hc:A5 v=some [v])(hp1:Dq v=true)(hb:Bk (hp n t lh) b c)(ho:o<c.length)
  (ha:adv 1000 (.ops r::k) l=(td',l')) (g:Good P E Q ⟨⟨fn,nt,tms l',td',ds,.run,dfd,ro⟩,cs,hp n t ((b,some (cl (c.set o v)))::lh)⟩):
  Good P E Q ⟨⟨fn,nt,tms l,.ops (⟨none,gd,.store 1 x y⟩::r)::k,ds,.run,dfd,ro⟩,cs,hp n t lh⟩:=zu L ⟨Av hg⟩ e e1 hc hp1 ⟨hb.e⟩ ho (B6 L 1000 ha g)
omit L in
theorem fe (c:List AV)(v u:AV)(o:Nat)(ho:o+1<c.length):Eu [v,u] c o=(c.set o v).set (o+1) u:=by
 apply List.ext_getElem?
 intro i
 rw [Ef [v,u] c o i (by simp;omega),List.getElem?_set,List.getElem?_set,List.length_set]
 by_cases h1:o+1=i
 ·subst h1;simp [ho]
 ·by_cases h2:o=i
  ·subst h2;simp;omega
  ·rw [if_neg h1,if_neg h2,if_neg (by simp;omega)]
theorem zx {u:AV}(hg:gdO gd l=some true)(e:evO l x=some (.ptr b o))(e1:evO l y=some (.agg [v,u]))(hp1:Dq v=true)(hp2:Dq u=true)(hb:Bk (hp n t lh) b c)(ho:o+1<c.length)
  (ha:adv 1000 (.ops r::k) l=(td',l')) (g:Good P E Q ⟨⟨fn,nt,tms l',td',ds,.run,dfd,ro⟩,cs,hp n t ((b,some (cl ((c.set o v).set (o+1) u)))::lh)⟩):
  Good P E Q ⟨⟨fn,nt,tms l,.ops (⟨none,gd,.store 2 x y⟩::r)::k,ds,.run,dfd,ro⟩,cs,hp n t lh⟩:=
 Q8 L (Av hg) (Ab e) (Ab e1) rfl rfl (by simp only [Ar,hp1,hp2]) hb.e (by have: [v,u].length=2:=rfl;omega) (fe c v u o ho) (B6 L 1000 ha g)
theorem rn {d:Nat}{f:Nat}{a:List O}{va cp args:List AV}(hg:gdO gd l=some true)(e:evO l x=some (.fn (.func f) [] cp))(ha:Dl l a=some va)(hr:C7 va cp=some args)(hc:Ct P E F K f args h post)
  (g: ∀v h',post v h'→Good P E Q ⟨⟨fn,nt,tms ((d,some v)::l),.ops r::k,ds,.run,dfd,ro⟩,cs,hp h'.n h'.t []⟩):
  Good P E Q ⟨⟨fn,nt,tms l,.ops (⟨some d,gd,.callv x a⟩::r)::k,ds,.run,dfd,ro⟩,cs,h⟩:=
 J6 L (Av hg) (Dj e ha hr) (hc Q _ cs fun v h' p=>F8 L cvb (g v h' p))
theorem um {f:Nat}{a:List O}{va cp args:List AV}(hg:gdO gd l=some true)(e:evO l x=some (.fn (.func f) [] cp))(ha:Dl l a=some va)(hr:C7 va cp=some args)(hc:Ct P E F K f args h post)
  (g: ∀v h',post v h'→Good P E Q ⟨⟨fn,nt,tms l,.ops r::k,ds,.run,dfd,ro⟩,cs,hp h'.n h'.t []⟩):
  Good P E Q ⟨⟨fn,nt,tms l,.ops (⟨none,gd,.callv x a⟩::r)::k,ds,.run,dfd,ro⟩,cs,h⟩:=
 J6 L (Av hg) (Dj e ha hr) (hc Q _ cs fun v h' p=>F8 L (dst:=none) cvb (g v h' p))
theorem uo {d:Nat}{f:Nat}{a:List O}{va cp args:List AV}{R:AV→Prop}(hg:gdO gd l=some true)(e:evO l x=some (.fn (.func f) [] cp))(ha:Dl l a=some va)(hr:C7 va cp=some args)(hc:Ct P E F K f args (hp n t lh) fun v h'=>R v∧h'=hp n t lh)
  (g: ∀v,R v→Good P E Q ⟨⟨fn,nt,tms ((d,some v)::l),.ops r::k,ds,.run,dfd,ro⟩,cs,hp n t lh⟩):
  Good P E Q ⟨⟨fn,nt,tms l,.ops (⟨some d,gd,.callv x a⟩::r)::k,ds,.run,dfd,ro⟩,cs,hp n t lh⟩:=
 J6 L (Av hg) (Dj e ha hr) (hc Q _ cs fun v h' p=>F8 L cvb (p.2 ▸ g v p.1))
theorem od {f:Nat}{a:List O}{va cp args:List AV}{R:AV→Prop}(hg:gdO gd l=some true)(e:evO l x=some (.fn (.func f) [] cp))(ha:Dl l a=some va)(hr:C7 va cp=some args)(hc:Ct P E F K f args (hp n t lh) fun v h'=>R v∧h'=hp n t lh)
  (g: ∀v,R v→Good P E Q ⟨⟨fn,nt,tms l,.ops r::k,ds,.run,dfd,ro⟩,cs,hp n t lh⟩):
  Good P E Q ⟨⟨fn,nt,tms l,.ops (⟨none,gd,.callv x a⟩::r)::k,ds,.run,dfd,ro⟩,cs,hp n t lh⟩:=
 J6 L (Av hg) (Dj e ha hr) (hc Q _ cs fun v h' p=>F8 L (dst:=none) cvb (p.2 ▸ g v p.1))
theorem Ol {f:Nat}{g:CFn}{args:List AV}{l0 l1:List (Nat×Option AV)}{td:List AItem}(hf:T.get F f=some g)(hm:T.get K f=none)(hn:Nat.ble args.length g.ntmps=true)(hl:Yh 0 args []=l0)(ha:adv 1000 [.code g.body] l0=(td,l1))
  (body: ∀(Q:Nat→AV→Prop) (x:AFr) (cs:List AFr),(∀v h',post v h'→GO P E Q (finish v cs h' x))→Good P E Q ⟨⟨f,g.ntmps,tms l1,td,[],.run,false,none⟩,x::cs,hp h.n h.t []⟩):Ct P E F K f args h post:=by
 intro Q x cs hG
 have h1:ofL 0 .leaf args=tms l0:=by rw [←hl];exact Kc args 0 []
 exact tt L hf hm hn h1 (B6 L 1000 ha (body Q x cs hG))
section
variable {f:Nat}{g:CFn}{l1:List (Nat×Option AV)}{td:List AItem}{a0 a1 a2 a3 a4 a5 a6 a7:AV}
theorem Am (hf:T.get F f=some g)(hm:T.get K f=none)(hn:Nat.ble 1 g.ntmps=true)(ha:adv 1000 [.code g.body] [(0,some a0)]=(td,l1))
  (body: ∀(Q:Nat→AV→Prop) (x:AFr) (cs:List AFr),(∀v h',post v h'→GO P E Q (finish v cs h' x))→Good P E Q ⟨⟨f,g.ntmps,tms l1,td,[],.run,false,none⟩,x::cs,hp h.n h.t []⟩):Ct P E F K f [a0] h post:=Ol L hf hm hn rfl ha body
theorem Ae (hf:T.get F f=some g)(hm:T.get K f=none)(hn:Nat.ble 2 g.ntmps=true)(ha:adv 1000 [.code g.body] [(1,some a1),(0,some a0)]=(td,l1))
  (body: ∀(Q:Nat→AV→Prop) (x:AFr) (cs:List AFr),(∀v h',post v h'→GO P E Q (finish v cs h' x))→Good P E Q ⟨⟨f,g.ntmps,tms l1,td,[],.run,false,none⟩,x::cs,hp h.n h.t []⟩):Ct P E F K f [a0,a1] h post:=Ol L hf hm hn rfl ha body
theorem B3 (hf:T.get F f=some g)(hm:T.get K f=none)(hn:Nat.ble 3 g.ntmps=true)(ha:adv 1000 [.code g.body] [(2,some a2),(1,some a1),(0,some a0)]=(td,l1))
  (body: ∀(Q:Nat→AV→Prop) (x:AFr) (cs:List AFr),(∀v h',post v h'→GO P E Q (finish v cs h' x))→Good P E Q ⟨⟨f,g.ntmps,tms l1,td,[],.run,false,none⟩,x::cs,hp h.n h.t []⟩):Ct P E F K f [a0,a1,a2] h post:=Ol L hf hm hn rfl ha body
theorem up (hf:T.get F f=some g)(hm:T.get K f=none)(hn:Nat.ble 4 g.ntmps=true)(ha:adv 1000 [.code g.body] [(3,some a3),(2,some a2),(1,some a1),(0,some a0)]=(td,l1))
  (body: ∀(Q:Nat→AV→Prop) (x:AFr) (cs:List AFr),(∀v h',post v h'→GO P E Q (finish v cs h' x))→Good P E Q ⟨⟨f,g.ntmps,tms l1,td,[],.run,false,none⟩,x::cs,hp h.n h.t []⟩):Ct P E F K f [a0,a1,a2,a3] h post:=Ol L hf hm hn rfl ha body
theorem Ji (hf:T.get F f=some g)(hm:T.get K f=none)(hn:Nat.ble 5 g.ntmps=true)(ha:adv 1000 [.code g.body] [(4,some a4),(3,some a3),(2,some a2),(1,some a1),(0,some a0)]=(td,l1))
  (body: ∀(Q:Nat→AV→Prop) (x:AFr) (cs:List AFr),(∀v h',post v h'→GO P E Q (finish v cs h' x))→Good P E Q ⟨⟨f,g.ntmps,tms l1,td,[],.run,false,none⟩,x::cs,hp h.n h.t []⟩):Ct P E F K f [a0,a1,a2,a3,a4] h post:=Ol L hf hm hn rfl ha body
end
theorem yr {g:CFn}{x:AFr}{vs:List AV}(hf:T.get F fn=some g)(hr:results (tms l) h g.results=some vs)(hG: ∀v h',post v h'→GO P E Q (finish v cs h' x))(p:post (single vs) h):
  Good P E Q ⟨⟨fn,nt,tms l,.code .ret::k,[],.run,false,none⟩,x::cs,h⟩:=wy L hf hr (hG _ _ p)
theorem zy {g:CFn}{x:AFr}{vs:List AV}(hf:T.get F fn=some g)(hr:results (tms l) h g.results=some vs)(hG: ∀v h',post v h'→GO P E Q (finish v cs h' x))(p:post (single vs) h):
  Good P E Q ⟨⟨fn,nt,tms l,[],[],.run,false,none⟩,x::cs,h⟩:=qp L hf hr (hG _ _ p)
omit L in
theorem Ct.mono {post':AV→H→Prop}{f:Nat}{args:List AV}(c:Ct P E F K f args h post')(m: ∀v h',post' v h'→post v h'):Ct P E F K f args h post:=fun Q x cs g=>c Q x cs fun v h' p=>g v h' (m v h' p)
theorem keep {nm:List Nat}{q:List (Nat×Option AV)}{todo:List AItem}{mode:AMode}(ho:Bw l nm=some q)(g:Good P E Q ⟨⟨fn,nt,tms q,todo,ds,mode,dfd,ro⟩,cs,h⟩):Good P E Q ⟨⟨fn,nt,tms l,todo,ds,mode,dfd,ro⟩,cs,h⟩:=by
 refine En L (tm':=tms q) (fun i v hv=>?_) g
 rw [←Bg ho]at hv
 clear ho g
 induction nm with
 |nil=>simp only [only,T.get_leaf]at hv;cases hv
 |cons a nm ih=>
  simp only [only]at hv
  cases ha:T.get (tms l) a with
  |none=>rw [ha]at hv;exact ih hv
  |some u=>
   rw [ha]at hv
   simp only [T.get_set]at hv
   by_cases hi:i=a
   ·subst hi;rw [if_pos rfl]at hv;rw [ha];exact hv
   ·rw [if_neg hi]at hv;exact ih hv
theorem Co {α: Type}{bd:CC}(T:Nat→α→List (Nat×Option AV))(n:Nat)(R:Nat→α→H→Prop){i0:Nat}(s0:α){h0:H}
  (hT:TSub (tms (T i0 s0)) (tms l)) (hR:R i0 s0 h0) (hi:i0≤n)
  (body: ∀i s h,i<n→R i s h→(∀s' h' l',R (i+1) s' h'→TSub (tms (T (i+1) s')) (tms l')→Good P E Q ⟨⟨fn,nt,tms l',.inLoop bd::k,ds,.run,dfd,ro⟩,cs,h'⟩)→Good P E Q ⟨⟨fn,nt,tms (T i s),.code bd:: .inLoop bd::k,ds,.run,dfd,ro⟩,cs,hp h.n h.t []⟩)
  (done: ∀s h,R n s h→Good P E Q ⟨⟨fn,nt,tms (T n s),.code bd:: .inLoop bd::k,ds,.run,dfd,ro⟩,cs,hp h.n h.t []⟩):
  Good P E Q ⟨⟨fn,nt,tms l,.code (.loop bd)::k,ds,.run,dfd,ro⟩,cs,h0⟩:=by
 have main: ∀m i s h,i+m=n→R i s h→Good P E Q ⟨⟨fn,nt,tms (T i s),.code bd:: .inLoop bd::k,ds,.run,dfd,ro⟩,cs,hp h.n h.t []⟩:=by
  intro m
  induction m with
  |zero=>
       intro i s h e hR;have:i=n:=by omega
       subst this;exact done s h hR
  |succ m ih=>
   intro i s h e hR
   exact body i s h (by omega) hR fun s' h' l' hR' hT'=>C6 L (En L hT' (ih (i+1) s' h' (by omega) hR'))
 exact A9 L (En L hT (main (n - i0) i0 s0 h0 (by omega) hR))
section
variable {q:List (Nat×Option AV)}{nm:List Nat}{pre chk:List DI}{ps:List Ph}{di:Nat}
omit L in
theorem C0 (ho:Bw l nm=some q)(hg:gdO gd q=some true)(hx:XV op h q v h')
  (g:Ba P E Q pre chk ps k fn nt (tms ((di,some v)::l)) ds dfd ro cs h'):Ba P E Q (⟨⟨some di,gd,op⟩,nm⟩::pre) chk ps k fn nt (tms l) ds dfd ro cs h:=p_v ho (Av hg) hx.e g
omit L in
theorem Uv (ho:Bw l nm=some q)(hg:gdO gd q=some false)
  (g:Ba P E Q pre chk ps k fn nt (tms ((di,some (.tup []))::l)) ds dfd ro cs h):Ba P E Q (⟨⟨some di,gd,op⟩,nm⟩::pre) chk ps k fn nt (tms l) ds dfd ro cs h:=p_s ho (Av hg) g
omit L in
theorem zz (ho:Bw l nm=some q)(hg:gdO gd q=some true)(hx:XV op h q v h')(hl:look l di=some v)(ha:Ka 20 v=true)(g:checks chk (tms l) h=true):checks (⟨⟨some di,gd,op⟩,nm⟩::chk) (tms l) h=true:=k_v ho (Av hg) hx.e hl ha g
omit L in
theorem z6 (ho:Bw l nm=some q)(hg:gdO gd q=some false)(hl:look l di=some (.tup []))(g:checks chk (tms l) h=true):checks (⟨⟨some di,gd,op⟩,nm⟩::chk) (tms l) h=true:=k_s ho (Av hg) hl g
theorem Ri (hc:checks chk (tms l) h=true)(ha:adv 1000 k l=(td',l'))(g:Good P E Q ⟨⟨fn,nt,tms l',td',ds,.run,dfd,ro⟩,cs,h⟩):Ba P E Q [] chk [] k fn nt (tms l) ds dfd ro cs h:=p_e hc (B6 L 1000 ha g)
theorem H6 (ho:Bw l nm=some q)(hg:gdO gd q=some true)(hx:XV op h q v h')
  (g:Ba P E Q pre chk ps k fn nt (tms ((di,some v)::l)) ds dfd ro cs h'):Good P E Q ⟨⟨fn,nt,tms l,.drawn ⟨⟨⟨some di,gd,op⟩,nm⟩,pre,chk⟩ ps::k,ds,.run,dfd,ro⟩,cs,h⟩:=e_v L ho (Av hg) hx.e g
theorem z7 (ho:Bw l nm=some q)(hg:gdO gd q=some false)
  (g:Ba P E Q pre chk ps k fn nt (tms ((di,some (.tup []))::l)) ds dfd ro cs h):Good P E Q ⟨⟨fn,nt,tms l,.drawn ⟨⟨⟨some di,gd,op⟩,nm⟩,pre,chk⟩ ps::k,ds,.run,dfd,ro⟩,cs,h⟩:=e_s L ho (Av hg) g
theorem yu {f:Nat}{a:List O}{va cp args:List AV}(ho:Bw l nm=some q)(hg:gdO gd q=some true)(e:evO q x=some (.fn (.func f) [] cp))(ha:Dl q a=some va)(hr:C7 va cp=some args)(hc:Ct P E F K f args h post)
  (g: ∀v h',post v h'→Ba P E Q pre chk ps k fn nt (tms ((di,some v)::l)) ds dfd ro cs (hp h'.n h'.t [])):
  Good P E Q ⟨⟨fn,nt,tms l,.drawn ⟨⟨⟨some di,gd,.callv x a⟩,nm⟩,pre,chk⟩ ps::k,ds,.run,dfd,ro⟩,cs,h⟩:=
 e_c L ho (Av hg) (Dj e ha hr) (hc Q _ cs fun v h' p=>fd cvb (g v h' p))
theorem uq {f:Nat}{a:List O}{va cp args:List AV}(ho:Bw l nm=some q)(hg:gdO gd q=some true)(e:evO q x=some (.fn (.func f) [] cp))(ha:Dl q a=some va)(hr:C7 va cp=some args)(hc:Ct P E F K f args h post)
  (g: ∀v h',post v h'→Ba P E Q pre chk ps k fn nt (tms l) ds dfd ro cs (hp h'.n h'.t [])):
  Good P E Q ⟨⟨fn,nt,tms l,.drawn ⟨⟨⟨none,gd,.callv x a⟩,nm⟩,pre,chk⟩ ps::k,ds,.run,dfd,ro⟩,cs,h⟩:=
 e_c L ho (Av hg) (Dj e ha hr) (hc Q _ cs fun v h' p=>fd0 cvb (g v h' p))
theorem ur {f:Nat}{a:List O}{va cp args:List AV}{R:AV→Prop}(ho:Bw l nm=some q)(hg:gdO gd q=some true)(e:evO q x=some (.fn (.func f) [] cp))(ha:Dl q a=some va)(hr:C7 va cp=some args)(hc:Ct P E F K f args (hp n t lh) fun v h'=>R v∧h'=hp n t lh)
  (g: ∀v,R v→Ba P E Q pre chk ps k fn nt (tms ((di,some v)::l)) ds dfd ro cs (hp n t lh)):
  Good P E Q ⟨⟨fn,nt,tms l,.drawn ⟨⟨⟨some di,gd,.callv x a⟩,nm⟩,pre,chk⟩ ps::k,ds,.run,dfd,ro⟩,cs,hp n t lh⟩:=
 e_c L ho (Av hg) (Dj e ha hr) (hc Q _ cs fun v h' p=>fd cvb (p.2 ▸ g v p.1))
theorem oe {f:Nat}{a:List O}{va cp args:List AV}{R:AV→Prop}(ho:Bw l nm=some q)(hg:gdO gd q=some true)(e:evO q x=some (.fn (.func f) [] cp))(ha:Dl q a=some va)(hr:C7 va cp=some args)(hc:Ct P E F K f args (hp n t lh) fun v h'=>R v∧h'=hp n t lh)
  (g: ∀v,R v→Ba P E Q pre chk ps k fn nt (tms l) ds dfd ro cs (hp n t lh)):
  Good P E Q ⟨⟨fn,nt,tms l,.drawn ⟨⟨⟨none,gd,.callv x a⟩,nm⟩,pre,chk⟩ ps::k,ds,.run,dfd,ro⟩,cs,hp n t lh⟩:=
 e_c L ho (Av hg) (Dj e ha hr) (hc Q _ cs fun v h' p=>fd0 cvb (p.2 ▸ g v p.1))
theorem z8 {m:Nat}(ho:Bw l nm=some q)(hg:gdO gd q=some true)(e:evO q x=some (.ptr b o))(e1:evO q y=some v)(hc:A5 v=some lv)(hm:Nat.beq lv.length m=true)(hp1:Ar lv=true)
  (hb:Bk (hp n t lh) b c) (hs:Og lv c o=some c') (g:Good P E Q ⟨⟨fn,nt,tms l,k,ds,.run,dfd,ro⟩,cs,hp n t ((b,some (cl c'))::lh)⟩):
  Good P E Q ⟨⟨fn,nt,tms l,.drawn ⟨⟨⟨none,gd,.store m x y⟩,nm⟩,[],[]⟩ []::k,ds,.run,dfd,ro⟩,cs,hp n t lh⟩:=
 xu L ho (Av hg) e e1 hc hm hp1 hb.e hs fun h' hs'=>p_e du (O9 L hs' g)
theorem ff (ho:Bw l nm=some q)(hg:gdO gd q=some true)(e:evO q x=some (.ptr b o))(e1:evO q y=some v)(hc:A5 v=some [v])(hp1:Dq v=true)
  (hb:Bk (hp n t lh) b c) (ho':o<c.length) (g:Good P E Q ⟨⟨fn,nt,tms l,k,ds,.run,dfd,ro⟩,cs,hp n t ((b,some (cl (c.set o v)))::lh)⟩):
  Good P E Q ⟨⟨fn,nt,tms l,.drawn ⟨⟨⟨none,gd,.store 1 x y⟩,nm⟩,[],[]⟩ []::k,ds,.run,dfd,ro⟩,cs,hp n t lh⟩:=by
 obtain⟨h',q1,q2⟩:=J8 (n:=n) (t:=t) (lh:=lh) (lv:= [v]) (by simp only [Ar,hp1]) hb.e (by have: [v].length=1:=rfl;omega) (Ss c v o ho')
 have hx:exec (.store 1 x y) (hp n t lh) (tms q)= .val .unk h':=by simp only [exec,Ad,Ab e,Ab e1,hc,q1];rfl
 exact Wi L (dst:=none) (by rw [Bg ho];exact Av hg) (by rw [Bg ho];exact hx) (p_e (l:=l) du (O9 L q2 g))
end
end
theorem Au {a b:Nat}(h:a≤b):Nat.ble a b=true:=by rw [Nat.ble_eq];exact h
theorem Fg {a b:Nat}(h:a≠b):Nat.beq a b=false:=by
 cases hq:Nat.beq a b with
 |false=>rfl
 |true=>exact absurd (Nat.eq_of_beq_eq_true hq) h
section
variable {l:List (Nat×Option AV)}{lh:List (Nat×Option Blk)}{n:Nat}{t:T Blk}{h:H}{x y z w:O}{b o len cap size a c m:Nat}{j k:IntKind}
theorem ut {lo hi:Option O}{la lb:Option Nat}(e:evO l x=some (.slc b o len (Aa+size)))(h1:BndR l lo la)(h2:BndR l hi lb)(hc:lb.getD len=c)(ha:la.getD 0=a)(hac:a≤c)(hcl:c≤len):
  XV (.sliceS size x lo hi none) h l (.slc b (o+a*size) (c - a) (Aa+size)) h:=by
 refine⟨?_⟩
 have g3:Cq (tms l) none=some none:=rfl
 simp only [exec,Ad,h1.opt,h2.opt,g3,Ab e,El,Kv,Au (show Aa≤Aa+size by omega),Lz,ha,hc,Au hac,Au hcl]
 have q3:Nat.beq (Aa+size) (Nat.add Aa size)=true:=Nat.beq_refl _
 rw [q3];rfl
theorem yx (e:evO l x=some (.slc b o len (Aa+size)))(e2:evO l z=some (.int k ((c:Nat):Int)))(hcl:c≤len):XV (.sliceS size x none (some z) none) h l (.slc b o c (Aa+size)) h:=by
 have:=ut (h:=h) (a:=0) (c:=c) e .no (.at e2) rfl rfl (Nat.zero_le _) hcl
 rwa [Nat.zero_mul,Nat.add_zero,Nat.sub_zero]at this
theorem yz (e:evO l x=some (.slc b o len (Aa+1)))(e1:evO l y=some (.int j ((a:Nat):Int)))(hal:a≤len):XV (.sliceS 1 x (some y) none none) h l (.slc b (o+a) (len - a) (Aa+1)) h:=by
 have:=ut (h:=h) (a:=a) (c:=len) e (.at e1) .no rfl rfl hal (Nat.le_refl _)
 rwa [Nat.mul_one]at this
theorem y4 (e:evO l x=some (.slc b o len (Aa+1)))(e1:evO l y=some (.int j ((a:Nat):Int)))(e2:evO l z=some (.int k ((c:Nat):Int)))(hac:a≤c)(hcl:c≤len):XV (.sliceS 1 x (some y) (some z) none) h l (.slc b (o+a) (c - a) (Aa+1)) h:=by
 have:=ut (h:=h) (a:=a) (c:=c) e (.at e1) (.at e2) rfl rfl hac hcl
 rwa [Nat.mul_one]at this
theorem uu {lo hi:Option O}{la lb:Option Nat}(e:evO l x=some (.slc b o len cap))(hk:cap<Aa)(h1:BndR l lo la)(h2:BndR l hi lb)(hc:lb.getD len=c)(ha:la.getD 0=a)(hac:a≤c)(hcl:c≤cap)(hne:a<cap):
  XV (.sliceS size x lo hi none) h l (.slc b (o+a*size) (c - a) (cap - a)) h:=by
 refine⟨?_⟩
 have g3:Cq (tms l) none=some none:=rfl
 simp only [exec,Ad,h1.opt,h2.opt,g3,Ab e,El,Kv,Ff hk,Lz,ha,hc,Au hac,Au hcl,Au (show Nat.succ cap≤Aa from hk),Fg (show cap≠a by omega)]
 rfl
theorem y5 (e:evO l x=some (.slc b o len cap))(e2:evO l z=some (.int k ((c:Nat):Int)))(hk:cap<Aa)(hcl:c≤cap)(hne:0<cap):XV (.sliceS size x none (some z) none) h l (.slc b o c cap) h:=by
 have:=uu (h:=h) (size:=size) (a:=0) (c:=c) e hk .no (.at e2) rfl rfl (Nat.zero_le _) hcl hne
 rwa [Nat.zero_mul,Nat.add_zero,Nat.sub_zero,Nat.sub_zero]at this
theorem y6 (e:evO l x=some (.slc b o len cap))(e1:evO l y=some (.int j ((a:Nat):Int)))(hk:cap<Aa)(hal:a≤len)(hlc:len≤cap)(hne:a<cap):XV (.sliceS 1 x (some y) none none) h l (.slc b (o+a) (len - a) (cap - a)) h:=by
 have:=uu (h:=h) (size:=1) (a:=a) (c:=len) e hk (.at e1) .no rfl rfl hal hlc hne
 rwa [Nat.mul_one]at this
theorem y7 (e:evO l x=some (.slc b o len cap))(e1:evO l y=some (.int j ((a:Nat):Int)))(e2:evO l z=some (.int k ((c:Nat):Int)))(hk:cap<Aa)(hac:a≤c)(hcl:c≤cap)(hne:a<cap):XV (.sliceS 1 x (some y) (some z) none) h l (.slc b (o+a) (c - a) (cap - a)) h:=by
 have:=uu (h:=h) (size:=1) (a:=a) (c:=c) e hk (.at e1) (.at e2) rfl rfl hac hcl hne
 rwa [Nat.mul_one]at this
theorem y8 (e:evO l x=some (.slc b o len (Aa+size)))(e1:evO l z=some (.int j ((c:Nat):Int)))(e2:evO l w=some (.int k ((m:Nat):Int)))(hc:c≤m)(hm:m≤len)(hl:len<Aa):
  XV (.sliceS size x none (some z) (some w)) h l (.slc b o c m) h:=by
 refine⟨?_⟩
 have g1:Cq (tms l) none=some none:=rfl
 simp only [exec,Ad,g1,(BndR.at e1).opt,(BndR.at e2).opt,Ab e,El,Kv,Au (show Aa≤Aa+size by omega),Lz,Au hc,Au hm,Option.getD_none,Au (Nat.zero_le c),Au (show Nat.succ m≤Aa by omega),vo]
 have hz:Nat.mul 0 size=0:=Nat.zero_mul size
 have h3:Nat.sub c 0=c:=rfl
 have h4:Nat.sub m 0=m:=rfl
 simp only [hz,h3,h4]
 cases Nat.beq m 0 <;> rfl
theorem y9 (e:evO l x=some .nils)(e2:evO l z=some (.int k ((0:Nat):Int))):XV (.sliceS size x none (some z) none) h l .nils h:=by
 refine⟨?_⟩
 have g1:Cq (tms l) none=some none:=rfl
 simp only [exec,Ad,g1,(BndR.at e2).opt,Ab e]
 rfl
theorem uv (e:evO l x=some .nils):XV (.capS x) h l (.int .i64 ((0:Nat):Int)) h:=⟨by simp only [exec,Ad,Ab e];rfl⟩
variable {sl bytes:Nat}
theorem z9 (e:evO l x=some (.slc b o sl cap))(e1:evO l y=some .nils):XV (.append size bytes x y) h l (.slc b o sl cap) h:=⟨by simp only [exec,Ad,Ab e,Ab e1];rfl⟩
theorem za (e:evO l x=some .nils)(e1:evO l y=some .nils):XV (.append size bytes x y) h l .nils h:=⟨by simp only [exec,Ad,Ab e,Ab e1];rfl⟩
end
theorem lkp {p:Prop}(h:p:=by
 (repeat(first|assumption|exact eu|(apply zw;first|assumption|(apply Ah;assumption)|(apply As;assumption;(first|omega|(dsimp only;omega))))|apply x8|apply x9|(apply ya;first|omega|assumption)))
 (first | done | fail "no")) : p := h
theorem lkm {p:Prop}(h:p:=by
 (repeat(first|assumption|exact ez|(apply yc;first|assumption|(apply Oj;assumption)|(apply Rd;assumption;(first|omega|(dsimp only;omega))))|apply ye|(apply yf;first|omega|assumption)))
 (first | done | fail "no")) : p := h
theorem opv {p:Prop}(h:p:=by
 (first
  |exact⟨P9 rfl⟩
  |(apply Wn rfl;exact lkp;first|rfl|assumption)
  |(apply nr rfl;exact lkp;rfl)
  |(apply ns rfl;exact lkp;assumption;assumption)
  |exact Iv rfl rfl (by omega)|exact fa rfl rfl (by omega)|exact Kb rfl rfl (by omega)|exact np rfl rfl (by omega)|exact Qa rfl rfl (by omega)
  |exact x5 rfl rfl (by omega)
  |exact Rf rfl rfl (by omega)|exact t9 rfl rfl (by omega)
  |exact yk rfl rfl (by omega)|exact rh rfl rfl (by omega)
  |exact yn rfl rfl (by omega)|exact yo rfl rfl (by omega)
  |exact ua rfl rfl (by omega)|exact ub rfl rfl (by omega)
  |exact uc rfl rfl (by omega)|exact ud rfl rfl (by omega)
  |exact ue rfl rfl (by omega)|exact uf rfl rfl (by omega)
  |exact dw|exact Wm rfl rfl rfl|exact dx rfl|exact yg rfl rfl (by omega) (by omega)
  |exact x6 rfl rfl (by omega) (by omega)|exact x7 rfl rfl (by omega)
  |exact ny rfl (by omega)|exact nv rfl rfl (by simp only [pw];omega)
  |exact yp rfl rfl (by omega) (by omega)|exact uk rfl rfl rfl (by omega) (by simp only [pw];omega)|exact yq rfl rfl (by omega)
  |exact yx rfl rfl (by omega)|exact yz rfl rfl (by omega)|exact y4 rfl rfl rfl (by omega) (by omega)|exact y8 rfl rfl rfl (by omega) (by omega) (by simp only [Aa];omega)
  |exact y5 rfl rfl (by simp only [Aa];omega) (by omega) (by omega)|exact y6 rfl rfl (by simp only [Aa];omega) (by omega) (by omega) (by omega)|exact y7 rfl rfl rfl (by simp only [Aa];omega) (by omega) (by omega) (by omega)
  |exact y9 rfl rfl|exact z9 rfl rfl|exact za rfl rfl|exact uv rfl
  |(apply yi rfl rfl rfl;exact lkm)|exact nu|exact Uu rfl rfl|exact ul rfl rfl
  |exact dy rfl rfl (by omega)|exact dz rfl rfl (by omega)
  |exact re rfl rfl (by omega)|exact rf rfl rfl (by omega)
  |exact eg rfl rfl (by omega)|exact ep rfl rfl (by omega)
  |exact d4 rfl rfl (by omega)|exact d5 rfl rfl (by omega)
  |exact d6 rfl rfl (by omega)|exact d7 rfl rfl (by omega)
  |exact d8 rfl rfl (by omega)|exact d9 rfl rfl (by omega)
  |exact ug rfl rfl (by omega) (by omega)|exact uh rfl rfl (by omega) (by omega)
  |exact yj rfl rfl|exact Re rfl rfl|exact Yg rfl)):p:=h
theorem chk {p:Prop}(h:p:=by
 (repeat(first|exact du|(apply zz rfl rfl opv rfl rfl)|(apply z6 rfl rfl rfl)))):p:=h
structure Lft (p:Prop):Prop where
 g:p
theorem wk {B A:Prop}(g:B)(h:Lft B→A:=by
 intro g_
 (try refine B6 L 1000 rfl ?_)
 (repeat(first
  |(apply st1 L rfl;exact opv;rfl)
  |(apply stS L rfl rfl rfl rfl rfl rfl;exact lkp;rfl;rfl)
  |(apply oc L rfl rfl rfl rfl rfl;exact lkp;(first|assumption|omega);rfl)
  |(apply zx L rfl rfl rfl rfl rfl;exact lkp;(first|assumption|omega);rfl)
  |refine mo L ?_
  |(apply C0 rfl rfl;exact opv)
  |(apply Uv rfl rfl)
  |(apply Ri L;exact chk;rfl)
  |(apply p_0;exact chk)
  |(apply H6 L rfl rfl;exact opv)
  |(apply z7 L rfl rfl)
  |(apply z8 L rfl rfl rfl rfl rfl rfl rfl;exact lkp;rfl;refine B6 L 1000 rfl ?_)
  |(apply ff L rfl rfl rfl rfl rfl rfl;exact lkp;(first|assumption|omega);refine B6 L 1000 rfl ?_)))
 exact g_.g):A:=h ⟨g⟩
theorem res {p:Prop}(h:p:=by
 (first
  |exact Dd rfl
  |exact Rc rfl (Bk.e lkp) rfl Ml
  |exact F1 rfl (Bk.e lkp) rfl Ml
  |exact Rc rfl (Bk.e lkp) rfl (Dd rfl)
  |exact F1 rfl (Bk.e lkp) rfl (Dd rfl))):p:=h
theorem ret {p:Prop}(hf:p){B A:Prop}(g:B)(h:p→Lft B→A:=by
 intro hf_ g_
 first
  |(apply yr L hf_ res G;exact g_.g)
  |(apply zy L hf_ res G;exact g_.g)):A:=h hf ⟨g⟩
theorem cal {p B A:Prop}(h:p→Lft B→A:=by
 intro hc_ g_
 first
  |(apply uo L rfl rfl rfl rfl;exact hc_;exact g_.g)
  |(apply od L rfl rfl rfl rfl;exact hc_;exact g_.g)
  |(apply ur L rfl rfl rfl rfl rfl;exact hc_;exact g_.g)
  |(apply oe L rfl rfl rfl rfl rfl;exact hc_;exact g_.g)
  |(apply rn L rfl rfl rfl rfl;exact hc_;exact g_.g)
  |(apply um L rfl rfl rfl rfl;exact hc_;exact g_.g)
  |(apply yu L rfl rfl rfl rfl rfl;exact hc_;exact g_.g)
  |(apply uq L rfl rfl rfl rfl rfl;exact hc_;exact g_.g)) (c:p) (g:B):A:=h c ⟨g⟩
theorem kps {p:Prop}(h:p:=by
 (repeat(first|assumption|exact Kp.refl _|refine Kp.nw ?_|refine Kp.st (by first|exact .inl (by omega)|exact .inr rfl|exact .inr (by assumption)|exact .inr (by(try dsimp only);omega)) ?_|(apply Kp.tr0;assumption)|(apply Kp.trS;assumption;(intro i_ h1_ h2_;(try dsimp only at h2_ ⊢);omega))))):p:=h
theorem tsb {p:Prop}(h:p:=by
 (repeat(first|exact dh|refine Yf rfl ?_))):p:=h
end Go.Ev
