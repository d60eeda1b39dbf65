/- Part of the proof. -/
import Derived.Test.YtgkianlpkdfhkaaGreatT07
set_option linter.unusedVariables false
set_option linter.unusedSimpArgs false
set_option linter.unusedSectionVars false
namespace Go.Ev
section
variable {P:Program}{E:Env}{F:T CFn}{K:T (List AV×AV)}{Q:Nat→AV→Prop}
variable {fn nt:Nat}{l:List (Nat×Option AV)}{k:List AItem}{ds:List ADef}{dfd:Bool}{ro:Option Nat}{cs:List AFr}{gd:Option (Nat×Bool)}{v:AV}{r:List CI}
variable {n b o:Nat}{t:T Blk}{lh:List (Nat×Option Blk)}{x y:O}{c:List AV}
variable (L:Lg P E F K)
include L
theorem zp (hw:WT l gd true)(e:evO l x=some (.ptr b o))(e1:evO l y=some v)(hc:A6 v=some [v])(hp1:Dq v=true)(hb:HB (hp n t lh) b c)(ho:o<c.length)
  (g:Good P E Q ⟨⟨fn,nt,tms l,.ops r::k,ds,.run,dfd,ro⟩,cs,hp n t ((b,some (cl (c.set o v)))::lh)⟩):
  Good P E Q ⟨⟨fn,nt,tms l,.ops (⟨none,gd,.store 1 x y⟩::r)::k,ds,.run,dfd,ro⟩,cs,hp n t lh⟩:=
 Re L hw.e (Ab e) (Ab e1) hc rfl (by simp only [Ar,hp1]) hb.e ho (Ss c v o ho) g
end
def tv (op:COp)(l:List (Nat×Option AV)):Option AV:=
 match op with
 | .mv x=>evO l x
 | .pick c a b=>(match evO l c with
  |some (.bool true)=>evO l a
  |some (.bool false)=>evO l b
  |_=>none)
 | .nilc x=>(match evO l x with
  |some (.ptr b o)=>some (.ptr b o)
  |_=>none)
 | .faddr x off=>(match evO l x with
  |some (.ptr b o)=>some (.ptr b (o+off))
  |_=>none)
 | .lenS x=>(match evO l x with
  |some (.slc _ _ n _)=>some (.int .i64 ((n:Nat):Int))
  |some .nils=>some (.int .i64 ((0:Nat):Int))
  |some (.opq u)=>(match u with
   | .slice _ n _=>some (.int .i64 ((n:Nat):Int))
   |_=>none)
  |_=>none)
 | .extract x i=>(match evO l x with
  |some (.tup vs)=>vs[i]?
  |_=>none)
 | .field1 x off=>(match evO l x with
  |some (.agg vs)=>vs[off]?
  |_=>none)
 | .fieldN x off k=>(match evO l x with
  |some (.agg vs)=>(match dtO vs off k with
   |some lv=>some (.agg lv)
   |none=>none)
  |_=>none)
 | .build z ps=>(match J9 l ps z with
  |some lv=>some (.agg lv)
  |none=>none)
 | .mkfn f a c=>(match Dl l a with
  |some va=>(match Dl l c with
   |some vc=>some (.fn f va vc)
   |none=>none)
  |none=>none)
 | .mkif k x=>(match evO l x with
  |some v=>some (.ifc k v)
  |none=>none)
 | .un o x=>(match o with
  | .not=>(match evO l x with
   |some (.bool t)=>some (.bool (!t))
   |_=>none)
  |_=>none)
 | .bin o x y _ sh=>(match o with
  | .eql=>(match sh with
   | .ptr=>(match evO l x with
    |some (.ptr _ _)=>(match evO l y with|some .nilp=>some (.bool false)|_=>none)
    |some .nilp=>(match evO l y with|some .nilp=>some (.bool true)|_=>none)
    |_=>none)
   | .nilS=>(match evO l x with
    |some (.slc _ _ _ _)=>(match evO l y with|some .nils=>some (.bool false)|_=>none)
    |some .nils=>(match evO l y with|some .nils=>some (.bool true)|_=>none)
    |_=>none)
   |_=>none)
  | .neq=>(match sh with
   | .ptr=>(match evO l x with
    |some (.ptr _ _)=>(match evO l y with|some .nilp=>some (.bool true)|_=>none)
    |some .nilp=>(match evO l y with|some .nilp=>some (.bool false)|_=>none)
    |_=>none)
   | .nilS=>(match evO l x with
    |some (.slc _ _ _ _)=>(match evO l y with|some .nils=>some (.bool true)|_=>none)
    |some .nils=>(match evO l y with|some .nils=>some (.bool false)|_=>none)
    |_=>none)
   |_=>none)
  |_=>none)
 |_=>none
theorem Ol {op:COp}{l:List (Nat×Option AV)}{v:AV}{h:H}(e:tv op l=some v):exec op h (tms l)= .val v h:=by
 cases op <;> try simp only [tv]at e
 case mv x=>exact zo e
 case pick c a b=>
  cases hc:evO l c with
  |none=>rw [hc]at e;cases e
  |some u=>
   rw [hc]at e
   cases u <;> (try simp only at e) <;> first|(cases e;done)|skip
   rename_i t
   cases t <;> (try simp only at e)
   ·exact mq hc e
   ·exact mo hc e
 case nilc x=>
  cases hc:evO l x with
  |none=>rw [hc]at e;cases e
  |some u=>
   rw [hc]at e
   cases u <;> (try simp only at e) <;> first|(cases e;done)|skip
   cases e;exact th (Ab hc)
 case faddr x off=>
  cases hc:evO l x with
  |none=>rw [hc]at e;cases e
  |some u=>
   rw [hc]at e
   cases u <;> (try simp only at e) <;> first|(cases e;done)|skip
   cases e;exact mg (Ab hc) rfl
 case lenS x=>
  cases hc:evO l x with
  |none=>rw [hc]at e;cases e
  |some u=>
   rw [hc]at e
   cases u <;> (try simp only at e) <;> first|(cases e;done)|skip
   ·cases e;exact mi (Ab hc)
   ·cases e;exact ti (Ab hc)
   ·rename_i q
    cases q <;> (try simp only at e) <;> first|(cases e;done)|skip
    cases e;simp only [exec,Ad,Ab hc];rfl
 case extract x i=>
  cases hc:evO l x with
  |none=>rw [hc]at e;cases e
  |some u=>
   rw [hc]at e
   cases u <;> (try simp only at e) <;> first|(cases e;done)|skip
   exact Ya (Ab hc) e
 case field1 x off=>
  cases hc:evO l x with
  |none=>rw [hc]at e;cases e
  |some u=>
   rw [hc]at e
   cases u <;> (try simp only at e) <;> first|(cases e;done)|skip
   exact cq (Ab hc) e
 case fieldN x off k=>
  cases hc:evO l x with
  |none=>rw [hc]at e;cases e
  |some u=>
   rw [hc]at e
   cases u <;> (try simp only at e) <;> first|(cases e;done)|skip
   rename_i vs
   cases hd:dtO vs off k with
   |none=>rw [hd]at e;cases e
   |some lv=>rw [hd]at e;cases e;exact df hc hd
 case build z ps=>
  cases hc:J9 l ps z with
  |none=>rw [hc]at e;cases e
  |some lv=>rw [hc]at e;cases e;exact my hc
 case mkfn f a c=>
  cases ha:Dl l a with
  |none=>rw [ha]at e;cases e
  |some va=>
   cases hc:Dl l c with
   |none=>rw [ha,hc]at e;cases e
   |some vc=>rw [ha,hc]at e;cases e;exact tw ha hc
 case mkif k x=>
  cases hc:evO l x with
  |none=>rw [hc]at e;cases e
  |some u=>rw [hc]at e;cases e;exact tx hc
 case un o x=>
  cases o <;> (try simp only at e) <;> first|(cases e;done)|skip
  cases hc:evO l x with
  |none=>rw [hc]at e;cases e
  |some u=>
   rw [hc]at e
   cases u <;> (try simp only at e) <;> first|(cases e;done)|skip
   cases e;exact ww (Ab hc)
 case bin o x y q sh=>
  cases o <;> (try simp only at e) <;> first|(cases e;done)|skip
  all_goals
   cases sh <;> (try simp only at e) <;> first|(cases e;done)|skip
   all_goals
    cases hc:evO l x with
    |none=>rw [hc]at e;cases e
    |some u=>
     rw [hc]at e
     cases u <;> (try simp only at e) <;> first|(cases e;done)|skip
     all_goals
      cases hd:evO l y with
      |none=>rw [hd]at e;cases e
      |some w=>
       rw [hd]at e
       cases w <;> (try simp only at e) <;> first|(cases e;done)|skip
       cases e
       simp only [exec,Ad,Ab hc,Ab hd]
       rfl
 all_goals first|(cases e;done)|(unfold tv at e;cases e;done)
def gdO (g:Option (Nat×Bool))(l:List (Nat×Option AV)):Option Bool:=
 match g with
 |none=>some true
 |some p=>(match look l p.1 with
  |some (.bool c)=>some (bEq c p.2)
  |some (.tup [])=>some false
  |_=>none)
theorem Av {g:Option (Nat×Bool)}{l:List (Nat×Option AV)}{b:Bool}(e:gdO g l=some b):wanted (tms l) g=some b:=by
 cases g with
 |none=>exact e
 |some p=>simp only [gdO]at e;simp only [wanted,F0];exact e
def ins (d:Option Nat)(v:AV)(l:List (Nat×Option AV)):List (Nat×Option AV):=
 match d with
 |none=>l
 |some d=>(d,some v)::l
theorem m7 (d:Option Nat)(v:AV)(l:List (Nat×Option AV)):put (tms l) d v=tms (ins d v l):=by cases d <;> rfl
def adv:Nat→List AItem→List (Nat×Option AV)→List AItem×List (Nat×Option AV)
 |0,td,l=>(td,l)
 |n+1,td,l=>match td with
  | []=>([],l)
  |i::k=>match i with
   | .inBlock _=>adv n k l
   | .inScope _=>adv n k l
   | .ops r=>(match r with
    | []=>adv n k l
    |c::r=>(match gdO c.guard l with
     |some true=>(match tv c.op l with
      |some v=>(match c.dst with
       |some d=>adv n (.ops r::k) ((d,some v)::l)
       |none=>adv n (.ops r::k) l)
      |none=>(.ops (c::r)::k,l))
     |some false=>(match c.dst with
      |some d=>adv n (.ops r::k) ((d,some (.tup []))::l)
      |none=>adv n (.ops r::k) l)
     |none=>(.ops (c::r)::k,l)))
   | .code c=>(match c with
    | .skip=>adv n k l
    | .label _=>adv n k l
    | .seq a b=>adv n (.code a:: .code b::k) l
    | .block id b=>adv n (.code b:: .inBlock id::k) l
    | .scope b=>adv n (.code b:: .inScope b::k) l
    | .ops r=>adv n (.ops r::k) l
    | .cond x a b=>(match evO l x with
     |some (.bool true)=>adv n (.code a::k) l
     |some (.bool false)=>adv n (.code b::k) l
     |_=>(.code c::k,l))
    | .exit id=>(match exitTo id k with
     |some k'=>adv n k' l
     |none=>(.code c::k,l))
    | .goto lb=>(match gotoIn lb k with
     |some k'=>adv n k' l
     |none=>(.code c::k,l))
    |_=>(.code c::k,l))
   |_=>(i::k,l)
section
variable {P:Program}{E:Env}{F:T CFn}{K:T (List AV×AV)}{Q:Nat→AV→Prop}
variable (L:Lg P E F K)
variable {fn nt:Nat}{k:List AItem}{ds:List ADef}{dfd:Bool}{ro:Option Nat}{cs:List AFr}{h h':H}
include L
theorem B4: ∀(n:Nat) {td td':List AItem} {l l':List (Nat×Option AV)},adv n td l=(td',l')→
  Good P E Q ⟨⟨fn,nt,tms l',td',ds,.run,dfd,ro⟩,cs,h⟩→Good P E Q ⟨⟨fn,nt,tms l,td,ds,.run,dfd,ro⟩,cs,h⟩
 |0,td,td',l,l',e,g=>by cases e;exact g
 |n+1,td,td',l,l',e,g=>by
  have ih:=fun {td:List AItem} {l:List (Nat×Option AV)} (e:adv n td l=(td',l'))=>B4 n e g
  cases td with
  |nil=>cases e;exact g
  |cons i k=>
   cases i with
   |inBlock id=>exact X8 L (ih e)
   |inScope b=>exact X9 L (ih e)
   |ops r=>
    cases r with
    |nil=>exact tn L (ih e)
    |cons c r=>
     obtain⟨d,gd,op⟩:=c
     simp only [adv]at e
     cases hg:gdO gd l with
     |none=>rw [hg]at e;cases e;exact g
     |some b=>
      rw [hg]at e
      cases b with
      |false=>cases d with
       |none=>exact Je L (Av hg) (ih e)
       |some d=>exact Je L (Av hg) (ih e)
      |true=>
       simp only at e
       cases hv:tv op l with
       |none=>rw [hv]at e;cases e;exact g
       |some v=>
        rw [hv]at e
        cases d with
        |none=>exact J5 L (Av hg) (Ol hv) (ih e)
        |some d=>exact J5 L (Av hg) (Ol hv) (ih e)
   |code c=>
    cases c with
    |skip=>exact sr L (ih e)
    |label _=>exact ma L (ih e)
    |seq a b=>exact wo L (ih e)
    |block id b=>exact mc L (ih e)
    |scope b=>exact md L (ih e)
    |ops r=>exact tl L (ih e)
    |cond x a b=>
     simp only [adv]at e
     cases hx:evO l x with
     |none=>rw [hx]at e;cases e;exact g
     |some u=>
      rw [hx]at e
      cases u <;> (try simp only at e) <;> first|(cases e;exact g)|skip
      rename_i t
      cases t with
      |true=>exact gcT L (Ab hx) (ih e)
      |false=>exact gcF L (Ab hx) (ih e)
    |exit id=>
     simp only [adv]at e
     cases hx:exitTo id k with
     |none=>rw [hx]at e;cases e;exact g
     |some k'=>rw [hx]at e;exact ss L hx (ih e)
    |goto lb=>
     simp only [adv]at e
     cases hx:gotoIn lb k with
     |none=>rw [hx]at e;cases e;exact g
     |some k'=>rw [hx]at e;exact sw L hx (ih e)
    |_=>cases e;exact g
   |_=>cases e;exact g
end
structure Bk (h:H)(b:Nat)(c:List AV):Prop where
 e:H.get h b=some (cl c)
 lt:b<h.n
section
variable {n:Nat}{t:T Blk}{lh:List (Nat×Option Blk)}{b i:Nat}{c c0:List AV}{x:Option Blk}{h h':H}{S:Nat→Prop}
theorem zq (k:Bk h b c):Bk (hp h.n h.t []) b c:=k
theorem d5:Bk (hp (n+1) t ((n,some (cl c))::lh)) n c:=⟨F7 _ _ _ _ _,Nat.lt_succ_self n⟩
theorem xy (k:Bk (hp n t lh) i c):Bk (hp (n+1) t ((n,x)::lh)) i c:=⟨(Eo _ _ _ _ (Nat.ne_of_lt k.lt)).trans k.e,Nat.lt_succ_of_lt k.lt⟩
theorem xz (k:Bk (hp n t lh) b c0):Bk (hp n t ((b,some (cl c))::lh)) b c:=⟨F7 _ _ _ _ _,k.lt⟩
theorem x6 (hne:i≠b)(k:Bk (hp n t lh) i c):Bk (hp n t ((b,x)::lh)) i c:=⟨(Eo _ _ _ _ hne).trans k.e,k.lt⟩
theorem As (q:Kp S h h')(hs: ¬S i)(k:Bk h i c):Bk h' i c:=⟨q.get k.e k.lt hs,Nat.lt_of_lt_of_le k.lt q.n⟩
theorem Ah (q:K0 h h')(k:Bk h i c):Bk h' i c:=As q (fun f=>f) k
theorem Kp.tr0 {m:H}(q:K0 m h')(k:Kp S h m):Kp S h h':=
 ⟨Nat.le_trans k.n q.n,fun b hb hs=>(q.old b (Nat.lt_of_lt_of_le hb k.n) fun f=>f).trans (k.old b hb hs)⟩
theorem Kp.trS {m:H}{S':Nat→Prop}(q:Kp S' m h')(hs: ∀i,i<h.n→S' i→S i)(k:Kp S h m):Kp S h h':=
 ⟨Nat.le_trans k.n q.n,fun b hb hn=>(q.old b (Nat.lt_of_lt_of_le hb k.n) fun f=>hn (hs b hb f)).trans (k.old b hb hn)⟩
theorem Om (e:c0=c)(k:Bk h b c0):Bk h b c:=e ▸ k
theorem Bk.hb (k:Bk h b c):HB h b c:=⟨k.e⟩
end
structure Mk (h:H)(r:Nat)(es:List AEnt)(ck:Nat):Prop where
 e:H.get h r=some (.map es ck)
 lt:r<h.n
section
variable {n:Nat}{t:T Blk}{lh:List (Nat×Option Blk)}{b i ck:Nat}{es:List AEnt}{x:Option Blk}{h h':H}{S:Nat→Prop}
theorem x7 (k:Mk h b es ck):Mk (hp h.n h.t []) b es ck:=k
theorem d6:Mk (hp (n+1) t ((n,some (.map es ck))::lh)) n es ck:=⟨F7 _ _ _ _ _,Nat.lt_succ_self n⟩
theorem x8 (k:Mk (hp n t lh) i es ck):Mk (hp (n+1) t ((n,x)::lh)) i es ck:=⟨(Eo _ _ _ _ (Nat.ne_of_lt k.lt)).trans k.e,Nat.lt_succ_of_lt k.lt⟩
theorem x9 (hne:i≠b)(k:Mk (hp n t lh) i es ck):Mk (hp n t ((b,x)::lh)) i es ck:=⟨(Eo _ _ _ _ hne).trans k.e,k.lt⟩
theorem Rl (q:Kp S h h')(hs: ¬S i)(k:Mk h i es ck):Mk h' i es ck:=⟨q.get k.e k.lt hs,Nat.lt_of_lt_of_le k.lt q.n⟩
theorem On (q:K0 h h')(k:Mk h i es ck):Mk h' i es ck:=Rl q (fun f=>f) k
end
section
variable {l:List (Nat×Option AV)}{lh:List (Nat×Option Blk)}{n:Nat}{t:T Blk}{h:H}{x y z:O}{v u:AV}{b o:Nat}{c lv:List AV}
theorem Wj (e:evO l x=some (.ptr b o))(hb:Bk h b c)(hv:c[o]?=some v):XV (.load1 x) h l v h:=⟨mh (Ab e) hb.e hv⟩
theorem m8 {k:Nat}(e:evO l x=some (.ptr b o))(hb:Bk h b c)(hv:dtO c o k=some lv):XV (.loadN k x) h l (.agg lv) h:=⟨mz e hb.e hv⟩
theorem m9 {u:AV}(e:evO l x=some (.ptr b o))(hb:Bk h b c)(hu:c[o]?=some u)(hv:c[o+1]?=some v):XV (.loadN 2 x) h l (.agg [u,v]) h:=by
 have h1:=(List.getElem?_eq_some_iff.1 hv).1
 refine⟨Wg (Ab e) hb.e (by omega) ?_⟩
 apply List.ext_getElem?
 intro i
 rcases i with _|_|i
 ·rw [List.getElem?_take_of_lt (by omega),List.getElem?_drop];exact hu
 ·rw [List.getElem?_take_of_lt (by omega),List.getElem?_drop];exact hv
 ·rw [List.getElem?_take_eq_none (by omega)];rfl
theorem ya {bytes a:Nat}{k j:IntKind}(e:evO l x=some (.int k ((a:Nat):Int)))(e1:evO l y=some (.int j ((a:Nat):Int)))(h2:a*bytes≤281474976710656)(h3:a≤281474976710656):
  XV (.mkslice bytes c x y) (hp n t lh) l (.slc n 0 a a) (hp (n+1) t ((n,some (cl (rl c a)))::lh)):=⟨Yc (Ab e) (Ab e1) (Nat.le_refl _) h2 h3 rfl⟩
theorem d7 {k:IntKind}{i len cap:Nat}(e:evO l x=some (.slc b o len cap))(e1:evO l y=some (.int k ((i:Nat):Int)))(hi:i<len):XV (.iaddrS 1 x y) h l (.ptr b (o+i)) h:=⟨J4 (Ab e) (Ab e1) hi (by show o+i*1=_;rw [Nat.mul_one])⟩
theorem Gm {k:IntKind}{i len cap:Nat}(e:evO l x=some (.slc b 0 len cap))(e1:evO l y=some (.int k ((i:Nat):Int)))(hi:i<len):XV (.iaddrS 1 x y) h l (.ptr b i) h:=⟨J4 (Ab e) (Ab e1) hi (by show 0+i*1=_;rw [Nat.mul_one,Nat.zero_add])⟩
theorem Qd {k:IntKind}{i len:Nat}(e:evO l x=some (.ptr b 0))(e1:evO l y=some (.int k ((i:Nat):Int)))(hi:i<len):XV (.iaddrA len 1 x y) h l (.ptr b i) h:=⟨Sq (Ab e) (Ab e1) hi (by show 0+i*1=_;rw [Nat.mul_one,Nat.zero_add])⟩
theorem na:XV .mkmap (hp n t lh) l (.map n) (hp (n+1) t ((n,some (.map [] 0))::lh)):=⟨mn⟩
theorem yc {sh:Sh}{r cl0:Nat}{kv zero:AV}(e:evO l x=some (.map r))(ek:evO l y=some kv)(hk:I3 sh kv=true)(hb:Mk h r [] cl0):XV (.lookup sh zero x y false) h l zero h:=⟨xo e hb.e ek hk⟩
theorem ye {sh:Bool}{k:Nat}(e:evO l x=some (.ifc k v))(e1:evO l y=some .nili):XV (.bin .neq x y sh .iface) h l (.bool true) h:=⟨by simp only [exec,Ad,Ab e,Ab e1];cases sh <;> rfl⟩
theorem Rm {k:Bool}(e:evO l x=some .nili)(e1:evO l y=some .nili):XV (.bin .neq x y true .iface) h l (.bool false) h:=⟨by simp only [exec,Ad,Ab e,Ab e1];rfl⟩
theorem Ye {k:Nat}{z:AV}(e:evO l x=some (.ifc k v)):XV (.tassert x k z false) h l v h:=⟨Yb (Ab e)⟩
section
variable {a d:Nat}{p r:Int}{k j:IntKind}{sh:Sh}{q:Bool}
theorem Oo (e:evO l x=some (.int k ((a:Nat):Int)))(e1:evO l y=some (.int k ((d:Nat):Int)))(ht:a<d):XV (.bin .lss x y q sh) h l (.bool true) h:=dj e e1 (by omega)
theorem tz (e:evO l x=some (.int k ((a:Nat):Int)))(e1:evO l y=some (.int k ((d:Nat):Int)))(ht:d≤a):XV (.bin .lss x y q sh) h l (.bool false) h:=dm e e1 (by omega)
theorem t5 (e:evO l x=some (.int k ((a:Nat):Int)))(e1:evO l y=some (.int k ((d:Nat):Int)))(ht:a≤d):XV (.bin .leq x y q sh) h l (.bool true) h:=dp e e1 (by omega)
theorem t6 (e:evO l x=some (.int k ((a:Nat):Int)))(e1:evO l y=some (.int k ((d:Nat):Int)))(ht:d<a):XV (.bin .leq x y q sh) h l (.bool false) h:=dq e e1 (by omega)
theorem t7 (e:evO l x=some (.int k ((a:Nat):Int)))(e1:evO l y=some (.int k ((d:Nat):Int)))(ht:d<a):XV (.bin .gtr x y q sh) h l (.bool true) h:=du e e1 (by omega)
theorem t8 (e:evO l x=some (.int k ((a:Nat):Int)))(e1:evO l y=some (.int k ((d:Nat):Int)))(ht:a≤d):XV (.bin .gtr x y q sh) h l (.bool false) h:=dw e e1 (by omega)
theorem t9 (e:evO l x=some (.int k ((a:Nat):Int)))(e1:evO l y=some (.int k ((d:Nat):Int)))(ht:d≤a):XV (.bin .geq x y q sh) h l (.bool true) h:=dx e e1 (by omega)
theorem ua (e:evO l x=some (.int k ((a:Nat):Int)))(e1:evO l y=some (.int k ((d:Nat):Int)))(ht:a<d):XV (.bin .geq x y q sh) h l (.bool false) h:=dy e e1 (by omega)
theorem yf (e:evO l x=some (.int k ((a:Nat):Int)))(e1:evO l y=some (.int k ((d:Nat):Int)))(ht:a=d):XV (.bin .eql x y q .pint) h l (.bool true) h:=qu e e1 (by omega)
theorem qw (e:evO l x=some (.int k ((a:Nat):Int)))(e1:evO l y=some (.int k ((d:Nat):Int)))(ht:a≠d):XV (.bin .eql x y q .pint) h l (.bool false) h:=qv e e1 (by omega)
theorem yg (e:evO l x=some (.int k ((a:Nat):Int)))(e1:evO l y=some (.int k ((d:Nat):Int)))(ht:a≠d):XV (.bin .neq x y q .pint) h l (.bool true) h:=dz e e1 (by omega)
theorem yi (e:evO l x=some (.int k ((a:Nat):Int)))(e1:evO l y=some (.int k ((d:Nat):Int)))(ht:a=d):XV (.bin .neq x y q .pint) h l (.bool false) h:=d4 e e1 (by omega)
theorem ub (e:evO l x=some (.int .i64 p))(e1:evO l y=some (.int .i64 r))(h1: -9223372036854775808≤p+r)(h2:p+r≤9223372036854775807):XV (.bin .add x y q sh) h l (.int .i64 (p+r)) h:=⟨cf (Ab e) (Ab e1) (Jd h1 h2)⟩
theorem uc (e:evO l x=some (.int .i64 p))(e1:evO l y=some (.int .i64 r))(h1: -9223372036854775808≤p - r)(h2:p - r≤9223372036854775807):XV (.bin .sub x y q sh) h l (.int .i64 (p - r)) h:=⟨cg (Ab e) (Ab e1) (Jd h1 h2)⟩
theorem ud (hs:k.signed=false)(e:evO l x=some (.int k ((a:Nat):Int)))(e1:evO l y=some (.int k ((d:Nat):Int))):XV (.bin .add x y q sh) h l (.int k (((a+d) % pw k:Nat):Int)) h:=
 ⟨cf (Ab e) (Ab e1) (by rw [←Int.natCast_add,Ut hs])⟩
theorem Uu (hs:k.signed=false)(e:evO l x=some (.int k ((a:Nat):Int)))(e1:evO l y=some (.int k ((d:Nat):Int)))(hd:d≤a)(ha:a<pw k):XV (.bin .sub x y q sh) h l (.int k ((a - d:Nat):Int)) h:=
 ⟨cg (Ab e) (Ab e1) (by rw [←Int.ofNat_sub hd,Rh hs (by omega)])⟩
theorem nf (hs:k.signed=false)(e:evO l x=some (.int j ((a:Nat):Int)))(ha:a<pw k):XV (.conv k x) h l (.int k ((a:Nat):Int)) h:=⟨Wh hs (Ab e) (Nat.mod_eq_of_lt ha)⟩
theorem Rn (hs:k.signed=false)(e:evO l x=some (.int j ((a:Nat):Int))):XV (.conv k x) h l (.int k ((a % pw k:Nat):Int)) h:=⟨Wh hs (Ab e) rfl⟩
theorem ng (e:evO l x=some (.int j ((a:Nat):Int)))(h2:a<9223372036854775808):XV (.conv .i64 x) h l (.int .i64 ((a:Nat):Int)) h:=⟨ce (Ab e) (Jd (by omega) (by omega))⟩
theorem d8 {s:Nat}(e:evO l x=some (.int k ((a:Nat):Int)))(e1:evO l y=some (.int j ((s:Nat):Int)))(hs:s≤bits k):XV (.bin .shr x y q sh) h l (.int k ((a >>> s:Nat):Int)) h:=⟨xc (Ab e) (Ab e1) hs rfl⟩
theorem qx (hs:k.signed=false)(e:evO l x=some (.int k ((a:Nat):Int)))(e1:evO l y=some (.int k ((d:Nat):Int)))(ha:a<pw k)(hc:d<pw k)(hx:(a ^^^ d)<pw k):XV (.bin .xor x y q sh) h l (.int k ((a ^^^ d:Nat):Int)) h:=⟨wz hs (Ab e) (Ab e1) ha hc hx rfl⟩
theorem ue (hs:k.signed=false)(e:evO l x=some (.int k ((a:Nat):Int)))(ha:a<pw k):XV (.un .xor x) h l (.int k ((pw k - 1 - a:Nat):Int)) h:=⟨tu hs (Ab e) ha rfl⟩
theorem yj (e:evO l x=some (.int .i64 ((a:Nat):Int)))(e1:evO l y=some (.int .i64 ((d:Nat):Int)))(hd:0<d)(ha:a<9223372036854775808):XV (.bin .quo x y q sh) h l (.int .i64 ((a / d:Nat):Int)) h:=by
 refine⟨?_⟩
 have h0:iEq ((d:Nat):Int) (Int.ofNat 0)=false:=by
  rw [D4];exact decide_eq_false (by show((d:Nat):Int)≠0;omega)
 have h1:Int.tdiv ((a:Nat):Int) ((d:Nat):Int)=((a / d:Nat):Int):=rfl
 have h2:a / d≤a:=Nat.div_le_self a d
 simp only [exec,Ad,Ab e,Ab e1,Fq,D0,A9,h0,h1,vo]
 clear h1
 generalize a / d=q at*
 rw [Jd (by omega) (by omega)]
theorem uf (hs:k.signed=false)(e:evO l x=some (.int k ((a:Nat):Int)))(e1:evO l y=some (.int k ((d:Nat):Int)))(hd:0<d)(ha:a<pw k):XV (.bin .quo x y q sh) h l (.int k ((a / d:Nat):Int)) h:=by
 refine⟨?_⟩
 have h0:iEq ((d:Nat):Int) (Int.ofNat 0)=false:=by
  rw [D4];exact decide_eq_false (by show((d:Nat):Int)≠0;omega)
 have h1:Int.tdiv ((a:Nat):Int) ((d:Nat):Int)=((a / d:Nat):Int):=rfl
 have h2:a / d≤a:=Nat.div_le_self a d
 simp only [exec,Ad,Ab e,Ab e1,Fq,D0,A9,h0,h1,vo]
 rw [Rh hs (by omega)]
theorem yk (e:evO l x=some (.int k ((a:Nat):Int)))(e1:evO l y=some (.int k ((d:Nat):Int)))(hd:0<d):XV (.bin .rem x y q sh) h l (.int k ((a % d:Nat):Int)) h:=by
 refine⟨?_⟩
 have h0:iEq ((d:Nat):Int) (Int.ofNat 0)=false:=by
  rw [D4];exact decide_eq_false (by show((d:Nat):Int)≠0;omega)
 have h1:Int.tmod ((a:Nat):Int) ((d:Nat):Int)=((a % d:Nat):Int):=rfl
 simp only [exec,Ad,Ab e,Ab e1,Fq,D0,A9,h0,h1,vo]
theorem Uv (e:evO l x=some (.int k ((a:Nat):Int)))(e1:evO l y=some (.int k ((d:Nat):Int))):XV (.maxmin false x y) h l (.int k ((min a d:Nat):Int)) h:=⟨qr (Ab e) (Ab e1) (by show min (a:Int) (d:Int)=_;omega)⟩
theorem ug (e:evO l x=some (.int k ((a:Nat):Int)))(e1:evO l y=some (.int k ((d:Nat):Int))):XV (.maxmin true x y) h l (.int k ((max a d:Nat):Int)) h:=⟨qr (Ab e) (Ab e1) (by show max (a:Int) (d:Int)=_;omega)⟩
end
end
def Ct (P:Program)(E:Env)(F:T CFn)(K:T (List AV×AV))(f:Nat)(args:List AV)(h:H)(post:AV→H→Prop):Prop:=
 ∀(Q:Nat→AV→Prop) (x:AFr) (cs:List AFr),(∀v h',post v h'→GO P E Q (finish v cs h' x))→GO P E Q (Br F K (.func f) args false x cs h)
def Yf:Nat→List AV→List (Nat×Option AV)→List (Nat×Option AV)
 |_,[],acc=>acc
 |i,a::r,acc=>Yf (i+1) r ((i,some a)::acc)
theorem Ka: ∀(args:List AV) (i:Nat) (acc:List (Nat×Option AV)),ofL i (tms acc) args=tms (Yf i args acc)
 | [],_,_=>rfl
 |a::r,i,acc=>Ka r (i+1) ((i,some a)::acc)
def ni (l:List (Nat×Option AV)):List CRes→Option (List AV)
 | []=>some []
 | .tmp i::r=>(match look l i with
  |some v=>(match ni l r with
   |some vs=>some (v::vs)
   |none=>none)
  |none=>none)
 |_::_=>none
theorem Cq {l:List (Nat×Option AV)}{h:H}: ∀{rs:List CRes} {vs:List AV},ni l rs=some vs→results (tms l) h rs=some vs
 | [],vs,e=>by cases e;rfl
 | .tmp i::r,vs,e=>by
  simp only [ni]at e
  cases h1:look l i with
  |none=>rw [h1]at e;cases e
  |some v=>
   cases h2:ni l r with
   |none=>rw [h1,h2]at e;cases e
   |some us=>rw [h1,h2]at e;cases e;exact qt h1 (Cq h2)
 | .cell1 _::r,vs,e=>by cases e
 | .cellN _ _::r,vs,e=>by cases e
 | .bad::r,vs,e=>by cases e
section
variable {P:Program}{E:Env}{F:T CFn}{K:T (List AV×AV)}{Q:Nat→AV→Prop}
variable {fn nt:Nat}{l l':List (Nat×Option AV)}{k td':List AItem}{ds:List ADef}{dfd:Bool}{ro:Option Nat}{cs:List AFr}{h h':H}{gd:Option (Nat×Bool)}{op:COp}{v:AV}{d:Option Nat}{r:List CI}
variable {n b o:Nat}{t:T Blk}{lh:List (Nat×Option Blk)}{x y:O}{c c' lv:List AV}{post:AV→H→Prop}
variable (L:Lg P E F K)
include L
theorem st1 {d:Nat}(hg:gdO gd l=some true)(hx:XV op h l v h')(ha:adv 1000 (.ops r::k) ((d,some v)::l)=(td',l'))(g:Good P E Q ⟨⟨fn,nt,tms l',td',ds,.run,dfd,ro⟩,cs,h'⟩):
  Good P E Q ⟨⟨fn,nt,tms l,.ops (⟨some d,gd,op⟩::r)::k,ds,.run,dfd,ro⟩,cs,h⟩:=
 J5 L (Av hg) hx.e (B4 L 1000 ha g)
theorem stS {m:Nat}(hg:gdO gd l=some true)(e:evO l x=some (.ptr b o))(e1:evO l y=some v)(hc:A6 v=some lv)(hm:Nat.beq lv.length m=true)(hp1:Ar lv=true)(hb:Bk (hp n t lh) b c)(hs:Oi lv c o=some c')
  (ha:adv 1000 (.ops r::k) l=(td',l')) (g:Good P E Q ⟨⟨fn,nt,tms l',td',ds,.run,dfd,ro⟩,cs,hp n t ((b,some (cl c'))::lh)⟩):
  Good P E Q ⟨⟨fn,nt,tms l,.ops (⟨none,gd,.store m x y⟩::r)::k,ds,.run,dfd,ro⟩,cs,hp n t lh⟩:=m0 L (Av hg) e e1 hc hm hp1 hb.e hs (B4 L 1000 ha g)
theorem yn (hg:gdO gd l=some true)(e:evO l x=some (.ptr b o))(e1:evO l y=some v)(hc:A6 v=some [v])(hp1:Dq v=true)(hb:Bk (hp n t lh) b c)(ho:o<c.length)
  (ha:adv 1000 (.ops r::k) l=(td',l')) (g:Good P E Q ⟨⟨fn,nt,tms l',td',ds,.run,dfd,ro⟩,cs,hp n t ((b,some (cl (c.set o v)))::lh)⟩):
  Good P E Q ⟨⟨fn,nt,tms l,.ops (⟨none,gd,.store 1 x y⟩::r)::k,ds,.run,dfd,ro⟩,cs,hp n t lh⟩:=zp L ⟨Av hg⟩ e e1 hc hp1 ⟨hb.e⟩ ho (B4 L 1000 ha g)
omit L in
theorem d9 (c:List AV)(v u:AV)(o:Nat)(ho:o+1<c.length):Ew [v,u] c o=(c.set o v).set (o+1) u:=by
 apply List.ext_getElem?
 intro i
 rw [Eg [v,u] c o i (by simp;omega),List.getElem?_set,List.getElem?_set,List.length_set]
 by_cases h1:o+1=i
 ·subst h1;simp [ho]
 ·by_cases h2:o=i
  ·subst h2;simp;omega
  ·rw [if_neg h1,if_neg h2,if_neg (by simp;omega)]
theorem zr {u:AV}(hg:gdO gd l=some true)(e:evO l x=some (.ptr b o))(e1:evO l y=some (.agg [v,u]))(hp1:Dq v=true)(hp2:Dq u=true)(hb:Bk (hp n t lh) b c)(ho:o+1<c.length)
  (ha:adv 1000 (.ops r::k) l=(td',l')) (g:Good P E Q ⟨⟨fn,nt,tms l',td',ds,.run,dfd,ro⟩,cs,hp n t ((b,some (cl ((c.set o v).set (o+1) u)))::lh)⟩):
  Good P E Q ⟨⟨fn,nt,tms l,.ops (⟨none,gd,.store 2 x y⟩::r)::k,ds,.run,dfd,ro⟩,cs,hp n t lh⟩:=
 Re L (Av hg) (Ab e) (Ab e1) rfl rfl (by simp only [Ar,hp1,hp2]) hb.e (by have: [v,u].length=2:=rfl;omega) (d9 c v u o ho) (B4 L 1000 ha g)
theorem qy {d:Nat}{f:Nat}{a:List O}{va cp args:List AV}(hg:gdO gd l=some true)(e:evO l x=some (.fn (.func f) [] cp))(ha:Dl l a=some va)(hr:C7 va cp=some args)(hc:Ct P E F K f args h post)
  (g: ∀v h',post v h'→Good P E Q ⟨⟨fn,nt,tms ((d,some v)::l),.ops r::k,ds,.run,dfd,ro⟩,cs,hp h'.n h'.t []⟩):
  Good P E Q ⟨⟨fn,nt,tms l,.ops (⟨some d,gd,.callv x a⟩::r)::k,ds,.run,dfd,ro⟩,cs,h⟩:=
 J6 L (Av hg) (Dj e ha hr) (hc Q _ cs fun v h' p=>F8 L cvb (g v h' p))
theorem uh {f:Nat}{a:List O}{va cp args:List AV}(hg:gdO gd l=some true)(e:evO l x=some (.fn (.func f) [] cp))(ha:Dl l a=some va)(hr:C7 va cp=some args)(hc:Ct P E F K f args h post)
  (g: ∀v h',post v h'→Good P E Q ⟨⟨fn,nt,tms l,.ops r::k,ds,.run,dfd,ro⟩,cs,hp h'.n h'.t []⟩):
  Good P E Q ⟨⟨fn,nt,tms l,.ops (⟨none,gd,.callv x a⟩::r)::k,ds,.run,dfd,ro⟩,cs,h⟩:=
 J6 L (Av hg) (Dj e ha hr) (hc Q _ cs fun v h' p=>F8 L (dst:=none) cvb (g v h' p))
theorem ui {d:Nat}{f:Nat}{a:List O}{va cp args:List AV}{R:AV→Prop}(hg:gdO gd l=some true)(e:evO l x=some (.fn (.func f) [] cp))(ha:Dl l a=some va)(hr:C7 va cp=some args)(hc:Ct P E F K f args (hp n t lh) fun v h'=>R v∧h'=hp n t lh)
  (g: ∀v,R v→Good P E Q ⟨⟨fn,nt,tms ((d,some v)::l),.ops r::k,ds,.run,dfd,ro⟩,cs,hp n t lh⟩):
  Good P E Q ⟨⟨fn,nt,tms l,.ops (⟨some d,gd,.callv x a⟩::r)::k,ds,.run,dfd,ro⟩,cs,hp n t lh⟩:=
 J6 L (Av hg) (Dj e ha hr) (hc Q _ cs fun v h' p=>F8 L cvb (p.2 ▸ g v p.1))
theorem nj {f:Nat}{a:List O}{va cp args:List AV}{R:AV→Prop}(hg:gdO gd l=some true)(e:evO l x=some (.fn (.func f) [] cp))(ha:Dl l a=some va)(hr:C7 va cp=some args)(hc:Ct P E F K f args (hp n t lh) fun v h'=>R v∧h'=hp n t lh)
  (g: ∀v,R v→Good P E Q ⟨⟨fn,nt,tms l,.ops r::k,ds,.run,dfd,ro⟩,cs,hp n t lh⟩):
  Good P E Q ⟨⟨fn,nt,tms l,.ops (⟨none,gd,.callv x a⟩::r)::k,ds,.run,dfd,ro⟩,cs,hp n t lh⟩:=
 J6 L (Av hg) (Dj e ha hr) (hc Q _ cs fun v h' p=>F8 L (dst:=none) cvb (p.2 ▸ g v p.1))
theorem Oq {f:Nat}{g:CFn}{args:List AV}{l0 l1:List (Nat×Option AV)}{td:List AItem}(hf:T.get F f=some g)(hm:T.get K f=none)(hn:Nat.ble args.length g.ntmps=true)(hl:Yf 0 args []=l0)(ha:adv 1000 [.code g.body] l0=(td,l1))
  (body: ∀(Q:Nat→AV→Prop) (x:AFr) (cs:List AFr),(∀v h',post v h'→GO P E Q (finish v cs h' x))→Good P E Q ⟨⟨f,g.ntmps,tms l1,td,[],.run,false,none⟩,x::cs,hp h.n h.t []⟩):Ct P E F K f args h post:=by
 intro Q x cs hG
 have h1:ofL 0 .leaf args=tms l0:=by rw [←hl];exact Ka args 0 []
 exact tj L hf hm hn h1 (B4 L 1000 ha (body Q x cs hG))
section
variable {f:Nat}{g:CFn}{l1:List (Nat×Option AV)}{td:List AItem}{a0 a1 a2 a3 a4 a5 a6 a7:AV}
theorem An (hf:T.get F f=some g)(hm:T.get K f=none)(hn:Nat.ble 1 g.ntmps=true)(ha:adv 1000 [.code g.body] [(0,some a0)]=(td,l1))
  (body: ∀(Q:Nat→AV→Prop) (x:AFr) (cs:List AFr),(∀v h',post v h'→GO P E Q (finish v cs h' x))→Good P E Q ⟨⟨f,g.ntmps,tms l1,td,[],.run,false,none⟩,x::cs,hp h.n h.t []⟩):Ct P E F K f [a0] h post:=Oq L hf hm hn rfl ha body
theorem Ae (hf:T.get F f=some g)(hm:T.get K f=none)(hn:Nat.ble 2 g.ntmps=true)(ha:adv 1000 [.code g.body] [(1,some a1),(0,some a0)]=(td,l1))
  (body: ∀(Q:Nat→AV→Prop) (x:AFr) (cs:List AFr),(∀v h',post v h'→GO P E Q (finish v cs h' x))→Good P E Q ⟨⟨f,g.ntmps,tms l1,td,[],.run,false,none⟩,x::cs,hp h.n h.t []⟩):Ct P E F K f [a0,a1] h post:=Oq L hf hm hn rfl ha body
theorem B0 (hf:T.get F f=some g)(hm:T.get K f=none)(hn:Nat.ble 3 g.ntmps=true)(ha:adv 1000 [.code g.body] [(2,some a2),(1,some a1),(0,some a0)]=(td,l1))
  (body: ∀(Q:Nat→AV→Prop) (x:AFr) (cs:List AFr),(∀v h',post v h'→GO P E Q (finish v cs h' x))→Good P E Q ⟨⟨f,g.ntmps,tms l1,td,[],.run,false,none⟩,x::cs,hp h.n h.t []⟩):Ct P E F K f [a0,a1,a2] h post:=Oq L hf hm hn rfl ha body
theorem uj (hf:T.get F f=some g)(hm:T.get K f=none)(hn:Nat.ble 4 g.ntmps=true)(ha:adv 1000 [.code g.body] [(3,some a3),(2,some a2),(1,some a1),(0,some a0)]=(td,l1))
  (body: ∀(Q:Nat→AV→Prop) (x:AFr) (cs:List AFr),(∀v h',post v h'→GO P E Q (finish v cs h' x))→Good P E Q ⟨⟨f,g.ntmps,tms l1,td,[],.run,false,none⟩,x::cs,hp h.n h.t []⟩):Ct P E F K f [a0,a1,a2,a3] h post:=Oq L hf hm hn rfl ha body
theorem Jg (hf:T.get F f=some g)(hm:T.get K f=none)(hn:Nat.ble 5 g.ntmps=true)(ha:adv 1000 [.code g.body] [(4,some a4),(3,some a3),(2,some a2),(1,some a1),(0,some a0)]=(td,l1))
  (body: ∀(Q:Nat→AV→Prop) (x:AFr) (cs:List AFr),(∀v h',post v h'→GO P E Q (finish v cs h' x))→Good P E Q ⟨⟨f,g.ntmps,tms l1,td,[],.run,false,none⟩,x::cs,hp h.n h.t []⟩):Ct P E F K f [a0,a1,a2,a3,a4] h post:=Oq L hf hm hn rfl ha body
end
theorem yo {g:CFn}{x:AFr}{vs:List AV}(hf:T.get F fn=some g)(hr:results (tms l) h g.results=some vs)(hG: ∀v h',post v h'→GO P E Q (finish v cs h' x))(p:post (single vs) h):
  Good P E Q ⟨⟨fn,nt,tms l,.code .ret::k,[],.run,false,none⟩,x::cs,h⟩:=wt L hf hr (hG _ _ p)
theorem zt {g:CFn}{x:AFr}{vs:List AV}(hf:T.get F fn=some g)(hr:results (tms l) h g.results=some vs)(hG: ∀v h',post v h'→GO P E Q (finish v cs h' x))(p:post (single vs) h):
  Good P E Q ⟨⟨fn,nt,tms l,[],[],.run,false,none⟩,x::cs,h⟩:=qh L hf hr (hG _ _ p)
omit L in
theorem Ct.mono {post':AV→H→Prop}{f:Nat}{args:List AV}(c:Ct P E F K f args h post')(m: ∀v h',post' v h'→post v h'):Ct P E F K f args h post:=fun Q x cs g=>c Q x cs fun v h' p=>g v h' (m v h' p)
theorem keep {nm:List Nat}{q:List (Nat×Option AV)}{todo:List AItem}{mode:AMode}(ho:Bv l nm=some q)(g:Good P E Q ⟨⟨fn,nt,tms q,todo,ds,mode,dfd,ro⟩,cs,h⟩):Good P E Q ⟨⟨fn,nt,tms l,todo,ds,mode,dfd,ro⟩,cs,h⟩:=by
 refine Ek L (tm':=tms q) (fun i v hv=>?_) g
 rw [←Bh ho]at hv
 clear ho g
 induction nm with
 |nil=>simp only [only,T.get_leaf]at hv;cases hv
 |cons a nm ih=>
  simp only [only]at hv
  cases ha:T.get (tms l) a with
  |none=>rw [ha]at hv;exact ih hv
  |some u=>
   rw [ha]at hv
   simp only [T.get_set]at hv
   by_cases hi:i=a
   ·subst hi;rw [if_pos rfl]at hv;rw [ha];exact hv
   ·rw [if_neg hi]at hv;exact ih hv
theorem Cr {α: Type}{bd:CC}(T:Nat→α→List (Nat×Option AV))(n:Nat)(R:Nat→α→H→Prop){i0:Nat}(s0:α){h0:H}
  (hT:TSub (tms (T i0 s0)) (tms l)) (hR:R i0 s0 h0) (hi:i0≤n)
  (body: ∀i s h,i<n→R i s h→(∀s' h' l',R (i+1) s' h'→TSub (tms (T (i+1) s')) (tms l')→Good P E Q ⟨⟨fn,nt,tms l',.inLoop bd::k,ds,.run,dfd,ro⟩,cs,h'⟩)→Good P E Q ⟨⟨fn,nt,tms (T i s),.code bd:: .inLoop bd::k,ds,.run,dfd,ro⟩,cs,hp h.n h.t []⟩)
  (done: ∀s h,R n s h→Good P E Q ⟨⟨fn,nt,tms (T n s),.code bd:: .inLoop bd::k,ds,.run,dfd,ro⟩,cs,hp h.n h.t []⟩):
  Good P E Q ⟨⟨fn,nt,tms l,.code (.loop bd)::k,ds,.run,dfd,ro⟩,cs,h0⟩:=by
 have main: ∀m i s h,i+m=n→R i s h→Good P E Q ⟨⟨fn,nt,tms (T i s),.code bd:: .inLoop bd::k,ds,.run,dfd,ro⟩,cs,hp h.n h.t []⟩:=by
  intro m
  induction m with
  |zero=>
       intro i s h e hR;have:i=n:=by omega
       subst this;exact done s h hR
  |succ m ih=>
   intro i s h e hR
   exact body i s h (by omega) hR fun s' h' l' hR' hT'=>C6 L (Ek L hT' (ih (i+1) s' h' (by omega) hR'))
 exact Ba L (Ek L hT (main (n - i0) i0 s0 h0 (by omega) hR))
section
variable {q:List (Nat×Option AV)}{nm:List Nat}{pre chk:List DI}{ps:List Ph}{di:Nat}
omit L in
theorem Ca (ho:Bv l nm=some q)(hg:gdO gd q=some true)(hx:XV op h q v h')
  (g:A2 P E Q pre chk ps k fn nt (tms ((di,some v)::l)) ds dfd ro cs h'):A2 P E Q (⟨⟨some di,gd,op⟩,nm⟩::pre) chk ps k fn nt (tms l) ds dfd ro cs h:=p_v ho (Av hg) hx.e g
omit L in
theorem Su (ho:Bv l nm=some q)(hg:gdO gd q=some false)
  (g:A2 P E Q pre chk ps k fn nt (tms ((di,some (.tup []))::l)) ds dfd ro cs h):A2 P E Q (⟨⟨some di,gd,op⟩,nm⟩::pre) chk ps k fn nt (tms l) ds dfd ro cs h:=p_s ho (Av hg) g
omit L in
theorem np (ho:Bv l nm=some q)(hg:gdO gd q=some true)(hx:XV op h q v h')(hl:look l di=some v)(ha:Jf 20 v=true)(g:checks chk (tms l) h=true):checks (⟨⟨some di,gd,op⟩,nm⟩::chk) (tms l) h=true:=k_v ho (Av hg) hx.e hl ha g
omit L in
theorem zu (ho:Bv l nm=some q)(hg:gdO gd q=some false)(hl:look l di=some (.tup []))(g:checks chk (tms l) h=true):checks (⟨⟨some di,gd,op⟩,nm⟩::chk) (tms l) h=true:=k_s ho (Av hg) hl g
theorem Pi (hc:checks chk (tms l) h=true)(ha:adv 1000 k l=(td',l'))(g:Good P E Q ⟨⟨fn,nt,tms l',td',ds,.run,dfd,ro⟩,cs,h⟩):A2 P E Q [] chk [] k fn nt (tms l) ds dfd ro cs h:=p_e hc (B4 L 1000 ha g)
theorem H4 (ho:Bv l nm=some q)(hg:gdO gd q=some true)(hx:XV op h q v h')
  (g:A2 P E Q pre chk ps k fn nt (tms ((di,some v)::l)) ds dfd ro cs h'):Good P E Q ⟨⟨fn,nt,tms l,.drawn ⟨⟨⟨some di,gd,op⟩,nm⟩,pre,chk⟩ ps::k,ds,.run,dfd,ro⟩,cs,h⟩:=e_v L ho (Av hg) hx.e g
theorem zw (ho:Bv l nm=some q)(hg:gdO gd q=some false)
  (g:A2 P E Q pre chk ps k fn nt (tms ((di,some (.tup []))::l)) ds dfd ro cs h):Good P E Q ⟨⟨fn,nt,tms l,.drawn ⟨⟨⟨some di,gd,op⟩,nm⟩,pre,chk⟩ ps::k,ds,.run,dfd,ro⟩,cs,h⟩:=e_s L ho (Av hg) g
theorem yp {f:Nat}{a:List O}{va cp args:List AV}(ho:Bv l nm=some q)(hg:gdO gd q=some true)(e:evO q x=some (.fn (.func f) [] cp))(ha:Dl q a=some va)(hr:C7 va cp=some args)(hc:Ct P E F K f args h post)
  (g: ∀v h',post v h'→A2 P E Q pre chk ps k fn nt (tms ((di,some v)::l)) ds dfd ro cs (hp h'.n h'.t [])):
  Good P E Q ⟨⟨fn,nt,tms l,.drawn ⟨⟨⟨some di,gd,.callv x a⟩,nm⟩,pre,chk⟩ ps::k,ds,.run,dfd,ro⟩,cs,h⟩:=
 e_c L ho (Av hg) (Dj e ha hr) (hc Q _ cs fun v h' p=>fd cvb (g v h' p))
theorem uk {f:Nat}{a:List O}{va cp args:List AV}(ho:Bv l nm=some q)(hg:gdO gd q=some true)(e:evO q x=some (.fn (.func f) [] cp))(ha:Dl q a=some va)(hr:C7 va cp=some args)(hc:Ct P E F K f args h post)
  (g: ∀v h',post v h'→A2 P E Q pre chk ps k fn nt (tms l) ds dfd ro cs (hp h'.n h'.t [])):
  Good P E Q ⟨⟨fn,nt,tms l,.drawn ⟨⟨⟨none,gd,.callv x a⟩,nm⟩,pre,chk⟩ ps::k,ds,.run,dfd,ro⟩,cs,h⟩:=
 e_c L ho (Av hg) (Dj e ha hr) (hc Q _ cs fun v h' p=>fd0 cvb (g v h' p))
theorem ul {f:Nat}{a:List O}{va cp args:List AV}{R:AV→Prop}(ho:Bv l nm=some q)(hg:gdO gd q=some true)(e:evO q x=some (.fn (.func f) [] cp))(ha:Dl q a=some va)(hr:C7 va cp=some args)(hc:Ct P E F K f args (hp n t lh) fun v h'=>R v∧h'=hp n t lh)
  (g: ∀v,R v→A2 P E Q pre chk ps k fn nt (tms ((di,some v)::l)) ds dfd ro cs (hp n t lh)):
  Good P E Q ⟨⟨fn,nt,tms l,.drawn ⟨⟨⟨some di,gd,.callv x a⟩,nm⟩,pre,chk⟩ ps::k,ds,.run,dfd,ro⟩,cs,hp n t lh⟩:=
 e_c L ho (Av hg) (Dj e ha hr) (hc Q _ cs fun v h' p=>fd cvb (p.2 ▸ g v p.1))
theorem nq {f:Nat}{a:List O}{va cp args:List AV}{R:AV→Prop}(ho:Bv l nm=some q)(hg:gdO gd q=some true)(e:evO q x=some (.fn (.func f) [] cp))(ha:Dl q a=some va)(hr:C7 va cp=some args)(hc:Ct P E F K f args (hp n t lh) fun v h'=>R v∧h'=hp n t lh)
  (g: ∀v,R v→A2 P E Q pre chk ps k fn nt (tms l) ds dfd ro cs (hp n t lh)):
  Good P E Q ⟨⟨fn,nt,tms l,.drawn ⟨⟨⟨none,gd,.callv x a⟩,nm⟩,pre,chk⟩ ps::k,ds,.run,dfd,ro⟩,cs,hp n t lh⟩:=
 e_c L ho (Av hg) (Dj e ha hr) (hc Q _ cs fun v h' p=>fd0 cvb (p.2 ▸ g v p.1))
theorem zx {m:Nat}(ho:Bv l nm=some q)(hg:gdO gd q=some true)(e:evO q x=some (.ptr b o))(e1:evO q y=some v)(hc:A6 v=some lv)(hm:Nat.beq lv.length m=true)(hp1:Ar lv=true)
  (hb:Bk (hp n t lh) b c) (hs:Oi lv c o=some c') (g:Good P E Q ⟨⟨fn,nt,tms l,k,ds,.run,dfd,ro⟩,cs,hp n t ((b,some (cl c'))::lh)⟩):
  Good P E Q ⟨⟨fn,nt,tms l,.drawn ⟨⟨⟨none,gd,.store m x y⟩,nm⟩,[],[]⟩ []::k,ds,.run,dfd,ro⟩,cs,hp n t lh⟩:=
 xh L ho (Av hg) e e1 hc hm hp1 hb.e hs fun h' hs'=>p_e Wi (Oh L hs' g)
theorem eg (ho:Bv l nm=some q)(hg:gdO gd q=some true)(e:evO q x=some (.ptr b o))(e1:evO q y=some v)(hc:A6 v=some [v])(hp1:Dq v=true)
  (hb:Bk (hp n t lh) b c) (ho':o<c.length) (g:Good P E Q ⟨⟨fn,nt,tms l,k,ds,.run,dfd,ro⟩,cs,hp n t ((b,some (cl (c.set o v)))::lh)⟩):
  Good P E Q ⟨⟨fn,nt,tms l,.drawn ⟨⟨⟨none,gd,.store 1 x y⟩,nm⟩,[],[]⟩ []::k,ds,.run,dfd,ro⟩,cs,hp n t lh⟩:=by
 obtain⟨h',q1,q2⟩:=J8 (n:=n) (t:=t) (lh:=lh) (lv:= [v]) (by simp only [Ar,hp1]) hb.e (by have: [v].length=1:=rfl;omega) (Ss c v o ho')
 have hx:exec (.store 1 x y) (hp n t lh) (tms q)= .val .unk h':=by simp only [exec,Ad,Ab e,Ab e1,hc,q1];rfl
 exact Wf L (dst:=none) (by rw [Bh ho];exact Av hg) (by rw [Bh ho];exact hx) (p_e (l:=l) Wi (Oh L q2 g))
theorem nr {a1 a2:Alt}(g1:A2 P E Q a1.pre a1.chk a1.l k fn nt (tms l) ds dfd ro cs h)(g2:A2 P E Q a2.pre a2.chk a2.l k fn nt (tms l) ds dfd ro cs h):Good P E Q ⟨⟨fn,nt,tms l,.code (.alts [a1,a2])::k,ds,.run,dfd,ro⟩,cs,h⟩:=
 te L fun a ha=>by
  cases ha with
  |head=>exact g1
  |tail _ h=>cases h with
   |head=>exact g2
   |tail _ h=>cases h
end
end
theorem Au {a b:Nat}(h:a≤b):Nat.ble a b=true:=by rw [Nat.ble_eq];exact h
theorem Fg {a b:Nat}(h:a≠b):Nat.beq a b=false:=by
 cases hq:Nat.beq a b with
 |false=>rfl
 |true=>exact absurd (Nat.eq_of_beq_eq_true hq) h
section
variable {l:List (Nat×Option AV)}{lh:List (Nat×Option Blk)}{n:Nat}{t:T Blk}{h:H}{x y z w:O}{b o len cap size a c m:Nat}{j k:IntKind}
theorem um {lo hi:Option O}{la lb:Option Nat}(e:evO l x=some (.slc b o len (Aa+size)))(h1:BndR l lo la)(h2:BndR l hi lb)(hc:lb.getD len=c)(ha:la.getD 0=a)(hac:a≤c)(hcl:c≤len):
  XV (.sliceS size x lo hi none) h l (.slc b (o+a*size) (c - a) (Aa+size)) h:=by
 refine⟨?_⟩
 have g3:Cp (tms l) none=some none:=rfl
 simp only [exec,Ad,h1.opt,h2.opt,g3,Ab e,En,Kw,Au (show Aa≤Aa+size by omega),Ly,ha,hc,Au hac,Au hcl]
 have q3:Nat.beq (Aa+size) (Nat.add Aa size)=true:=Nat.beq_refl _
 rw [q3];rfl
theorem yq (e:evO l x=some (.slc b o len (Aa+size)))(e2:evO l z=some (.int k ((c:Nat):Int)))(hcl:c≤len):XV (.sliceS size x none (some z) none) h l (.slc b o c (Aa+size)) h:=by
 have:=um (h:=h) (a:=0) (c:=c) e .no (.at e2) rfl rfl (Nat.zero_le _) hcl
 rwa [Nat.zero_mul,Nat.add_zero,Nat.sub_zero]at this
theorem yr (e:evO l x=some (.slc b o len (Aa+1)))(e1:evO l y=some (.int j ((a:Nat):Int)))(hal:a≤len):XV (.sliceS 1 x (some y) none none) h l (.slc b (o+a) (len - a) (Aa+1)) h:=by
 have:=um (h:=h) (a:=a) (c:=len) e (.at e1) .no rfl rfl hal (Nat.le_refl _)
 rwa [Nat.mul_one]at this
theorem yu (e:evO l x=some (.slc b o len (Aa+1)))(e1:evO l y=some (.int j ((a:Nat):Int)))(e2:evO l z=some (.int k ((c:Nat):Int)))(hac:a≤c)(hcl:c≤len):XV (.sliceS 1 x (some y) (some z) none) h l (.slc b (o+a) (c - a) (Aa+1)) h:=by
 have:=um (h:=h) (a:=a) (c:=c) e (.at e1) (.at e2) rfl rfl hac hcl
 rwa [Nat.mul_one]at this
theorem uo {lo hi:Option O}{la lb:Option Nat}(e:evO l x=some (.slc b o len cap))(hk:cap<Aa)(h1:BndR l lo la)(h2:BndR l hi lb)(hc:lb.getD len=c)(ha:la.getD 0=a)(hac:a≤c)(hcl:c≤cap)(hne:a<cap):
  XV (.sliceS size x lo hi none) h l (.slc b (o+a*size) (c - a) (cap - a)) h:=by
 refine⟨?_⟩
 have g3:Cp (tms l) none=some none:=rfl
 simp only [exec,Ad,h1.opt,h2.opt,g3,Ab e,En,Kw,Ff hk,Ly,ha,hc,Au hac,Au hcl,Au (show Nat.succ cap≤Aa from hk),Fg (show cap≠a by omega)]
 rfl
theorem yx (e:evO l x=some (.slc b o len cap))(e2:evO l z=some (.int k ((c:Nat):Int)))(hk:cap<Aa)(hcl:c≤cap)(hne:0<cap):XV (.sliceS size x none (some z) none) h l (.slc b o c cap) h:=by
 have:=uo (h:=h) (size:=size) (a:=0) (c:=c) e hk .no (.at e2) rfl rfl (Nat.zero_le _) hcl hne
 rwa [Nat.zero_mul,Nat.add_zero,Nat.sub_zero,Nat.sub_zero]at this
theorem yz (e:evO l x=some (.slc b o len cap))(e1:evO l y=some (.int j ((a:Nat):Int)))(hk:cap<Aa)(hal:a≤len)(hlc:len≤cap)(hne:a<cap):XV (.sliceS 1 x (some y) none none) h l (.slc b (o+a) (len - a) (cap - a)) h:=by
 have:=uo (h:=h) (size:=1) (a:=a) (c:=len) e hk (.at e1) .no rfl rfl hal hlc hne
 rwa [Nat.mul_one]at this
theorem y4 (e:evO l x=some (.slc b o len cap))(e1:evO l y=some (.int j ((a:Nat):Int)))(e2:evO l z=some (.int k ((c:Nat):Int)))(hk:cap<Aa)(hac:a≤c)(hcl:c≤cap)(hne:a<cap):XV (.sliceS 1 x (some y) (some z) none) h l (.slc b (o+a) (c - a) (cap - a)) h:=by
 have:=uo (h:=h) (size:=1) (a:=a) (c:=c) e hk (.at e1) (.at e2) rfl rfl hac hcl hne
 rwa [Nat.mul_one]at this
theorem y5 (e:evO l x=some (.slc b o len (Aa+size)))(e1:evO l z=some (.int j ((c:Nat):Int)))(e2:evO l w=some (.int k ((m:Nat):Int)))(hc:c≤m)(hm:m≤len)(hl:len<Aa):
  XV (.sliceS size x none (some z) (some w)) h l (.slc b o c m) h:=by
 refine⟨?_⟩
 have g1:Cp (tms l) none=some none:=rfl
 simp only [exec,Ad,g1,(BndR.at e1).opt,(BndR.at e2).opt,Ab e,En,Kw,Au (show Aa≤Aa+size by omega),Ly,Au hc,Au hm,Option.getD_none,Au (Nat.zero_le c),Au (show Nat.succ m≤Aa by omega),vo]
 have hz:Nat.mul 0 size=0:=Nat.zero_mul size
 have h3:Nat.sub c 0=c:=rfl
 have h4:Nat.sub m 0=m:=rfl
 simp only [hz,h3,h4]
 cases Nat.beq m 0 <;> rfl
theorem y6 (e:evO l x=some .nils)(e2:evO l z=some (.int k ((0:Nat):Int))):XV (.sliceS size x none (some z) none) h l .nils h:=by
 refine⟨?_⟩
 have g1:Cp (tms l) none=some none:=rfl
 simp only [exec,Ad,g1,(BndR.at e2).opt,Ab e]
 rfl
theorem up (e:evO l x=some .nils):XV (.capS x) h l (.int .i64 ((0:Nat):Int)) h:=⟨by simp only [exec,Ad,Ab e];rfl⟩
variable {sl bytes:Nat}
theorem zy (e:evO l x=some (.slc b o sl cap))(e1:evO l y=some .nils):XV (.append size bytes x y) h l (.slc b o sl cap) h:=⟨by simp only [exec,Ad,Ab e,Ab e1];rfl⟩
theorem y7 (e:evO l x=some .nils)(e1:evO l y=some .nils):XV (.append size bytes x y) h l .nils h:=⟨by simp only [exec,Ad,Ab e,Ab e1];rfl⟩
end
theorem lkp {p:Prop}(h:p:=by
 (repeat(first|assumption|exact d5|(apply zq;first|assumption|(apply Ah;assumption)|(apply As;assumption;(first|omega|(dsimp only;omega))))|apply xy|apply xz|(apply x6;first|omega|assumption)))
 (first | done | fail "no")) : p := h
theorem lkm {p:Prop}(h:p:=by
 (repeat(first|assumption|exact d6|(apply x7;first|assumption|(apply On;assumption)|(apply Rl;assumption;(first|omega|(dsimp only;omega))))|apply x8|(apply x9;first|omega|assumption)))
 (first | done | fail "no")) : p := h
theorem opv {p:Prop}(h:p:=by
 (first
  |exact⟨Ol rfl⟩
  |(apply Wj rfl;exact lkp;first|rfl|assumption)
  |(apply m8 rfl;exact lkp;rfl)
  |(apply m9 rfl;exact lkp;assumption;assumption)
  |exact Gm rfl rfl (by omega)|exact d7 rfl rfl (by omega)|exact H3 rfl rfl (by omega)|exact m6 rfl rfl (by omega)|exact Qd rfl rfl (by omega)
  |exact xr rfl rfl (by omega)
  |exact Oo rfl rfl (by omega)|exact tz rfl rfl (by omega)
  |exact yf rfl rfl (by omega)|exact qw rfl rfl (by omega)
  |exact yg rfl rfl (by omega)|exact yi rfl rfl (by omega)
  |exact t5 rfl rfl (by omega)|exact t6 rfl rfl (by omega)
  |exact t7 rfl rfl (by omega)|exact t8 rfl rfl (by omega)
  |exact t9 rfl rfl (by omega)|exact ua rfl rfl (by omega)
  |exact dg|exact St rfl rfl rfl|exact dh rfl|exact ya rfl rfl (by omega) (by omega)
  |exact xu rfl rfl (by omega) (by omega)|exact xw rfl rfl (by omega)
  |exact ng rfl (by omega)|exact nf rfl rfl (by simp only [pw];omega)
  |exact yj rfl rfl (by omega) (by omega)|exact uf rfl rfl rfl (by omega) (by simp only [pw];omega)|exact yk rfl rfl (by omega)
  |exact yq rfl rfl (by omega)|exact yr rfl rfl (by omega)|exact yu rfl rfl rfl (by omega) (by omega)|exact y5 rfl rfl rfl (by omega) (by omega) (by simp only [Aa];omega)
  |exact yx rfl rfl (by simp only [Aa];omega) (by omega) (by omega)|exact yz rfl rfl (by simp only [Aa];omega) (by omega) (by omega) (by omega)|exact y4 rfl rfl rfl (by simp only [Aa];omega) (by omega) (by omega) (by omega)
  |exact y6 rfl rfl|exact zy rfl rfl|exact y7 rfl rfl|exact up rfl
  |(apply yc rfl rfl rfl;exact lkm)|exact na|exact Uv rfl rfl|exact ug rfl rfl
  |exact dj rfl rfl (by omega)|exact dm rfl rfl (by omega)
  |exact qu rfl rfl (by omega)|exact qv rfl rfl (by omega)
  |exact dz rfl rfl (by omega)|exact d4 rfl rfl (by omega)
  |exact dp rfl rfl (by omega)|exact dq rfl rfl (by omega)
  |exact du rfl rfl (by omega)|exact dw rfl rfl (by omega)
  |exact dx rfl rfl (by omega)|exact dy rfl rfl (by omega)
  |exact ub rfl rfl (by omega) (by omega)|exact uc rfl rfl (by omega) (by omega)
  |exact ye rfl rfl|exact Rm rfl rfl|exact Ye rfl)):p:=h
theorem chk {p:Prop}(h:p:=by
 (repeat(first|exact Wi|(apply np rfl rfl opv rfl rfl)|(apply zu rfl rfl rfl)))):p:=h
structure Lft (p:Prop):Prop where
 g:p
theorem wk {B A:Prop}(g:B)(h:Lft B→A:=by
 intro g_
 (try refine B4 L 1000 rfl ?_)
 (repeat(first
  |(apply st1 L rfl;exact opv;rfl)
  |(apply stS L rfl rfl rfl rfl rfl rfl;exact lkp;rfl;rfl)
  |(apply yn L rfl rfl rfl rfl rfl;exact lkp;(first|assumption|omega);rfl)
  |(apply zr L rfl rfl rfl rfl rfl;exact lkp;(first|assumption|omega);rfl)
  |refine mf L ?_
  |(apply Ca rfl rfl;exact opv)
  |(apply Su rfl rfl)
  |(apply Pi L;exact chk;rfl)
  |(apply p_0;exact chk)
  |(apply H4 L rfl rfl;exact opv)
  |(apply zw L rfl rfl)
  |(apply zx L rfl rfl rfl rfl rfl rfl rfl;exact lkp;rfl;refine B4 L 1000 rfl ?_)
  |(apply eg L rfl rfl rfl rfl rfl rfl;exact lkp;(first|assumption|omega);refine B4 L 1000 rfl ?_)))
 exact g_.g):A:=h ⟨g⟩
theorem res {p:Prop}(h:p:=by
 (first
  |exact Cq rfl
  |exact Rj rfl (Bk.e lkp) rfl Mj
  |exact F1 rfl (Bk.e lkp) rfl Mj
  |exact Rj rfl (Bk.e lkp) rfl (Cq rfl)
  |exact F1 rfl (Bk.e lkp) rfl (Cq rfl))):p:=h
theorem ret {p:Prop}(hf:p){B A:Prop}(g:B)(h:p→Lft B→A:=by
 intro hf_ g_
 first
  |(apply yo L hf_ res G;exact g_.g)
  |(apply zt L hf_ res G;exact g_.g)):A:=h hf ⟨g⟩
theorem cal {p B A:Prop}(h:p→Lft B→A:=by
 intro hc_ g_
 first
  |(apply ui L rfl rfl rfl rfl;exact hc_;exact g_.g)
  |(apply nj L rfl rfl rfl rfl;exact hc_;exact g_.g)
  |(apply ul L rfl rfl rfl rfl rfl;exact hc_;exact g_.g)
  |(apply nq L rfl rfl rfl rfl rfl;exact hc_;exact g_.g)
  |(apply qy L rfl rfl rfl rfl;exact hc_;exact g_.g)
  |(apply uh L rfl rfl rfl rfl;exact hc_;exact g_.g)
  |(apply yp L rfl rfl rfl rfl rfl;exact hc_;exact g_.g)
  |(apply uk L rfl rfl rfl rfl rfl;exact hc_;exact g_.g)) (c:p) (g:B):A:=h c ⟨g⟩
theorem kps {p:Prop}(h:p:=by
 (repeat(first|assumption|exact Kp.refl _|refine Kp.nw ?_|refine Kp.st (by first|exact .inl (by omega)|exact .inr rfl|exact .inr (by assumption)|exact .inr (by(try dsimp only);omega)) ?_|(apply Kp.tr0;assumption)|(apply Kp.trS;assumption;(intro i_ h1_ h2_;(try dsimp only at h2_ ⊢);omega))))):p:=h
theorem tsb {p:Prop}(h:p:=by
 (repeat(first|exact cx|refine Yd rfl ?_))):p:=h
structure Gk (h:H)(b:Nat)(x:Blk):Prop where
 e:H.get h b=some x
 lt:b<h.n
section
variable {n:Nat}{t:T Blk}{lh:List (Nat×Option Blk)}{b i:Nat}{c:Blk}{x:Option Blk}{h h':H}{S:Nat→Prop}
theorem zz (k:Gk h b c):Gk (hp h.n h.t []) b c:=k
theorem uq:Gk (hp (n+1) t ((n,some c)::lh)) n c:=⟨F7 _ _ _ _ _,Nat.lt_succ_self n⟩
theorem z6 (k:Gk (hp n t lh) i c):Gk (hp (n+1) t ((n,x)::lh)) i c:=⟨(Eo _ _ _ _ (Nat.ne_of_lt k.lt)).trans k.e,Nat.lt_succ_of_lt k.lt⟩
theorem Du (h:b<n):Gk (hp n t ((b,some c)::lh)) b c:=⟨F7 _ _ _ _ _,h⟩
theorem z7 (hne:i≠b)(k:Gk (hp n t lh) i c):Gk (hp n t ((b,x)::lh)) i c:=⟨(Eo _ _ _ _ hne).trans k.e,k.lt⟩
theorem H5 (q:Kp S h h')(hs: ¬S i)(k:Gk h i c):Gk h' i c:=⟨q.get k.e k.lt hs,Nat.lt_of_lt_of_le k.lt q.n⟩
theorem Et (q:K0 h h')(k:Gk h i c):Gk h' i c:=H5 q (fun f=>f) k
end
theorem lkg {p:Prop}(h:p:=by
 (repeat(first|assumption|exact uq|(apply zz;first|assumption|(apply Et;assumption))|apply z6|(refine Du ?_;omega)|(apply z7;first|omega|assumption)))
 (first | done | fail "no")) : p := h
section
variable {l:List (Nat×Option AV)}{h:H}{x y:O}{q:Bool}
theorem ep (a:Int):iEq a a=true:=by rw [D4];exact decide_eq_true rfl
end
section
variable {P:Program}{E:Env}{F:T CFn}{K:T (List AV×AV)}{Q:Nat→AV→Prop}
theorem Wl {f:Nat}{g:CFn}{args:List AV}{v:AV}(hf:T.get F f=some g)(hm:memo K f args=some v)(h:H):Ct P E F K f args h fun u h'=>u=v∧h'=h:=by
 intro Q x cs hG
 have h1:=hG v h ⟨rfl,rfl⟩
 simp only [Br,hf,Rz,hm]
 exact h1
variable {fn nt:Nat}{l:List (Nat×Option AV)}{k:List AItem}{ds:List ADef}{dfd:Bool}{h:H}
variable (L:Lg P E F K)
include L
end
def XCt (P:Program)(E:Env)(f:Nat)(args:List AV)(h:H)(post:AV→H→Prop):Prop:=
 ∀(φ: Phi) (w0 w:World) (args':Array Value),VRs φ args args'.toList→HW E w0 φ h w→
  Calls P f args' w fun e w'=> ∃v v' φ' h',e= .returned v'∧post v h'∧Phi.le φ φ'∧VR φ' v v'∧HW E w0 φ' h' w'
section
variable {P:Program}{E:Env}{F:T CFn}{K:T (List AV×AV)}{Q:Nat→AV→Prop}
theorem ns {w0:World}{cs0:List Frame}{o:Out}{m:Machine}(h:Goes P E w0 cs0 o m)(g:GO P E Q o):
  ∃fn v h fr w φ v',Q fn v∧Steps P m (lone fr cs0 w)∧fr.fn=fn∧fr.leaving P w (.returned v')∧VR φ v v'∧HW E w0 φ h w:=by
 cases o with
 |one c=>
  obtain⟨m',s1,s2⟩:=h
  obtain⟨fn,v,hh,fr,w,φ,v',q,s,r⟩:=g w0 cs0 m' s2
  exact⟨fn,v,hh,fr,w,φ,v',q,s1.trans s,r⟩
 |many l=>
  obtain⟨c,hc,m',s1,s2⟩:=h
  obtain⟨fn,v,hh,fr,w,φ,v',q,s,r⟩:=g c hc w0 cs0 m' s2
  exact⟨fn,v,hh,fr,w,φ,v',q,s1.trans s,r⟩
 |done fn v hh=>
  obtain⟨fr,w,φ,v',s1,s2,s3,s4,s5⟩:=h
  exact⟨fn,v,hh,fr,w,φ,v',g,s1,s2,s3,s4,s5⟩
 |fail=>exact g.elim
variable (L:Lg P E F K)
variable {fn nt:Nat}{tm:T AV}{k:List AItem}{ds:List ADef}{dfd:Bool}{ro:Option Nat}{cs:List AFr}{h:H}
include L
theorem y8 {dst:Option Nat}{gd:Option (Nat×Bool)}{op:COp}{r:List CI}{f:Nat}{g0:CFn}{args:List AV}{post:AV→H→Prop}(hw:wanted tm gd=some true)(hx:exec op h tm= .call (.func f) args)(hf:T.get F f=some g0)(c:XCt P E f args h post)
  (g: ∀v h',post v h'→GO P E Q (finish v cs h' ⟨fn,nt,tm,.ops (⟨dst,gd,op⟩::r)::k,ds,.run,dfd,ro⟩)):Good P E Q ⟨⟨fn,nt,tm,.ops (⟨dst,gd,op⟩::r)::k,ds,.run,dfd,ro⟩,cs,h⟩:=by
 intro w0 cs0 m hA
 obtain⟨φ,fr,cs1,w,rfl,hfr,hfs,hr⟩:=hA.ex
 have hfr0:=hfr
 obtain⟨f1,tmps,todo',defers,mode,kind,ro'⟩:=fr
 obtain⟨h1,h2,h3,h4,h5,h6,h7⟩:=hfr
 simp only at h1 h2 h3 h4 h5 h6 h7 hfs hr
 cases h5
 cases h6 with
 |plain ht hi=>
  cases hi with
  | @cons _ i' _ k' hi hk=>
   obtain⟨ops,td,e1,rfl⟩:=hi.ops_inv
   cases td with
   |nil=>cases e1
   |cons j rest=>
    rw [List.map_cons,List.cons.injEq]at e1
    obtain⟨e1,rfl⟩:=e1
    rcases Hz E nt ops j with hbad|⟨o,ho,q1,q2,q3,q4⟩
    ·rw [hbad]at e1;cases e1;cases hx
    ·rw [←e1]at q1 q3 q4
     simp only at q1 q3 q4
     subst q1
     have hwc:=Dt (a:=⟨tmps,defers⟩) ht q3 hw
     rw [q4]at hx
     have hnd: ∀c,o.op≠ .defer c:=Ej hx (by intro _ _ e;cases e) (by intro e;cases e)
     have hc:=N3 (P:=P) (w:=w) hr.hr (TR.rho (a:=⟨tmps,defers⟩) ht) hx
     have hm:=Lb (P:=P) (b:=⟨f1,tmps,.inRegion ops (j::rest)::k',defers,.run,kind,ro'⟩) (a:=⟨tmps,defers⟩) (w:=w) (cs:=cs1++cs0) (k:=k') (rest:=rest) ho hwc hnd
     obtain⟨args',a1,a2⟩:=hc
     obtain⟨fn2,cc,p1,p2,p3,p4⟩:=L.hT.fn f g0 hf
     have hen:=hm.1 _ _ _ (a2 fn2 p1 p2 (by rw [p3];rfl))
     obtain⟨e,w',fr',⟨v,v',φ',h',rfl,k1,k2,k3,k4⟩,k5,k6,k7⟩:=c φ w0 w args' a1 hr (⟨f1,tmps,.inRegion ops (j::rest)::k',defers,.run,kind,ro'⟩::(cs1++cs0))
     have hfin:=Jc (P:=P) (m:=lone ⟨f1,tmps,.inRegion ops (j::rest)::k',defers,.run,kind,ro'⟩ (cs1++cs0) w) k4 (hfr0.mono k2) (hfs.mono k2) k3 L.hE (.head hen (Steps.trans k5 (.one (step_leave_returned k7))))
     exact ns hfin (g v h' k1)
end
section
variable {P:Program}{E:Env}{F:T CFn}{K:T (List AV×AV)}{Q:Nat→AV→Prop}
variable {fn nt:Nat}{l:List (Nat×Option AV)}{k:List AItem}{ds:List ADef}{dfd:Bool}{ro:Option Nat}{cs:List AFr}{h:H}{gd:Option (Nat×Bool)}{r:List CI}{x:O}{post:AV→H→Prop}
variable (L:Lg P E F K)
include L
theorem Wm {d:Nat}{f:Nat}{g0:CFn}{a:List O}{va cp args:List AV}(hg:gdO gd l=some true)(e:evO l x=some (.fn (.func f) [] cp))(ha:Dl l a=some va)(hr:C7 va cp=some args)(hf:T.get F f=some g0)(hc:XCt P E f args h post)
  (g: ∀v h',post v h'→Good P E Q ⟨⟨fn,nt,tms ((d,some v)::l),.ops r::k,ds,.run,dfd,ro⟩,cs,hp h'.n h'.t []⟩):
  Good P E Q ⟨⟨fn,nt,tms l,.ops (⟨some d,gd,.callv x a⟩::r)::k,ds,.run,dfd,ro⟩,cs,h⟩:=
 y8 L (Av hg) (Dj e ha hr) hf hc fun v h' p=>F8 L cvb (g v h' p)
end
theorem y9 {n b ck:Nat}{t:T Blk}{lh:List (Nat×Option Blk)}{es:List AEnt}(h:b<n):Mk (hp n t ((b,some (.map es ck))::lh)) b es ck:=⟨F7 _ _ _ _ _,h⟩
theorem lkq {p:Prop}(h:p:=by
 (repeat(first|assumption|exact d6|(apply x7;first|assumption|(apply On;assumption)|(apply Rl;assumption;(first|omega|(dsimp only;omega))))|apply x8|(refine y9 ?_;omega)|(apply x9;first|omega|assumption)))
 (first | done | fail "no")) : p := h
structure KE {α: Type}[DecidableEq α](sh:Sh)(enc:α→AV):Prop where
 eq: ∀a b,eqv 20 sh (enc a) (enc b)=some (decide (a=b))
 ok: ∀a,I3 sh (enc a)=true
 keq: ∀a,Ep (enc a) (enc a)=true
theorem KE.int (k:IntKind):KE .pint (fun a:Int=>AV.int k a):=
 ⟨fun a b=>by show(match kEq k k with|true=>some (iEq a b)|false=>none)=_;rw [A9,D4],fun _=>rfl,fun a=>by show(match kEq k k with|true=>iEq a a|false=>false)=true;rw [A9];exact ep a⟩
section
variable {α: Type}[DecidableEq α]{sh:Sh}{enc:α→AV}
def mE (enc:α→AV)(x:α×AV×Nat):AEnt:=⟨enc x.1,x.2.1,x.2.2⟩
def Bq (M:List (α×AV×Nat))(k:α):Option AV:=(M.find? fun x=>decide (k=x.1)).map (·.2.1)
def Fh (M:List (α×AV×Nat))(k:α)(v:AV):List (α×AV×Nat):=M.map fun x=>if k=x.1 then(k,v,x.2.2)else x
def G6 (M:List (α×AV×Nat))(k:α):Bool:=M.any fun x=>decide (k=x.1)
def Dp (M:List (α×AV×Nat))(ck:Nat)(k:α)(v:AV):List (α×AV×Nat):=if G6 M k then Fh M k v else M++ [(k,v,ck)]
def mCk (M:List (α×AV×Nat))(ck:Nat)(k:α):Nat:=if G6 M k then ck else ck+1
def G7 (M:List (α×AV×Nat))(k:α):List (α×AV×Nat):=M.filter fun x=>decide (k≠x.1)
structure MOk (M:List (α×AV×Nat))(ck:Nat):Prop where
 keys:(M.map (·.1)).Nodup
 borns:(M.map (·.2.2)).Nodup
 lt: ∀x∈M,x.2.2<ck
theorem MOk.nil:MOk ([]:List (α×AV×Nat)) 0:=⟨List.nodup_nil,List.nodup_nil,fun x hx=>by cases hx⟩
theorem Wn (e:KE sh enc)(k:α): ∀M:List (α×AV×Nat),E9 (eqv 20 sh) (enc k) (M.map (mE enc))=some ((M.find? fun x=>decide (k=x.1)).map (mE enc))
 | []=>rfl
 |x::r=>by
  simp only [List.map_cons,E9,List.find?_cons]
  show(match eqv 20 sh (enc k) (enc x.1)with|some true=>_|some false=>_|none=>_)=_
  rw [e.eq]
  by_cases h:k=x.1
  ·rw [decide_eq_true h];rfl
  ·rw [decide_eq_false h];exact Wn e k r
theorem Kb (e:KE sh enc)(k:α)(M:List (α×AV×Nat)):Hi sh (enc k) (M.map (mE enc))=some ((M.find? fun x=>decide (k=x.1)).map (mE enc)):=by
 unfold Hi;rw [e.ok];exact Wn e k M
theorem Cy (M:List (α×AV×Nat))(k:α):G6 M k=(M.find? fun x=>decide (k=x.1)).isSome:=by
 unfold G6
 induction M with
 |nil=>rfl
 |cons x r ih=>
  rw [List.any_cons,List.find?_cons]
  by_cases h:k=x.1
  ·rw [decide_eq_true h];rfl
  ·rw [decide_eq_false h,ih];rfl
theorem mHas_mem {M:List (α×AV×Nat)}{k:α}:G6 M k=true↔k∈M.map (·.1):=by
 unfold G6
 simp only [List.any_eq_true,decide_eq_true_eq,List.mem_map]
 constructor
 ·rintro⟨x,h1,h2⟩;exact⟨x,h1,h2.symm⟩
 ·rintro⟨x,h1,h2⟩;exact⟨x,h1,h2.symm⟩
theorem Uw (e:KE sh enc)(k:α)(v:AV): ∀M:List (α×AV×Nat),(M.map (·.1)).Nodup→G6 M k=true→Qz (eqv 20 sh) (enc k) v (M.map (mE enc))=some ((Fh M k v).map (mE enc))
 | [],_,h=>by cases h
 |x::r,hn,h=>by
  rw [List.map_cons,List.nodup_cons]at hn
  simp only [List.map_cons,Qz]
  show(match eqv 20 sh (enc k) (enc x.1)with|some true=>_|some false=>_|none=>_)=_
  rw [e.eq]
  by_cases hk:k=x.1
  ·rw [decide_eq_true hk]
   have h1:Fh r k v=r:=by
    unfold Fh
    conv=>rhs;rw [←List.map_id r]
    refine List.map_congr_left fun y hy=>?_
    have:k≠y.1:=fun q=>hn.1 (by rw [←hk,q];exact List.mem_map_of_mem hy)
    rw [if_neg this];rfl
   show(match Ep (enc k) (enc x.1)with|true=>_|false=>_)=_
   rw [←hk,e.keq]
   simp only [Fh,List.map_cons,if_pos hk]
   have h2:List.map (fun x=>if k=x.1 then(k,v,x.2.2)else x) r=r:=h1
   rw [h2];rfl
  ·rw [decide_eq_false hk]
   have h2:G6 r k=true:=by
    unfold G6 at h ⊢
    rw [List.any_cons,decide_eq_false hk]at h
    exact h
   simp only [Uw e k v r hn.2 h2]
   simp only [Fh,List.map_cons,if_neg hk]
theorem eu (e:KE sh enc)(k:α): ∀M:List (α×AV×Nat),(M.map (·.1)).Nodup→Tz (eqv 20 sh) (enc k) (M.map (mE enc))=some ((G7 M k).map (mE enc))
 | [],_=>rfl
 |x::r,hn=>by
  rw [List.map_cons,List.nodup_cons]at hn
  simp only [List.map_cons,Tz]
  show(match eqv 20 sh (enc k) (enc x.1)with|some true=>_|some false=>_|none=>_)=_
  rw [e.eq]
  by_cases hk:k=x.1
  ·rw [decide_eq_true hk]
   have h1:G7 r k=r:=by
    unfold G7
    rw [List.filter_eq_self]
    intro y hy
    have:k≠y.1:=fun q=>hn.1 (by rw [←hk,q];exact List.mem_map_of_mem hy)
    exact decide_eq_true this
   simp only [G7,List.filter_cons,hk,ne_eq,not_true_eq_false,decide_false,Bool.false_eq_true,if_false]
   rw [hk]at h1
   unfold G7 at h1
   rw [h1]
  ·rw [decide_eq_false hk]
   simp only [eu e k r hn.2]
   simp only [G7,List.filter_cons,decide_eq_true hk,ne_eq,if_true,List.map_cons]
theorem MOk.put {M:List (α×AV×Nat)}{ck:Nat}(q:MOk M ck)(k:α)(v:AV):MOk (Fh M k v) ck:=by
 have h1:(Fh M k v).map (·.1)=M.map (·.1):=by
  unfold Fh;rw [List.map_map]
  refine List.map_congr_left fun x _=>?_
  show(if k=x.1 then(k,v,x.2.2)else x).1=x.1
  by_cases h:k=x.1
  ·rw [if_pos h];exact h
  ·rw [if_neg h]
 have h2:(Fh M k v).map (·.2.2)=M.map (·.2.2):=by
  unfold Fh;rw [List.map_map]
  refine List.map_congr_left fun x _=>?_
  show(if k=x.1 then(k,v,x.2.2)else x).2.2=x.2.2
  by_cases h:k=x.1
  ·rw [if_pos h]
  ·rw [if_neg h]
 refine⟨by rw [h1];exact q.keys,by rw [h2];exact q.borns,fun x hx=>?_⟩
 have h3:x.2.2∈(Fh M k v).map (·.2.2):=List.mem_map_of_mem hx
 rw [h2]at h3
 obtain⟨y,h4,h5⟩:=List.mem_map.1 h3
 rw [←h5];exact q.lt y h4
theorem MOk.set {M:List (α×AV×Nat)}{ck:Nat}(q:MOk M ck)(k:α)(v:AV):MOk (Dp M ck k v) (mCk M ck k):=by
 unfold Dp mCk
 by_cases h:G6 M k=true
 ·rw [if_pos h,if_pos h];exact q.put k v
 ·rw [if_neg h,if_neg h]
  refine⟨?_,?_,fun x hx=>?_⟩
  ·rw [List.map_append,List.nodup_append]
   refine⟨q.keys,by simp,fun a ha b hb e=>h (mHas_mem.2 ?_)⟩
   simp only [List.map_cons,List.map_nil,List.mem_singleton]at hb
   rw [←hb,←e];exact ha
  ·rw [List.map_append,List.nodup_append]
   refine⟨q.borns,by simp,fun a ha b hb e=>?_⟩
   simp only [List.map_cons,List.map_nil,List.mem_singleton]at hb
   obtain⟨y,h1,h2⟩:=List.mem_map.1 ha
   have:=q.lt y h1
   omega
  ·rcases List.mem_append.1 hx with hx|hx
   ·have:=q.lt x hx;omega
   ·rw [List.mem_singleton]at hx;subst hx;exact Nat.lt_succ_self ck
theorem MOk.del {M:List (α×AV×Nat)}{ck:Nat}(q:MOk M ck)(k:α):MOk (G7 M k) ck:=
 ⟨q.keys.sublist (List.filter_sublist.map _),q.borns.sublist (List.filter_sublist.map _),fun x hx=>q.lt x (List.mem_filter.1 hx).1⟩
theorem ez (M:List (α×AV×Nat))(k k':α)(v:AV):Bq (Fh M k v) k'=if k'=k then(if G6 M k then some v else none)else Bq M k':=by
 induction M with
 |nil=>simp [Bq,Fh,G6]
 |cons x r ih=>
  unfold Bq Fh G6 at ih ⊢
  simp only [List.map_cons,List.find?_cons,List.any_cons]
  by_cases h:k=x.1
  ·rw [if_pos h]
   by_cases h2:k'=k
   ·subst h2;simp [h]
   ·have h3:k'≠x.1:=fun q=>h2 (q.trans h.symm)
    simp only [decide_eq_false h2,decide_eq_false h3,if_neg h2]at ih ⊢
    exact ih
  ·rw [if_neg h]
   by_cases h2:k'=x.1
   ·have h3:k'≠k:=fun q=>h (q.symm.trans h2)
    rw [if_neg h3];simp only [decide_eq_true h2]
   ·simp only [decide_eq_false h2,decide_eq_false h,Bool.false_or]at ih ⊢
    exact ih
theorem fc (M:List (α×AV×Nat))(k k':α)(v:AV)(ck:Nat):Bq (M++ [(k,v,ck)]) k'=match Bq M k' with
 |some u=>some u
 |none=>if k'=k then some v else none:=by
 unfold Bq
 rw [List.find?_append]
 cases M.find? fun x=>decide (k'=x.1)with
 |some x=>rfl
 |none=>
  simp only [Option.none_or,List.find?_cons,List.find?_nil,Option.map_none]
  by_cases h:k'=k
  ·simp [h]
  ·simp [h]
theorem mGet_none {M:List (α×AV×Nat)}{k:α}:Bq M k=none↔G6 M k=false:=by
 unfold Bq;rw [Cy];cases M.find? fun x=>decide (k=x.1) <;> simp
theorem Cw (M:List (α×AV×Nat))(ck:Nat)(k k':α)(v:AV):Bq (Dp M ck k v) k'=if k'=k then some v else Bq M k':=by
 unfold Dp
 by_cases h:G6 M k=true
 ·rw [if_pos h,ez]
  simp [h]
 ·rw [if_neg h,fc]
  have h1:Bq M k=none:=mGet_none.2 (by simpa using h)
  by_cases h2:k'=k
  ·subst h2;rw [h1]
  ·rw [if_neg h2];cases Bq M k' <;> simp [h2]
theorem H6 (M:List (α×AV×Nat))(k k':α):Bq (G7 M k) k'=if k'=k then none else Bq M k':=by
 induction M with
 |nil=>simp [Bq,G7]
 |cons x r ih=>
  unfold Bq G7 at ih ⊢
  rw [List.filter_cons]
  by_cases h:k=x.1
  ·simp only [h,ne_eq,not_true_eq_false,decide_false,Bool.false_eq_true,if_false,List.find?_cons]
   rw [h]at ih
   simp only [ne_eq]at ih
   rw [ih]
   by_cases h2:k'=x.1
   ·rw [if_pos h2,if_pos h2]
   ·rw [if_neg h2,if_neg h2,decide_eq_false h2]
  ·simp only [ne_eq,h,not_false_eq_true,decide_true,if_true,List.find?_cons]
   by_cases h2:k'=x.1
   ·rw [decide_eq_true h2]
    have h3:k'≠k:=fun q=>h (q.symm.trans h2)
    rw [if_neg h3]
   ·rw [decide_eq_false h2]
    simp only [ne_eq]at ih
    exact ih
variable {l:List (Nat×Option AV)}{h:H}{x y z:O}{r ck n:Nat}{t:T Blk}{lh:List (Nat×Option Blk)}{zero:AV}{M:List (α×AV×Nat)}{k:α}
def z8 (zero:AV):Option AV→AV
 |some v=> .tup [v,.bool true]
 |none=> .tup [zero,.bool false]
theorem Dw (e:KE sh enc)(hx:evO l x=some (.map r))(hy:evO l y=some (enc k))(hb:Mk h r (M.map (mE enc)) ck):XV (.lookup sh zero x y true) h l (z8 zero (Bq M k)) h:=by
 refine⟨?_⟩
 simp only [exec,Ad,Ab hx,Ab hy,hb.e,Kb e]
 unfold Bq
 cases M.find? fun x=>decide (k=x.1)with
 |none=>rfl
 |some x=>rfl
theorem Dx (e:KE sh enc)(hx:evO l x=some (.map r))(hy:evO l y=some (enc k))(hb:Mk h r (M.map (mE enc)) ck):XV (.lookup sh zero x y false) h l ((Bq M k).getD zero) h:=by
 refine⟨?_⟩
 simp only [exec,Ad,Ab hx,Ab hy,hb.e,Kb e]
 unfold Bq
 cases M.find? fun x=>decide (k=x.1)with
 |none=>rfl
 |some x=>rfl
theorem G8 {v:AV}(e:KE sh enc)(q:MOk M ck)(hx:evO l x=some (.map r))(hy:evO l y=some (enc k))(hz:evO l z=some v)(hb:Mk (hp n t lh) r (M.map (mE enc)) ck):
  XV (.mupd sh x y z) (hp n t lh) l .unk (hp n t ((r,some (.map ((Dp M ck k v).map (mE enc)) (mCk M ck k)))::lh)):=by
 refine⟨?_⟩
 simp only [exec,Ad,Ab hx,Ab hy,Ab hz,hb.e,Kb e]
 unfold Dp mCk
 by_cases h:G6 M k=true
 ·rw [if_pos h,if_pos h]
  have h1:=h
  rw [Cy]at h1
  obtain⟨u,hu⟩:=Option.isSome_iff_exists.1 h1
  simp only [hu,Option.map_some,Uw e k v M q.keys h]
  rfl
 ·rw [if_neg h,if_neg h]
  have h1:(M.find? fun x=>decide (k=x.1))=none:=by
   rw [Cy]at h;exact Option.not_isSome_iff_eq_none.1 h
  simp only [h1,Option.map_none]
  rw [List.map_append]
  rfl
theorem F9 (e:KE sh enc)(q:MOk M ck)(hx:evO l x=some (.map r))(hy:evO l y=some (enc k))(hb:Mk (hp n t lh) r (M.map (mE enc)) ck):
  XV (.delete sh x y) (hp n t lh) l (.tup []) (hp n t ((r,some (.map ((G7 M k).map (mE enc)) ck))::lh)):=by
 refine⟨?_⟩
 simp only [exec,Ad,Ab hx,Ab hy,hb.e,e.ok,eu e k M q.keys]
 rfl
end
end Go.Ev
