/- Part of the proof. -/
import Derived.Test.YtclfgfpebplncaaGreatH01
set_option linter.unusedVariables false
set_option linter.unusedSimpArgs false
set_option linter.unusedSectionVars false
namespace Go.Ev
variable {E:Env}{a:List O}{args c cp va:List AV}{b cap d f fn i len n nt o:Nat}{dfd:Bool}{g:CFn}{h h' m:H}{k:IntKind}{l:List (Nat×Option AV)}{lh:List (Nat×Option Blk)}{op:COp}{t:T Blk}{u v:AV}{y:O}
def tv (op:COp)(l:List (Nat×Option AV)):Option AV:=
 match op with
 | .mv x=>evO l x
 | .pick c a b=>(match evO l c with
  |some (.bool true)=>evO l a
  |some (.bool false)=>evO l b
  |_=>none)
 | .nilc x=>(match evO l x with
  |some (.ptr b o)=>some (.ptr b o)
  |_=>none)
 | .faddr x off=>(match evO l x with
  |some (.ptr b o)=>some (.ptr b (o+off))
  |_=>none)
 | .lenS x=>(match evO l x with
  |some (.slc _ _ n _)=>some (.int .i64 (n:Int))
  |some .nils=>some (.int .i64 ((0:Nat):Int))
  |some (.opq u)=>(match u with
   | .slice _ n _=>some (.int .i64 (n:Int))
   |_=>none)
  |_=>none)
 | .extract x i=>(match evO l x with
  |some (.tup vs)=>vs[i]?
  |_=>none)
 | .field1 x off=>(match evO l x with
  |some (.agg vs)=>vs[off]?
  |_=>none)
 | .fieldN x off k=>(match evO l x with
  |some (.agg vs)=>(match dtO vs off k with
   |some lv=>some (.agg lv)
   |none=>none)
  |_=>none)
 | .build z ps=>(match Jn l ps z with
  |some lv=>some (.agg lv)
  |none=>none)
 | .mkfn f a c=>(match Fo l a with
  |some va=>(match Fo l c with
   |some vc=>some (.fn f va vc)
   |none=>none)
  |none=>none)
 | .mkif k x=>(match evO l x with
  |some v=>some (.ifc k v)
  |none=>none)
 | .un o x=>(match o with
  | .not=>(match evO l x with
   |some (.bool t)=>some (.bool (!t))
   |_=>none)
  |_=>none)
 | .bin o x y _ sh=>(match o with
  | .eql=>(match sh with
   | .ptr=>(match evO l x with
    |some (.ptr _ _)=>(match evO l y with|some .nilp=>some (.bool false)|_=>none)
    |some .nilp=>(match evO l y with|some .nilp=>some (.bool true)|_=>none)
    |_=>none)
   | .nilS=>(match evO l x with
    |some (.slc _ _ _ _)=>(match evO l y with|some .nils=>some (.bool false)|_=>none)
    |some .nils=>(match evO l y with|some .nils=>some (.bool true)|_=>none)
    |_=>none)
   |_=>none)
  | .neq=>(match sh with
   | .ptr=>(match evO l x with
    |some (.ptr _ _)=>(match evO l y with|some .nilp=>some (.bool true)|_=>none)
    |some .nilp=>(match evO l y with|some .nilp=>some (.bool false)|_=>none)
    |_=>none)
   | .nilS=>(match evO l x with
    |some (.slc _ _ _ _)=>(match evO l y with|some .nils=>some (.bool true)|_=>none)
    |some .nils=>(match evO l y with|some .nils=>some (.bool false)|_=>none)
    |_=>none)
   |_=>none)
  |_=>none)
 |_=>none
theorem Dy (e:tv op l=some v):exec op h (tms l)= .val v h:=by
 cases op <;> try simp only [tv]at e
 case mv x=>exact Aox e
 case pick c a b=>
  cases hc:evO l c with
  |none=>rw [hc]at e;cases e
  |some u=>
   rw [hc]at e
   cases u <;> (try simp only at e) <;> first|(cases e;done)|skip
   rename_i t
   cases t <;> (try simp only at e);·exact zz hc e
   ·exact zy hc e
 case nilc x=>
  cases hc:evO l x with
  |none=>rw [hc]at e;cases e
  |some u=>
   rw [hc]at e
   cases u <;> (try simp only at e) <;> first|(cases e;done)|skip
   cases e;exact Aek (Ab hc)
 case faddr x off=>
  cases hc:evO l x with
  |none=>rw [hc]at e;cases e
  |some u=>
   rw [hc]at e
   cases u <;> (try simp only at e) <;> first|(cases e;done)|skip
   cases e;exact zp (Ab hc) rfl
 case lenS x=>
  cases hc:evO l x with
  |none=>rw [hc]at e;cases e
  |some u=>
   rw [hc]at e
   cases u <;> (try simp only at e) <;> first|(cases e;done)|skip
   ·cases e;exact zt (Ab hc)
   ·cases e;exact Ael (Ab hc)
   ·rename_i q
    cases q <;> (try simp only at e) <;> first|(cases e;done)|skip
    cases e;simp only [exec,Ah,Ab hc];rfl
 case extract x i=>
  cases hc:evO l x with
  |none=>rw [hc]at e;cases e
  |some u=>
   rw [hc]at e
   cases u <;> (try simp only at e) <;> first|(cases e;done)|skip
   exact ib (Ab hc) e
 case field1 x off=>
  cases hc:evO l x with
  |none=>rw [hc]at e;cases e
  |some u=>
   rw [hc]at e
   cases u <;> (try simp only at e) <;> first|(cases e;done)|skip
   exact qx (Ab hc) e
 case fieldN x off k=>
  cases hc:evO l x with
  |none=>rw [hc]at e;cases e
  |some u=>
   rw [hc]at e
   cases u <;> (try simp only at e) <;> first|(cases e;done)|skip
   rename_i vs
   cases hd:dtO vs off k with
   |none=>rw [hd]at e;cases e
   |some lv=>rw [hd]at e;cases e;exact rp hc hd
 case build z ps=>
  cases hc:Jn l ps z with
  |none=>rw [hc]at e;cases e
  |some lv=>rw [hc]at e;cases e;exact z6 hc
 case mkfn f a c=>
  cases ha:Fo l a with
  |none=>rw [ha]at e;cases e
  |some va=>
   cases hc:Fo l c with
   |none=>rw [ha,hc]at e;cases e
   |some vc=>rw [ha,hc]at e;cases e;exact Aet ha hc
 case mkif k x=>
  cases hc:evO l x with
  |none=>rw [hc]at e;cases e
  |some u=>rw [hc]at e;cases e;exact Aeu hc
 case un o x=>
  cases o <;> (try simp only at e) <;> first|(cases e;done)|skip
  cases hc:evO l x with
  |none=>rw [hc]at e;cases e
  |some u=>
   rw [hc]at e
   cases u <;> (try simp only at e) <;> first|(cases e;done)|skip
   cases e;exact Aid (Ab hc)
 case bin o x y q sh=>
  cases o <;> (try simp only at e) <;> first|(cases e;done)|skip
  all_goals
   cases sh <;> (try simp only at e) <;> first|(cases e;done)|skip
   all_goals
    cases hc:evO l x with
    |none=>rw [hc]at e;cases e
    |some u=>
     rw [hc]at e
     cases u <;> (try simp only at e) <;> first|(cases e;done)|skip
     all_goals
      cases hd:evO l y with
      |none=>rw [hd]at e;cases e
      |some w=>
       rw [hd]at e
       cases w <;> (try simp only at e) <;> first|(cases e;done)|skip
       cases e;simp only [exec,Ah,Ab hc,Ab hd];rfl
 all_goals first|(cases e;done)|(unfold tv at e;cases e;done)
def gdO (g:Option (Nat×Bool))(l:List (Nat×Option AV)):Option Bool:=
 match g with
 |none=>some true
 |some p=>(match look l p.1 with
  |some (.bool c)=>some (bEq c p.2)
  |some (.tup [])=>some false
  |_=>none)
theorem Aw {g:Option (Nat×Bool)}{b:Bool}(e:gdO g l=some b):wanted (tms l) g=some b:=by
 cases g with
 |none=>exact e
 |some p=>simp only [gdO]at e;simp only [wanted,G8];exact e
def ins (d:Option Nat)(v:AV)(l:List (Nat×Option AV)):List (Nat×Option AV):=
 match d with
 |none=>l
 |some d=>(d,some v)::l
theorem z9 (d:Option Nat)(v:AV)(l:List (Nat×Option AV)):put (tms l) d v=tms (ins d v l):=by cases d <;> rfl
def adv:Nat→List AItem→List (Nat×Option AV)→List AItem×List (Nat×Option AV)
 |0,td,l=>(td,l)
 |n+1,td,l=>match td with
  | []=>([],l)
  |i::k=>match i with
   | .inBlock _=>adv n k l
   | .inScope _=>adv n k l
   | .ops r=>(match r with
    | []=>adv n k l
    |c::r=>(match gdO c.guard l with
     |some true=>(match tv c.op l with
      |some v=>(match c.dst with
       |some d=>adv n (.ops r::k) ((d,some v)::l)
       |none=>adv n (.ops r::k) l)
      |none=>(.ops (c::r)::k,l))
     |some false=>(match c.dst with
      |some d=>adv n (.ops r::k) ((d,some (.tup []))::l)
      |none=>adv n (.ops r::k) l)
     |none=>(.ops (c::r)::k,l)))
   | .code c=>(match c with
    | .skip=>adv n k l
    | .label _=>adv n k l
    | .seq a b=>adv n (.code a:: .code b::k) l
    | .block id b=>adv n (.code b:: .inBlock id::k) l
    | .scope b=>adv n (.code b:: .inScope b::k) l
    | .ops r=>adv n (.ops r::k) l
    | .cond x a b=>(match evO l x with
     |some (.bool true)=>adv n (.code a::k) l
     |some (.bool false)=>adv n (.code b::k) l
     |_=>(.code c::k,l))
    | .exit id=>(match exitTo id k with
     |some k'=>adv n k' l
     |none=>(.code c::k,l))
    | .goto lb=>(match gotoIn lb k with
     |some k'=>adv n k' l
     |none=>(.code c::k,l))
    |_=>(.code c::k,l))
   |_=>(i::k,l)
section
variable {P:Program}{F:T CFn}{K:T (List AV×AV)}{Q:Nat→AV→Prop}
variable (L:Lg P E F K)
variable {k:List AItem}{ds:List ADef}{ro:Option Nat}{cs:List AFr}
include L
theorem Bn: ∀(n:Nat) {td td':List AItem} {l l':List (Nat×Option AV)},adv n td l=(td',l')→ Good P E Q ⟨⟨fn,nt,tms l',td',ds,.run,dfd,ro⟩,cs,h⟩→Good P E Q ⟨⟨fn,nt,tms l,td,ds,.run,dfd,ro⟩,cs,h⟩
 |0,td,td',l,l',e,g=>by cases e;exact g
 |n+1,td,td',l,l',e,g=>by
  have ih:=fun {td:List AItem} {l:List (Nat×Option AV)} (e:adv n td l=(td',l'))=>Bn n e g
  cases td with
  |nil=>cases e;exact g
  |cons i k=>
   cases i with
   |inBlock id=>exact gy L (ih e)
   |inScope b=>exact gz L (ih e)
   |ops r=>
    cases r with
    |nil=>exact Aeo L (ih e)
    |cons c r=>
     obtain⟨d,gd,op⟩:=c;simp only [adv]at e
     cases hg:gdO gd l with
     |none=>rw [hg]at e;cases e;exact g
     |some b=>
      rw [hg]at e
      cases b with
      |false=>cases d with
       |none=>exact Lh L (Aw hg) (ih e)
       |some d=>exact Lh L (Aw hg) (ih e)
      |true=>
       simp only at e
       cases hv:tv op l with
       |none=>rw [hv]at e;cases e;exact g
       |some v=>
        rw [hv]at e
        cases d with
        |none=>exact Eg L (Aw hg) (Dy hv) (ih e)
        |some d=>exact Eg L (Aw hg) (Dy hv) (ih e)
   |code c=>
    cases c with
    |skip=>exact Ad9 L (ih e)
    |label _=>exact zl L (ih e)
    |seq a b=>exact Ah6 L (ih e)
    |block id b=>exact zm L (ih e)
    |scope b=>exact zn L (ih e)
    |ops r=>exact Aen L (ih e)
    |cond x a b=>
     simp only [adv]at e
     cases hx:evO l x with
     |none=>rw [hx]at e;cases e;exact g
     |some u=>
      rw [hx]at e
      cases u <;> (try simp only at e) <;> first|(cases e;exact g)|skip
      rename_i t
      cases t with
      |true=>exact gcT L (Ab hx) (ih e)
      |false=>exact gcF L (Ab hx) (ih e)
    |exit id=>
     simp only [adv]at e
     cases hx:exitTo id k with
     |none=>rw [hx]at e;cases e;exact g
     |some k'=>rw [hx]at e;exact Aea L hx (ih e)
    |goto lb=>
     simp only [adv]at e
     cases hx:gotoIn lb k with
     |none=>rw [hx]at e;cases e;exact g
     |some k'=>rw [hx]at e;exact Aeb L hx (ih e)
    |_=>cases e;exact g
   |_=>cases e;exact g
end
theorem Ait {p:Prop}(h:p:=by
 intro Q x cs hG
 have h1:ofL 0 .leaf args=tms l0:=by rw [←hl];exact P1 args 0 []
 exact Aif L hq.1 hq.2 hn h1 (Bn L 1000 ha (body Q x cs hG))):p:=h
structure Bk (h:H)(b:Nat)(c:List AV):Prop where
 e:H.get h b=some (cl c)
 lt:b<h.n
section
variable {c0:List AV}{x:Option Blk}{S:Nat→Prop}
theorem Aoz (k:Bk h b c):Bk (hp h.n h.t []) b c:=k
theorem sq:Bk (hp (n+1) t ((n,some (cl c))::lh)) n c:=⟨Hg _ _ _ _ _,Nat.lt_succ_self n⟩
theorem Aiu (k:Bk (hp n t lh) i c):Bk (hp (n+1) t ((n,x)::lh)) i c:=⟨(Fm _ _ _ _ (Nat.ne_of_lt k.lt)).trans k.e,Nat.lt_succ_of_lt k.lt⟩
theorem Aiv (k:Bk (hp n t lh) b c0):Bk (hp n t ((b,some (cl c))::lh)) b c:=⟨Hg _ _ _ _ _,k.lt⟩
theorem Aiw (hne:i≠b)(k:Bk (hp n t lh) i c):Bk (hp n t ((b,x)::lh)) i c:=⟨(Fm _ _ _ _ hne).trans k.e,k.lt⟩
theorem Aq (q:Kp S h h')(hs: ¬S i)(k:Bk h i c):Bk h' i c:=⟨q.get k.e k.lt hs,Nat.lt_of_lt_of_le k.lt q.n⟩
theorem Ag (q:K0 h h')(k:Bk h i c):Bk h' i c:=Aq q (fun f=>f) k
theorem Kp.tr0 (q:K0 m h')(k:Kp S h m):Kp S h h':= ⟨Nat.le_trans k.n q.n,fun b hb hs=>(q.old b (Nat.lt_of_lt_of_le hb k.n) fun f=>f).trans (k.old b hb hs)⟩
theorem Kp.trS {S':Nat→Prop}(q:Kp S' m h')(hs: ∀i,i<h.n→S' i→S i)(k:Kp S h m):Kp S h h':= ⟨Nat.le_trans k.n q.n,fun b hb hn=>(q.old b (Nat.lt_of_lt_of_le hb k.n) fun f=>hn (hs b hb f)).trans (k.old b hb hn)⟩
theorem Ra (e:c0=c)(k:Bk h b c0):Bk h b c:=e ▸ k
end
structure Mk (h:H)(r:Nat)(es:List AEnt)(ck:Nat):Prop where
 e:H.get h r=some (.map es ck)
 lt:r<h.n
section
variable {ck:Nat}{es:List AEnt}{x:Option Blk}{S:Nat→Prop}
theorem Aix (k:Mk h b es ck):Mk (hp h.n h.t []) b es ck:=k
theorem sr:Mk (hp (n+1) t ((n,some (.map es ck))::lh)) n es ck:=⟨Hg _ _ _ _ _,Nat.lt_succ_self n⟩
theorem Aiy (k:Mk (hp n t lh) i es ck):Mk (hp (n+1) t ((n,x)::lh)) i es ck:=⟨(Fm _ _ _ _ (Nat.ne_of_lt k.lt)).trans k.e,Nat.lt_succ_of_lt k.lt⟩
theorem Aiz (hne:i≠b)(k:Mk (hp n t lh) i es ck):Mk (hp n t ((b,x)::lh)) i es ck:=⟨(Fm _ _ _ _ hne).trans k.e,k.lt⟩
theorem Me (q:Kp S h h')(hs: ¬S i)(k:Mk h i es ck):Mk h' i es ck:=⟨q.get k.e k.lt hs,Nat.lt_of_lt_of_le k.lt q.n⟩
theorem Rb (q:K0 h h')(k:Mk h i es ck):Mk h' i es ck:=Me q (fun f=>f) k
end
section
variable {x z:O}{lv:List AV}
theorem C5 (e:evO l x=some (.ptr b o))(hb:Bk h b c)(hv:c[o]?=some v):XV (.load1 x) h l v h:=⟨zq (Ab e) hb.e hv⟩
theorem G9 {k:Nat}(e:evO l x=some (.ptr b o))(hb:Bk h b c)(hv:dtO c o k=some lv):XV (.loadN k x) h l (.agg lv) h:=⟨z7 e hb.e hv⟩
theorem Aaa (e:evO l x=some (.ptr b o))(hb:Bk h b c)(hu:c[o]?=some u)(hv:c[o+1]?=some v):XV (.loadN 2 x) h l (.agg [u,v]) h:=by
 have h1:=(List.getElem?_eq_some_iff.1 hv).1;refine⟨ay (Ab e) hb.e (by omega) ?_⟩;apply List.ext_getElem?;intro i;rcases i with _|_|i;·rw [List.getElem?_take_of_lt (by omega),List.getElem?_drop];exact hu
 ·rw [List.getElem?_take_of_lt (by omega),List.getElem?_drop];exact hv
 ·rw [List.getElem?_take_eq_none (by omega)];rfl
theorem Ai0 {bytes a:Nat}{j:IntKind}(e:evO l x=some (.int k (a:Int)))(e1:evO l y=some (.int j (a:Int)))(h2:a*bytes≤281474976710656)(h3:a≤281474976710656): XV (.mkslice bytes c x y) (hp n t lh) l (.slc n 0 a a) (hp (n+1) t ((n,some (cl (rl c a)))::lh)):=⟨ie (Ab e) (Ab e1) (Nat.le_refl _) h2 h3 rfl⟩
theorem ss (e:evO l x=some (.slc b o len cap))(e1:evO l y=some (.int k (i:Int)))(hi:i<len):XV (.iaddrS 1 x y) h l (.ptr b (o+i)) h:=⟨Q5 (Ab e) (Ab e1) hi (by show o+i*1=_;rw [Nat.mul_one])⟩
theorem Cb (e:evO l x=some (.slc b 0 len cap))(e1:evO l y=some (.int k (i:Int)))(hi:i<len):XV (.iaddrS 1 x y) h l (.ptr b i) h:=⟨Q5 (Ab e) (Ab e1) hi (by show 0+i*1=_;rw [Nat.mul_one,Nat.zero_add])⟩
theorem Tn (e:evO l x=some (.ptr b 0))(e1:evO l y=some (.int k (i:Int)))(hi:i<len):XV (.iaddrA len 1 x y) h l (.ptr b i) h:=⟨Wo (Ab e) (Ab e1) hi (by show 0+i*1=_;rw [Nat.mul_one,Nat.zero_add])⟩
theorem Aab:XV .mkmap (hp n t lh) l (.map n) (hp (n+1) t ((n,some (.map [] 0))::lh)):=⟨zx⟩
theorem Ai1 {sh:Bool}{k:Nat}(e:evO l x=some (.ifc k v))(e1:evO l y=some .nili):XV (.bin .neq x y sh .iface) h l (.bool true) h:=⟨by simp only [exec,Ah,Ab e,Ab e1];cases sh <;> rfl⟩
theorem Li {k:Bool}(e:evO l x=some .nili)(e1:evO l y=some .nili):XV (.bin .neq x y true .iface) h l (.bool false) h:=⟨by simp only [exec,Ah,Ab e,Ab e1];rfl⟩
theorem ij {k:Nat}{z:AV}(e:evO l x=some (.ifc k v)):XV (.tassert x k z false) h l v h:=⟨ic (Ab e)⟩
section
variable {a:Nat}{p r:Int}{j:IntKind}{sh:Sh}{q:Bool}
theorem Ey (e:evO l x=some (.int k (a:Int)))(e1:evO l y=some (.int k (d:Int)))(ht:a<d):XV (.bin .lss x y q sh) h l (.bool true) h:=rt e e1 (by omega)
theorem Aev (e:evO l x=some (.int k (a:Int)))(e1:evO l y=some (.int k (d:Int)))(ht:d≤a):XV (.bin .lss x y q sh) h l (.bool false) h:=ru e e1 (by omega)
theorem Aew (e:evO l x=some (.int k (a:Int)))(e1:evO l y=some (.int k (d:Int)))(ht:a≤d):XV (.bin .leq x y q sh) h l (.bool true) h:=rv e e1 (by omega)
theorem Aex (e:evO l x=some (.int k (a:Int)))(e1:evO l y=some (.int k (d:Int)))(ht:d<a):XV (.bin .leq x y q sh) h l (.bool false) h:=rx e e1 (by omega)
theorem Aey (e:evO l x=some (.int k (a:Int)))(e1:evO l y=some (.int k (d:Int)))(ht:d<a):XV (.bin .gtr x y q sh) h l (.bool true) h:=ry e e1 (by omega)
theorem Lj (e:evO l x=some (.int k (a:Int)))(e1:evO l y=some (.int k (d:Int)))(ht:a≤d):XV (.bin .gtr x y q sh) h l (.bool false) h:=sd e e1 (by omega)
theorem Aez (e:evO l x=some (.int k (a:Int)))(e1:evO l y=some (.int k (d:Int)))(ht:d≤a):XV (.bin .geq x y q sh) h l (.bool true) h:=se e e1 (by omega)
theorem Ae0 (e:evO l x=some (.int k (a:Int)))(e1:evO l y=some (.int k (d:Int)))(ht:a<d):XV (.bin .geq x y q sh) h l (.bool false) h:=sf e e1 (by omega)
theorem Rd (e:evO l x=some (.int k (a:Int)))(e1:evO l y=some (.int k (d:Int)))(ht:a=d):XV (.bin .eql x y q .pint) h l (.bool true) h:=Acs e e1 (by omega)
theorem Ai2 (e:evO l x=some (.int k (a:Int)))(e1:evO l y=some (.int k (d:Int)))(ht:a≠d):XV (.bin .eql x y q .pint) h l (.bool false) h:=Acu e e1 (by omega)
theorem Ai3 (e:evO l x=some (.int k (a:Int)))(e1:evO l y=some (.int k (d:Int)))(ht:a≠d):XV (.bin .neq x y q .pint) h l (.bool true) h:=sg e e1 (by omega)
theorem Ai4 (e:evO l x=some (.int k (a:Int)))(e1:evO l y=some (.int k (d:Int)))(ht:a=d):XV (.bin .neq x y q .pint) h l (.bool false) h:=si e e1 (by omega)
theorem Yu (e:evO l x=some (.int .i64 p))(e1:evO l y=some (.int .i64 r))(h1: -9223372036854775808≤p+r)(h2:p+r≤9223372036854775807):XV (.bin .add x y q sh) h l (.int .i64 (p+r)) h:=⟨qu (Ab e) (Ab e1) (Lf h1 h2)⟩
theorem Ae1 (e:evO l x=some (.int .i64 p))(e1:evO l y=some (.int .i64 r))(h1: -9223372036854775808≤p - r)(h2:p - r≤9223372036854775807):XV (.bin .sub x y q sh) h l (.int .i64 (p - r)) h:=⟨qv (Ab e) (Ab e1) (Lf h1 h2)⟩
theorem sw (hs:k.signed=false)(e:evO l x=some (.int k (a:Int)))(e1:evO l y=some (.int k (d:Int))):XV (.bin .add x y q sh) h l (.int k (((a+d) % pw k:Nat):Int)) h:= ⟨qu (Ab e) (Ab e1) (by rw [←Int.natCast_add,Uz hs])⟩
theorem N4 (hs:k.signed=false)(e:evO l x=some (.int k (a:Int)))(e1:evO l y=some (.int k (d:Int)))(hd:d≤a)(ha:a<pw k):XV (.bin .sub x y q sh) h l (.int k ((a - d:Nat):Int)) h:= ⟨qv (Ab e) (Ab e1) (by rw [←Int.ofNat_sub hd,U0 hs (by omega)])⟩
theorem Aac (hs:k.signed=false)(e:evO l x=some (.int j (a:Int)))(ha:a<pw k):XV (.conv k x) h l (.int k (a:Int)) h:=⟨az hs (Ab e) (Nat.mod_eq_of_lt ha)⟩
theorem U2 (hs:k.signed=false)(e:evO l x=some (.int j (a:Int))):XV (.conv k x) h l (.int k ((a % pw k:Nat):Int)) h:=⟨az hs (Ab e) rfl⟩
theorem Aad (e:evO l x=some (.int j (a:Int)))(h2:a<9223372036854775808):XV (.conv .i64 x) h l (.int .i64 (a:Int)) h:=⟨qt (Ab e) (Lf (by omega) (by omega))⟩
theorem sx {s:Nat}(e:evO l x=some (.int k (a:Int)))(e1:evO l y=some (.int j (s:Int)))(hs:s≤bits k):XV (.bin .shr x y q sh) h l (.int k ((a >>> s:Nat):Int)) h:=⟨Aii (Ab e) (Ab e1) hs rfl⟩
theorem Acv (hs:k.signed=false)(e:evO l x=some (.int k (a:Int)))(e1:evO l y=some (.int k (d:Int)))(ha:a<pw k)(hc:d<pw k)(hx:(a ^^^ d)<pw k):XV (.bin .xor x y q sh) h l (.int k ((a ^^^ d:Nat):Int)) h:=⟨Aih hs (Ab e) (Ab e1) ha hc hx rfl⟩
theorem Ae2 (hs:k.signed=false)(e:evO l x=some (.int k (a:Int)))(ha:a<pw k):XV (.un .xor x) h l (.int k ((pw k - 1 - a:Nat):Int)) h:=⟨Aes hs (Ab e) ha rfl⟩
theorem sy (e:evO l x=some (.int .i64 (a:Int)))(e1:evO l y=some (.int .i64 (d:Int)))(hd:0<d)(ha:a<9223372036854775808):XV (.bin .quo x y q sh) h l (.int .i64 ((a / d:Nat):Int)) h:=by
 refine⟨?_⟩;have h0:iEq (d:Int) (Int.ofNat 0)=false:=by rw [Ew];exact decide_eq_false (by show(d:Int)≠0;omega)
 have h1:Int.tdiv (a:Int) (d:Int)=((a / d:Nat):Int):=rfl;have h2:a / d≤a:=Nat.div_le_self a d;simp only [exec,Ah,Ab e,Ab e1,F0,Ec,Bb,h0,h1,vo];clear h1;generalize a / d=q at*;rw [Lf (by omega) (by omega)]
theorem Ai5 (e:evO l x=some (.int k (a:Int)))(e1:evO l y=some (.int k (d:Int)))(hd:0<d):XV (.bin .rem x y q sh) h l (.int k ((a % d:Nat):Int)) h:=by
 refine⟨?_⟩;have h0:iEq (d:Int) (Int.ofNat 0)=false:=by rw [Ew];exact decide_eq_false (by show(d:Int)≠0;omega)
 have h1:Int.tmod (a:Int) (d:Int)=((a % d:Nat):Int):=rfl;simp only [exec,Ah,Ab e,Ab e1,F0,Ec,Bb,h0,h1,vo]
theorem Yv (e:evO l x=some (.int k (a:Int)))(e1:evO l y=some (.int k (d:Int))):XV (.maxmin false x y) h l (.int k ((min a d:Nat):Int)) h:=⟨Acr (Ab e) (Ab e1) (by show min (a:Int) (d:Int)=_;omega)⟩
theorem Ae3 (e:evO l x=some (.int k (a:Int)))(e1:evO l y=some (.int k (d:Int))):XV (.maxmin true x y) h l (.int k ((max a d:Nat):Int)) h:=⟨Acr (Ab e) (Ab e1) (by show max (a:Int) (d:Int)=_;omega)⟩
end
end
def Ct (P:Program)(E:Env)(F:T CFn)(K:T (List AV×AV))(f:Nat)(args:List AV)(h:H)(post:AV→H→Prop):Prop:=
 ∀(Q:Nat→AV→Prop) (x:AFr) (cs:List AFr),(∀v h',post v h'→GO P E Q (finish v cs h' x))→GO P E Q (B8 F K (.func f) args false x cs h)
def ik:Nat→List AV→List (Nat×Option AV)→List (Nat×Option AV)
 |_,[],acc=>acc
 |i,a::r,acc=>ik (i+1) r ((i,some a)::acc)
theorem P1: ∀(args:List AV) (i:Nat) (acc:List (Nat×Option AV)),ofL i (tms acc) args=tms (ik i args acc)
 | [],_,_=>rfl
 |a::r,i,acc=>P1 r (i+1) ((i,some a)::acc)
def Aae (l:List (Nat×Option AV)):List CRes→Option (List AV)
 | []=>some []
 | .tmp i::r=>(match look l i with
  |some v=>(match Aae l r with
   |some vs=>some (v::vs)
   |none=>none)
  |none=>none)
 |_::_=>none
theorem F6 {l:List (Nat×Option AV)}{h:H}: ∀{rs:List CRes} {vs:List AV},Aae l rs=some vs→results (tms l) h rs=some vs
 | [],vs,e=>by cases e;rfl
 | .tmp i::r,vs,e=>by
  simp only [Aae]at e
  cases h1:look l i with
  |none=>rw [h1]at e;cases e
  |some v=>
   cases h2:Aae l r with
   |none=>rw [h1,h2]at e;cases e
   |some us=>rw [h1,h2]at e;cases e;exact Tm h1 (F6 h2)
 | .cell1 _::r,vs,e=>by cases e
 | .cellN _ _::r,vs,e=>by cases e
 | .bad::r,vs,e=>by cases e
section
variable {P:Program}{F:T CFn}{K:T (List AV×AV)}{Q:Nat→AV→Prop}
variable {l':List (Nat×Option AV)}{k td':List AItem}{ds:List ADef}{ro:Option Nat}{cs:List AFr}{gd:Option (Nat×Bool)}{d:Option Nat}{r:List CI}
variable {x:O}{c' lv:List AV}{post:AV→H→Prop}
variable (L:Lg P E F K)
include L
theorem st1 {d:Nat}(hg:gdO gd l=some true)(hx:XV op h l v h')(ha:adv 1000 (.ops r::k) ((d,some v)::l)=(td',l'))(g:Good P E Q ⟨⟨fn,nt,tms l',td',ds,.run,dfd,ro⟩,cs,h'⟩): Good P E Q ⟨⟨fn,nt,tms l,.ops (⟨some d,gd,op⟩::r)::k,ds,.run,dfd,ro⟩,cs,h⟩:= Eg L (Aw hg) hx.e (Bn L 1000 ha g)
theorem stS {m:Nat}(hg:gdO gd l=some true)(e:evO l x=some (.ptr b o))(e1:evO l y=some v)(hc:Bc v=some lv)(hm:Nat.beq lv.length m=true)(hp1:Ar lv=true)(hb:Bk (hp n t lh) b c)(hs:Q7 lv c o=some c') (ha:adv 1000 (.ops r::k) l=(td',l')) (g:Good P E Q ⟨⟨fn,nt,tms l',td',ds,.run,dfd,ro⟩,cs,hp n t ((b,some (cl c'))::lh)⟩): Good P E Q ⟨⟨fn,nt,tms l,.ops (⟨none,gd,.store m x y⟩::r)::k,ds,.run,dfd,ro⟩,cs,hp n t lh⟩:=z8 L (Aw hg) e e1 hc hm hp1 hb.e hs (Bn L 1000 ha g)
theorem Aaf (hg:gdO gd l=some true)(e:evO l x=some (.ptr b o))(e1:evO l y=some v)(hc:Bc v=some [v])(hp1:Bm v=true)(hb:Bk (hp n t lh) b c)(ho:o<c.length) (ha:adv 1000 (.ops r::k) l=(td',l')) (g:Good P E Q ⟨⟨fn,nt,tms l',td',ds,.run,dfd,ro⟩,cs,hp n t ((b,some (cl (c.set o v)))::lh)⟩): Good P E Q ⟨⟨fn,nt,tms l,.ops (⟨none,gd,.store 1 x y⟩::r)::k,ds,.run,dfd,ro⟩,cs,hp n t lh⟩:=Aoy L ⟨Aw hg⟩ e e1 hc hp1 ⟨hb.e⟩ ho (Bn L 1000 ha g)
omit L in
theorem ta (c:List AV)(v u:AV)(o:Nat)(ho:o+1<c.length):F1 [v,u] c o=(c.set o v).set (o+1) u:=by
 apply List.ext_getElem?;intro i;rw [Fc [v,u] c o i (by simp;omega),List.getElem?_set,List.getElem?_set,List.length_set];by_cases h1:o+1=i;·subst h1;simp [ho]
 ·by_cases h2:o=i;·subst h2;simp;omega
  ·rw [if_neg h1,if_neg h2,if_neg (by simp;omega)]
theorem Ao0 (hg:gdO gd l=some true)(e:evO l x=some (.ptr b o))(e1:evO l y=some (.agg [v,u]))(hp1:Bm v=true)(hp2:Bm u=true)(hb:Bk (hp n t lh) b c)(ho:o+1<c.length) (ha:adv 1000 (.ops r::k) l=(td',l')) (g:Good P E Q ⟨⟨fn,nt,tms l',td',ds,.run,dfd,ro⟩,cs,hp n t ((b,some (cl ((c.set o v).set (o+1) u)))::lh)⟩): Good P E Q ⟨⟨fn,nt,tms l,.ops (⟨none,gd,.store 2 x y⟩::r)::k,ds,.run,dfd,ro⟩,cs,hp n t lh⟩:= Ux L (Aw hg) (Ab e) (Ab e1) rfl rfl (by simp only [Ar,hp1,hp2]) hb.e (by have: [v,u].length=2:=rfl;omega) (ta c v u o ho) (Bn L 1000 ha g)
theorem Acw {d:Nat}(hg:gdO gd l=some true)(e:evO l x=some (.fn (.func f) [] cp))(ha:Fo l a=some va)(hr:Eo va cp=some args)(hc:Ct P E F K f args h post) (g: ∀v h',post v h'→Good P E Q ⟨⟨fn,nt,tms ((d,some v)::l),.ops r::k,ds,.run,dfd,ro⟩,cs,hp h'.n h'.t []⟩): Good P E Q ⟨⟨fn,nt,tms l,.ops (⟨some d,gd,.callv x a⟩::r)::k,ds,.run,dfd,ro⟩,cs,h⟩:= Tl L (Aw hg) (Ik e ha hr) (hc Q _ cs fun v h' p=>N0 L cvb (g v h' p))
theorem Ae4 {d:Nat}{R:AV→Prop}(hg:gdO gd l=some true)(e:evO l x=some (.fn (.func f) [] cp))(ha:Fo l a=some va)(hr:Eo va cp=some args)(hc:Ct P E F K f args (hp n t lh) fun v h'=>R v∧h'=hp n t lh) (g: ∀v,R v→Good P E Q ⟨⟨fn,nt,tms ((d,some v)::l),.ops r::k,ds,.run,dfd,ro⟩,cs,hp n t lh⟩): Good P E Q ⟨⟨fn,nt,tms l,.ops (⟨some d,gd,.callv x a⟩::r)::k,ds,.run,dfd,ro⟩,cs,hp n t lh⟩:= Tl L (Aw hg) (Ik e ha hr) (hc Q _ cs fun v h' p=>N0 L cvb (p.2 ▸ g v p.1))
theorem Re {l0 l1:List (Nat×Option AV)}{td:List AItem}(hq:Fk F K f g) (body: ∀(Q:Nat→AV→Prop) (x:AFr) (cs:List AFr),(∀v h',post v h'→GO P E Q (finish v cs h' x))→Good P E Q ⟨⟨f,g.ntmps,tms l1,td,[],.run,false,none⟩,x::cs,hp h.n h.t []⟩) (hn:Nat.ble args.length g.ntmps=true:=by exact rfl) (hl:ik 0 args []=l0:=by exact rfl) (ha:adv 1000 [.code g.body] l0=(td,l1):=by exact rfl):Ct P E F K f args h post:=by exact Ait
section
variable {l1:List (Nat×Option AV)}{td:List AItem}{a0 a1 a2 a3 a4 a5 a6 a7:AV}
theorem Ao (hq:Fk F K f g) (body: ∀(Q:Nat→AV→Prop) (x:AFr) (cs:List AFr),(∀v h',post v h'→GO P E Q (finish v cs h' x))→Good P E Q ⟨⟨f,g.ntmps,tms l1,td,[],.run,false,none⟩,x::cs,hp h.n h.t []⟩) (hn:Nat.ble 1 g.ntmps=true:=by exact rfl) (ha:adv 1000 [.code g.body] [(0,some a0)]=(td,l1):=by exact rfl):Ct P E F K f [a0] h post:=Re L hq body hn rfl ha
theorem Af (hq:Fk F K f g) (body: ∀(Q:Nat→AV→Prop) (x:AFr) (cs:List AFr),(∀v h',post v h'→GO P E Q (finish v cs h' x))→Good P E Q ⟨⟨f,g.ntmps,tms l1,td,[],.run,false,none⟩,x::cs,hp h.n h.t []⟩) (hn:Nat.ble 2 g.ntmps=true:=by exact rfl) (ha:adv 1000 [.code g.body] [(1,some a1),(0,some a0)]=(td,l1):=by exact rfl):Ct P E F K f [a0,a1] h post:=Re L hq body hn rfl ha
theorem Bf (hq:Fk F K f g) (body: ∀(Q:Nat→AV→Prop) (x:AFr) (cs:List AFr),(∀v h',post v h'→GO P E Q (finish v cs h' x))→Good P E Q ⟨⟨f,g.ntmps,tms l1,td,[],.run,false,none⟩,x::cs,hp h.n h.t []⟩) (hn:Nat.ble 3 g.ntmps=true:=by exact rfl) (ha:adv 1000 [.code g.body] [(2,some a2),(1,some a1),(0,some a0)]=(td,l1):=by exact rfl):Ct P E F K f [a0,a1,a2] h post:=Re L hq body hn rfl ha
theorem Yw (hq:Fk F K f g) (body: ∀(Q:Nat→AV→Prop) (x:AFr) (cs:List AFr),(∀v h',post v h'→GO P E Q (finish v cs h' x))→Good P E Q ⟨⟨f,g.ntmps,tms l1,td,[],.run,false,none⟩,x::cs,hp h.n h.t []⟩) (hn:Nat.ble 4 g.ntmps=true:=by exact rfl) (ha:adv 1000 [.code g.body] [(3,some a3),(2,some a2),(1,some a1),(0,some a0)]=(td,l1):=by exact rfl):Ct P E F K f [a0,a1,a2,a3] h post:=Re L hq body hn rfl ha
theorem Rf (hq:Fk F K f g) (body: ∀(Q:Nat→AV→Prop) (x:AFr) (cs:List AFr),(∀v h',post v h'→GO P E Q (finish v cs h' x))→Good P E Q ⟨⟨f,g.ntmps,tms l1,td,[],.run,false,none⟩,x::cs,hp h.n h.t []⟩) (hn:Nat.ble 5 g.ntmps=true:=by exact rfl) (ha:adv 1000 [.code g.body] [(4,some a4),(3,some a3),(2,some a2),(1,some a1),(0,some a0)]=(td,l1):=by exact rfl):Ct P E F K f [a0,a1,a2,a3,a4] h post:=Re L hq body hn rfl ha
end
theorem il {x:AFr}{vs:List AV}(hf:T.get F fn=some g)(hr:results (tms l) h g.results=some vs)(hG: ∀v h',post v h'→GO P E Q (finish v cs h' x))(p:post (single vs) h): Good P E Q ⟨⟨fn,nt,tms l,.code .ret::k,[],.run,false,none⟩,x::cs,h⟩:=Ah9 L hf hr (hG _ _ p)
theorem Ao1 {x:AFr}{vs:List AV}(hf:T.get F fn=some g)(hr:results (tms l) h g.results=some vs)(hG: ∀v h',post v h'→GO P E Q (finish v cs h' x))(p:post (single vs) h): Good P E Q ⟨⟨fn,nt,tms l,[],[],.run,false,none⟩,x::cs,h⟩:=Acj L hf hr (hG _ _ p)
omit L in
theorem Ct.mono {post':AV→H→Prop}(c:Ct P E F K f args h post')(m: ∀v h',post' v h'→post v h'):Ct P E F K f args h post:=fun Q x cs g=>c Q x cs fun v h' p=>g v h' (m v h' p)
theorem keep {nm:List Nat}{q:List (Nat×Option AV)}{todo:List AItem}{mode:AMode}(ho:Co l nm=some q)(g:Good P E Q ⟨⟨fn,nt,tms q,todo,ds,mode,dfd,ro⟩,cs,h⟩):Good P E Q ⟨⟨fn,nt,tms l,todo,ds,mode,dfd,ro⟩,cs,h⟩:=by
 refine Eh L (tm':=tms q) (fun i v hv=>?_) g;rw [←Bx ho]at hv;clear ho g;induction nm with
 |nil=>simp only [only,T.get_leaf]at hv;cases hv
 |cons a nm ih=>
  simp only [only]at hv
  cases ha:T.get (tms l) a with
  |none=>rw [ha]at hv;exact ih hv
  |some u=>
   rw [ha]at hv;simp only [T.get_set]at hv;by_cases hi:i=a;·subst hi;rw [if_pos rfl]at hv;rw [ha];exact hv
   ·rw [if_neg hi]at hv;exact ih hv
theorem Bs {α: Type}{bd:CC}(T:Nat→α→List (Nat×Option AV))(n:Nat)(R:Nat→α→H→Prop){i0:Nat}(s0:α){h0:H} (hT:TSub (tms (T i0 s0)) (tms l)) (hR:R i0 s0 h0) (hi:i0≤n) (body: ∀i s h,i<n→R i s h→(∀s' h' l',R (i+1) s' h'→TSub (tms (T (i+1) s')) (tms l')→Good P E Q ⟨⟨fn,nt,tms l',.inLoop bd::k,ds,.run,dfd,ro⟩,cs,h'⟩)→Good P E Q ⟨⟨fn,nt,tms (T i s),.code bd:: .inLoop bd::k,ds,.run,dfd,ro⟩,cs,hp h.n h.t []⟩) (done: ∀s h,R n s h→Good P E Q ⟨⟨fn,nt,tms (T n s),.code bd:: .inLoop bd::k,ds,.run,dfd,ro⟩,cs,hp h.n h.t []⟩): Good P E Q ⟨⟨fn,nt,tms l,.code (.loop bd)::k,ds,.run,dfd,ro⟩,cs,h0⟩:=by
 have main: ∀m i s h,i+m=n→R i s h→Good P E Q ⟨⟨fn,nt,tms (T i s),.code bd:: .inLoop bd::k,ds,.run,dfd,ro⟩,cs,hp h.n h.t []⟩:=by
  intro m;induction m with
  |zero=>
       intro i s h e hR;have:i=n:=by omega
       subst this;exact done s h hR
  |succ m ih=>intro i s h e hR;exact body i s h (by omega) hR fun s' h' l' hR' hT'=>Bw L (Eh L hT' (ih (i+1) s' h' (by omega) hR'))
 exact Bt L (Eh L hT (main (n - i0) i0 s0 h0 (by omega) hR))
section
variable {q:List (Nat×Option AV)}{nm:List Nat}{pre chk:List DI}{ps:List Ph}{di:Nat}
omit L
theorem Ax (ho:Co l nm=some q)(hg:gdO gd q=some true)(hx:XV op h q v h') (g:Bo P E Q pre chk ps k fn nt (tms ((di,some v)::l)) ds dfd ro cs h'):Bo P E Q (⟨⟨some di,gd,op⟩,nm⟩::pre) chk ps k fn nt (tms l) ds dfd ro cs h:=p_v ho (Aw hg) hx.e g
theorem Rh (ho:Co l nm=some q)(hg:gdO gd q=some false) (g:Bo P E Q pre chk ps k fn nt (tms ((di,some (.tup []))::l)) ds dfd ro cs h):Bo P E Q (⟨⟨some di,gd,op⟩,nm⟩::pre) chk ps k fn nt (tms l) ds dfd ro cs h:=p_s ho (Aw hg) g
theorem K4 (ho:Co l nm=some q)(hg:gdO gd q=some true)(hx:XV op h q v h')(hl:look l di=some v)(ha:K3 20 v=true)(g:checks chk (tms l) h=true):checks (⟨⟨some di,gd,op⟩,nm⟩::chk) (tms l) h=true:=k_v ho (Aw hg) hx.e hl ha g
theorem Ao2 (ho:Co l nm=some q)(hg:gdO gd q=some false)(hl:look l di=some (.tup []))(g:checks chk (tms l) h=true):checks (⟨⟨some di,gd,op⟩,nm⟩::chk) (tms l) h=true:=k_s ho (Aw hg) hl g
include L
theorem Yx (hc:checks chk (tms l) h=true)(ha:adv 1000 k l=(td',l'))(g:Good P E Q ⟨⟨fn,nt,tms l',td',ds,.run,dfd,ro⟩,cs,h⟩):Bo P E Q [] chk [] k fn nt (tms l) ds dfd ro cs h:=p_e hc (Bn L 1000 ha g)
theorem Hh (ho:Co l nm=some q)(hg:gdO gd q=some true)(hx:XV op h q v h') (g:Bo P E Q pre chk ps k fn nt (tms ((di,some v)::l)) ds dfd ro cs h'):Good P E Q ⟨⟨fn,nt,tms l,.drawn ⟨⟨⟨some di,gd,op⟩,nm⟩,pre,chk⟩ ps::k,ds,.run,dfd,ro⟩,cs,h⟩:=e_v L ho (Aw hg) hx.e g
theorem Ao3 (ho:Co l nm=some q)(hg:gdO gd q=some false) (g:Bo P E Q pre chk ps k fn nt (tms ((di,some (.tup []))::l)) ds dfd ro cs h):Good P E Q ⟨⟨fn,nt,tms l,.drawn ⟨⟨⟨some di,gd,op⟩,nm⟩,pre,chk⟩ ps::k,ds,.run,dfd,ro⟩,cs,h⟩:=e_s L ho (Aw hg) g
theorem Ai6 (ho:Co l nm=some q)(hg:gdO gd q=some true)(e:evO q x=some (.fn (.func f) [] cp))(ha:Fo q a=some va)(hr:Eo va cp=some args)(hc:Ct P E F K f args h post) (g: ∀v h',post v h'→Bo P E Q pre chk ps k fn nt (tms ((di,some v)::l)) ds dfd ro cs (hp h'.n h'.t [])): Good P E Q ⟨⟨fn,nt,tms l,.drawn ⟨⟨⟨some di,gd,.callv x a⟩,nm⟩,pre,chk⟩ ps::k,ds,.run,dfd,ro⟩,cs,h⟩:= e_c L ho (Aw hg) (Ik e ha hr) (hc Q _ cs fun v h' p=>fd cvb (g v h' p))
theorem Ae5 {R:AV→Prop}(ho:Co l nm=some q)(hg:gdO gd q=some true)(e:evO q x=some (.fn (.func f) [] cp))(ha:Fo q a=some va)(hr:Eo va cp=some args)(hc:Ct P E F K f args (hp n t lh) fun v h'=>R v∧h'=hp n t lh) (g: ∀v,R v→Bo P E Q pre chk ps k fn nt (tms ((di,some v)::l)) ds dfd ro cs (hp n t lh)): Good P E Q ⟨⟨fn,nt,tms l,.drawn ⟨⟨⟨some di,gd,.callv x a⟩,nm⟩,pre,chk⟩ ps::k,ds,.run,dfd,ro⟩,cs,hp n t lh⟩:= e_c L ho (Aw hg) (Ik e ha hr) (hc Q _ cs fun v h' p=>fd cvb (p.2 ▸ g v p.1))
theorem Ao4 {m:Nat}(ho:Co l nm=some q)(hg:gdO gd q=some true)(e:evO q x=some (.ptr b o))(e1:evO q y=some v)(hc:Bc v=some lv)(hm:Nat.beq lv.length m=true)(hp1:Ar lv=true) (hb:Bk (hp n t lh) b c) (hs:Q7 lv c o=some c') (g:Good P E Q ⟨⟨fn,nt,tms l,k,ds,.run,dfd,ro⟩,cs,hp n t ((b,some (cl c'))::lh)⟩): Good P E Q ⟨⟨fn,nt,tms l,.drawn ⟨⟨⟨none,gd,.store m x y⟩,nm⟩,[],[]⟩ []::k,ds,.run,dfd,ro⟩,cs,hp n t lh⟩:= Ain L ho (Aw hg) e e1 hc hm hp1 hb.e hs fun h' hs'=>p_e Q9 (Uy L hs' g)
theorem ba (ho:Co l nm=some q)(hg:gdO gd q=some true)(e:evO q x=some (.ptr b o))(e1:evO q y=some v)(hc:Bc v=some [v])(hp1:Bm v=true) (hb:Bk (hp n t lh) b c) (ho':o<c.length) (g:Good P E Q ⟨⟨fn,nt,tms l,k,ds,.run,dfd,ro⟩,cs,hp n t ((b,some (cl (c.set o v)))::lh)⟩): Good P E Q ⟨⟨fn,nt,tms l,.drawn ⟨⟨⟨none,gd,.store 1 x y⟩,nm⟩,[],[]⟩ []::k,ds,.run,dfd,ro⟩,cs,hp n t lh⟩:=by
 obtain⟨h',q1,q2⟩:=Mc (n:=n) (t:=t) (lh:=lh) (lv:= [v]) (by simp only [Ar,hp1]) hb.e (by have: [v].length=1:=rfl;omega) (Wq c v o ho');have hx:exec (.store 1 x y) (hp n t lh) (tms q)= .val .unk h':=by simp only [exec,Ah,Ab e,Ab e1,hc,q1];rfl
 exact av L (dst:=none) (by rw [Bx ho];exact Aw hg) (by rw [Bx ho];exact hx) (p_e (l:=l) Q9 (Uy L q2 g))
theorem Aag {a1 a2:Alt}(g1:Bo P E Q a1.pre a1.chk a1.l k fn nt (tms l) ds dfd ro cs h)(g2:Bo P E Q a2.pre a2.chk a2.l k fn nt (tms l) ds dfd ro cs h):Good P E Q ⟨⟨fn,nt,tms l,.code (.alts [a1,a2])::k,ds,.run,dfd,ro⟩,cs,h⟩:= Aeh L fun a ha=>by cases ha with
  |head=>exact g1
  |tail _ h=>cases h with
   |head=>exact g2
   |tail _ h=>cases h
end
end
variable {A B p:Prop}{a:Nat}
theorem Ao5 (h:p:=by
 have hz:Nat.mul 0 size=0:=Nat.zero_mul size
 have h3:Nat.sub c 0=c:=rfl
 have h4:Nat.sub m 0=m:=rfl
 simp only [hz,h3,h4]
 cases Nat.beq m 0 <;> rfl):p:=h
theorem A0 (h:a≤b):Nat.ble a b=true:=by rw [Nat.ble_eq];exact h
theorem Gr (h:a≠b):Nat.beq a b=false:=by
 cases hq:Nat.beq a b with
 |false=>rfl
 |true=>exact absurd (Nat.eq_of_beq_eq_true hq) h
section
variable {x z w:O}{size c m:Nat}{j:IntKind}
theorem Ai7 {lo hi:Option O}{la lb:Option Nat}(e:evO l x=some (.slc b o len (Aa+size)))(h1:BndR l lo la)(h2:BndR l hi lb)(hc:lb.getD len=c)(ha:la.getD 0=a)(hac:a≤c)(hcl:c≤len): XV (.sliceS size x lo hi none) h l (.slc b (o+a*size) (c - a) (Aa+size)) h:=by refine⟨?_⟩;have g3:C3 (tms l) none=some none:=rfl;simp only [exec,Ah,h1.opt,h2.opt,g3,Ab e,Fl,Nh,A0 (show Aa≤Aa+size by omega),Oi,ha,hc,A0 hac,A0 hcl];have q3:Nat.beq (Aa+size) (Nat.add Aa size)=true:=Nat.beq_refl _;rw [q3];rfl
theorem Ai8 (e:evO l x=some (.slc b o len (Aa+size)))(e2:evO l z=some (.int k (c:Int)))(hcl:c≤len):XV (.sliceS size x none (some z) none) h l (.slc b o c (Aa+size)) h:=by have:=Ai7 (h:=h) (a:=0) (c:=c) e .no (.att e2) rfl rfl (Nat.zero_le _) hcl;rwa [Nat.zero_mul,Nat.add_zero,Nat.sub_zero]at this
theorem Ai9 (e:evO l x=some (.slc b o len (Aa+1)))(e1:evO l y=some (.int j (a:Int)))(hal:a≤len):XV (.sliceS 1 x (some y) none none) h l (.slc b (o+a) (len - a) (Aa+1)) h:=by have:=Ai7 (h:=h) (a:=a) (c:=len) e (.att e1) .no rfl rfl hal (Nat.le_refl _);rwa [Nat.mul_one]at this
theorem Aja {lo hi:Option O}{la lb:Option Nat}(e:evO l x=some (.slc b o len cap))(hk:cap<Aa)(h1:BndR l lo la)(h2:BndR l hi lb)(hc:lb.getD len=c)(ha:la.getD 0=a)(hac:a≤c)(hcl:c≤cap)(hne:a<cap): XV (.sliceS size x lo hi none) h l (.slc b (o+a*size) (c - a) (cap - a)) h:=by refine⟨?_⟩;have g3:C3 (tms l) none=some none:=rfl;simp only [exec,Ah,h1.opt,h2.opt,g3,Ab e,Fl,Nh,Gq hk,Oi,ha,hc,A0 hac,A0 hcl,A0 (show Nat.succ cap≤Aa from hk),Gr (show cap≠a by omega)];rfl
theorem Ajb (e:evO l x=some (.slc b o len cap))(e1:evO l y=some (.int j (a:Int)))(hk:cap<Aa)(hal:a≤len)(hlc:len≤cap)(hne:a<cap):XV (.sliceS 1 x (some y) none none) h l (.slc b (o+a) (len - a) (cap - a)) h:=by have:=Aja (h:=h) (size:=1) (a:=a) (c:=len) e hk (.att e1) .no rfl rfl hal hlc hne;rwa [Nat.mul_one]at this
theorem Ajc (e:evO l x=some (.slc b o len cap))(e1:evO l y=some (.int j (a:Int)))(e2:evO l z=some (.int k (c:Int)))(hk:cap<Aa)(hac:a≤c)(hcl:c≤cap)(hne:a<cap):XV (.sliceS 1 x (some y) (some z) none) h l (.slc b (o+a) (c - a) (cap - a)) h:=by have:=Aja (h:=h) (size:=1) (a:=a) (c:=c) e hk (.att e1) (.att e2) rfl rfl hac hcl hne;rwa [Nat.mul_one]at this
theorem Ajd (e:evO l x=some (.slc b o len (Aa+size)))(e1:evO l z=some (.int j (c:Int)))(e2:evO l w=some (.int k (m:Int)))(hc:c≤m)(hm:m≤len)(hl:len<Aa): XV (.sliceS size x none (some z) (some w)) h l (.slc b o c m) h:=by refine⟨?_⟩;have g1:C3 (tms l) none=some none:=rfl;simp only [exec,Ah,g1,(BndR.att e1).opt,(BndR.att e2).opt,Ab e,Fl,Nh,A0 (show Aa≤Aa+size by omega),Oi,A0 hc,A0 hm,Option.getD_none,A0 (Nat.zero_le c),A0 (show Nat.succ m≤Aa by omega),vo];exact Ao5
theorem Aje (e:evO l x=some .nils)(e2:evO l z=some (.int k ((0:Nat):Int))):XV (.sliceS size x none (some z) none) h l .nils h:=by refine⟨?_⟩;have g1:C3 (tms l) none=some none:=rfl;simp only [exec,Ah,g1,(BndR.att e2).opt,Ab e];rfl
theorem Ae6 (e:evO l x=some .nils):XV (.capS x) h l (.int .i64 ((0:Nat):Int)) h:=⟨by simp only [exec,Ah,Ab e];rfl⟩
variable {sl bytes:Nat}
theorem Ajf (e:evO l x=some (.slc b o sl cap))(e1:evO l y=some .nils):XV (.append size bytes x y) h l (.slc b o sl cap) h:=⟨by simp only [exec,Ah,Ab e,Ab e1];rfl⟩
theorem Acx (e:evO l x=some .nils)(e1:evO l y=some .nils):XV (.append size bytes x y) h l .nils h:=⟨by simp only [exec,Ah,Ab e,Ab e1];rfl⟩
end
theorem lkp (h:p:=by
 (repeat(first|assumption|exact sq|(apply Aoz;first|assumption|(apply Ag;assumption)|(apply Aq;assumption;(first|omega|(dsimp only;omega))))|apply Aiu|apply Aiv|(apply Aiw;first|omega|assumption)))
 (first | done | fail "no")) : p := h
theorem lkm (h:p:=by
 (repeat(first|assumption|exact sr|(apply Aix;first|assumption|(apply Rb;assumption)|(apply Me;assumption;(first|omega|(dsimp only;omega))))|apply Aiy|(apply Aiz;first|omega|assumption)))
 (first | done | fail "no")) : p := h
theorem opv (h:p:=by
 (first
  |exact⟨Dy rfl⟩
  |(apply C5 rfl;exact lkp;first|rfl|assumption)
  |(apply G9 rfl;exact lkp;rfl)
  |(apply Aaa rfl;exact lkp;assumption;assumption)
  |exact Cb rfl rfl (by omega)|exact ss rfl rfl (by omega)|exact Ff rfl rfl (by omega)|exact z_iaddr rfl rfl (by omega)|exact Tn rfl rfl (by omega)
  |exact Aiq rfl rfl (by omega)
  |exact Ey rfl rfl (by omega)|exact Aev rfl rfl (by omega)
  |exact Rd rfl rfl (by omega)|exact Ai2 rfl rfl (by omega)
  |exact Ai3 rfl rfl (by omega)|exact Ai4 rfl rfl (by omega)
  |exact Aew rfl rfl (by omega)|exact Aex rfl rfl (by omega)
  |exact Aey rfl rfl (by omega)|exact Lj rfl rfl (by omega)
  |exact Aez rfl rfl (by omega)|exact Ae0 rfl rfl (by omega)
  |exact rq|exact Hw rfl rfl rfl|exact Wr rfl|exact Ai0 rfl rfl (by omega) (by omega)
  |exact Air rfl rfl (by omega) (by omega)|exact Ais rfl rfl (by omega)
  |exact Aad rfl (by omega)|exact Aac rfl rfl (by simp only [pw];omega)
  |exact sy rfl rfl (by omega) (by omega)|exact w_quoU rfl rfl rfl (by omega) (by simp only [pw];omega)|exact Ai5 rfl rfl (by omega)
  |exact Ai8 rfl rfl (by omega)|exact Ai9 rfl rfl (by omega)|exact sl_u2 rfl rfl rfl (by omega) (by omega)|exact Ajd rfl rfl rfl (by omega) (by omega) (by simp only [Aa];omega)
  |exact sl_k0 rfl rfl (by simp only [Aa];omega) (by omega) (by omega)|exact Ajb rfl rfl (by simp only [Aa];omega) (by omega) (by omega) (by omega)|exact Ajc rfl rfl rfl (by simp only [Aa];omega) (by omega) (by omega) (by omega)
  |exact Aje rfl rfl|exact Ajf rfl rfl|exact Acx rfl rfl|exact Ae6 rfl
  |(apply w_luk rfl rfl rfl;exact lkm)|exact Aab|exact Yv rfl rfl|exact Ae3 rfl rfl
  |exact rt rfl rfl (by omega)|exact ru rfl rfl (by omega)
  |exact Acs rfl rfl (by omega)|exact Acu rfl rfl (by omega)
  |exact sg rfl rfl (by omega)|exact si rfl rfl (by omega)
  |exact rv rfl rfl (by omega)|exact rx rfl rfl (by omega)
  |exact ry rfl rfl (by omega)|exact sd rfl rfl (by omega)
  |exact se rfl rfl (by omega)|exact sf rfl rfl (by omega)
  |exact Yu rfl rfl (by omega) (by omega)|exact Ae1 rfl rfl (by omega) (by omega)
  |exact Ai1 rfl rfl|exact Li rfl rfl|exact ij rfl)):p:=h
theorem chk (h:p:=by
 (repeat(first|exact Q9|(apply K4 rfl rfl opv rfl rfl)|(apply Ao2 rfl rfl rfl)))):p:=h
structure Lft (p:Prop):Prop where
 g:p
theorem wk (g:B)(h:Lft B→A:=by
 intro g_
 (try refine Bn L 1000 rfl ?_)
 (repeat(first
  |(apply st1 L rfl;exact opv;rfl)
  |(apply stS L rfl rfl rfl rfl rfl rfl;exact lkp;rfl;rfl)
  |(apply Aaf L rfl rfl rfl rfl rfl;exact lkp;(first|assumption|omega);rfl)
  |(apply Ao0 L rfl rfl rfl rfl rfl;exact lkp;(first|assumption|omega);rfl)
  |refine Pz L ?_
  |(apply Ax rfl rfl;exact opv)
  |(apply Rh rfl rfl)
  |(apply Yx L;exact chk;rfl)
  |(apply p_0;exact chk)
  |(apply Hh L rfl rfl;exact opv)
  |(apply Ao3 L rfl rfl)
  |(apply Ao4 L rfl rfl rfl rfl rfl rfl rfl;exact lkp;rfl;refine Bn L 1000 rfl ?_)
  |(apply ba L rfl rfl rfl rfl rfl rfl;exact lkp;(first|assumption|omega);refine Bn L 1000 rfl ?_)))
 exact g_.g):A:=h ⟨g⟩
theorem res (h:p:=by
 (first
  |exact F6 rfl
  |exact E5 rfl (Bk.e lkp) rfl Er
  |exact C4 rfl (Bk.e lkp) rfl Er
  |exact E5 rfl (Bk.e lkp) rfl (F6 rfl)
  |exact C4 rfl (Bk.e lkp) rfl (F6 rfl))):p:=h
theorem ret (hf:p)(g:B)(h:p→Lft B→A:=by
 intro hf_ g_
 refine wk ?_
 first
  |(apply il L hf_ res G;exact g_.g)
  |(apply Ao1 L hf_ res G;exact g_.g)):A:=h hf ⟨g⟩
theorem cal (g:B)(h:p→Lft B→A:=by
 intro hc_ g_
 refine wk ?_
 first
  |(apply Ae4 L rfl rfl rfl rfl;exact hc_;exact g_.g)
  |(apply callc0E L rfl rfl rfl rfl;exact hc_;exact g_.g)
  |(apply Ae5 L rfl rfl rfl rfl rfl;exact hc_;exact g_.g)
  |(apply dcall0E L rfl rfl rfl rfl rfl;exact hc_;exact g_.g)
  |(apply Acw L rfl rfl rfl rfl;exact hc_;exact g_.g)
  |(apply callc0 L rfl rfl rfl rfl;exact hc_;exact g_.g)
  |(apply Ai6 L rfl rfl rfl rfl rfl;exact hc_;exact g_.g)
  |(apply dcall0 L rfl rfl rfl rfl rfl;exact hc_;exact g_.g)) (c:p):A:=h c ⟨g⟩
theorem kps (h:p:=by
 (repeat(first|assumption|exact Kp.refl _|refine Kp.nw ?_|refine Kp.st (by first|exact .inl (by omega)|exact .inr rfl|exact .inr (by assumption)|exact .inr (by(try dsimp only);omega)) ?_|(apply Kp.tr0;assumption)|(apply Kp.trS;assumption;(intro i_ h1_ h2_;(try dsimp only at h2_ ⊢);omega))))):p:=h
theorem tsb (h:p:=by
 (repeat(first|exact qz|refine ig rfl ?_))):p:=h
