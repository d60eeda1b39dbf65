/- Part of the proof. -/
import Derived.Test.YtgkianlpkdfhkaaGreatH01
set_option linter.unusedVariables false
set_option linter.unusedSimpArgs false
set_option linter.unusedSectionVars false
namespace Go.Ev
variable {E:Env}{a:List O}{args c cp va:List AV}{b cap d f fn i len n nt o:Nat}{dfd:Bool}{g:CFn}{h h' m:H}{k:IntKind}{l:List (Nat×Option AV)}{lh:List (Nat×Option Blk)}{op:COp}{t:T Blk}{u v:AV}{y:O}
def tv (op:COp)(l:List (Nat×Option AV)):Option AV:=
 match op with
 | .mv x=>evO l x
 | .pick c a b=>(match evO l c with
  |some (.bool true)=>evO l a
  |some (.bool false)=>evO l b
  |_=>none)
 | .nilc x=>(match evO l x with
  |some (.ptr b o)=>some (.ptr b o)
  |_=>none)
 | .faddr x off=>(match evO l x with
  |some (.ptr b o)=>some (.ptr b (o+off))
  |_=>none)
 | .lenS x=>(match evO l x with
  |some (.slc _ _ n _)=>some (.int .i64 (n:Int))
  |some .nils=>some (.int .i64 ((0:Nat):Int))
  |some (.opq u)=>(match u with
   | .slice _ n _=>some (.int .i64 (n:Int))
   |_=>none)
  |_=>none)
 | .extract x i=>(match evO l x with
  |some (.tup vs)=>vs[i]?
  |_=>none)
 | .field1 x off=>(match evO l x with
  |some (.agg vs)=>vs[off]?
  |_=>none)
 | .fieldN x off k=>(match evO l x with
  |some (.agg vs)=>(match dtO vs off k with
   |some lv=>some (.agg lv)
   |none=>none)
  |_=>none)
 | .build z ps=>(match L9 l ps z with
  |some lv=>some (.agg lv)
  |none=>none)
 | .mkfn f a c=>(match F2 l a with
  |some va=>(match F2 l c with
   |some vc=>some (.fn f va vc)
   |none=>none)
  |none=>none)
 | .mkif k x=>(match evO l x with
  |some v=>some (.ifc k v)
  |none=>none)
 | .un o x=>(match o with
  | .not=>(match evO l x with
   |some (.bool t)=>some (.bool (!t))
   |_=>none)
  |_=>none)
 | .bin o x y _ sh=>(match o with
  | .eql=>(match sh with
   | .ptr=>(match evO l x with
    |some (.ptr _ _)=>(match evO l y with|some .nilp=>some (.bool false)|_=>none)
    |some .nilp=>(match evO l y with|some .nilp=>some (.bool true)|_=>none)
    |_=>none)
   | .nilS=>(match evO l x with
    |some (.slc _ _ _ _)=>(match evO l y with|some .nils=>some (.bool false)|_=>none)
    |some .nils=>(match evO l y with|some .nils=>some (.bool true)|_=>none)
    |_=>none)
   |_=>none)
  | .neq=>(match sh with
   | .ptr=>(match evO l x with
    |some (.ptr _ _)=>(match evO l y with|some .nilp=>some (.bool true)|_=>none)
    |some .nilp=>(match evO l y with|some .nilp=>some (.bool false)|_=>none)
    |_=>none)
   | .nilS=>(match evO l x with
    |some (.slc _ _ _ _)=>(match evO l y with|some .nils=>some (.bool true)|_=>none)
    |some .nils=>(match evO l y with|some .nils=>some (.bool false)|_=>none)
    |_=>none)
   |_=>none)
  |_=>none)
 |_=>none
theorem G1 (e:tv op l=some v):exec op h (tms l)= .val v h:=by
 cases op <;> try simp only [tv]at e
 case mv x=>exact Aj4 e
 case pick c a b=>
  cases hc:evO l c with
  |none=>rw [hc]at e;cases e
  |some u=>
   rw [hc]at e
   cases u <;> (try simp only at e) <;> first|(cases e;done)|skip
   rename_i t
   cases t <;> (try simp only at e);·exact zq hc e
   ·exact zp hc e
 case nilc x=>
  cases hc:evO l x with
  |none=>rw [hc]at e;cases e
  |some u=>
   rw [hc]at e
   cases u <;> (try simp only at e) <;> first|(cases e;done)|skip
   cases e;exact Ada (Ab hc)
 case faddr x off=>
  cases hc:evO l x with
  |none=>rw [hc]at e;cases e
  |some u=>
   rw [hc]at e
   cases u <;> (try simp only at e) <;> first|(cases e;done)|skip
   cases e;exact zi (Ab hc) rfl
 case lenS x=>
  cases hc:evO l x with
  |none=>rw [hc]at e;cases e
  |some u=>
   rw [hc]at e
   cases u <;> (try simp only at e) <;> first|(cases e;done)|skip
   ·cases e;exact zl (Ab hc)
   ·cases e;exact Adb (Ab hc)
   ·rename_i q
    cases q <;> (try simp only at e) <;> first|(cases e;done)|skip
    cases e;simp only [exec,Af,Ab hc];rfl
 case extract x i=>
  cases hc:evO l x with
  |none=>rw [hc]at e;cases e
  |some u=>
   rw [hc]at e
   cases u <;> (try simp only at e) <;> first|(cases e;done)|skip
   exact iu (Ab hc) e
 case field1 x off=>
  cases hc:evO l x with
  |none=>rw [hc]at e;cases e
  |some u=>
   rw [hc]at e
   cases u <;> (try simp only at e) <;> first|(cases e;done)|skip
   exact ru (Ab hc) e
 case fieldN x off k=>
  cases hc:evO l x with
  |none=>rw [hc]at e;cases e
  |some u=>
   rw [hc]at e
   cases u <;> (try simp only at e) <;> first|(cases e;done)|skip
   rename_i vs
   cases hd:dtO vs off k with
   |none=>rw [hd]at e;cases e
   |some lv=>rw [hd]at e;cases e;exact sf hc hd
 case build z ps=>
  cases hc:L9 l ps z with
  |none=>rw [hc]at e;cases e
  |some lv=>rw [hc]at e;cases e;exact zr hc
 case mkfn f a c=>
  cases ha:F2 l a with
  |none=>rw [ha]at e;cases e
  |some va=>
   cases hc:F2 l c with
   |none=>rw [ha,hc]at e;cases e
   |some vc=>rw [ha,hc]at e;cases e;exact Adj ha hc
 case mkif k x=>
  cases hc:evO l x with
  |none=>rw [hc]at e;cases e
  |some u=>rw [hc]at e;cases e;exact Adk hc
 case un o x=>
  cases o <;> (try simp only at e) <;> first|(cases e;done)|skip
  cases hc:evO l x with
  |none=>rw [hc]at e;cases e
  |some u=>
   rw [hc]at e
   cases u <;> (try simp only at e) <;> first|(cases e;done)|skip
   cases e;exact Af4 (Ab hc)
 case bin o x y q sh=>
  cases o <;> (try simp only at e) <;> first|(cases e;done)|skip
  all_goals
   cases sh <;> (try simp only at e) <;> first|(cases e;done)|skip
   all_goals
    cases hc:evO l x with
    |none=>rw [hc]at e;cases e
    |some u=>
     rw [hc]at e
     cases u <;> (try simp only at e) <;> first|(cases e;done)|skip
     all_goals
      cases hd:evO l y with
      |none=>rw [hd]at e;cases e
      |some w=>
       rw [hd]at e
       cases w <;> (try simp only at e) <;> first|(cases e;done)|skip
       cases e;simp only [exec,Af,Ab hc,Ab hd];rfl
 all_goals first|(cases e;done)|(unfold tv at e;cases e;done)
def gdO (g:Option (Nat×Bool))(l:List (Nat×Option AV)):Option Bool:=
 match g with
 |none=>some true
 |some p=>(match look l p.1 with
  |some (.bool c)=>some (bEq c p.2)
  |some (.tup [])=>some false
  |_=>none)
theorem Ay {g:Option (Nat×Bool)}{b:Bool}(e:gdO g l=some b):wanted (tms l) g=some b:=by
 cases g with
 |none=>exact e
 |some p=>simp only [gdO]at e;simp only [wanted,Hg];exact e
def ins (d:Option Nat)(v:AV)(l:List (Nat×Option AV)):List (Nat×Option AV):=
 match d with
 |none=>l
 |some d=>(d,some v)::l
theorem zw (d:Option Nat)(v:AV)(l:List (Nat×Option AV)):put (tms l) d v=tms (ins d v l):=by cases d <;> rfl
def adv:Nat→List AItem→List (Nat×Option AV)→List AItem×List (Nat×Option AV)
 |0,td,l=>(td,l)
 |n+1,td,l=>match td with
  | []=>([],l)
  |i::k=>match i with
   | .inBlock _=>adv n k l
   | .inScope _=>adv n k l
   | .ops r=>(match r with
    | []=>adv n k l
    |c::r=>(match gdO c.guard l with
     |some true=>(match tv c.op l with
      |some v=>(match c.dst with
       |some d=>adv n (.ops r::k) ((d,some v)::l)
       |none=>adv n (.ops r::k) l)
      |none=>(.ops (c::r)::k,l))
     |some false=>(match c.dst with
      |some d=>adv n (.ops r::k) ((d,some (.tup []))::l)
      |none=>adv n (.ops r::k) l)
     |none=>(.ops (c::r)::k,l)))
   | .code c=>(match c with
    | .skip=>adv n k l
    | .label _=>adv n k l
    | .seq a b=>adv n (.code a:: .code b::k) l
    | .block id b=>adv n (.code b:: .inBlock id::k) l
    | .scope b=>adv n (.code b:: .inScope b::k) l
    | .ops r=>adv n (.ops r::k) l
    | .cond x a b=>(match evO l x with
     |some (.bool true)=>adv n (.code a::k) l
     |some (.bool false)=>adv n (.code b::k) l
     |_=>(.code c::k,l))
    | .exit id=>(match exitTo id k with
     |some k'=>adv n k' l
     |none=>(.code c::k,l))
    | .goto lb=>(match gotoIn lb k with
     |some k'=>adv n k' l
     |none=>(.code c::k,l))
    |_=>(.code c::k,l))
   |_=>(i::k,l)
section
variable {P:Program}{F:T CFn}{K:T (List AV×AV)}{Q:Nat→AV→Prop}
variable (L:Lg P E F K)
variable {k:List AItem}{ds:List ADef}{ro:Option Nat}{cs:List AFr}
include L
theorem B0: ∀(n:Nat) {td td':List AItem} {l l':List (Nat×Option AV)},adv n td l=(td',l')→ Good P E Q ⟨⟨fn,nt,tms l',td',ds,.run,dfd,ro⟩,cs,h⟩→Good P E Q ⟨⟨fn,nt,tms l,td,ds,.run,dfd,ro⟩,cs,h⟩
 |0,td,td',l,l',e,g=>by cases e;exact g
 |n+1,td,td',l,l',e,g=>by
  have ih:=fun {td:List AItem} {l:List (Nat×Option AV)} (e:adv n td l=(td',l'))=>B0 n e g
  cases td with
  |nil=>cases e;exact g
  |cons i k=>
   cases i with
   |inBlock id=>exact ip L (ih e)
   |inScope b=>exact iq L (ih e)
   |ops r=>
    cases r with
    |nil=>exact Ade L (ih e)
    |cons c r=>
     obtain⟨d,gd,op⟩:=c;simp only [adv]at e
     cases hg:gdO gd l with
     |none=>rw [hg]at e;cases e;exact g
     |some b=>
      rw [hg]at e
      cases b with
      |false=>cases d with
       |none=>exact Li L (Ay hg) (ih e)
       |some d=>exact Li L (Ay hg) (ih e)
      |true=>
       simp only at e
       cases hv:tv op l with
       |none=>rw [hv]at e;cases e;exact g
       |some v=>
        rw [hv]at e
        cases d with
        |none=>exact I7 L (Ay hg) (G1 hv) (ih e)
        |some d=>exact I7 L (Ay hg) (G1 hv) (ih e)
   |code c=>
    cases c with
    |skip=>exact Acz L (ih e)
    |label _=>exact ze L (ih e)
    |seq a b=>exact Afy L (ih e)
    |block id b=>exact zf L (ih e)
    |scope b=>exact zg L (ih e)
    |ops r=>exact Add L (ih e)
    |cond x a b=>
     simp only [adv]at e
     cases hx:evO l x with
     |none=>rw [hx]at e;cases e;exact g
     |some u=>
      rw [hx]at e
      cases u <;> (try simp only at e) <;> first|(cases e;exact g)|skip
      rename_i t
      cases t with
      |true=>exact gcT L (Ab hx) (ih e)
      |false=>exact gcF L (Ab hx) (ih e)
    |exit id=>
     simp only [adv]at e
     cases hx:exitTo id k with
     |none=>rw [hx]at e;cases e;exact g
     |some k'=>rw [hx]at e;exact Ac0 L hx (ih e)
    |goto lb=>
     simp only [adv]at e
     cases hx:gotoIn lb k with
     |none=>rw [hx]at e;cases e;exact g
     |some k'=>rw [hx]at e;exact Ac1 L hx (ih e)
    |_=>cases e;exact g
   |_=>cases e;exact g
end
structure Bk (h:H)(b:Nat)(c:List AV):Prop where
 e:H.get h b=some (cl c)
 lt:b<h.n
section
variable {c0:List AV}{x:Option Blk}{S:Nat→Prop}
theorem Aj6 (k:Bk h b c):Bk (hp h.n h.t []) b c:=k
theorem te:Bk (hp (n+1) t ((n,some (cl c))::lh)) n c:=⟨Hj _ _ _ _ _,Nat.lt_succ_self n⟩
theorem Agi (k:Bk (hp n t lh) i c):Bk (hp (n+1) t ((n,x)::lh)) i c:=⟨(F1 _ _ _ _ (Nat.ne_of_lt k.lt)).trans k.e,Nat.lt_succ_of_lt k.lt⟩
theorem Agj (k:Bk (hp n t lh) b c0):Bk (hp n t ((b,some (cl c))::lh)) b c:=⟨Hj _ _ _ _ _,k.lt⟩
theorem Agk (hne:i≠b)(k:Bk (hp n t lh) i c):Bk (hp n t ((b,x)::lh)) i c:=⟨(F1 _ _ _ _ hne).trans k.e,k.lt⟩
theorem Ar (q:Kp S h h')(hs: ¬S i)(k:Bk h i c):Bk h' i c:=⟨q.get k.e k.lt hs,Nat.lt_of_lt_of_le k.lt q.n⟩
theorem Ag (q:K0 h h')(k:Bk h i c):Bk h' i c:=Ar q (fun f=>f) k
theorem Kp.tr0 (q:K0 m h')(k:Kp S h m):Kp S h h':= ⟨Nat.le_trans k.n q.n,fun b hb hs=>(q.old b (Nat.lt_of_lt_of_le hb k.n) fun f=>f).trans (k.old b hb hs)⟩
theorem Kp.trS {S':Nat→Prop}(q:Kp S' m h')(hs: ∀i,i<h.n→S' i→S i)(k:Kp S h m):Kp S h h':= ⟨Nat.le_trans k.n q.n,fun b hb hn=>(q.old b (Nat.lt_of_lt_of_le hb k.n) fun f=>hn (hs b hb f)).trans (k.old b hb hn)⟩
theorem Rn (e:c0=c)(k:Bk h b c0):Bk h b c:=e ▸ k
theorem Bk.hb (k:Bk h b c):HB h b c:=⟨k.e⟩
end
structure Mk (h:H)(r:Nat)(es:List AEnt)(ck:Nat):Prop where
 e:H.get h r=some (.map es ck)
 lt:r<h.n
section
variable {ck:Nat}{es:List AEnt}{x:Option Blk}{S:Nat→Prop}
theorem Agl (k:Mk h b es ck):Mk (hp h.n h.t []) b es ck:=k
theorem tf:Mk (hp (n+1) t ((n,some (.map es ck))::lh)) n es ck:=⟨Hj _ _ _ _ _,Nat.lt_succ_self n⟩
theorem Agm (k:Mk (hp n t lh) i es ck):Mk (hp (n+1) t ((n,x)::lh)) i es ck:=⟨(F1 _ _ _ _ (Nat.ne_of_lt k.lt)).trans k.e,Nat.lt_succ_of_lt k.lt⟩
theorem Agn (hne:i≠b)(k:Mk (hp n t lh) i es ck):Mk (hp n t ((b,x)::lh)) i es ck:=⟨(F1 _ _ _ _ hne).trans k.e,k.lt⟩
theorem Nz (q:Kp S h h')(hs: ¬S i)(k:Mk h i es ck):Mk h' i es ck:=⟨q.get k.e k.lt hs,Nat.lt_of_lt_of_le k.lt q.n⟩
theorem Ro (q:K0 h h')(k:Mk h i es ck):Mk h' i es ck:=Nz q (fun f=>f) k
end
section
variable {x z:O}{lv:List AV}
theorem Ff (e:evO l x=some (.ptr b o))(hb:Bk h b c)(hv:c[o]?=some v):XV (.load1 x) h l v h:=⟨zj (Ab e) hb.e hv⟩
theorem Kn {k:Nat}(e:evO l x=some (.ptr b o))(hb:Bk h b c)(hv:dtO c o k=some lv):XV (.loadN k x) h l (.agg lv) h:=⟨zt e hb.e hv⟩
theorem zx (e:evO l x=some (.ptr b o))(hb:Bk h b c)(hu:c[o]?=some u)(hv:c[o+1]?=some v):XV (.loadN 2 x) h l (.agg [u,v]) h:=by
 have h1:=(List.getElem?_eq_some_iff.1 hv).1;refine⟨bv (Ab e) hb.e (by omega) ?_⟩;apply List.ext_getElem?;intro i;rcases i with _|_|i;·rw [List.getElem?_take_of_lt (by omega),List.getElem?_drop];exact hu
 ·rw [List.getElem?_take_of_lt (by omega),List.getElem?_drop];exact hv
 ·rw [List.getElem?_take_eq_none (by omega)];rfl
theorem Ago {bytes a:Nat}{j:IntKind}(e:evO l x=some (.int k (a:Int)))(e1:evO l y=some (.int j (a:Int)))(h2:a*bytes≤281474976710656)(h3:a≤281474976710656): XV (.mkslice bytes c x y) (hp n t lh) l (.slc n 0 a a) (hp (n+1) t ((n,some (cl (rl c a)))::lh)):=⟨iy (Ab e) (Ab e1) (Nat.le_refl _) h2 h3 rfl⟩
theorem tg (e:evO l x=some (.slc b o len cap))(e1:evO l y=some (.int k (i:Int)))(hi:i<len):XV (.iaddrS 1 x y) h l (.ptr b (o+i)) h:=⟨Ri (Ab e) (Ab e1) hi (by show o+i*1=_;rw [Nat.mul_one])⟩
theorem D2 (e:evO l x=some (.slc b 0 len cap))(e1:evO l y=some (.int k (i:Int)))(hi:i<len):XV (.iaddrS 1 x y) h l (.ptr b i) h:=⟨Ri (Ab e) (Ab e1) hi (by show 0+i*1=_;rw [Nat.mul_one,Nat.zero_add])⟩
theorem Tv (e:evO l x=some (.ptr b 0))(e1:evO l y=some (.int k (i:Int)))(hi:i<len):XV (.iaddrA len 1 x y) h l (.ptr b i) h:=⟨Wq (Ab e) (Ab e1) hi (by show 0+i*1=_;rw [Nat.mul_one,Nat.zero_add])⟩
theorem zy:XV .mkmap (hp n t lh) l (.map n) (hp (n+1) t ((n,some (.map [] 0))::lh)):=⟨zo⟩
theorem Agp {sh:Bool}{k:Nat}(e:evO l x=some (.ifc k v))(e1:evO l y=some .nili):XV (.bin .neq x y sh .iface) h l (.bool true) h:=⟨by simp only [exec,Af,Ab e,Ab e1];cases sh <;> rfl⟩
theorem N0 {k:Bool}(e:evO l x=some .nili)(e1:evO l y=some .nili):XV (.bin .neq x y true .iface) h l (.bool false) h:=⟨by simp only [exec,Af,Ab e,Ab e1];rfl⟩
theorem ja {k:Nat}{z:AV}(e:evO l x=some (.ifc k v)):XV (.tassert x k z false) h l v h:=⟨iv (Ab e)⟩
section
variable {a:Nat}{p r:Int}{j:IntKind}{sh:Sh}{q:Bool}
theorem Ip (e:evO l x=some (.int k (a:Int)))(e1:evO l y=some (.int k (d:Int)))(ht:a<d):XV (.bin .lss x y q sh) h l (.bool true) h:=sj e e1 (by omega)
theorem Adl (e:evO l x=some (.int k (a:Int)))(e1:evO l y=some (.int k (d:Int)))(ht:d≤a):XV (.bin .lss x y q sh) h l (.bool false) h:=sq e e1 (by omega)
theorem Adm (e:evO l x=some (.int k (a:Int)))(e1:evO l y=some (.int k (d:Int)))(ht:a≤d):XV (.bin .leq x y q sh) h l (.bool true) h:=sr e e1 (by omega)
theorem Adn (e:evO l x=some (.int k (a:Int)))(e1:evO l y=some (.int k (d:Int)))(ht:d<a):XV (.bin .leq x y q sh) h l (.bool false) h:=ss e e1 (by omega)
theorem Ado (e:evO l x=some (.int k (a:Int)))(e1:evO l y=some (.int k (d:Int)))(ht:d<a):XV (.bin .gtr x y q sh) h l (.bool true) h:=sw e e1 (by omega)
theorem Rp (e:evO l x=some (.int k (a:Int)))(e1:evO l y=some (.int k (d:Int)))(ht:a≤d):XV (.bin .gtr x y q sh) h l (.bool false) h:=sx e e1 (by omega)
theorem Adp (e:evO l x=some (.int k (a:Int)))(e1:evO l y=some (.int k (d:Int)))(ht:d≤a):XV (.bin .geq x y q sh) h l (.bool true) h:=sy e e1 (by omega)
theorem Adq (e:evO l x=some (.int k (a:Int)))(e1:evO l y=some (.int k (d:Int)))(ht:a<d):XV (.bin .geq x y q sh) h l (.bool false) h:=s8 e e1 (by omega)
theorem Wt (e:evO l x=some (.int k (a:Int)))(e1:evO l y=some (.int k (d:Int)))(ht:a=d):XV (.bin .eql x y q .pint) h l (.bool true) h:=Abw e e1 (by omega)
theorem Aby (e:evO l x=some (.int k (a:Int)))(e1:evO l y=some (.int k (d:Int)))(ht:a≠d):XV (.bin .eql x y q .pint) h l (.bool false) h:=Abx e e1 (by omega)
theorem Agq (e:evO l x=some (.int k (a:Int)))(e1:evO l y=some (.int k (d:Int)))(ht:a≠d):XV (.bin .neq x y q .pint) h l (.bool true) h:=s9 e e1 (by omega)
theorem Agr (e:evO l x=some (.int k (a:Int)))(e1:evO l y=some (.int k (d:Int)))(ht:a=d):XV (.bin .neq x y q .pint) h l (.bool false) h:=ta e e1 (by omega)
theorem Adr (e:evO l x=some (.int .i64 p))(e1:evO l y=some (.int .i64 r))(h1: -9223372036854775808≤p+r)(h2:p+r≤9223372036854775807):XV (.bin .add x y q sh) h l (.int .i64 (p+r)) h:=⟨rp (Ab e) (Ab e1) (Lh h1 h2)⟩
theorem Ads (e:evO l x=some (.int .i64 p))(e1:evO l y=some (.int .i64 r))(h1: -9223372036854775808≤p - r)(h2:p - r≤9223372036854775807):XV (.bin .sub x y q sh) h l (.int .i64 (p - r)) h:=⟨rq (Ab e) (Ab e1) (Lh h1 h2)⟩
theorem th (hs:k.signed=false)(e:evO l x=some (.int k (a:Int)))(e1:evO l y=some (.int k (d:Int))):XV (.bin .add x y q sh) h l (.int k (((a+d) % pw k:Nat):Int)) h:= ⟨rp (Ab e) (Ab e1) (by rw [←Int.natCast_add,U1 hs])⟩
theorem Ju (hs:k.signed=false)(e:evO l x=some (.int k (a:Int)))(e1:evO l y=some (.int k (d:Int)))(hd:d≤a)(ha:a<pw k):XV (.bin .sub x y q sh) h l (.int k ((a - d:Nat):Int)) h:= ⟨rq (Ab e) (Ab e1) (by rw [←Int.ofNat_sub hd,U2 hs (by omega)])⟩
theorem zz (hs:k.signed=false)(e:evO l x=some (.int j (a:Int)))(ha:a<pw k):XV (.conv k x) h l (.int k (a:Int)) h:=⟨bw hs (Ab e) (Nat.mod_eq_of_lt ha)⟩
theorem U4 (hs:k.signed=false)(e:evO l x=some (.int j (a:Int))):XV (.conv k x) h l (.int k ((a % pw k:Nat):Int)) h:=⟨bw hs (Ab e) rfl⟩
theorem z6 (e:evO l x=some (.int j (a:Int)))(h2:a<9223372036854775808):XV (.conv .i64 x) h l (.int .i64 (a:Int)) h:=⟨rn (Ab e) (Lh (by omega) (by omega))⟩
theorem ti {s:Nat}(e:evO l x=some (.int k (a:Int)))(e1:evO l y=some (.int j (s:Int)))(hs:s≤bits k):XV (.bin .shr x y q sh) h l (.int k ((a >>> s:Nat):Int)) h:=⟨Af8 (Ab e) (Ab e1) hs rfl⟩
theorem Abz (hs:k.signed=false)(e:evO l x=some (.int k (a:Int)))(e1:evO l y=some (.int k (d:Int)))(ha:a<pw k)(hc:d<pw k)(hx:(a ^^^ d)<pw k):XV (.bin .xor x y q sh) h l (.int k ((a ^^^ d:Nat):Int)) h:=⟨Af7 hs (Ab e) (Ab e1) ha hc hx rfl⟩
theorem Adt (hs:k.signed=false)(e:evO l x=some (.int k (a:Int)))(ha:a<pw k):XV (.un .xor x) h l (.int k ((pw k - 1 - a:Nat):Int)) h:=⟨Adi hs (Ab e) ha rfl⟩
theorem Ags (e:evO l x=some (.int .i64 (a:Int)))(e1:evO l y=some (.int .i64 (d:Int)))(hd:0<d)(ha:a<9223372036854775808):XV (.bin .quo x y q sh) h l (.int .i64 ((a / d:Nat):Int)) h:=by
 refine⟨?_⟩;have h0:iEq (d:Int) (Int.ofNat 0)=false:=by rw [E7];exact decide_eq_false (by show(d:Int)≠0;omega)
 have h1:Int.tdiv (a:Int) (d:Int)=((a / d:Nat):Int):=rfl;have h2:a / d≤a:=Nat.div_le_self a d;simp only [exec,Af,Ab e,Ab e1,F9,Er,A8,h0,h1,vo];clear h1;generalize a / d=q at*;rw [Lh (by omega) (by omega)]
theorem Agt (e:evO l x=some (.int k (a:Int)))(e1:evO l y=some (.int k (d:Int)))(hd:0<d):XV (.bin .rem x y q sh) h l (.int k ((a % d:Nat):Int)) h:=by
 refine⟨?_⟩;have h0:iEq (d:Int) (Int.ofNat 0)=false:=by rw [E7];exact decide_eq_false (by show(d:Int)≠0;omega)
 have h1:Int.tmod (a:Int) (d:Int)=((a % d:Nat):Int):=rfl;simp only [exec,Af,Ab e,Ab e1,F9,Er,A8,h0,h1,vo]
theorem Yz (e:evO l x=some (.int k (a:Int)))(e1:evO l y=some (.int k (d:Int))):XV (.maxmin false x y) h l (.int k ((min a d:Nat):Int)) h:=⟨Abu (Ab e) (Ab e1) (by show min (a:Int) (d:Int)=_;omega)⟩
theorem Adu (e:evO l x=some (.int k (a:Int)))(e1:evO l y=some (.int k (d:Int))):XV (.maxmin true x y) h l (.int k ((max a d:Nat):Int)) h:=⟨Abu (Ab e) (Ab e1) (by show max (a:Int) (d:Int)=_;omega)⟩
end
end
def Ct (P:Program)(E:Env)(F:T CFn)(K:T (List AV×AV))(f:Nat)(args:List AV)(h:H)(post:AV→H→Prop):Prop:=
 ∀(Q:Nat→AV→Prop) (x:AFr) (cs:List AFr),(∀v h',post v h'→GO P E Q (finish v cs h' x))→GO P E Q (B8 F K (.func f) args false x cs h)
def jc:Nat→List AV→List (Nat×Option AV)→List (Nat×Option AV)
 |_,[],acc=>acc
 |i,a::r,acc=>jc (i+1) r ((i,some a)::acc)
theorem Mc: ∀(args:List AV) (i:Nat) (acc:List (Nat×Option AV)),ofL i (tms acc) args=tms (jc i args acc)
 | [],_,_=>rfl
 |a::r,i,acc=>Mc r (i+1) ((i,some a)::acc)
def z7 (l:List (Nat×Option AV)):List CRes→Option (List AV)
 | []=>some []
 | .tmp i::r=>(match look l i with
  |some v=>(match z7 l r with
   |some vs=>some (v::vs)
   |none=>none)
  |none=>none)
 |_::_=>none
theorem Db {l:List (Nat×Option AV)}{h:H}: ∀{rs:List CRes} {vs:List AV},z7 l rs=some vs→results (tms l) h rs=some vs
 | [],vs,e=>by cases e;rfl
 | .tmp i::r,vs,e=>by
  simp only [z7]at e
  cases h1:look l i with
  |none=>rw [h1]at e;cases e
  |some v=>
   cases h2:z7 l r with
   |none=>rw [h1,h2]at e;cases e
   |some us=>rw [h1,h2]at e;cases e;exact Abv h1 (Db h2)
 | .cell1 _::r,vs,e=>by cases e
 | .cellN _ _::r,vs,e=>by cases e
 | .bad::r,vs,e=>by cases e
section
variable {P:Program}{F:T CFn}{K:T (List AV×AV)}{Q:Nat→AV→Prop}
variable {l':List (Nat×Option AV)}{k td':List AItem}{ds:List ADef}{ro:Option Nat}{cs:List AFr}{gd:Option (Nat×Bool)}{d:Option Nat}{r:List CI}
variable {x:O}{c' lv:List AV}{post:AV→H→Prop}
variable (L:Lg P E F K)
include L
theorem st1 {d:Nat}(hg:gdO gd l=some true)(hx:XV op h l v h')(ha:adv 1000 (.ops r::k) ((d,some v)::l)=(td',l'))(g:Good P E Q ⟨⟨fn,nt,tms l',td',ds,.run,dfd,ro⟩,cs,h'⟩): Good P E Q ⟨⟨fn,nt,tms l,.ops (⟨some d,gd,op⟩::r)::k,ds,.run,dfd,ro⟩,cs,h⟩:= I7 L (Ay hg) hx.e (B0 L 1000 ha g)
theorem stS {m:Nat}(hg:gdO gd l=some true)(e:evO l x=some (.ptr b o))(e1:evO l y=some v)(hc:Bj v=some lv)(hm:Nat.beq lv.length m=true)(hp1:As lv=true)(hb:Bk (hp n t lh) b c)(hs:Rl lv c o=some c') (ha:adv 1000 (.ops r::k) l=(td',l')) (g:Good P E Q ⟨⟨fn,nt,tms l',td',ds,.run,dfd,ro⟩,cs,hp n t ((b,some (cl c'))::lh)⟩): Good P E Q ⟨⟨fn,nt,tms l,.ops (⟨none,gd,.store m x y⟩::r)::k,ds,.run,dfd,ro⟩,cs,hp n t lh⟩:=zu L (Ay hg) e e1 hc hm hp1 hb.e hs (B0 L 1000 ha g)
theorem z8 (hg:gdO gd l=some true)(e:evO l x=some (.ptr b o))(e1:evO l y=some v)(hc:Bj v=some [v])(hp1:Es v=true)(hb:Bk (hp n t lh) b c)(ho:o<c.length) (ha:adv 1000 (.ops r::k) l=(td',l')) (g:Good P E Q ⟨⟨fn,nt,tms l',td',ds,.run,dfd,ro⟩,cs,hp n t ((b,some (cl (c.set o v)))::lh)⟩): Good P E Q ⟨⟨fn,nt,tms l,.ops (⟨none,gd,.store 1 x y⟩::r)::k,ds,.run,dfd,ro⟩,cs,hp n t lh⟩:=Aj5 L ⟨Ay hg⟩ e e1 hc hp1 ⟨hb.e⟩ ho (B0 L 1000 ha g)
omit L in
theorem tj (c:List AV)(v u:AV)(o:Nat)(ho:o+1<c.length):Ga [v,u] c o=(c.set o v).set (o+1) u:=by
 apply List.ext_getElem?;intro i;rw [Fp [v,u] c o i (by simp;omega),List.getElem?_set,List.getElem?_set,List.length_set];by_cases h1:o+1=i;·subst h1;simp [ho]
 ·by_cases h2:o=i;·subst h2;simp;omega
  ·rw [if_neg h1,if_neg h2,if_neg (by simp;omega)]
theorem Aj7 (hg:gdO gd l=some true)(e:evO l x=some (.ptr b o))(e1:evO l y=some (.agg [v,u]))(hp1:Es v=true)(hp2:Es u=true)(hb:Bk (hp n t lh) b c)(ho:o+1<c.length) (ha:adv 1000 (.ops r::k) l=(td',l')) (g:Good P E Q ⟨⟨fn,nt,tms l',td',ds,.run,dfd,ro⟩,cs,hp n t ((b,some (cl ((c.set o v).set (o+1) u)))::lh)⟩): Good P E Q ⟨⟨fn,nt,tms l,.ops (⟨none,gd,.store 2 x y⟩::r)::k,ds,.run,dfd,ro⟩,cs,hp n t lh⟩:= U0 L (Ay hg) (Ab e) (Ab e1) rfl rfl (by simp only [As,hp1,hp2]) hb.e (by have: [v,u].length=2:=rfl;omega) (tj c v u o ho) (B0 L 1000 ha g)
theorem Ab0 {d:Nat}(hg:gdO gd l=some true)(e:evO l x=some (.fn (.func f) [] cp))(ha:F2 l a=some va)(hr:E3 va cp=some args)(hc:Ct P E F K f args h post) (g: ∀v h',post v h'→Good P E Q ⟨⟨fn,nt,tms ((d,some v)::l),.ops r::k,ds,.run,dfd,ro⟩,cs,hp h'.n h'.t []⟩): Good P E Q ⟨⟨fn,nt,tms l,.ops (⟨some d,gd,.callv x a⟩::r)::k,ds,.run,dfd,ro⟩,cs,h⟩:= Tu L (Ay hg) (In e ha hr) (hc Q _ cs fun v h' p=>Nv L cvb (g v h' p))
theorem Adv {d:Nat}{R:AV→Prop}(hg:gdO gd l=some true)(e:evO l x=some (.fn (.func f) [] cp))(ha:F2 l a=some va)(hr:E3 va cp=some args)(hc:Ct P E F K f args (hp n t lh) fun v h'=>R v∧h'=hp n t lh) (g: ∀v,R v→Good P E Q ⟨⟨fn,nt,tms ((d,some v)::l),.ops r::k,ds,.run,dfd,ro⟩,cs,hp n t lh⟩): Good P E Q ⟨⟨fn,nt,tms l,.ops (⟨some d,gd,.callv x a⟩::r)::k,ds,.run,dfd,ro⟩,cs,hp n t lh⟩:= Tu L (Ay hg) (In e ha hr) (hc Q _ cs fun v h' p=>Nv L cvb (p.2 ▸ g v p.1))
theorem Rq {l0 l1:List (Nat×Option AV)}{td:List AItem}(hq:Fk F K f g) (body: ∀(Q:Nat→AV→Prop) (x:AFr) (cs:List AFr),(∀v h',post v h'→GO P E Q (finish v cs h' x))→Good P E Q ⟨⟨f,g.ntmps,tms l1,td,[],.run,false,none⟩,x::cs,hp h.n h.t []⟩) (hn:Nat.ble args.length g.ntmps=true:=by exact rfl) (hl:jc 0 args []=l0:=by exact rfl) (ha:adv 1000 [.code g.body] l0=(td,l1):=by exact rfl):Ct P E F K f args h post:=by
 intro Q x cs hG;have h1:ofL 0 .leaf args=tms l0:=by rw [←hl];exact Mc args 0 []
 exact Adc L hq.1 hq.2 hn h1 (B0 L 1000 ha (body Q x cs hG))
section
variable {l1:List (Nat×Option AV)}{td:List AItem}{a0 a1 a2 a3 a4 a5 a6 a7:AV}
theorem Am (hq:Fk F K f g) (body: ∀(Q:Nat→AV→Prop) (x:AFr) (cs:List AFr),(∀v h',post v h'→GO P E Q (finish v cs h' x))→Good P E Q ⟨⟨f,g.ntmps,tms l1,td,[],.run,false,none⟩,x::cs,hp h.n h.t []⟩) (hn:Nat.ble 1 g.ntmps=true:=by exact rfl) (ha:adv 1000 [.code g.body] [(0,some a0)]=(td,l1):=by exact rfl):Ct P E F K f [a0] h post:=Rq L hq body hn rfl ha
theorem Ad (hq:Fk F K f g) (body: ∀(Q:Nat→AV→Prop) (x:AFr) (cs:List AFr),(∀v h',post v h'→GO P E Q (finish v cs h' x))→Good P E Q ⟨⟨f,g.ntmps,tms l1,td,[],.run,false,none⟩,x::cs,hp h.n h.t []⟩) (hn:Nat.ble 2 g.ntmps=true:=by exact rfl) (ha:adv 1000 [.code g.body] [(1,some a1),(0,some a0)]=(td,l1):=by exact rfl):Ct P E F K f [a0,a1] h post:=Rq L hq body hn rfl ha
theorem Ba (hq:Fk F K f g) (body: ∀(Q:Nat→AV→Prop) (x:AFr) (cs:List AFr),(∀v h',post v h'→GO P E Q (finish v cs h' x))→Good P E Q ⟨⟨f,g.ntmps,tms l1,td,[],.run,false,none⟩,x::cs,hp h.n h.t []⟩) (hn:Nat.ble 3 g.ntmps=true:=by exact rfl) (ha:adv 1000 [.code g.body] [(2,some a2),(1,some a1),(0,some a0)]=(td,l1):=by exact rfl):Ct P E F K f [a0,a1,a2] h post:=Rq L hq body hn rfl ha
theorem Adw (hq:Fk F K f g) (body: ∀(Q:Nat→AV→Prop) (x:AFr) (cs:List AFr),(∀v h',post v h'→GO P E Q (finish v cs h' x))→Good P E Q ⟨⟨f,g.ntmps,tms l1,td,[],.run,false,none⟩,x::cs,hp h.n h.t []⟩) (hn:Nat.ble 4 g.ntmps=true:=by exact rfl) (ha:adv 1000 [.code g.body] [(3,some a3),(2,some a2),(1,some a1),(0,some a0)]=(td,l1):=by exact rfl):Ct P E F K f [a0,a1,a2,a3] h post:=Rq L hq body hn rfl ha
theorem Lk (hq:Fk F K f g) (body: ∀(Q:Nat→AV→Prop) (x:AFr) (cs:List AFr),(∀v h',post v h'→GO P E Q (finish v cs h' x))→Good P E Q ⟨⟨f,g.ntmps,tms l1,td,[],.run,false,none⟩,x::cs,hp h.n h.t []⟩) (hn:Nat.ble 5 g.ntmps=true:=by exact rfl) (ha:adv 1000 [.code g.body] [(4,some a4),(3,some a3),(2,some a2),(1,some a1),(0,some a0)]=(td,l1):=by exact rfl):Ct P E F K f [a0,a1,a2,a3,a4] h post:=Rq L hq body hn rfl ha
end
theorem Agu {x:AFr}{vs:List AV}(hf:T.get F fn=some g)(hr:results (tms l) h g.results=some vs)(hG: ∀v h',post v h'→GO P E Q (finish v cs h' x))(p:post (single vs) h): Good P E Q ⟨⟨fn,nt,tms l,.code .ret::k,[],.run,false,none⟩,x::cs,h⟩:=Af1 L hf hr (hG _ _ p)
theorem Aj8 {x:AFr}{vs:List AV}(hf:T.get F fn=some g)(hr:results (tms l) h g.results=some vs)(hG: ∀v h',post v h'→GO P E Q (finish v cs h' x))(p:post (single vs) h): Good P E Q ⟨⟨fn,nt,tms l,[],[],.run,false,none⟩,x::cs,h⟩:=Abl L hf hr (hG _ _ p)
omit L in
theorem Ct.mono {post':AV→H→Prop}(c:Ct P E F K f args h post')(m: ∀v h',post' v h'→post v h'):Ct P E F K f args h post:=fun Q x cs g=>c Q x cs fun v h' p=>g v h' (m v h' p)
theorem B9 {α: Type}{bd:CC}(T:Nat→α→List (Nat×Option AV))(n:Nat)(R:Nat→α→H→Prop){i0:Nat}(s0:α){h0:H} (hT:TSub (tms (T i0 s0)) (tms l)) (hR:R i0 s0 h0) (hi:i0≤n) (body: ∀i s h,i<n→R i s h→(∀s' h' l',R (i+1) s' h'→TSub (tms (T (i+1) s')) (tms l')→Good P E Q ⟨⟨fn,nt,tms l',.inLoop bd::k,ds,.run,dfd,ro⟩,cs,h'⟩)→Good P E Q ⟨⟨fn,nt,tms (T i s),.code bd:: .inLoop bd::k,ds,.run,dfd,ro⟩,cs,hp h.n h.t []⟩) (done: ∀s h,R n s h→Good P E Q ⟨⟨fn,nt,tms (T n s),.code bd:: .inLoop bd::k,ds,.run,dfd,ro⟩,cs,hp h.n h.t []⟩): Good P E Q ⟨⟨fn,nt,tms l,.code (.loop bd)::k,ds,.run,dfd,ro⟩,cs,h0⟩:=by
 have main: ∀m i s h,i+m=n→R i s h→Good P E Q ⟨⟨fn,nt,tms (T i s),.code bd:: .inLoop bd::k,ds,.run,dfd,ro⟩,cs,hp h.n h.t []⟩:=by
  intro m;induction m with
  |zero=>
       intro i s h e hR;have:i=n:=by omega
       subst this;exact done s h hR
  |succ m ih=>intro i s h e hR;exact body i s h (by omega) hR fun s' h' l' hR' hT'=>Bz L (Fu L hT' (ih (i+1) s' h' (by omega) hR'))
 exact A5 L (Fu L hT (main (n - i0) i0 s0 h0 (by omega) hR))
section
variable {q:List (Nat×Option AV)}{nm:List Nat}{pre chk:List DI}{ps:List Ph}{di:Nat}
omit L
theorem A6 (ho:C2 l nm=some q)(hg:gdO gd q=some true)(hx:XV op h q v h') (g:Bp P E Q pre chk ps k fn nt (tms ((di,some v)::l)) ds dfd ro cs h'):Bp P E Q (⟨⟨some di,gd,op⟩,nm⟩::pre) chk ps k fn nt (tms l) ds dfd ro cs h:=p_v ho (Ay hg) hx.e g
theorem Ll (ho:C2 l nm=some q)(hg:gdO gd q=some false) (g:Bp P E Q pre chk ps k fn nt (tms ((di,some (.tup []))::l)) ds dfd ro cs h):Bp P E Q (⟨⟨some di,gd,op⟩,nm⟩::pre) chk ps k fn nt (tms l) ds dfd ro cs h:=p_s ho (Ay hg) g
theorem z9 (ho:C2 l nm=some q)(hg:gdO gd q=some true)(hx:XV op h q v h')(hl:look l di=some v)(ha:Lj 20 v=true)(g:checks chk (tms l) h=true):checks (⟨⟨some di,gd,op⟩,nm⟩::chk) (tms l) h=true:=k_v ho (Ay hg) hx.e hl ha g
theorem Aj9 (ho:C2 l nm=some q)(hg:gdO gd q=some false)(hl:look l di=some (.tup []))(g:checks chk (tms l) h=true):checks (⟨⟨some di,gd,op⟩,nm⟩::chk) (tms l) h=true:=k_s ho (Ay hg) hl g
include L
theorem N1 (hc:checks chk (tms l) h=true)(ha:adv 1000 k l=(td',l'))(g:Good P E Q ⟨⟨fn,nt,tms l',td',ds,.run,dfd,ro⟩,cs,h⟩):Bp P E Q [] chk [] k fn nt (tms l) ds dfd ro cs h:=p_e hc (B0 L 1000 ha g)
theorem Hk (ho:C2 l nm=some q)(hg:gdO gd q=some true)(hx:XV op h q v h') (g:Bp P E Q pre chk ps k fn nt (tms ((di,some v)::l)) ds dfd ro cs h'):Good P E Q ⟨⟨fn,nt,tms l,.drawn ⟨⟨⟨some di,gd,op⟩,nm⟩,pre,chk⟩ ps::k,ds,.run,dfd,ro⟩,cs,h⟩:=e_v L ho (Ay hg) hx.e g
theorem Aka (ho:C2 l nm=some q)(hg:gdO gd q=some false) (g:Bp P E Q pre chk ps k fn nt (tms ((di,some (.tup []))::l)) ds dfd ro cs h):Good P E Q ⟨⟨fn,nt,tms l,.drawn ⟨⟨⟨some di,gd,op⟩,nm⟩,pre,chk⟩ ps::k,ds,.run,dfd,ro⟩,cs,h⟩:=e_s L ho (Ay hg) g
theorem Agv (ho:C2 l nm=some q)(hg:gdO gd q=some true)(e:evO q x=some (.fn (.func f) [] cp))(ha:F2 q a=some va)(hr:E3 va cp=some args)(hc:Ct P E F K f args h post) (g: ∀v h',post v h'→Bp P E Q pre chk ps k fn nt (tms ((di,some v)::l)) ds dfd ro cs (hp h'.n h'.t [])): Good P E Q ⟨⟨fn,nt,tms l,.drawn ⟨⟨⟨some di,gd,.callv x a⟩,nm⟩,pre,chk⟩ ps::k,ds,.run,dfd,ro⟩,cs,h⟩:= e_c L ho (Ay hg) (In e ha hr) (hc Q _ cs fun v h' p=>fd cvb (g v h' p))
theorem Adx {R:AV→Prop}(ho:C2 l nm=some q)(hg:gdO gd q=some true)(e:evO q x=some (.fn (.func f) [] cp))(ha:F2 q a=some va)(hr:E3 va cp=some args)(hc:Ct P E F K f args (hp n t lh) fun v h'=>R v∧h'=hp n t lh) (g: ∀v,R v→Bp P E Q pre chk ps k fn nt (tms ((di,some v)::l)) ds dfd ro cs (hp n t lh)): Good P E Q ⟨⟨fn,nt,tms l,.drawn ⟨⟨⟨some di,gd,.callv x a⟩,nm⟩,pre,chk⟩ ps::k,ds,.run,dfd,ro⟩,cs,hp n t lh⟩:= e_c L ho (Ay hg) (In e ha hr) (hc Q _ cs fun v h' p=>fd cvb (p.2 ▸ g v p.1))
theorem Akb {m:Nat}(ho:C2 l nm=some q)(hg:gdO gd q=some true)(e:evO q x=some (.ptr b o))(e1:evO q y=some v)(hc:Bj v=some lv)(hm:Nat.beq lv.length m=true)(hp1:As lv=true) (hb:Bk (hp n t lh) b c) (hs:Rl lv c o=some c') (g:Good P E Q ⟨⟨fn,nt,tms l,k,ds,.run,dfd,ro⟩,cs,hp n t ((b,some (cl c'))::lh)⟩): Good P E Q ⟨⟨fn,nt,tms l,.drawn ⟨⟨⟨none,gd,.store m x y⟩,nm⟩,[],[]⟩ []::k,ds,.run,dfd,ro⟩,cs,hp n t lh⟩:= Agd L ho (Ay hg) e e1 hc hm hp1 hb.e hs fun h' hs'=>p_e bz (L7 L hs' g)
theorem tn (ho:C2 l nm=some q)(hg:gdO gd q=some true)(e:evO q x=some (.ptr b o))(e1:evO q y=some v)(hc:Bj v=some [v])(hp1:Es v=true) (hb:Bk (hp n t lh) b c) (ho':o<c.length) (g:Good P E Q ⟨⟨fn,nt,tms l,k,ds,.run,dfd,ro⟩,cs,hp n t ((b,some (cl (c.set o v)))::lh)⟩): Good P E Q ⟨⟨fn,nt,tms l,.drawn ⟨⟨⟨none,gd,.store 1 x y⟩,nm⟩,[],[]⟩ []::k,ds,.run,dfd,ro⟩,cs,hp n t lh⟩:=by
 obtain⟨h',q1,q2⟩:=L6 (n:=n) (t:=t) (lh:=lh) (lv:= [v]) (by simp only [As,hp1]) hb.e (by have: [v].length=1:=rfl;omega) (Ws c v o ho');have hx:exec (.store 1 x y) (hp n t lh) (tms q)= .val .unk h':=by simp only [exec,Af,Ab e,Ab e1,hc,q1];rfl
 exact bu L (dst:=none) (by rw [B6 ho];exact Ay hg) (by rw [B6 ho];exact hx) (p_e (l:=l) bz (L7 L q2 g))
theorem Aaa {a1 a2:Alt}(g1:Bp P E Q a1.pre a1.chk a1.l k fn nt (tms l) ds dfd ro cs h)(g2:Bp P E Q a2.pre a2.chk a2.l k fn nt (tms l) ds dfd ro cs h):Good P E Q ⟨⟨fn,nt,tms l,.code (.alts [a1,a2])::k,ds,.run,dfd,ro⟩,cs,h⟩:= Ac7 L fun a ha=>by cases ha with
  |head=>exact g1
  |tail _ h=>cases h with
   |head=>exact g2
   |tail _ h=>cases h
end
end
variable {A B p:Prop}{a:Nat}
theorem Az (h:a≤b):Nat.ble a b=true:=by rw [Nat.ble_eq];exact h
theorem Iq (h:a≠b):Nat.beq a b=false:=by
 cases hq:Nat.beq a b with
 |false=>rfl
 |true=>exact absurd (Nat.eq_of_beq_eq_true hq) h
section
variable {x z w:O}{size c m:Nat}{j:IntKind}
theorem Agw {lo hi:Option O}{la lb:Option Nat}(e:evO l x=some (.slc b o len (Aa+size)))(h1:BndR l lo la)(h2:BndR l hi lb)(hc:lb.getD len=c)(ha:la.getD 0=a)(hac:a≤c)(hcl:c≤len): XV (.sliceS size x lo hi none) h l (.slc b (o+a*size) (c - a) (Aa+size)) h:=by refine⟨?_⟩;have g3:Dg (tms l) none=some none:=rfl;simp only [exec,Af,h1.opt,h2.opt,g3,Ab e,Gv,Po,Az (show Aa≤Aa+size by omega),Qg,ha,hc,Az hac,Az hcl];have q3:Nat.beq (Aa+size) (Nat.add Aa size)=true:=Nat.beq_refl _;rw [q3];rfl
theorem Agx (e:evO l x=some (.slc b o len (Aa+size)))(e2:evO l z=some (.int k (c:Int)))(hcl:c≤len):XV (.sliceS size x none (some z) none) h l (.slc b o c (Aa+size)) h:=by have:=Agw (h:=h) (a:=0) (c:=c) e .no (.at e2) rfl rfl (Nat.zero_le _) hcl;rwa [Nat.zero_mul,Nat.add_zero,Nat.sub_zero]at this
theorem Agy (e:evO l x=some (.slc b o len (Aa+1)))(e1:evO l y=some (.int j (a:Int)))(hal:a≤len):XV (.sliceS 1 x (some y) none none) h l (.slc b (o+a) (len - a) (Aa+1)) h:=by have:=Agw (h:=h) (a:=a) (c:=len) e (.at e1) .no rfl rfl hal (Nat.le_refl _);rwa [Nat.mul_one]at this
theorem Agz (e:evO l x=some (.slc b o len (Aa+size)))(e1:evO l z=some (.int j (c:Int)))(e2:evO l w=some (.int k (m:Int)))(hc:c≤m)(hm:m≤len)(hl:len<Aa): XV (.sliceS size x none (some z) (some w)) h l (.slc b o c m) h:=by
 refine⟨?_⟩;have g1:Dg (tms l) none=some none:=rfl;simp only [exec,Af,g1,(BndR.at e1).opt,(BndR.at e2).opt,Ab e,Gv,Po,Az (show Aa≤Aa+size by omega),Qg,Az hc,Az hm,Option.getD_none,Az (Nat.zero_le c),Az (show Nat.succ m≤Aa by omega),vo];have hz:Nat.mul 0 size=0:=Nat.zero_mul size;have h3:Nat.sub c 0=c:=rfl;have h4:Nat.sub m 0=m:=rfl;simp only [hz,h3,h4]
 cases Nat.beq m 0 <;> rfl
theorem Ag0 (e:evO l x=some .nils)(e2:evO l z=some (.int k ((0:Nat):Int))):XV (.sliceS size x none (some z) none) h l .nils h:=by refine⟨?_⟩;have g1:Dg (tms l) none=some none:=rfl;simp only [exec,Af,g1,(BndR.at e2).opt,Ab e];rfl
theorem Ady (e:evO l x=some .nils):XV (.capS x) h l (.int .i64 ((0:Nat):Int)) h:=⟨by simp only [exec,Af,Ab e];rfl⟩
variable {sl bytes:Nat}
theorem Ag1 (e:evO l x=some .nils)(e1:evO l y=some .nils):XV (.append size bytes x y) h l .nils h:=⟨by simp only [exec,Af,Ab e,Ab e1];rfl⟩
end
theorem lkp (h:p:=by
 (repeat(first|assumption|exact te|(apply Aj6;first|assumption|(apply Ag;assumption)|(apply Ar;assumption;(first|omega|(dsimp only;omega))))|apply Agi|apply Agj|(apply Agk;first|omega|assumption)))
 (first | done | fail "no")) : p := h
theorem lkm (h:p:=by
 (repeat(first|assumption|exact tf|(apply Agl;first|assumption|(apply Ro;assumption)|(apply Nz;assumption;(first|omega|(dsimp only;omega))))|apply Agm|(apply Agn;first|omega|assumption)))
 (first | done | fail "no")) : p := h
theorem opv (h:p:=by
 (first
  |exact⟨G1 rfl⟩
  |(apply Ff rfl;exact lkp;first|rfl|assumption)
  |(apply Kn rfl;exact lkp;rfl)
  |(apply zx rfl;exact lkp;assumption;assumption)
  |exact D2 rfl rfl (by omega)|exact tg rfl rfl (by omega)|exact Jt rfl rfl (by omega)|exact z_iaddr rfl rfl (by omega)|exact Tv rfl rfl (by omega)
  |exact Agf rfl rfl (by omega)
  |exact Ip rfl rfl (by omega)|exact Adl rfl rfl (by omega)
  |exact Wt rfl rfl (by omega)|exact Aby rfl rfl (by omega)
  |exact Agq rfl rfl (by omega)|exact Agr rfl rfl (by omega)
  |exact Adm rfl rfl (by omega)|exact Adn rfl rfl (by omega)
  |exact Ado rfl rfl (by omega)|exact Rp rfl rfl (by omega)
  |exact Adp rfl rfl (by omega)|exact Adq rfl rfl (by omega)
  |exact sg|exact Mb rfl rfl rfl|exact si rfl|exact Ago rfl rfl (by omega) (by omega)
  |exact Agg rfl rfl (by omega) (by omega)|exact Agh rfl rfl (by omega)
  |exact z6 rfl (by omega)|exact zz rfl rfl (by simp only [pw];omega)
  |exact Ags rfl rfl (by omega) (by omega)|exact w_quoU rfl rfl rfl (by omega) (by simp only [pw];omega)|exact Agt rfl rfl (by omega)
  |exact Agx rfl rfl (by omega)|exact Agy rfl rfl (by omega)|exact sl_u2 rfl rfl rfl (by omega) (by omega)|exact Agz rfl rfl rfl (by omega) (by omega) (by simp only [Aa];omega)
  |exact sl_k0 rfl rfl (by simp only [Aa];omega) (by omega) (by omega)|exact sl_k1 rfl rfl (by simp only [Aa];omega) (by omega) (by omega) (by omega)|exact sl_k2 rfl rfl rfl (by simp only [Aa];omega) (by omega) (by omega) (by omega)
  |exact Ag0 rfl rfl|exact ap_0 rfl rfl|exact Ag1 rfl rfl|exact Ady rfl
  |(apply w_luk rfl rfl rfl;exact lkm)|exact zy|exact Yz rfl rfl|exact Adu rfl rfl
  |exact sj rfl rfl (by omega)|exact sq rfl rfl (by omega)
  |exact Abw rfl rfl (by omega)|exact Abx rfl rfl (by omega)
  |exact s9 rfl rfl (by omega)|exact ta rfl rfl (by omega)
  |exact sr rfl rfl (by omega)|exact ss rfl rfl (by omega)
  |exact sw rfl rfl (by omega)|exact sx rfl rfl (by omega)
  |exact sy rfl rfl (by omega)|exact s8 rfl rfl (by omega)
  |exact Adr rfl rfl (by omega) (by omega)|exact Ads rfl rfl (by omega) (by omega)
  |exact Agp rfl rfl|exact N0 rfl rfl|exact ja rfl)):p:=h
theorem chk (h:p:=by
 (repeat(first|exact bz|(apply z9 rfl rfl opv rfl rfl)|(apply Aj9 rfl rfl rfl)))):p:=h
structure Lft (p:Prop):Prop where
 g:p
theorem wk (g:B)(h:Lft B→A:=by
 intro g_
 (try refine B0 L 1000 rfl ?_)
 (repeat(first
  |(apply st1 L rfl;exact opv;rfl)
  |(apply stS L rfl rfl rfl rfl rfl rfl;exact lkp;rfl;rfl)
  |(apply z8 L rfl rfl rfl rfl rfl;exact lkp;(first|assumption|omega);rfl)
  |(apply Aj7 L rfl rfl rfl rfl rfl;exact lkp;(first|assumption|omega);rfl)
  |refine Uy L ?_
  |(apply A6 rfl rfl;exact opv)
  |(apply Ll rfl rfl)
  |(apply N1 L;exact chk;rfl)
  |(apply p_0;exact chk)
  |(apply Hk L rfl rfl;exact opv)
  |(apply Aka L rfl rfl)
  |(apply Akb L rfl rfl rfl rfl rfl rfl rfl;exact lkp;rfl;refine B0 L 1000 rfl ?_)
  |(apply tn L rfl rfl rfl rfl rfl rfl;exact lkp;(first|assumption|omega);refine B0 L 1000 rfl ?_)))
 exact g_.g):A:=h ⟨g⟩
theorem res (h:p:=by
 (first
  |exact Db rfl
  |exact Ma rfl (Bk.e lkp) rfl I8
  |exact Dj rfl (Bk.e lkp) rfl I8
  |exact Ma rfl (Bk.e lkp) rfl (Db rfl)
  |exact Dj rfl (Bk.e lkp) rfl (Db rfl))):p:=h
theorem ret (hf:p)(g:B)(h:p→Lft B→A:=by
 intro hf_ g_
 refine wk ?_
 first
  |(apply Agu L hf_ res G;exact g_.g)
  |(apply Aj8 L hf_ res G;exact g_.g)):A:=h hf ⟨g⟩
theorem cal (g:B)(h:p→Lft B→A:=by
 intro hc_ g_
 refine wk ?_
 first
  |(apply Adv L rfl rfl rfl rfl;exact hc_;exact g_.g)
  |(apply callc0E L rfl rfl rfl rfl;exact hc_;exact g_.g)
  |(apply Adx L rfl rfl rfl rfl rfl;exact hc_;exact g_.g)
  |(apply dcall0E L rfl rfl rfl rfl rfl;exact hc_;exact g_.g)
  |(apply Ab0 L rfl rfl rfl rfl;exact hc_;exact g_.g)
  |(apply callc0 L rfl rfl rfl rfl;exact hc_;exact g_.g)
  |(apply Agv L rfl rfl rfl rfl rfl;exact hc_;exact g_.g)
  |(apply dcall0 L rfl rfl rfl rfl rfl;exact hc_;exact g_.g)) (c:p):A:=h c ⟨g⟩
theorem kps (h:p:=by
 (repeat(first|assumption|exact Kp.refl _|refine Kp.nw ?_|refine Kp.st (by first|exact .inl (by omega)|exact .inr rfl|exact .inr (by assumption)|exact .inr (by(try dsimp only);omega)) ?_|(apply Kp.tr0;assumption)|(apply Kp.trS;assumption;(intro i_ h1_ h2_;(try dsimp only at h2_ ⊢);omega))))):p:=h
theorem tsb (h:p:=by
 (repeat(first|exact rx|refine iz rfl ?_))):p:=h
