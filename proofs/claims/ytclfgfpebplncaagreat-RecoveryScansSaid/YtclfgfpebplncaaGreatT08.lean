/- Part of the proof. -/
import Derived.Test.YtclfgfpebplncaaGreatT07
set_option linter.unusedVariables false
set_option linter.unusedSimpArgs false
set_option linter.unusedSectionVars false
namespace Go.Ev
structure XV (op:COp)(h:H)(l:List (Nat×Option AV))(v:AV)(h':H):Prop where
 e:exec op h (tms l)= .val v h'
structure WT (l:List (Nat×Option AV))(g:Option (Nat×Bool))(b:Bool):Prop where
 e:wanted (tms l) g=some b
structure HB (h:H)(b:Nat)(c:List AV):Prop where
 e:H.get h b=some (cl c)
section
variable {n:Nat}{t:T Blk}{lh:List (Nat×Option Blk)}{b i:Nat}{c:List AV}{x:Option Blk}
end
section
variable {l:List (Nat×Option AV)}{lh:List (Nat×Option Blk)}{n:Nat}{t:T Blk}{h:H}{x y z:O}{v u:AV}{b o:Nat}{c lv:List AV}
theorem Qb {k:IntKind}{i len cap size:Nat}(e:evO l x=some (.slc b 0 len cap))(e1:evO l y=some (.int k (i:Nat)))(hi:i<len):XV (.iaddrS size x y) h l (.ptr b (i*size)) h:=⟨Lk (Ad e) (Ad e1) hi (Nat.zero_add _)⟩
theorem qp {k:IntKind}{i len cap size:Nat}(e:evO l x=some (.slc b o len cap))(e1:evO l y=some (.int k (i:Nat)))(hi:i<len):XV (.iaddrS size x y) h l (.ptr b (o+i*size)) h:=⟨Lk (Ad e) (Ad e1) hi rfl⟩
theorem wl {len cap:Nat}(e:evO l x=some (.slc b o len cap)):XV (.lenS x) h l (.int .i64 (len:Nat)) h:=⟨ie (Ad e)⟩
theorem qq (e:evO l x=some .nils):XV (.lenS x) h l (.int .i64 ((0:Nat):Int)) h:=⟨Yq (Ad e)⟩
theorem iw:XV (.alloc c) (hp n t lh) l (.ptr n 0) (hp (n+1) t ((n,some (cl c))::lh)):=⟨qg⟩
theorem Kj {k:Nat}(e:evO l x=some v)(hc:Bi v=some lv)(hk:Nat.beq lv.length k=true):XV (.box k x) (hp n t lh) l (.ptr n 0) (hp (n+1) t ((n,some (cl lv))::lh)):=⟨zo e hc hk⟩
theorem iy {k:Nat}{ps:List (Nat×Nat×O)}(hf:Ln l ps c=some lv):XV (.bslice k c ps) (hp n t lh) l (.slc n 0 k k) (hp (n+1) t ((n,some (cl lv))::lh)):=⟨iu hf⟩
section
variable {a d:Nat}{p r:Int}{k:IntKind}{sh:Sh}{q:Bool}
theorem zz (e:evO l x=some (.int .i64 (a:Nat)))(e1:evO l y=some (.int .i64 (d:Nat)))(hr:a+d<9223372036854775808):XV (.bin .add x y q sh) h l (.int .i64 ((a+d:Nat):Int)) h:=⟨zp e e1 hr⟩
theorem z7 (e:evO l x=some (.int .i64 (a:Nat)))(e1:evO l y=some (.int .i64 (d:Nat)))(hr:d≤a)(h1:a<9223372036854775808):XV (.bin .sub x y q sh) h l (.int .i64 ((a - d:Nat):Int)) h:=⟨zq e e1 hr h1⟩
theorem z8 (e:evO l x=some (.int .i64 (a:Nat)))(e1:evO l y=some (.int .i64 (d:Nat)))(hr:a*d<9223372036854775808):XV (.bin .mul x y q sh) h l (.int .i64 ((a*d:Nat):Int)) h:=⟨zr e e1 hr⟩
theorem iz (e:evO l x=some (.int k p))(e1:evO l y=some (.int k r))(ht:p<r):XV (.bin .lss x y q sh) h l (.bool true) h:=⟨t6 (Ad e) (Ad e1) (decide_eq_true ht)⟩
theorem i7 (e:evO l x=some (.int k p))(e1:evO l y=some (.int k r))(ht: ¬p<r):XV (.bin .lss x y q sh) h l (.bool false) h:=⟨t6 (Ad e) (Ad e1) (decide_eq_false ht)⟩
theorem i9 (e:evO l x=some (.int k p))(e1:evO l y=some (.int k r))(ht:p≤r):XV (.bin .leq x y q sh) h l (.bool true) h:=⟨t7 (Ad e) (Ad e1) (decide_eq_true ht)⟩
theorem jb (e:evO l x=some (.int k p))(e1:evO l y=some (.int k r))(ht: ¬p≤r):XV (.bin .leq x y q sh) h l (.bool false) h:=⟨t7 (Ad e) (Ad e1) (decide_eq_false ht)⟩
theorem jc (e:evO l x=some (.int k p))(e1:evO l y=some (.int k r))(ht:r<p):XV (.bin .gtr x y q sh) h l (.bool true) h:=⟨t8 (Ad e) (Ad e1) (decide_eq_true ht)⟩
theorem jd (e:evO l x=some (.int k p))(e1:evO l y=some (.int k r))(ht: ¬r<p):XV (.bin .gtr x y q sh) h l (.bool false) h:=⟨t8 (Ad e) (Ad e1) (decide_eq_false ht)⟩
theorem je (e:evO l x=some (.int k p))(e1:evO l y=some (.int k r))(ht:r≤p):XV (.bin .geq x y q sh) h l (.bool true) h:=⟨t9 (Ad e) (Ad e1) (decide_eq_true ht)⟩
theorem jf (e:evO l x=some (.int k p))(e1:evO l y=some (.int k r))(ht: ¬r≤p):XV (.bin .geq x y q sh) h l (.bool false) h:=⟨t9 (Ad e) (Ad e1) (decide_eq_false ht)⟩
theorem uf (e:evO l x=some (.int k p))(e1:evO l y=some (.int k r))(ht:p=r):XV (.bin .eql x y q .pint) h l (.bool true) h:=⟨ua (Ad e) (Ad e1) (decide_eq_true ht)⟩
theorem ug (e:evO l x=some (.int k p))(e1:evO l y=some (.int k r))(ht: ¬p=r):XV (.bin .eql x y q .pint) h l (.bool false) h:=⟨ua (Ad e) (Ad e1) (decide_eq_false ht)⟩
theorem uh (e:evO l x=some (.int k p))(e1:evO l y=some (.int k r))(ht:p≠r):XV (.bin .neq x y q .pint) h l (.bool true) h:=⟨uc (Ad e) (Ad e1) (decide_eq_true ht)⟩
theorem ui (e:evO l x=some (.int k p))(e1:evO l y=some (.int k r))(ht: ¬p≠r):XV (.bin .neq x y q .pint) h l (.bool false) h:=⟨uc (Ad e) (Ad e1) (decide_eq_false ht)⟩
end
end
section
variable {P:Program}{E:Env}{F:T CFn}{K:T (List AV×AV)}{Q:Nat→AV→Prop}
variable {fn nt:Nat}{l q:List (Nat×Option AV)}{k:List AItem}{ds:List ADef}{dfd:Bool}{ro:Option Nat}{cs:List AFr}{h h':H}{gd:Option (Nat×Bool)}{op:COp}{nm:List Nat}{pre chk:List DI}{ps:List Ph}{v:AV}{d:Nat}{r:List CI}
variable {n b o:Nat}{t:T Blk}{lh:List (Nat×Option Blk)}{x y:O}{c c' lv:List AV}
variable (L:Lg P E F K)
include L
theorem ez (ho:Cq l nm=some q)(hw:WT q gd true)(hx:XV op h q v h')
  (g:A8 P E Q pre chk ps k fn nt (tms ((d,some v)::l)) ds dfd ro cs h'):Good P E Q ⟨⟨fn,nt,tms l,.drawn ⟨⟨⟨some d,gd,op⟩,nm⟩,pre,chk⟩ ps::k,ds,.run,dfd,ro⟩,cs,h⟩:=e_v L ho hw.e hx.e g
end
section
variable {P:Program}{E:Env}{F:T CFn}{K:T (List AV×AV)}{Q:Nat→AV→Prop}
variable {fn nt:Nat}{l:List (Nat×Option AV)}{k:List AItem}{ds:List ADef}{dfd:Bool}{ro:Option Nat}{cs:List AFr}{gd:Option (Nat×Bool)}{v:AV}{r:List CI}
variable {n b o:Nat}{t:T Blk}{lh:List (Nat×Option Blk)}{x y:O}{c:List AV}
variable (L:Lg P E F K)
include L
theorem Abf (hw:WT l gd true)(e:evO l x=some (.ptr b o))(e1:evO l y=some v)(hc:Bi v=some [v])(hp1:Az v=true)(hb:HB (hp n t lh) b c)(ho:o<c.length)
  (g:Good P E Q ⟨⟨fn,nt,tms l,.ops r::k,ds,.run,dfd,ro⟩,cs,hp n t ((b,some (cl (c.set o v)))::lh)⟩):
  Good P E Q ⟨⟨fn,nt,tms l,.ops (⟨none,gd,.store 1 x y⟩::r)::k,ds,.run,dfd,ro⟩,cs,hp n t lh⟩:=
 To L hw.e (Ad e) (Ad e1) hc rfl (by simp only [As,hp1]) hb.e ho (Vd c v o ho) g
end
def tv (op:COp)(l:List (Nat×Option AV)):Option AV:=
 match op with
 | .mv x=>evO l x
 | .pick c a b=>(match evO l c with
  |some (.bool true)=>evO l a
  |some (.bool false)=>evO l b
  |_=>none)
 | .nilc x=>(match evO l x with
  |some (.ptr b o)=>some (.ptr b o)
  |_=>none)
 | .faddr x off=>(match evO l x with
  |some (.ptr b o)=>some (.ptr b (o+off))
  |_=>none)
 | .lenS x=>(match evO l x with
  |some (.slc _ _ n _)=>some (.int .i64 ((n:Nat):Int))
  |some .nils=>some (.int .i64 ((0:Nat):Int))
  |some (.opq u)=>(match u with
   | .slice _ n _=>some (.int .i64 ((n:Nat):Int))
   |_=>none)
  |_=>none)
 | .extract x i=>(match evO l x with
  |some (.tup vs)=>vs[i]?
  |_=>none)
 | .field1 x off=>(match evO l x with
  |some (.agg vs)=>vs[off]?
  |_=>none)
 | .fieldN x off k=>(match evO l x with
  |some (.agg vs)=>(match dtO vs off k with
   |some lv=>some (.agg lv)
   |none=>none)
  |_=>none)
 | .build z ps=>(match Ln l ps z with
  |some lv=>some (.agg lv)
  |none=>none)
 | .mkfn f a c=>(match Fj l a with
  |some va=>(match Fj l c with
   |some vc=>some (.fn f va vc)
   |none=>none)
  |none=>none)
 | .mkif k x=>(match evO l x with
  |some v=>some (.ifc k v)
  |none=>none)
 | .un o x=>(match o with
  | .not=>(match evO l x with
   |some (.bool t)=>some (.bool (!t))
   |_=>none)
  |_=>none)
 | .bin o x y _ sh=>(match o with
  | .eql=>(match sh with
   | .ptr=>(match evO l x with
    |some (.ptr _ _)=>(match evO l y with|some .nilp=>some (.bool false)|_=>none)
    |some .nilp=>(match evO l y with|some .nilp=>some (.bool true)|_=>none)
    |_=>none)
   | .nilS=>(match evO l x with
    |some (.slc _ _ _ _)=>(match evO l y with|some .nils=>some (.bool false)|_=>none)
    |some .nils=>(match evO l y with|some .nils=>some (.bool true)|_=>none)
    |_=>none)
   |_=>none)
  | .neq=>(match sh with
   | .ptr=>(match evO l x with
    |some (.ptr _ _)=>(match evO l y with|some .nilp=>some (.bool true)|_=>none)
    |some .nilp=>(match evO l y with|some .nilp=>some (.bool false)|_=>none)
    |_=>none)
   | .nilS=>(match evO l x with
    |some (.slc _ _ _ _)=>(match evO l y with|some .nils=>some (.bool true)|_=>none)
    |some .nils=>(match evO l y with|some .nils=>some (.bool false)|_=>none)
    |_=>none)
   |_=>none)
  |_=>none)
 |_=>none
theorem Ei {op:COp}{l:List (Nat×Option AV)}{v:AV}{h:H}(e:tv op l=some v):exec op h (tms l)= .val v h:=by
 cases op <;> try simp only [tv]at e
 case mv x=>exact Abe e
 case pick c a b=>
  cases hc:evO l c with
  |none=>rw [hc]at e;cases e
  |some u=>
   rw [hc]at e
   cases u <;> (try simp only at e) <;> first|(cases e;done)|skip
   rename_i t
   cases t <;> (try simp only at e)
   ·exact qk hc e
   ·exact qj hc e
 case nilc x=>
  cases hc:evO l x with
  |none=>rw [hc]at e;cases e
  |some u=>
   rw [hc]at e
   cases u <;> (try simp only at e) <;> first|(cases e;done)|skip
   cases e;exact v8 (Ad hc)
 case faddr x off=>
  cases hc:evO l x with
  |none=>rw [hc]at e;cases e
  |some u=>
   rw [hc]at e
   cases u <;> (try simp only at e) <;> first|(cases e;done)|skip
   cases e;exact qf (Ad hc) rfl
 case lenS x=>
  cases hc:evO l x with
  |none=>rw [hc]at e;cases e
  |some u=>
   rw [hc]at e
   cases u <;> (try simp only at e) <;> first|(cases e;done)|skip
   ·cases e;exact Yq (Ad hc)
   ·cases e;exact ie (Ad hc)
   ·rename_i q
    cases q <;> (try simp only at e) <;> first|(cases e;done)|skip
    cases e;simp only [exec,Ag,Ad hc];rfl
 case extract x i=>
  cases hc:evO l x with
  |none=>rw [hc]at e;cases e
  |some u=>
   rw [hc]at e
   cases u <;> (try simp only at e) <;> first|(cases e;done)|skip
   exact bf (Ad hc) e
 case field1 x off=>
  cases hc:evO l x with
  |none=>rw [hc]at e;cases e
  |some u=>
   rw [hc]at e
   cases u <;> (try simp only at e) <;> first|(cases e;done)|skip
   exact il (Ad hc) e
 case fieldN x off k=>
  cases hc:evO l x with
  |none=>rw [hc]at e;cases e
  |some u=>
   rw [hc]at e
   cases u <;> (try simp only at e) <;> first|(cases e;done)|skip
   rename_i vs
   cases hd:dtO vs off k with
   |none=>rw [hd]at e;cases e
   |some lv=>rw [hd]at e;cases e;exact iv hc hd
 case build z ps=>
  cases hc:Ln l ps z with
  |none=>rw [hc]at e;cases e
  |some lv=>rw [hc]at e;cases e;exact qm hc
 case mkfn f a c=>
  cases ha:Fj l a with
  |none=>rw [ha]at e;cases e
  |some va=>
   cases hc:Fj l c with
   |none=>rw [ha,hc]at e;cases e
   |some vc=>rw [ha,hc]at e;cases e;exact wi ha hc
 case mkif k x=>
  cases hc:evO l x with
  |none=>rw [hc]at e;cases e
  |some u=>rw [hc]at e;cases e;exact wj hc
 case un o x=>
  cases o <;> (try simp only at e) <;> first|(cases e;done)|skip
  cases hc:evO l x with
  |none=>rw [hc]at e;cases e
  |some u=>
   rw [hc]at e
   cases u <;> (try simp only at e) <;> first|(cases e;done)|skip
   cases e;exact zh (Ad hc)
 case bin o x y q sh=>
  cases o <;> (try simp only at e) <;> first|(cases e;done)|skip
  all_goals
   cases sh <;> (try simp only at e) <;> first|(cases e;done)|skip
   all_goals
    cases hc:evO l x with
    |none=>rw [hc]at e;cases e
    |some u=>
     rw [hc]at e
     cases u <;> (try simp only at e) <;> first|(cases e;done)|skip
     all_goals
      cases hd:evO l y with
      |none=>rw [hd]at e;cases e
      |some w=>
       rw [hd]at e
       cases w <;> (try simp only at e) <;> first|(cases e;done)|skip
       cases e
       simp only [exec,Ag,Ad hc,Ad hd]
       rfl
 all_goals first|(cases e;done)|(unfold tv at e;cases e;done)
def gdO (g:Option (Nat×Bool))(l:List (Nat×Option AV)):Option Bool:=
 match g with
 |none=>some true
 |some p=>(match look l p.1 with
  |some (.bool c)=>some (bEq c p.2)
  |some (.tup [])=>some false
  |_=>none)
theorem A1 {g:Option (Nat×Bool)}{l:List (Nat×Option AV)}{b:Bool}(e:gdO g l=some b):wanted (tms l) g=some b:=by
 cases g with
 |none=>exact e
 |some p=>simp only [gdO]at e;simp only [wanted,G4];exact e
def ins (d:Option Nat)(v:AV)(l:List (Nat×Option AV)):List (Nat×Option AV):=
 match d with
 |none=>l
 |some d=>(d,some v)::l
theorem qr (d:Option Nat)(v:AV)(l:List (Nat×Option AV)):put (tms l) d v=tms (ins d v l):=by cases d <;> rfl
def adv:Nat→List AItem→List (Nat×Option AV)→List AItem×List (Nat×Option AV)
 |0,td,l=>(td,l)
 |n+1,td,l=>match td with
  | []=>([],l)
  |i::k=>match i with
   | .inBlock _=>adv n k l
   | .inScope _=>adv n k l
   | .ops r=>(match r with
    | []=>adv n k l
    |c::r=>(match gdO c.guard l with
     |some true=>(match tv c.op l with
      |some v=>(match c.dst with
       |some d=>adv n (.ops r::k) ((d,some v)::l)
       |none=>adv n (.ops r::k) l)
      |none=>(.ops (c::r)::k,l))
     |some false=>(match c.dst with
      |some d=>adv n (.ops r::k) ((d,some (.tup []))::l)
      |none=>adv n (.ops r::k) l)
     |none=>(.ops (c::r)::k,l)))
   | .code c=>(match c with
    | .skip=>adv n k l
    | .label _=>adv n k l
    | .seq a b=>adv n (.code a:: .code b::k) l
    | .block id b=>adv n (.code b:: .inBlock id::k) l
    | .scope b=>adv n (.code b:: .inScope b::k) l
    | .ops r=>adv n (.ops r::k) l
    | .cond x a b=>(match evO l x with
     |some (.bool true)=>adv n (.code a::k) l
     |some (.bool false)=>adv n (.code b::k) l
     |_=>(.code c::k,l))
    | .exit id=>(match exitTo id k with
     |some k'=>adv n k' l
     |none=>(.code c::k,l))
    | .goto lb=>(match gotoIn lb k with
     |some k'=>adv n k' l
     |none=>(.code c::k,l))
    |_=>(.code c::k,l))
   |_=>(i::k,l)
section
variable {P:Program}{E:Env}{F:T CFn}{K:T (List AV×AV)}{Q:Nat→AV→Prop}
variable (L:Lg P E F K)
variable {fn nt:Nat}{k:List AItem}{ds:List ADef}{dfd:Bool}{ro:Option Nat}{cs:List AFr}{h h':H}
include L
theorem Br: ∀(n:Nat) {td td':List AItem} {l l':List (Nat×Option AV)},adv n td l=(td',l')→
  Good P E Q ⟨⟨fn,nt,tms l',td',ds,.run,dfd,ro⟩,cs,h⟩→Good P E Q ⟨⟨fn,nt,tms l,td,ds,.run,dfd,ro⟩,cs,h⟩
 |0,td,td',l,l',e,g=>by cases e;exact g
 |n+1,td,td',l,l',e,g=>by
  have ih:=fun {td:List AItem} {l:List (Nat×Option AV)} (e:adv n td l=(td',l'))=>Br n e g
  cases td with
  |nil=>cases e;exact g
  |cons i k=>
   cases i with
   |inBlock id=>exact bc L (ih e)
   |inScope b=>exact be L (ih e)
   |ops r=>
    cases r with
    |nil=>exact wc L (ih e)
    |cons c r=>
     obtain⟨d,gd,op⟩:=c
     simp only [adv]at e
     cases hg:gdO gd l with
     |none=>rw [hg]at e;cases e;exact g
     |some b=>
      rw [hg]at e
      cases b with
      |false=>cases d with
       |none=>exact Kt L (A1 hg) (ih e)
       |some d=>exact Kt L (A1 hg) (ih e)
      |true=>
       simp only at e
       cases hv:tv op l with
       |none=>rw [hv]at e;cases e;exact g
       |some v=>
        rw [hv]at e
        cases d with
        |none=>exact N1 L (A1 hg) (Ei hv) (ih e)
        |some d=>exact N1 L (A1 hg) (Ei hv) (ih e)
   |code c=>
    cases c with
    |skip=>exact vn L (ih e)
    |label _=>exact p7 L (ih e)
    |seq a b=>exact zb L (ih e)
    |block id b=>exact p8 L (ih e)
    |scope b=>exact p9 L (ih e)
    |ops r=>exact v9 L (ih e)
    |cond x a b=>
     simp only [adv]at e
     cases hx:evO l x with
     |none=>rw [hx]at e;cases e;exact g
     |some u=>
      rw [hx]at e
      cases u <;> (try simp only at e) <;> first|(cases e;exact g)|skip
      rename_i t
      cases t with
      |true=>exact gcT L (Ad hx) (ih e)
      |false=>exact gcF L (Ad hx) (ih e)
    |exit id=>
     simp only [adv]at e
     cases hx:exitTo id k with
     |none=>rw [hx]at e;cases e;exact g
     |some k'=>rw [hx]at e;exact vp L hx (ih e)
    |goto lb=>
     simp only [adv]at e
     cases hx:gotoIn lb k with
     |none=>rw [hx]at e;cases e;exact g
     |some k'=>rw [hx]at e;exact vq L hx (ih e)
    |_=>cases e;exact g
   |_=>cases e;exact g
end
structure Bk (h:H)(b:Nat)(c:List AV):Prop where
 e:H.get h b=some (cl c)
 lt:b<h.n
section
variable {n:Nat}{t:T Blk}{lh:List (Nat×Option Blk)}{b i:Nat}{c c0:List AV}{x:Option Blk}{h h':H}{S:Nat→Prop}
theorem Abg (k:Bk h b c):Bk (hp h.n h.t []) b c:=k
theorem jg:Bk (hp (n+1) t ((n,some (cl c))::lh)) n c:=⟨Ha _ _ _ _ _,Nat.lt_succ_self n⟩
theorem z9 (k:Bk (hp n t lh) i c):Bk (hp (n+1) t ((n,x)::lh)) i c:=⟨(D6 _ _ _ _ (Nat.ne_of_lt k.lt)).trans k.e,Nat.lt_succ_of_lt k.lt⟩
theorem uj (k:Bk (hp n t lh) b c0):Bk (hp n t ((b,some (cl c))::lh)) b c:=⟨Ha _ _ _ _ _,k.lt⟩
theorem qs (hne:i≠b)(k:Bk (hp n t lh) i c):Bk (hp n t ((b,x)::lh)) i c:=⟨(D6 _ _ _ _ hne).trans k.e,k.lt⟩
theorem A5 (q:Kp S h h')(hs: ¬S i)(k:Bk h i c):Bk h' i c:=⟨q.get k.e k.lt hs,Nat.lt_of_lt_of_le k.lt q.n⟩
theorem Aj (q:K0 h h')(k:Bk h i c):Bk h' i c:=A5 q (fun f=>f) k
theorem Kp.tr0 {m:H}(q:K0 m h')(k:Kp S h m):Kp S h h':=
 ⟨Nat.le_trans k.n q.n,fun b hb hs=>(q.old b (Nat.lt_of_lt_of_le hb k.n) fun f=>f).trans (k.old b hb hs)⟩
theorem Kp.trS {m:H}{S':Nat→Prop}(q:Kp S' m h')(hs: ∀i,i<h.n→S' i→S i)(k:Kp S h m):Kp S h h':=
 ⟨Nat.le_trans k.n q.n,fun b hb hn=>(q.old b (Nat.lt_of_lt_of_le hb k.n) fun f=>hn (hs b hb f)).trans (k.old b hb hn)⟩
theorem N4 (e:c0=c)(k:Bk h b c0):Bk h b c:=e ▸ k
theorem Bk.hb (k:Bk h b c):HB h b c:=⟨k.e⟩
end
structure Mk (h:H)(r:Nat)(es:List AEnt)(ck:Nat):Prop where
 e:H.get h r=some (.map es ck)
 lt:r<h.n
section
variable {n:Nat}{t:T Blk}{lh:List (Nat×Option Blk)}{b i ck:Nat}{es:List AEnt}{x:Option Blk}{h h':H}{S:Nat→Prop}
theorem Aaa (k:Mk h b es ck):Mk (hp h.n h.t []) b es ck:=k
theorem jh:Mk (hp (n+1) t ((n,some (.map es ck))::lh)) n es ck:=⟨Ha _ _ _ _ _,Nat.lt_succ_self n⟩
theorem Aab (k:Mk (hp n t lh) i es ck):Mk (hp (n+1) t ((n,x)::lh)) i es ck:=⟨(D6 _ _ _ _ (Nat.ne_of_lt k.lt)).trans k.e,Nat.lt_succ_of_lt k.lt⟩
theorem Aac (hne:i≠b)(k:Mk (hp n t lh) i es ck):Mk (hp n t ((b,x)::lh)) i es ck:=⟨(D6 _ _ _ _ hne).trans k.e,k.lt⟩
theorem Lo (q:Kp S h h')(hs: ¬S i)(k:Mk h i es ck):Mk h' i es ck:=⟨q.get k.e k.lt hs,Nat.lt_of_lt_of_le k.lt q.n⟩
theorem Ve (q:K0 h h')(k:Mk h i es ck):Mk h' i es ck:=Lo q (fun f=>f) k
end
section
variable {l:List (Nat×Option AV)}{lh:List (Nat×Option Blk)}{n:Nat}{t:T Blk}{h:H}{x y z:O}{v u:AV}{b o:Nat}{c lv:List AV}
theorem Bp (e:evO l x=some (.ptr b o))(hb:Bk h b c)(hv:c[o]?=some v):XV (.load1 x) h l v h:=⟨Yp (Ad e) hb.e hv⟩
theorem E8 {k:Nat}(e:evO l x=some (.ptr b o))(hb:Bk h b c)(hv:dtO c o k=some lv):XV (.loadN k x) h l (.agg lv) h:=⟨qn e hb.e hv⟩
theorem qt {u:AV}(e:evO l x=some (.ptr b o))(hb:Bk h b c)(hu:c[o]?=some u)(hv:c[o+1]?=some v):XV (.loadN 2 x) h l (.agg [u,v]) h:=by
 have h1:=(List.getElem?_eq_some_iff.1 hv).1
 refine⟨Yr (Ad e) hb.e (by omega) ?_⟩
 apply List.ext_getElem?
 intro i
 rcases i with _|_|i
 ·rw [List.getElem?_take_of_lt (by omega),List.getElem?_drop];exact hu
 ·rw [List.getElem?_take_of_lt (by omega),List.getElem?_drop];exact hv
 ·rw [List.getElem?_take_eq_none (by omega)];rfl
theorem Aad {bytes a:Nat}{k j:IntKind}(e:evO l x=some (.int k ((a:Nat):Int)))(e1:evO l y=some (.int j ((a:Nat):Int)))(h2:a*bytes≤281474976710656)(h3:a≤281474976710656):
  XV (.mkslice bytes c x y) (hp n t lh) l (.slc n 0 a a) (hp (n+1) t ((n,some (cl (rl c a)))::lh)):=⟨bh (Ad e) (Ad e1) (Nat.le_refl _) h2 h3 rfl⟩
theorem ji {k:IntKind}{i len cap:Nat}(e:evO l x=some (.slc b o len cap))(e1:evO l y=some (.int k ((i:Nat):Int)))(hi:i<len):XV (.iaddrS 1 x y) h l (.ptr b (o+i)) h:=⟨Lk (Ad e) (Ad e1) hi (by show o+i*1=_;rw [Nat.mul_one])⟩
theorem Dh {k:IntKind}{i len cap:Nat}(e:evO l x=some (.slc b 0 len cap))(e1:evO l y=some (.int k ((i:Nat):Int)))(hi:i<len):XV (.iaddrS 1 x y) h l (.ptr b i) h:=⟨Lk (Ad e) (Ad e1) hi (by show 0+i*1=_;rw [Nat.mul_one,Nat.zero_add])⟩
theorem Sc {k:IntKind}{i len:Nat}(e:evO l x=some (.ptr b 0))(e1:evO l y=some (.int k ((i:Nat):Int)))(hi:i<len):XV (.iaddrA len 1 x y) h l (.ptr b i) h:=⟨io (Ad e) (Ad e1) hi (by show 0+i*1=_;rw [Nat.mul_one,Nat.zero_add])⟩
theorem qu:XV .mkmap (hp n t lh) l (.map n) (hp (n+1) t ((n,some (.map [] 0))::lh)):=⟨qi⟩
theorem Aae {sh:Sh}{r cl0:Nat}{kv zero:AV}(e:evO l x=some (.map r))(ek:evO l y=some kv)(hk:Kh sh kv=true)(hb:Mk h r [] cl0):XV (.lookup sh zero x y false) h l zero h:=⟨zy e hb.e ek hk⟩
theorem Aaf {sh:Bool}{k:Nat}(e:evO l x=some (.ifc k v))(e1:evO l y=some .nili):XV (.bin .neq x y sh .iface) h l (.bool true) h:=⟨by simp only [exec,Ag,Ad e,Ad e1];cases sh <;> rfl⟩
theorem My {k:Bool}(e:evO l x=some .nili)(e1:evO l y=some .nili):XV (.bin .neq x y true .iface) h l (.bool false) h:=⟨by simp only [exec,Ag,Ad e,Ad e1];rfl⟩
theorem bm {k:Nat}{z:AV}(e:evO l x=some (.ifc k v)):XV (.tassert x k z false) h l v h:=⟨bg (Ad e)⟩
section
variable {a d:Nat}{p r:Int}{k j:IntKind}{sh:Sh}{q:Bool}
theorem Hb (e:evO l x=some (.int k ((a:Nat):Int)))(e1:evO l y=some (.int k ((d:Nat):Int)))(ht:a<d):XV (.bin .lss x y q sh) h l (.bool true) h:=iz e e1 (by omega)
theorem Xa (e:evO l x=some (.int k ((a:Nat):Int)))(e1:evO l y=some (.int k ((d:Nat):Int)))(ht:d≤a):XV (.bin .lss x y q sh) h l (.bool false) h:=i7 e e1 (by omega)
theorem wm (e:evO l x=some (.int k ((a:Nat):Int)))(e1:evO l y=some (.int k ((d:Nat):Int)))(ht:a≤d):XV (.bin .leq x y q sh) h l (.bool true) h:=i9 e e1 (by omega)
theorem wn (e:evO l x=some (.int k ((a:Nat):Int)))(e1:evO l y=some (.int k ((d:Nat):Int)))(ht:d<a):XV (.bin .leq x y q sh) h l (.bool false) h:=jb e e1 (by omega)
theorem wo (e:evO l x=some (.int k ((a:Nat):Int)))(e1:evO l y=some (.int k ((d:Nat):Int)))(ht:d<a):XV (.bin .gtr x y q sh) h l (.bool true) h:=jc e e1 (by omega)
theorem Ig (e:evO l x=some (.int k ((a:Nat):Int)))(e1:evO l y=some (.int k ((d:Nat):Int)))(ht:a≤d):XV (.bin .gtr x y q sh) h l (.bool false) h:=jd e e1 (by omega)
theorem wp (e:evO l x=some (.int k ((a:Nat):Int)))(e1:evO l y=some (.int k ((d:Nat):Int)))(ht:d≤a):XV (.bin .geq x y q sh) h l (.bool true) h:=je e e1 (by omega)
theorem wq (e:evO l x=some (.int k ((a:Nat):Int)))(e1:evO l y=some (.int k ((d:Nat):Int)))(ht:a<d):XV (.bin .geq x y q sh) h l (.bool false) h:=jf e e1 (by omega)
theorem Lp (e:evO l x=some (.int k ((a:Nat):Int)))(e1:evO l y=some (.int k ((d:Nat):Int)))(ht:a=d):XV (.bin .eql x y q .pint) h l (.bool true) h:=uf e e1 (by omega)
theorem Aag (e:evO l x=some (.int k ((a:Nat):Int)))(e1:evO l y=some (.int k ((d:Nat):Int)))(ht:a≠d):XV (.bin .eql x y q .pint) h l (.bool false) h:=ug e e1 (by omega)
theorem Aah (e:evO l x=some (.int k ((a:Nat):Int)))(e1:evO l y=some (.int k ((d:Nat):Int)))(ht:a≠d):XV (.bin .neq x y q .pint) h l (.bool true) h:=uh e e1 (by omega)
theorem Aai (e:evO l x=some (.int k ((a:Nat):Int)))(e1:evO l y=some (.int k ((d:Nat):Int)))(ht:a=d):XV (.bin .neq x y q .pint) h l (.bool false) h:=ui e e1 (by omega)
theorem Xb (e:evO l x=some (.int .i64 p))(e1:evO l y=some (.int .i64 r))(h1: -9223372036854775808≤p+r)(h2:p+r≤9223372036854775807):XV (.bin .add x y q sh) h l (.int .i64 (p+r)) h:=⟨ii (Ad e) (Ad e1) (Ks h1 h2)⟩
theorem wt (e:evO l x=some (.int .i64 p))(e1:evO l y=some (.int .i64 r))(h1: -9223372036854775808≤p - r)(h2:p - r≤9223372036854775807):XV (.bin .sub x y q sh) h l (.int .i64 (p - r)) h:=⟨ij (Ad e) (Ad e1) (Ks h1 h2)⟩
theorem wu (hs:k.signed=false)(e:evO l x=some (.int k ((a:Nat):Int)))(e1:evO l y=some (.int k ((d:Nat):Int))):XV (.bin .add x y q sh) h l (.int k (((a+d) % pw k:Nat):Int)) h:=
 ⟨ii (Ad e) (Ad e1) (by rw [←Int.natCast_add,Tp hs])⟩
theorem B0 (hs:k.signed=false)(e:evO l x=some (.int k ((a:Nat):Int)))(e1:evO l y=some (.int k ((d:Nat):Int)))(hd:d≤a)(ha:a<pw k):XV (.bin .sub x y q sh) h l (.int k ((a - d:Nat):Int)) h:=
 ⟨ij (Ad e) (Ad e1) (by rw [←Int.ofNat_sub hd,P8 hs (by omega)])⟩
theorem qv (hs:k.signed=false)(e:evO l x=some (.int j ((a:Nat):Int)))(ha:a<pw k):XV (.conv k x) h l (.int k ((a:Nat):Int)) h:=⟨Ys hs (Ad e) (Nat.mod_eq_of_lt ha)⟩
theorem Yt (hs:k.signed=false)(e:evO l x=some (.int j ((a:Nat):Int))):XV (.conv k x) h l (.int k ((a % pw k:Nat):Int)) h:=⟨Ys hs (Ad e) rfl⟩
theorem qw (e:evO l x=some (.int j ((a:Nat):Int)))(h2:a<9223372036854775808):XV (.conv .i64 x) h l (.int .i64 ((a:Nat):Int)) h:=⟨ig (Ad e) (Ks (by omega) (by omega))⟩
theorem uk {s:Nat}(e:evO l x=some (.int k ((a:Nat):Int)))(e1:evO l y=some (.int j ((s:Nat):Int)))(hs:s≤bits k):XV (.bin .shr x y q sh) h l (.int k ((a >>> s:Nat):Int)) h:=⟨zn (Ad e) (Ad e1) hs rfl⟩
theorem Vf (hs:k.signed=false)(e:evO l x=some (.int k ((a:Nat):Int)))(e1:evO l y=some (.int k ((d:Nat):Int)))(ha:a<pw k)(hc:d<pw k)(hx:(a ^^^ d)<pw k):XV (.bin .xor x y q sh) h l (.int k ((a ^^^ d:Nat):Int)) h:=⟨zm hs (Ad e) (Ad e1) ha hc hx rfl⟩
theorem wv (hs:k.signed=false)(e:evO l x=some (.int k ((a:Nat):Int)))(ha:a<pw k):XV (.un .xor x) h l (.int k ((pw k - 1 - a:Nat):Int)) h:=⟨wh hs (Ad e) ha rfl⟩
theorem jk (e:evO l x=some (.int .i64 ((a:Nat):Int)))(e1:evO l y=some (.int .i64 ((d:Nat):Int)))(hd:0<d)(ha:a<9223372036854775808):XV (.bin .quo x y q sh) h l (.int .i64 ((a / d:Nat):Int)) h:=by
 refine⟨?_⟩
 have h0:iEq ((d:Nat):Int) (Int.ofNat 0)=false:=by
  rw [E2];exact decide_eq_false (by show((d:Nat):Int)≠0;omega)
 have h1:Int.tdiv ((a:Nat):Int) ((d:Nat):Int)=((a / d:Nat):Int):=rfl
 have h2:a / d≤a:=Nat.div_le_self a d
 simp only [exec,Ag,Ad e,Ad e1,F0,En,A7,h0,h1,vo]
 clear h1
 generalize a / d=q at*
 rw [Ks (by omega) (by omega)]
theorem ww (hs:k.signed=false)(e:evO l x=some (.int k ((a:Nat):Int)))(e1:evO l y=some (.int k ((d:Nat):Int)))(hd:0<d)(ha:a<pw k):XV (.bin .quo x y q sh) h l (.int k ((a / d:Nat):Int)) h:=by
 refine⟨?_⟩
 have h0:iEq ((d:Nat):Int) (Int.ofNat 0)=false:=by
  rw [E2];exact decide_eq_false (by show((d:Nat):Int)≠0;omega)
 have h1:Int.tdiv ((a:Nat):Int) ((d:Nat):Int)=((a / d:Nat):Int):=rfl
 have h2:a / d≤a:=Nat.div_le_self a d
 simp only [exec,Ag,Ad e,Ad e1,F0,En,A7,h0,h1,vo]
 rw [P8 hs (by omega)]
theorem Aaj (e:evO l x=some (.int k ((a:Nat):Int)))(e1:evO l y=some (.int k ((d:Nat):Int)))(hd:0<d):XV (.bin .rem x y q sh) h l (.int k ((a % d:Nat):Int)) h:=by
 refine⟨?_⟩
 have h0:iEq ((d:Nat):Int) (Int.ofNat 0)=false:=by
  rw [E2];exact decide_eq_false (by show((d:Nat):Int)≠0;omega)
 have h1:Int.tmod ((a:Nat):Int) ((d:Nat):Int)=((a % d:Nat):Int):=rfl
 simp only [exec,Ag,Ad e,Ad e1,F0,En,A7,h0,h1,vo]
theorem wx (e:evO l x=some (.int k ((a:Nat):Int)))(e1:evO l y=some (.int k ((d:Nat):Int))):XV (.maxmin false x y) h l (.int k ((min a d:Nat):Int)) h:=⟨ud (Ad e) (Ad e1) (by show min (a:Int) (d:Int)=_;omega)⟩
theorem wy (e:evO l x=some (.int k ((a:Nat):Int)))(e1:evO l y=some (.int k ((d:Nat):Int))):XV (.maxmin true x y) h l (.int k ((max a d:Nat):Int)) h:=⟨ud (Ad e) (Ad e1) (by show max (a:Int) (d:Int)=_;omega)⟩
end
end
def Ct (P:Program)(E:Env)(F:T CFn)(K:T (List AV×AV))(f:Nat)(args:List AV)(h:H)(post:AV→H→Prop):Prop:=
 ∀(Q:Nat→AV→Prop) (x:AFr) (cs:List AFr),(∀v h',post v h'→GO P E Q (finish v cs h' x))→GO P E Q (C1 F K (.func f) args false x cs h)
def jl:Nat→List AV→List (Nat×Option AV)→List (Nat×Option AV)
 |_,[],acc=>acc
 |i,a::r,acc=>jl (i+1) r ((i,some a)::acc)
theorem Ou: ∀(args:List AV) (i:Nat) (acc:List (Nat×Option AV)),ofL i (tms acc) args=tms (jl i args acc)
 | [],_,_=>rfl
 |a::r,i,acc=>Ou r (i+1) ((i,some a)::acc)
def qx (l:List (Nat×Option AV)):List CRes→Option (List AV)
 | []=>some []
 | .tmp i::r=>(match look l i with
  |some v=>(match qx l r with
   |some vs=>some (v::vs)
   |none=>none)
  |none=>none)
 |_::_=>none
theorem E9 {l:List (Nat×Option AV)}{h:H}: ∀{rs:List CRes} {vs:List AV},qx l rs=some vs→results (tms l) h rs=some vs
 | [],vs,e=>by cases e;rfl
 | .tmp i::r,vs,e=>by
  simp only [qx]at e
  cases h1:look l i with
  |none=>rw [h1]at e;cases e
  |some v=>
   cases h2:qx l r with
   |none=>rw [h1,h2]at e;cases e
   |some us=>rw [h1,h2]at e;cases e;exact ue h1 (E9 h2)
 | .cell1 _::r,vs,e=>by cases e
 | .cellN _ _::r,vs,e=>by cases e
 | .bad::r,vs,e=>by cases e
section
variable {P:Program}{E:Env}{F:T CFn}{K:T (List AV×AV)}{Q:Nat→AV→Prop}
variable {fn nt:Nat}{l l':List (Nat×Option AV)}{k td':List AItem}{ds:List ADef}{dfd:Bool}{ro:Option Nat}{cs:List AFr}{h h':H}{gd:Option (Nat×Bool)}{op:COp}{v:AV}{d:Option Nat}{r:List CI}
variable {n b o:Nat}{t:T Blk}{lh:List (Nat×Option Blk)}{x y:O}{c c' lv:List AV}{post:AV→H→Prop}
variable (L:Lg P E F K)
include L
theorem st1 {d:Nat}(hg:gdO gd l=some true)(hx:XV op h l v h')(ha:adv 1000 (.ops r::k) ((d,some v)::l)=(td',l'))(g:Good P E Q ⟨⟨fn,nt,tms l',td',ds,.run,dfd,ro⟩,cs,h'⟩):
  Good P E Q ⟨⟨fn,nt,tms l,.ops (⟨some d,gd,op⟩::r)::k,ds,.run,dfd,ro⟩,cs,h⟩:=
 N1 L (A1 hg) hx.e (Br L 1000 ha g)
theorem stS {m:Nat}(hg:gdO gd l=some true)(e:evO l x=some (.ptr b o))(e1:evO l y=some v)(hc:Bi v=some lv)(hm:Nat.beq lv.length m=true)(hp1:As lv=true)(hb:Bk (hp n t lh) b c)(hs:P9 lv c o=some c')
  (ha:adv 1000 (.ops r::k) l=(td',l')) (g:Good P E Q ⟨⟨fn,nt,tms l',td',ds,.run,dfd,ro⟩,cs,hp n t ((b,some (cl c'))::lh)⟩):
  Good P E Q ⟨⟨fn,nt,tms l,.ops (⟨none,gd,.store m x y⟩::r)::k,ds,.run,dfd,ro⟩,cs,hp n t lh⟩:=qo L (A1 hg) e e1 hc hm hp1 hb.e hs (Br L 1000 ha g)
theorem Abh (hg:gdO gd l=some true)(e:evO l x=some (.ptr b o))(e1:evO l y=some v)(hc:Bi v=some [v])(hp1:Az v=true)(hb:Bk (hp n t lh) b c)(ho:o<c.length)
  (ha:adv 1000 (.ops r::k) l=(td',l')) (g:Good P E Q ⟨⟨fn,nt,tms l',td',ds,.run,dfd,ro⟩,cs,hp n t ((b,some (cl (c.set o v)))::lh)⟩):
  Good P E Q ⟨⟨fn,nt,tms l,.ops (⟨none,gd,.store 1 x y⟩::r)::k,ds,.run,dfd,ro⟩,cs,hp n t lh⟩:=Abf L ⟨A1 hg⟩ e e1 hc hp1 ⟨hb.e⟩ ho (Br L 1000 ha g)
omit L in
theorem jm (c:List AV)(v u:AV)(o:Nat)(ho:o+1<c.length):Gx [v,u] c o=(c.set o v).set (o+1) u:=by
 apply List.ext_getElem?
 intro i
 rw [Hj [v,u] c o i (by simp;omega),List.getElem?_set,List.getElem?_set,List.length_set]
 by_cases h1:o+1=i
 ·subst h1;simp [ho]
 ·by_cases h2:o=i
  ·subst h2;simp;omega
  ·rw [if_neg h1,if_neg h2,if_neg (by simp;omega)]
theorem Abi {u:AV}(hg:gdO gd l=some true)(e:evO l x=some (.ptr b o))(e1:evO l y=some (.agg [v,u]))(hp1:Az v=true)(hp2:Az u=true)(hb:Bk (hp n t lh) b c)(ho:o+1<c.length)
  (ha:adv 1000 (.ops r::k) l=(td',l')) (g:Good P E Q ⟨⟨fn,nt,tms l',td',ds,.run,dfd,ro⟩,cs,hp n t ((b,some (cl ((c.set o v).set (o+1) u)))::lh)⟩):
  Good P E Q ⟨⟨fn,nt,tms l,.ops (⟨none,gd,.store 2 x y⟩::r)::k,ds,.run,dfd,ro⟩,cs,hp n t lh⟩:=
 To L (A1 hg) (Ad e) (Ad e1) rfl rfl (by simp only [As,hp1,hp2]) hb.e (by have: [v,u].length=2:=rfl;omega) (jm c v u o ho) (Br L 1000 ha g)
theorem Aak {d:Nat}{f:Nat}{a:List O}{va cp args:List AV}(hg:gdO gd l=some true)(e:evO l x=some (.fn (.func f) [] cp))(ha:Fj l a=some va)(hr:Fq va cp=some args)(hc:Ct P E F K f args h post)
  (g: ∀v h',post v h'→Good P E Q ⟨⟨fn,nt,tms ((d,some v)::l),.ops r::k,ds,.run,dfd,ro⟩,cs,hp h'.n h'.t []⟩):
  Good P E Q ⟨⟨fn,nt,tms l,.ops (⟨some d,gd,.callv x a⟩::r)::k,ds,.run,dfd,ro⟩,cs,h⟩:=
 Sb L (A1 hg) (E7 e ha hr) (hc Q _ cs fun v h' p=>Ku L cvb (g v h' p))
theorem wz {f:Nat}{a:List O}{va cp args:List AV}(hg:gdO gd l=some true)(e:evO l x=some (.fn (.func f) [] cp))(ha:Fj l a=some va)(hr:Fq va cp=some args)(hc:Ct P E F K f args h post)
  (g: ∀v h',post v h'→Good P E Q ⟨⟨fn,nt,tms l,.ops r::k,ds,.run,dfd,ro⟩,cs,hp h'.n h'.t []⟩):
  Good P E Q ⟨⟨fn,nt,tms l,.ops (⟨none,gd,.callv x a⟩::r)::k,ds,.run,dfd,ro⟩,cs,h⟩:=
 Sb L (A1 hg) (E7 e ha hr) (hc Q _ cs fun v h' p=>Ku L (dst:=none) cvb (g v h' p))
theorem xc {d:Nat}{f:Nat}{a:List O}{va cp args:List AV}{R:AV→Prop}(hg:gdO gd l=some true)(e:evO l x=some (.fn (.func f) [] cp))(ha:Fj l a=some va)(hr:Fq va cp=some args)(hc:Ct P E F K f args (hp n t lh) fun v h'=>R v∧h'=hp n t lh)
  (g: ∀v,R v→Good P E Q ⟨⟨fn,nt,tms ((d,some v)::l),.ops r::k,ds,.run,dfd,ro⟩,cs,hp n t lh⟩):
  Good P E Q ⟨⟨fn,nt,tms l,.ops (⟨some d,gd,.callv x a⟩::r)::k,ds,.run,dfd,ro⟩,cs,hp n t lh⟩:=
 Sb L (A1 hg) (E7 e ha hr) (hc Q _ cs fun v h' p=>Ku L cvb (p.2 ▸ g v p.1))
theorem qy {f:Nat}{a:List O}{va cp args:List AV}{R:AV→Prop}(hg:gdO gd l=some true)(e:evO l x=some (.fn (.func f) [] cp))(ha:Fj l a=some va)(hr:Fq va cp=some args)(hc:Ct P E F K f args (hp n t lh) fun v h'=>R v∧h'=hp n t lh)
  (g: ∀v,R v→Good P E Q ⟨⟨fn,nt,tms l,.ops r::k,ds,.run,dfd,ro⟩,cs,hp n t lh⟩):
  Good P E Q ⟨⟨fn,nt,tms l,.ops (⟨none,gd,.callv x a⟩::r)::k,ds,.run,dfd,ro⟩,cs,hp n t lh⟩:=
 Sb L (A1 hg) (E7 e ha hr) (hc Q _ cs fun v h' p=>Ku L (dst:=none) cvb (p.2 ▸ g v p.1))
theorem Qc {f:Nat}{g:CFn}{args:List AV}{l0 l1:List (Nat×Option AV)}{td:List AItem}(hf:T.get F f=some g)(hm:T.get K f=none)(hn:Nat.ble args.length g.ntmps=true)(hl:jl 0 args []=l0)(ha:adv 1000 [.code g.body] l0=(td,l1))
  (body: ∀(Q:Nat→AV→Prop) (x:AFr) (cs:List AFr),(∀v h',post v h'→GO P E Q (finish v cs h' x))→Good P E Q ⟨⟨f,g.ntmps,tms l1,td,[],.run,false,none⟩,x::cs,hp h.n h.t []⟩):Ct P E F K f args h post:=by
 intro Q x cs hG
 have h1:ofL 0 .leaf args=tms l0:=by rw [←hl];exact Ou args 0 []
 exact zj L hf hm hn h1 (Br L 1000 ha (body Q x cs hG))
section
variable {f:Nat}{g:CFn}{l1:List (Nat×Option AV)}{td:List AItem}{a0 a1 a2 a3 a4 a5 a6 a7:AV}
theorem Ao (hf:T.get F f=some g)(hm:T.get K f=none)(hn:Nat.ble 1 g.ntmps=true)(ha:adv 1000 [.code g.body] [(0,some a0)]=(td,l1))
  (body: ∀(Q:Nat→AV→Prop) (x:AFr) (cs:List AFr),(∀v h',post v h'→GO P E Q (finish v cs h' x))→Good P E Q ⟨⟨f,g.ntmps,tms l1,td,[],.run,false,none⟩,x::cs,hp h.n h.t []⟩):Ct P E F K f [a0] h post:=Qc L hf hm hn rfl ha body
theorem Af (hf:T.get F f=some g)(hm:T.get K f=none)(hn:Nat.ble 2 g.ntmps=true)(ha:adv 1000 [.code g.body] [(1,some a1),(0,some a0)]=(td,l1))
  (body: ∀(Q:Nat→AV→Prop) (x:AFr) (cs:List AFr),(∀v h',post v h'→GO P E Q (finish v cs h' x))→Good P E Q ⟨⟨f,g.ntmps,tms l1,td,[],.run,false,none⟩,x::cs,hp h.n h.t []⟩):Ct P E F K f [a0,a1] h post:=Qc L hf hm hn rfl ha body
theorem A6 (hf:T.get F f=some g)(hm:T.get K f=none)(hn:Nat.ble 3 g.ntmps=true)(ha:adv 1000 [.code g.body] [(2,some a2),(1,some a1),(0,some a0)]=(td,l1))
  (body: ∀(Q:Nat→AV→Prop) (x:AFr) (cs:List AFr),(∀v h',post v h'→GO P E Q (finish v cs h' x))→Good P E Q ⟨⟨f,g.ntmps,tms l1,td,[],.run,false,none⟩,x::cs,hp h.n h.t []⟩):Ct P E F K f [a0,a1,a2] h post:=Qc L hf hm hn rfl ha body
theorem jn (hf:T.get F f=some g)(hm:T.get K f=none)(hn:Nat.ble 4 g.ntmps=true)(ha:adv 1000 [.code g.body] [(3,some a3),(2,some a2),(1,some a1),(0,some a0)]=(td,l1))
  (body: ∀(Q:Nat→AV→Prop) (x:AFr) (cs:List AFr),(∀v h',post v h'→GO P E Q (finish v cs h' x))→Good P E Q ⟨⟨f,g.ntmps,tms l1,td,[],.run,false,none⟩,x::cs,hp h.n h.t []⟩):Ct P E F K f [a0,a1,a2,a3] h post:=Qc L hf hm hn rfl ha body
theorem Mz (hf:T.get F f=some g)(hm:T.get K f=none)(hn:Nat.ble 5 g.ntmps=true)(ha:adv 1000 [.code g.body] [(4,some a4),(3,some a3),(2,some a2),(1,some a1),(0,some a0)]=(td,l1))
  (body: ∀(Q:Nat→AV→Prop) (x:AFr) (cs:List AFr),(∀v h',post v h'→GO P E Q (finish v cs h' x))→Good P E Q ⟨⟨f,g.ntmps,tms l1,td,[],.run,false,none⟩,x::cs,hp h.n h.t []⟩):Ct P E F K f [a0,a1,a2,a3,a4] h post:=Qc L hf hm hn rfl ha body
end
theorem Aal {g:CFn}{x:AFr}{vs:List AV}(hf:T.get F fn=some g)(hr:results (tms l) h g.results=some vs)(hG: ∀v h',post v h'→GO P E Q (finish v cs h' x))(p:post (single vs) h):
  Good P E Q ⟨⟨fn,nt,tms l,.code .ret::k,[],.run,false,none⟩,x::cs,h⟩:=ze L hf hr (hG _ _ p)
theorem Abj {g:CFn}{x:AFr}{vs:List AV}(hf:T.get F fn=some g)(hr:results (tms l) h g.results=some vs)(hG: ∀v h',post v h'→GO P E Q (finish v cs h' x))(p:post (single vs) h):
  Good P E Q ⟨⟨fn,nt,tms l,[],[],.run,false,none⟩,x::cs,h⟩:=tx L hf hr (hG _ _ p)
omit L in
theorem Ct.mono {post':AV→H→Prop}{f:Nat}{args:List AV}(c:Ct P E F K f args h post')(m: ∀v h',post' v h'→post v h'):Ct P E F K f args h post:=fun Q x cs g=>c Q x cs fun v h' p=>g v h' (m v h' p)
theorem keep {nm:List Nat}{q:List (Nat×Option AV)}{todo:List AItem}{mode:AMode}(ho:Cq l nm=some q)(g:Good P E Q ⟨⟨fn,nt,tms q,todo,ds,mode,dfd,ro⟩,cs,h⟩):Good P E Q ⟨⟨fn,nt,tms l,todo,ds,mode,dfd,ro⟩,cs,h⟩:=by
 refine Oc L (tm':=tms q) (fun i v hv=>?_) g
 rw [←Bq ho]at hv
 clear ho g
 induction nm with
 |nil=>simp only [only,T.get_leaf]at hv;cases hv
 |cons a nm ih=>
  simp only [only]at hv
  cases ha:T.get (tms l) a with
  |none=>rw [ha]at hv;exact ih hv
  |some u=>
   rw [ha]at hv
   simp only [T.get_set]at hv
   by_cases hi:i=a
   ·subst hi;rw [if_pos rfl]at hv;rw [ha];exact hv
   ·rw [if_neg hi]at hv;exact ih hv
theorem Bb {α: Type}{bd:CC}(T:Nat→α→List (Nat×Option AV))(n:Nat)(R:Nat→α→H→Prop){i0:Nat}(s0:α){h0:H}
  (hT:TSub (tms (T i0 s0)) (tms l)) (hR:R i0 s0 h0) (hi:i0≤n)
  (body: ∀i s h,i<n→R i s h→(∀s' h' l',R (i+1) s' h'→TSub (tms (T (i+1) s')) (tms l')→Good P E Q ⟨⟨fn,nt,tms l',.inLoop bd::k,ds,.run,dfd,ro⟩,cs,h'⟩)→Good P E Q ⟨⟨fn,nt,tms (T i s),.code bd:: .inLoop bd::k,ds,.run,dfd,ro⟩,cs,hp h.n h.t []⟩)
  (done: ∀s h,R n s h→Good P E Q ⟨⟨fn,nt,tms (T n s),.code bd:: .inLoop bd::k,ds,.run,dfd,ro⟩,cs,hp h.n h.t []⟩):
  Good P E Q ⟨⟨fn,nt,tms l,.code (.loop bd)::k,ds,.run,dfd,ro⟩,cs,h0⟩:=by
 have main: ∀m i s h,i+m=n→R i s h→Good P E Q ⟨⟨fn,nt,tms (T i s),.code bd:: .inLoop bd::k,ds,.run,dfd,ro⟩,cs,hp h.n h.t []⟩:=by
  intro m
  induction m with
  |zero=>
       intro i s h e hR;have:i=n:=by omega
       subst this;exact done s h hR
  |succ m ih=>
   intro i s h e hR
   exact body i s h (by omega) hR fun s' h' l' hR' hT'=>C7 L (Oc L hT' (ih (i+1) s' h' (by omega) hR'))
 exact A4 L (Oc L hT (main (n - i0) i0 s0 h0 (by omega) hR))
section
variable {q:List (Nat×Option AV)}{nm:List Nat}{pre chk:List DI}{ps:List Ph}{di:Nat}
omit L in
theorem Au (ho:Cq l nm=some q)(hg:gdO gd q=some true)(hx:XV op h q v h')
  (g:A8 P E Q pre chk ps k fn nt (tms ((di,some v)::l)) ds dfd ro cs h'):A8 P E Q (⟨⟨some di,gd,op⟩,nm⟩::pre) chk ps k fn nt (tms l) ds dfd ro cs h:=p_v ho (A1 hg) hx.e g
omit L in
theorem Kv (ho:Cq l nm=some q)(hg:gdO gd q=some false)
  (g:A8 P E Q pre chk ps k fn nt (tms ((di,some (.tup []))::l)) ds dfd ro cs h):A8 P E Q (⟨⟨some di,gd,op⟩,nm⟩::pre) chk ps k fn nt (tms l) ds dfd ro cs h:=p_s ho (A1 hg) g
omit L in
theorem Ay (ho:Cq l nm=some q)(hg:gdO gd q=some true)(hx:XV op h q v h')(hl:look l di=some v)(ha:Mw 20 v=true)(g:checks chk (tms l) h=true):checks (⟨⟨some di,gd,op⟩,nm⟩::chk) (tms l) h=true:=k_v ho (A1 hg) hx.e hl ha g
omit L in
theorem Fr (ho:Cq l nm=some q)(hg:gdO gd q=some false)(hl:look l di=some (.tup []))(g:checks chk (tms l) h=true):checks (⟨⟨some di,gd,op⟩,nm⟩::chk) (tms l) h=true:=k_s ho (A1 hg) hl g
theorem Tr (hc:checks chk (tms l) h=true)(ha:adv 1000 k l=(td',l'))(g:Good P E Q ⟨⟨fn,nt,tms l',td',ds,.run,dfd,ro⟩,cs,h⟩):A8 P E Q [] chk [] k fn nt (tms l) ds dfd ro cs h:=p_e hc (Br L 1000 ha g)
theorem B5 (ho:Cq l nm=some q)(hg:gdO gd q=some true)(hx:XV op h q v h')
  (g:A8 P E Q pre chk ps k fn nt (tms ((di,some v)::l)) ds dfd ro cs h'):Good P E Q ⟨⟨fn,nt,tms l,.drawn ⟨⟨⟨some di,gd,op⟩,nm⟩,pre,chk⟩ ps::k,ds,.run,dfd,ro⟩,cs,h⟩:=e_v L ho (A1 hg) hx.e g
theorem Abk (ho:Cq l nm=some q)(hg:gdO gd q=some false)
  (g:A8 P E Q pre chk ps k fn nt (tms ((di,some (.tup []))::l)) ds dfd ro cs h):Good P E Q ⟨⟨fn,nt,tms l,.drawn ⟨⟨⟨some di,gd,op⟩,nm⟩,pre,chk⟩ ps::k,ds,.run,dfd,ro⟩,cs,h⟩:=e_s L ho (A1 hg) g
theorem Aam {f:Nat}{a:List O}{va cp args:List AV}(ho:Cq l nm=some q)(hg:gdO gd q=some true)(e:evO q x=some (.fn (.func f) [] cp))(ha:Fj q a=some va)(hr:Fq va cp=some args)(hc:Ct P E F K f args h post)
  (g: ∀v h',post v h'→A8 P E Q pre chk ps k fn nt (tms ((di,some v)::l)) ds dfd ro cs (hp h'.n h'.t [])):
  Good P E Q ⟨⟨fn,nt,tms l,.drawn ⟨⟨⟨some di,gd,.callv x a⟩,nm⟩,pre,chk⟩ ps::k,ds,.run,dfd,ro⟩,cs,h⟩:=
 e_c L ho (A1 hg) (E7 e ha hr) (hc Q _ cs fun v h' p=>fd cvb (g v h' p))
theorem xd {f:Nat}{a:List O}{va cp args:List AV}(ho:Cq l nm=some q)(hg:gdO gd q=some true)(e:evO q x=some (.fn (.func f) [] cp))(ha:Fj q a=some va)(hr:Fq va cp=some args)(hc:Ct P E F K f args h post)
  (g: ∀v h',post v h'→A8 P E Q pre chk ps k fn nt (tms l) ds dfd ro cs (hp h'.n h'.t [])):
  Good P E Q ⟨⟨fn,nt,tms l,.drawn ⟨⟨⟨none,gd,.callv x a⟩,nm⟩,pre,chk⟩ ps::k,ds,.run,dfd,ro⟩,cs,h⟩:=
 e_c L ho (A1 hg) (E7 e ha hr) (hc Q _ cs fun v h' p=>fd0 cvb (g v h' p))
theorem xf {f:Nat}{a:List O}{va cp args:List AV}{R:AV→Prop}(ho:Cq l nm=some q)(hg:gdO gd q=some true)(e:evO q x=some (.fn (.func f) [] cp))(ha:Fj q a=some va)(hr:Fq va cp=some args)(hc:Ct P E F K f args (hp n t lh) fun v h'=>R v∧h'=hp n t lh)
  (g: ∀v,R v→A8 P E Q pre chk ps k fn nt (tms ((di,some v)::l)) ds dfd ro cs (hp n t lh)):
  Good P E Q ⟨⟨fn,nt,tms l,.drawn ⟨⟨⟨some di,gd,.callv x a⟩,nm⟩,pre,chk⟩ ps::k,ds,.run,dfd,ro⟩,cs,hp n t lh⟩:=
 e_c L ho (A1 hg) (E7 e ha hr) (hc Q _ cs fun v h' p=>fd cvb (p.2 ▸ g v p.1))
theorem qz {f:Nat}{a:List O}{va cp args:List AV}{R:AV→Prop}(ho:Cq l nm=some q)(hg:gdO gd q=some true)(e:evO q x=some (.fn (.func f) [] cp))(ha:Fj q a=some va)(hr:Fq va cp=some args)(hc:Ct P E F K f args (hp n t lh) fun v h'=>R v∧h'=hp n t lh)
  (g: ∀v,R v→A8 P E Q pre chk ps k fn nt (tms l) ds dfd ro cs (hp n t lh)):
  Good P E Q ⟨⟨fn,nt,tms l,.drawn ⟨⟨⟨none,gd,.callv x a⟩,nm⟩,pre,chk⟩ ps::k,ds,.run,dfd,ro⟩,cs,hp n t lh⟩:=
 e_c L ho (A1 hg) (E7 e ha hr) (hc Q _ cs fun v h' p=>fd0 cvb (p.2 ▸ g v p.1))
theorem Aan {m:Nat}(ho:Cq l nm=some q)(hg:gdO gd q=some true)(e:evO q x=some (.ptr b o))(e1:evO q y=some v)(hc:Bi v=some lv)(hm:Nat.beq lv.length m=true)(hp1:As lv=true)
  (hb:Bk (hp n t lh) b c) (hs:P9 lv c o=some c') (g:Good P E Q ⟨⟨fn,nt,tms l,k,ds,.run,dfd,ro⟩,cs,hp n t ((b,some (cl c'))::lh)⟩):
  Good P E Q ⟨⟨fn,nt,tms l,.drawn ⟨⟨⟨none,gd,.store m x y⟩,nm⟩,[],[]⟩ []::k,ds,.run,dfd,ro⟩,cs,hp n t lh⟩:=
 zt L ho (A1 hg) e e1 hc hm hp1 hb.e hs fun h' hs'=>p_e Cr (Od L hs' g)
theorem um (ho:Cq l nm=some q)(hg:gdO gd q=some true)(e:evO q x=some (.ptr b o))(e1:evO q y=some v)(hc:Bi v=some [v])(hp1:Az v=true)
  (hb:Bk (hp n t lh) b c) (ho':o<c.length) (g:Good P E Q ⟨⟨fn,nt,tms l,k,ds,.run,dfd,ro⟩,cs,hp n t ((b,some (cl (c.set o v)))::lh)⟩):
  Good P E Q ⟨⟨fn,nt,tms l,.drawn ⟨⟨⟨none,gd,.store 1 x y⟩,nm⟩,[],[]⟩ []::k,ds,.run,dfd,ro⟩,cs,hp n t lh⟩:=by
 obtain⟨h',q1,q2⟩:=Ot (n:=n) (t:=t) (lh:=lh) (lv:= [v]) (by simp only [As,hp1]) hb.e (by have: [v].length=1:=rfl;omega) (Vd c v o ho')
 have hx:exec (.store 1 x y) (hp n t lh) (tms q)= .val .unk h':=by simp only [exec,Ag,Ad e,Ad e1,hc,q1];rfl
 exact Yo L (dst:=none) (by rw [Bq ho];exact A1 hg) (by rw [Bq ho];exact hx) (p_e (l:=l) Cr (Od L q2 g))
theorem rf {a1 a2 a3 a4:Alt}(g1:A8 P E Q a1.pre a1.chk a1.l k fn nt (tms l) ds dfd ro cs h)(g2:A8 P E Q a2.pre a2.chk a2.l k fn nt (tms l) ds dfd ro cs h)(g3:A8 P E Q a3.pre a3.chk a3.l k fn nt (tms l) ds dfd ro cs h)(g4:A8 P E Q a4.pre a4.chk a4.l k fn nt (tms l) ds dfd ro cs h):
  Good P E Q ⟨⟨fn,nt,tms l,.code (.alts [a1,a2,a3,a4])::k,ds,.run,dfd,ro⟩,cs,h⟩:=
 W8 L fun a ha=>by
  simp only [List.mem_cons,List.not_mem_nil,or_false]at ha
  rcases ha with e|e|e|e <;> subst e <;> assumption
theorem Lq {a1 a2:Alt}(g1:A8 P E Q a1.pre a1.chk a1.l k fn nt (tms l) ds dfd ro cs h)(g2:A8 P E Q a2.pre a2.chk a2.l k fn nt (tms l) ds dfd ro cs h):Good P E Q ⟨⟨fn,nt,tms l,.code (.alts [a1,a2])::k,ds,.run,dfd,ro⟩,cs,h⟩:=
 W8 L fun a ha=>by
  cases ha with
  |head=>exact g1
  |tail _ h=>cases h with
   |head=>exact g2
   |tail _ h=>cases h
end
end
theorem Bo {a b:Nat}(h:a≤b):Nat.ble a b=true:=by rw [Nat.ble_eq];exact h
theorem Ih {a b:Nat}(h:a≠b):Nat.beq a b=false:=by
 cases hq:Nat.beq a b with
 |false=>rfl
 |true=>exact absurd (Nat.eq_of_beq_eq_true hq) h
section
variable {l:List (Nat×Option AV)}{lh:List (Nat×Option Blk)}{n:Nat}{t:T Blk}{h:H}{x y z w:O}{b o len cap size a c m:Nat}{j k:IntKind}
theorem rh {lo hi:Option O}{la lb:Option Nat}(e:evO l x=some (.slc b o len (Ac+size)))(h1:BndR l lo la)(h2:BndR l hi lb)(hc:lb.getD len=c)(ha:la.getD 0=a)(hac:a≤c)(hcl:c≤len):
  XV (.sliceS size x lo hi none) h l (.slc b (o+a*size) (c - a) (Ac+size)) h:=by
 refine⟨?_⟩
 have g3:C4 (tms l) none=some none:=rfl
 simp only [exec,Ag,h1.opt,h2.opt,g3,Ad e,Gd,Ob,Bo (show Ac≤Ac+size by omega),O1,ha,hc,Bo hac,Bo hcl]
 have q3:Nat.beq (Ac+size) (Nat.add Ac size)=true:=Nat.beq_refl _
 rw [q3];rfl
theorem Aao (e:evO l x=some (.slc b o len (Ac+size)))(e2:evO l z=some (.int k ((c:Nat):Int)))(hcl:c≤len):XV (.sliceS size x none (some z) none) h l (.slc b o c (Ac+size)) h:=by
 have:=rh (h:=h) (a:=0) (c:=c) e .no (.att e2) rfl rfl (Nat.zero_le _) hcl
 rwa [Nat.zero_mul,Nat.add_zero,Nat.sub_zero]at this
theorem Aap (e:evO l x=some (.slc b o len (Ac+1)))(e1:evO l y=some (.int j ((a:Nat):Int)))(hal:a≤len):XV (.sliceS 1 x (some y) none none) h l (.slc b (o+a) (len - a) (Ac+1)) h:=by
 have:=rh (h:=h) (a:=a) (c:=len) e (.att e1) .no rfl rfl hal (Nat.le_refl _)
 rwa [Nat.mul_one]at this
theorem Aaq (e:evO l x=some (.slc b o len (Ac+1)))(e1:evO l y=some (.int j ((a:Nat):Int)))(e2:evO l z=some (.int k ((c:Nat):Int)))(hac:a≤c)(hcl:c≤len):XV (.sliceS 1 x (some y) (some z) none) h l (.slc b (o+a) (c - a) (Ac+1)) h:=by
 have:=rh (h:=h) (a:=a) (c:=c) e (.att e1) (.att e2) rfl rfl hac hcl
 rwa [Nat.mul_one]at this
theorem xg {lo hi:Option O}{la lb:Option Nat}(e:evO l x=some (.slc b o len cap))(hk:cap<Ac)(h1:BndR l lo la)(h2:BndR l hi lb)(hc:lb.getD len=c)(ha:la.getD 0=a)(hac:a≤c)(hcl:c≤cap)(hne:a<cap):
  XV (.sliceS size x lo hi none) h l (.slc b (o+a*size) (c - a) (cap - a)) h:=by
 refine⟨?_⟩
 have g3:C4 (tms l) none=some none:=rfl
 simp only [exec,Ag,h1.opt,h2.opt,g3,Ad e,Gd,Ob,Gn hk,O1,ha,hc,Bo hac,Bo hcl,Bo (show Nat.succ cap≤Ac from hk),Ih (show cap≠a by omega)]
 rfl
theorem Aar (e:evO l x=some (.slc b o len cap))(e2:evO l z=some (.int k ((c:Nat):Int)))(hk:cap<Ac)(hcl:c≤cap)(hne:0<cap):XV (.sliceS size x none (some z) none) h l (.slc b o c cap) h:=by
 have:=xg (h:=h) (size:=size) (a:=0) (c:=c) e hk .no (.att e2) rfl rfl (Nat.zero_le _) hcl hne
 rwa [Nat.zero_mul,Nat.add_zero,Nat.sub_zero,Nat.sub_zero]at this
theorem Aas (e:evO l x=some (.slc b o len cap))(e1:evO l y=some (.int j ((a:Nat):Int)))(hk:cap<Ac)(hal:a≤len)(hlc:len≤cap)(hne:a<cap):XV (.sliceS 1 x (some y) none none) h l (.slc b (o+a) (len - a) (cap - a)) h:=by
 have:=xg (h:=h) (size:=1) (a:=a) (c:=len) e hk (.att e1) .no rfl rfl hal hlc hne
 rwa [Nat.mul_one]at this
theorem Aat (e:evO l x=some (.slc b o len cap))(e1:evO l y=some (.int j ((a:Nat):Int)))(e2:evO l z=some (.int k ((c:Nat):Int)))(hk:cap<Ac)(hac:a≤c)(hcl:c≤cap)(hne:a<cap):XV (.sliceS 1 x (some y) (some z) none) h l (.slc b (o+a) (c - a) (cap - a)) h:=by
 have:=xg (h:=h) (size:=1) (a:=a) (c:=c) e hk (.att e1) (.att e2) rfl rfl hac hcl hne
 rwa [Nat.mul_one]at this
theorem Aau (e:evO l x=some (.slc b o len (Ac+size)))(e1:evO l z=some (.int j ((c:Nat):Int)))(e2:evO l w=some (.int k ((m:Nat):Int)))(hc:c≤m)(hm:m≤len)(hl:len<Ac):
  XV (.sliceS size x none (some z) (some w)) h l (.slc b o c m) h:=by
 refine⟨?_⟩
 have g1:C4 (tms l) none=some none:=rfl
 simp only [exec,Ag,g1,(BndR.att e1).opt,(BndR.att e2).opt,Ad e,Gd,Ob,Bo (show Ac≤Ac+size by omega),O1,Bo hc,Bo hm,Option.getD_none,Bo (Nat.zero_le c),Bo (show Nat.succ m≤Ac by omega),vo]
 have hz:Nat.mul 0 size=0:=Nat.zero_mul size
 have h3:Nat.sub c 0=c:=rfl
 have h4:Nat.sub m 0=m:=rfl
 simp only [hz,h3,h4]
 cases Nat.beq m 0 <;> rfl
theorem Aav (e:evO l x=some .nils)(e2:evO l z=some (.int k ((0:Nat):Int))):XV (.sliceS size x none (some z) none) h l .nils h:=by
 refine⟨?_⟩
 have g1:C4 (tms l) none=some none:=rfl
 simp only [exec,Ag,g1,(BndR.att e2).opt,Ad e]
 rfl
theorem xh (e:evO l x=some .nils):XV (.capS x) h l (.int .i64 ((0:Nat):Int)) h:=⟨by simp only [exec,Ag,Ad e];rfl⟩
variable {sl bytes:Nat}
theorem jo (e:evO l x=some (.slc b o sl cap))(e1:evO l y=some .nils):XV (.append size bytes x y) h l (.slc b o sl cap) h:=⟨by simp only [exec,Ag,Ad e,Ad e1];rfl⟩
theorem Aaw (e:evO l x=some .nils)(e1:evO l y=some .nils):XV (.append size bytes x y) h l .nils h:=⟨by simp only [exec,Ag,Ad e,Ad e1];rfl⟩
end
theorem lkp {p:Prop}(h:p:=by
 (repeat(first|assumption|exact jg|(apply Abg;first|assumption|(apply Aj;assumption)|(apply A5;assumption;(first|omega|(dsimp only;omega))))|apply z9|apply uj|(apply qs;first|omega|assumption)))):p:=h
theorem lkm {p:Prop}(h:p:=by
 (repeat(first|assumption|exact jh|(apply Aaa;first|assumption|(apply Ve;assumption)|(apply Lo;assumption;(first|omega|(dsimp only;omega))))|apply Aab|(apply Aac;first|omega|assumption)))):p:=h
theorem opv {p:Prop}(h:p:=by
 (first
  |exact⟨Ei rfl⟩
  |(apply Bp rfl;exact lkp;first|rfl|assumption)
  |(apply E8 rfl;exact lkp;rfl)
  |(apply qt rfl;exact lkp;assumption;assumption)
  |exact Dh rfl rfl (by omega)|exact ji rfl rfl (by omega)|exact Qb rfl rfl (by omega)|exact qp rfl rfl (by omega)|exact Sc rfl rfl (by omega)
  |exact zz rfl rfl (by omega)
  |exact Hb rfl rfl (by omega)|exact Xa rfl rfl (by omega)
  |exact Lp rfl rfl (by omega)|exact Aag rfl rfl (by omega)
  |exact Aah rfl rfl (by omega)|exact Aai rfl rfl (by omega)
  |exact wm rfl rfl (by omega)|exact wn rfl rfl (by omega)
  |exact wo rfl rfl (by omega)|exact Ig rfl rfl (by omega)
  |exact wp rfl rfl (by omega)|exact wq rfl rfl (by omega)
  |exact iw|exact Kj rfl rfl rfl|exact iy rfl|exact Aad rfl rfl (by omega) (by omega)
  |exact z7 rfl rfl (by omega) (by omega)|exact z8 rfl rfl (by omega)
  |exact qw rfl (by omega)|exact qv rfl rfl (by simp only [pw];omega)
  |exact jk rfl rfl (by omega) (by omega)|exact ww rfl rfl rfl (by omega) (by simp only [pw];omega)|exact Aaj rfl rfl (by omega)
  |exact Aao rfl rfl (by omega)|exact Aap rfl rfl (by omega)|exact Aaq rfl rfl rfl (by omega) (by omega)|exact Aau rfl rfl rfl (by omega) (by omega) (by simp only [Ac];omega)
  |exact Aar rfl rfl (by simp only [Ac];omega) (by omega) (by omega)|exact Aas rfl rfl (by simp only [Ac];omega) (by omega) (by omega) (by omega)|exact Aat rfl rfl rfl (by simp only [Ac];omega) (by omega) (by omega) (by omega)
  |exact Aav rfl rfl|exact jo rfl rfl|exact Aaw rfl rfl|exact xh rfl
  |(apply Aae rfl rfl rfl;exact lkm)|exact qu|exact wx rfl rfl|exact wy rfl rfl
  |exact iz rfl rfl (by omega)|exact i7 rfl rfl (by omega)
  |exact uf rfl rfl (by omega)|exact ug rfl rfl (by omega)
  |exact uh rfl rfl (by omega)|exact ui rfl rfl (by omega)
  |exact i9 rfl rfl (by omega)|exact jb rfl rfl (by omega)
  |exact jc rfl rfl (by omega)|exact jd rfl rfl (by omega)
  |exact je rfl rfl (by omega)|exact jf rfl rfl (by omega)
  |exact Xb rfl rfl (by omega) (by omega)|exact wt rfl rfl (by omega) (by omega)
  |exact Aaf rfl rfl|exact My rfl rfl|exact bm rfl)):p:=h
theorem chk {p:Prop}(h:p:=by
 (repeat(first|exact Cr|(apply Ay rfl rfl opv rfl rfl)|(apply Fr rfl rfl rfl)))):p:=h
structure Lft (p:Prop):Prop where
 g:p
theorem wk {B A:Prop}(g:B)(h:Lft B→A:=by
 intro g_
 (try refine Br L 1000 rfl ?_)
 (repeat(first
  |(apply st1 L rfl;exact opv;rfl)
  |(apply stS L rfl rfl rfl rfl rfl rfl;exact lkp;rfl;rfl)
  |(apply Abh L rfl rfl rfl rfl rfl;exact lkp;(first|assumption|omega);rfl)
  |(apply Abi L rfl rfl rfl rfl rfl;exact lkp;(first|assumption|omega);rfl)
  |refine Lj L ?_
  |(apply Au rfl rfl;exact opv)
  |(apply Kv rfl rfl)
  |(apply Tr L;exact chk;rfl)
  |(apply p_0;exact chk)
  |(apply B5 L rfl rfl;exact opv)
  |(apply Abk L rfl rfl)
  |(apply Aan L rfl rfl rfl rfl rfl rfl rfl;exact lkp;rfl;refine Br L 1000 rfl ?_)
  |(apply um L rfl rfl rfl rfl rfl rfl;exact lkp;(first|assumption|omega);refine Br L 1000 rfl ?_)))
 exact g_.g):A:=h ⟨g⟩
theorem res {p:Prop}(h:p:=by
 (first
  |exact E9 rfl
  |exact If rfl (Bk.e lkp) rfl Ix
  |exact Dn rfl (Bk.e lkp) rfl Ix
  |exact If rfl (Bk.e lkp) rfl (E9 rfl)
  |exact Dn rfl (Bk.e lkp) rfl (E9 rfl))):p:=h
theorem ret {p:Prop}(hf:p){B A:Prop}(g:B)(h:p→Lft B→A:=by
 intro hf_ g_
 first
  |(apply Aal L hf_ res G;exact g_.g)
  |(apply Abj L hf_ res G;exact g_.g)):A:=h hf ⟨g⟩
theorem cal {p B A:Prop}(h:p→Lft B→A:=by
 intro hc_ g_
 first
  |(apply xc L rfl rfl rfl rfl;exact hc_;exact g_.g)
  |(apply qy L rfl rfl rfl rfl;exact hc_;exact g_.g)
  |(apply xf L rfl rfl rfl rfl rfl;exact hc_;exact g_.g)
  |(apply qz L rfl rfl rfl rfl rfl;exact hc_;exact g_.g)
  |(apply Aak L rfl rfl rfl rfl;exact hc_;exact g_.g)
  |(apply wz L rfl rfl rfl rfl;exact hc_;exact g_.g)
  |(apply Aam L rfl rfl rfl rfl rfl;exact hc_;exact g_.g)
  |(apply xd L rfl rfl rfl rfl rfl;exact hc_;exact g_.g)) (c:p) (g:B):A:=h c ⟨g⟩
theorem kps {p:Prop}(h:p:=by
 (repeat(first|assumption|exact Kp.refl _|refine Kp.nw ?_|refine Kp.st (by first|exact .inl (by omega)|exact .inr rfl|exact .inr (by assumption)|exact .inr (by(try dsimp only);omega)) ?_|(apply Kp.tr0;assumption)|(apply Kp.trS;assumption;(intro i_ h1_ h2_;(try dsimp only at h2_ ⊢);omega))))):p:=h
theorem tsb {p:Prop}(h:p:=by
 (repeat(first|exact ip|refine bj rfl ?_))):p:=h
end Go.Ev
