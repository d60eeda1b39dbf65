import Derived.Test.YtgackjbfibdoiaaGreatH01
set_option linter.all false
namespace Go.Ev
variable {E:Env}{a:List O}{args c cp va:List AV}{b cap ck d f fn i len n nt o r:Nat}{AL:Bool}{es:List FD}{g:DY}{h AA m:H}{k:IntKind}{l:CJ}{lh:SA}{op:RY}{sh:Sh}{t:T DV}{u v:AV}{y:O}
def tv(op:RY)(l:CJ):Option AV:=
 match op with
 | .mv x=>AU l x
 | .pick c a b=>(match AU l c with
  |some (.bool true)=>AU l a
  |some (.bool false)=>AU l b
  |_=>none)
 | .eT x=>(match AU l x with
  |some (.ptr b o)=>some (.ptr b o)
  |_=>none)
 | .dM x off=>(match AU l x with
  |some (.ptr b o)=>some (.ptr b (o+off))
  |_=>none)
 | .cB x=>(match AU l x with
  |some (.AE _ _ n _)=>some (.int .i64 (n:Int))
  |some .AS=>some (.int .i64 ((0:Nat):Int))
  |some (.HZ u)=>(match u with
   | .slice _ n _=>some (.int .i64 (n:Int))
   |_=>none)
  |_=>none)
 | .extract x i=>(match AU l x with
  |some (.BM vs)=>vs[i]?
  |_=>none)
 | .dN x off=>(match AU l x with
  |some (.agg vs)=>vs[off]?
  |_=>none)
 | .build z ps=>(match Kh l ps z with
  |some lv=>some (.agg lv)
  |none=>none)
 | .cE f a c=>(match Fb l a with
  |some va=>(match Fb l c with
   |some vc=>some (.fn f va vc)
   |none=>none)
  |none=>none)
 | .cF k x=>(match AU l x with
  |some v=>some (.Cm k v)
  |none=>none)
 | .un o x=>(match o with
  | .not=>(match AU l x with
   |some (.bool t)=>some (.bool (!t))
   |_=>none)
  |_=>none)
 | .bin o x y _ sh=>(match o with
  | .eql=>(match sh with
   | .ptr=>(match AU l x with
    |some (.ptr _ _)=>(match AU l y with|some .M7=>some (.bool false)|_=>none)
    |some .M7=>(match AU l y with|some .M7=>some (.bool true)|_=>none)
    |_=>none)
   | .qX=>(match AU l x with
    |some (.AE _ _ _ _)=>(match AU l y with|some .AS=>some (.bool false)|_=>none)
    |some .AS=>(match AU l y with|some .AS=>some (.bool true)|_=>none)
    |_=>none)
   |_=>none)
  | .neq=>(match sh with
   | .ptr=>(match AU l x with
    |some (.ptr _ _)=>(match AU l y with|some .M7=>some (.bool true)|_=>none)
    |some .M7=>(match AU l y with|some .M7=>some (.bool false)|_=>none)
    |_=>none)
   | .qX=>(match AU l x with
    |some (.AE _ _ _ _)=>(match AU l y with|some .AS=>some (.bool true)|_=>none)
    |some .AS=>(match AU l y with|some .AS=>some (.bool false)|_=>none)
    |_=>none)
   |_=>none)
  |_=>none)
 |_=>none
theorem Up(e:tv op l=some v):exec op h (AJ l)= .val v h:=by
 cases op<;>try simp only[tv]at e
 case mv x=>exact(Avh (Ac e))
 case pick c a b=>
  cases hc:AU l c with
  |none=>rw[hc]at e;cases e
  |some u=>
   rw[hc]at e
   cases u<;>(try simp only at e)<;>first|(cases e;done)|skip
   rename_i t
   cases t<;>(try simp only at e);.exact Ad5 hc e
   .exact Ad4 hc e
 case eT x=>
  cases hc:AU l x with
  |none=>rw[hc]at e;cases e
  |some u=>
   rw[hc]at e
   cases u<;>(try simp only at e)<;>first|(cases e;done)|skip
   cases e;exact Ajn (Ac hc)
 case dM x off=>
  cases hc:AU l x with
  |none=>rw[hc]at e;cases e
  |some u=>
   rw[hc]at e
   cases u<;>(try simp only at e)<;>first|(cases e;done)|skip
   cases e;exact Ady (Ac hc) rfl
 case cB x=>
  cases hc:AU l x with
  |none=>rw[hc]at e;cases e
  |some u=>
   rw[hc]at e
   cases u<;>(try simp only at e)<;>first|(cases e;done)|skip
   .cases e;exact Ad0 (Ac hc)
   .cases e;exact Ajo (Ac hc)
   .rename_i q
    cases q<;>(try simp only at e)<;>first|(cases e;done)|skip
    cases e;simp only[exec,Ak,Ac hc];rfl
 case extract x i=>
  cases hc:AU l x with
  |none=>rw[hc]at e;cases e
  |some u=>
   rw[hc]at e
   cases u<;>(try simp only at e)<;>first|(cases e;done)|skip
   exact alj (Ac hc) e
 case dN x off=>
  cases hc:AU l x with
  |none=>rw[hc]at e;cases e
  |some u=>
   rw[hc]at e
   cases u<;>(try simp only at e)<;>first|(cases e;done)|skip
   exact aow (Ac hc) e
 case build z ps=>
  cases hc:Kh l ps z with
  |none=>rw[hc]at e;cases e
  |some lv=>rw[hc]at e;cases e;exact Ad6 hc
 case cE f a c=>
  cases ha:Fb l a with
  |none=>rw[ha]at e;cases e
  |some va=>
   cases hc:Fb l c with
   |none=>rw[ha,hc]at e;cases e
   |some vc=>rw[ha,hc]at e;cases e;exact Ajv ha hc
 case cF k x=>
  cases hc:AU l x with
  |none=>rw[hc]at e;cases e
  |some u=>rw[hc]at e;cases e;exact Ajx hc
 case un o x=>
  cases o<;>(try simp only at e)<;>first|(cases e;done)|skip
  cases hc:AU l x with
  |none=>rw[hc]at e;cases e
  |some u=>
   rw[hc]at e
   cases u<;>(try simp only at e)<;>first|(cases e;done)|skip
   cases e;exact Am8 (Ac hc)
 case bin o x y q sh=>
  cases o<;>(try simp only at e)<;>first|(cases e;done)|skip
  all_goals
   cases sh<;>(try simp only at e)<;>first|(cases e;done)|skip
   all_goals
    cases hc:AU l x with
    |none=>rw[hc]at e;cases e
    |some u=>
     rw[hc]at e
     cases u<;>(try simp only at e)<;>first|(cases e;done)|skip
     all_goals
      cases hd:AU l y with
      |none=>rw[hd]at e;cases e
      |some w=>
       rw[hd]at e
       cases w<;>(try simp only at e)<;>first|(cases e;done)|skip
       cases e;simp only[exec,Ak,Ac hc,Ac hd];rfl
 all_goals first|(cases e;done)|(unfold tv at e;cases e;done)
def HH(g:Option (Nat×Bool))(l:CJ):Option Bool:=
 match g with
 |none=>some true
 |some p=>(match look l p.1 with
  |some (.bool c)=>some (dB c p.2)
  |some (.BM [])=>some false
  |_=>none)
theorem Az{g:Option (Nat×Bool)}{b:Bool}(e:HH g l=some b):wanted (AJ l) g=some b:=by
 cases g with
 |none=>exact e
 |some p=>simp only[HH]at e;simp only[wanted,Hu];exact e
def ins(d:Option Nat)(v:AV)(l:CJ):CJ:=
 match d with
 |none=>l
 |some d=>(d,some v)::l
theorem Ad9(d:Option Nat)(v:AV)(l:CJ):put (AJ l) d v=AJ (ins d v l):=by cases d<;>rfl
def HL:Nat->DO->CJ->DO×CJ
 |0,td,l=>(td,l)
 |n+1,td,l=>match td with
  | []=>([],l)
  |i::k=>match i with
   | .inBlock _=>HL n k l
   | .inScope _=>HL n k l
   | .ops r=>(match r with
    | []=>HL n k l
    |c::r=>(match HH c.guard l with
     |some true=>(match tv c.op l with
      |some v=>(match c.dst with
       |some d=>HL n (.ops r::k) ((d,some v)::l)
       |none=>HL n (.ops r::k) l)
      |none=>(.ops (c::r)::k,l))
     |some false=>(match c.dst with
      |some d=>HL n (.ops r::k) ((d,some (.BM []))::l)
      |none=>HL n (.ops r::k) l)
     |none=>(.ops (c::r)::k,l)))
   | .code c=>(match c with
    | .skip=>HL n k l
    | .label _=>HL n k l
    | .seq a b=>HL n (.code a:: .code b::k) l
    | .block id b=>HL n (.code b:: .inBlock id::k) l
    | .scope b=>HL n (.code b:: .inScope b::k) l
    | .ops r=>HL n (.ops r::k) l
    | .cond x a b=>(match AU l x with
     |some (.bool true)=>HL n (.code a::k) l
     |some (.bool false)=>HL n (.code b::k) l
     |_=>(.code c::k,l))
    | .exit id=>(match exitTo id k with
     |some AZ=>HL n AZ l
     |none=>(.code c::k,l))
    | .goto lb=>(match gotoIn lb k with
     |some AZ=>HL n AZ l
     |none=>(.code c::k,l))
    |_=>(.code c::k,l))
   |_=>(i::k,l)
section
variable {P:Program}{F:T DY}{K:HK}{Q:Nat->AV->Prop}
variable (L:Lg P E F K)
variable {k:DO}{ds:List HN}{ro:Option Nat}{cs:FM}
include L
theorem Dl:∀(n:Nat) {td GA:DO} {l AT:CJ},HL n td l=(GA,AT)->Good P E Q ⟨⟨fn,nt,AJ AT,GA,ds,.run,AL,ro⟩,cs,h⟩->Good P E Q ⟨⟨fn,nt,AJ l,td,ds,.run,AL,ro⟩,cs,h⟩
 |0,td,GA,l,AT,e,g=>by cases e;exact g
 |n+1,td,GA,l,AT,e,g=>by
  have ih:=λ{td:DO} {l:CJ} (e:HL n td l=(GA,AT))=>Dl n e g
  cases td with
  |nil=>cases e;exact g
  |cons i k=>
   cases i with
   |inBlock id=>exact ak3 L (ih e)
   |inScope b=>exact alh L (ih e)
   |ops r=>
    cases r with
    |nil=>exact Ajr L (ih e)
    |cons c r=>
     obtain⟨d,gd,op⟩:=c;simp only[HL]at e
     cases hg:HH gd l with
     |none=>rw[hg]at e;cases e;exact g
     |some b=>
      rw[hg]at e
      cases b with
      |false=>cases d with
       |none=>exact L8 L (Az hg) (ih e)
       |some d=>exact L8 L (Az hg) (ih e)
      |true=>
       simp only at e
       cases hv:tv op l with
       |none=>rw[hv]at e;cases e;exact g
       |some v=>
        rw[hv]at e
        cases d with
        |none=>exact Et L (Az hg) (Up hv) (ih e)
        |some d=>exact Et L (Az hg) (Up hv) (ih e)
   |code c=>
    cases c with
    |skip=>exact Ajc L (ih e)
    |label _=>exact Adu L (ih e)
    |seq a b=>exact Am1 L (ih e)
    |block id b=>exact Adv L (ih e)
    |scope b=>exact Adw L (ih e)
    |ops r=>exact Ajq L (ih e)
    |cond x a b=>
     simp only[HL]at e
     cases hx:AU l x with
     |none=>rw[hx]at e;cases e;exact g
     |some u=>
      rw[hx]at e
      cases u<;>(try simp only at e)<;>first|(cases e;exact g)|skip
      rename_i t
      cases t with
      |true=>exact gcT L (Ac hx) (ih e)
      |false=>exact gcF L (Ac hx) (ih e)
    |exit id=>
     simp only[HL]at e
     cases hx:exitTo id k with
     |none=>rw[hx]at e;cases e;exact g
     |some AZ=>rw[hx]at e;exact Ajd L hx (ih e)
    |goto lb=>
     simp only[HL]at e
     cases hx:gotoIn lb k with
     |none=>rw[hx]at e;cases e;exact g
     |some AZ=>rw[hx]at e;exact Aje L hx (ih e)
    |_=>cases e;exact g
   |_=>cases e;exact g
end
theorem yA{p:Prop}(h:p:=by
 intro Q x cs hG
 have h1:JI 0 .leaf args=AJ l0:=by rw[<-hl];exact Qv args 0 []
 exact xX L hq.1 hq.2 hn h1 (Dl L 1000 ha (body Q x cs hG))):p:=h
abbrev Bk(h:H)(b:Nat)(c:List AV):Prop:=(H.get h b=some (cl c))/\b<h.n
theorem Bk.e(k:Bk h b c):H.get h b=some (cl c):=k.1
theorem Bk.lt(k:Bk h b c):b<h.n:=k.2
section
variable {c0:List AV}{x:Option DV}{S:Nat->Prop}
theorem Avk(k:Bk h b c):Bk (hp h.n h.t []) b c:=k
theorem afk:Bk (hp (n+1) t ((n,some (cl c))::lh)) n c:=⟨H6 _ _ _ _ _,NQ n⟩
theorem yC(k:Bk (hp n t lh) i c):Bk (hp (n+1) t ((n,x)::lh)) i c:=⟨(H7 _ _ _ _ (Nat.ne_of_lt k.lt)).trans k.e,Nat.lt_succ_of_lt k.lt⟩
theorem Anr(k:Bk (hp n t lh) b c0):Bk (hp n t ((b,some (cl c))::lh)) b c:=⟨H6 _ _ _ _ _,k.lt⟩
theorem yD(BZ:i≠b)(k:Bk (hp n t lh) i c):Bk (hp n t ((b,x)::lh)) i c:=⟨(H7 _ _ _ _ BZ).trans k.e,k.lt⟩
theorem Ao(q:Kp S h AA)(hs:¬S i)(k:Bk h i c):Bk AA i c:=⟨q.get k.e k.lt hs,IF k.lt q.n⟩
theorem Ab(q:K0 h AA)(k:Bk h i c):Bk AA i c:=Ao q (λf=>f) k
theorem Kp.EA(q:K0 m AA)(k:Kp S h m):Kp S h AA:=⟨EM k.n q.n,λb hb hs=>(q.old b (IF hb k.n) λf=>f).trans (k.old b hb hs)⟩
theorem Kp.DZ{AB:Nat->Prop}(q:Kp AB m AA)(hs:∀i,i<h.n->AB i->S i)(k:Kp S h m):Kp S h AA:=⟨EM k.n q.n,λb hb hn=>(q.old b (IF hb k.n) λf=>hn (hs b hb f)).trans (k.old b hb hn)⟩
theorem R9(e:c0=c)(k:Bk h b c0):Bk h b c:=e ▸ k
end
abbrev Mk(h:H)(r:Nat)(es:List FD)(ck:Nat):Prop:=(H.get h r=some (.map es ck))/\r<h.n
theorem Mk.e(k:Mk h r es ck):H.get h r=some (.map es ck):=k.1
theorem Mk.lt(k:Mk h r es ck):r<h.n:=k.2
section
variable {x:Option DV}{S:Nat->Prop}
theorem yE(k:Mk h b es ck):Mk (hp h.n h.t []) b es ck:=k
theorem afl:Mk (hp (n+1) t ((n,some (.map es ck))::lh)) n es ck:=⟨H6 _ _ _ _ _,NQ n⟩
theorem yF(k:Mk (hp n t lh) i es ck):Mk (hp (n+1) t ((n,x)::lh)) i es ck:=⟨(H7 _ _ _ _ (Nat.ne_of_lt k.lt)).trans k.e,Nat.lt_succ_of_lt k.lt⟩
theorem yG(BZ:i≠b)(k:Mk (hp n t lh) i es ck):Mk (hp n t ((b,x)::lh)) i es ck:=⟨(H7 _ _ _ _ BZ).trans k.e,k.lt⟩
theorem Nb(q:Kp S h AA)(hs:¬S i)(k:Mk h i es ck):Mk AA i es ck:=⟨q.get k.e k.lt hs,IF k.lt q.n⟩
theorem Sa(q:K0 h AA)(k:Mk h i es ck):Mk AA i es ck:=Nb q (λf=>f) k
end
section
variable {x z:O}{lv:List AV}
theorem Qu(e:AU l x=some (.ptr b o))(hb:Bk h b c)(hv:c[o]?=some v):XV (.cC x) h l v h:=⟨Adz (Ac e) hb.e hv⟩
theorem V9{k:Nat}(e:AU l x=some (.ptr b o))(hb:Bk h b c)(hv:oI c o k=some lv):XV (.QN k x) h l (.agg lv) h:=⟨acp (Ac e) hb.e (R7 hv).1 (R7 hv).2⟩
theorem Aea(e:AU l x=some (.ptr b o))(hb:Bk h b c)(hu:c[o]?=some u)(hv:c[o+1]?=some v):XV (.QN 2 x) h l (.agg [u,v]) h:=by
 have h1:=(FE.1 hv).1;refine⟨acp (Ac e) hb.e om ?_⟩;apply QT;intro i;rcases i with _|_|i;.rw[N0 om,MN];exact hu
 .rw[N0 om,MN];exact hv
 .rw[nA om];rfl
theorem Anw{bytes a:Nat}{j:IntKind}(e:AU l x=some (.int k (a:Int)))(e1:AU l y=some (.int j (a:Int)))(h2:a*bytes<=281474976710656)(h3:a<=281474976710656):XV (.eP bytes c x y) (hp n t lh) l (.AE n 0 a a) (hp (n+1) t ((n,some (cl (rl c a)))::lh)):=⟨alm (Ac e) (Ac e1) (BD _) h2 h3 rfl⟩
theorem ao3(e:AU l x=some (.AE b o len cap))(e1:AU l y=some (.int k (i:Int)))(hi:i<len):XV (.bj 1 x y) h l (.ptr b (o+i)) h:=⟨R4 (Ac e) (Ac e1) hi (by show o+i*1=_;rw[RW])⟩
theorem Oz(e:AU l x=some (.AE b 0 len cap))(e1:AU l y=some (.int k (i:Int)))(hi:i<len):XV (.bj 1 x y) h l (.ptr b i) h:=⟨R4 (Ac e) (Ac e1) hi (by show 0+i*1=_;rw[RW,MD])⟩
theorem Ur(e:AU l x=some (.ptr b 0))(e1:AU l y=some (.int k (i:Int)))(hi:i<len):XV (.eB len 1 x y) h l (.ptr b i) h:=⟨Yc (Ac e) (Ac e1) hi (by show 0+i*1=_;rw[RW,MD])⟩
theorem Aeb:XV .iX (hp n t lh) l (.map n) (hp (n+1) t ((n,some (.map [] 0))::lh)):=⟨rfl⟩
theorem Anx{sH:Nat}{kv zero:AV}(e:AU l x=some (.map r))(ek:AU l y=some kv)(hk:Lz sh kv=true)(hb:Mk h r [] sH):XV (.lookup sh zero x y false) h l zero h:=⟨Anl e hb.e ek hk⟩
theorem Anz{sh:Bool}{k:Nat}(e:AU l x=some (.Cm k v))(e1:AU l y=some .IX):XV (.bin .neq x y sh .iface) h l (.bool true) h:=⟨by simp only[exec,Ak,Ac e,Ac e1];cases sh<;>rfl⟩
theorem Ki{k:Bool}(e:AU l x=some .IX)(e1:AU l y=some .IX):XV (.bin .neq x y true .iface) h l (.bool false) h:=⟨by simp only[exec,Ak,Ac e,Ac e1];rfl⟩
theorem alo{k:Nat}{z:AV}(e:AU l x=some (.Cm k v)):XV (.jG x k z false) h l v h:=⟨alk (Ac e)⟩
section
variable {a:Nat}{p r:Int}{j:IntKind}{q:Bool}
theorem bz(e:AU l x=some (.int k (a:Int)))(e1:AU l y=some (.int k (d:Int)))(ht:a<d):XV (.bin .lss x y q sh) h l (.bool true) h:=afb e e1 om
theorem Ajy(e:AU l x=some (.int k (a:Int)))(e1:AU l y=some (.int k (d:Int)))(ht:d<=a):XV (.bin .lss x y q sh) h l (.bool false) h:=afc e e1 om
theorem Ajz(e:AU l x=some (.int k (a:Int)))(e1:AU l y=some (.int k (d:Int)))(ht:a<=d):XV (.bin .leq x y q sh) h l (.bool true) h:=afd e e1 om
theorem Aj0(e:AU l x=some (.int k (a:Int)))(e1:AU l y=some (.int k (d:Int)))(ht:d<a):XV (.bin .leq x y q sh) h l (.bool false) h:=afe e e1 om
theorem Aj1(e:AU l x=some (.int k (a:Int)))(e1:AU l y=some (.int k (d:Int)))(ht:d<a):XV (.bin .gtr x y q sh) h l (.bool true) h:=aff e e1 om
theorem afm(e:AU l x=some (.int k (a:Int)))(e1:AU l y=some (.int k (d:Int)))(ht:a<=d):XV (.bin .gtr x y q sh) h l (.bool false) h:=afg e e1 om
theorem Aj2(e:AU l x=some (.int k (a:Int)))(e1:AU l y=some (.int k (d:Int)))(ht:d<=a):XV (.bin .geq x y q sh) h l (.bool true) h:=afi e e1 om
theorem Aj3(e:AU l x=some (.int k (a:Int)))(e1:AU l y=some (.int k (d:Int)))(ht:a<d):XV (.bin .geq x y q sh) h l (.bool false) h:=afj e e1 om
theorem wN(e:AU l x=some (.int k (a:Int)))(e1:AU l y=some (.int k (d:Int)))(ht:a=d):XV (.bin .eql x y q .QB) h l (.bool true) h:=xA e e1 om
theorem An0(e:AU l x=some (.int k (a:Int)))(e1:AU l y=some (.int k (d:Int)))(ht:a≠d):XV (.bin .eql x y q .QB) h l (.bool false) h:=xB e e1 om
theorem An1(e:AU l x=some (.int k (a:Int)))(e1:AU l y=some (.int k (d:Int)))(ht:a≠d):XV (.bin .neq x y q .QB) h l (.bool true) h:=wL e e1 om
theorem An2(e:AU l x=some (.int k (a:Int)))(e1:AU l y=some (.int k (d:Int)))(ht:a=d):XV (.bin .neq x y q .QB) h l (.bool false) h:=wM e e1 om
theorem b8(e:AU l x=some (.int .i64 p))(e1:AU l y=some (.int .i64 r))(h1: -9223372036854775808<=p+r)(h2:p+r<=9223372036854775807):XV (.bin .add x y q sh) h l (.int .i64 (p+r)) h:=⟨yo (Ac e) (Ac e1) (Kg h1 h2)⟩
theorem Aj4(e:AU l x=some (.int .i64 p))(e1:AU l y=some (.int .i64 r))(h1: -9223372036854775808<=p- r)(h2:p- r<=9223372036854775807):XV (.bin .sub x y q sh) h l (.int .i64 (p- r)) h:=⟨yq (Ac e) (Ac e1) (Kg h1 h2)⟩
theorem ce(hs:k.signed=false)(e:AU l x=some (.int k (a:Int)))(e1:AU l y=some (.int k (d:Int))):XV (.bin .add x y q sh) h l (.int k (((a+d)%pw k:Nat):Int)) h:=⟨yo (Ac e) (Ac e1) (by rw[<-Int.natCast_add,V6 hs])⟩
theorem O0(hs:k.signed=false)(e:AU l x=some (.int k (a:Int)))(e1:AU l y=some (.int k (d:Int)))(hd:d<=a)(ha:a<pw k):XV (.bin .sub x y q sh) h l (.int k ((a- d:Nat):Int)) h:=⟨yq (Ac e) (Ac e1) (by rw[<-Int.ofNat_sub hd,V7 hs om])⟩
theorem Aec(hs:k.signed=false)(e:AU l x=some (.int j (a:Int)))(ha:a<pw k):XV (.conv k x) h l (.int k (a:Int)) h:=⟨acq hs (Ac e) (cR ha)⟩
theorem Wa(hs:k.signed=false)(e:AU l x=some (.int j (a:Int))):XV (.conv k x) h l (.int k ((a%pw k:Nat):Int)) h:=⟨acq hs (Ac e) rfl⟩
theorem Aed(e:AU l x=some (.int j (a:Int)))(h2:a<9223372036854775808):XV (.conv .i64 x) h l (.int .i64 (a:Int)) h:=⟨ae7 (Ac e) (Kg om om)⟩
theorem zr{s:Nat}(e:AU l x=some (.int k (a:Int)))(e1:AU l y=some (.int j (s:Int)))(hs:s<=bits k):XV (.bin .shr x y q sh) h l (.int k ((a>>>s:Nat):Int)) h:=⟨Anc (Ac e) (Ac e1) hs rfl⟩
theorem wO(hs:k.signed=false)(e:AU l x=some (.int k (a:Int)))(e1:AU l y=some (.int k (d:Int)))(ha:a<pw k)(hc:d<pw k)(hx:(a^^^d)<pw k):XV (.bin .xor x y q sh) h l (.int k ((a^^^d:Nat):Int)) h:=⟨Anb hs (Ac e) (Ac e1) ha hc hx rfl⟩
theorem zt(e:AU l x=some (.int .i64 (a:Int)))(e1:AU l y=some (.int .i64 (d:Int)))(hd:0<d)(ha:a<9223372036854775808):XV (.bin .quo x y q sh) h l (.int .i64 ((a/d:Nat):Int)) h:=by
 refine⟨?_⟩;have h0:TO (d:Int) (Int.ofNat 0)=false:=by rw[F4];exact CW (by show(d:Int)≠0;omega)
 have h1:Int.tdiv (a:Int) (d:Int)=((a/d:Nat):Int):=rfl;have h2:a/d<=a:=an a d;simp only[exec,Ak,Ac e,Ac e1,Hk,E6,Br,h0,h1,vo];clear h1;generalize a/d=q at*;rw[Kg om om]
theorem An3(e:AU l x=some (.int k (a:Int)))(e1:AU l y=some (.int k (d:Int)))(hd:0<d):XV (.bin .rem x y q sh) h l (.int k ((a%d:Nat):Int)) h:=by
 refine⟨?_⟩;have h0:TO (d:Int) (Int.ofNat 0)=false:=by rw[F4];exact CW (by show(d:Int)≠0;omega)
 have h1:Int.tmod (a:Int) (d:Int)=((a%d:Nat):Int):=rfl;simp only[exec,Ak,Ac e,Ac e1,Hk,E6,Br,h0,h1,vo]
theorem co(e:AU l x=some (.int k (a:Int)))(e1:AU l y=some (.int k (d:Int))):XV (.aT false x y) h l (.int k ((min a d:Nat):Int)) h:=⟨yz (Ac e) (Ac e1) (by show min (a:Int) (d:Int)=_;omega)⟩
theorem Aj6(e:AU l x=some (.int k (a:Int)))(e1:AU l y=some (.int k (d:Int))):XV (.aT true x y) h l (.int k ((max a d:Nat):Int)) h:=⟨yz (Ac e) (Ac e1) (by show max (a:Int) (d:Int)=_;omega)⟩
end
end
def Ct(P:Program)(E:Env)(F:T DY)(K:HK)(f:Nat)(args:List AV)(h:H)(post:OF):Prop:=
 ∀(Q:Nat->AV->Prop) (x:EW) (cs:FM),(∀v AA,post v AA->GO P E Q (finish v cs AA x))->GO P E Q (B6 F K (.func f) args false x cs h)
abbrev CL{P:Program}{E:Env}{F:T DY}{K:HK}(L:Lg P E F K):=Ct P E F K
def qo:Nat->List AV->CJ->CJ
 |_,[],acc=>acc
 |i,a::r,acc=>qo (i+1) r ((i,some a)::acc)
theorem Qv:∀(args:List AV) (i:Nat) (acc:CJ),JI i (AJ acc) args=AJ (qo i args acc)
 | [],_,_=>rfl
 |a::r,i,acc=>Qv r (i+1) ((i,some a)::acc)
def nS(l:CJ):List fh->Option (List AV)
 | []=>some []
 | .tmp i::r=>(match look l i with
  |some v=>(match nS l r with
   |some vs=>some (v::vs)
   |none=>none)
  |none=>none)
 |_::_=>none
theorem Fl{l:CJ}{h:H}:∀{rs:List fh} {vs:List AV},nS l rs=some vs->results (AJ l) h rs=some vs
 | [],vs,e=>by cases e;rfl
 | .tmp i::r,vs,e=>by
  simp only[nS]at e
  cases h1:look l i with
  |none=>rw[h1]at e;cases e
  |some v=>
   cases h2:nS l r with
   |none=>rw[h1,h2]at e;cases e
   |some us=>rw[h1,h2]at e;cases e;exact Ani h1 (Fl h2)
 | .nu _::r,vs,e=>by cases e
 | .ny _ _::r,vs,e=>by cases e
 | .bad::r,vs,e=>by cases e
section
variable {P:Program}{F:T DY}{K:HK}{Q:Nat->AV->Prop}
variable {AT:CJ}{k GA:DO}{ds:List HN}{ro:Option Nat}{cs:FM}{gd:Option (Nat×Bool)}{d:Option Nat}{r:List CI}
variable {x:O}{BP lv:List AV}{post:OF}
variable (L:Lg P E F K)
include L
theorem IQ{d:Nat}(hg:HH gd l=some true)(hx:XV op h l v AA)(ha:HL 1000 (.ops r::k) ((d,some v)::l)=(GA,AT))(g:Good P E Q ⟨⟨fn,nt,AJ AT,GA,ds,.run,AL,ro⟩,cs,AA⟩):Good P E Q ⟨⟨fn,nt,AJ l,.ops (⟨some d,gd,op⟩::r)::k,ds,.run,AL,ro⟩,cs,h⟩:=Et L (Az hg) hx.e (Dl L 1000 ha g)
theorem fD{m:Nat}(hg:HH gd l=some true)(e:AU l x=some (.ptr b o))(e1:AU l y=some v)(hc:A1 v=some lv)(hm:Nat.beq lv.length m=true)(DL:Av lv=true)(hb:Bk (hp n t lh) b c)(hs:Lv lv c o=some BP)(ha:HL 1000 (.ops r::k) l=(GA,AT))(g:Good P E Q ⟨⟨fn,nt,AJ AT,GA,ds,.run,AL,ro⟩,cs,hp n t ((b,some (cl BP))::lh)⟩):Good P E Q ⟨⟨fn,nt,AJ l,.ops (⟨none,gd,.store m x y⟩::r)::k,ds,.run,AL,ro⟩,cs,hp n t lh⟩:=V5 L (Az hg) (Ac e) (Ac e1) hc hm DL hb.e (K8 hs).1 (K8 hs).2 (Dl L 1000 ha g)
theorem rM(hg:HH gd l=some true)(e:AU l x=some (.ptr b o))(e1:AU l y=some v)(hc:A1 v=some [v])(DL:A8 v=true)(hb:Bk (hp n t lh) b c)(ho:o<c.length)(ha:HL 1000 (.ops r::k) l=(GA,AT))(g:Good P E Q ⟨⟨fn,nt,AJ AT,GA,ds,.run,AL,ro⟩,cs,hp n t ((b,some (cl (c.set o v)))::lh)⟩):Good P E Q ⟨⟨fn,nt,AJ l,.ops (⟨none,gd,.store 1 x y⟩::r)::k,ds,.run,AL,ro⟩,cs,hp n t lh⟩:=Avj L ⟨Az hg⟩ e e1 hc DL ⟨hb.e⟩ ho (Dl L 1000 ha g)
omit L in
theorem ao4(c:List AV)(v u:AV)(o:Nat)(ho:o+1<c.length):Gb [v,u] c o=(c.set o v).set (o+1) u:=by
 apply QT;intro i;rw[Fv [v,u] c o i Y1,nM,nM,LQ];by_cases h1:o+1=i;.subst h1;simp[ho]
 .by_cases h2:o=i;.subst h2;simp;omega
  .rw[AM h1,AM h2,AM Y1]
theorem Avl(hg:HH gd l=some true)(e:AU l x=some (.ptr b o))(e1:AU l y=some (.agg [v,u]))(DL:A8 v=true)(NJ:A8 u=true)(hb:Bk (hp n t lh) b c)(ho:o+1<c.length)(ha:HL 1000 (.ops r::k) l=(GA,AT))(g:Good P E Q ⟨⟨fn,nt,AJ AT,GA,ds,.run,AL,ro⟩,cs,hp n t ((b,some (cl ((c.set o v).set (o+1) u)))::lh)⟩):Good P E Q ⟨⟨fn,nt,AJ l,.ops (⟨none,gd,.store 2 x y⟩::r)::k,ds,.run,AL,ro⟩,cs,hp n t lh⟩:=V5 L (Az hg) (Ac e) (Ac e1) rfl rfl (by simp only[Av,DL,NJ]) hb.e (by have:[v,u].length=2:=rfl;omega) (ao4 c v u o ho) (Dl L 1000 ha g)
theorem An4{d:Nat}(hg:HH gd l=some true)(e:AU l x=some (.fn (.func f) [] cp))(ha:Fb l a=some va)(hr:E5 va cp=some args)(hc:Ct P E F K f args h post)(g:∀v AA,post v AA->Good P E Q ⟨⟨fn,nt,AJ ((d,some v)::l),.ops r::k,ds,.run,AL,ro⟩,cs,hp AA.n AA.t []⟩):Good P E Q ⟨⟨fn,nt,AJ l,.ops (⟨some d,gd,.LY x a⟩::r)::k,ds,.run,AL,ro⟩,cs,h⟩:=R5 L (Az hg) (Jb e ha hr) (hc Q _ cs λv AA p=>L9 L Zt (g v AA p))
theorem Aj8{d:Nat}{R:AV->Prop}(hg:HH gd l=some true)(e:AU l x=some (.fn (.func f) [] cp))(ha:Fb l a=some va)(hr:E5 va cp=some args)(hc:Ct P E F K f args (hp n t lh) λv AA=>R v/\AA=hp n t lh)(g:∀v,R v->Good P E Q ⟨⟨fn,nt,AJ ((d,some v)::l),.ops r::k,ds,.run,AL,ro⟩,cs,hp n t lh⟩):Good P E Q ⟨⟨fn,nt,AJ l,.ops (⟨some d,gd,.LY x a⟩::r)::k,ds,.run,AL,ro⟩,cs,hp n t lh⟩:=R5 L (Az hg) (Jb e ha hr) (hc Q _ cs λv AA p=>L9 L Zt (p.2 ▸ g v p.1))
theorem Sb{l0 l1:CJ}{td:DO}(hq:Fk F K f g)(body:∀(Q:Nat->AV->Prop) (x:EW) (cs:FM),(∀v AA,post v AA->GO P E Q (finish v cs AA x))->Good P E Q ⟨⟨f,g.ntmps,AJ l1,td,[],.run,false,none⟩,x::cs,hp h.n h.t []⟩)(hn:Nat.ble args.length g.ntmps=true:=by exact rfl)(hl:qo 0 args []=l0:=by exact rfl)(ha:HL 1000 [.code g.body] l0=(td,l1):=by exact rfl):Ct P E F K f args h post:=by exact yA
section
variable {l1:CJ}{td:DO}{a0 a1 a2 a3 a4 a5 a6 a7:AV}
theorem Aj(hq:Fk F K f g)(body:∀(Q:Nat->AV->Prop) (x:EW) (cs:FM),(∀v AA,post v AA->GO P E Q (finish v cs AA x))->Good P E Q ⟨⟨f,g.ntmps,AJ l1,td,[],.run,false,none⟩,x::cs,hp h.n h.t []⟩)(hn:Nat.ble 1 g.ntmps=true:=by exact rfl)(ha:HL 1000 [.code g.body] [(0,some a0)]=(td,l1):=by exact rfl):Ct P E F K f [a0] h post:=Sb L hq body hn rfl ha
theorem Ad(hq:Fk F K f g)(body:∀(Q:Nat->AV->Prop) (x:EW) (cs:FM),(∀v AA,post v AA->GO P E Q (finish v cs AA x))->Good P E Q ⟨⟨f,g.ntmps,AJ l1,td,[],.run,false,none⟩,x::cs,hp h.n h.t []⟩)(hn:Nat.ble 2 g.ntmps=true:=by exact rfl)(ha:HL 1000 [.code g.body] [(1,some a1),(0,some a0)]=(td,l1):=by exact rfl):Ct P E F K f [a0,a1] h post:=Sb L hq body hn rfl ha
theorem Bj(hq:Fk F K f g)(body:∀(Q:Nat->AV->Prop) (x:EW) (cs:FM),(∀v AA,post v AA->GO P E Q (finish v cs AA x))->Good P E Q ⟨⟨f,g.ntmps,AJ l1,td,[],.run,false,none⟩,x::cs,hp h.n h.t []⟩)(hn:Nat.ble 3 g.ntmps=true:=by exact rfl)(ha:HL 1000 [.code g.body] [(2,some a2),(1,some a1),(0,some a0)]=(td,l1):=by exact rfl):Ct P E F K f [a0,a1,a2] h post:=Sb L hq body hn rfl ha
theorem Mc(hq:Fk F K f g)(body:∀(Q:Nat->AV->Prop) (x:EW) (cs:FM),(∀v AA,post v AA->GO P E Q (finish v cs AA x))->Good P E Q ⟨⟨f,g.ntmps,AJ l1,td,[],.run,false,none⟩,x::cs,hp h.n h.t []⟩)(hn:Nat.ble 4 g.ntmps=true:=by exact rfl)(ha:HL 1000 [.code g.body] [(3,some a3),(2,some a2),(1,some a1),(0,some a0)]=(td,l1):=by exact rfl):Ct P E F K f [a0,a1,a2,a3] h post:=Sb L hq body hn rfl ha
theorem Sc(hq:Fk F K f g)(body:∀(Q:Nat->AV->Prop) (x:EW) (cs:FM),(∀v AA,post v AA->GO P E Q (finish v cs AA x))->Good P E Q ⟨⟨f,g.ntmps,AJ l1,td,[],.run,false,none⟩,x::cs,hp h.n h.t []⟩)(hn:Nat.ble 5 g.ntmps=true:=by exact rfl)(ha:HL 1000 [.code g.body] [(4,some a4),(3,some a3),(2,some a2),(1,some a1),(0,some a0)]=(td,l1):=by exact rfl):Ct P E F K f [a0,a1,a2,a3,a4] h post:=Sb L hq body hn rfl ha
end
theorem Avm{x:EW}{vs:List AV}(hf:T.get F fn=some g)(hr:results (AJ l) h g.results=some vs)(hG:∀v AA,post v AA->GO P E Q (finish v cs AA x))(p:post (single vs) h):Good P E Q ⟨⟨fn,nt,AJ l,.code .ret::k,[],.run,false,none⟩,x::cs,h⟩:=Am4 L hf hr (hG _ _ p)
theorem Avn{x:EW}{vs:List AV}(hf:T.get F fn=some g)(hr:results (AJ l) h g.results=some vs)(hG:∀v AA,post v AA->GO P E Q (finish v cs AA x))(p:post (single vs) h):Good P E Q ⟨⟨fn,nt,AJ l,[],[],.run,false,none⟩,x::cs,h⟩:=wu L hf hr (hG _ _ p)
omit L in
theorem Ct.mono{WB:OF}(c:Ct P E F K f args h WB)(m:∀v AA,WB v AA->post v AA):Ct P E F K f args h post:=λQ x cs g=>c Q x cs λv AA p=>g v AA (m v AA p)
theorem JH{nm:List Nat}{q:CJ}{todo:DO}{mode:VC}(ho:Cn l nm=some q)(g:Good P E Q ⟨⟨fn,nt,AJ q,todo,ds,mode,AL,ro⟩,cs,h⟩):Good P E Q ⟨⟨fn,nt,AJ l,todo,ds,mode,AL,ro⟩,cs,h⟩:=by
 refine D0 L (FV:=AJ q) (λi v hv=>?_) g;rw[<-B7 ho]at hv;clear ho g;induction nm with
 |nil=>simp only[only,T.VM]at hv;cases hv
 |cons a nm ih=>
  simp only[only]at hv
  cases ha:T.get (AJ l) a with
  |none=>rw[ha]at hv;exact ih hv
  |some u=>
   rw[ha]at hv;simp only[T.MH]at hv;by_cases hi:i=a;.subst hi;rw[AP rfl]at hv;rw[ha];exact hv
   .rw[AM hi]at hv;exact ih hv
theorem Bt{α:Type}{bd:CC}(T:Nat->α->CJ)(n:Nat)(R:Nat->α->H->Prop){i0:Nat}(s0:α){h0:H}(hT:FY (AJ (T i0 s0)) (AJ l))(hR:R i0 s0 h0)(hi:i0<=n)(body:∀i s h,i<n->R i s h->(∀EU AA AT,R (i+1) EU AA->FY (AJ (T (i+1) EU)) (AJ AT)->Good P E Q ⟨⟨fn,nt,AJ AT,.inLoop bd::k,ds,.run,AL,ro⟩,cs,AA⟩)->Good P E Q ⟨⟨fn,nt,AJ (T i s),.code bd:: .inLoop bd::k,ds,.run,AL,ro⟩,cs,hp h.n h.t []⟩)(done:∀s h,R n s h->Good P E Q ⟨⟨fn,nt,AJ (T n s),.code bd:: .inLoop bd::k,ds,.run,AL,ro⟩,cs,hp h.n h.t []⟩):Good P E Q ⟨⟨fn,nt,AJ l,.code (.loop bd)::k,ds,.run,AL,ro⟩,cs,h0⟩:=by
 have main:∀m i s h,i+m=n->R i s h->Good P E Q ⟨⟨fn,nt,AJ (T i s),.code bd:: .inLoop bd::k,ds,.run,AL,ro⟩,cs,hp h.n h.t []⟩:=by
  intro m;induction m with
  |zero=>
       intro i s h e hR;have:i=n:=om
       subst this;exact done s h hR
  |succ m ih=>intro i s h e hR;exact body i s h om hR λEU AA AT oT X5=>Bs L (D0 L X5 (ih (i+1) EU AA om oT))
 exact Bi L (D0 L hT (main (n- i0) i0 s0 h0 om hR))
section
variable {q:CJ}{nm:List Nat}{pre By:List DI}{ps:List Ph}{di:Nat}
omit L
theorem B4(ho:Cn l nm=some q)(hg:HH gd q=some true)(hx:XV op h q v AA)(g:Bh P E Q pre By ps k fn nt (AJ ((di,some v)::l)) ds AL ro cs AA):Bh P E Q (⟨⟨some di,gd,op⟩,nm⟩::pre) By ps k fn nt (AJ l) ds AL ro cs h:=p_v ho (Az hg) hx.e g
theorem Yg(ho:Cn l nm=some q)(hg:HH gd q=some false)(g:Bh P E Q pre By ps k fn nt (AJ ((di,some (.BM []))::l)) ds AL ro cs h):Bh P E Q (⟨⟨some di,gd,op⟩,nm⟩::pre) By ps k fn nt (AJ l) ds AL ro cs h:=p_s ho (Az hg) g
theorem Avo(ho:Cn l nm=some q)(hg:HH gd q=some true)(hx:XV op h q v AA)(hl:look l di=some v)(ha:Mb 20 v=true)(g:NF By (AJ l) h=true):NF (⟨⟨some di,gd,op⟩,nm⟩::By) (AJ l) h=true:=k_v ho (Az hg) hx.e hl ha g
theorem Avp(ho:Cn l nm=some q)(hg:HH gd q=some false)(hl:look l di=some (.BM []))(g:NF By (AJ l) h=true):NF (⟨⟨some di,gd,op⟩,nm⟩::By) (AJ l) h=true:=k_s ho (Az hg) hl g
include L
theorem Wb(hc:NF By (AJ l) h=true)(ha:HL 1000 k l=(GA,AT))(g:Good P E Q ⟨⟨fn,nt,AJ AT,GA,ds,.run,AL,ro⟩,cs,h⟩):Bh P E Q [] By [] k fn nt (AJ l) ds AL ro cs h:=vL hc (Dl L 1000 ha g)
theorem H8(ho:Cn l nm=some q)(hg:HH gd q=some true)(hx:XV op h q v AA)(g:Bh P E Q pre By ps k fn nt (AJ ((di,some v)::l)) ds AL ro cs AA):Good P E Q ⟨⟨fn,nt,AJ l,.drawn ⟨⟨⟨some di,gd,op⟩,nm⟩,pre,By⟩ ps::k,ds,.run,AL,ro⟩,cs,h⟩:=e_v L ho (Az hg) hx.e g
theorem Avq(ho:Cn l nm=some q)(hg:HH gd q=some false)(g:Bh P E Q pre By ps k fn nt (AJ ((di,some (.BM []))::l)) ds AL ro cs h):Good P E Q ⟨⟨fn,nt,AJ l,.drawn ⟨⟨⟨some di,gd,op⟩,nm⟩,pre,By⟩ ps::k,ds,.run,AL,ro⟩,cs,h⟩:=e_s L ho (Az hg) g
theorem An5(ho:Cn l nm=some q)(hg:HH gd q=some true)(e:AU q x=some (.fn (.func f) [] cp))(ha:Fb q a=some va)(hr:E5 va cp=some args)(hc:Ct P E F K f args h post)(g:∀v AA,post v AA->Bh P E Q pre By ps k fn nt (AJ ((di,some v)::l)) ds AL ro cs (hp AA.n AA.t [])):Good P E Q ⟨⟨fn,nt,AJ l,.drawn ⟨⟨⟨some di,gd,.LY x a⟩,nm⟩,pre,By⟩ ps::k,ds,.run,AL,ro⟩,cs,h⟩:=oL L ho (Az hg) (Jb e ha hr) (hc Q _ cs λv AA p=>fd Zt (g v AA p))
theorem Aj9{R:AV->Prop}(ho:Cn l nm=some q)(hg:HH gd q=some true)(e:AU q x=some (.fn (.func f) [] cp))(ha:Fb q a=some va)(hr:E5 va cp=some args)(hc:Ct P E F K f args (hp n t lh) λv AA=>R v/\AA=hp n t lh)(g:∀v,R v->Bh P E Q pre By ps k fn nt (AJ ((di,some v)::l)) ds AL ro cs (hp n t lh)):Good P E Q ⟨⟨fn,nt,AJ l,.drawn ⟨⟨⟨some di,gd,.LY x a⟩,nm⟩,pre,By⟩ ps::k,ds,.run,AL,ro⟩,cs,hp n t lh⟩:=oL L ho (Az hg) (Jb e ha hr) (hc Q _ cs λv AA p=>fd Zt (p.2 ▸ g v p.1))
theorem y7{m:Nat}(ho:Cn l nm=some q)(hg:HH gd q=some true)(e:AU q x=some (.ptr b o))(e1:AU q y=some v)(hc:A1 v=some lv)(hm:Nat.beq lv.length m=true)(DL:Av lv=true)(hb:Bk (hp n t lh) b c)(hs:Lv lv c o=some BP)(g:Good P E Q ⟨⟨fn,nt,AJ l,k,ds,.run,AL,ro⟩,cs,hp n t ((b,some (cl BP))::lh)⟩):Good P E Q ⟨⟨fn,nt,AJ l,.drawn ⟨⟨⟨none,gd,.store m x y⟩,nm⟩,[],[]⟩ []::k,ds,.run,AL,ro⟩,cs,hp n t lh⟩:=y9 L ho (Az hg) e e1 hc hm DL hb.e hs λAA hs'=>vL zb (Tx L hs' g)
theorem wP(ho:Cn l nm=some q)(hg:HH gd q=some true)(e:AU q x=some (.ptr b o))(e1:AU q y=some v)(hc:A1 v=some [v])(DL:A8 v=true)(hb:Bk (hp n t lh) b c)(bW:o<c.length)(g:Good P E Q ⟨⟨fn,nt,AJ l,k,ds,.run,AL,ro⟩,cs,hp n t ((b,some (cl (c.set o v)))::lh)⟩):Good P E Q ⟨⟨fn,nt,AJ l,.drawn ⟨⟨⟨none,gd,.store 1 x y⟩,nm⟩,[],[]⟩ []::k,ds,.run,AL,ro⟩,cs,hp n t lh⟩:=by
 obtain⟨AA,q1,q2⟩:=M8 (n:=n) (t:=t) (lh:=lh) (lv:=[v]) (by simp only[Av,DL]) hb.e (by have:[v].length=1:=rfl;omega) (Ye c v o bW);have hx:exec (.store 1 x y) (hp n t lh) (AJ q)= .val .FK AA:=by simp only[exec,Ak,Ac e,Ac e1,hc,q1];rfl
 exact ja L (dst:=none) (by rw[B7 ho];exact Az hg) qA (vL (l:=l) zb (Tx L q2 g))
end
end
variable {A B p:Prop}{a:Nat}
theorem Avr(h:p:=by
 have hz:Nat.mul 0 size=0:=jY size
 have h3:Nat.sub c 0=c:=rfl
 have h4:Nat.sub m 0=m:=rfl
 simp only[hz,h3,h4]
 cases Nat.beq m 0<;>rfl):p:=h
theorem Ba(h:a<=b):Nat.ble a b=true:=by rw[PQ];exact h
theorem Jd(h:a≠b):Nat.beq a b=false:=by
 cases hq:Nat.beq a b with
 |false=>rfl
 |true=>exact absurd (jL hq) h
section
variable {x z w:O}{size c m:Nat}{j:IntKind}
theorem y8{lo hi:Option O}{la lb:Option Nat}(e:AU l x=some (.AE b o len (Aa+size)))(h1:QV l lo la)(h2:QV l hi lb)(hc:lb.getD len=c)(ha:la.getD 0=a)(oW:a<=c)(NV:c<=len):XV (.XS size x lo hi none) h l (.AE b (o+a*size) (c- a) (Aa+size)) h:=by refine⟨?_⟩;have g3:Ei (AJ l) none=some none:=rfl;simp only[exec,Ak,h1.opt,h2.opt,g3,Ac e,J1,Tr,Ba (show Aa<=Aa+size from om),Q5,ha,hc,Ba oW,Ba NV];have q3:Nat.beq (Aa+size) (Nat.add Aa size)=true:=OE _;rw[q3];rfl
theorem An8(e:AU l x=some (.AE b o len (Aa+size)))(e2:AU l z=some (.int k (c:Int)))(NV:c<=len):XV (.XS size x none (some z) none) h l (.AE b o c (Aa+size)) h:=by have:=y8 (h:=h) (a:=0) (c:=c) e .no (.gE e2) rfl rfl (CN _) NV;rwa[jY,TV,WK]at this
theorem An9(e:AU l x=some (.AE b o len (Aa+1)))(e1:AU l y=some (.int j (a:Int)))(VO:a<=len):XV (.XS 1 x (some y) none none) h l (.AE b (o+a) (len- a) (Aa+1)) h:=by have:=y8 (h:=h) (a:=a) (c:=len) e (.gE e1) .no rfl rfl VO (BD _);rwa[RW]at this
theorem Aoa(e:AU l x=some (.AE b o len (Aa+size)))(e1:AU l z=some (.int j (c:Int)))(e2:AU l w=some (.int k (m:Int)))(hc:c<=m)(hm:m<=len)(hl:len<Aa):XV (.XS size x none (some z) (some w)) h l (.AE b o c m) h:=by refine⟨?_⟩;have g1:Ei (AJ l) none=some none:=rfl;simp only[exec,Ak,g1,(QV.gE e1).opt,(QV.gE e2).opt,Ac e,J1,Tr,Ba (show Aa<=Aa+size from om),Q5,Ba hc,Ba hm,cS,Ba (CN c),Ba (show Nat.succ m<=Aa from om),vo];exact Avr
theorem Aob(e:AU l x=some .AS)(e2:AU l z=some (.int k ((0:Nat):Int))):XV (.XS size x none (some z) none) h l .AS h:=by refine⟨?_⟩;have g1:Ei (AJ l) none=some none:=rfl;simp only[exec,Ak,g1,(QV.gE e2).opt,Ac e];rfl
theorem Aka(e:AU l x=some .AS):XV (.kD x) h l (.int .i64 ((0:Nat):Int)) h:=⟨by simp only[exec,Ak,Ac e];rfl⟩
variable {sl bytes:Nat}
theorem yH(e:AU l x=some (.AE b o sl cap))(e1:AU l y=some .AS):XV (.append size bytes x y) h l (.AE b o sl cap) h:=⟨by simp only[exec,Ak,Ac e,Ac e1];rfl⟩
theorem wQ(e:AU l x=some .AS)(e1:AU l y=some .AS):XV (.append size bytes x y) h l .AS h:=⟨by simp only[exec,Ak,Ac e,Ac e1];rfl⟩
end
theorem AG(h:p:=by
 (repeat(first|assumption|exact afk|(apply Avk;first|assumption|(apply Ab;assumption)|(apply Ao;assumption;(first|omega|(dsimp only;omega))))|apply yC|apply Anr|(apply yD;first|omega|assumption)))
 (first |done |fail "no")):p:=h
theorem vB(h:p:=by
 (repeat(first|assumption|exact afl|(apply yE;first|assumption|(apply Sa;assumption)|(apply Nb;assumption;(first|omega|(dsimp only;omega))))|apply yF|(apply yG;first|omega|assumption)))
 (first |done |fail "no")):p:=h
theorem XM(h:p:=by
 (first
  |exact⟨Up rfl⟩
  |(apply Qu rfl;exact AG;first|rfl|assumption)
  |(apply V9 rfl;exact AG;rfl)
  |(apply Aea rfl;exact AG;assumption;assumption)
  |exact Oz rfl rfl om|exact ao3 rfl rfl om|exact Na rfl rfl om|exact Ur rfl rfl om
  |exact Anm rfl rfl om
  |exact bz rfl rfl om|exact Ajy rfl rfl om
  |exact wN rfl rfl om|exact An0 rfl rfl om
  |exact An1 rfl rfl om|exact An2 rfl rfl om
  |exact Ajz rfl rfl om|exact Aj0 rfl rfl om
  |exact Aj1 rfl rfl om|exact afm rfl rfl om
  |exact Aj2 rfl rfl om|exact Aj3 rfl rfl om
  |exact aoz|exact zd rfl rfl rfl|exact Yf rfl|exact Anw rfl rfl om om
  |exact Ann rfl rfl om om|exact Ano rfl rfl om
  |exact Aed rfl om|exact Aec rfl rfl ZM
  |exact zt rfl rfl om om|exact An3 rfl rfl om
  |exact An8 rfl rfl om|exact An9 rfl rfl om|exact Aoa rfl rfl rfl om om mD
  |exact Aob rfl rfl|exact yH rfl rfl|exact wQ rfl rfl|exact Aka rfl
  |(apply Anx rfl rfl rfl;exact vB)|exact Aeb|exact co rfl rfl|exact Aj6 rfl rfl
  |exact afb rfl rfl om|exact afc rfl rfl om
  |exact xA rfl rfl om|exact xB rfl rfl om
  |exact wL rfl rfl om|exact wM rfl rfl om
  |exact afd rfl rfl om|exact afe rfl rfl om
  |exact aff rfl rfl om|exact afg rfl rfl om
  |exact afi rfl rfl om|exact afj rfl rfl om
  |exact b8 rfl rfl om om|exact Aj4 rfl rfl om om
  |exact Anz rfl rfl|exact Ki rfl rfl|exact alo rfl)):p:=h
theorem By(h:p:=by
 (repeat(first|exact zb|(apply Avo rfl rfl XM rfl rfl)|(apply Avp rfl rfl rfl)))):p:=h
structure bA (p:Prop):Prop where
 g:p
section
variable {P:Program}{Q:Nat->AV->Prop}{F:T DY}{K:HK}{AT:CJ}{k GA:DO}{ds:List HN}{ro:Option Nat}{cs:FM}{gd:Option (Nat×Bool)}{r:List CI}
theorem BO(L:Lg P E F K)(hx:XV op h l v AA)(g:Good P E Q ⟨⟨fn,nt,AJ AT,GA,ds,.run,AL,ro⟩,cs,AA⟩)(hg:HH gd l=some true:=by exact rfl)(ha:HL 1000 (.ops r::k) ((d,some v)::l)=(GA,AT):=by exact rfl):Good P E Q ⟨⟨fn,nt,AJ l,.ops (⟨some d,gd,op⟩::r)::k,ds,.run,AL,ro⟩,cs,h⟩:=IQ L hg hx ha g
end
theorem wk(g:B)(h:bA B->A:=by
 intro QK
 (try refine Dl L 1000 rfl ?_)
 (repeat(first
  |(apply IQ L rfl;exact XM;rfl)
  |(apply fD L rfl rfl rfl rfl rfl rfl;exact AG;rfl;rfl)
  |(apply rM L rfl rfl rfl rfl rfl;exact AG;(first|assumption|omega);rfl)
  |(apply Avl L rfl rfl rfl rfl rfl;exact AG;(first|assumption|omega);rfl)
  |refine Qt L ?_
  |(apply B4 rfl rfl;exact XM)
  |(apply Yg rfl rfl)
  |(apply Wb L;exact By;rfl)
  |(apply eZ;exact By)
  |(apply H8 L rfl rfl;exact XM)
  |(apply Avq L rfl rfl)
  |(apply y7 L rfl rfl rfl rfl rfl rfl rfl;exact AG;rfl;refine Dl L 1000 rfl ?_)
  |(apply wP L rfl rfl rfl rfl rfl rfl;exact AG;(first|assumption|omega);refine Dl L 1000 rfl ?_)))
 exact QK.g):A:=h ⟨g⟩
theorem lit(g:B)(h:bA B->A:=by
 intro QK
 (try refine Dl L 1000 rfl ?_)
 (repeat(first|(apply IQ L rfl;exact⟨Up rfl⟩;rfl)|(apply IQ L rfl;exact zd rfl rfl rfl;rfl)|(apply IQ L rfl;exact bz rfl rfl om;rfl)|(apply IQ L rfl;exact Oz rfl rfl om;rfl)|(apply IQ L rfl;(apply Qu rfl;exact AG;first|rfl|assumption);rfl)))
 exact QK.g):A:=h ⟨g⟩
theorem liq(g:B)(h:bA B->A:=by
 intro QK
 (try refine Dl L 1000 rfl ?_)
 (repeat(first|(apply IQ L rfl;exact⟨Up rfl⟩;rfl)|(apply IQ L rfl;exact zd rfl rfl rfl;rfl)|(apply IQ L rfl;exact bz rfl rfl om;rfl)|(apply IQ L rfl;exact Oz rfl rfl om;rfl)|(apply IQ L rfl;exact Na rfl rfl om;rfl)))
 exact QK.g):A:=h ⟨g⟩
theorem WA(g:B)(h:bA B->A:=by
 intro QK
 (repeat(first|(apply B4 rfl rfl;exact⟨Up rfl⟩)|(apply B4 rfl rfl;exact afm rfl rfl om)|(apply B4 rfl rfl;exact wN rfl rfl om)|(apply B4 rfl rfl;(apply Qu rfl;exact AG;first|rfl|assumption))|(apply B4 rfl rfl;(apply V9 rfl;exact AG;rfl))|(apply Yg rfl rfl)))
 exact QK.g):A:=h ⟨g⟩
theorem res(h:p:=by
 (first
  |exact Fl rfl
  |exact K9 rfl (Bk.e AG) rfl E7
  |exact Bw rfl (Bk.e AG) rfl E7
  |exact K9 rfl (Bk.e AG) rfl (Fl rfl)
  |exact Bw rfl (Bk.e AG) rfl (Fl rfl))):p:=h
theorem ret(hf:p)(g:B)(h:p->bA B->A:=by
 intro hf_ QK
 refine wk ?_
 first
  |(apply Avm L hf_ res G;exact QK.g)
  |(apply Avn L hf_ res G;exact QK.g)):A:=h hf ⟨g⟩
theorem AK(g:B)(h:p->bA B->A:=by
 intro dR QK
 refine wk ?_
 first
  |(apply Aj8 L rfl rfl rfl rfl;exact dR;exact QK.g)
  |(apply Aj9 L rfl rfl rfl rfl rfl;exact dR;exact QK.g)
  |(apply An4 L rfl rfl rfl rfl;exact dR;exact QK.g)
  |(apply An5 L rfl rfl rfl rfl rfl;exact dR;exact QK.g))(c:p):A:=h c ⟨g⟩
theorem AH(h:p:=by
 (repeat(first|assumption|exact Kp.refl _|refine Kp.nw ?_|refine Kp.st (by first|exact .inl om|exact .inr rfl|exact .inr (by assumption)|exact .inr (by(try dsimp only);omega)) ?_|(apply Kp.EA;assumption)|(apply Kp.DZ;assumption;(intro aqh h1_ h2_;(try dsimp only at h2_ ⊢);omega))))):p:=h
theorem BA(h:p:=by
 (repeat(first|exact aoo|refine aln rfl ?_))):p:=h
