/- Part of the proof. -/
import Derived.Test.YtgkianlpkdfhkaaGreatQ06
set_option linter.unusedVariables false
set_option linter.unusedSimpArgs false
set_option linter.unusedSectionVars false
namespace Go.Ev
section
variable {P:Program}{E:Env}{F:T CFn}{K:T (List AV×AV)}{Q:Nat→AV→Prop}
variable (L:Lg P E F K)
variable {fn nt:Nat}{tm:T AV}{todo k:List AItem}{ds:List ADef}{dfd:Bool}{ro:Option Nat}{cs:List AFr}{h h':H}
include L
theorem vi (g:Good P E Q ⟨⟨fn,nt,tm,k,ds,.run,dfd,ro⟩,cs,h⟩):Good P E Q ⟨⟨fn,nt,tm,.code .skip::k,ds,.run,dfd,ro⟩,cs,h⟩:=A0 L g
theorem pj {l:Nat}(g:Good P E Q ⟨⟨fn,nt,tm,k,ds,.run,dfd,ro⟩,cs,h⟩):Good P E Q ⟨⟨fn,nt,tm,.code (.label l)::k,ds,.run,dfd,ro⟩,cs,h⟩:=A0 L g
theorem y7 {a b:CC}(g:Good P E Q ⟨⟨fn,nt,tm,.code a:: .code b::k,ds,.run,dfd,ro⟩,cs,h⟩):Good P E Q ⟨⟨fn,nt,tm,.code (.seq a b)::k,ds,.run,dfd,ro⟩,cs,h⟩:=A0 L g
theorem pp {id:Nat}{b:CC}(g:Good P E Q ⟨⟨fn,nt,tm,.code b:: .inBlock id::k,ds,.run,dfd,ro⟩,cs,h⟩):Good P E Q ⟨⟨fn,nt,tm,.code (.block id b)::k,ds,.run,dfd,ro⟩,cs,h⟩:=A0 L g
theorem A2 {b:CC}(g:Good P E Q ⟨⟨fn,nt,tm,.code b:: .inLoop b::k,ds,.run,dfd,ro⟩,cs,h⟩):Good P E Q ⟨⟨fn,nt,tm,.code (.loop b)::k,ds,.run,dfd,ro⟩,cs,h⟩:=A0 L g
theorem Bh {b:CC}(g:Good P E Q ⟨⟨fn,nt,tm,.code b:: .inLoop b::k,ds,.run,dfd,ro⟩,cs,h⟩):Good P E Q ⟨⟨fn,nt,tm,.inLoop b::k,ds,.run,dfd,ro⟩,cs,h⟩:=A0 L g
theorem pq {b:CC}(g:Good P E Q ⟨⟨fn,nt,tm,.code b:: .inScope b::k,ds,.run,dfd,ro⟩,cs,h⟩):Good P E Q ⟨⟨fn,nt,tm,.code (.scope b)::k,ds,.run,dfd,ro⟩,cs,h⟩:=A0 L g
theorem Zg {id:Nat}(g:Good P E Q ⟨⟨fn,nt,tm,k,ds,.run,dfd,ro⟩,cs,h⟩):Good P E Q ⟨⟨fn,nt,tm,.inBlock id::k,ds,.run,dfd,ro⟩,cs,h⟩:=A0 L g
theorem Zh {b:CC}(g:Good P E Q ⟨⟨fn,nt,tm,k,ds,.run,dfd,ro⟩,cs,h⟩):Good P E Q ⟨⟨fn,nt,tm,.inScope b::k,ds,.run,dfd,ro⟩,cs,h⟩:=A0 L g
theorem vj {id:Nat}{k':List AItem}(e:Ev.exitTo id k=some k')(g:Good P E Q ⟨⟨fn,nt,tm,k',ds,.run,dfd,ro⟩,cs,h⟩):Good P E Q ⟨⟨fn,nt,tm,.code (.exit id)::k,ds,.run,dfd,ro⟩,cs,h⟩:=by
 refine A0 L ?_
 simp only [Ev.step,Bg,Bv,e];exact g
theorem vk {l:Nat}{k':List AItem}(e:Ev.gotoIn l k=some k')(g:Good P E Q ⟨⟨fn,nt,tm,k',ds,.run,dfd,ro⟩,cs,h⟩):Good P E Q ⟨⟨fn,nt,tm,.code (.goto l)::k,ds,.run,dfd,ro⟩,cs,h⟩:=by
 refine A0 L ?_
 simp only [Ev.step,Bg,Bv,e];exact g
theorem vm {x:O}{a b:CC}{t:Bool}(e:ev tm x= .bool t)(g1:t=true→Good P E Q ⟨⟨fn,nt,tm,.code a::k,ds,.run,dfd,ro⟩,cs,h⟩)(g2:t=false→Good P E Q ⟨⟨fn,nt,tm,.code b::k,ds,.run,dfd,ro⟩,cs,h⟩):
  Good P E Q ⟨⟨fn,nt,tm,.code (.cond x a b)::k,ds,.run,dfd,ro⟩,cs,h⟩:=by
 refine A0 L ?_
 show GO P E Q (match ev tm x with| .bool true=> .one ⟨⟨fn,nt,tm,.code a::k,ds,.run,dfd,ro⟩,cs,h⟩| .bool false=> .one ⟨⟨fn,nt,tm,.code b::k,ds,.run,dfd,ro⟩,cs,h⟩|_=> .fail)
 rw [e]
 cases t with
 |true=>exact g1 rfl
 |false=>exact g2 rfl
omit L in
def Oz (P:Program)(E:Env)(F:T CFn)(K:T (List AV×AV))(Q:Nat→AV→Prop)(l:List CI)(k:List AItem)(fn nt:Nat)(tm:T AV)(ds:List ADef)(dfd:Bool)(ro:Option Nat)(cs:List AFr)(h:H):Prop:=
 GO P E Q (S9 F K (C8 l tm h) k fn nt ds dfd ro cs)
theorem Lr {l:List CI}(g:Oz P E F K Q l k fn nt tm ds dfd ro cs h):Good P E Q ⟨⟨fn,nt,tm,.ops l::k,ds,.run,dfd,ro⟩,cs,h⟩:=A0 L g
omit L in
theorem vn {dst:Option Nat}{gd:Option (Nat×Bool)}{op:COp}{r:List CI}{f:AFn}{args:List AV}(hw:wanted tm gd=some true)(hx:exec op h tm= .call f args)
  (g:GO P E Q (Br F K f args false ⟨fn,nt,tm,.ops (⟨dst,gd,op⟩::r)::k,ds,.run,dfd,ro⟩ cs h)):
  Oz P E F K Q (⟨dst,gd,op⟩::r) k fn nt tm ds dfd ro cs h:=by
 unfold Oz
 simp only [C8,hw,hx]
 exact g
omit L in
theorem y8 {dst:Option Nat}{gd:Option (Nat×Bool)}{op:COp}{r:List CI}{f:Nat}{args:List AV}(hw:wanted tm gd=some true)(hx:exec op h tm= .dfr f args)
  (g:Good P E Q ⟨⟨fn,nt,put tm dst (.tup []),.ops r::k,.call f args::ds,.run,dfd,none⟩,cs,h⟩):
  Oz P E F K Q (⟨dst,gd,op⟩::r) k fn nt tm ds dfd none cs h:=by
 unfold Oz
 simp only [C8,hw,hx]
 exact g
omit L in
theorem y9 {dst:Option Nat}{gd:Option (Nat×Bool)}{op:COp}{r:List CI}{v:AV}(hw:wanted tm gd=some true)(hx:exec op h tm= .pan v)
  (g:Good P E Q ⟨⟨fn,nt,tm,.ops (⟨dst,gd,op⟩::r)::k,ds,.panicking [(v,false)],dfd,ro⟩,cs,h⟩):
  Oz P E F K Q (⟨dst,gd,op⟩::r) k fn nt tm ds dfd ro cs h:=by
 unfold Oz
 simp only [C8,hw,hx]
 exact g
omit L in
theorem vp {dst:Option Nat}{gd:Option (Nat×Bool)}{op:COp}{r:List CI}{l:List (AV×H)}(hw:wanted tm gd=some true)(hx:exec op h tm= .next l)
  (g: ∀x∈l,Good P E Q ⟨⟨fn,nt,put tm dst x.1,.ops r::k,ds,.run,dfd,ro⟩,cs,x.2⟩):
  Oz P E F K Q (⟨dst,gd,op⟩::r) k fn nt tm ds dfd ro cs h:=by
 unfold Oz
 simp only [C8,hw,hx,S9,GO]
 intro c hc
 obtain⟨x,h1,rfl⟩:=List.mem_map.1 hc
 exact g x h1
theorem pt {f:Nat}{g:CFn}{args:List AV}{x:AFr}(hf:T.get F f=some g)(hm:memo K f args=none)(hn:Nat.ble args.length g.ntmps=true)
  (h1:Good P E Q ⟨⟨f,g.ntmps,ofL 0 .leaf args,[.code g.body],[],.run,false,none⟩,x::cs,h⟩):GO P E Q (Br F K (.func f) args false x cs h):=by
 simp only [Br,hf,S8,hm,hn]
 exact h1
theorem O0 {g:CFn}{l:List AV}{x:AFr}(hf:T.get F fn=some g)(hr:results tm h g.results=some l)(h1:GO P E Q (finish (single l) cs h x)):
  Good P E Q ⟨⟨fn,nt,tm,todo,[],.returning,false,none⟩,x::cs,h⟩:=by
 refine A0 L ?_
 show GO P E Q (match T.get F fn with|none=> .fail|some g=>match results tm h g.results with|some l=>Ev.doReturn fn false (single l) (x::cs) h|none=> .fail)
 rw [hf];simp only [hr]
 exact h1
theorem za {g:CFn}{l:List AV}{x:AFr}(hf:T.get F fn=some g)(hr:results tm h g.results=some l)(h1:GO P E Q (finish (single l) cs h x)):
  Good P E Q ⟨⟨fn,nt,tm,.code .ret::k,[],.run,false,none⟩,x::cs,h⟩:=
 A0 L (show Good P E Q ⟨⟨fn,nt,tm,.code .ret::k,[],.returning,false,none⟩,x::cs,h⟩ from O0 L hf hr h1)
theorem tw {g:CFn}{l:List AV}{x:AFr}(hf:T.get F fn=some g)(hr:results tm h g.results=some l)(h1:GO P E Q (finish (single l) cs h x)):
  Good P E Q ⟨⟨fn,nt,tm,[],[],.run,false,none⟩,x::cs,h⟩:=
 A0 L (show Good P E Q ⟨⟨fn,nt,tm,[],[],.returning,false,none⟩,x::cs,h⟩ from O0 L hf hr h1)
omit L in
def Bi (P:Program)(E:Env)(Q:Nat→AV→Prop)(pre chk:List DI)(l:List Ph)(k:List AItem)(fn nt:Nat)(tm:T AV)(ds:List ADef)(dfd:Bool)(ro:Option Nat)(cs:List AFr)(h:H):Prop:=
 GO P E Q (Ds pre chk l k fn nt tm ds dfd ro cs h)
omit L in
theorem zb {ci:CI}{nm:List Nat}{pre chk:List DI}{l:List Ph}{v:AV}(hw:wanted (only tm nm) ci.guard=some true)(hx:exec ci.op h (only tm nm)= .val v h')
  (g:Bi P E Q pre chk l k fn nt (put tm ci.dst v) ds dfd ro cs h'):Bi P E Q (⟨ci,nm⟩::pre) chk l k fn nt tm ds dfd ro cs h:=by
 unfold Bi Ds at g ⊢
 simp only [Gs,hw,hx]
 exact g
omit L in
theorem vq {ci:CI}{nm:List Nat}{pre chk:List DI}{l:List Ph}(hw:wanted (only tm nm) ci.guard=some false)
  (g:Bi P E Q pre chk l k fn nt (put tm ci.dst (.tup [])) ds dfd ro cs h):Bi P E Q (⟨ci,nm⟩::pre) chk l k fn nt tm ds dfd ro cs h:=by
 unfold Bi Ds at g ⊢
 simp only [Gs,hw]
 exact g
omit L in
theorem tx {chk:List DI}{l:List Ph}(hc:checks chk tm h=true)(g:Good P E Q ⟨⟨fn,nt,tm,(match l with| []=>k|p::r=> .drawn p r::k),ds,.run,dfd,ro⟩,cs,h⟩):
  Bi P E Q [] chk l k fn nt tm ds dfd ro cs h:=by
 unfold Bi Ds
 simp only [Gs,hc]
 cases l <;> exact g
theorem pu {pre chk:List DI}{l:List Ph}(g:Bi P E Q pre chk l k fn nt tm ds dfd ro cs h):Good P E Q ⟨⟨fn,nt,tm,.code (.drawn pre chk l)::k,ds,.run,dfd,ro⟩,cs,h⟩:=A0 L g
theorem Xl {dst:Option Nat}{gd:Option (Nat×Bool)}{op:COp}{nm:List Nat}{pre chk:List DI}{l:List Ph}{v:AV}(hw:wanted (only tm nm) gd=some true)(hx:exec op h (only tm nm)= .val v h')
  (g:Bi P E Q pre chk l k fn nt (put tm dst v) ds dfd ro cs h'):Good P E Q ⟨⟨fn,nt,tm,.drawn ⟨⟨⟨dst,gd,op⟩,nm⟩,pre,chk⟩ l::k,ds,.run,dfd,ro⟩,cs,h⟩:=by
 refine A0 L ?_
 simp only [Ev.step,Bg,hw,hx]
 exact g
theorem vr {dst:Option Nat}{gd:Option (Nat×Bool)}{op:COp}{nm:List Nat}{pre chk:List DI}{l:List Ph}(hw:wanted (only tm nm) gd=some false)
  (g:Bi P E Q pre chk l k fn nt (put tm dst (.tup [])) ds dfd ro cs h):Good P E Q ⟨⟨fn,nt,tm,.drawn ⟨⟨⟨dst,gd,op⟩,nm⟩,pre,chk⟩ l::k,ds,.run,dfd,ro⟩,cs,h⟩:=by
 refine A0 L ?_
 simp only [Ev.step,Bg,hw]
 exact g
theorem vt {dst:Option Nat}{gd:Option (Nat×Bool)}{op:COp}{nm:List Nat}{pre chk:List DI}{l:List Ph}{f:AFn}{args:List AV}(hw:wanted (only tm nm) gd=some true)(hx:exec op h (only tm nm)= .call f args)
  (g:GO P E Q (Br F K f args false ⟨fn,nt,tm,.drawn ⟨⟨⟨dst,gd,op⟩,nm⟩,pre,chk⟩ l::k,ds,.run,dfd,ro⟩ cs h)):Good P E Q ⟨⟨fn,nt,tm,.drawn ⟨⟨⟨dst,gd,op⟩,nm⟩,pre,chk⟩ l::k,ds,.run,dfd,ro⟩,cs,h⟩:=by
 refine A0 L ?_
 simp only [Ev.step,Bg,hw,hx]
 exact g
omit L in
theorem Zj {dst:Option Nat}{gd:Option (Nat×Bool)}{op:COp}{nm:List Nat}{pre chk:List DI}{l:List Ph}{v:AV}(hb:op≠ .bad)(g:Bi P E Q pre chk l k fn nt (put tm dst v) ds dfd ro cs h):
  GO P E Q (finish v cs h ⟨fn,nt,tm,.drawn ⟨⟨⟨dst,gd,op⟩,nm⟩,pre,chk⟩ l::k,ds,.run,dfd,ro⟩):=by
 cases op <;> first|exact absurd rfl hb|exact g
end
theorem zc (k:IntKind){a:Int}(h1:k.min≤a)(h2:a≤k.max):wr k a=a:=by
 rw [Fq]
 cases k <;> simp only [IntKind.min,IntKind.max,IntKind.signed,IntKind.bits,IntKind.wrap]at* <;> simp at* <;> (try split) <;> omega
theorem Jv {a:Int}(h1: -9223372036854775808≤a)(h2:a≤9223372036854775807):wr .i64 a=a:=zc .i64 (by simpa [IntKind.min,IntKind.signed,IntKind.bits]using h1) (by simpa [IntKind.max,IntKind.signed,IntKind.bits]using h2)
section
variable {l:List (Nat×Option AV)}{h:H}{x y z:O}{v:AV}{b o:Nat}
theorem Aay (e:evL l x=v):exec (.mv x) h (tms l)= .val v h:=by simp only [exec,Ae,e]
theorem vu (e:evL l x= .ptr b o):exec (.nilc x) h (tms l)= .val (.ptr b o) h:=by simp only [exec,Ae,e]
theorem pv {off q:Nat}(e:evL l x= .ptr b o)(hq:Nat.add o off=q):exec (.faddr x off) h (tms l)= .val (.ptr b q) h:=by simp only [exec,Ae,e,hq]
theorem px {c:List AV}(e:evL l x= .ptr b o)(hb:H.get h b=some (cl c))(hv:c[o]?=some v):exec (.load1 x) h (tms l)= .val v h:=by
 have hlt:o<c.length:=(List.getElem?_eq_some_iff.1 hv).1
 have:Nat.ble (Nat.succ o) c.length=true:=by rw [Nat.ble_eq];exact hlt
 simp only [exec,Ae,e,hb,cl,this,vo,Hj,hv]
theorem O1 {k:IntKind}{i len cap size q:Nat}(e:evL l x= .slc b o len cap)(e1:evL l y= .int k (i:Nat))(hi:i<len)(hq:Nat.add o (Nat.mul i size)=q):exec (.iaddrS size x y) h (tms l)= .val (.ptr b q) h:=by
 have:Nat.ble (Nat.succ i) len=true:=by rw [Nat.ble_eq];exact hi
 have e1':evL l y= .int k (Int.ofNat i):=e1
 simp only [exec,Ae,e,e1',this,hq]
theorem vw {len cap:Nat}(e:evL l x= .slc b o len cap):exec (.lenS x) h (tms l)= .val (.int .i64 (len:Nat)) h:=by
 simp only [exec,Ae,e];rfl
theorem py (e:evL l x= .nils):exec (.lenS x) h (tms l)= .val (.int .i64 0) h:=by
 simp only [exec,Ae,e];rfl
theorem zd {t:Bool}(e:evL l x= .bool t):exec (.un .not x) h (tms l)= .val (.bool (!t)) h:=by
 simp only [exec,Ae,e]
theorem Zk {i:Nat}{vs:List AV}(e:evL l x= .tup vs)(hv:vs[i]?=some v):exec (.extract x i) h (tms l)= .val v h:=by
 simp only [exec,Ae,e,hv,vo]
theorem gm {k j:IntKind}{a r:Int}(e:evL l x= .int j a)(hr:wr k a=r):exec (.conv k x) h (tms l)= .val (.int k r) h:=by
 simp only [exec,Ae,e,hr]
section
variable {k:IntKind}{a c r:Int}{sh:Sh}{q:Bool}
theorem gq (e:evL l x= .int k a)(e1:evL l y= .int k c)(hr:wr k (a+c)=r):exec (.bin .add x y q sh) h (tms l)= .val (.int k r) h:=by
 simp only [exec,Ae,e,e1,F5,Dq,Bc]
 show vo h (some (.int k (wr k (a+c))))=_
 rw [hr];rfl
theorem gt (e:evL l x= .int k a)(e1:evL l y= .int k c)(hr:wr k (a - c)=r):exec (.bin .sub x y q sh) h (tms l)= .val (.int k r) h:=by
 simp only [exec,Ae,e,e1,F5,Dq,Bc]
 show vo h (some (.int k (wr k (a - c))))=_
 rw [hr];rfl
theorem ze (e:evL l x= .int k a)(e1:evL l y= .int k c)(hr:wr k (a*c)=r):exec (.bin .mul x y q sh) h (tms l)= .val (.int k r) h:=by
 simp only [exec,Ae,e,e1,F5,Dq,Bc]
 show vo h (some (.int k (wr k (a*c))))=_
 rw [hr];rfl
theorem tz {t:Bool}(e:evL l x= .int k a)(e1:evL l y= .int k c)(ht:decide (a<c)=t):exec (.bin .lss x y q sh) h (tms l)= .val (.bool t) h:=by
 simp only [exec,Ae,e,e1,F5,Dq,Bc,Gi,vo,ht]
theorem t6 {t:Bool}(e:evL l x= .int k a)(e1:evL l y= .int k c)(ht:decide (a≤c)=t):exec (.bin .leq x y q sh) h (tms l)= .val (.bool t) h:=by
 simp only [exec,Ae,e,e1,F5,Dq,Bc,Gi,vo]
 rw [←ht];congr 2
 by_cases hc:a≤c
 ·rw [decide_eq_true hc,decide_eq_false (by omega)];rfl
 ·rw [decide_eq_false hc,decide_eq_true (by omega)];rfl
theorem t7 {t:Bool}(e:evL l x= .int k a)(e1:evL l y= .int k c)(ht:decide (c<a)=t):exec (.bin .gtr x y q sh) h (tms l)= .val (.bool t) h:=by
 simp only [exec,Ae,e,e1,F5,Dq,Bc,Gi,vo,ht]
theorem t8 {t:Bool}(e:evL l x= .int k a)(e1:evL l y= .int k c)(ht:decide (c≤a)=t):exec (.bin .geq x y q sh) h (tms l)= .val (.bool t) h:=by
 simp only [exec,Ae,e,e1,F5,Dq,Bc,Gi,vo]
 rw [←ht];congr 2
 by_cases hc:c≤a
 ·rw [decide_eq_true hc,decide_eq_false (by omega)];rfl
 ·rw [decide_eq_false hc,decide_eq_true (by omega)];rfl
theorem t9 {t:Bool}(e:evL l x= .int k a)(e1:evL l y= .int k c)(ht:decide (a=c)=t):exec (.bin .eql x y q sh) h (tms l)= .val (.bool t) h:=by
 simp only [exec,Ae,e,e1,F5,Dq,Bc,Ey,vo,ht]
theorem ua {t:Bool}(e:evL l x= .int k a)(e1:evL l y= .int k c)(ht:decide (a≠c)=t):exec (.bin .neq x y q sh) h (tms l)= .val (.bool t) h:=by
 simp only [exec,Ae,e,e1,F5,Dq,Bc,Ey,vo]
 rw [←ht];congr 2
 by_cases hc:a=c
 ·rw [decide_eq_true hc,decide_eq_false (by omega)];rfl
 ·rw [decide_eq_false hc,decide_eq_true hc];rfl
end
end
section
variable {P:Program}{E:Env}{F:T CFn}{K:T (List AV×AV)}{Q:Nat→AV→Prop}
variable {fn nt:Nat}{l:List (Nat×Option AV)}{todo k:List AItem}{ds:List ADef}{dfd:Bool}{ro:Option Nat}{cs:List AFr}{h h':H}
variable (L:Lg P E F K)
include L
theorem vx {f:Nat}{g:CFn}{args:List AV}{l0:List (Nat×Option AV)}{x:AFr}(hf:T.get F f=some g)(hm:T.get K f=none)(hn:Nat.ble args.length g.ntmps=true)(hl:ofL 0 .leaf args=tms l0)
  (h1:Good P E Q ⟨⟨f,g.ntmps,tms l0,[.code g.body],[],.run,false,none⟩,x::cs,h⟩):GO P E Q (Br F K (.func f) args false x cs h):=
 pt L hf (by simp only [memo,hm]) hn (hl ▸ h1)
end
theorem IR.ops_inv {E:Env}{φ: Phi}{nt:Nat}{l:List CI}{i':Item}(h:IR E φ nt (.ops l) i'): ∃ops td,l=td.map (Bj E nt ops)∧i'= .inRegion ops td:=by
 cases h;exact⟨_,_,rfl,rfl⟩
section
variable {P:Program}{E:Env}{F:T CFn}{K:T (List AV×AV)}{Q:Nat→AV→Prop}
variable (L:Lg P E F K)
variable {fn nt:Nat}{tm:T AV}{todo k:List AItem}{ds:List ADef}{dfd:Bool}{ro:Option Nat}{cs:List AFr}{h h':H}
include L
theorem Kh {dst:Option Nat}{gd:Option (Nat×Bool)}{op:COp}{r:List CI}{v:AV}(hw:wanted tm gd=some true)(hx:exec op h tm= .val v h')
  (g:Good P E Q ⟨⟨fn,nt,put tm dst v,.ops r::k,ds,.run,dfd,ro⟩,cs,h'⟩):Good P E Q ⟨⟨fn,nt,tm,.ops (⟨dst,gd,op⟩::r)::k,ds,.run,dfd,ro⟩,cs,h⟩:=by
 intro w0 cs0 m hA
 obtain⟨φ,fr,cs1,w,rfl,hf,hfs,hr⟩:=hA.ex
 obtain⟨f1,tmps,todo',defers,mode,kind,ro'⟩:=fr
 obtain⟨h1,h2,h3,h4,h5,h6,h7⟩:=hf
 simp only at h1 h2 h3 h4 h5 h6 h7 hfs hr
 cases h5
 cases h6 with
 |plain ht hi=>
  cases hi with
  | @cons _ i' _ k' hi hk=>
   obtain⟨ops,td,e1,rfl⟩:=hi.ops_inv
   cases td with
   |nil=>cases e1
   |cons j rest=>
    rw [List.map_cons,List.cons.injEq]at e1
    obtain⟨e1,rfl⟩:=e1
    rcases If E nt ops j with hbad|⟨o,ho,q1,q2,q3,q4⟩
    ·rw [hbad]at e1;cases e1;cases hx
    ·rw [←e1]at q1 q3 q4
     simp only at q1 q3 q4
     subst q1
     have hb:BR' φ fn dfd ro (⟨f1,tmps,.inRegion ops (j::rest)::k',defers,.run,kind,ro'⟩:Frame):=⟨h1,h2,h3⟩
     have hwc:=Dw (a:=⟨tmps,defers⟩) ht q3 hw
     rw [q4]at hx
     have hnd: ∀c,o.op≠ .defer c:=Es hx (by intro _ _ e;cases e) (by intro e;cases e)
     have hsim:=Nh hr.hr (TR.rho (a:=⟨tmps,defers⟩) ht) L.hE hx
     obtain⟨φ1,v',w1,⟨s1,_⟩,s2,s3,s4,s5⟩:=hsim
     have hstep:=Gy (b:=⟨f1,tmps,.inRegion ops (j::rest)::k',defers,.run,kind,ro'⟩) (a:=⟨tmps,defers⟩) (cs:=cs1++cs0) (k:=k') (rest:=rest) ho hwc hnd s2
     have hd':DRs φ1 ds ((⟨tmps,defers⟩:Act).put o.dst v').defers:=by
      have:((⟨tmps,defers⟩:Act).put o.dst v').defers=defers:=by cases o.dst <;> rfl
      rw [this];exact h4.mono s1
     have hA':At E w0 cs0 ⟨⟨fn,nt,put tm o.dst v,.ops (rest.map (Bj E nt ops))::k,ds,.run,dfd,ro⟩,cs,h'⟩ (lone ((⟨f1,tmps,.inRegion ops (j::rest)::k',defers,.run,kind,ro'⟩:Frame).atR ((⟨tmps,defers⟩:Act).put o.dst v') (.inRegion ops rest::k')) (cs1++cs0) w1):=
      ⟨φ1,_,cs1,w1,rfl,(hb.mono s1).FR ((ht.mono s1).put' (a:=⟨tmps,defers⟩) q2 s3) hd' (.cons (.ops ops rest) (hk.mono s1)),hfs.mono s1,hr.to s4 s5⟩
     obtain⟨fn',u,hh,fr',w',φ',u',q,s,t⟩:=g w0 cs0 _ hA'
     exact⟨fn',u,hh,fr',w',φ',u',q,.head hstep s,t⟩
theorem Jw {dst:Option Nat}{gd:Option (Nat×Bool)}{op:COp}{r:List CI}(hw:wanted tm gd=some false)
  (g:Good P E Q ⟨⟨fn,nt,put tm dst (.tup []),.ops r::k,ds,.run,dfd,ro⟩,cs,h⟩):Good P E Q ⟨⟨fn,nt,tm,.ops (⟨dst,gd,op⟩::r)::k,ds,.run,dfd,ro⟩,cs,h⟩:=by
 intro w0 cs0 m hA
 obtain⟨φ,fr,cs1,w,rfl,hf,hfs,hr⟩:=hA.ex
 obtain⟨f1,tmps,todo',defers,mode,kind,ro'⟩:=fr
 obtain⟨h1,h2,h3,h4,h5,h6,h7⟩:=hf
 simp only at h1 h2 h3 h4 h5 h6 h7 hfs hr
 cases h5
 cases h6 with
 |plain ht hi=>
  cases hi with
  | @cons _ i' _ k' hi hk=>
   obtain⟨ops,td,e1,rfl⟩:=hi.ops_inv
   cases td with
   |nil=>cases e1
   |cons j rest=>
    rw [List.map_cons,List.cons.injEq]at e1
    obtain⟨e1,rfl⟩:=e1
    have hb:BR' φ fn dfd ro (⟨f1,tmps,.inRegion ops (j::rest)::k',defers,.run,kind,ro'⟩:Frame):=⟨h1,h2,h3⟩
    rcases If E nt ops j with hbad|⟨o,ho,q1,q2,q3,q4⟩
    ·rw [hbad]at e1;cases e1;cases hw
    ·rw [←e1]at q1 q3 q4
     simp only at q1 q3 q4
     subst q1
     have hwc:=Dw (a:=⟨tmps,defers⟩) ht q3 hw
     have hstep:=stepR_op_skip (P:=P) (b:=⟨f1,tmps,.inRegion ops (j::rest)::k',defers,.run,kind,ro'⟩) (a:=⟨tmps,defers⟩) (k:=k') (cs:=cs1++cs0) (w:=w) (ops:=ops) (i:=j) (rest:=rest) (by rw [ho];simpa using hwc)
     rw [ho]at hstep
     simp only [Option.bind_some]at hstep
     have hd':DRs φ ds ((⟨tmps,defers⟩:Act).put o.dst undef).defers:=by
      have:((⟨tmps,defers⟩:Act).put o.dst undef).defers=defers:=by cases o.dst <;> rfl
      rw [this];exact h4
     have hA':At E w0 cs0 ⟨⟨fn,nt,put tm o.dst (.tup []),.ops (rest.map (Bj E nt ops))::k,ds,.run,dfd,ro⟩,cs,h⟩ (lone ((⟨f1,tmps,.inRegion ops (j::rest)::k',defers,.run,kind,ro'⟩:Frame).atR ((⟨tmps,defers⟩:Act).put o.dst undef) (.inRegion ops rest::k')) (cs1++cs0) w):=
      ⟨φ,_,cs1,w,rfl,hb.FR (ht.put' (a:=⟨tmps,defers⟩) q2 (.tup .nil)) hd' (.cons (.ops ops rest) hk),hfs,hr⟩
     obtain⟨fn',u,hh,fr',w',φ',u',q,s,t⟩:=g w0 cs0 _ hA'
     exact⟨fn',u,hh,fr',w',φ',u',q,.head hstep s,t⟩
theorem v8 {l:List CI}(g:Good P E Q ⟨⟨fn,nt,tm,.ops l::k,ds,.run,dfd,ro⟩,cs,h⟩):Good P E Q ⟨⟨fn,nt,tm,.code (.ops l)::k,ds,.run,dfd,ro⟩,cs,h⟩:=by
 intro w0 cs0 m hA
 obtain⟨φ,fr,cs1,w,rfl,hf,hfs,hr⟩:=hA.ex
 obtain⟨f1,tmps,todo',defers,mode,kind,ro'⟩:=fr
 obtain⟨h1,h2,h3,h4,h5,h6,h7⟩:=hf
 simp only at h1 h2 h3 h4 h5 h6 h7 hfs hr
 cases h5
 cases h6 with
 |plain ht hi=>
  cases hi with
  | @cons _ i' _ k' hi hk=>
   have hinv: ∀{x:AItem},IR E φ nt x i'→x= .code (.ops l)→ ∃id ops,i'= .code (.region id ops false)∧l=(List.range ops.size).map (Bj E nt ops):=by
    intro x hx ex
    cases hx with
    |code c=>
     simp only [AItem.code.injEq]at ex
     cases c with
     |region id ops d=>
      cases d with
      |false=>
       simp only [A3,D6,CC.ops.injEq]at ex
       refine⟨id,ops,rfl,?_⟩
       rw [←ex]
       apply List.ext_getElem?
       intro i
       simp only [List.getElem?_map,Array.getElem?_toList]
       by_cases hi:i<ops.size
       ·rw [List.getElem?_range hi,Array.getElem?_eq_getElem hi];simp [Bj,hi]
       ·rw [Array.getElem?_eq_none (by omega),List.getElem?_eq_none (by simpa using hi)];rfl
      |true=>
       simp only [A3,D6]at ex
       repeat' split at ex
       all_goals cases ex
     |rangeFunc f ps a b=>simp only [A3]at ex;split at ex <;> cases ex
     |_=>cases ex
    |_=>cases ex
   obtain⟨id,ops,rfl,rfl⟩:=hinv hi rfl
   have hb:BR' φ fn dfd ro (⟨f1,tmps,.code (.region id ops false)::k',defers,.run,kind,ro'⟩:Frame):=⟨h1,h2,h3⟩
   have hstep:=stepR_region (P:=P) (b:=⟨f1,tmps,.code (.region id ops false)::k',defers,.run,kind,ro'⟩) (a:=⟨tmps,defers⟩) (k:=k') (cs:=cs1++cs0) (w:=w) (ops:=ops) (id:=id)
   have hA':At E w0 cs0 ⟨⟨fn,nt,tm,.ops ((List.range ops.size).map (Bj E nt ops))::k,ds,.run,dfd,ro⟩,cs,h⟩ (lone ((⟨f1,tmps,.code (.region id ops false)::k',defers,.run,kind,ro'⟩:Frame).atR (⟨tmps,defers⟩:Act) (.inRegion ops (List.range ops.size)::k')) (cs1++cs0) w):=
    ⟨φ,_,cs1,w,rfl,hb.FR (a:=⟨tmps,defers⟩) ht h4 (.cons (.ops ops (List.range ops.size)) hk),hfs,hr⟩
   obtain⟨fn',u,hh,fr',w',φ',u',q,s,t⟩:=g w0 cs0 _ hA'
   exact⟨fn',u,hh,fr',w',φ',u',q,.head hstep s,t⟩
theorem v9 (g:Good P E Q ⟨⟨fn,nt,tm,k,ds,.run,dfd,ro⟩,cs,h⟩):Good P E Q ⟨⟨fn,nt,tm,.ops []::k,ds,.run,dfd,ro⟩,cs,h⟩:=A0 L g
theorem Q1 {dst:Option Nat}{gd:Option (Nat×Bool)}{op:COp}{r:List CI}{f:AFn}{args:List AV}(hw:wanted tm gd=some true)(hx:exec op h tm= .call f args)
  (g:GO P E Q (Br F K f args false ⟨fn,nt,tm,.ops (⟨dst,gd,op⟩::r)::k,ds,.run,dfd,ro⟩ cs h)):Good P E Q ⟨⟨fn,nt,tm,.ops (⟨dst,gd,op⟩::r)::k,ds,.run,dfd,ro⟩,cs,h⟩:=
 Lr L (vn hw hx g)
theorem Jx {dst:Option Nat}{gd:Option (Nat×Bool)}{op:COp}{r:List CI}{v:AV}(hb:op≠ .bad)(g:Good P E Q ⟨⟨fn,nt,put tm dst v,.ops r::k,ds,.run,dfd,ro⟩,cs,h⟩):
  GO P E Q (finish v cs h ⟨fn,nt,tm,.ops (⟨dst,gd,op⟩::r)::k,ds,.run,dfd,ro⟩):=by
 cases op <;> first|exact absurd rfl hb|exact g
end
def R7 (l:List (Nat×Option AV)):List O→List AV
 | []=> []
 |x::r=>evL l x::R7 l r
theorem Ki (l:List (Nat×Option AV)): ∀xs:List O,evs (tms l) xs=R7 l xs
 | []=>rfl
 |x::r=>by simp only [evs,R7,Ae,Ki l r]
def Mu (l:List (Nat×Option AV)):List (Nat×Nat×O)→List AV→Option (List AV)
 | [],cells=>some cells
 |p::r,cells=>
  match A9 (evL l p.2.2)with
  |some x=>(match Nat.beq x.length p.2.1,Nat.ble (Nat.add p.1 p.2.1) cells.length with
   |true,true=>Mu l r (E7 x cells p.1)
   |_,_=>none)
  |none=>none
theorem O2 (l:List (Nat×Option AV)): ∀(ps:List (Nat×Nat×O)) (cells:List AV),fill (tms l) ps cells=Mu l ps cells
 | [],cells=>rfl
 |p::r,cells=>by
  simp only [fill,Mu,Ae]
  cases A9 (evL l p.2.2)with
  |none=>rfl
  |some x=>
   simp only [O2 l r]
   generalize Nat.beq x.length p.2.1=q1
   generalize Nat.ble (Nat.add p.1 p.2.1) cells.length=q2
   cases q1 <;> cases q2 <;> rfl
section
variable {l:List (Nat×Option AV)}{lh:List (Nat×Option Blk)}{n:Nat}{t:T Blk}{h:H}{x y z:O}{v:AV}{b o:Nat}{c lv:List AV}
theorem Tv {c:List AV}: ∀{k o:Nat},o+k≤c.length→loadN (ofL 0 (.leaf:T AV) c) k o=some ((c.drop o).take k)
 |0,o,h=>by simp [loadN]
 |k+1,o,h=>by
  have hlt:o<c.length:=by omega
  simp only [loadN,Hj,List.getElem?_eq_getElem hlt]
  rw [show Nat.succ o=o+1 from rfl,Tv (k:=k) (o:=o+1) (by omega)]
  simp only [Option.some.injEq]
  rw [List.drop_eq_getElem_cons hlt,List.take_succ_cons]
theorem Hk {k:Nat}(hb:H.get h b=some (cl c))(hk:o+k≤c.length):cellsAt h b o k=some ((c.drop o).take k):=by
 cases k with
 |zero=>simp [cellsAt]
 |succ k=>
  have:Nat.ble (Nat.add o (k+1)) c.length=true:=by rw [Nat.ble_eq];exact hk
  simp only [cellsAt,hb,cl,this]
  exact Tv hk
theorem Xm {k:Nat}(e:evL l x= .ptr b o)(hb:H.get h b=some (cl c))(hk:o+k≤c.length)(hv:(c.drop o).take k=lv):exec (.loadN k x) h (tms l)= .val (.agg lv) h:=by
 simp only [exec,Ae,e,Hk hb hk,hv]
theorem pz:exec (.alloc c) (hp n t lh) (tms l)= .val (.ptr n 0) (hp (n+1) t ((n,some (cl c))::lh)):=rfl
theorem zf {k:Nat}(e:evL l x=v)(hc:A9 v=some lv)(hk:Nat.beq lv.length k=true):exec (.box k x) (hp n t lh) (tms l)= .val (.ptr n 0) (hp (n+1) t ((n,some (cl lv))::lh)):=by
 simp only [exec,Ae,e,hc,hk];rfl
theorem p9 {ps:List (Nat×Nat×O)}(hf:Mu l ps c=some lv):exec (.build c ps) h (tms l)= .val (.agg lv) h:=by
 simp only [exec,O2,hf]
theorem gu {k:Nat}{ps:List (Nat×Nat×O)}(hf:Mu l ps c=some lv):exec (.bslice k c ps) (hp n t lh) (tms l)= .val (.slc n 0 k k) (hp (n+1) t ((n,some (cl lv))::lh)):=by
 simp only [exec,O2,hf];rfl
theorem wa {f:AFn}{a cp:List O}{va vc:List AV}(ha:R7 l a=va)(hc:R7 l cp=vc):exec (.mkfn f a cp) h (tms l)= .val (.fn f va vc) h:=by
 simp only [exec,Ki,ha,hc]
theorem wc {f:AFn}{a:List O}{va first cp r:List AV}(e:evL l x= .fn f first cp)(ha:R7 l a=va)(hr:List.append first (List.append va cp)=r):exec (.callv x a) h (tms l)= .call f r:=by
 simp only [exec,Ae,e,Ki,ha,hr]
theorem wd {k:Nat}(e:evL l x=v):exec (.mkif k x) h (tms l)= .val (.ifc k v) h:=by simp only [exec,Ae,e]
theorem Zl {k:Nat}{z:AV}(e:evL l x= .ifc k v):exec (.tassert x k z false) h (tms l)= .val v h:=by
 have:Nat.beq k k=true:=Nat.beq_refl k
 simp only [exec,Ae,e,this]
theorem gw {vs:List AV}{off:Nat}(e:evL l x= .agg vs)(hv:vs[off]?=some v):exec (.field1 x off) h (tms l)= .val v h:=by simp only [exec,Ae,e,hv,vo]
theorem gx {vs:List AV}{off k:Nat}(e:evL l x= .agg vs)(hv:(vs.drop off).take k=lv):exec (.fieldN x off k) h (tms l)= .val (.agg lv) h:=by simp only [exec,Ae,e,hv]
theorem Tw {k:IntKind}{i len size q:Nat}(e:evL l x= .ptr b o)(e1:evL l y= .int k (i:Nat))(hi:i<len)(hq:Nat.add o (Nat.mul i size)=q):exec (.iaddrA len size x y) h (tms l)= .val (.ptr b q) h:=by
 have:Nat.ble (Nat.succ i) len=true:=by rw [Nat.ble_eq];exact hi
 have e1':evL l y= .int k (Int.ofNat i):=e1
 simp only [exec,Ae,e,e1',this,hq]
theorem Zm {k j:IntKind}{ln cn bytes:Nat}(e:evL l x= .int k (ln:Nat))(e1:evL l y= .int j (cn:Nat))(h1:ln≤cn)(h2:cn*bytes≤281474976710656)(h3:cn≤281474976710656)(hv:rl c cn=lv):
  exec (.mkslice bytes c x y) (hp n t lh) (tms l)= .val (.slc n 0 ln cn) (hp (n+1) t ((n,some (cl lv))::lh)):=by
 have e':evL l x= .int k (Int.ofNat ln):=e
 have e1':evL l y= .int j (Int.ofNat cn):=e1
 have g1:Nat.ble ln cn=true:=by rw [Nat.ble_eq];exact h1
 have g2:Nat.ble (Nat.mul cn bytes) 281474976710656=true:=by rw [Nat.ble_eq];exact h2
 have g3:Nat.ble cn 281474976710656=true:=by rw [Nat.ble_eq];exact h3
 simp only [exec,Ae,e',e1',g1,g2,g3,hv];rfl
theorem qa:exec .mkmap (hp n t lh) (tms l)= .val (.map n) (hp (n+1) t ((n,some (.map [] 0))::lh)):=rfl
theorem ub {k:IntKind}{a d r:Int}{mx:Bool}(e:evL l x= .int k a)(e1:evL l y= .int k d)(hr:(match mx with|true=>max a d|false=>min a d)=r):exec (.maxmin mx x y) h (tms l)= .val (.int k r) h:=by
 simp only [exec,Ae,e,e1,E8,Bc,vo,Gi]
 subst hr
 cases mx with
 |true=>
  by_cases hc:a<d
  ·simp only [decide_eq_true hc];rw [Int.max_eq_right (by omega)]
  ·simp only [decide_eq_false hc];rw [Int.max_eq_left (by omega)]
 |false=>
  by_cases hc:d<a
  ·simp only [decide_eq_true hc];rw [Int.min_eq_right (by omega)]
  ·simp only [decide_eq_false hc];rw [Int.min_eq_left (by omega)]
end
theorem Vt (c lv:List AV)(o:Nat)(hk:o+lv.length≤c.length)(i:Nat):T.get (Jp o (ofL 0 .leaf c) lv) i=(E7 lv c o)[i]?:=by
 rw [Jr,Hj]
 exact(Eo lv c o i hk).symm
theorem Tx: ∀(xs l:List AV) (o:Nat),o+xs.length≤l.length→(E7 xs l o).length=l.length
 |xs,l,0,h=>by
  have:E7 xs l 0=xs++l.drop xs.length:=by cases l <;> rfl
  rw [this];simp;omega
 |xs,[],o+1,h=>by simp at h
 |xs,a::l,o+1,h=>by
  simp only [E7,List.length_cons]at h ⊢
  rw [Tx xs l o (by omega)]
theorem Tz (c:List AV)(v:AV): ∀(o:Nat),o<c.length→E7 [v] c o=c.set o v:=by
 intro o ho
 apply List.ext_getElem?
 intro i
 rw [Eo [v] c o i (by simp;omega),List.getElem?_set]
 by_cases hi:o=i
 ·subst hi;simp [ho]
 ·rw [if_neg hi,if_neg (by simp;omega)]
theorem Kj {n b o:Nat}{t:T Blk}{lh:List (Nat×Option Blk)}{c c' lv:List AV}(hp1:Ar lv=true)(hb:H.get (hp n t lh) b=some (cl c))(hk:o+lv.length≤c.length)(hs:E7 lv c o=c'):
  ∃h',putBlk (hp n t lh) b o lv=some h'∧HSub (hp n t ((b,some (cl c'))::lh)) h':=by
 cases lv with
 |nil=>
  refine⟨_,rfl,Nat.le_refl _,fun i z hz=>?_⟩
  have hcc:c'=c:=by rw [←hs];apply List.ext_getElem?;intro i;rw [Eo [] c o i (by simpa using hk)];simp;omega
  subst hcc
  by_cases e:i=b
  ·subst e;rw [Gj]at hz;cases hz;exact⟨_,hb,.same _⟩
  ·rw [Ez _ _ _ _ e]at hz;exact⟨z,hz,.same z⟩
 |cons a lv=>
  have g1:Nat.ble (Nat.add o (a::lv).length) c.length=true:=by rw [Nat.ble_eq];exact hk
  refine⟨H.set (hp n t lh) b (.cells false c.length (Jp o (ofL 0 .leaf c) (a::lv))),?_,Nat.le_refl _,fun i z hz=>?_⟩
  ·simp only [putBlk,hb,cl,g1,hp1]
  ·by_cases e:i=b
   ·subst e
    rw [Gj]at hz;cases hz
    refine⟨_,by rw [H.get_set,if_pos rfl],?_⟩
    unfold cl
    refine .cells (by rw [←hs,Tx _ _ _ hk];exact Nat.le_refl _) fun j u hj hu=>?_
    rw [Hj]at hu
    rw [Vt _ _ _ hk,hs];exact hu
   ·rw [Ez _ _ _ _ e]at hz
    exact⟨z,by rw [H.get_set,if_neg e];exact hz,.same z⟩
section
variable {P:Program}{E:Env}{F:T CFn}{K:T (List AV×AV)}{Q:Nat→AV→Prop}
variable (L:Lg P E F K)
variable {fn nt:Nat}{l:List (Nat×Option AV)}{todo k:List AItem}{ds:List ADef}{dfd:Bool}{ro:Option Nat}{cs:List AFr}{n b o:Nat}{t:T Blk}{lh:List (Nat×Option Blk)}{r:List CI}{gd:Option (Nat×Bool)}{x y:O}{v:AV}{c c' lv:List AV}
include L
theorem R8 {m:Nat}(hw:wanted (tms l) gd=some true)(e:evL l x= .ptr b o)(e1:evL l y=v)(hc:A9 v=some lv)(hm:Nat.beq lv.length m=true)(hp1:Ar lv=true)
  (hb:H.get (hp n t lh) b=some (cl c)) (hk:o+lv.length≤c.length) (hs:E7 lv c o=c')
  (g:Good P E Q ⟨⟨fn,nt,tms l,.ops r::k,ds,.run,dfd,ro⟩,cs,hp n t ((b,some (cl c'))::lh)⟩):
  Good P E Q ⟨⟨fn,nt,tms l,.ops (⟨none,gd,.store m x y⟩::r)::k,ds,.run,dfd,ro⟩,cs,hp n t lh⟩:=by
 have hput:=Kj (n:=n) (t:=t) (lh:=lh) hp1 hb hk hs
 obtain⟨h',q1,q2⟩:=hput
 have hx:exec (.store m x y) (hp n t lh) (tms l)= .val .unk h':=by simp only [exec,Ae,e,e1,hc,hm,q1]
 exact Kh L (dst:=none) hw hx (Oy (.refl _) q2 g)
theorem E0 {tm tm':T AV}{h:H}{mode:AMode}(ht:TSub tm' tm)(g:Good P E Q ⟨⟨fn,nt,tm',todo,ds,mode,dfd,ro⟩,cs,h⟩):Good P E Q ⟨⟨fn,nt,tm,todo,ds,mode,dfd,ro⟩,cs,h⟩:=Oy ht (.refl _) g
theorem M8 {tm:T AV}{h h':H}{mode:AMode}(hh:HSub h' h)(g:Good P E Q ⟨⟨fn,nt,tm,todo,ds,mode,dfd,ro⟩,cs,h'⟩):Good P E Q ⟨⟨fn,nt,tm,todo,ds,mode,dfd,ro⟩,cs,h⟩:=Oy (.refl _) hh g
theorem o1 {d:Nat}{op:COp}{h h':H}(hw:wanted (tms l) gd=some true)(hx:exec op h (tms l)= .val v h')(g:Good P E Q ⟨⟨fn,nt,tms ((d,some v)::l),.ops r::k,ds,.run,dfd,ro⟩,cs,h'⟩):
  Good P E Q ⟨⟨fn,nt,tms l,.ops (⟨some d,gd,op⟩::r)::k,ds,.run,dfd,ro⟩,cs,h⟩:=Kh L hw hx g
theorem os {d:Nat}{op:COp}{h:H}(hw:wanted (tms l) gd=some false)(g:Good P E Q ⟨⟨fn,nt,tms ((d,some (.tup []))::l),.ops r::k,ds,.run,dfd,ro⟩,cs,h⟩):
  Good P E Q ⟨⟨fn,nt,tms l,.ops (⟨some d,gd,op⟩::r)::k,ds,.run,dfd,ro⟩,cs,h⟩:=Jw L hw g
theorem fi {d:Nat}{op:COp}{h:H}(hb:op≠ .bad)(g:Good P E Q ⟨⟨fn,nt,tms ((d,some v)::l),.ops r::k,ds,.run,dfd,ro⟩,cs,h⟩):
  GO P E Q (finish v cs h ⟨fn,nt,tms l,.ops (⟨some d,gd,op⟩::r)::k,ds,.run,dfd,ro⟩):=Jx L hb g
end
theorem gy {tm:T AV}:TSub (tms []) tm:=fun t v h=>by rw [Gb]at h;cases h
theorem Zn {l l':List (Nat×Option AV)}{k:Nat}{v:AV}(h:look l k=some v)(hs:TSub (tms l') (tms l)):TSub (tms ((k,some v)::l')) (tms l):=by
 intro t u hu
 rw [R6]at hu
 by_cases e:t=k
 ·subst e;rw [if_pos rfl]at hu;cases hu;rw [Gb];exact h
 ·rw [if_neg e]at hu;exact hs t u hu
section
variable {P:Program}{E:Env}{F:T CFn}{K:T (List AV×AV)}{Q:Nat→AV→Prop}
variable (L:Lg P E F K)
variable {fn nt:Nat}{l:List (Nat×Option AV)}{todo k:List AItem}{ds:List ADef}{dfd:Bool}{ro:Option Nat}{cs:List AFr}{h:H}{x:O}{a b:CC}{t:Bool}
include L
theorem gc (e:evL l x= .bool t)(g1:t=true→Good P E Q ⟨⟨fn,nt,tms l,.code a::k,ds,.run,dfd,ro⟩,cs,h⟩)(g2:t=false→Good P E Q ⟨⟨fn,nt,tms l,.code b::k,ds,.run,dfd,ro⟩,cs,h⟩):
  Good P E Q ⟨⟨fn,nt,tms l,.code (.cond x a b)::k,ds,.run,dfd,ro⟩,cs,h⟩:=vm L ((Ae l x).trans e) g1 g2
theorem gcT (e:evL l x= .bool true)(g1:Good P E Q ⟨⟨fn,nt,tms l,.code a::k,ds,.run,dfd,ro⟩,cs,h⟩):
  Good P E Q ⟨⟨fn,nt,tms l,.code (.cond x a b)::k,ds,.run,dfd,ro⟩,cs,h⟩:=gc L e (fun _=>g1) (fun h=>by cases h)
theorem gcF (e:evL l x= .bool false)(g1:Good P E Q ⟨⟨fn,nt,tms l,.code b::k,ds,.run,dfd,ro⟩,cs,h⟩):
  Good P E Q ⟨⟨fn,nt,tms l,.code (.cond x a b)::k,ds,.run,dfd,ro⟩,cs,h⟩:=gc L e (fun h=>by cases h) (fun _=>g1)
end
theorem cvb {f:O}{a:List O}:COp.callv f a≠ .bad:=by intro h;cases h
theorem R9 {k:IntKind}(hs:k.signed=false)(a:Nat):wr k (a:Nat)=((a % pw k:Nat):Int):=by
 rw [Fq,df]
 unfold IntKind.wrap
 have:((a:Nat):Int) % (2 ^ k.bits:Int)=((a % 2 ^ k.bits:Nat):Int):=by
  rw [Int.natCast_emod];congr 1
 rw [this]
 simp only [hs,Bool.false_and,Bool.false_eq_true,if_false,false_and]
theorem Kk {k:IntKind}{a:Nat}(h:a<pw k):toU k (a:Nat)=a:=by
 show Nat.mod a (pw k)=a
 exact Nat.mod_eq_of_lt h
theorem Sa {k:IntKind}(hs:k.signed=false){a:Nat}(h:a<pw k):wr k (a:Nat)=(a:Nat):=by
 rw [R9 hs,Nat.mod_eq_of_lt h]
section
variable {l:List (Nat×Option AV)}{h:H}{x y:O}{k:IntKind}{a c r:Nat}{sh:Sh}{q:Bool}
theorem zg (hs:k.signed=false)(e:evL l x= .int k (a:Nat))(e1:evL l y= .int k (c:Nat))(ha:a<pw k)(hc:c<pw k)(hx:(a ^^^ c)<pw k)(hr:a ^^^ c=r):exec (.bin .xor x y q sh) h (tms l)= .val (.int k (r:Nat)) h:=by
 simp only [exec,Ae,e,e1,F5,Dq,Bc,vo,Kk ha,Kk hc]
 have:wr k (Int.ofNat (Nat.xor a c))=(r:Nat):=by
  show wr k ((a ^^^ c:Nat):Int)=_
  rw [Sa hs hx,hr]
 rw [this]
theorem zh {j:IntKind}{s:Nat}(e:evL l x= .int k (a:Nat))(e1:evL l y= .int j (s:Nat))(hs:s≤bits k)(hr:a >>> s=r):exec (.bin .shr x y q sh) h (tms l)= .val (.int k (r:Nat)) h:=by
 have e1':evL l y= .int j (Int.ofNat s):=e1
 simp only [exec,Ae,e,e1',F5,Dq,vo]
 have h1:Jj s (bits k)=s:=by rw [I2];exact Nat.min_eq_left hs
 have h2:Int.fdiv (a:Nat) (Int.ofNat (Nat.pow 2 s))=((a >>> s:Nat):Int):=by
  rw [Nat.shiftRight_eq_div_pow,Int.fdiv_eq_ediv_of_nonneg _ (by exact Int.natCast_nonneg _)]
  rfl
 rw [h1,h2,hr]
theorem Xn {j:IntKind}{k':IntKind}(hs:k'.signed=false)(e:evL l x= .int j (a:Nat))(hr:a % pw k'=r):exec (.conv k' x) h (tms l)= .val (.int k' (r:Nat)) h:=by
 simp only [exec,Ae,e,R9 hs,hr]
theorem we (hs:k.signed=false)(e:evL l x= .int k (a:Nat))(ha:a<pw k)(hr:pw k - 1 - a=r):exec (.un .xor x) h (tms l)= .val (.int k (r:Nat)) h:=by
 simp only [exec,Ae,e,Kk ha]
 have:wr k (Int.ofNat (Nat.sub (Nat.sub (pw k) 1) a))=(r:Nat):=by
  show wr k ((pw k - 1 - a:Nat):Int)=_
  have hp:0<pw k:=Nat.lt_of_le_of_lt (Nat.zero_le _) ha
  rw [Sa hs (by omega),hr]
 rw [this]
end
def evO (l:List (Nat×Option AV))(o:O):Option AV:=match o with
 | .t i=>look l i
 | .c v=>some v
theorem Ab {l:List (Nat×Option AV)}{x:O}{v:AV}(e:evO l x=some v):evL l x=v:=by
 cases x with
 |t i=>simp only [evO]at e;simp only [evL,e]
 |c u=>simp only [evO,Option.some.injEq]at e;simp only [evL,e]
def E1 (l:List (Nat×Option AV)):List O→Option (List AV)
 | []=>some []
 |x::r=>match evO l x,E1 l r with
  |some v,some vs=>some (v::vs)
  |_,_=>none
theorem Ls {l:List (Nat×Option AV)}: ∀{xs:List O} {vs:List AV},E1 l xs=some vs→R7 l xs=vs
 | [],vs,h=>by simp only [E1,Option.some.injEq]at h;simp only [R7,h]
 |x::r,vs,h=>by
  simp only [E1]at h
  cases e1:evO l x with
  |none=>rw [e1]at h;cases h
  |some v=>
   cases e2:E1 l r with
   |none=>rw [e1,e2]at h;cases h
   |some us=>
    rw [e1,e2]at h;simp only [Option.some.injEq]at h
    simp only [R7,Ab e1,Ls e2,h]
def D3:List AV→List AV→Option (List AV)
 | [],c=>some c
 |v::r,c=>match D3 r c with
  |some x=>some (v::x)
  |none=>none
theorem Fb: ∀{a c r:List AV},D3 a c=some r→List.append a c=r
 | [],c,r,h=>by simp only [D3,Option.some.injEq]at h;exact h
 |v::a,c,r,h=>by
  simp only [D3]at h
  cases e:D3 a c with
  |none=>rw [e]at h;cases h
  |some x=>rw [e]at h;simp only [Option.some.injEq]at h;rw [←h,←Fb e];rfl
def ovO:List AV→List AV→Option (List AV)
 | [],c=>some c
 |_::_,[]=>none
 |v::r,_::c=>match ovO r c with
  |some x=>some (v::x)
  |none=>none
def O3 (lv:List AV):List AV→Nat→Option (List AV)
 |c,0=>ovO lv c
 | [],_+1=>none
 |a::c,o+1=>match O3 lv c o with
  |some x=>some (a::x)
  |none=>none
theorem gz: ∀{lv c r:List AV},ovO lv c=some r→lv.length≤c.length∧lv++c.drop lv.length=r
 | [],c,r,h=>by simp only [ovO,Option.some.injEq]at h;simp [h]
 |_::_,[],r,h=>by cases h
 |v::lv,_::c,r,h=>by
  simp only [ovO]at h
  cases e:ovO lv c with
  |none=>rw [e]at h;cases h
  |some x=>
   rw [e]at h;simp only [Option.some.injEq]at h
   obtain⟨h1,h2⟩:=gz e
   refine⟨by simp only [List.length_cons];omega,?_⟩
   rw [←h,←h2];simp
theorem I7 {lv:List AV}: ∀{c:List AV} {o:Nat} {r:List AV},O3 lv c o=some r→o+lv.length≤c.length∧E7 lv c o=r
 |c,0,r,h=>by
  have h':ovO lv c=some r:=by cases c <;> exact h
  obtain⟨h1,h2⟩:=gz h'
  refine⟨by omega,?_⟩
  have:E7 lv c 0=lv++c.drop lv.length:=by cases c <;> rfl
  rw [this,h2]
 | [],o+1,r,h=>by cases h
 |a::c,o+1,r,h=>by
  simp only [O3]at h
  cases e:O3 lv c o with
  |none=>rw [e]at h;cases h
  |some x=>
   rw [e]at h;simp only [Option.some.injEq]at h
   obtain⟨h1,h2⟩:=I7 e
   refine⟨by simp only [List.length_cons];omega,?_⟩
   rw [←h,←h2];rfl
def tkO:List AV→Nat→Option (List AV)
 |_,0=>some []
 | [],_+1=>none
 |v::c,k+1=>match tkO c k with
  |some x=>some (v::x)
  |none=>none
def dtO:List AV→Nat→Nat→Option (List AV)
 |c,0,k=>tkO c k
 | [],_+1,_=>none
 |_::c,o+1,k=>dtO c o k
theorem ia: ∀{c:List AV} {k:Nat} {r:List AV},tkO c k=some r→k≤c.length∧c.take k=r
 |c,0,r,h=>by cases c <;> (simp only [tkO,Option.some.injEq]at h;simp [←h])
 | [],k+1,r,h=>by cases h
 |v::c,k+1,r,h=>by
  simp only [tkO]at h
  cases e:tkO c k with
  |none=>rw [e]at h;cases h
  |some x=>
   rw [e]at h;simp only [Option.some.injEq]at h
   obtain⟨h1,h2⟩:=ia e
   exact⟨by simp only [List.length_cons];omega,by rw [←h,←h2];rfl⟩
theorem Lu: ∀{c:List AV} {o k:Nat} {r:List AV},dtO c o k=some r→o+k≤c.length∧(c.drop o).take k=r
 |c,0,k,r,h=>by
  have h':tkO c k=some r:=by cases c <;> exact h
  obtain⟨h1,h2⟩:=ia h'
  exact⟨by omega,by simpa using h2⟩
 | [],o+1,k,r,h=>by cases h
 |_::c,o+1,k,r,h=>by
  obtain⟨h1,h2⟩:=Lu (c:=c) (o:=o) h
  exact⟨by simp only [List.length_cons];omega,by simpa using h2⟩
def Kl (l:List (Nat×Option AV)):List (Nat×Nat×O)→List AV→Option (List AV)
 | [],c=>some c
 |p::r,c=>match evO l p.2.2 with
  |none=>none
  |some v=>match A9 v with
   |none=>none
   |some x=>match Nat.beq x.length p.2.1 with
    |false=>none
    |true=>match O3 x c p.1 with
     |none=>none
     |some d=>Kl l r d
theorem Sb {l:List (Nat×Option AV)}: ∀{ps:List (Nat×Nat×O)} {c r:List AV},Kl l ps c=some r→Mu l ps c=some r
 | [],c,r,h=>by simp only [Kl]at h;simp only [Mu,h]
 |p::ps,c,r,h=>by
  simp only [Kl]at h
  cases e1:evO l p.2.2 with
  |none=>rw [e1]at h;cases h
  |some v=>
   cases e2:A9 v with
   |none=>rw [e1]at h;simp only [e2]at h;cases h
   |some x=>
    cases e3:Nat.beq x.length p.2.1 with
    |false=>rw [e1]at h;simp only [e2,e3]at h;cases h
    |true=>
     cases e4:O3 x c p.1 with
     |none=>rw [e1]at h;simp only [e2,e3,e4]at h;cases h
     |some d=>
      rw [e1]at h;simp only [e2,e3,e4]at h
      obtain⟨h1,h2⟩:=I7 e4
      have h3:=Nat.eq_of_beq_eq_true e3
      have g1:Nat.ble (Nat.add p.1 p.2.1) c.length=true:=by rw [Nat.ble_eq];show p.1+p.2.1≤c.length;omega
      simp only [Mu,Ab e1,e2,e3,g1,h2]
      exact Sb h
section
variable {l:List (Nat×Option AV)}{lh:List (Nat×Option Blk)}{n:Nat}{t:T Blk}{h:H}{x y z:O}{v u:AV}{b o:Nat}{c lv:List AV}
theorem Aaz (e:evO l x=some v):exec (.mv x) h (tms l)= .val v h:=Aay (Ab e)
theorem qd (e:evO l x=some (.bool true))(e1:evO l y=some v):exec (.pick x y z) h (tms l)= .val v h:=by
 simp only [exec,Ae,Ab e,Ab e1]
theorem qe (e:evO l x=some (.bool false))(e1:evO l z=some v):exec (.pick x y z) h (tms l)= .val v h:=by
 simp only [exec,Ae,Ab e,Ab e1]
theorem zi {k:Nat}(e:evO l x=some v)(hc:A9 v=some lv)(hk:Nat.beq lv.length k=true):exec (.box k x) (hp n t lh) (tms l)= .val (.ptr n 0) (hp (n+1) t ((n,some (cl lv))::lh)):=zf (Ab e) hc hk
theorem qg {ps:List (Nat×Nat×O)}(hf:Kl l ps c=some lv):exec (.build c ps) h (tms l)= .val (.agg lv) h:=p9 (Sb hf)
theorem ib {k:Nat}{ps:List (Nat×Nat×O)}(hf:Kl l ps c=some lv):exec (.bslice k c ps) (hp n t lh) (tms l)= .val (.slc n 0 k k) (hp (n+1) t ((n,some (cl lv))::lh)):=gu (Sb hf)
theorem wg {f:AFn}{a cp:List O}{va vc:List AV}(ha:E1 l a=some va)(hc:E1 l cp=some vc):exec (.mkfn f a cp) h (tms l)= .val (.fn f va vc) h:=wa (Ls ha) (Ls hc)
theorem Hl {f:AFn}{a:List O}{va cp r:List AV}(e:evO l x=some (.fn f [] cp))(ha:E1 l a=some va)(hr:D3 va cp=some r):exec (.callv x a) h (tms l)= .call f r:=
 wc (Ab e) (Ls ha) (by show List.append va cp=r;exact Fb hr)
theorem wh {k:Nat}(e:evO l x=some v):exec (.mkif k x) h (tms l)= .val (.ifc k v) h:=wd (Ab e)
theorem qh {k:Nat}(e:evO l x=some (.ptr b o))(hb:H.get h b=some (cl c))(hv:dtO c o k=some lv):exec (.loadN k x) h (tms l)= .val (.agg lv) h:=
 Xm (Ab e) hb (Lu hv).1 (Lu hv).2
theorem ic {vs:List AV}{off k:Nat}(e:evO l x=some (.agg vs))(hv:dtO vs off k=some lv):exec (.fieldN x off k) h (tms l)= .val (.agg lv) h:=gx (Ab e) (Lu hv).2
section
variable {k:IntKind}{a d r:Nat}{sh:Sh}{q:Bool}
theorem zj (e:evO l x=some (.int .i64 (a:Nat)))(e1:evO l y=some (.int .i64 (d:Nat)))(hr:a+d<9223372036854775808):exec (.bin .add x y q sh) h (tms l)= .val (.int .i64 ((a+d:Nat):Int)) h:=
 gq (Ab e) (Ab e1) (by rw [Jv (by omega) (by omega)];omega)
theorem zk (e:evO l x=some (.int .i64 (a:Nat)))(e1:evO l y=some (.int .i64 (d:Nat)))(hr:d≤a)(h1:a<9223372036854775808):exec (.bin .sub x y q sh) h (tms l)= .val (.int .i64 ((a - d:Nat):Int)) h:=
 gt (Ab e) (Ab e1) (by rw [Jv (by omega) (by omega)];omega)
theorem zl (e:evO l x=some (.int .i64 (a:Nat)))(e1:evO l y=some (.int .i64 (d:Nat)))(hr:a*d<9223372036854775808):exec (.bin .mul x y q sh) h (tms l)= .val (.int .i64 ((a*d:Nat):Int)) h:=
 ze (Ab e) (Ab e1) (by rw [Jv (by have:=Int.mul_nonneg (Int.natCast_nonneg a) (Int.natCast_nonneg d);omega) (by rw [←Int.natCast_mul];omega)];exact(Int.natCast_mul a d).symm)
end
end
section
variable {l:List (Nat×Option AV)}{h:H}{v:AV}{b o i:Nat}{c lv lw:List AV}{rs:List CRes}
theorem Jn:results (tms l) h []=some []:=rfl
theorem uc (e:evO l (.t i)=some v)(r:results (tms l) h rs=some lv):results (tms l) h (.tmp i::rs)=some (v::lv):=by
 simp only [results,r,Ae,Ab e]
theorem Eh (e:evO l (.t i)=some (.ptr b o))(hb:H.get h b=some (cl c))(hv:c[o]?=some v)(r:results (tms l) h rs=some lv):results (tms l) h (.cell1 i::rs)=some (v::lv):=by
 have hlt:o<c.length:=(List.getElem?_eq_some_iff.1 hv).1
 have:Nat.ble (Nat.succ o) c.length=true:=by rw [Nat.ble_eq];exact hlt
 simp only [results,r,Ae,Ab e,hb,cl,this,Hj,hv]
theorem Km {k:Nat}(e:evO l (.t i)=some (.ptr b o))(hb:H.get h b=some (cl c))(hv:dtO c o k=some lw)(r:results (tms l) h rs=some lv):results (tms l) h (.cellN i k::rs)=some (.agg lw::lv):=by
 simp only [results,r,Ae,Ab e,Hk hb (Lu hv).1,(Lu hv).2]
end
section
variable {P:Program}{E:Env}{F:T CFn}{K:T (List AV×AV)}{Q:Nat→AV→Prop}
variable (L:Lg P E F K)
variable {fn nt:Nat}{l:List (Nat×Option AV)}{todo k:List AItem}{ds:List ADef}{dfd:Bool}{ro:Option Nat}{cs:List AFr}{n b o:Nat}{t:T Blk}{lh:List (Nat×Option Blk)}{r:List CI}{gd:Option (Nat×Bool)}{x y:O}{v:AV}{c c' lv:List AV}{h h':H}
include L
theorem qi {m:Nat}(hw:wanted (tms l) gd=some true)(e:evO l x=some (.ptr b o))(e1:evO l y=some v)(hc:A9 v=some lv)(hm:Nat.beq lv.length m=true)(hp1:Ar lv=true)
  (hb:H.get (hp n t lh) b=some (cl c)) (hs:O3 lv c o=some c')
  (g:Good P E Q ⟨⟨fn,nt,tms l,.ops r::k,ds,.run,dfd,ro⟩,cs,hp n t ((b,some (cl c'))::lh)⟩):
  Good P E Q ⟨⟨fn,nt,tms l,.ops (⟨none,gd,.store m x y⟩::r)::k,ds,.run,dfd,ro⟩,cs,hp n t lh⟩:=
 R8 L hw (Ab e) (Ab e1) hc hm hp1 hb (I7 hs).1 (I7 hs).2 g
section
variable {f:Nat}{g:CFn}{x:AFr}{a0 a1 a2 a3 a4 a5 a6 a7:AV}(hf:T.get F f=some g)(hm:T.get K f=none)
include hf hm
end
end
structure Kp (S:Nat→Prop)(h h':H):Prop where
 n:h.n≤h'.n
 old: ∀b,b<h.n→ ¬S b→H.get h' b=H.get h b
theorem Kp.refl {S:Nat→Prop}(h:H):Kp S h h:=⟨Nat.le_refl _,fun _ _ _=>rfl⟩
theorem Kp.trans {S:Nat→Prop}{a b c:H}(h:Kp S a b)(k:Kp S b c):Kp S a c:=
 ⟨Nat.le_trans h.n k.n,fun i hi hs=>(k.old i (Nat.lt_of_lt_of_le hi h.n) hs).trans (h.old i hi hs)⟩
theorem Kp.mono {S S':Nat→Prop}{a b:H}(hs: ∀i,S i→S' i)(h:Kp S a b):Kp S' a b:=⟨h.n,fun i hi hn=>h.old i hi fun k=>hn (hs i k)⟩
abbrev K0 (h h':H):Prop:=Kp (fun _=>False) h h'
theorem Kp.get {S:Nat→Prop}{h h':H}{b:Nat}{x:Option Blk}(k:Kp S h h')(hx:H.get h b=x)(hb:b<h.n)(hs: ¬S b):H.get h' b=x:=(k.old b hb hs).trans hx
theorem Kp.nw {S:Nat→Prop}{n:Nat}{t:T Blk}{lh:List (Nat×Option Blk)}{h:H}{x:Option Blk}(k:Kp S h (hp n t lh)):Kp S h (hp (n+1) t ((n,x)::lh)):=by
 refine⟨Nat.le_succ_of_le k.n,fun b hb hs=>?_⟩
 have hlt:b<n:=Nat.lt_of_lt_of_le hb k.n
 refine Eq.trans ?_ (k.old b hb hs)
 exact Ez _ _ _ _ (by omega)
theorem Kp.st {S:Nat→Prop}{n b:Nat}{t:T Blk}{lh:List (Nat×Option Blk)}{h:H}{x:Option Blk}(hb:h.n≤b∨S b)(k:Kp S h (hp n t lh)):Kp S h (hp n t ((b,x)::lh)):=by
 refine⟨k.n,fun i hi hs=>?_⟩
 refine Eq.trans ?_ (k.old i hi hs)
 have hne:i≠b:=by
  intro e;subst e
  rcases hb with h1|h1
  ·omega
  ·exact hs h1
 exact Ez _ _ _ _ hne
def Cd (l:List (Nat×Option AV)):List Nat→Option (List (Nat×Option AV))
 | []=>some []
 |t::r=>match look l t,Cd l r with
  |some v,some q=>some ((t,some v)::q)
  |_,_=>none
theorem Bq {l:List (Nat×Option AV)}: ∀{nm:List Nat} {q:List (Nat×Option AV)},Cd l nm=some q→only (tms l) nm=tms q
 | [],q,h=>by simp only [Cd,Option.some.injEq]at h;subst h;rfl
 |t::r,q,h=>by
  simp only [Cd]at h
  cases e1:look l t with
  |none=>rw [e1]at h;cases h
  |some v=>
   cases e2:Cd l r with
   |none=>rw [e1,e2]at h;cases h
   |some q'=>
    rw [e1,e2]at h;simp only [Option.some.injEq]at h
    subst h
    simp only [only,Gb,e1,Bq e2];rfl
def Kn (d:Nat):AV→Bool:=
 match d with
 |0=>fun _=>false
 |Nat.succ d=>fun x=>match x with
  | .fn f a c=>a.all (Kn d) && c.all (Kn d) && (match f with| .func _=>true| .yield _=>false)
  | .ifc _ v=>Kn d v
  | .agg l=>l.all (Kn d)
  | .tup l=>l.all (Kn d)
  | .opq u=>(match u with| .slice (some _) _ _=>true|_=>false)
  | .unk=>false
  |_=>true
theorem O4 {f:AV→AV→Bool}: ∀{l:List AV},(∀x∈l,f x x=true)→Gt f l l=true
 | [],_=>rfl
 |a::l,h=>by
  simp only [Gt,h a (List.mem_cons_self ..)]
  exact O4 fun x hx=>h x (List.mem_cons_of_mem _ hx)
theorem Lv: ∀(d:Nat) (v:AV),Kn d v=true→E9 d v v=true
 |0,_,h=>by cases h
 |d+1,v,h=>by
  have ih:=Lv d
  have hl: ∀{l:List AV},l.all (Kn d)=true→Gt (E9 d) l l=true:=fun {l} hl=>by
   rw [List.all_eq_true]at hl
   exact O4 fun x hx=>ih x (hl x hx)
  cases v with
  |bool a=>simp only [E9,U3,decide_true]
  |int k a=>simp only [E9,Bc,Ey,decide_true]
  |str a=>simp only [E9,Kb,decide_true]
  |ptr b o=>simp only [E9,Nat.beq_refl]
  |slc b o n c=>simp only [E9,Nat.beq_refl]
  |map r=>simp only [E9,Nat.beq_refl]
  |fn f a c=>
   simp only [Kn,Bool.and_eq_true]at h
   obtain⟨⟨h1,h2⟩,h3⟩:=h
   cases f with
   |func n=>simp only [E9,hl h1,hl h2,oj,Nat.beq_refl]
   |yield n=>cases h3
  |ifc t v=>
   simp only [Kn]at h
   simp only [E9,Nat.beq_refl,ih v h]
  |agg l=>simp only [Kn]at h;simp only [E9,hl h]
  |tup l=>simp only [Kn]at h;simp only [E9,hl h]
  |opq u=>
   simp only [Kn]at h
   split at h
   ·rename_i a n c
    obtain⟨b,o,s⟩:=a
    cases s <;> simp only [E9,vEq,Nat.beq_refl]
   ·cases h
  |unk=>cases h
  |_=>rfl
section
variable {P:Program}{E:Env}{F:T CFn}{K:T (List AV×AV)}{Q:Nat→AV→Prop}
variable {fn nt:Nat}{l q:List (Nat×Option AV)}{k:List AItem}{ds:List ADef}{dfd:Bool}{ro:Option Nat}{cs:List AFr}{h h':H}{gd:Option (Nat×Bool)}{op:COp}{nm:List Nat}{pre chk:List DI}{ps:List Ph}{v:AV}
theorem p_v {d:Nat}(ho:Cd l nm=some q)(hw:wanted (tms q) gd=some true)(hx:exec op h (tms q)= .val v h')
  (g:Bi P E Q pre chk ps k fn nt (tms ((d,some v)::l)) ds dfd ro cs h'):Bi P E Q (⟨⟨some d,gd,op⟩,nm⟩::pre) chk ps k fn nt (tms l) ds dfd ro cs h:=by
 refine zb (v:=v) (h':=h') ?_ ?_ g <;> (simp only [Bq ho];assumption)
theorem p_s {d:Nat}(ho:Cd l nm=some q)(hw:wanted (tms q) gd=some false)
  (g:Bi P E Q pre chk ps k fn nt (tms ((d,some (.tup []))::l)) ds dfd ro cs h):Bi P E Q (⟨⟨some d,gd,op⟩,nm⟩::pre) chk ps k fn nt (tms l) ds dfd ro cs h:=by
 refine vq ?_ g
 simp only [Bq ho];assumption
theorem p_0 {p:Ph}{r:List Ph}(hc:checks chk (tms l) h=true)(g:Good P E Q ⟨⟨fn,nt,tms l,.drawn p r::k,ds,.run,dfd,ro⟩,cs,h⟩):Bi P E Q [] chk (p::r) k fn nt (tms l) ds dfd ro cs h:=tx hc g
theorem p_e (hc:checks chk (tms l) h=true)(g:Good P E Q ⟨⟨fn,nt,tms l,k,ds,.run,dfd,ro⟩,cs,h⟩):Bi P E Q [] chk [] k fn nt (tms l) ds dfd ro cs h:=tx hc g
theorem ie {tm:T AV}:checks [] tm h=true:=rfl
theorem k_v {d:Nat}(ho:Cd l nm=some q)(hw:wanted (tms q) gd=some true)(hx:exec op h (tms q)= .val v h')(hl:look l d=some v)(ha:Kn 20 v=true)(g:checks chk (tms l) h=true):
  checks (⟨⟨some d,gd,op⟩,nm⟩::chk) (tms l) h=true:=by
 have:check ⟨⟨some d,gd,op⟩,nm⟩ (tms l) h=true:=by
  unfold check
  simp only [Bq ho,hw,hx,holds,Gb,hl]
  exact Lv _ _ ha
 simp only [checks,this,g]
theorem k_s {d:Nat}(ho:Cd l nm=some q)(hw:wanted (tms q) gd=some false)(hl:look l d=some (.tup []))(g:checks chk (tms l) h=true):
  checks (⟨⟨some d,gd,op⟩,nm⟩::chk) (tms l) h=true:=by
 have:check ⟨⟨some d,gd,op⟩,nm⟩ (tms l) h=true:=by
  unfold check
  simp only [Bq ho,hw,holds,Gb,hl]
  exact Lv _ _ rfl
 simp only [checks,this,g]
variable (L:Lg P E F K)
include L
theorem e_v {d:Nat}(ho:Cd l nm=some q)(hw:wanted (tms q) gd=some true)(hx:exec op h (tms q)= .val v h')
  (g:Bi P E Q pre chk ps k fn nt (tms ((d,some v)::l)) ds dfd ro cs h'):Good P E Q ⟨⟨fn,nt,tms l,.drawn ⟨⟨⟨some d,gd,op⟩,nm⟩,pre,chk⟩ ps::k,ds,.run,dfd,ro⟩,cs,h⟩:=
 Xl L (v:=v) (h':=h') (by rw [Bq ho];exact hw) (by rw [Bq ho];exact hx) g
theorem e_s {d:Nat}(ho:Cd l nm=some q)(hw:wanted (tms q) gd=some false)
  (g:Bi P E Q pre chk ps k fn nt (tms ((d,some (.tup []))::l)) ds dfd ro cs h):Good P E Q ⟨⟨fn,nt,tms l,.drawn ⟨⟨⟨some d,gd,op⟩,nm⟩,pre,chk⟩ ps::k,ds,.run,dfd,ro⟩,cs,h⟩:=
 vr L (by rw [Bq ho];exact hw) g
theorem e_c {dst:Option Nat}{f:AFn}{args:List AV}(ho:Cd l nm=some q)(hw:wanted (tms q) gd=some true)(hx:exec op h (tms q)= .call f args)
  (g:GO P E Q (Br F K f args false ⟨fn,nt,tms l,.drawn ⟨⟨⟨dst,gd,op⟩,nm⟩,pre,chk⟩ ps::k,ds,.run,dfd,ro⟩ cs h)):Good P E Q ⟨⟨fn,nt,tms l,.drawn ⟨⟨⟨dst,gd,op⟩,nm⟩,pre,chk⟩ ps::k,ds,.run,dfd,ro⟩,cs,h⟩:=
 vt L (by rw [Bq ho];exact hw) (by rw [Bq ho];exact hx) g
omit L in
theorem fd {d:Nat}(hb:op≠ .bad)(g:Bi P E Q pre chk ps k fn nt (tms ((d,some v)::l)) ds dfd ro cs h):
  GO P E Q (finish v cs h ⟨fn,nt,tms l,.drawn ⟨⟨⟨some d,gd,op⟩,nm⟩,pre,chk⟩ ps::k,ds,.run,dfd,ro⟩):=Zj hb g
theorem zm {m n b o:Nat}{t:T Blk}{lh:List (Nat×Option Blk)}{x y:O}{c c' lv:List AV}(ho:Cd l nm=some q)(hw:wanted (tms q) gd=some true)(e:evO q x=some (.ptr b o))(e1:evO q y=some v)(hc:A9 v=some lv)(hm:Nat.beq lv.length m=true)(hp1:Ar lv=true)
  (hb:H.get (hp n t lh) b=some (cl c)) (hs:O3 lv c o=some c')
  (g: ∀h',HSub (hp n t ((b,some (cl c'))::lh)) h'→Bi P E Q pre chk ps k fn nt (tms l) ds dfd ro cs h'):
  Good P E Q ⟨⟨fn,nt,tms l,.drawn ⟨⟨⟨none,gd,.store m x y⟩,nm⟩,pre,chk⟩ ps::k,ds,.run,dfd,ro⟩,cs,hp n t lh⟩:=by
 obtain⟨h',q1,q2⟩:=Kj (n:=n) (t:=t) (lh:=lh) hp1 hb (I7 hs).1 (I7 hs).2
 have hx:exec (.store m x y) (hp n t lh) (tms q)= .val .unk h':=by simp only [exec,Ae,Ab e,Ab e1,hc,hm,q1]
 exact Xl L (dst:=none) (by rw [Bq ho];exact hw) (by rw [Bq ho];exact hx) (g h' q2)
end
inductive SlR (size:Nat)(h:H):AV→Nat→List AV→Prop where
 |nils:SlR size h .nils 0 []
 |slc {b o n cap:Nat} {c xs:List AV} (hb:H.get h b=some (cl c)) (hk:o+n*size≤c.length) (hx:(c.drop o).take (n*size)=xs) (hlt:b<h.n):SlR size h (.slc b o n cap) n xs
def own (v:AV)(i:Nat):Prop:= ∃o n c,v= .slc i o n c
theorem SlR.len {size n:Nat}{h:H}{v:AV}{xs:List AV}(s:SlR size h v n xs):xs.length=n*size:=by
 cases s with
 |nils=>simp
 |slc hb hk hx hlt=>rw [←hx,List.length_take,List.length_drop];omega
theorem SlR.cells {size n:Nat}{h:H}{v:AV}{xs:List AV}(s:SlR size h v n xs):cellsOf size n h v=some xs:=by
 cases s with
 |nils=>rfl
 | @slc b o _ cap c _ hb hk hx hlt=>
  show cellsAt h b o (Nat.mul n size)=some xs
  have:=Hk hb hk
  rw [hx]at this;exact this
theorem SlR.lenV {size n:Nat}{h:H}{v:AV}{xs:List AV}(s:SlR size h v n xs):lenV v=some n:=by cases s <;> rfl
section
variable {l:List (Nat×Option AV)}{h:H}{x y:O}{s v:AV}{size bytes sl n:Nat}{old new:List AV}
end
inductive BndR (l:List (Nat×Option AV)):Option O→Option Nat→Prop where
 |no:BndR l none none
 | att {x:O} {k:IntKind} {a:Nat} (e:evO l x=some (.int k (a:Nat))):BndR l (some x) (some a)
theorem BndR.opt {l:List (Nat×Option AV)}{o:Option O}{a:Option Nat}(b:BndR l o a):C4 (tms l) o=some a:=by
 cases b with
 |no=>rfl
 | @att x k a e=>
  have e':evO l x=some (.int k (Int.ofNat a)):=e
  simp only [C4,Ae,Ab e']
section
variable {l:List (Nat×Option AV)}{h:H}{x y z:O}{s v:AV}{size n a b:Nat}{xs:List AV}{lo hi:Option O}{la lb:Option Nat}
theorem Hm {a b:Nat}(h:b<a):Nat.ble a b=false:=by
 cases hq:Nat.ble a b with
 |false=>rfl
 |true=>have:=Ah hq;omega
def B5 (bs:List Nat):List AV:=bs.map fun v=> .int .u8 (v:Nat)
end
section
variable {P:Program}{E:Env}{F:T CFn}{K:T (List AV×AV)}{Q:Nat→AV→Prop}
variable {fn nt:Nat}{l q:List (Nat×Option AV)}{k:List AItem}{ds:List ADef}{dfd:Bool}{ro:Option Nat}{cs:List AFr}{h h':H}{gd:Option (Nat×Bool)}{op:COp}{nm:List Nat}{pre chk:List DI}{ps:List Ph}{v:AV}{d:Nat}{r:List CI}
variable (L:Lg P E F K)
include L
end
section
variable {l:List (Nat×Option AV)}{h:H}{x y z:O}{s v zero:AV}{size n a b i:Nat}{xs c lv:List AV}
end
theorem Am (n:Nat)(t:T Blk)(l:List (Nat×Option Blk)):(hp n t l).n=n:=rfl
structure XV (op:COp)(h:H)(l:List (Nat×Option AV))(v:AV)(h':H):Prop where
 e:exec op h (tms l)= .val v h'
structure WT (l:List (Nat×Option AV))(g:Option (Nat×Bool))(b:Bool):Prop where
 e:wanted (tms l) g=some b
structure HB (h:H)(b:Nat)(c:List AV):Prop where
 e:H.get h b=some (cl c)
section
variable {n:Nat}{t:T Blk}{lh:List (Nat×Option Blk)}{b i:Nat}{c:List AV}{x:Option Blk}
end
section
variable {l:List (Nat×Option AV)}{lh:List (Nat×Option Blk)}{n:Nat}{t:T Blk}{h:H}{x y z:O}{v u:AV}{b o:Nat}{c lv:List AV}
theorem Ii {k:IntKind}{i len cap size:Nat}(e:evO l x=some (.slc b 0 len cap))(e1:evO l y=some (.int k (i:Nat)))(hi:i<len):XV (.iaddrS size x y) h l (.ptr b (i*size)) h:=⟨O1 (Ab e) (Ab e1) hi (Nat.zero_add _)⟩
theorem ig:XV (.alloc c) (hp n t lh) l (.ptr n 0) (hp (n+1) t ((n,some (cl c))::lh)):=⟨pz⟩
theorem T0 {k:Nat}(e:evO l x=some v)(hc:A9 v=some lv)(hk:Nat.beq lv.length k=true):XV (.box k x) (hp n t lh) l (.ptr n 0) (hp (n+1) t ((n,some (cl lv))::lh)):=⟨zi e hc hk⟩
theorem ij {k:Nat}{ps:List (Nat×Nat×O)}(hf:Kl l ps c=some lv):XV (.bslice k c ps) (hp n t lh) l (.slc n 0 k k) (hp (n+1) t ((n,some (cl lv))::lh)):=⟨ib hf⟩
section
variable {a d:Nat}{p r:Int}{k:IntKind}{sh:Sh}{q:Bool}
theorem zn (e:evO l x=some (.int .i64 (a:Nat)))(e1:evO l y=some (.int .i64 (d:Nat)))(hr:a+d<9223372036854775808):XV (.bin .add x y q sh) h l (.int .i64 ((a+d:Nat):Int)) h:=⟨zj e e1 hr⟩
theorem zo (e:evO l x=some (.int .i64 (a:Nat)))(e1:evO l y=some (.int .i64 (d:Nat)))(hr:d≤a)(h1:a<9223372036854775808):XV (.bin .sub x y q sh) h l (.int .i64 ((a - d:Nat):Int)) h:=⟨zk e e1 hr h1⟩
theorem zp (e:evO l x=some (.int .i64 (a:Nat)))(e1:evO l y=some (.int .i64 (d:Nat)))(hr:a*d<9223372036854775808):XV (.bin .mul x y q sh) h l (.int .i64 ((a*d:Nat):Int)) h:=⟨zl e e1 hr⟩
theorem ik (e:evO l x=some (.int k p))(e1:evO l y=some (.int k r))(ht:p<r):XV (.bin .lss x y q sh) h l (.bool true) h:=⟨tz (Ab e) (Ab e1) (decide_eq_true ht)⟩
theorem il (e:evO l x=some (.int k p))(e1:evO l y=some (.int k r))(ht: ¬p<r):XV (.bin .lss x y q sh) h l (.bool false) h:=⟨tz (Ab e) (Ab e1) (decide_eq_false ht)⟩
theorem im (e:evO l x=some (.int k p))(e1:evO l y=some (.int k r))(ht:p≤r):XV (.bin .leq x y q sh) h l (.bool true) h:=⟨t6 (Ab e) (Ab e1) (decide_eq_true ht)⟩
theorem io (e:evO l x=some (.int k p))(e1:evO l y=some (.int k r))(ht: ¬p≤r):XV (.bin .leq x y q sh) h l (.bool false) h:=⟨t6 (Ab e) (Ab e1) (decide_eq_false ht)⟩
theorem ip (e:evO l x=some (.int k p))(e1:evO l y=some (.int k r))(ht:r<p):XV (.bin .gtr x y q sh) h l (.bool true) h:=⟨t7 (Ab e) (Ab e1) (decide_eq_true ht)⟩
theorem iq (e:evO l x=some (.int k p))(e1:evO l y=some (.int k r))(ht: ¬r<p):XV (.bin .gtr x y q sh) h l (.bool false) h:=⟨t7 (Ab e) (Ab e1) (decide_eq_false ht)⟩
theorem ir (e:evO l x=some (.int k p))(e1:evO l y=some (.int k r))(ht:r≤p):XV (.bin .geq x y q sh) h l (.bool true) h:=⟨t8 (Ab e) (Ab e1) (decide_eq_true ht)⟩
theorem iu (e:evO l x=some (.int k p))(e1:evO l y=some (.int k r))(ht: ¬r≤p):XV (.bin .geq x y q sh) h l (.bool false) h:=⟨t8 (Ab e) (Ab e1) (decide_eq_false ht)⟩
theorem ud (e:evO l x=some (.int k p))(e1:evO l y=some (.int k r))(ht:p=r):XV (.bin .eql x y q .pint) h l (.bool true) h:=⟨t9 (Ab e) (Ab e1) (decide_eq_true ht)⟩
theorem ue (e:evO l x=some (.int k p))(e1:evO l y=some (.int k r))(ht: ¬p=r):XV (.bin .eql x y q .pint) h l (.bool false) h:=⟨t9 (Ab e) (Ab e1) (decide_eq_false ht)⟩
theorem iv (e:evO l x=some (.int k p))(e1:evO l y=some (.int k r))(ht:p≠r):XV (.bin .neq x y q .pint) h l (.bool true) h:=⟨ua (Ab e) (Ab e1) (decide_eq_true ht)⟩
theorem iy (e:evO l x=some (.int k p))(e1:evO l y=some (.int k r))(ht: ¬p≠r):XV (.bin .neq x y q .pint) h l (.bool false) h:=⟨ua (Ab e) (Ab e1) (decide_eq_false ht)⟩
end
end
section
variable {P:Program}{E:Env}{F:T CFn}{K:T (List AV×AV)}{Q:Nat→AV→Prop}
variable {fn nt:Nat}{l q:List (Nat×Option AV)}{k:List AItem}{ds:List ADef}{dfd:Bool}{ro:Option Nat}{cs:List AFr}{h h':H}{gd:Option (Nat×Bool)}{op:COp}{nm:List Nat}{pre chk:List DI}{ps:List Ph}{v:AV}{d:Nat}{r:List CI}
variable {n b o:Nat}{t:T Blk}{lh:List (Nat×Option Blk)}{x y:O}{c c' lv:List AV}
variable (L:Lg P E F K)
include L
theorem esz (ho:Cd l nm=some q)(hw:WT q gd false)
  (g:Bi P E Q pre chk ps k fn nt (tms ((d,some (.tup []))::l)) ds dfd ro cs h):Good P E Q ⟨⟨fn,nt,tms l,.drawn ⟨⟨⟨some d,gd,op⟩,nm⟩,pre,chk⟩ ps::k,ds,.run,dfd,ro⟩,cs,h⟩:=e_s L ho hw.e g
end
section
variable {P:Program}{E:Env}{F:T CFn}{K:T (List AV×AV)}{Q:Nat→AV→Prop}
variable {fn nt:Nat}{l:List (Nat×Option AV)}{k:List AItem}{ds:List ADef}{dfd:Bool}{ro:Option Nat}{cs:List AFr}{gd:Option (Nat×Bool)}{v:AV}{r:List CI}
variable {n b o:Nat}{t:T Blk}{lh:List (Nat×Option Blk)}{x y:O}{c:List AV}
variable (L:Lg P E F K)
include L
theorem Aa0 (hw:WT l gd true)(e:evO l x=some (.ptr b o))(e1:evO l y=some v)(hc:A9 v=some [v])(hp1:Dr v=true)(hb:HB (hp n t lh) b c)(ho:o<c.length)
  (g:Good P E Q ⟨⟨fn,nt,tms l,.ops r::k,ds,.run,dfd,ro⟩,cs,hp n t ((b,some (cl (c.set o v)))::lh)⟩):
  Good P E Q ⟨⟨fn,nt,tms l,.ops (⟨none,gd,.store 1 x y⟩::r)::k,ds,.run,dfd,ro⟩,cs,hp n t lh⟩:=
 R8 L hw.e (Ab e) (Ab e1) hc rfl (by simp only [Ar,hp1]) hb.e ho (Tz c v o ho) g
end
end Go.Ev
