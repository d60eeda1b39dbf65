/- Part of the proof. -/
import Derived.Test.YtgkianlpkdfhkaaGreatQ00
import Derived.Calls
import Derived.Laws.Cells
import Derived.Laws.World
import Derived.Laws.Sem
set_option linter.unusedVariables false
set_option linter.unusedSimpArgs false
set_option linter.unusedSectionVars false
namespace Go.Ev
section
variable {α: Type}
theorem T.get_leaf (n:Nat):T.get (T.leaf:T α) n=none:=rfl
theorem T.get_node_zero (l:T α)(v:Option α)(r:T α):T.get (.node l v r) 0=v:=rfl
theorem T.get_node_succ (l:T α)(v:Option α)(r:T α)(m:Nat):T.get (.node l v r) (m+1)=if m % 2=0 then T.get l (m / 2)else T.get r (m / 2):=by
 show(@Bool.rec (fun _=>Option α) (T.get r (Nat.div m 2)) (T.get l (Nat.div m 2)) (Nat.beq (Nat.mod m 2) 0))=_
 by_cases h:m % 2=0
 ·have:Nat.beq (Nat.mod m 2) 0=true:=by rw [show Nat.mod m 2=0 from h];rfl
  rw [this,if_pos h];rfl
 ·have:Nat.beq (Nat.mod m 2) 0=false:=by
   cases hb:Nat.beq (Nat.mod m 2) 0 with
   |false=>rfl
   |true=>exact absurd (Nat.eq_of_beq_eq_true hb) h
  rw [this,if_neg h];rfl
theorem T.single_zero (x:Option α)(f:Nat):T.single x (f+1) 0= .node .leaf x .leaf:=rfl
theorem T.single_succ (x:Option α)(f m:Nat):T.single x (f+1) (m+1)=if m % 2=0 then .node (T.single x f (m / 2)) none .leaf else .node .leaf none (T.single x f (m / 2)):=by
 show(@Bool.rec (fun _=>T α) (.node .leaf none (T.single x f (Nat.div m 2))) (.node (T.single x f (Nat.div m 2)) none .leaf) (Nat.beq (Nat.mod m 2) 0))=_
 by_cases h:m % 2=0
 ·have:Nat.beq (Nat.mod m 2) 0=true:=by rw [show Nat.mod m 2=0 from h];rfl
  rw [this,if_pos h];rfl
 ·have:Nat.beq (Nat.mod m 2) 0=false:=by
   cases hb:Nat.beq (Nat.mod m 2) 0 with
   |false=>rfl
   |true=>exact absurd (Nat.eq_of_beq_eq_true hb) h
  rw [this,if_neg h];rfl
theorem T.set_leaf (n:Nat)(x:Option α):T.set (.leaf:T α) n x=T.single x (n+1) n:=rfl
theorem T.set_node_zero (l:T α)(v:Option α)(r:T α)(x:Option α):T.set (.node l v r) 0 x= .node l x r:=rfl
theorem T.set_node_succ (l:T α)(v:Option α)(r:T α)(m:Nat)(x:Option α):T.set (.node l v r) (m+1) x=if m % 2=0 then .node (T.set l (m / 2) x) v r else .node l v (T.set r (m / 2) x):=by
 show(@Bool.rec (fun _=>T α) (.node l v (T.set r (Nat.div m 2) x)) (.node (T.set l (Nat.div m 2) x) v r) (Nat.beq (Nat.mod m 2) 0))=_
 by_cases h:m % 2=0
 ·have:Nat.beq (Nat.mod m 2) 0=true:=by rw [show Nat.mod m 2=0 from h];rfl
  rw [this,if_pos h];rfl
 ·have:Nat.beq (Nat.mod m 2) 0=false:=by
   cases hb:Nat.beq (Nat.mod m 2) 0 with
   |false=>rfl
   |true=>exact absurd (Nat.eq_of_beq_eq_true hb) h
  rw [this,if_neg h];rfl
theorem T.get_single (x:Option α): ∀(f n m:Nat),n<f→T.get (T.single x f n) m=if m=n then x else none
 |0,n,m,h=>by omega
 |f+1,0,m,_=>by
  cases m with
  |zero=>rfl
  |succ m=>rw [T.single_zero,T.get_node_succ];simp [T.get_leaf]
 |f+1,n+1,m,h=>by
  rw [T.single_succ]
  by_cases hn:n % 2=0
  ·rw [if_pos hn]
   cases m with
   |zero=>rw [T.get_node_zero];simp
   |succ m=>
    rw [T.get_node_succ]
    by_cases hm:m % 2=0
    ·rw [if_pos hm,T.get_single x f (n / 2) (m / 2) (by omega)]
     by_cases e:m=n
     ·subst e;simp
     ·rw [if_neg (by omega),if_neg (by omega)]
    ·rw [if_neg hm,T.get_leaf,if_neg (by omega)]
  ·rw [if_neg hn]
   cases m with
   |zero=>rw [T.get_node_zero];simp
   |succ m=>
    rw [T.get_node_succ]
    by_cases hm:m % 2=0
    ·rw [if_pos hm,T.get_leaf,if_neg (by omega)]
    ·rw [if_neg hm,T.get_single x f (n / 2) (m / 2) (by omega)]
     by_cases e:m=n
     ·subst e;simp
     ·rw [if_neg (by omega),if_neg (by omega)]
theorem T.get_set (t:T α)(x:Option α): ∀(n m:Nat),T.get (T.set t n x) m=if m=n then x else T.get t m:=by
 induction t with
 |leaf=>intro n m;rw [T.set_leaf,T.get_single x (n+1) n m (by omega)];rfl
 |node l v r ihl ihr=>
  intro n m
  cases n with
  |zero=>
   rw [T.set_node_zero]
   cases m with
   |zero=>rfl
   |succ m=>rw [T.get_node_succ,T.get_node_succ,if_neg (by omega: ¬m+1=0)]
  |succ n=>
   rw [T.set_node_succ]
   by_cases hn:n % 2=0
   ·rw [if_pos hn]
    cases m with
    |zero=>rw [T.get_node_zero,T.get_node_zero,if_neg (by omega)]
    |succ m=>
     rw [T.get_node_succ,T.get_node_succ]
     by_cases hm:m % 2=0
     ·rw [if_pos hm,if_pos hm,ihl]
      by_cases e:m=n
      ·subst e;simp
      ·rw [if_neg (by omega),if_neg (by omega)]
     ·rw [if_neg hm,if_neg hm,if_neg (by omega)]
   ·rw [if_neg hn]
    cases m with
    |zero=>rw [T.get_node_zero,T.get_node_zero,if_neg (by omega)]
    |succ m=>
     rw [T.get_node_succ,T.get_node_succ]
     by_cases hm:m % 2=0
     ·rw [if_pos hm,if_pos hm,if_neg (by omega)]
     ·rw [if_neg hm,if_neg hm,ihr]
      by_cases e:m=n
      ·subst e;simp
      ·rw [if_neg (by omega),if_neg (by omega)]
end
theorem Aj {a b:Nat}(h:Nat.beq a b=true):a=b:=Nat.eq_of_beq_eq_true h
theorem Dm {a b:Nat}(h:Nat.beq a b=false):a≠b:=Nat.ne_of_beq_eq_false h
theorem Ah {a b:Nat}(h:Nat.ble a b=true):a≤b:=Nat.le_of_ble_eq_true h
theorem D7 {a b:Nat}(h:Nat.ble a b=false):b<a:=by
 rcases Nat.lt_or_ge b a with h'|h'
 ·exact h'
 ·rw [Nat.ble_eq_true_of_le h']at h;exact absurd h (by simp)
theorem A6 {j k:IntKind}(h:kEq j k=true):j=k:=by cases j <;> cases k <;> first|rfl|exact absurd h (by decide)
theorem Ey (a b:Int):iEq a b=decide (a=b):=by
 cases a <;> cases b
 ·rename_i m n
  show Nat.beq m n=_
  by_cases h:m=n
  ·subst h;simp
  ·have: ¬(Int.ofNat m=Int.ofNat n):=fun e=>h (Int.ofNat.inj e)
   rw [decide_eq_false this]
   cases hb:Nat.beq m n with
   |false=>rfl
   |true=>exact absurd (Aj hb) h
 ·rename_i m n;show false=_;symm;apply decide_eq_false;intro e;cases e
 ·rename_i m n;show false=_;symm;apply decide_eq_false;intro e;cases e
 ·rename_i m n
  show Nat.beq m n=_
  by_cases h:m=n
  ·subst h;simp
  ·have: ¬(Int.negSucc m=Int.negSucc n):=fun e=>h (Int.negSucc.inj e)
   rw [decide_eq_false this]
   cases hb:Nat.beq m n with
   |false=>rfl
   |true=>exact absurd (Aj hb) h
theorem ble_eq (a b:Nat):Nat.ble a b=decide (a≤b):=by
 cases h:Nat.ble a b with
 |true=>simp [Ah h]
 |false=>have:=D7 h;symm;apply decide_eq_false;omega
theorem Gi (a b:Int):iLt a b=decide (a<b):=by
 cases a <;> cases b
 ·rename_i m n
  show Nat.ble (m+1) n=_
  rw [ble_eq]
  exact decide_eq_decide.2 ⟨fun h=>by show((m:Int))<(n:Int);omega,fun h=>by have:((m:Int))<(n:Int):=h;omega⟩
 ·rename_i m n;show false=_;symm;apply decide_eq_false;intro h;have:=Int.negSucc_lt_zero n;have:(0:Int)≤Int.ofNat m:=Int.natCast_nonneg m;omega
 ·rename_i m n;show true=_;symm;apply decide_eq_true;have:=Int.negSucc_lt_zero m;have:(0:Int)≤Int.ofNat n:=Int.natCast_nonneg n;omega
 ·rename_i m n
  show Nat.ble (n+1) m=_
  rw [ble_eq]
  exact decide_eq_decide.2 ⟨fun h=>by rw [Int.negSucc_eq,Int.negSucc_eq];omega,fun h=>by rw [Int.negSucc_eq,Int.negSucc_eq]at h;omega⟩
theorem W9 (k:IntKind):bits k=k.bits:=by cases k <;> rfl
theorem df (k:IntKind):pw k=2 ^ k.bits:=by cases k <;> rfl
theorem dg (k:IntKind)(n:Int):(toU k n:Int)=n % (2 ^ k.bits:Int):=by
 have hp:((pw k:Nat):Int)=(2 ^ k.bits:Int):=by rw [df];simp
 rw [←hp]
 have hpos:0<pw k:=by cases k <;> decide
 cases n with
 |ofNat m=>show((m % pw k:Nat):Int)=_;simp
 |negSucc m=>
  show((pw k - 1 - m % pw k:Nat):Int)=_
  have hlt:=Nat.mod_lt m hpos
  rw [Int.negSucc_emod m (by omega:(0:Int)<(pw k:Int))]
  omega
theorem uq (k:IntKind)(n:Int):toU k n<pw k:=by
 have hpos:0<pw k:=by cases k <;> decide
 cases n with
 |ofNat m=>exact Nat.mod_lt m hpos
 |negSucc m=>show pw k - 1 - m % pw k<pw k;omega
theorem Fq (k:IntKind)(n:Int):wr k n=k.wrap n:=by
 have h:=dg k n
 have hl:=uq k n
 unfold wr IntKind.wrap wrN
 rw [←h]
 generalize toU k n=r at hl
 cases k <;> simp only [hf,pw,IntKind.signed,IntKind.bits]at hl ⊢ <;> simp only [ble_eq] <;>
  (split <;> rename_i hb <;> simp only [decide_eq_true_eq,decide_eq_false_iff_not]at hb <;> simp <;> omega)
theorem I2 (a b:Nat):Jj a b=min a b:=by
 unfold Jj
 split <;> rename_i h
 ·have:=Ah h;omega
 ·have:=D7 h;omega
theorem Kb: ∀(a b:List Nat),K8 a b=decide (a=b)
 | [],[]=>rfl
 | [],_::_=>by simp [K8]
 |_::_,[]=>by simp [K8]
 |a::r,b::s=>by
  show(match Nat.beq a b with|true=>K8 r s|false=>false)=_
  cases h:Nat.beq a b with
  |true=>rw [Kb r s];have:=Aj h;subst this;simp
  |false=>have:=Dm h;simp [this]
theorem U3 (a b:Bool):bEq a b=decide (a=b):=by cases a <;> cases b <;> rfl
theorem Gu (n:Nat): ∀l:List Nat,La n l=true↔n∈l
 | []=>by simp [La]
 |a::r=>by
  show(match Nat.beq a n with|true=>true|false=>La n r)=true↔_
  cases h:Nat.beq a n with
  |true=>have:=Aj h;subst this;simp
  |false=>have:=Dm h;simp [Gu n r,Ne.symm this]
structure Loc where
 cb:Nat
 base:Nat
 csz:Nat
abbrev Phi:=Nat→Option Loc
mutual
inductive VR (φ: Phi):AV→Value→Prop where
 |bool (b:Bool):VR φ (.bool b) (.bool b)
 |int (k:IntKind) (n:Int):VR φ (.int k n) (.int k n)
 |str {s:List Nat} {b:ByteArray} (h:b.data.toList.map (·.toNat)=s):VR φ (.str s) (.string b)
 |nilp:VR φ .nilp (.pointer none)
 |ptr {b o:Nat} {l:Loc} (h:φ b=some l):VR φ (.ptr b o) (.pointer (some ⟨l.cb,l.base+o,none⟩))
 |nils:VR φ .nils (.slice none 0 0)
 |slcX {b o n c:Nat} {l:Loc} {off:Nat} (h:φ b=some l) (hc:c<Aa) (hl:n≤c) (ho:0<c→off=l.base+o):
   VR φ (.slc b o n c) (.slice (some ⟨l.cb,off,none⟩) n c)
 |slcU {b o n c k:Nat} {l:Loc} {off:Nat} (h:φ b=some l) (hl:n≤c) (hr:off+c*k≤l.csz) (ho:0<n→off=l.base+o):
   VR φ (.slc b o n (Aa+k)) (.slice (some ⟨l.cb,off,none⟩) n c)
 |nilm:VR φ .nilm (.map none)
 |map {r:Nat} {l:Loc} (h:φ r=some l):VR φ (.map r) (.map (some l.cb))
 |fnF {f:Nat} {a c:List AV} {a' c':Array Value} (ha:VRs φ a a'.toList) (hc:VRs φ c c'.toList):VR φ (.fn (.func f) a c) (.func (.func f) a' c')
 |fnY {r:Nat} {l:Loc} (h:φ r=some l):VR φ (.fn (.yield r) [] []) (.func (.yield l.cb) #[] #[])
 |nilf:VR φ .nilf .nilFunc
 |ifc {t:Nat} {v:AV} {v':Value} (h:VR φ v v'):VR φ (.ifc t v) (.iface t v')
 |nili:VR φ .nili .nilIface
 |agg {l:List AV} {c:Array Value} (h:VRs φ l c.toList):VR φ (.agg l) (.agg c)
 |tup {l:List AV} {c:Array Value} (h:VRs φ l c.toList):VR φ (.tup l) (.tuple c)
 |opq (v:Value):VR φ (.opq v) v
 |unk (v:Value):VR φ .unk v
inductive VRs (φ: Phi):List AV→List Value→Prop where
 |nil:VRs φ [] []
 |cons {v:AV} {v':Value} {l:List AV} {l':List Value} (h:VR φ v v') (hs:VRs φ l l'):VRs φ (v::l) (v'::l')
end
def Phi.le (φ φ':Phi):Prop:= ∀b l,φ b=some l→φ' b=some l
theorem Phi.le.refl (φ: Phi):Phi.le φ φ:= fun _ _ h=>h
theorem Phi.le.trans {a b c:Phi}(h:Phi.le a b)(k:Phi.le b c):Phi.le a c:=fun x l hx=>k x l (h x l hx)
mutual
theorem VR.mono {φ φ':Phi}(hp:Phi.le φ φ'){v:AV}{v':Value}(h:VR φ v v'):VR φ' v v':=
 match h with
 | .bool b=> .bool b
 | .int k n=> .int k n
 | .str h=> .str h
 | .nilp=> .nilp
 | .ptr h=> .ptr (hp _ _ h)
 | .nils=> .nils
 | .slcX h a b c=> .slcX (hp _ _ h) a b c
 | .slcU h a b c=> .slcU (hp _ _ h) a b c
 | .nilm=> .nilm
 | .map h=> .map (hp _ _ h)
 | .fnF a c=> .fnF (VRs.mono hp a) (VRs.mono hp c)
 | .fnY h=> .fnY (hp _ _ h)
 | .nilf=> .nilf
 | .ifc h=> .ifc (VR.mono hp h)
 | .nili=> .nili
 | .agg h=> .agg (VRs.mono hp h)
 | .tup h=> .tup (VRs.mono hp h)
 | .opq v=> .opq v
 | .unk v=> .unk v
theorem VRs.mono {φ φ':Phi}(hp:Phi.le φ φ'){l:List AV}{l':List Value}(h:VRs φ l l'):VRs φ' l l':=
 match h with
 | .nil=> .nil
 | .cons a b=> .cons (VR.mono hp a) (VRs.mono hp b)
end
section lists
variable {φ: Phi}
theorem VRs.length {l:List AV}{l':List Value}(h:VRs φ l l'):l.length=l'.length:=by
 induction l generalizing l' with
 |nil=>cases h;rfl
 |cons a l ih=>cases h with|cons _ hs=>simp [ih hs]
theorem VRs.append {a b:List AV}{a' b':List Value}(h:VRs φ a a')(k:VRs φ b b'):VRs φ (a++b) (a'++b'):=by
 induction a generalizing a' with
 |nil=>cases h;exact k
 |cons x a ih=>cases h with|cons hv hs=>exact .cons hv (ih hs)
theorem VRs.get {l:List AV}{l':List Value}(h:VRs φ l l'){i:Nat}{v:AV}(hi:l[i]?=some v): ∃v',l'[i]?=some v'∧VR φ v v':=by
 induction l generalizing l' i with
 |nil=>simp at hi
 |cons x l ih=>
  cases h with
  |cons hv hs=>
   cases i with
   |zero=>simp at hi;subst hi;exact⟨_,rfl,hv⟩
   |succ i=>simp at hi ⊢;exact ih hs hi
theorem VRs.drop {l:List AV}{l':List Value}(h:VRs φ l l')(n:Nat):VRs φ (l.drop n) (l'.drop n):=by
 induction n generalizing l l' with
 |zero=>simpa using h
 |succ n ih=>
  cases h with
  |nil=>simpa using VRs.nil
  |cons _ hs=>simpa using ih hs
theorem VRs.take {l:List AV}{l':List Value}(h:VRs φ l l')(n:Nat):VRs φ (l.take n) (l'.take n):=by
 induction n generalizing l l' with
 |zero=>simpa using VRs.nil
 |succ n ih=>
  cases h with
  |nil=>simpa using VRs.nil
  |cons hv hs=>simpa using VRs.cons hv (ih hs)
theorem VRs.of_get {l:List AV}: ∀{l':List Value},l.length=l'.length→(∀(i:Nat) (v:AV),l[i]?=some v→ ∃v',l'[i]?=some v'∧VR φ v v')→VRs φ l l':=by
 induction l with
 |nil=>intro l' hl _;cases l' with|nil=>exact .nil|cons _ _=>simp at hl
 |cons a l ih=>
  intro l' hl h
  cases l' with
  |nil=>simp at hl
  |cons a' l'=>
   refine .cons ?_ (ih (by simpa using hl) fun i v hi=>?_)
   ·obtain⟨v',h1,h2⟩:=h 0 a rfl;simp at h1;subst h1;exact h2
   ·obtain⟨v',h1,h2⟩:=h (i+1) v (by simpa using hi);exact⟨v',by simpa using h1,h2⟩
end lists
structure Like (w w':World):Prop where
 os:w'.os=w.os
 tape:w'.tape=w.tape
 output:w'.output=w.output
theorem Like.refl (w:World):Like w w:=⟨rfl,rfl,rfl⟩
theorem Like.trans {a b c:World}(h:Like a b)(k:Like b c):Like a c:=⟨k.os.trans h.os,k.tape.trans h.tape,k.output.trans h.output⟩
structure TR (φ: Phi)(nt:Nat)(tm:T AV)(tmps:Array Value):Prop where
 size:tmps.size=nt
 val: ∀t v,T.get tm t=some v→VR φ v (tmps.getD t undef)
theorem TR.mono {φ φ':Phi}(hp:Phi.le φ φ'){nt:Nat}{tm:T AV}{tmps:Array Value}(h:TR φ nt tm tmps):TR φ' nt tm tmps:=
 ⟨h.size,fun t v ht=>(h.val t v ht).mono hp⟩
theorem H7 (a:Array Value)(d:Nat)(v u:Value)(t:Nat)(hd:d<a.size):(a.setIfInBounds d v).getD t u=if t=d then v else a.getD t u:=by
 simp only [Array.getD_eq_getD_getElem?,Array.getElem?_setIfInBounds]
 by_cases h:t=d
 ·subst h;simp [hd]
 ·rw [if_neg (by omega),if_neg h]
theorem TR.put {φ: Phi}{nt:Nat}{tm:T AV}{tmps:Array Value}(h:TR φ nt tm tmps){d:Option Nat}(hd:Mc nt d=true){v:AV}{v':Value}(hv:VR φ v v'):
  TR φ nt (Ev.put tm d v) (match d with|some d=>tmps.setIfInBounds d v'|none=>tmps):=by
 cases d with
 |none=>exact h
 |some d=>
  have hlt:d<tmps.size:=by rw [h.size];exact Ah hd
  refine⟨by simpa using h.size,fun t u ht=>?_⟩
  simp only [Ev.put,T.get_set]at ht
  show VR φ u ((tmps.setIfInBounds d v').getD t undef)
  rw [H7 _ _ _ _ _ hlt]
  by_cases e:t=d
  ·rw [if_pos e]at ht ⊢;cases ht;exact hv
  ·rw [if_neg e]at ht ⊢;exact h.val t u ht
theorem N1 (φ: Phi): ∀(d:Nat) (v:Value),VR φ (Ru d v) v
 |0,v=> .unk v
 |d+1,v=>by
  have hs: ∀l:List Value,VRs φ (l.map (Ru d)) l:=by
   intro l
   induction l with
   |nil=>exact .nil
   |cons a l ih=>exact .cons (N1 φ d a) ih
  cases v with
  |bool b=>exact .bool b
  |int k n=>exact .int k n
  |float k b=>exact .unk _
  |complex k a b=>exact .unk _
  |string s=>exact .str rfl
  |pointer a=>cases a with
   |none=>exact .nilp
   |some a=>exact .unk _
  |slice a l c=>cases a with
   |none=>cases l with
    |zero=>cases c with
     |zero=>exact .nils
     |succ c=>exact .unk _
    |succ l=>exact .unk _
   |some a=>exact .unk _
  |map r=>cases r with
   |none=>exact .nilm
   |some r=>exact .unk _
  |chan r=>exact .unk _
  |func f a c=>exact .unk _
  |nilFunc=>exact .nilf
  |iface t v=>exact .ifc (N1 φ d v)
  |nilIface=>exact .nili
  |agg cs=>exact .agg (hs _)
  |tuple cs=>exact .tup (hs _)
def RhoR (φ: Phi)(tm:T AV)(ρ: Operand→Value):Prop:= ∀x,VR φ (ev tm (opd x)) (ρ x)
theorem TR.rho {φ: Phi}{nt:Nat}{tm:T AV}{a:Act}(h:TR φ nt tm a.tmps):RhoR φ tm a.eval:=by
 intro x
 cases x with
 |tmp t=>
  show VR φ (match T.get tm t with|some v=>v|none=> .unk) (a.tmps.getD t undef)
  cases ht:T.get tm t with
  |none=>exact .unk _
  |some v=>exact h.val t v ht
 |const v=>exact N1 φ 10 v
 |global g=>exact .unk _
 |func f=>exact .fnF .nil .nil
theorem RhoR.mono {φ φ':Phi}(hp:Phi.le φ φ'){tm:T AV}{ρ: Operand→Value}(h:RhoR φ tm ρ):RhoR φ' tm ρ:= fun x=>(h x).mono hp
theorem RhoR.list {φ: Phi}{tm:T AV}{ρ: Operand→Value}(h:RhoR φ tm ρ)(l:List Operand):VRs φ (evs tm (l.map opd)) (l.map ρ):=by
 induction l with
 |nil=>exact .nil
 |cons a l ih=>exact .cons (h a) ih
structure ER (φ: Phi)(e:AEnt)(e':MapEntry):Prop where
 key:VR φ e.key e'.key
 val:VR φ e.val e'.val
 born:e.born=e'.born
inductive ERs (φ: Phi):List AEnt→List MapEntry→Prop where
 |nil:ERs φ [] []
 |cons {e:AEnt} {e':MapEntry} {l:List AEnt} {l':List MapEntry} (h:ER φ e e') (hs:ERs φ l l'):ERs φ (e::l) (e'::l')
theorem ERs.mono {φ φ':Phi}(hp:Phi.le φ φ'){l:List AEnt}{l':List MapEntry}(h:ERs φ l l'):ERs φ' l l':=by
 induction h with
 |nil=>exact .nil
 |cons h _ ih=>exact .cons ⟨h.key.mono hp,h.val.mono hp,h.born⟩ ih
inductive DR (φ: Phi):ADef→Deferred→Prop where
 |call {f:Nat} {args:List AV} {c as:Array Value} (h:VRs φ args (as.toList++c.toList)):DR φ (.call f args) {target:= .fn (.func f) c,args:=as}
 |mark {b:Nat} {l:Loc} (h:φ b=some l):DR φ (.mark b) {target:= .collected l.cb,args:= #[]}
inductive DRs (φ: Phi):List ADef→List Deferred→Prop where
 |nil:DRs φ [] []
 |cons {d:ADef} {d':Deferred} {l:List ADef} {l':List Deferred} (h:DR φ d d') (hs:DRs φ l l'):DRs φ (d::l) (d'::l')
theorem DR.mono {φ φ':Phi}(hp:Phi.le φ φ'){d:ADef}{d':Deferred}(h:DR φ d d'):DR φ' d d':=by
 cases h with
 |call h=>exact .call (h.mono hp)
 |mark h=>exact .mark (hp _ _ h)
theorem DRs.mono {φ φ':Phi}(hp:Phi.le φ φ'){l:List ADef}{l':List Deferred}(h:DRs φ l l'):DRs φ' l l':=by
 induction h with
 |nil=>exact .nil
 |cons h _ ih=>exact .cons (h.mono hp) ih
theorem DRs.append {φ: Phi}{a b:List ADef}{a' b':List Deferred}(h:DRs φ a a')(k:DRs φ b b'):DRs φ (a++b) (a'++b'):=by
 induction h with
 |nil=>exact k
 |cons h _ ih=>exact .cons h ih
def lsR:LS→LoopState
 | .ready=> .ready
 | .busy=> .busy
 | .done=> .done
 | .exhausted=> .exhausted
structure LR (E:Env)(φ: Phi)(l:ALoop)(l':Loop):Prop where
 state:l'.state=lsR l.state
 pending:l.pending=l'.pending.map (A3 E l.nt)
 fn:l'.fn=l.fn
 tmps:TR φ l.nt l.tmps l'.tmps
 params:l.params=l'.params.toList
 plt: ∀p∈l.params,p<l.nt
 assign:l.assign=A3 E l.nt l'.assign
 body:l.body=A3 E l.nt l'.body
 defers: ∃d,φ l.defers=some d∧d.cb=l'.defers
def roB:Blk→Bool
 | .cells ro _ _=>ro
 |_=>false
inductive OptR (φ: Phi):Option Nat→Option Nat→Prop where
 |none:OptR φ none none
 |some {r:Nat} {l:Loc} (h:φ r=some l):OptR φ (some r) (some l.cb)
inductive BR (E:Env)(φ: Phi)(l:Loc):Blk→Obj→Prop where
 |cells {ro:Bool} {n:Nat} {c:T AV} {cs:Array Value} {e:TypeId} {fr:Nat×Nat} (hf:ro=false→fr=(0,0)) (hs:cs.size=l.csz) (hn:l.base+n≤cs.size)
   (h: ∀i v,i<n→T.get c i=some v→ ∃v',cs[l.base+i]?=some v'∧VR φ v v'):BR E φ l (.cells ro n c) (.cells cs e fr)
 |map {es:List AEnt} {es':Array MapEntry} {k:Nat} (h:ERs φ es es'.toList):BR E φ l (.map es k) (.map es' k)
 |miter {m m':Option Nat} {since st:Nat} {seen:List Nat} (hb:l.base=0) (h:OptR φ m m'):BR E φ l (.miter m since seen st) (.mapIter m' since seen.toArray st)
 |loop {x:ALoop} {x':Loop} (h:LR E φ x x'):BR E φ l (.loop x) (.loop x')
 |dfrN:BR E φ l (.dfr none) (.deferred none)
 |dfrS {ds:List ADef} {ds':List Deferred} (h:DRs φ ds ds'):BR E φ l (.dfr (some ds)) (.deferred (some ds'))
theorem OptR.mono {φ φ':Phi}(hp:Phi.le φ φ'){a b:Option Nat}(h:OptR φ a b):OptR φ' a b:=by
 cases h with
 |none=>exact .none
 |some h=>exact .some (hp _ _ h)
theorem LR.mono {E:Env}{φ φ':Phi}(hp:Phi.le φ φ'){x:ALoop}{x':Loop}(h:LR E φ x x'):LR E φ' x x':=
 ⟨h.state,h.pending,h.fn,h.tmps.mono hp,h.params,h.plt,h.assign,h.body,let⟨d,a,b⟩:=h.defers;⟨d,hp _ _ a,b⟩⟩
theorem BR.mono {E:Env}{φ φ':Phi}(hp:Phi.le φ φ'){l:Loc}{x:Blk}{o:Obj}(h:BR E φ l x o):BR E φ' l x o:=by
 cases h with
 |cells hf hs hn h=>exact .cells hf hs hn fun i v hi hv=>let⟨v',a,b⟩:=h i v hi hv;⟨v',a,b.mono hp⟩
 |map h=>exact .map (h.mono hp)
 |miter hb h=>exact .miter hb (h.mono hp)
 |loop h=>exact .loop (h.mono hp)
 |dfrN=>exact .dfrN
 |dfrS h=>exact .dfrS (h.mono hp)
structure HR (E:Env)(w0:Array Obj)(φ: Phi)(h:H)(m:Array Obj):Prop where
 bound: ∀b l,φ b=some l→b<h.n
 cbound: ∀b l,φ b=some l→l.cb<m.size
 blk: ∀b l x,φ b=some l→H.get h b=some x→ ∃o,m[l.cb]?=some o∧BR E φ l x o
 inj: ∀b b' l l' x x',φ b=some l→φ b'=some l'→H.get h b=some x→H.get h b'=some x'→roB x=false→l.cb=l'.cb→b=b'
 own: ∀b l x,φ b=some l→H.get h b=some x→roB x=false→w0.size≤l.cb
 old: ∀cb,cb<w0.size→m[cb]?=w0[cb]?
 size:w0.size≤m.size
def Phi.upd (φ: Phi)(b:Nat)(l:Loc):Phi:=fun x=>if x=b then some l else φ x
theorem Phi.upd_same (φ: Phi)(b:Nat)(l:Loc):φ.upd b l b=some l:=if_pos rfl
theorem Phi.upd_ne (φ: Phi){b x:Nat}(l:Loc)(h:x≠b):φ.upd b l x=φ x:=if_neg h
theorem Phi.le_upd {φ: Phi}{b:Nat}(l:Loc)(h:φ b=none):Phi.le φ (φ.upd b l):=by
 intro x k hx
 by_cases e:x=b
 ·subst e;rw [h]at hx;cases hx
 ·rw [Phi.upd_ne _ _ e];exact hx
structure Phi.le1 (n:Nat)(φ φ':Phi):Prop where
 le:Phi.le φ φ'
 ne: ∀b,b≠n→φ' b=φ b
theorem Phi.le1.refl (n:Nat)(φ: Phi):Phi.le1 n φ φ:= ⟨.refl _,fun _ _=>rfl⟩
theorem H.get_set (h:H)(b b':Nat)(x:Blk):H.get (H.set h b x) b'=if b'=b then some x else H.get h b':=T.get_set _ _ _ _
theorem H.get_del (h:H)(b b':Nat):H.get (H.del h b) b'=if b'=b then none else H.get h b':=T.get_set _ _ _ _
theorem H.get_new (h:H)(b':Nat)(x:Blk):H.get (H.new h x) b'=if b'=h.n then some x else H.get h b':=T.get_set _ _ _ _
theorem H.n_del (h:H)(b:Nat):(H.del h b).n=h.n:=rfl
section
variable {E:Env}{w0:Array Obj}{φ: Phi}{h:H}{m:Array Obj}
theorem HR.fresh (hr:HR E w0 φ h m):φ h.n=none:=by
 cases e:φ h.n with
 |none=>rfl
 |some l=>exact absurd (hr.bound _ _ e) (Nat.lt_irrefl _)
theorem HR.alloc (hr:HR E w0 φ h m){h':H}{b:Nat}{x:Blk}{o:Obj}{l:Loc}(hl:l.cb=m.size)(hφ: φ b=none)(hn:h.n≤h'.n)(hb:b<h'.n)
  (hx:H.get h' b=some x) (hs: ∀c k,φ c=some k→H.get h' c=H.get h c) (hR:BR E (φ.upd b l) l x o) (hro:roB x=false):
  HR E w0 (φ.upd b l) h' (m.push o):=by
 have hle:=Phi.le_upd l hφ
 refine⟨?_,?_,?_,?_,?_,?_,?_⟩
 ·intro c k hc
  by_cases e:c=b
  ·subst e;exact hb
  ·rw [Phi.upd_ne _ _ e]at hc;exact Nat.lt_of_lt_of_le (hr.bound _ _ hc) hn
 ·intro c k hc
  by_cases e:c=b
  ·subst e;rw [Phi.upd_same]at hc;cases hc;simp [hl]
  ·rw [Phi.upd_ne _ _ e]at hc;have:=hr.cbound _ _ hc;simp;omega
 ·intro c k y hc hy
  by_cases e:c=b
  ·subst e;rw [Phi.upd_same]at hc;cases hc
   rw [hx]at hy;cases hy
   exact⟨o,by rw [hl];simp,hR⟩
  ·rw [Phi.upd_ne _ _ e]at hc
   rw [hs _ _ hc]at hy
   obtain⟨p,h1,h2⟩:=hr.blk _ _ _ hc hy
   have:=hr.cbound _ _ hc
   exact⟨p,by rw [Array.getElem?_push_lt this,←h1,Array.getElem?_eq_getElem this],h2.mono hle⟩
 ·intro c c' k k' y y' hc hc' hy hy' hr1 he
  by_cases e:c=b
  ·by_cases e':c'=b
   ·rw [e,e']
   ·subst e
    rw [Phi.upd_same]at hc;cases hc
    rw [Phi.upd_ne _ _ e']at hc'
    have:=hr.cbound _ _ hc';omega
  ·by_cases e':c'=b
   ·subst e'
    rw [Phi.upd_same]at hc';cases hc'
    rw [Phi.upd_ne _ _ e]at hc
    have:=hr.cbound _ _ hc;omega
   ·rw [Phi.upd_ne _ _ e]at hc
    rw [Phi.upd_ne _ _ e']at hc'
    rw [hs _ _ hc]at hy
    rw [hs _ _ hc']at hy'
    exact hr.inj _ _ _ _ _ _ hc hc' hy hy' hr1 he
 ·intro c k y hc hy hr1
  by_cases e:c=b
  ·subst e;rw [Phi.upd_same]at hc;cases hc;have:=hr.size;omega
  ·rw [Phi.upd_ne _ _ e]at hc
   rw [hs _ _ hc]at hy
   exact hr.own _ _ _ hc hy hr1
 ·intro c hc
  rw [←hr.old c hc]
  have:c<m.size:=Nat.lt_of_lt_of_le hc hr.size
  rw [Array.getElem?_push_lt this,Array.getElem?_eq_getElem this]
 ·have:=hr.size;simp;omega
theorem HR.new (hr:HR E w0 φ h m){x:Blk}{o:Obj}{l:Loc}(hl:l.cb=m.size)(hR:BR E (φ.upd h.n l) l x o)(hro:roB x=false):
  HR E w0 (φ.upd h.n l) (H.new h x) (m.push o):=
 hr.alloc hl hr.fresh (Nat.le_succ _) (Nat.lt_succ_self _) (by rw [H.get_new,if_pos rfl])
  (fun c k hc=>by rw [H.get_new,if_neg (Nat.ne_of_lt (hr.bound _ _ hc))]) hR hro
theorem HR.over (hr:HR E w0 φ h m){b:Nat}{x x':Blk}{o':Obj}{l:Loc}(hφ: φ b=some l)(hx:H.get h b=some x)(hro:roB x=false)
  (hR:BR E φ l x' o') (hro':roB x'=false):HR E w0 φ (H.set h b x') (m.setIfInBounds l.cb o'):=by
 refine⟨hr.bound,?_,?_,?_,?_,?_,?_⟩
 ·intro c k hc;simpa using hr.cbound _ _ hc
 ·intro c k y hc hy
  rw [H.get_set]at hy
  by_cases e:c=b
  ·subst e
   rw [hφ]at hc;cases hc
   rw [if_pos rfl]at hy;cases hy
   exact⟨o',by simp [Array.getElem?_setIfInBounds,hr.cbound _ _ hφ],hR⟩
  ·rw [if_neg e]at hy
   obtain⟨p,h1,h2⟩:=hr.blk _ _ _ hc hy
   have hne:l.cb≠k.cb:=fun e'=>e (hr.inj _ _ _ _ _ _ hφ hc hx hy hro e').symm
   exact⟨p,by rw [Array.getElem?_setIfInBounds,if_neg hne];exact h1,h2⟩
 ·intro c c' k k' y y' hc hc' hy hy' hr1 he
  have ex: ∀{d:Nat} {z:Blk},H.get (H.set h b x') d=some z→ ∃z',H.get h d=some z'∧roB z'=roB z:=by
   intro d z hz
   rw [H.get_set]at hz
   by_cases e:d=b
   ·subst e;rw [if_pos rfl]at hz;cases hz;exact⟨x,hx,by rw [hro,hro']⟩
   ·rw [if_neg e]at hz;exact⟨z,hz,rfl⟩
  obtain⟨z,h1,h2⟩:=ex hy
  obtain⟨z',h3,_⟩:=ex hy'
  exact hr.inj _ _ _ _ _ _ hc hc' h1 h3 (by rw [h2,hr1]) he
 ·intro c k y hc hy hr1
  rw [H.get_set]at hy
  by_cases e:c=b
  ·subst e;exact hr.own _ _ _ hc hx hro
  ·rw [if_neg e]at hy;exact hr.own _ _ _ hc hy hr1
 ·intro c hc
  rw [←hr.old c hc,Array.getElem?_setIfInBounds,if_neg]
  have:=hr.own _ _ _ hφ hx hro;omega
 ·simpa using hr.size
theorem HR.del (hr:HR E w0 φ h m)(b:Nat):HR E w0 φ (H.del h b) m:=by
 have ex: ∀{d:Nat} {z:Blk},H.get (H.del h b) d=some z→H.get h d=some z:=by
  intro d z hz
  rw [H.get_del]at hz
  by_cases e:d=b
  ·rw [if_pos e]at hz;cases hz
  ·rwa [if_neg e]at hz
 exact⟨hr.bound,hr.cbound,fun c k y hc hy=>hr.blk _ _ _ hc (ex hy),fun c c' k k' y y' hc hc' hy hy'=>hr.inj _ _ _ _ _ _ hc hc' (ex hy) (ex hy'),
  fun c k y hc hy=>hr.own _ _ _ hc (ex hy),hr.old,hr.size⟩
theorem I3: ∀(l:List AV) (i:Nat) (t:T AV) (j:Nat),T.get (ofL i t l) j=if i≤j∧j<i+l.length then l[j - i]? else T.get t j
 | [],i,t,j=>by simp [ofL];omega
 |a::l,i,t,j=>by
  rw [ofL,I3 l (i+1),T.get_set]
  by_cases h1:i+1≤j∧j<i+1+l.length
  ·rw [if_pos h1,if_pos (by simp;omega)]
   obtain⟨k,rfl⟩: ∃k,j=i+1+k:=⟨j - (i+1),by omega⟩
   rw [show i+1+k - (i+1)=k by omega,show i+1+k - i=k+1 by omega];simp
  ·rw [if_neg h1]
   by_cases h2:j=i
   ·subst h2;rw [if_pos rfl,if_pos (by simp)];simp
   ·rw [if_neg h2,if_neg (by simp;omega)]
theorem Jr: ∀(l:List AV) (i:Nat) (t:T AV) (j:Nat),T.get (Jp i t l) j=if i≤j∧j<i+l.length then l[j - i]? else T.get t j
 | [],i,t,j=>by simp [Jp];omega
 |a::l,i,t,j=>by
  rw [Jp,Jr l (i+1),T.get_set]
  by_cases h1:i+1≤j∧j<i+1+l.length
  ·rw [if_pos h1,if_pos (by simp;omega)]
   obtain⟨k,rfl⟩: ∃k,j=i+1+k:=⟨j - (i+1),by omega⟩
   rw [show i+1+k - (i+1)=k by omega,show i+1+k - i=k+1 by omega];simp
  ·rw [if_neg h1]
   by_cases h2:j=i
   ·subst h2;rw [if_pos rfl,if_pos (by simp)];simp
   ·rw [if_neg h2,if_neg (by simp;omega)]
theorem Ld {c:T AV}: ∀{n o:Nat} {l:List AV},loadN c n o=some l→l.length=n∧ ∀j,j<n→T.get c (o+j)=l[j]?
 |0,o,l,h=>by
  simp only [loadN,Option.some.injEq]at h;subst h;exact⟨rfl,fun j hj=>absurd hj (by omega)⟩
 |n+1,o,l,h=>by
  simp only [loadN]at h
  cases h1:T.get c o with
  |none=>rw [h1]at h;simp at h
  |some v=>
   rw [h1]at h;simp only at h
   cases h2:loadN c n (o+1)with
   |none=>rw [show Nat.succ o=o+1 from rfl,h2]at h;simp at h
   |some r=>
    rw [show Nat.succ o=o+1 from rfl,h2]at h
    simp only [Option.some.injEq]at h;subst h
    obtain⟨hl,hg⟩:=Ld h2
    refine⟨by simp [hl],fun j hj=>?_⟩
    cases j with
    |zero=>simpa using h1
    |succ j=>have:=hg j (by omega);rw [show o+(j+1)=o+1+j by omega];simpa using this
theorem BR.cells_new {l:Loc}{xs:List AV}{cs:Array Value}{e:TypeId}(hl:l.base=0)(hc:l.csz=cs.size)(h:VRs φ xs cs.toList):
  BR E φ l (.cells false xs.length (ofL 0 .leaf xs)) (.cells cs e (0,0)):=by
 have hlen:=h.length
 simp only [Array.length_toList]at hlen
 refine .cells (fun _=>rfl) hc.symm (by omega) fun i v hi hv=>?_
 rw [I3,if_pos (by omega),Nat.sub_zero]at hv
 obtain⟨v',h1,h2⟩:=h.get hv
 exact⟨v',by rw [hl,Nat.zero_add];simpa using h1,h2⟩
theorem HR.newCells (hr:HR E w0 φ h m){xs:List AV}{cs:Array Value}(e:TypeId)(hx:VRs φ xs cs.toList):
  Phi.le φ (φ.upd h.n ⟨m.size,0,cs.size⟩)∧HR E w0 (φ.upd h.n ⟨m.size,0,cs.size⟩) (Ev.newCells h xs) (m.push (.cells cs e (0,0))):=by
 have hle:=Phi.le_upd ⟨m.size,0,cs.size⟩ hr.fresh
 exact⟨hle,hr.new rfl (BR.cells_new rfl rfl (hx.mono hle)) rfl⟩
end
structure EnvOk (P:Program)(E:Env):Prop where
 inf: ∀t i,inf E t=some i→P.info? t=some i
 stood: ∀t,t∈E.S→P.stoodInHeld t=false∧P.eqGuardType P.depth t=false
 mixed:P.follows .mixedOrders=true
section env
variable {P:Program}{E:Env}(hE:EnvOk P E)
include hE
theorem Ha {t:TypeId}{d:TypeDesc}(h:und E t=some d):P.underlying t=some d:=by
 unfold und at h
 cases h1:Ev.inf E t with
 |none=>rw [h1]at h;simp at h
 |some i=>
  rw [h1]at h
  have hi:=hE.inf _ _ h1
  simp only at h
  unfold Program.underlying
  rw [hi]
  split at h
  ·rename_i n u hd
   cases h2:Ev.inf E u with
   |none=>rw [h2]at h;simp at h
   |some j=>
    rw [h2]at h
    have hj:=hE.inf _ _ h2
    obtain⟨desc,_⟩:=i
    simp only at hd;subst hd
    simp only [hj,Option.map_some]
    exact h
  ·rename_i hd
   obtain⟨desc,_⟩:=i
   simp only at hd h ⊢
   split
   ·rename_i heq
    simp only [Option.some.injEq,TypeInfo.mk.injEq]at heq
    exact absurd heq.1 (hd _ _)
   ·rename_i heq
    simp only [Option.some.injEq]at heq
    subst heq;exact h
   ·rename_i heq;simp at heq
theorem Ac {t:TypeId}{d:TypeDesc}(h:und E t=some d)(w:World):(underlying t).run P w= .ok d w:=by
 simp only [underlying,Sem.run_bind,run_program,Result.andThen_ok,Ha hE h,Sem.run_pure]
theorem B7 {t:TypeId}{i:TypeInfo}(h:Ev.inf E t=some i)(w:World):(typeInfo t).run P w= .ok i w:=by
 simp only [typeInfo,Sem.run_bind,run_program,Result.andThen_ok,hE.inf _ _ h,Sem.run_pure]
theorem A7 {t:TypeId}{i:TypeInfo}(h:Ev.inf E t=some i)(w:World):(sizeOf t).run P w= .ok i.size w:=by
 simp only [sizeOf,Sem.run_bind,B7 hE h,Result.andThen_ok,Sem.run_pure]
theorem dh {t:TypeId}{n:Nat}(h:sz E t=some n)(w:World):(sizeOf t).run P w= .ok n w:=by
 unfold sz at h
 cases h1:Ev.inf E t with
 |none=>rw [h1]at h;simp at h
 |some i=>rw [h1]at h;simp at h;subst h;exact A7 hE h1 w
theorem Bm {t:TypeId}{n:Nat}(h:Bu E t=some n)(w:World):(sizeOf t).run P w= .ok n w∧n≠0:=by
 unfold Bu at h
 cases h1:Ev.inf E t with
 |none=>rw [h1]at h;simp at h
 |some i=>
  rw [h1]at h;simp only at h
  split at h
  ·simp at h
  ·rename_i hb;simp at h;subst h;exact⟨A7 hE h1 w,Dm hb⟩
theorem Dt {t:TypeId}{b:Bool}(h:H6 E t=some b)(w:World):(isAgg t).run P w= .ok b w:=by
 unfold H6 at h
 cases h1:und E t with
 |none=>rw [h1]at h;simp at h
 |some d=>
  rw [h1]at h
  simp only [isAgg,Sem.run_bind,Ac hE h1,Result.andThen_ok]
  cases d <;> simp at h <;> subst h <;> rfl
theorem N2 {t:TypeId}{z:AV}(h:Mb E t=some z)(w:World): ∃v,(zeroValue t).run P w= .ok v w∧ ∀φ,VR φ z v:=by
 unfold Mb at h
 cases h1:Ev.inf E t with
 |none=>rw [h1]at h;simp at h
 |some i=>
  rw [h1]at h;simp only at h
  cases h2:i.zero with
  |none=>rw [h2]at h;simp at h
  |some v=>
   rw [h2]at h;simp at h;subst h
   exact⟨v,by simp only [zeroValue,Sem.run_bind,B7 hE h1,Result.andThen_ok,h2,Sem.run_pure],fun φ=> N1 φ 10 v⟩
omit hE in
theorem Yo (φ: Phi)(l:List Value):VRs φ (l.map (Ru 10)) l:=by
 induction l with
 |nil=>exact .nil
 |cons a l ih=>exact .cons (N1 φ 10 a) ih
theorem Df {t:TypeId}{z:List AV}(h:Em E t=some z)(w:World):
  ∃v i,Ev.inf E t=some i∧(zeroValue t).run P w= .ok v w∧v.cells.size=i.size∧z.length=i.size∧ ∀φ,VRs φ z v.cells.toList:=by
 unfold Em at h
 cases h1:Ev.inf E t with
 |none=>rw [h1]at h;simp at h
 |some i=>
  rw [h1]at h;simp only at h
  cases h2:i.zero with
  |none=>rw [h2]at h;simp at h
  |some v=>
   rw [h2]at h;simp only at h
   split at h
   ·rename_i hb
    simp at h;subst h
    have:=Aj hb
    refine⟨v,i,rfl,by simp only [zeroValue,Sem.run_bind,B7 hE h1,Result.andThen_ok,h2,Sem.run_pure],this,by simp [this],fun φ=> ?_⟩
    have hl:=Yo φ v.cells.toList
    simpa using hl
   ·simp at h
end env
theorem Cu (cb o n:Nat):(⟨cb,o,none⟩:Addr).add n=⟨cb,o+n,none⟩:=by
 unfold Addr.add;split
 ·rename_i h;subst h;rfl
 ·rfl
theorem I4 {w:World}{cb:Nat}{cs:Array Value}{e:TypeId}{f:Nat×Nat}(h:w.heap[cb]?=some (.cells cs e f))(o:Nat):
  w.cell? ⟨cb,o,none⟩=cs[o]?:=by simp [World.cell?,h]
theorem Yp {w:World}{cb:Nat}{cs:Array Value}{e:TypeId}(h:w.heap[cb]?=some (.cells cs e (0,0)))(o:Nat):
  w.frozen? ⟨cb,o,none⟩=false:=by simp [World.frozen?,h]
theorem D8 (P:Program){w:World}{cb o:Nat}{l:List Value}(h: ∀(j:Nat) (v:Value),l[j]?=some v→w.cell? ⟨cb,o+j,none⟩=some v):
  (loadCells ⟨cb,o,none⟩ l.length).run P w= .ok l.toArray w:=
 run_loadCells_list w _ l fun j v hj=>by rw [Cu];exact h j v hj
def ovl (cs:Array Value)(o:Nat):List Value→Array Value
 | []=>cs
 |v::r=>ovl (cs.setIfInBounds o v) (o+1) r
theorem Gv: ∀(l:List Value) (cs:Array Value) (o:Nat),(ovl cs o l).size=cs.size
 | [],cs,o=>rfl
 |v::r,cs,o=>by rw [ovl,Gv r];simp
theorem Ng: ∀(l:List Value) (cs:Array Value) (o j:Nat),o+l.length≤cs.size→(ovl cs o l)[j]?=if o≤j∧j<o+l.length then l[j - o]? else cs[j]?
 | [],cs,o,j,_=>by simp [ovl];omega
 |v::r,cs,o,j,h=>by
  simp only [List.length_cons]at h
  rw [ovl,Ng r _ (o+1) j (by simp;omega)]
  by_cases h1:o+1≤j∧j<o+1+r.length
  ·rw [if_pos h1,if_pos (by simp;omega)]
   obtain⟨k,rfl⟩: ∃k,j=o+1+k:=⟨j - (o+1),by omega⟩
   rw [show o+1+k - (o+1)=k by omega,show o+1+k - o=k+1 by omega];simp
  ·rw [if_neg h1]
   by_cases h2:j=o
   ·subst h2;rw [if_pos (by simp)];rw [Array.getElem?_setIfInBounds,if_pos rfl,if_pos (by omega)];simp
   ·rw [if_neg (by simp;omega),Array.getElem?_setIfInBounds,if_neg (by omega)]
theorem Ry {w:World}{cb o:Nat}{cs:Array Value}{e:TypeId}{f:Nat×Nat}(h:w.heap[cb]?=some (.cells cs e f))(v:Value):
  (w.setCell ⟨cb,o,none⟩ v).heap=w.heap.setIfInBounds cb (.cells (cs.setIfInBounds o v) e f):=by
 have hlt:cb<w.heap.size:=by
  rcases Nat.lt_or_ge cb w.heap.size with h'|h'
  ·exact h'
  ·rw [Array.getElem?_eq_none h']at h;cases h
 simp only [World.setCell]
 apply Array.ext_getElem?
 intro i
 rw [Array.getElem?_modify,Array.getElem?_setIfInBounds]
 by_cases hi:cb=i
 ·subst hi;rw [if_pos rfl,if_pos rfl,if_pos hlt,h];rfl
 ·simp [hi]
theorem Du (P:Program): ∀(l:List Value) (w:World) (cb o i:Nat) (cs:Array Value) (e:TypeId),w.heap[cb]?=some (.cells cs e (0,0))→
  o+i+l.length≤cs.size→(∀v∈l,v.oneCell'=true)→
  ∃w',(storeCells ⟨cb,o,none⟩ l i).run P w= .ok () w'∧w'.heap=w.heap.setIfInBounds cb (.cells (ovl cs (o+i) l) e (0,0))∧Like w w'
 | [],w,cb,o,i,cs,e,h,hl,hp=>by
  refine⟨w,rfl,?_,.refl _⟩
  apply Array.ext_getElem?
  intro j
  rw [Array.getElem?_setIfInBounds]
  by_cases hj:cb=j
  ·subst hj
   rw [if_pos rfl,h]
   have hlt:cb<w.heap.size:=by
    rcases Nat.lt_or_ge cb w.heap.size with h'|h'
    ·exact h'
    ·rw [Array.getElem?_eq_none h']at h;cases h
   rw [if_pos hlt];rfl
  ·rw [if_neg hj]
 |v::r,w,cb,o,i,cs,e,h,hl,hp=>by
  simp only [List.length_cons]at hl
  have hlt:cb<w.heap.size:=by
   rcases Nat.lt_or_ge cb w.heap.size with h'|h'
   ·exact h'
   ·rw [Array.getElem?_eq_none h']at h;cases h
  have hc:w.cell? ⟨cb,o+i,none⟩=some cs[o+i]:=by rw [I4 h,Array.getElem?_eq_getElem (by omega)]
  have hw:=Ry h (o:=o+i) v
  obtain⟨w',h1,h2,h3⟩:=Du P r (w.setCell ⟨cb,o+i,none⟩ v) cb o (i+1) (cs.setIfInBounds (o+i) v) e
   (by rw [hw,Array.getElem?_setIfInBounds,if_pos rfl,if_pos hlt]) (by simp;omega) (fun u hu=>hp u (List.mem_cons_of_mem _ hu))
  refine⟨w',?_,?_,Like.trans ?_ h3⟩
  ·simp only [storeCells,Sem.run_bind,Cu,run_store P w _ v .plain (hp v (List.mem_cons_self ..)),hc,Yp h,Bool.false_eq_true,if_false,Result.andThen_ok]
   exact h1
  ·rw [h2,hw]
   apply Array.ext_getElem?
   intro j
   simp only [Array.getElem?_setIfInBounds,Array.size_setIfInBounds]
   by_cases hj:cb=j
   ·subst hj;rw [if_pos rfl,if_pos hlt,if_pos rfl,if_pos hlt];rfl
   ·simp [hj]
  ·unfold World.setCell;split <;> exact⟨rfl,rfl,rfl⟩
theorem Yq {φ: Phi}{v:AV}{v':Value}(h:VR φ v v')(hp:Dr v=true):v'.oneCell'=true:=by
 cases h with
 |agg _=>simp [Dr]at hp
 |tup _=>simp [Dr]at hp
 |unk _=>simp [Dr]at hp
 |opq _=>cases v' <;> first|rfl|simp [Dr]at hp
 |_=>rfl
theorem Hb {φ: Phi}: ∀{l:List AV} {l':List Value},VRs φ l l'→Ar l=true→ ∀v∈l',v.oneCell'=true
 | [],_,h,_=>by cases h;simp
 |a::l,_,h,hp=>by
  cases h with
  |cons hv hs=>
   unfold Ar at hp
   split at hp
   ·rename_i h1
    intro u hu
    rcases List.mem_cons.1 hu with e|hu
    ·subst e;exact Yq hv h1
    ·exact Hb hs hp u hu
   ·simp at hp
section
variable {E:Env}{w0:Array Obj}{φ: Phi}{h:H}{w:World}
theorem HR.cellsOf_blk (hr:HR E w0 φ h w.heap){b n:Nat}{ro:Bool}{c:T AV}{l:Loc}(hφ: φ b=some l)(hb:H.get h b=some (.cells ro n c)):
  ∃cs e fr,w.heap[l.cb]?=some (.cells cs e fr)∧cs.size=l.csz∧l.base+n≤cs.size∧
   ∀i v,i<n→T.get c i=some v→ ∃v',cs[l.base+i]?=some v'∧VR φ v v':=by
 obtain⟨o,h1,h2⟩:=hr.blk _ _ _ hφ hb
 cases h2 with
 |cells hf hs hn h=>exact⟨_,_,_,h1,hs,hn,h⟩
theorem HR.cellsOf_blkW (hr:HR E w0 φ h w.heap){b n:Nat}{c:T AV}{l:Loc}(hφ: φ b=some l)(hb:H.get h b=some (.cells false n c)):
  ∃cs e,w.heap[l.cb]?=some (.cells cs e (0,0))∧cs.size=l.csz∧l.base+n≤cs.size∧
   ∀i v,i<n→T.get c i=some v→ ∃v',cs[l.base+i]?=some v'∧VR φ v v':=by
 obtain⟨o,h1,h2⟩:=hr.blk _ _ _ hφ hb
 cases h2 with
 |cells hf hs hn h=>
  cases hf rfl
  exact⟨_,_,h1,hs,hn,h⟩
theorem HR.cellsAt (hr:HR E w0 φ h w.heap){b o n:Nat}{xs:List AV}{l:Loc}(hφ: φ b=some l)(hc:Ev.cellsAt h b o n=some xs)(off:Nat)(ho:0<n→off=l.base+o):
  ∃vs:List Value,vs.length=n∧VRs φ xs vs∧ ∀(j:Nat) (v:Value),vs[j]?=some v→w.cell? ⟨l.cb,off+j,none⟩=some v:=by
 unfold Ev.cellsAt at hc
 cases n with
 |zero=>simp at hc;subst hc;exact⟨[],rfl,.nil,by simp⟩
 |succ n=>
  simp only at hc
  cases hb:H.get h b with
  |none=>rw [hb]at hc;simp at hc
  |some x=>
   rw [hb]at hc
   cases x with
   |cells ro k c=>
    simp only at hc
    split at hc
    ·rename_i hk
     have hk:=Ah hk
     have hk:o+(n+1)≤k:=hk
     obtain⟨hl,hg⟩:=Ld hc
     obtain⟨cs,e,_,h1,_,h3,h4⟩:=hr.cellsOf_blk hφ hb
     have ho':=ho (by omega)
     refine⟨(List.range (n+1)).map fun j=>cs[l.base+(o+j)]?.getD undef,by simp,?_,?_⟩
     ·refine VRs.of_get (by simp [hl]) fun i v hi=>?_
      have hlt:i<n+1:=by rw [←hl];exact(List.getElem?_eq_some_iff.1 hi).1
      obtain⟨v',h5,h6⟩:=h4 (o+i) v (by omega) (by rw [hg i hlt];exact hi)
      exact⟨v',by simp [hlt,h5],h6⟩
     ·intro j v hj
      have hlt:j<n+1:=by have:=(List.getElem?_eq_some_iff.1 hj).1;simpa using this
      simp only [List.getElem?_map,List.getElem?_range hlt,Option.map_some,Option.some.injEq]at hj
      have hin:l.base+(o+j)<cs.size:=by omega
      rw [Array.getElem?_eq_getElem hin]at hj
      rw [ho',I4 h1,Nat.add_assoc,Array.getElem?_eq_getElem hin]
      simpa using hj
    ·simp at hc
   |_=>simp at hc
theorem HR.putBlk (P:Program)(hr:HR E w0 φ h w.heap){b o:Nat}{xs:List AV}{h':H}{l:Loc}(hφ: φ b=some l)(hp:Ev.putBlk h b o xs=some h')
  {vs:List Value} (hv:VRs φ xs vs) (off:Nat) (ho:0<xs.length→off=l.base+o):
  ∃w',(storeCells ⟨l.cb,off,none⟩ vs).run P w= .ok () w'∧HR E w0 φ h' w'.heap∧Like w w':=by
 unfold Ev.putBlk at hp
 cases xs with
 |nil=>simp at hp;subst hp;cases hv;exact⟨w,rfl,hr,.refl _⟩
 |cons x xs=>
  simp only at hp
  cases hb:H.get h b with
  |none=>rw [hb]at hp;simp at hp
  |some y=>
   rw [hb]at hp
   cases y with
   |cells ro k c=>
    cases ro with
    |true=>simp at hp
    |false=>
     simp only at hp
     split at hp
     ·rename_i hk hpl
      have hk:o+(x::xs).length≤k:=Ah hk
      simp only [Option.some.injEq]at hp;subst hp
      obtain⟨cs,e,h1,h2,h3,h4⟩:=hr.cellsOf_blkW hφ hb
      have hlen:=hv.length
      have ho':=ho (by simp)
      obtain⟨w',r1,r2,r3⟩:=Du P vs w l.cb off 0 cs e h1 (by omega) (Hb hv hpl)
      refine⟨w',r1,?_,r3⟩
      rw [r2]
      refine hr.over hφ hb rfl (.cells (fun _=>rfl) (by rw [Gv,h2]) (by rw [Gv];exact h3) fun i v hi hg=>?_) rfl
      rw [Nat.add_zero,Ng _ _ _ _ (by omega)]
      rw [Jr]at hg
      by_cases hin:o≤i∧i<o+(x::xs).length
      ·rw [if_pos hin]at hg
       rw [if_pos (by omega)]
       obtain⟨v',h5,h6⟩:=hv.get hg
       exact⟨v',by rw [←h5];congr 1;omega,h6⟩
      ·rw [if_neg hin]at hg
       rw [if_neg (by omega)]
       exact h4 i v hi hg
     ·simp at hp
   |_=>simp at hp
end
section inv
variable {φ: Phi}{v':Value}
theorem VR.bool_inv {b:Bool}(h:VR φ (.bool b) v'):v'= .bool b:=by cases h;rfl
theorem VR.int_inv {k:IntKind}{n:Int}(h:VR φ (.int k n) v'):v'= .int k n:=by cases h;rfl
theorem VR.str_inv {s:List Nat}(h:VR φ (.str s) v'): ∃b,v'= .string b∧b.data.toList.map (·.toNat)=s:=by cases h with|str h=>exact⟨_,rfl,h⟩
theorem VR.nilp_inv (h:VR φ .nilp v'):v'= .pointer none:=by cases h;rfl
theorem VR.ptr_inv {b o:Nat}(h:VR φ (.ptr b o) v'): ∃l,φ b=some l∧v'= .pointer (some ⟨l.cb,l.base+o,none⟩):=by cases h with|ptr h=>exact⟨_,h,rfl⟩
theorem VR.opq_inv {u:Value}(h:VR φ (.opq u) v'):v'=u:=by cases h;rfl
theorem VR.nils_inv (h:VR φ .nils v'):v'= .slice none 0 0:=by cases h;rfl
theorem VR.slc_inv {b o n c:Nat}(h:VR φ (.slc b o n c) v'): ∃l off c',φ b=some l∧v'= .slice (some ⟨l.cb,off,none⟩) n c'∧n≤c'∧
  ((c<Aa∧c'=c∧(0<c→off=l.base+o))∨(∃k,c=Aa+k∧off+c'*k≤l.csz∧(0<n→off=l.base+o))):=by
 cases h with
 |slcX h hc hl ho=>exact⟨_,_,_,h,rfl,hl,.inl ⟨hc,rfl,ho⟩⟩
 |slcU h hl hr ho=>exact⟨_,_,_,h,rfl,hl,.inr ⟨_,rfl,hr,ho⟩⟩
theorem VR.nilm_inv (h:VR φ .nilm v'):v'= .map none:=by cases h;rfl
theorem VR.map_inv {r:Nat}(h:VR φ (.map r) v'): ∃l,φ r=some l∧v'= .map (some l.cb):=by cases h with|map h=>exact⟨_,h,rfl⟩
theorem VR.fnF_inv {f:Nat}{a c:List AV}(h:VR φ (.fn (.func f) a c) v'): ∃a' c':Array Value,v'= .func (.func f) a' c'∧VRs φ a a'.toList∧VRs φ c c'.toList:=by
 cases h with|fnF ha hc=>exact⟨_,_,rfl,ha,hc⟩
theorem VR.nilf_inv (h:VR φ .nilf v'):v'= .nilFunc:=by cases h;rfl
theorem VR.ifc_inv {t:Nat}{v:AV}(h:VR φ (.ifc t v) v'): ∃u,v'= .iface t u∧VR φ v u:=by cases h with|ifc h=>exact⟨_,rfl,h⟩
theorem VR.nili_inv (h:VR φ .nili v'):v'= .nilIface:=by cases h;rfl
theorem VR.agg_inv {l:List AV}(h:VR φ (.agg l) v'): ∃c:Array Value,v'= .agg c∧VRs φ l c.toList:=by cases h with|agg h=>exact⟨_,rfl,h⟩
theorem VR.tup_inv {l:List AV}(h:VR φ (.tup l) v'): ∃c:Array Value,v'= .tuple c∧VRs φ l c.toList:=by cases h with|tup h=>exact⟨_,rfl,h⟩
end inv
def Sim1 (E:Env)(w0:Array Obj)(φ: Phi)(w:World)(h:H)(r:Result Next)(v:AV)(h':H):Prop:=
 ∃φ' v' w',Phi.le1 h.n φ φ'∧(r= .ok (.value v') w'∨(r= .ok .skip w'∧v'=undef))∧VR φ' v v'∧HR E w0 φ' h' w'.heap∧Like w w'
section
variable {P:Program}{E:Env}{w0:Array Obj}{φ: Phi}{h h':H}{w:World}{tm:T AV}{ρ: Operand→Value}{o:Oper}{v:AV}
theorem Sim1.same {r:Result Next}{v':Value}{w':World}(hr:HR E w0 φ h w'.heap)(e:r= .ok (.value v') w')(hv:VR φ v v')(hl:Like w w':=by exact⟨rfl,rfl,rfl⟩):Sim1 E w0 φ w h r v h:=
 ⟨φ,v',w',.refl _ _,.inl e,hv,hr,hl⟩
theorem Hc {v:AV}{v':Value}{l:List AV}(hv:VR φ v v')(hc:A9 v=some l):VRs φ l v'.cells.toList:=by
 cases hv with
 |agg h=>simp only [A9,Option.some.injEq]at hc;subst hc;exact h
 |tup h=>simp [A9]at hc
 |unk _=>simp [A9]at hc
 |opq _=>
  cases v' <;> first
   |(simp [A9]at hc;done)
   |(simp only [A9,Option.some.injEq]at hc;subst hc;exact .cons (.opq _) .nil)
 |_=>
  simp only [A9,Option.some.injEq]at hc;subst hc
  exact .cons (by first|assumption|(constructor <;> assumption)|constructor) .nil
variable (hr:HR E w0 φ h w.heap)(hρ: RhoR φ tm ρ)
include hr hρ
theorem dj {x:Operand}(e:(execOp ρ o).run P w=(pure (.value (ρ x)):Sem Next).run P w)(hx:exec (.mv (opd x)) h tm= .val v h'):Sim1 E w0 φ w h ((execOp ρ o).run P w) v h':=by
 simp only [exec,R.val.injEq]at hx
 obtain⟨rfl,rfl⟩:=hx
 exact .same hr e (hρ x)
theorem dm {c a b:Operand}(ho:o.op= .pick c a b)(hx:exec (.pick (opd c) (opd a) (opd b)) h tm= .val v h'):Sim1 E w0 φ w h ((execOp ρ o).run P w) v h':=by
 simp only [exec]at hx
 split at hx
 ·rename_i hc
  have ec:=VR.bool_inv (hc ▸ hρ c)
  simp only [R.val.injEq]at hx;obtain⟨rfl,rfl⟩:=hx
  exact .same hr (by simp [execOp,ho,ec,asBool]) (hρ a)
 ·rename_i hc
  have ec:=VR.bool_inv (hc ▸ hρ c)
  simp only [R.val.injEq]at hx;obtain⟨rfl,rfl⟩:=hx
  exact .same hr (by simp [execOp,ho,ec,asBool]) (hρ b)
 ·cases hx
omit hr hρ in
theorem Hd (e:TypeId)(u:Value):(newVar e u).run P w= .ok ⟨w.heap.size,0,none⟩ (w.alloc (.cells u.cells e)):=by
 simp [newVar,newRow]
theorem om {e:TypeId}{n:Nat}{x:Operand}(ho:o.op= .box e x)(hx:exec (.box n (opd x)) h tm= .val v h'):Sim1 E w0 φ w h ((execOp ρ o).run P w) v h':=by
 simp only [exec]at hx
 split at hx
 ·rename_i l hl
  split at hx
  ·simp only [R.val.injEq]at hx;obtain⟨rfl,rfl⟩:=hx
   obtain⟨hle,hr'⟩:=hr.newCells e (Hc (hρ x) hl)
   refine⟨_,.pointer (some ⟨w.heap.size,0,none⟩),w.alloc (.cells (ρ x).cells e),⟨hle,fun _ hb=>Phi.upd_ne _ _ hb⟩,.inl ?_,?_,hr',⟨rfl,rfl,rfl⟩⟩
   ·simp [execOp,ho,Instr.box,Hd]
   ·have:=VR.ptr (b:=h.n) (o:=0) (Phi.upd_same φ h.n ⟨w.heap.size,0,(ρ x).cells.size⟩)
    simpa using this
  ·cases hx
 ·cases hx
theorem Yr (hE:EnvOk P E){e:TypeId}{z:List AV}(hz:Em E e=some z)(ho:o.op= .alloc e)(hx:exec (.alloc z) h tm= .val v h'):Sim1 E w0 φ w h ((execOp ρ o).run P w) v h':=by
 simp only [exec,R.val.injEq]at hx
 obtain⟨rfl,rfl⟩:=hx
 obtain⟨u,i,h1,h2,h3,h4,h5⟩:=Df hE hz w
 obtain⟨hle,hr'⟩:=hr.newCells e (h5 φ)
 refine⟨_,.pointer (some ⟨w.heap.size,0,none⟩),w.alloc (.cells u.cells e),⟨hle,fun _ hb=>Phi.upd_ne _ _ hb⟩,.inl ?_,?_,hr',⟨rfl,rfl,rfl⟩⟩
 ·simp [execOp,ho,Instr.alloc,h2,Hd]
 ·have:=VR.ptr (b:=h.n) (o:=0) (Phi.upd_same φ h.n ⟨w.heap.size,0,u.cells.size⟩)
  simpa using this
omit hr hρ in
theorem Eo: ∀(xs l:List AV) (o i:Nat),o+xs.length≤l.length→(E7 xs l o)[i]?=if o≤i∧i<o+xs.length then xs[i - o]? else l[i]?
 |xs,l,0,i,hl=>by
  have:E7 xs l 0=xs++l.drop xs.length:=by cases l <;> rfl
  rw [this]
  by_cases h:i<xs.length
  ·rw [if_pos (by omega),Nat.sub_zero,List.getElem?_append_left h]
  ·rw [if_neg (by omega),List.getElem?_append_right (by omega),List.getElem?_drop];congr 1;omega
 |xs,[],o+1,i,hl=>by simp at hl
 |xs,a::l,o+1,i,hl=>by
  simp only [List.length_cons]at hl
  show(a::E7 xs l o)[i]?=_
  cases i with
  |zero=>rw [if_neg (by omega)];rfl
  |succ i=>
   rw [List.getElem?_cons_succ,Eo xs l o i (by omega),List.getElem?_cons_succ]
   by_cases h:o≤i∧i<o+xs.length
   ·rw [if_pos h,if_pos (by omega)];congr 1;omega
   ·rw [if_neg h,if_neg (by omega)]
omit hr hρ in
theorem Mf: ∀(xs l:List AV) (o:Nat),o+xs.length≤l.length→(E7 xs l o).length=l.length
 |xs,l,0,hl=>by
  have:E7 xs l 0=xs++l.drop xs.length:=by cases l <;> rfl
  rw [this];simp;omega
 |xs,[],o+1,hl=>by simp at hl
 |xs,a::l,o+1,hl=>by
  simp only [List.length_cons]at hl
  show(a::E7 xs l o).length=_
  simp [Mf xs l o (by omega)]
omit hr hρ in
theorem yo {xs l:List AV}{xs':List Value}{cs:Array Value}{o:Nat}(hx:VRs φ xs xs')(hl:VRs φ l cs.toList)(hb:o+xs.length≤l.length):
  VRs φ (E7 xs l o) (ovl cs o xs').toList:=by
 have h1:=hx.length
 have h2:=hl.length
 simp only [Array.length_toList]at h2
 refine VRs.of_get (by rw [Mf _ _ _ hb];simp [Gv,h2]) fun i v hi=>?_
 rw [Eo _ _ _ _ hb]at hi
 rw [Array.getElem?_toList,Ng _ _ _ _ (by omega)]
 by_cases h:o≤i∧i<o+xs.length
 ·rw [if_pos h]at hi;rw [if_pos (by omega)];exact hx.get hi
 ·rw [if_neg h]at hi;rw [if_neg (by omega),←Array.getElem?_toList];exact hl.get hi
omit hr hρ in
theorem N3: ∀(l:List Value) (cs:Array Value) (o k:Nat),(l.zipIdx k).foldl (fun cs (x:Value×Nat)=>cs.setIfInBounds (o+x.2) x.1) cs=ovl cs (o+k) l
 | [],cs,o,k=>rfl
 |v::r,cs,o,k=>by
  rw [List.zipIdx_cons,List.foldl_cons,N3 r,ovl,Nat.add_assoc]
omit hr in
theorem H8 (place:Nat→Option (Nat×Nat)): ∀(parts:List (Nat×Operand)) (ps:List (Nat×Nat×O)) (cells:List AV) (cs:Array Value) (l:List AV),
  parts.map (fun p=>(place p.1).map fun q=>(q.1,q.2,opd p.2))=ps.map some→VRs φ cells cs.toList→fill tm ps cells=some l→
  ∃cs',Instr.fill place cs (parts.map fun p=>(p.1,ρ p.2))=some cs'∧VRs φ l cs'.toList
 | [],ps,cells,cs,l,hp,hc,hf=>by
  cases ps with
  |nil=>simp only [fill,Option.some.injEq]at hf;subst hf;exact⟨cs,rfl,hc⟩
  |cons _ _=>simp at hp
 |p::parts,ps,cells,cs,l,hp,hc,hf=>by
  cases ps with
  |nil=>simp at hp
  |cons q ps=>
   simp only [List.map_cons,List.cons.injEq]at hp
   obtain⟨h1,h2⟩:=hp
   cases hpl:place p.1 with
   |none=>rw [hpl]at h1;simp at h1
   |some os=>
    rw [hpl]at h1
    simp only [Option.map_some,Option.some.injEq]at h1
    subst h1
    simp only [fill]at hf
    split at hf
    ·rename_i xs hxs
     split at hf
     ·rename_i hb1 hb2
      have hb1:xs.length=os.2:=Aj hb1
      have hb2:os.1+os.2≤cells.length:=Ah hb2
      have hv:=Hc (hρ p.2) hxs
      have hlen:=hv.length
      have hcl:=hc.length
      simp only [Array.length_toList]at hlen hcl
      obtain⟨cs',h3,h4⟩:=H8 place parts ps _ (ovl cs os.1 (ρ p.2).cells.toList) l h2 (yo hv hc (by omega)) hf
      refine⟨cs',?_,h4⟩
      rw [List.map_cons,Instr.fill,hpl]
      simp only
      rw [if_neg (by simp;omega)]
      rw [←h3]
      congr 1
      have:=N3 (ρ p.2).cells.toList cs os.1 0
      rw [←Array.foldl_toList,Array.toList_zipIdx]
      exact this
     ·simp at hf
    ·simp at hf
omit hr hρ in
theorem Qe {α β: Type}{f:α→Option β}: ∀{l:List α} {r:List β},l.mapM f=some r→l.map f=r.map some
 | [],r,h=>by simp at h;subst h;rfl
 |a::l,r,h=>by
  rw [List.mapM_cons]at h
  cases h1:f a with
  |none=>rw [h1]at h;simp at h
  |some b=>
   rw [h1]at h
   cases h2:l.mapM f with
   |none=>rw [h2]at h;simp at h
   |some t=>
    rw [h2]at h;simp at h;subst h
    simp [h1,Qe h2]
omit hr hρ in
theorem N4 (hE:EnvOk P E): ∀(fs:List Field),fs.all (fun f=>(sz E f.type).isSome)=true→
  (fs.mapM (fun f=>(do pure (f.offset,←sizeOf f.type):Sem (Nat×Nat)))).run P w= .ok (fs.map fun f=>(f.offset,szD E f.type)) w
 | [],_=>rfl
 |f::fs,hf=>by
  simp only [List.all_cons,Bool.and_eq_true]at hf
  cases h1:sz E f.type with
  |none=>rw [h1]at hf;simp at hf
  |some n=>
   have hn:szD E f.type=n:=by
    unfold sz at h1;unfold szD
    cases h2:Ev.inf E f.type with
    |none=>rw [h2]at h1;simp at h1
    |some i=>rw [h2]at h1;simpa using h1
   rw [List.mapM_cons]
   simp only [Sem.run_bind,dh hE h1,Result.andThen_ok,Sem.run_pure,N4 hE fs hf.2,List.map_cons,hn]
theorem Ys (hE:EnvOk P E){t:TypeId}{parts:Array (Nat×Operand)}{z:List AV}{ps:List (Nat×Nat×O)}(hz:Em E t=some z)(hp:Rv E t parts.toList=some ps)
  (ho:o.op= .build t parts) (hx:exec (.build z ps) h tm= .val v h'):Sim1 E w0 φ w h ((execOp ρ o).run P w) v h':=by
 simp only [exec]at hx
 split at hx
 ·rename_i l hl
  simp only [R.val.injEq]at hx;obtain⟨rfl,rfl⟩:=hx
  obtain⟨u,i,h1,h2,h3,h4,h5⟩:=Df hE hz w
  unfold Rv at hp
  split at hp
  ·rename_i fs hu
   split at hp
   ·rename_i hall
    have hmm:=Qe hp
    obtain⟨cs',h6,h7⟩:=H8 (hρ:= hρ) (fun(i:Nat)=>(fs.map fun f=>(f.offset,szD E f.type))[i]?) parts.toList ps z u.cells l (by
     rw [←hmm]
     apply List.map_congr_left
     intro p _
     unfold tj
     cases hf:fs[p.1]? with
     |none=>simp [hf]
     |some f=>
      simp only [Array.getElem?_map,hf,Option.map_some]
      cases h8:sz E f.type with
      |none=>
       have hm:f∈fs.toList:=by have:=Array.mem_of_getElem? hf;simpa using this
       have:=(List.all_eq_true.1 hall) f hm
       rw [h8]at this;simp at this
      |some n=>
       have hn:szD E f.type=n:=by
        unfold sz at h8;unfold szD
        cases h9:Ev.inf E f.type with
        |none=>rw [h9]at h8;simp at h8
        |some i=>rw [h9]at h8;simpa using h8
       simp [hn]) (h5 φ) hl
    refine .same (v':= .agg cs') hr ?_ (.agg h7)
    simp only [execOp,ho,Instr.build,Sem.run_bind,h2,Result.andThen_ok,Ac hE hu]
    have hpr:=N4 (w:=w) hE fs.toList hall
    rw [Array.mapM_eq_mapM_toList,Sem.run_map,hpr]
    simp only [Result.andThen_ok]
    have hfn:(fun(i:Nat)=>(fs.toList.map fun f=>(f.offset,szD E f.type)).toArray[i]?)=(fun(i:Nat)=>(fs.map fun f=>(f.offset,szD E f.type))[i]?):=by
     funext i;simp
    have hpt:(parts.map fun(x:Nat×Operand)=>(x.1,ρ x.2)).toList=parts.toList.map fun p=>(p.1,ρ p.2):=by simp
    rw [hpt,hfn,h6]
    rfl
   ·simp at hp
  ·rename_i n e hu
   split at hp
   ·rename_i m hm
    simp only [Option.some.injEq]at hp;subst hp
    obtain⟨cs',h6,h7⟩:=H8 (hρ:= hρ) (fun(i:Nat)=>some (i*m,m)) parts.toList _ z u.cells l (by simp) (h5 φ) hl
    refine .same (v':= .agg cs') hr ?_ (.agg h7)
    simp only [execOp,ho,Instr.build,Sem.run_bind,h2,Result.andThen_ok,Ac hE hu,dh hE hm]
    have hpt:(parts.map fun(x:Nat×Operand)=>(x.1,ρ x.2)).toList=parts.toList.map fun p=>(p.1,ρ p.2):=by simp
    rw [hpt,h6]
    rfl
   ·simp at hp
  ·simp at hp
 ·cases hx
end
end Go.Ev
