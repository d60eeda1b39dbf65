/- Part of the proof. -/
import Derived.Test.YtgkianlpkdfhkaaGreatM10
import Derived.Test.YtgkianlpkdfhkaaGreatM09
set_option linter.unusedVariables false
set_option linter.unusedSimpArgs false
set_option linter.unusedSectionVars false
set_option maxRecDepth 10000
set_option maxHeartbeats 4000000
namespace Go.Ev
def leb:Nat→Nat→List Nat
 |0,_=> []
 |n+1,v=>v % 256::leb n (v / 256)
theorem Bj: ∀(n v:Nat),(leb n v).length=n
 |0,_=>rfl
 |n+1,v=>by rw [leb,List.length_cons,Bj n]
theorem Uz (n:Nat):256 ^ n=2 ^ (8*n):=by rw [Nat.pow_mul]
theorem Sz: ∀(n v:Nat),leb (n+1) v=leb n v++ [(v >>> (8*n)) % 256]
 |0,v=>by simp [leb]
 |n+1,v=>by
  rw [leb,Sz n (v / 256),leb,List.cons_append]
  have:(v / 256) >>> (8*n)=v >>> (8*(n+1)):=by
   rw [Nat.shiftRight_eq_div_pow,Nat.shiftRight_eq_div_pow,←Uz,←Uz,Nat.div_div_eq_div_mul,Nat.pow_succ,Nat.mul_comm 256]
  rw [this]
theorem He (n v:Nat):AllB (leb n v):=by
 induction n generalizing v with
 |zero=>intro i hi;exact absurd hi (Nat.not_lt_zero i)
 |succ n ih=>
  intro i hi
  cases i with
  |zero=>show v % 256<256;omega
  |succ i=>show(leb n (v / 256)).getD i 0<256;exact ih _ i (by rw [Bj]at hi ⊢;omega)
theorem fv (p s:List Nat)(x y m:Nat)(hm:m=p.length):(Bm (p++x::s)).set m (.int .u8 ((y:Nat):Int))=Bm (p++y::s):=by
 subst hm
 simp [Bm,List.set_append]
theorem Fo (l:List Nat):(Bm l).length=l.length:=by simp [Bm]
structure Sp where
 kind:Nat
 sec:Int
 seq:Nat
 prev:Nat
 idx:Int
 len:Int
def spC (s:Sp):List AV:= [.int .u8 ((s.kind:Nat):Int),.int .i64 s.sec,.int .u64 ((s.seq:Nat):Int),.int .u64 ((s.prev:Nat):Int),.int .i64 s.idx,.int .i64 s.len]
structure Sp.Ok (s:Sp):Prop where
 kind:s.kind<256
 seq:s.seq<18446744073709551616
 prev:s.prev<18446744073709551616
def mag (k:Nat):List Nat:= [67,70,84,76,k,0,0,0]
def C1 (s:Sp):List Nat:=mag s.kind++leb 8 s.seq++leb 8 s.prev++leb 4 (u64 s.sec)++leb 4 (u64 s.idx)++leb 4 (u64 s.len)++List.replicate 24 0
theorem Jl (s:Sp):(C1 s).length=60:=by
 simp only [C1,mag,List.length_append,Bj,List.length_replicate,List.length_cons,List.length_nil]
theorem om {k:Nat}(h:k<256):AllB (mag k):=by
 intro i hi
 have hi':i<8:=hi
 rcases i with _|_|_|_|_|_|_|_|i
 all_goals first|(show _<256;simp [mag];done)|(simp [mag];exact h)|omega
theorem U0 {s:Sp}(h:s.kind<256):AllB (C1 s):=
 ((((((om h).app (He _ _)).app (He _ _)).app (He _ _)).app (He _ _)).app (He _ _)).app (AllB.rep (by omega))
def Sp.Valid (s:Sp):Prop:=1≤s.seq∧1≤s.len∧s.len≤65535∧0≤s.idx∧s.idx<s.len∧((s.kind=1∧0≤s.sec∧s.sec≤4294967294∧s.prev=0∧s.len=1)∨((s.kind=2∨s.kind=3)∧s.sec=0∧s.prev<s.seq∧s.idx.toNat<s.seq - s.prev))
instance (s:Sp):Decidable s.Valid:=by unfold Sp.Valid;infer_instance
section
variable {P:Program}{E:Env}{F:T CFn}{K:T (List AV×AV)}{Q:Nat→AV→Prop}
variable {fn nt:Nat}{l l':List (Nat×Option AV)}{k td':List AItem}{ds:List ADef}{dfd:Bool}{ro:Option Nat}{cs:List AFr}{h:H}{gd:Option (Nat×Bool)}{r:List CI}
variable {n b o:Nat}{t:T Blk}{lh:List (Nat×Option Blk)}{x y:O}{c lv:List AV}
variable (L:Lg P E F K)
include L
theorem oq {d size sn so scap dn dcap bs:Nat}{cs1:List AV}(hg:gdO gd l=some true)(e:evO l x=some (.slc b o dn dcap))(e1:evO l y=some (.slc bs so sn scap))(k1:SlR size (hp n t lh) (.slc bs so sn scap) sn lv)(hb:Bk (hp n t lh) b c)(hle:sn≤dn)(hp1:Ar lv=true)(hk:o+lv.length≤c.length)(hpos:0<lv.length)(hs:Eu lv c o=cs1)
  (ha:adv 1000 (.ops r::k) ((d,some (.int .i64 ((sn:Nat):Int)))::l)=(td',l')) (g:Good P E Q ⟨⟨fn,nt,tms l',td',ds,.run,dfd,ro⟩,cs,hp n t ((b,some (cl cs1))::lh)⟩):
  Good P E Q ⟨⟨fn,nt,tms l,.ops (⟨some d,gd,.copy size x y⟩::r)::k,ds,.run,dfd,ro⟩,cs,hp n t lh⟩:=by
 obtain⟨h',q1,q2⟩:=vd e e1 k1 hb hle hp1 hk hpos hs
 exact J5 L (Av hg) q1 (O9 L q2 (B6 L 1000 ha g))
end
abbrev AI (z:Int):AV:= .int .i64 z
theorem Dh {α: Type}{f:α→List AV}{k:Nat}: ∀(l:List α),(∀x∈l,(f x).length=k)→(l.flatMap f).length=l.length*k
 | [],_=>by simp
 |x::r,h=>by
  rw [List.flatMap_cons,List.length_append,Dh r (fun y hy=>h y (List.mem_cons_of_mem _ hy)),h x (List.mem_cons_self ..),List.length_cons,Nat.add_mul];omega
theorem Cw {α: Type}{f:α→List AV}{k:Nat}: ∀(l:List α),(∀x∈l,(f x).length=k)→ ∀(i j:Nat) (x:α),l[i]?=some x→j<k→(l.flatMap f)[i*k+j]?=(f x)[j]?
 | [],_,i,j,x,h,_=>by simp at h
 |y::r,hl,i,j,x,h,hj=>by
  have hy:=hl y (List.mem_cons_self ..)
  rw [List.flatMap_cons]
  cases i with
  |zero=>
   simp only [List.getElem?_cons_zero,Option.some.injEq]at h
   subst h
   rw [Nat.zero_mul,Nat.zero_add,List.getElem?_append_left (by omega)]
  |succ i=>
   rw [List.getElem?_cons_succ]at h
   rw [List.getElem?_append_right (by rw [hy,Nat.add_mul];omega),hy,show(i+1)*k+j - k=i*k+j by rw [Nat.add_mul];omega]
   exact Cw r (fun z hz=>hl z (List.mem_cons_of_mem _ hz)) i j x h hj
theorem E0 {α: Type}{f:α→List AV}{k:Nat}(l:List α)(h: ∀x∈l,(f x).length=k)(i:Nat)(x:α)(hx:l[i]?=some x):i*k+k≤(l.flatMap f).length∧((l.flatMap f).drop (i*k)).take k=f x:=by
 have hi:=(List.getElem?_eq_some_iff.1 hx).1
 have hm:x∈l:=List.mem_of_getElem? hx
 have h1:i*k+k≤(l.flatMap f).length:=by
  rw [Dh l h]
  have:(i+1)*k≤l.length*k:=Nat.mul_le_mul_right k hi
  rw [Nat.add_mul]at this;omega
 refine⟨h1,?_⟩
 apply List.ext_getElem?
 intro j
 by_cases hj:j<k
 ·rw [List.getElem?_take_of_lt hj,List.getElem?_drop,Cw l h i j x hx hj]
 ·rw [List.getElem?_take_eq_none (by omega),List.getElem?_eq_none (by rw [h x hm];omega)]
theorem Br {l:List (Nat×Option AV)}{h:H}{x:O}{b o k:Nat}{c lv:List AV}(hb:Rk h b c)(h1:o+k≤c.length∧(c.drop o).take k=lv)(e:evO l x=some (.ptr b o)):XV (.loadN k x) h l (.agg lv) h:=by
 refine⟨?_⟩
 simp only [exec,Ad,Ab e,Ux hb h1.1,h1.2]
abbrev Ent:=Int×Int
def Ay (e:Ent):List AV:= [.int .i64 e.1,.int .i64 e.2]
theorem Id (l:List Ent): ∀x∈l,(Ay x).length=2:=fun _ _=>rfl
structure EntR (κ: Nat→Nat)(h:H)(v:AV)(l:List Ent):Prop where
 ex:(l= []∧v= .nils)∨(l= []∧ ∃a,v= .opq (.slice (some a) 0 0))∨ ∃b cap,v= .slc b 0 l.length cap∧Rk h b (l.flatMap Ay)∧κ b=0
def Ent.Ok (e:Ent):Prop:=0≤e.1∧e.1≤4294967294∧ -1≤e.2∧e.2≤4294967294
instance (e:Ent):Decidable e.Ok:=by unfold Ent.Ok;infer_instance
def fz (e:Ent):List Nat:=leb 4 e.1.toNat++leb 4 (e.2+1).toNat
def D0 (sz:Nat)(l:List Ent):List Nat:=leb 4 l.length++l.flatMap fz++List.replicate (sz - 4 - 8*l.length) 0
theorem f0 (e:Ent):(fz e).length=8:=by simp [fz,Bj]
theorem Qd: ∀(l:List Ent),(l.flatMap fz).length=8*l.length
 | []=>rfl
 |e::r=>by rw [List.flatMap_cons,List.length_append,f0,Qd r,List.length_cons];omega
theorem ga {sz:Nat}{l:List Ent}(h:4+8*l.length≤sz):(D0 sz l).length=sz:=by
 unfold D0;rw [List.length_append,List.length_append,Bj,Qd,List.length_replicate];omega
theorem Fw.rk {κ κ':Nat→Nat}{h h':H}{b:Nat}{c:List AV}(f:Fw κ h κ' h')(k:Rk h b c)(hc:κ b=0):Rk h' b c:=k.keep f.n (f.old b k.lt hc)
theorem EntR.fw {κ κ':Nat→Nat}{h h':H}{v:AV}{l:List Ent}(q:EntR κ h v l)(f:Fw κ h κ' h'):EntR κ' h' v l:=by
 refine⟨?_⟩
 rcases q.ex with h1|h1|⟨b,cap,h1,h2,h3⟩
 ·exact .inl h1
 ·exact .inr (.inl h1)
 ·exact .inr (.inr ⟨b,cap,h1,f.rk h2 h3,(f.col b h2.lt).trans h3⟩)
structure EL (h:H)(lo:Nat)(v:AV)(l:List Ent):Prop where
 ex:(l= []∧v= .nils)∨(l≠[]∧ ∃b,v= .slc b 0 l.length (Aa+2)∧Bk h b (l.flatMap Ay)∧lo≤b)
theorem EL.nil (h:H)(lo:Nat):EL h lo .nils []:=⟨.inl ⟨rfl,rfl⟩⟩
theorem EL.k0 {h h':H}{lo:Nat}{v:AV}{l:List Ent}(q:EL h lo v l)(k:K0 h h'):EL h' lo v l:=by
 rcases q.ex with h1|⟨h2,b,h3,h4,h5⟩
 ·exact⟨.inl h1⟩
 ·exact⟨.inr ⟨h2,b,h3,Ah k h4,h5⟩⟩
theorem EL.kS {h h':H}{S:Nat→Prop}{lo:Nat}{v:AV}{l:List Ent}(q:EL h lo v l)(k:Kp S h h')(hs: ∀b,lo≤b→ ¬S b):EL h' lo v l:=by
 rcases q.ex with h1|⟨h2,b,h3,h4,h5⟩
 ·exact⟨.inl h1⟩
 ·exact⟨.inr ⟨h2,b,h3,As k (hs b h5) h4,h5⟩⟩
theorem EL.mono {h:H}{lo lo':Nat}{v:AV}{l:List Ent}(q:EL h lo v l)(k:lo'≤lo):EL h lo' v l:=by
 rcases q.ex with h1|⟨h2,b,h3,h4,h5⟩
 ·exact⟨.inl h1⟩
 ·exact⟨.inr ⟨h2,b,h3,h4,Nat.le_trans k h5⟩⟩
theorem EL.plain {h:H}{lo:Nat}{v:AV}{l:List Ent}(q:EL h lo v l):A5 v=some [v]∧Dq v=true:=by
 rcases q.ex with⟨_,rfl⟩|⟨_,b,rfl,_⟩ <;> exact⟨rfl,rfl⟩
theorem EL.len {h:H}{lo:Nat}{v:AV}{l:List Ent}(q:EL h lo v l):(l= []∧v= .nils)∨(0<l.length∧ ∃b,v= .slc b 0 l.length (Aa+2)∧Bk h b (l.flatMap Ay)∧lo≤b):=by
 rcases q.ex with h1|⟨h2,h3⟩
 ·exact .inl h1
 ·exact .inr ⟨List.length_pos_iff.2 h2,h3⟩
theorem A4 (l:List Ent):(l.flatMap Ay).length=l.length*2:=Dh l (Id l)
theorem EL.app {h:H}{lo N n:Nat}{l:List Ent}{e:Ent}(hb:Bk h N (l.flatMap Ay++Ay e))(hlo:lo≤N)(hn:l.length=n):EL h lo (.slc N 0 (n+1) (Aa+2)) (l++ [e]):=
 ⟨.inr ⟨by simp,N,by simp [hn],by rw [List.flatMap_append];simpa using hb,hlo⟩⟩
section
variable {l:List (Nat×Option AV)}{h:H}{x y:O}
theorem zg {q:Bool}{r:Nat}(e:evO l x=some (.map r))(e1:evO l y=some .nilm):XV (.bin .eql x y q .nilM) h l (.bool false) h:=⟨by simp only [exec,Ad,Ab e,Ab e1];rfl⟩
end
section
variable {P:Program}{E:Env}{F:T CFn}{K:T (List AV×AV)}{Q:Nat→AV→Prop}
variable {fn nt:Nat}{l q:List (Nat×Option AV)}{k:List AItem}{ds:List ADef}{dfd:Bool}{ro:Option Nat}{cs:List AFr}{h:H}{gd:Option (Nat×Bool)}{x:O}{nm:List Nat}{pre chk:List DI}{ps:List Ph}{d:Option Nat}
variable (L:Lg P E F K)
include L
theorem Gb {f:Nat}{a:List O}{va cp args:List AV}{post:AV→H→Prop}(ho:Bw l nm=some q)(hg:gdO gd q=some true)(e:evO q x=some (.fn (.func f) [] cp))(ha:Dl q a=some va)(hr:C7 va cp=some args)(hc:CtP P E F K f args h post)
  (g: ∀v h',post v h'→Good P E Q ⟨⟨fn,nt,Jv chk (tms l),[.gone],ds,.panicking [(v,false)],dfd,ro⟩,cs,h'⟩):
  Good P E Q ⟨⟨fn,nt,tms l,.drawn ⟨⟨⟨d,gd,.callv x a⟩,nm⟩,pre,chk⟩ ps::k,ds,.run,dfd,ro⟩,cs,h⟩:=
 e_c L ho (Av hg) (Dj e ha hr) (hc Q _ cs fun v h' p=>g v h' p)
end
theorem Oo {p nb P:Nat}(h:p<nb*P):p / P<nb:=Nat.div_lt_of_lt_mul (by rw [Nat.mul_comm];exact h)
section
variable {l:List (Nat×Option AV)}{lh:List (Nat×Option Blk)}{n:Nat}{t:T Blk}{h:H}{x y:O}{b o cap a sl bytes:Nat}{k:IntKind}{old zero:List AV}
theorem S5 {z:List AV}(h:Ar z=true): ∀a,Ar (rl z a)=true
 |0=>rfl
 |a+1=>by
  have: ∀u v:List AV,Ar u=true→Ar v=true→Ar (u++v)=true:=by
   intro u
   induction u with
   |nil=>intro v _ hv;exact hv
   |cons p r ih=>
    intro v hu hv
    simp only [Ar]at hu
    cases hp:Dq p with
    |false=>rw [hp]at hu;cases hu
    |true=>rw [hp]at hu;show Ar (p::(r++v))=true;simp only [Ar,hp];exact ih v hu hv
  exact this z (rl z a) h (S5 h a)
theorem rq (e:evO l x=some (.slc b o sl (Aa+zero.length)))(e1:evO l y=some (.int k ((a:Nat):Int)))(hpos:0<a)(k1:SlR zero.length (hp n t lh) (.slc b o sl (Aa+zero.length)) sl old)(hz:Ar zero=true)(h1:a*bytes≤281474976710656)(h2:a≤281474976710656)
  (hbig:(sl+a)*(bytes+1)≤1099511627776):XV (.appendZ bytes zero x y) (hp n t lh) l (.slc n 0 (sl+a) (Aa+zero.length)) (hp (n+1) t ((n,some (cl (old++rl zero a)))::(b,none)::lh)):=by
 refine⟨?_⟩
 obtain⟨m,rfl⟩: ∃m,a=m+1:=⟨a - 1,by omega⟩
 have e1':evL l y= .int k (Int.ofNat (m+1)):=Ab e1
 have g1:Nat.ble (Nat.mul (m+1) bytes) 281474976710656=true:=Au h1
 have g2:Nat.ble (m+1) 281474976710656=true:=Au h2
 have g:Nat.ble (Nat.mul (Nat.add sl (Nat.succ m)) (Nat.succ bytes)) 1099511627776=true:=Au hbig
 have hold:=k1.cells
 have hp1:=S5 hz (m+1)
 cases k1 with
 | @slc _ _ _ _ c _ hbk hk hx hlt=>
  have g3:Nat.ble Aa (Aa+zero.length)=true:=Au (by omega)
  have g4:Nat.beq (Aa+zero.length) (Nat.add Aa zero.length)=true:=Nat.beq_refl _
  have hold':cellsAt (hp n t lh) b o (Nat.mul sl zero.length)=some old:=hold
  have hbk':H.get (hp n t lh) b=some (.cells false c.length (ofL 0 .leaf c)):=hbk
  simp only [exec,Ad,Ab e,e1',g1,g2,Da,g,g3,g4,hold',hbk',hp1]
  rfl
theorem zh (e:evO l x=some (.slc b o sl cap))(e1:evO l y=some (.int k ((0:Nat):Int))):XV (.appendZ bytes zero x y) h l (.slc b o sl cap) h:=by
 refine⟨?_⟩
 have e1':evL l y= .int k (Int.ofNat 0):=Ab e1
 have g1:Nat.ble (Nat.mul 0 bytes) 281474976710656=true:=Au (by show 0*bytes≤_;omega)
 have g2:Nat.ble 0 281474976710656=true:=rfl
 simp only [exec,Ad,Ab e,e1',g1,g2,Da]
end
theorem Kp.cut {lo:Nat}{h h':H}(k:Kp (fun j=>lo≤j) h h')(hl:h.n≤lo):K0 h h':=⟨k.n,fun b hb _=>k.old b hb (by omega)⟩
theorem Aai {v n:Nat}(h:v<256 ^ n):v >>> (8*n)=0:=by rw [Nat.shiftRight_eq_div_pow,←Uz];exact Nat.div_eq_of_lt h
structure MQ (M1 M2:List (Int×AV×Nat))(A:Int→Option Int):Prop where
 a1: ∀s,Bo M1 s=(A s).map AI
 a2: ∀s p,A s=some p→Bo M2 p=some (AI s)
 a3: ∀p u,Bo M2 p=some u→ ∃s,u=AI s∧A s=some p
theorem MQ.inj {M1 M2:List (Int×AV×Nat)}{A:Int→Option Int}(q:MQ M1 M2 A){s s' p:Int}(h:A s=some p)(h':A s'=some p):s=s':=by
 have h1:=q.a2 s p h
 rw [q.a2 s' p h']at h1
 simp only [AI,Option.some.injEq,AV.int.injEq,true_and]at h1
 exact h1.symm
def D8 (A:Int→Option Int)(s0:Int):Int→Option Int:=fun s=>if s=s0 then none else A s
def Cr (A:Int→Option Int)(x:Ent):Int→Option Int:=fun s=>if s=x.1 then(if 0≤x.2 then some x.2 else none)else A s
theorem Yj {A:Int→Option Int}{s0:Int}(h:A s0=none):D8 A s0=A:=by
 funext s;unfold D8;by_cases e:s=s0
 ·rw [if_pos e,e,h]
 ·rw [if_neg e]
theorem S6 {A:Int→Option Int}{x:Ent}(h: ¬0≤x.2):Cr A x=D8 A x.1:=by
 funext s;unfold Cr D8;rw [if_neg h]
theorem S7 (A:Int→Option Int)(x:Ent):Cr (D8 A x.1) x=Cr A x:=by
 funext s;unfold Cr D8;by_cases e:s=x.1
 ·rw [if_pos e,if_pos e]
 ·rw [if_neg e,if_neg e,if_neg e]
theorem MQ.rem {M1 M2:List (Int×AV×Nat)}{A:Int→Option Int}(q:MQ M1 M2 A){s0 p:Int}(h:A s0=some p):MQ (Ha M1 s0) (Ha M2 p) (D8 A s0):=by
 refine⟨fun s=>?_,fun s p' hs=>?_,fun p' u hu=>?_⟩
 ·rw [H8,q.a1];unfold D8
  by_cases e:s=s0
  ·rw [if_pos e,if_pos e];rfl
  ·rw [if_neg e,if_neg e]
 ·unfold D8 at hs
  by_cases e:s=s0
  ·rw [if_pos e]at hs;cases hs
  ·rw [if_neg e]at hs
   have hp:p'≠p:=fun f=>e (q.inj (by rw [hs,f]) h)
   rw [H8,if_neg hp];exact q.a2 s p' hs
 ·rw [H8]at hu
  by_cases e:p'=p
  ·rw [if_pos e]at hu;cases hu
  ·rw [if_neg e]at hu
   obtain⟨s,h1,h2⟩:=q.a3 p' u hu
   refine⟨s,h1,?_⟩
   unfold D8
   rw [if_neg];exact h2
   rintro rfl;rw [h]at h2;cases h2;exact e rfl
theorem MQ.ins {M1 M2:List (Int×AV×Nat)}{A:Int→Option Int}(q:MQ M1 M2 A){x:Ent}{c1 c2:Nat}(hx:0≤x.2)(h:A x.1=none)(hp: ∀s,A s≠some x.2):MQ (Dp M1 c1 x.1 (AI x.2)) (Dp M2 c2 x.2 (AI x.1)) (Cr A x):=by
 refine⟨fun s=>?_,fun s p' hs=>?_,fun p' u hu=>?_⟩
 ·rw [Cu,q.a1];unfold Cr
  by_cases e:s=x.1
  ·rw [if_pos e,if_pos e,if_pos hx];rfl
  ·rw [if_neg e,if_neg e]
 ·unfold Cr at hs
  rw [Cu]
  by_cases e:s=x.1
  ·rw [if_pos e,if_pos hx]at hs;cases hs;rw [if_pos rfl,e]
  ·rw [if_neg e]at hs
   rw [if_neg fun f=>hp s (by rw [←f];exact hs)];exact q.a2 s p' hs
 ·rw [Cu]at hu
  by_cases e:p'=x.2
  ·rw [if_pos e]at hu;cases hu
   exact⟨x.1,rfl,by unfold Cr;rw [if_pos rfl,if_pos hx,e]⟩
  ·rw [if_neg e]at hu
   obtain⟨s,h1,h2⟩:=q.a3 p' u hu
   refine⟨s,h1,?_⟩
   unfold Cr
   rw [if_neg];exact h2
   rintro rfl;rw [h]at h2;cases h2
def Oq (S T:Nat)(x:Ent):Prop:=0≤x.1∧x.1<S∧ -1≤x.2∧x.2<T
instance (S T:Nat)(x:Ent):Decidable (Oq S T x):=by unfold Oq;infer_instance
def rt (A:Int→Option Int)(x:Ent):Prop:= ∃s,A s=some x.2∧s≠x.1
noncomputable def Hp (A:Int→Option Int)(p:Int):Bool:= @decide (∃s,A s=some p) (Classical.propDecidable _)
theorem hasP_t {A:Int→Option Int}{p:Int}:Hp A p=true↔ ∃s,A s=some p:=by unfold Hp;exact @decide_eq_true_iff _ (Classical.propDecidable _)
theorem hasP_f {A:Int→Option Int}{p:Int}:Hp A p=false↔ ¬ ∃s,A s=some p:=by
 rw [←hasP_t];cases Hp A p <;> simp
def Kg (f:Nat→Bool):Nat→Nat
 |0=>0
 |n+1=>Kg f n+if f n=true then 1 else 0
theorem M8 (f:Nat→Bool): ∀n,Kg f n≤n
 |0=>Nat.le_refl _
 |n+1=>by have:=M8 f n;simp only [Kg];split <;> omega
theorem Rm {f g:Nat→Bool}: ∀{n},(∀j,j<n→f j=g j)→Kg f n=Kg g n
 |0,_=>rfl
 |n+1,h=>by simp only [Kg,h n (Nat.lt_succ_self n),Rm (n:=n) fun j hj=>h j (by omega)]
theorem S8 {f g:Nat→Bool}{k:Nat}(hf:f k=false)(hg:g k=true): ∀{n},k<n→(∀j,j<n→j≠k→f j=g j)→Kg g n=Kg f n+1
 |n+1,hk,h=>by
  simp only [Kg]
  by_cases e:k=n
  ·subst e
   rw [hf,hg,Rm fun j hj=>h j (by omega) (by omega)];simp
  ·rw [h n (Nat.lt_succ_self n) (fun q=>e q.symm),S8 hf hg (n:=n) (by omega) fun j hj=>h j (by omega)];omega
noncomputable def valA (A:Int→Option Int)(P i:Nat):Nat:=Kg (fun j=>Hp A ((i*P+j:Nat):Int)) P
theorem Ww (A:Int→Option Int)(P i:Nat):valA A P i≤P:=M8 _ _
theorem Aaj {P i j:Nat}(hj:j<P):(i*P+j) / P=i:=by
 rw [Nat.mul_comm,Nat.mul_add_div (by omega),Nat.div_eq_of_lt hj,Nat.add_zero]
theorem Ot {A:Int→Option Int}{P i p:Nat}{s0:Int}(hP:0<P)(h:A s0=some ((p:Nat):Int))(inj: ∀s,A s=some ((p:Nat):Int)→s=s0):valA A P i=valA (D8 A s0) P i+if p / P=i then 1 else 0:=by
 have key: ∀q:Nat,q≠p→Hp (D8 A s0) ((q:Nat):Int)=Hp A ((q:Nat):Int):=by
  intro q hq
  cases hc:Hp A ((q:Nat):Int)with
  |true=>
   obtain⟨s,hs⟩:=hasP_t.1 hc
   refine hasP_t.2 ⟨s,?_⟩
   unfold D8
   rw [if_neg];exact hs
   rintro rfl
   rw [h]at hs;cases hs;exact hq rfl
  |false=>
   refine hasP_f.2 fun⟨s,hs⟩=>hasP_f.1 hc ⟨s,?_⟩
   unfold D8 at hs
   by_cases e:s=s0
   ·rw [if_pos e]at hs;cases hs
   ·rw [if_neg e]at hs;exact hs
 by_cases e:p / P=i
 ·rw [if_pos e]
  have hp:i*P+p % P=p:=by rw [←e,Nat.mul_comm];exact Nat.div_add_mod p P
  refine S8 (k:=p % P) ?_ ?_ (Nat.mod_lt _ hP) fun j hj hne=>key _ (by omega)
  ·rw [hp]
   refine hasP_f.2 fun⟨s,hs⟩=>?_
   unfold D8 at hs
   by_cases e2:s=s0
   ·rw [if_pos e2]at hs;cases hs
   ·rw [if_neg e2]at hs;exact e2 (inj s hs)
  ·rw [hp];exact hasP_t.2 ⟨s0,h⟩
 ·rw [if_neg e,Nat.add_zero]
  exact Rm fun j hj=>(key _ fun q=>e (by rw [←q];exact Aaj hj)).symm
theorem ge {A:Int→Option Int}{P i p:Nat}{s0:Int}(hP:0<P)(h:A s0=none)(hn: ∀s,A s≠some ((p:Nat):Int)):valA (Cr A (s0,((p:Nat):Int))) P i=valA A P i+if p / P=i then 1 else 0:=by
 have h1:Cr A (s0,((p:Nat):Int)) s0=some ((p:Nat):Int):=by unfold Cr;rw [if_pos rfl,if_pos (by simp only;omega)]
 have h2:D8 (Cr A (s0,((p:Nat):Int))) s0=A:=by
  funext s;unfold D8 Cr
  by_cases e:s=s0
  ·rw [if_pos e,e,h]
  ·rw [if_neg e,if_neg e]
 rw [Ot (A:=Cr A (s0,((p:Nat):Int))) hP h1 ?_,h2]
 intro s hs
 unfold Cr at hs
 by_cases e:s=s0
 ·exact e
 ·rw [if_neg e]at hs;exact absurd hs (hn s)
structure MpC (S nb P:Nat)(h:H)(m r1 r2 vb:Nat)(A:Int→Option Int)(M1 M2:List (Int×AV×Nat))(c1 c2:Nat)(cv:List AV):Prop where
 k1:Mk h r1 (M1.map (mE AI)) c1
 o1:MOk M1 c1
 k2:Mk h r2 (M2.map (mE AI)) c2
 o2:MOk M2 c2
 kv:Bk h vb cv
 vl:cv.length=nb
 vv: ∀i,i<nb→cv[i]?=some (AI ((valA A P i:Nat):Int))
 mr:MQ M1 M2 A
structure MpR (S nb P:Nat)(h:H)(m r1 r2 vb:Nat)(A:Int→Option Int):Prop where
 km:Bk h m [AI ((S:Nat):Int),AI ((nb:Nat):Int),AI ((P:Nat):Int),.map r1,.map r2,.slc vb 0 nb nb]
 ne:r1≠r2∧r1≠m∧r1≠vb∧r2≠m∧r2≠vb∧m≠vb
 rg: ∀s p,A s=some p→0≤s∧s<S∧0≤p∧p<((nb*P:Nat):Int)
 nz:0<nb∧nb≤12∧2≤P∧P≤6∧S≤1000
 ex: ∃M1 M2 c1 c2 cv,MpC S nb P h m r1 r2 vb A M1 M2 c1 c2 cv
theorem MpR.kp {S nb P:Nat}{h h':H}{m r1 r2 vb:Nat}{A:Int→Option Int}{B:Nat→Prop}(q:MpR S nb P h m r1 r2 vb A)(k:Kp B h h')(hm: ¬B m)(h1: ¬B r1)(h2: ¬B r2)(hv: ¬B vb):MpR S nb P h' m r1 r2 vb A:=by
 obtain⟨M1,M2,c1,c2,cv,q5⟩:=q.ex
 exact⟨As k hm q.km,q.ne,q.rg,q.nz,M1,M2,c1,c2,cv,⟨Rd k h1 q5.k1,q5.o1,Rd k h2 q5.k2,q5.o2,As k hv q5.kv,q5.vl,q5.vv,q5.mr⟩⟩
theorem MpR.k0 {S nb P:Nat}{h h':H}{m r1 r2 vb:Nat}{A:Int→Option Int}(q:MpR S nb P h m r1 r2 vb A)(k:K0 h h'):MpR S nb P h' m r1 r2 vb A:=q.kp k id id id id
theorem MpR.lt {S nb P:Nat}{h:H}{m r1 r2 vb:Nat}{A:Int→Option Int}(q:MpR S nb P h m r1 r2 vb A):m<h.n∧r1<h.n∧r2<h.n∧vb<h.n:=by
 obtain⟨M1,M2,c1,c2,cv,q5⟩:=q.ex
 exact⟨q.km.lt,q5.k1.lt,q5.k2.lt,q5.kv.lt⟩
theorem MpR.inj {S nb P:Nat}{h:H}{m r1 r2 vb:Nat}{A:Int→Option Int}(q:MpR S nb P h m r1 r2 vb A){s s' p:Int}(e:A s=some p)(e':A s'=some p):s=s':=by
 obtain⟨M1,M2,c1,c2,cv,q5⟩:=q.ex
 exact q5.mr.inj e e'
section
variable {P0:Program}{E:Env}{F:T CFn}{K:T (List AV×AV)}(L:Lg P0 E F K)(X:Fx F K)
include L X
section
variable {κ: Nat→Nat}{h:H}{d fm bb:Nat}{D:Dv}{cb:List AV}
theorem F4 (hd:Bk h d (dvC D fm bb)):Ct P0 E F K 57 [.ptr d 0] h fun v h'=>v= .bool false∧h'=h:=by
 refine Am L X.f57 X.k57 rfl rfl fun Q x cs G=>?_
 refine wk ?_
 refine ret X.f57 ?_
 exact⟨rfl,rfl⟩
theorem U1 (hd:Bk h d (dvC D fm bb)){i:Int}:Ct P0 E F K 58 [.ptr d 0,.int .i64 i] h fun v h'=>v= .bool (decide (0≤i∧i<D.nb))∧h'=h:=by
 refine Ae L X.f58 X.k58 rfl rfl fun Q x cs G=>?_
 refine wk ?_
 by_cases hi:0≤i
 ·refine wk ?_
  by_cases hj:i<D.nb
  ·refine wk ?_
   refine ret X.f58 ?_
   exact⟨by simp [single,hi,hj],rfl⟩
  ·refine wk ?_
   refine ret X.f58 ?_
   exact⟨by simp [single,hi,hj],rfl⟩
 ·refine wk ?_
  refine ret X.f58 ?_
  exact⟨by simp [single,hi],rfl⟩
theorem Jm (hd:Bk h d (dvC D fm bb)){i p:Int}:Ct P0 E F K 62 [.ptr d 0,.int .i64 i,.int .i64 p] h fun v h'=>v= .bool (decide ((0≤i∧i<D.nb)∧0≤p∧p<D.P))∧h'=h:=by
 refine B3 L X.f62 X.k62 rfl rfl fun Q x cs G=>?_
 refine wk ?_
 refine cal (c:=U1 L X hd) (g:=?_)
 rintro _ rfl
 by_cases hi:0≤i∧i<D.nb
 ·rw [decide_eq_true hi]
  refine wk ?_
  by_cases h1:0≤p
  ·refine wk ?_
   by_cases h2:p<D.P
   ·refine wk ?_
    refine ret X.f62 ?_
    exact⟨by simp [single,hi,h1,h2],rfl⟩
   ·refine wk ?_
    refine ret X.f62 ?_
    exact⟨by simp [single,h2],rfl⟩
  ·refine wk ?_
   refine ret X.f62 ?_
   exact⟨by simp [single,h1],rfl⟩
 ·rw [decide_eq_false hi]
  refine wk ?_
  refine ret X.f62 ?_
  exact⟨by simp [single,hi],rfl⟩
theorem S9 (hd:Bk h d (dvC D fm bb)):Ct P0 E F K 85 [.ptr d 0] h fun v h'=>v= .agg [.int .i64 ((D.nb:Nat):Int),.int .i64 ((D.P:Nat):Int),.int .i64 ((D.sz:Nat):Int),.int .i64 ((D.en:Nat):Int)]∧K0 h h':=by
 refine Am L X.f85 X.k85 rfl rfl fun Q x cs G=>?_
 refine wk ?_
 refine cal (c:=F4 L X lkp) (g:=?_)
 rintro _ rfl
 refine wk ?_
 refine ret X.f85 ?_
 exact⟨rfl,kps⟩
theorem Iw (hd:Bk h d (dvC D fm bb))(hb:Bk h bb cb){i nx:Nat}(hi:i<D.nb)(hc:cb[i*3+1]?=some (.int .i64 ((nx:Nat):Int))):Ct P0 E F K 20 [.ptr d 0,.int .i64 ((i:Nat):Int)] h fun v h'=>v= .int .i64 ((nx:Nat):Int)∧h'=h:=by
 refine Ae L X.f20 X.k20 rfl rfl fun Q x cs G=>?_
 refine wk ?_
 refine cal (c:=F4 L X hd) (g:=?_)
 rintro _ rfl
 refine wk ?_
 refine cal (c:=U1 L X hd) (g:=?_)
 rintro _ rfl
 rw [decide_eq_true (show 0≤(i:Int)∧(i:Int)<D.nb from⟨by omega,by omega⟩)]
 refine wk ?_
 refine ret X.f20 ?_
 exact⟨rfl,rfl⟩
end
end
section
variable {P0:Program}{E:Env}{F:T CFn}{K:T (List AV×AV)}(L:Lg P0 E F K)(X:Fx F K)
include L X
section
variable {h:H}
theorem Ix {v a b:Nat}(h1:a≤v)(h2:v≤b):Ct P0 E F K 130 [.int .i64 ((v:Nat):Int),.int .i64 ((a:Nat):Int),.int .i64 ((b:Nat):Int)] h fun u h'=>u= .bool true∧h'=h:=by
 refine B3 L X.f130 X.k130 rfl rfl fun Q x cs G=>?_
 refine wk ?_
 refine ret X.f130 ?_
 exact⟨rfl,rfl⟩
def Ll (g0 g1 g2 g3:Nat):List AV:= [.int .i64 ((g0:Nat):Int),.int .i64 ((g1:Nat):Int),.int .i64 ((g2:Nat):Int),.int .i64 ((g3:Nat):Int)]
theorem gf {g0 g1 g2 g3:Nat}(h0:2≤g0∧g0≤12)(h1:2≤g1∧g1≤6)(h2:12≤g2∧g2≤30)(h3:1≤g3∧g3≤1000):Ct P0 E F K 81 [.agg (Ll g0 g1 g2 g3)] h fun u h'=>u= .bool true∧K0 h h':=by
 refine Am L X.f81 X.k81 rfl rfl fun Q x cs G=>?_
 refine wk ?_
 refine cal (c:=Ix L X (by omega) (by omega)) (g:=?_)
 rintro _ rfl
 refine wk ?_
 refine cal (c:=Ix L X (by omega) (by omega)) (g:=?_)
 rintro _ rfl
 refine wk ?_
 refine cal (c:=Ix L X (by omega) (by omega)) (g:=?_)
 rintro _ rfl
 refine wk ?_
 refine cal (c:=Ix L X (by omega) (by omega)) (g:=?_)
 rintro _ rfl
 refine wk ?_
 refine ret X.f81 ?_
 exact⟨rfl,kps⟩
structure IntsR (κ: Nat→Nat)(h:H)(v:AV)(l:List Int):Prop where
 ex:(l= []∧v= .nils)∨(l= []∧ ∃a,v= .opq (.slice (some a) 0 0))∨ ∃b cap,v= .slc b 0 l.length cap∧Rk h b (l.map eI)∧κ b=0
omit L X in
theorem IntsR.fw {κ κ':Nat→Nat}{h h':H}{v:AV}{l:List Int}(q:IntsR κ h v l)(f:Fw κ h κ' h'):IntsR κ' h' v l:=by
 refine⟨?_⟩
 rcases q.ex with h1|h1|⟨b,cap,h1,h2,h3⟩
 ·exact .inl h1
 ·exact .inr (.inl h1)
 ·exact .inr (.inr ⟨b,cap,h1,h2.keep f.n (f.old b h2.lt h3),(f.col b h2.lt).trans h3⟩)
theorem ot {z:Int}(hz:0≤z):Ct P0 E F K 83 [eI z] h fun u h'=>u= .bool false∧h'=h:=by
 refine Am L X.f83 X.k83 rfl rfl fun Q x cs G=>?_
 refine wk ?_
 refine ret X.f83 ?_
 exact⟨rfl,rfl⟩
theorem Yk {κ: Nat→Nat}{v:AV}{l:List Int}{f:Nat}(q:IntsR κ h v l)(hlen:l.length<1000)(hf: ∀x∈l,∀h2,Ct P0 E F K f [eI x] h2 fun u h'=>u= .bool false∧h'=h2):Ct P0 E F K 131 [v,.fn (.func f) [] []] h fun u h'=>u= .int .i64 (-1)∧K0 h h':=by
 rcases q.ex with⟨rfl,rfl⟩|⟨rfl,a,rfl⟩|⟨b,cap,rfl,hb,-⟩
 ·refine Ae L X.f131 X.k131 rfl rfl fun Q x cs G=>?_
  refine wk ?_
  refine A9 L ?_
  refine wk ?_
  refine ret X.f131 ?_
  exact⟨rfl,kps⟩
 ·refine Ae L X.f131 X.k131 rfl rfl fun Q x cs G=>?_
  refine wk ?_
  refine A9 L ?_
  refine wk ?_
  refine ret X.f131 ?_
  exact⟨rfl,kps⟩
 ·refine Ae L X.f131 X.k131 rfl rfl fun Q x cs G=>?_
  refine wk ?_
  refine Co L (α:= Unit) (T:=fun i _=> [(8,some (.int .i64 ((i:Nat):Int))),(7,some (.int .i64 ((l.length:Nat):Int))),(0,some (.slc b 0 l.length cap)),(1,some (.fn (.func f) [] []))]) (n:=l.length)
   (R:=fun i _ h2=>True∧K0 h h2) (i0:=0) () tsb ⟨trivial,kps⟩ (Nat.zero_le _) ?_ ?_
  ·rintro i _ h2 hi ⟨-,k2⟩ ih
   have hk:=Sw k2 hb
   have hx:(l.map eI)[i]?=some (eI l[i]):=by rw [List.getElem?_map,List.getElem?_eq_getElem hi];rfl
   (try refine B6 L 1000 rfl ?_);(repeat(first|(apply st1 L rfl;exact⟨P9 rfl⟩;rfl)|(apply st1 L rfl;exact Wm rfl rfl rfl;rfl)|(apply st1 L rfl;exact Rf rfl rfl (by omega);rfl)|(apply st1 L rfl;exact Iv rfl rfl (by omega);rfl)|(apply st1 L rfl;exact Kb rfl rfl (by omega);rfl)))
   (apply st1 L rfl;exact F2 rfl lkr hx;rfl)
   refine wk ?_
   refine cal (c:=hf _ (List.getElem_mem hi) _) (g:=?_)
   rintro _ rfl
   refine wk ?_
   exact ih () _ _ ⟨trivial,kps⟩ tsb
  ·rintro _ h2 ⟨-,k2⟩
   refine wk ?_
   refine ret X.f131 ?_
   exact⟨rfl,k2⟩
theorem Kh {κ: Nat→Nat}{v:AV}{l:List Int}{f:Nat}(q:IntsR κ h v l)(hlen:l.length<1000)(hf: ∀x∈l,∀h2,Ct P0 E F K f [eI x] h2 fun u h'=>u= .bool false∧h'=h2):Ct P0 E F K 82 [v,.fn (.func f) [] []] h fun u h'=>u= .bool false∧K0 h h':=by
 refine Ae L X.f82 X.k82 rfl rfl fun Q x cs G=>?_
 refine wk ?_
 refine cal (c:=Yk L X q hlen hf) (g:=?_)
 rintro _ h2 ⟨rfl,k2⟩
 refine wk ?_
 refine ret X.f82 ?_
 exact⟨rfl,k2⟩
end
structure PgRow (P i:Nat)(s:Nat)(c:List AV):Prop where
 len:c.length=P*2
 nil: ∀j,j<P→c[j*2]?=some .nils
 st: ∀j,j<P→c[j*2+1]?=some (.int .i64 ((if j<i then s else 0:Nat):Int))
omit L X in
theorem PgRow.step {P i s:Nat}{c:List AV}(r:PgRow P i s c)(hi:i<P):PgRow P (i+1) s (c.set (i*2+1) (.int .i64 ((s:Nat):Int))):=by
 refine⟨by rw [List.length_set];exact r.len,fun j hj=>?_,fun j hj=>?_⟩
 ·rw [List.getElem?_set_ne (by omega)];exact r.nil j hj
 ·by_cases e:j=i
  ·subst e
   rw [List.getElem?_set_self (by rw [r.len];omega),if_pos (Nat.lt_succ_self j)]
  ·rw [List.getElem?_set_ne (by omega),r.st j hj]
   by_cases h1:j<i
   ·rw [if_pos h1,if_pos (by omega)]
   ·rw [if_neg h1,if_neg (by omega)]
omit L X in
theorem PgRow.init (s:Nat): ∀P,PgRow P 0 s (rl [.nils,.int .i64 ((0:Nat):Int)] P)
 |0=>⟨rfl,fun j hj=>by omega,fun j hj=>by omega⟩
 |P+1=>by
  have ih:=PgRow.init s P
  have e:rl [.nils,.int .i64 ((0:Nat):Int)] (P+1)= .nils:: .int .i64 ((0:Nat):Int)::rl [.nils,.int .i64 ((0:Nat):Int)] P:=rfl
  rw [e]
  have hl:=ih.len
  refine⟨by rw [List.length_cons,List.length_cons];omega,fun j hj=>?_,fun j hj=>?_⟩
  ·cases j with
   |zero=>rfl
   |succ j=>rw [show(j+1)*2=j*2+1+1 by omega];simpa using ih.nil j (by omega)
  ·cases j with
   |zero=>rfl
   |succ j=>rw [show(j+1)*2+1=j*2+1+1+1 by omega];simpa using ih.st j (by omega)
theorem U2 {h:H}{bb q P s:Nat}{cb:List AV}(hb:Bk h bb cb)(hq:q+1<cb.length)(hP:P<1000):
  Ct P0 E F K 84 [.ptr bb q,.int .i64 ((P:Nat):Int),.int .i64 ((s:Nat):Int)] h fun v h'=>v= .tup []∧ ∃pn c',h.n≤pn∧Bk h' bb ((cb.set q (.slc pn 0 P P)).set (q+1) (.int .i64 ((if s=1 then 0 else P:Nat):Int)))∧Bk h' pn c'∧PgRow P P s c'∧Kp (fun j=>j=bb) h h':=by
 have hbb:=hb.lt
 refine B3 L X.f84 X.k84 rfl rfl fun Q x cs G=>?_
 have hq0:q+0<cb.length:=by omega
 refine wk ?_
 have e1:(cb.set (q+0) (.slc h.n 0 P P))[q+0]?=some (.slc h.n 0 P P):=List.getElem?_set_self hq0
 refine wk ?_
 refine Co L (α:= Unit) (T:=fun i _=> [(17,some (.int .i64 ((i:Nat):Int))),(16,some (.int .i64 ((P:Nat):Int))),(0,some (.ptr bb q)),(1,some (.int .i64 ((P:Nat):Int))),(2,some (.int .i64 ((s:Nat):Int)))]) (n:=P)
  (R:=fun i _ h1=>Bk h1 bb (cb.set (q+0) (.slc h.n 0 P P))∧(∃c,Bk h1 h.n c∧PgRow P i s c)∧Kp (fun j=>j=bb) h h1) (i0:=0) () tsb ⟨lkp,⟨_,lkp,PgRow.init s P⟩,kps⟩ (Nat.zero_le _) ?_ ?_
 ·rintro i _ h1 hi ⟨hb1,⟨c,hc,hr⟩,hk⟩ ih
  have hlen:i*2+1<c.length:=by rw [hr.len];omega
  refine wk ?_
  exact ih () _ _ ⟨lkp,⟨_,lkp,hr.step hi⟩,kps⟩ tsb
 ·rintro _ h1 ⟨hb1,⟨c,hc,hr⟩,hk⟩
  have hlen:q+1<(cb.set (q+0) (.slc h.n 0 P P)).length:=by simpa using hq
  refine wk ?_
  by_cases hs:s=1
  ·refine wk ?_
   refine ret X.f84 ?_
   refine⟨rfl,h.n,c,Nat.le_refl _,?_,lkp,hr,kps⟩
   rw [if_pos hs];exact lkp
  ·have hlen2:q+1<((cb.set (q+0) (.slc h.n 0 P P)).set (q+1) (.int .i64 ((0:Nat):Int))).length:=by simpa using hq
   refine wk ?_
   refine ret X.f84 ?_
   refine⟨rfl,h.n,c,Nat.le_refl _,?_,lkp,hr,kps⟩
   rw [if_neg hs]
   exact Oi (List.set_set _) lkp
def Mt (l:List Int)(n:Nat):Bool:=decide (((n:Nat):Int)∈l)
omit L X in
theorem U3 (n:Nat):Mt [] n=false:=by simp [Mt]
omit L X in
theorem Yl {l:List Int}{i:Nat}{z:Int}(h:l[i]?=some z)(n:Nat):Mt (l.take (i+1)) n=(decide (((n:Nat):Int)=z) || Mt (l.take i) n):=by
 unfold Mt
 rw [List.take_add_one,h]
 by_cases e:((n:Nat):Int)=z
 ·simp [e]
 ·simp [e]
theorem Ou {κ: Nat→Nat}{h h0:H}{g0 g1 g2 g3 fm bb dv s2:Nat}{fl:List Int}{x:AFr}{cs:List AFr}{Q:Nat→AV→Prop}(h0':2≤g0∧g0≤12)(h1:2≤g1∧g1≤6)(h2:12≤g2∧g2≤30)(h3:1≤g3∧g3≤1000)
  (G: ∀v h',(∃d κ',v= .tup [.ptr d 0,.int .i64 ((0:Nat):Int)]∧K0 h0 h'∧DevR κ' h' d (Dv.new g0 g1 g2 g3 (Mt fl))∧ ∀b,b<h0.n→κ' b=κ b)→GO P0 E Q (finish v cs h' x))
  (kg:Bk h s2 (Ll g0 g1 g2 g3)) (kd:Bk h dv (dvL g0 g1 g2 g3 fm bb 0 (-1) 0 false)) (qfm:FltR h fm (Mt fl)) (kb:Bk h bb (rl [.nils,.int .i64 ((0:Nat):Int),.int .i64 ((0:Nat):Int)] g0)) (hne:dv≠bb∧dv≠fm∧bb≠fm∧s2≠bb∧h0.n≤dv∧h0.n≤bb∧h0.n≤fm) (k0:K0 h0 h)
  {lq:List (Nat×Option AV)} (ht:TSub (tms [(41,some (.int .i64 ((0:Nat):Int))),(40,some (.int .i64 ((g0:Nat):Int))),(6,some (.ptr dv 0)),(2,some (.ptr s2 0))]) (tms lq)):
  Good P0 E Q ⟨⟨30,cf30.ntmps,tms lq,[.code (.loop c30_31),.inBlock 2,.code c30_36],[],.run,false,none⟩,x::cs,h⟩:=by
 refine En L ht ?_
 have w1:=kd.lt
 have w2:=kb.lt
 have w3:=qfm.lt
 obtain⟨e1,e2,e3,e4,e5,e6,e7⟩:=hne
 refine Co L (α:= Nat→Nat) (T:=fun i _=> [(41,some (.int .i64 ((i:Nat):Int))),(40,some (.int .i64 ((g0:Nat):Int))),(6,some (.ptr dv 0)),(2,some (.ptr s2 0))]) (n:=g0)
  (R:=fun i κ' h5=>Bk h5 s2 (Ll g0 g1 g2 g3)∧Bk h5 (dv) (dvL g0 g1 g2 g3 fm bb 0 (-1) 0 false)∧FltR h5 fm (Mt fl)∧
   (∃cb,Bk h5 (bb) cb∧cb.length=g0*3∧(∀j,j<g0→cb[j*3+2]?=some (.int .i64 ((0:Nat):Int)))∧ ∀j,j<i→ ∃pn c,BlR κ' h5 g1 j ⟨Dg 1,0,0⟩ cb pn c)∧
   (κ' (dv)=1∧κ' (bb)=2∧κ' fm=0∧ ∀b,b<h0.n→κ' b=κ b)∧K0 h0 h5) (i0:=0)
  (fun b=>if b=dv then 1 else if b=bb then 2 else if b=fm then 0 else κ b) tsb ⟨lkp,lkp,(by exact qfm.k0 kps),⟨_,lkp,?_,?_,fun j hj=>by omega⟩,⟨?_,?_,?_,fun b hb=>?_⟩,kps⟩ (Nat.zero_le _) ?_ ?_
 ·rw [Q0];rfl
 ·intro j hj
  rw [T2 _ _ _ (by show _<_*3;omega),show(j*3+2) % [AV.nils,AV.int .i64 ((0:Nat):Int),AV.int .i64 ((0:Nat):Int)].length=2 by show(j*3+2) % 3=2;omega];rfl
 ·exact if_pos rfl
 ·rw [if_neg (by omega),if_pos rfl]
 ·rw [if_neg (by omega),if_neg (by omega),if_pos rfl]
 ·rw [if_neg (by omega),if_neg (by omega),if_neg (by omega)]
 ·rintro i κ1 h5 hi ⟨q1,q2,q3,⟨cb,q4,q5,q6,q7⟩,⟨q8,q9,q10,q11⟩,q12⟩ ih
  have b1:=q2.lt
  have b3:=q3.lt
  have b4:=q4.lt
  refine wk ?_
  refine cal (c:=U2 L X (s:=1) lkp (by omega) (by omega)) (g:=?_)
  rintro _ h6 ⟨rfl,pn,c',r1,r3,r2x,r4,r5⟩
  have b2:=r5.n
  simp only [Al]at r1 b2
  refine wk ?_
  have hw:Fw κ1 h5 (upd κ1 pn (3+i)) h6:=⟨b2,fun b hb hc=>r5.old b hb fun e=>(by rw [e,q9]at hc;omega),fun b hb=>upd_ne _ _ (by omega)⟩
  have hbl:i*3+1<cb.length:=by rw [q5];omega
  refine ih (upd κ1 pn (3+i)) _ _ ⟨lkp,lkp,q3.kp r5 (by omega),⟨_,lkp,?_,?_,?_⟩,⟨?_,?_,?_,?_⟩,kps⟩ tsb
  ·rw [List.length_set,List.length_set];exact q5
  ·intro j hj
   rw [List.getElem?_set_ne (by omega),List.getElem?_set_ne (by omega)];exact q6 j hj
  ·intro j hj
   have hj1:j<g0:=by omega
   by_cases hji:j=i
   ·subst hji
    refine⟨pn,c',?_,?_,?_,⟨r2x,upd_eq _ _ _,r4.len,fun m hm=>⟨?_,fun _ _=>r4.nil m hm,fun hs=>?_⟩⟩⟩
    ·rw [List.getElem?_set_ne (by omega),List.getElem?_set_self (by omega)]
    ·rw [List.getElem?_set_self (by rw [List.length_set];omega)];rfl
    ·rw [List.getElem?_set_ne (by omega),List.getElem?_set_ne (by omega)];exact q6 j hj1
    ·rw [r4.st m hm,if_pos hm];rfl
    ·exact absurd hs (by show¬(1=2∨1=3);omega)
   ·obtain⟨pm,c,hr⟩:=q7 j (by omega)
    have h7:pm≠bb:=fun e=>by have:=hr.row.col;rw [e,q9]at this;omega
    have h8:=hr.fw hw (r5.old pm hr.row.k.lt (by omega))
    refine⟨pm,c,?_,?_,?_,h8.row⟩
    ·rw [List.getElem?_set_ne (by omega),List.getElem?_set_ne (by omega)];exact h8.c0
    ·rw [List.getElem?_set_ne (by omega),List.getElem?_set_ne (by omega)];exact h8.c1
    ·rw [List.getElem?_set_ne (by omega),List.getElem?_set_ne (by omega)];exact h8.c2
  ·rw [upd_ne _ _ (by omega)];exact q8
  ·rw [upd_ne _ _ (by omega)];exact q9
  ·rw [upd_ne _ _ (by omega)];exact q10
  ·intro b hb;rw [upd_ne _ _ (by omega)];exact q11 b hb
 ·rintro κ1 h5 ⟨q1,q2,q3,⟨cb,q4,q5,q6,q7⟩,⟨q8,q9,q10,q11⟩,q12⟩
  refine wk ?_
  refine ret X.f30 ?_
  have b1:=q2.lt
  refine⟨dv,κ1,rfl,q12,⟨⟨⟨h0',h1,h2,h3⟩,by show(0:Nat)<100000;omega,Nat.zero_le _,by show(-1:Int)≤ -1∧(-1:Int)<100000;omega,fun i hi=>⟨Nat.zero_le _,fun j hj=>absurd hj (Nat.not_lt_zero j),fun j _ _=>rfl,fun j _=>⟨fun hs=>absurd hs (by show¬(1=2∨1=3);omega),fun _ _=>rfl,(by show 1≤1∧1≤5;omega)⟩,Nat.zero_le _⟩⟩,fm,bb,cb,q2,q8,q3,q10,q4,q9,q5,h0'.2,q7⟩,q11⟩
theorem ve {κ: Nat→Nat}{h:H}{g0 g1 g2 g3:Nat}(h0:2≤g0∧g0≤12)(h1:2≤g1∧g1≤6)(h2:12≤g2∧g2≤30)(h3:1≤g3∧g3≤1000){v:AV}{fl:List Int}(qf:IntsR κ h v fl)(hf: ∀x∈fl,0≤x)(hfn:fl.length<1000):
  Ct P0 E F K 30 [.agg (Ll g0 g1 g2 g3),v] h fun v h'=> ∃d κ',v= .tup [.ptr d 0,.int .i64 ((0:Nat):Int)]∧K0 h h'∧DevR κ' h' d (Dv.new g0 g1 g2 g3 (Mt fl))∧ ∀b,b<h.n→κ' b=κ b:=by
 rcases qf.ex with⟨rfl,rfl⟩|⟨rfl,a,rfl⟩|⟨b,cap,rfl,hb,-⟩
 all_goals
  refine Ae L X.f30 X.k30 rfl rfl fun Q x cs G=>?_
  refine wk ?_
  refine cal (c:=gf L X h0 h1 h2 h3) (g:=?_)
  rintro _ h4 ⟨rfl,hk4⟩
  have n4:=hk4.n
  simp only [Al]at n4
  refine wk ?_
  refine cal (c:=Kh L X (qf.fw (Kp.fw0 (by exact kps))) hfn (fun x hx h2=>ot L X (hf x hx))) (g:=?_)
  rintro _ h5 ⟨rfl,hk5⟩
  have n5:=hk5.n
  simp only [Al]at n5
  refine wk ?_
 ·refine A9 L ?_
  refine wk ?_
  exact Ou L X (κ:= κ) (h0:=h) (dv:=h5.n+1+1) (bb:=h5.n+1) (fm:=h5.n) (s2:=h.n) h0 h1 h2 h3 G lkp lkp ⟨[],0,lkm,fun i=>by rw [U3];rfl⟩ lkp (by omega) kps tsb
 ·refine A9 L ?_
  refine wk ?_
  exact Ou L X (κ:= κ) (h0:=h) (dv:=h5.n+1+1) (bb:=h5.n+1) (fm:=h5.n) (s2:=h.n) h0 h1 h2 h3 G lkp lkp ⟨[],0,lkm,fun i=>by rw [U3];rfl⟩ lkp (by omega) kps tsb
 ·have lb:=hb.lt
  refine Co L (α:= Unit) (T:=fun i _=> [(26,some (.int .i64 ((i:Nat):Int))),(25,some (.int .i64 ((fl.length:Nat):Int))),(24,some (.slc b 0 fl.length cap)),(6,some (.ptr (h5.n+1+1) 0)),(2,some (.ptr h.n 0))]) (n:=fl.length)
   (R:=fun i _ h6=>Bk h6 h.n (Ll g0 g1 g2 g3)∧Bk h6 (h5.n+1+1) (dvL g0 g1 g2 g3 h5.n (h5.n+1) 0 (-1) 0 false)∧(∃M ck,Mk h6 h5.n (M.map (mE eI)) ck∧MOk M ck∧ ∀j:Nat,Bo M ((j:Nat):Int)=if Mt (fl.take i) j=true then some (.bool true)else none)∧Bk h6 (h5.n+1) (rl [.nils,.int .i64 ((0:Nat):Int),.int .i64 ((0:Nat):Int)] g0)∧K0 h h6) (i0:=0)
   () tsb ⟨lkp,lkp,⟨[],0,lkm,MOk.nil,fun i=>by rw [List.take_zero,U3];rfl⟩,lkp,kps⟩ (Nat.zero_le _) ?_ ?_
  ·rintro i _ h6 hi ⟨q1,q2,⟨M,ck,q3,q4,q5⟩,q6,q7⟩ ih
   have l2:=q2.lt
   have l3:=q3.lt
   have l6:=q6.lt
   have l1:=q1.lt
   have hk:=Sw q7 hb
   have hx:(fl.map eI)[i]?=some (eI fl[i]):=by rw [List.getElem?_map,List.getElem?_eq_getElem hi];rfl
   (try refine B6 L 1000 rfl ?_);(repeat(first|(apply st1 L rfl;exact⟨P9 rfl⟩;rfl)|(apply st1 L rfl;exact Wm rfl rfl rfl;rfl)|(apply st1 L rfl;exact Rf rfl rfl (by omega);rfl)|(apply st1 L rfl;exact Iv rfl rfl (by omega);rfl)|(apply st1 L rfl;exact Kb rfl rfl (by omega);rfl)))
   (apply st1 L rfl;exact F2 rfl lkr hx;rfl)
   refine wk ?_
   (apply Jj L rfl;exact Hb (KE.int .i64) q4 rfl rfl rfl lkq;rfl)
   refine wk ?_
   refine ih () _ _ ⟨lkp,lkp,⟨_,_,lkq,q4.set _ _,fun j=>?_⟩,lkp,kps⟩ tsb
   rw [Cu,q5,Yl (List.getElem?_eq_getElem hi)]
   by_cases e:((j:Nat):Int)=fl[i]
   ·rw [if_pos e,decide_eq_true e];rfl
   ·rw [if_neg e,decide_eq_false e];rfl
  ·rintro _ h6 ⟨q1,q2,⟨M,ck,q3,q4,q5⟩,q6,q7⟩
   refine wk ?_
   exact Ou L X (κ:= κ) (h0:=h) (dv:=h5.n+1+1) (bb:=h5.n+1) (fm:=h5.n) (s2:=h.n) h0 h1 h2 h3 G lkp lkp ⟨M,ck,lkq,fun i=>by rw [q5,List.take_length]⟩ lkp (by omega) kps tsb
end
section
variable {P0:Program}{E:Env}{F:T CFn}{K:T (List AV×AV)}(L:Lg P0 E F K)(X:Fx F K)
include L X
section
variable {h:H}{d fm bb b2 b3 q:Nat}{D:Dv}{cb:List AV}
theorem Qe (hb3:Bk h b3 [.ptr bb q])(hb2:Bk h b2 [.ptr d 0])(hd:Bk h d (dvC D fm bb))(hb:Bk h bb cb)(hq:q+1<cb.length)(hP:D.P<1000):
  Ct P0 E F K 175 [.ptr b3 0,.ptr b2 0] h fun v h'=> ∃pn c',h.n≤pn∧Bk h' bb ((cb.set q (.slc pn 0 D.P D.P)).set (q+1) (.int .i64 ((D.P:Nat):Int)))∧Bk h' pn c'∧PgRow D.P D.P 5 c'∧Kp (fun j=>j=bb) h h':=by
 refine Ae L X.f175 X.k175 rfl rfl fun Q x cs G=>?_
 refine wk ?_
 refine cal (c:=U2 L X (s:=5) lkp hq hP) (g:=?_)
 rintro _ h1 ⟨rfl,r⟩
 refine wk ?_
 refine ret X.f175 ?_
 exact r
theorem Ym (hb3:Bk h b3 [.ptr bb q])(hb2:Bk h b2 [.ptr d 0])(hd:Bk h d (dvC D fm bb))(hb:Bk h bb cb)(hq:q+1<cb.length)(hP:D.P<1000):
  Ct P0 E F K 177 [.ptr b3 0,.ptr b2 0] h fun v h'=> ∃pn c',h.n≤pn∧Bk h' bb ((cb.set q (.slc pn 0 D.P D.P)).set (q+1) (.int .i64 ((0:Nat):Int)))∧Bk h' pn c'∧PgRow D.P D.P 1 c'∧Kp (fun j=>j=bb) h h':=by
 refine Ae L X.f177 X.k177 rfl rfl fun Q x cs G=>?_
 refine wk ?_
 refine cal (c:=U2 L X (s:=1) lkp hq hP) (g:=?_)
 rintro _ h1 ⟨rfl,r⟩
 refine wk ?_
 refine ret X.f177 ?_
 exact r
section
variable {fi:Nat}{cp:List AV}{f1 f2:AV}{e:Int}{post:H→AV→H→Prop}
theorem Mn (hd:Bk h d (dvC D fm bb))(hn:D.n<100000)(hc:((D.n:Nat):Int)=D.cut)
  (hi: ∀h1,Bk h1 d (dvC {D with n:=D.n+1,off:=true} fm bb)→Kp (fun j=>j=d) h h1→Ct P0 E F K fi cp h1 (post h1)):
  Ct P0 E F K 176 [.ptr d 0,f1,f2,.fn (.func fi) [] cp,.int .i64 e] h fun v h'=>v= .int .i64 ((50:Nat):Int)∧ ∃h1 u,Bk h1 d (dvC {D with n:=D.n+1,off:=true} fm bb)∧Kp (fun j=>j=d) h h1∧post h1 u h':=by
 refine Ji L X.f176 X.k176 rfl rfl fun Q x cs G=>?_
 refine wk ?_
 refine cal (c:=hi _ lkp kps) (g:=?_)
 rintro u h2 hp2
 refine wk ?_
 refine ret X.f176 ?_
 exact⟨rfl,_,u,lkp,kps,hp2⟩
theorem Mo (hd:Bk h d (dvC D fm bb))(hf:FltR h fm D.flt)(hfd:fm≠d)(hn:D.n<100000)(hc:((D.n:Nat):Int)≠D.cut)(hq:D.flt D.n=false)
  (hi: ∀h1,Bk h1 d (dvC {D with n:=D.n+1} fm bb)→Kp (fun j=>j=d) h h1→Ct P0 E F K fi cp h1 (post h1)):
  Ct P0 E F K 176 [.ptr d 0,.fn (.func fi) [] cp,f1,f2,.int .i64 e] h fun v h'=>v= .int .i64 ((0:Nat):Int)∧ ∃h1 u,Bk h1 d (dvC {D with n:=D.n+1} fm bb)∧Kp (fun j=>j=d) h h1∧post h1 u h':=by
 obtain⟨M,ck,k1,k2⟩:=hf.ex
 have k3:=k2 D.n
 rw [hq]at k3
 refine Ji L X.f176 X.k176 rfl rfl fun Q x cs G=>?_
 refine wk ?_
 (apply st1 L rfl;exact Dy (KE.int .i64) rfl rfl lkq;rfl)
 rw [k3]
 refine wk ?_
 refine cal (c:=hi _ lkp kps) (g:=?_)
 rintro u h2 hp2
 refine wk ?_
 refine ret X.f176 ?_
 exact⟨rfl,_,u,lkp,kps,hp2⟩
theorem Mp (hd:Bk h d (dvC D fm bb))(hf:FltR h fm D.flt)(hfd:fm≠d)(hn:D.n<100000)(hc:((D.n:Nat):Int)≠D.cut)(hq:D.flt D.n=true)
  (hi: ∀h1,Bk h1 d (dvC {D with n:=D.n+1} fm bb)→Kp (fun j=>j=d) h h1→Ct P0 E F K fi cp h1 (post h1)):
  Ct P0 E F K 176 [.ptr d 0,f1,.fn (.func fi) [] cp,f2,.int .i64 e] h fun v h'=>v= .int .i64 e∧ ∃h1 u,Bk h1 d (dvC {D with n:=D.n+1} fm bb)∧Kp (fun j=>j=d) h h1∧post h1 u h':=by
 obtain⟨M,ck,k1,k2⟩:=hf.ex
 have k3:=k2 D.n
 rw [hq]at k3
 refine Ji L X.f176 X.k176 rfl rfl fun Q x cs G=>?_
 refine wk ?_
 (apply st1 L rfl;exact Dy (KE.int .i64) rfl rfl lkq;rfl)
 rw [k3]
 refine wk ?_
 refine cal (c:=hi _ lkp kps) (g:=?_)
 rintro u h2 hp2
 refine wk ?_
 refine ret X.f176 ?_
 exact⟨rfl,_,u,lkp,kps,hp2⟩
end
end
end
section
variable {P0:Program}{E:Env}{F:T CFn}{K:T (List AV×AV)}(L:Lg P0 E F K)(X:Fx F K)
include L X
omit L X in
theorem DevC.newRow {κ: Nat→Nat}{h h':H}{d fm bb i s nx er pn:Nat}{D D':Dv}{cb c':List AV}(q:DevC κ h d D fm bb cb)(hi:i<D.nb)(hnb:D'.nb=D.nb)(hP:D'.P=D.P)(hfl:D'.flt=D.flt)(hbl:D'.bl=upd D.bl i ⟨Dg s,nx,er⟩)(hs:s≠2∧s≠3)
  (k:Kp (fun j=>j=d∨j=bb) h h') (dk:Bk h' d (dvC D' fm bb)) (bk:Bk h' bb (((cb.set (i*3+2) (.int .i64 ((er:Nat):Int))).set (i*3) (.slc pn 0 D.P D.P)).set (i*3+1) (.int .i64 ((nx:Nat):Int))))
  (rk:Bk h' pn c') (r:PgRow D.P D.P s c') (hp:h.n≤pn): ∃κ' cb',DevC κ' h' d D' fm bb cb'∧Ch κ h κ' h':=by
 have b1:=q.dk.lt
 have b2:=q.bk.lt
 have b3:=q.fk.lt
 have l:=q.blen
 have c1:=q.dcol
 have c2:=q.bcol
 have c3:=q.fcol
 have hch:Ch κ h (upd κ pn (3+i)) h':=⟨k.mono fun j hj=>by rcases hj with e|e <;> subst e <;> omega,fun b hb=>upd_ne _ _ (by omega)⟩
 refine⟨upd κ pn (3+i),_,⟨dk,(upd_ne _ _ (by omega)).trans c1,by rw [hfl];exact q.fk.kp k (by intro e;rcases e with e|e <;> subst e <;> omega),(upd_ne _ _ (by omega)).trans c3,bk,(upd_ne _ _ (by omega)).trans c2,?_,by rw [hnb];exact q.nb,fun j hj=>?_⟩,hch⟩
 ·rw [List.length_set,List.length_set,List.length_set,hnb];exact l
 ·rw [hnb]at hj
  by_cases e:j=i
  ·subst e
   refine⟨pn,c',?_,?_,?_,rk,upd_eq _ _ _,by rw [hP];exact r.len,fun m hm=>?_⟩
   ·rw [List.getElem?_set_ne (by omega),List.getElem?_set_self (by rw [List.length_set];omega),hP]
   ·rw [List.getElem?_set_self (by rw [List.length_set,List.length_set];omega),hbl,upd_eq]
   ·rw [List.getElem?_set_ne (by omega),List.getElem?_set_ne (by omega),List.getElem?_set_self (by omega),hbl,upd_eq]
   ·rw [hP]at hm
    rw [hbl,upd_eq]
    refine⟨?_,fun _ _=>r.nil m hm,fun h1=>absurd h1 (by show¬(s=2∨s=3);omega)⟩
    rw [r.st m hm,if_pos hm];rfl
  ·obtain⟨pm,c,hr⟩:=q.rows j hj
   have h7:=hr.row.col
   have h8:=hr.fw hch.fw (k.old pm hr.row.k.lt (by intro e;rcases e with e|e <;> subst e <;> omega))
   rw [hP,hbl,upd_ne _ _ e]
   refine⟨pm,c,?_,?_,?_,h8.row⟩
   ·rw [List.getElem?_set_ne (by omega),List.getElem?_set_ne (by omega),List.getElem?_set_ne (by omega)];exact h8.c0
   ·rw [List.getElem?_set_ne (by omega),List.getElem?_set_ne (by omega),List.getElem?_set_ne (by omega)];exact h8.c1
   ·rw [List.getElem?_set_ne (by omega),List.getElem?_set_ne (by omega),List.getElem?_set_ne (by omega)];exact h8.c2
omit L X in
theorem Dv.Ok.row {D D':Dv}{i s nx er:Nat}(q:D.Ok)(hg:D'.nb=D.nb∧D'.P=D.P∧D'.sz=D.sz∧D'.en=D.en)(hn:D'.n<100000)(hb:D'.byt=D.byt)(hc:D'.cut=D.cut)(hbl:D'.bl=upd D.bl i ⟨Dg s,nx,er⟩)(hs:s=1∧nx=0∨s=5∧nx=D.P)(he:er≤D.en):D'.Ok:=by
 obtain⟨g1,g2,g3,g4⟩:=hg
 refine⟨⟨by rw [g1];exact q.g.nb,by rw [g2];exact q.g.P,by rw [g3];exact q.g.sz,by rw [g4];exact q.g.en⟩,hn,by rw [hb,g3];exact q.byt,by rw [hc];exact q.cut,fun j hj=>?_⟩
 rw [g1]at hj
 rw [hbl]
 by_cases e:j=i
 ·subst e
  rw [upd_eq]
  have hpg: ∀m,((Dg s) m).Ok D'.sz:=fun m=>⟨fun h1=>absurd h1 (by show¬(s=2∨s=3);omega),fun _ _=>rfl,(by show 1≤s∧s≤5;omega)⟩
  rcases hs with⟨h1,h2⟩|⟨h1,h2⟩ <;> subst h1 <;> subst h2
  ·exact⟨Nat.zero_le _,fun m hm=>absurd hm (Nat.not_lt_zero m),fun m _ _=>rfl,fun m _=>hpg m,by rw [g4];exact he⟩
  ·exact⟨by rw [g2];exact Nat.le_refl _,fun m _=>(by show 5≠1;omega),fun m h1 h2=>absurd h2 (by rw [g2];show¬m<D.P;exact Nat.not_lt.2 h1),fun m _=>hpg m,by rw [g4];exact he⟩
 ·rw [upd_ne _ _ e]
  have h1:=q.bl j hj
  exact⟨by rw [g2];exact h1.nx,h1.lo,by rw [g2];exact h1.hi,by rw [g2,g3];exact h1.pg,by rw [g4];exact h1.er⟩
theorem gg {κ: Nat→Nat}{h:H}{d fm bb i:Nat}{D:Dv}{cb:List AV}(q:DevC κ h d D fm bb cb)(ok:D.Ok)(hn:D.n+1<100000)(hi:i<D.nb)(hoff:D.off=false)(he:(D.bl i).er<D.en):
  Ct P0 E F K 149 [.ptr d 0,.ptr bb (i*3)] h fun v h'=>v= .int .i64 (((D.erase i).2:Nat):Int)∧ ∃κ',DevR κ' h' d (D.erase i).1∧Ch κ h κ' h':=by
 obtain⟨pn,c,hr⟩:=q.rows i hi
 have hc2:=hr.c2
 have b1:=q.dk.lt
 have b2:=q.bk.lt
 have b3:=q.fk.lt
 have l:=q.blen
 have l2:i*3+2<cb.length:=by omega
 have c1:=q.dcol
 have c2:=q.bcol
 have c3:=q.fcol
 have hdk:=q.dk
 have hbk:=q.bk
 have hfk:=q.fk
 have hen:=ok.g.en
 have hgP:=ok.g.P
 have hdb:d≠bb:=fun e=>by rw [e]at c1;omega
 have hdf:fm≠d:=fun e=>by rw [e]at c3;omega
 have hbf:fm≠bb:=fun e=>by rw [e]at c3;omega
 have l3:i*3+1<(cb.set (i*3+2) (.int .i64 (((D.bl i).er+1:Nat):Int))).length:=by rw [List.length_set];omega
 have e0:D.erase i=if(D.n:Int)=D.cut then({D with bl:=upd D.bl i ⟨Dg 5,D.P,(D.bl i).er+1⟩,n:=D.n+1,off:=true},50)else if D.flt D.n=true then({D with bl:=upd D.bl i ⟨Dg 5,D.P,(D.bl i).er+1⟩,n:=D.n+1},55)else({D with bl:=upd D.bl i ⟨Dg 1,0,(D.bl i).er+1⟩,n:=D.n+1},0):=by
  unfold Dv.erase
  rw [if_pos ⟨by omega,by omega⟩,hoff,if_neg (by simp),Int.toNat_natCast,if_neg (by omega)]
 refine Ae L X.f149 X.k149 rfl rfl fun Q x cs G=>?_
 refine wk ?_
 by_cases hc:(D.n:Int)=D.cut
 ·refine cal (c:=Mn L X lkp (by omega) hc fun h2 k1 k2=>Qe L X (b3:=h.n+1) (b2:=h.n) lkp lkp k1 lkp l3 (by show D.P<1000;omega)) (g:=?_)
  rintro _ h2 ⟨rfl,h1,u,r1,r2,pn',c',r3,r4,r5,r6,r7⟩
  refine wk ?_
  refine ret X.f149 ?_
  rw [e0,if_pos hc]
  refine⟨rfl,?_⟩
  have k2:Kp (fun j=>j=d∨j=bb) h h2:=Kp.trS r7 (fun _ _ e=> .inr e) (Kp.trS r2 (fun _ _ e=> .inl e) (Kp.st (.inr (.inr rfl)) (Kp.nw (Kp.nw (.refl _)))))
  have n2:=r2.n
  simp only [Al]at n2
  obtain⟨κ',cb',w1,w2⟩:=q.newRow (D':= {D with bl:=upd D.bl i ⟨Dg 5,D.P,(D.bl i).er+1⟩,n:=D.n+1,off:=true}) hi rfl rfl rfl rfl (by omega) k2 (As r7 hdb r1) r4 r5 r6 (by omega)
  exact⟨κ',⟨ok.row (D':= {D with bl:=upd D.bl i ⟨Dg 5,D.P,(D.bl i).er+1⟩,n:=D.n+1,off:=true}) ⟨rfl,rfl,rfl,rfl⟩ hn rfl rfl rfl (.inr ⟨rfl,rfl⟩) (by omega),_,_,_,w1⟩,w2⟩
 ·cases hq:D.flt D.n with
  |true=>
   refine cal (c:=Mp L X lkp (hfk.kp (S:=fun j=>j=bb) kps hbf) hdf (by omega) hc hq fun h2 k1 k2=>Qe L X (b3:=h.n+1) (b2:=h.n) lkp lkp k1 lkp l3 (by show D.P<1000;omega)) (g:=?_)
   rintro _ h2 ⟨rfl,h1,u,r1,r2,pn',c',r3,r4,r5,r6,r7⟩
   refine wk ?_
   refine ret X.f149 ?_
   rw [e0,if_neg hc,if_pos hq]
   refine⟨rfl,?_⟩
   have k2:Kp (fun j=>j=d∨j=bb) h h2:=Kp.trS r7 (fun _ _ e=> .inr e) (Kp.trS r2 (fun _ _ e=> .inl e) (Kp.st (.inr (.inr rfl)) (Kp.nw (Kp.nw (.refl _)))))
   have n2:=r2.n
   simp only [Al]at n2
   obtain⟨κ',cb',w1,w2⟩:=q.newRow (D':= {D with bl:=upd D.bl i ⟨Dg 5,D.P,(D.bl i).er+1⟩,n:=D.n+1}) hi rfl rfl rfl rfl (by omega) k2 (As r7 hdb r1) r4 r5 r6 (by omega)
   exact⟨κ',⟨ok.row (D':= {D with bl:=upd D.bl i ⟨Dg 5,D.P,(D.bl i).er+1⟩,n:=D.n+1}) ⟨rfl,rfl,rfl,rfl⟩ hn rfl rfl rfl (.inr ⟨rfl,rfl⟩) (by omega),_,_,_,w1⟩,w2⟩
  |false=>
   refine cal (c:=Mo L X lkp (hfk.kp (S:=fun j=>j=bb) kps hbf) hdf (by omega) hc hq fun h2 k1 k2=>Ym L X (b3:=h.n+1) (b2:=h.n) lkp lkp k1 lkp l3 (by show D.P<1000;omega)) (g:=?_)
   rintro _ h2 ⟨rfl,h1,u,r1,r2,pn',c',r3,r4,r5,r6,r7⟩
   refine wk ?_
   refine ret X.f149 ?_
   rw [e0,if_neg hc,if_neg (by rw [hq];simp)]
   refine⟨rfl,?_⟩
   have k2:Kp (fun j=>j=d∨j=bb) h h2:=Kp.trS r7 (fun _ _ e=> .inr e) (Kp.trS r2 (fun _ _ e=> .inl e) (Kp.st (.inr (.inr rfl)) (Kp.nw (Kp.nw (.refl _)))))
   have n2:=r2.n
   simp only [Al]at n2
   obtain⟨κ',cb',w1,w2⟩:=q.newRow (D':= {D with bl:=upd D.bl i ⟨Dg 1,0,(D.bl i).er+1⟩,n:=D.n+1}) hi rfl rfl rfl rfl (by omega) k2 (As r7 hdb r1) r4 r5 r6 (by omega)
   exact⟨κ',⟨ok.row (D':= {D with bl:=upd D.bl i ⟨Dg 1,0,(D.bl i).er+1⟩,n:=D.n+1}) ⟨rfl,rfl,rfl,rfl⟩ hn rfl rfl rfl (.inl ⟨rfl,rfl⟩) (by omega),_,_,_,w1⟩,w2⟩
end
section
variable {P0:Program}{E:Env}{F:T CFn}{K:T (List AV×AV)}(L:Lg P0 E F K)(X:Fx F K)
include L X
theorem Yn {κ: Nat→Nat}{h:H}{d:Nat}{D:Dv}{i:Int}(r:DevR κ h d D)(hn:D.n+1<100000):
  Ct P0 E F K 107 [.ptr d 0,.int .i64 i] h fun v h'=>v= .int .i64 (((D.erase i).2:Nat):Int)∧ ∃κ',DevR κ' h' d (D.erase i).1∧Ch κ h κ' h':=by
 obtain⟨ok,fm,bb,cb,q⟩:=r
 have hd:=q.dk
 refine Ae L X.f107 X.k107 rfl rfl fun Q x cs G=>?_
 refine wk ?_
 refine cal (c:=F4 L X hd) (g:=?_)
 rintro _ rfl
 refine wk ?_
 refine cal (c:=U1 L X hd) (g:=?_)
 rintro _ rfl
 by_cases hi:0≤i∧i<D.nb
 ·rw [decide_eq_true hi]
  cases hoff:D.off with
  |true=>
   have e0:D.erase i=(D,50):=by unfold Dv.erase;rw [if_pos hi,if_pos hoff]
   unfold dvC dvL at hd
   rw [hoff]at hd
   refine wk ?_
   refine ret X.f107 ?_
   rw [e0]
   exact⟨rfl,κ,⟨ok,fm,bb,cb,q⟩,.refl _ _⟩
  |false=>
   unfold dvC dvL at hd
   rw [hoff]at hd
   obtain⟨j,rfl⟩: ∃j:Nat,i=j:=⟨i.toNat,by omega⟩
   have hj:j<D.nb:=by omega
   obtain⟨pn,c,hr⟩:=q.rows j hj
   have hc2:=hr.c2
   have hbk:=q.bk
   have hen:=ok.g.en
   have hbe:=(ok.bl j hj).er
   refine wk ?_
   by_cases he:D.en≤(D.bl j).er
   ·have e0:D.erase j=(D,56):=by unfold Dv.erase;rw [if_pos hi,if_neg (by rw [hoff];simp),Int.toNat_natCast,if_pos he]
    refine wk ?_
    refine ret X.f107 ?_
    rw [e0]
    exact⟨rfl,κ,⟨ok,fm,bb,cb,q⟩,.refl _ _⟩
   ·refine wk ?_
    refine cal (c:=gg L X q ok hn hj hoff (by omega)) (g:=?_)
    rintro _ h1 ⟨rfl,r⟩
    refine wk ?_
    refine ret X.f107 ?_
    exact⟨rfl,r⟩
 ·rw [decide_eq_false hi]
  have e0:D.erase i=(D,2):=by unfold Dv.erase;rw [if_neg hi]
  refine wk ?_
  refine ret X.f107 ?_
  rw [e0]
  exact⟨rfl,κ,⟨ok,fm,bb,cb,q⟩,.refl _ _⟩
end
section
variable {P0:Program}{E:Env}{F:T CFn}{K:T (List AV×AV)}(L:Lg P0 E F K)(X:Fx F K)
include L X
theorem ou {h:H}{n:Nat}(h0:0<n)(hn:n<10000):Ct P0 E F K 156 [.nils,.int .i64 ((n:Nat):Int)] h fun v h'=> ∃b,v= .slc b 0 0 (Aa+1)∧(∃c,Bk h' b c)∧h.n≤b∧K0 h h':=by
 refine Ae L X.f156 X.k156 rfl rfl fun Q x cs G=>?_
 refine wk ?_
 (apply st1 L rfl;exact zd rfl rfl (by omega) (by omega) (by omega) (by omega);rfl)
 refine wk ?_
 refine ret X.f156 ?_
 exact⟨h.n,rfl,⟨_,lkp⟩,Nat.le_refl _,kps⟩
theorem Lm {h:H}{pb b1 o1 n1 c1 b2 o2 n2 c2:Nat}{bs1 bs2:List Nat}(hp1:Bk h pb [.slc b1 o1 n1 c1,.slc b2 o2 n2 c2])(k1:BS h b1 o1 bs1)(k2:BS h b2 o2 bs2)(e1:bs1.length=n1)(e2:bs2.length=n2)(h1:0<n1∧n1<1000)(h2:0<n2∧n2<1000):
  Ct P0 E F K 114 [.slc pb 0 2 2] h fun v h'=> ∃b,v= .slc b 0 (n1+n2) (Aa+1)∧BS h' b 0 (bs1++bs2)∧h.n≤b∧K0 h h':=by
 have l1:=hp1.lt
 have l2:=k1.lt_n
 have l3:=k2.lt_n
 have a1:=k1.all
 have a2:=k2.all
 refine Am L X.f114 X.k114 rfl rfl fun Q x cs G=>?_
 refine wk ?_
 refine A9 L ?_
 refine wk ?_
 refine C6 L ?_
 refine wk ?_
 refine C6 L ?_
 refine wk ?_
 refine cal (c:=ou L X (by omega) (by omega)) (g:=?_)
 rintro _ h3 ⟨gb,rfl,⟨c,hc⟩,hg,hk⟩
 have hn3:=hk.n
 simp only [Al]at hg hn3
 refine wk ?_
 refine A9 L ?_
 refine wk ?_
 have f1:BS (hp h3.n h3.t []) b1 o1 bs1:=lkb
 (apply st1 L rfl;exact Fi rfl rfl (SlR.of (b:=gb) (o:=0) (n:=0) (c:=c) (xs:= []) lkp (by omega) (by simp)) (f1.slr e1) h1.1 (by omega) (D7 _);rfl)
 refine wk ?_
 refine C6 L ?_
 refine wk ?_
 have f2:BS (hp (h3.n+1) h3.t [(h3.n,some (cl ([]++Bm bs1))),(gb,none)]) b2 o2 bs2:=lkb
 have f3:BS (hp (h3.n+1) h3.t [(h3.n,some (cl ([]++Bm bs1))),(gb,none)]) h3.n 0 bs1:=Ga a1
 (apply st1 L rfl;exact Fi rfl rfl (f3.slr (by omega)) (f2.slr e2) h2.1 (by omega) (D7 _);rfl)
 refine wk ?_
 refine C6 L ?_
 refine wk ?_
 refine ret X.f114 ?_
 refine⟨h3.n+1,by rw [show 0+n1+n2=n1+n2 by omega];rfl,?_,by omega,?_⟩
 ·rw [H9]
  exact Ga (a1.app a2)
 ·have hk2:K0 h h3:=Kp.tr0 hk kps
  exact kps
end
section
variable {P0:Program}{E:Env}{F:T CFn}{K:T (List AV×AV)}(L:Lg P0 E F K)(X:Fx F K)
include L X
def Ta (byt:Nat)(bs:List Nat):List Nat:=bs.take byt++List.replicate (bs.length - byt) 255
omit L X in
theorem Ie (byt:Nat)(bs:List Nat)(h:byt≤bs.length):(Ta byt bs).length=bs.length:=by
 unfold Ta;rw [List.length_append,List.length_take,List.length_replicate];omega
omit L X in
theorem Tc (byt:Nat)(bs:List Nat)(h:byt≤bs.length)(i:Nat)(hi:i<bs.length):(Ta byt bs).getD i 0=if byt≤i then 255 else bs.getD i 0:=by
 unfold Ta
 rw [Sv,List.length_take,Nat.min_eq_left h]
 by_cases h1:i<byt
 ·rw [if_pos h1,if_neg (by omega)]
  simp only [List.getD_eq_getElem?_getD];rw [List.getElem?_take_of_lt h1]
 ·rw [if_neg h1,if_pos (by omega)]
  simp only [List.getD_eq_getElem?_getD];rw [List.getElem?_replicate_of_lt (by omega)];rfl
section
variable {h:H}{d fm bb pn ab a4 a7 a10 o n:Nat}{D:Dv}{c:List AV}{all:List Nat}
theorem gh (h7:Bk h a7 [.slc ab 0 n (Aa+1)])(h10:Bk h a10 [.ptr pn o])(hp1:Bk h pn c)(ho:o+1<c.length):
  Ct P0 E F K 196 [.ptr a7 0,.ptr a10 0] h fun v h'=>Bk h' pn ((c.set o (.slc ab 0 n (Aa+1))).set (o+1) (.int .i64 ((2:Nat):Int)))∧Kp (fun b=>b=pn) h h':=by
 have l1:=hp1.lt
 refine Ae L X.f196 X.k196 rfl rfl fun Q x cs G=>?_
 refine wk ?_
 refine ret X.f196 ?_
 exact⟨lkp,kps⟩
theorem gi (h10:Bk h a10 [.ptr pn o])(hp1:Bk h pn c)(ho:o+1<c.length):
  Ct P0 E F K 197 [.ptr a10 0] h fun v h'=>Bk h' pn ((c.set o .nils).set (o+1) (.int .i64 ((4:Nat):Int)))∧Kp (fun b=>b=pn) h h':=by
 have l1:=hp1.lt
 refine Am L X.f197 X.k197 rfl rfl fun Q x cs G=>?_
 refine wk ?_
 refine ret X.f197 ?_
 exact⟨lkp,kps⟩
theorem gj (h7:Bk h a7 [.slc ab 0 n (Aa+1)])(h10:Bk h a10 [.ptr pn o])(h4:Bk h a4 [.ptr d 0])(hd:Bk h d (dvC D fm bb))(hp1:Bk h pn c)(ho:o+1<c.length)(hb:BS h ab 0 all)(hn:all.length=n)(hn1:n<1000)(hby:D.byt≤n)
  (hne:a4≠pn∧a7≠pn∧a10≠pn∧d≠pn∧ab≠pn∧a4≠ab∧a7≠ab∧d≠ab):
  Ct P0 E F K 198 [.ptr a7 0,.ptr a10 0,.ptr a4 0] h fun v h'=>Bk h' pn ((c.set o (.slc ab 0 n (Aa+1))).set (o+1) (.int .i64 ((if D.byt=n then 2 else 3:Nat):Int)))∧BS h' ab 0 (Ta D.byt all)∧Kp (fun b=>b=pn∨b=ab) h h':=by
 obtain⟨n1,n2,n3,n4,n5,n6,n7,n8⟩:=hne
 have l1:=hp1.lt
 have l2:=hb.lt_n
 obtain⟨cc,q1,q2,q3⟩:=hb.ex
 refine B3 L X.f198 X.k198 rfl rfl fun Q x cs G=>?_
 refine wk ?_
 have key: ∀h1,Kp (fun b=>b=pn∨b=ab) h h1→Bk h1 pn ((c.set o (.slc ab 0 n (Aa+1))).set (o+1) (.int .i64 ((if D.byt=n then 2 else 3:Nat):Int)))→
   (∃c2,Bk h1 ab c2∧n≤c2.length∧ ∀m,m<n→c2[m]?=some (.int .u8 ((if D.byt≤m∧m<D.byt+(n - D.byt)then 255 else all.getD m 0:Nat):Int)))→
   GO P0 E Q (finish (single []) cs h1 x):=by
  rintro h1 hk hp2 ⟨c2,r1,r2,r3⟩
  refine G _ _ ⟨hp2,⟨⟨c2,r1,by rw [Ie _ _ (by omega)];omega,fun m hm=>?_⟩,fun m hm=>?_⟩,hk⟩
  ·rw [Ie _ _ (by omega)]at hm
   rw [Nat.zero_add,r3 m (by omega),Tc _ _ (by omega) _ hm]
   by_cases e2:D.byt≤m
   ·rw [if_pos e2,if_pos (by omega)]
   ·rw [if_neg e2,if_neg (by omega)]
  ·rw [Ie _ _ (by omega)]at hm
   rw [Tc _ _ (by omega) _ hm]
   split
   ·omega
   ·exact hb.lt m hm
 have cell: ∀(i:Nat) (c2:List AV),i<n - D.byt→n≤c2.length→(∀m,m<n→c2[m]?=some (.int .u8 ((if D.byt≤m∧m<D.byt+i then 255 else all.getD m 0:Nat):Int)))→
   ∀m,m<n→(c2.set (D.byt+i) (.int .u8 ((255:Nat):Int)))[m]?=some (.int .u8 ((if D.byt≤m∧m<D.byt+(i+1)then 255 else all.getD m 0:Nat):Int)):=by
  intro i c2 hi r2 r3 m hm
  by_cases e:m=D.byt+i
  ·subst e
   rw [List.getElem?_set_self (by omega),if_pos (by omega)]
  ·rw [List.getElem?_set_ne (by omega),r3 m hm]
   by_cases e2:D.byt≤m∧m<D.byt+i
   ·rw [if_pos e2,if_pos (by omega)]
   ·rw [if_neg e2,if_neg (by omega)]
 have e0: ∀m,m<n→cc[m]?=some (.int .u8 ((if D.byt≤m∧m<D.byt+0 then 255 else all.getD m 0:Nat):Int)):=fun m hm=>by
  rw [if_neg (by omega)];simpa using q3 m (by omega)
 by_cases hc:D.byt=n
 case' pos=>
  have hlen:o+1<((c.set o (.slc ab 0 n (Aa+1))).set (o+1) (.int .i64 ((3:Nat):Int))).length:=by rw [List.length_set,List.length_set];exact ho
  refine wk ?_
 case' neg=>
  refine wk ?_
 all_goals
  refine Co L (α:= Unit) (T:=fun i _=> [(26,some (.int .i64 ((i:Nat):Int))),(25,some (.int .i64 ((n - D.byt:Nat):Int))),(0,some (.ptr a7 0)),(2,some (.ptr a4 0))]) (n:=n - D.byt)
   (R:=fun i _ h2=>(∃c2,Bk h2 ab c2∧n≤c2.length∧ ∀m,m<n→c2[m]?=some (.int .u8 ((if D.byt≤m∧m<D.byt+i then 255 else all.getD m 0:Nat):Int)))∧Bk h2 pn ((c.set o (.slc ab 0 n (Aa+1))).set (o+1) (.int .i64 ((if D.byt=n then 2 else 3:Nat):Int)))∧Kp (fun b=>b=pn∨b=ab) h h2) (i0:=0) () tsb
   ⟨⟨cc,lkp,by omega,e0⟩,?_,Kp.st (.inr (.inl rfl)) (by first|exact .refl _|exact Kp.st (.inr (.inl rfl)) (.refl _))⟩ (Nat.zero_le _) ?_ ?_
  ·first
    |(rw [if_pos hc];exact Oi (List.set_set _) lkp)
    |(rw [if_neg hc];exact lkp)
  ·rintro i _ h2 hi ⟨⟨c2,r1,r2,r3⟩,r4,r5⟩ ih
   have hlen2:D.byt+i<c2.length:=by omega
   refine wk ?_
   exact ih () _ _ ⟨⟨_,lkp,by rw [List.length_set];exact r2,cell i c2 hi r2 r3⟩,lkp,Kp.st (.inr (.inr rfl)) r5⟩ tsb
  ·rintro _ h2 ⟨r1,r4,r5⟩
   refine wk ?_
   first
    |(refine qp L X.f198 rfl ?_;exact key _ r5 r4 r1)
end
end
end Go.Ev
