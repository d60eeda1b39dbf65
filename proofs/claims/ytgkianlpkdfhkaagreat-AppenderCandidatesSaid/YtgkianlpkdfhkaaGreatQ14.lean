/- Part of the proof. -/
import Derived.Test.YtgkianlpkdfhkaaGreatQ13
import Derived.Test.YtgkianlpkdfhkaaGreatQ11
import Derived.Test.YtgkianlpkdfhkaaGreatQ10
import Derived.Shelf.Sort.Plain
import Derived.Shelf.Slices.In.SortNone
set_option linter.unusedVariables false
set_option linter.unusedSectionVars false
set_option linter.unusedSimpArgs false
set_option maxRecDepth 10000
set_option maxHeartbeats 4000000
namespace Go.Ev
section
variable {P0:Program}{E:Env}{F:T CFn}{K:T (List AV×AV)}(L:Lg P0 E F K)(X:Fx F K)
include L X
omit L X in
theorem rp:leb 4 1280591427= [67,70,84,76]:=by decide
def spF (s:Sp):List (Nat×Nat):= [(1280591427,4),(s.kind,1),(0,3),(s.seq,8),(s.prev,8),(s.sec.toNat,4),(s.idx.toNat,4),(s.len.toNat,4)]
structure Sp.Fit (s:Sp):Prop where
 v:s.Valid
 ok:s.Ok
omit L X in
theorem x7 {s:Sp}(q:s.Fit): ∀x∈spF s,FOk x:=by
 obtain⟨⟨h1,h2,h3,h4,h5,h6⟩,⟨k1,k2,k3⟩⟩:=q
 intro x hx
 have h8:(256:Nat) ^ 8=18446744073709551616:=by decide
 have h44:(256:Nat) ^ 4=4294967296:=by decide
 unfold spF at hx
 simp only [List.mem_cons,List.not_mem_nil,or_false]at hx
 rcases hx with rfl|rfl|rfl|rfl|rfl|rfl|rfl|rfl
 ·exact⟨by simp,by simp [h44],by simp⟩
 ·exact⟨by simp,by simpa using k1,by simp only;omega⟩
 ·exact⟨by simp,by simp,by simp⟩
 ·exact⟨by simp,by simp only [h8];exact k2,k2⟩
 ·exact⟨by simp,by simp only [h8];exact k3,k3⟩
 ·exact⟨by simp,by simp only [h44];omega,by simp only;omega⟩
 ·exact⟨by simp,by simp only [h44];omega,by simp only;omega⟩
 ·exact⟨by simp,by simp only [h44];omega,by simp only;omega⟩
omit L X in
theorem Aas {s:Sp}(q:s.Fit):fB (spF s)++List.replicate 24 0=A4 s:=by
 obtain⟨⟨h1,h2,h3,h4,h5,h6⟩,⟨k1,k2,k3⟩⟩:=q
 have e1:u64 s.sec=s.sec.toNat:=by unfold u64;omega
 have e2:u64 s.idx=s.idx.toNat:=by unfold u64;omega
 have e3:u64 s.len=s.len.toNat:=by unfold u64;omega
 unfold A4 fB spF mag
 rw [e1,e2,e3]
 simp only [List.flatMap_cons,List.flatMap_nil,rp]
 simp [leb,Nat.mod_eq_of_lt k1]
omit L X in
theorem rq (s:Sp):(fB (spF s)).length=36:=by
 unfold fB spF
 simp only [List.flatMap_cons,List.flatMap_nil,List.length_append,A5,List.length_nil]
section
variable {h:H}
theorem ll {db do_ dn dcap eb en ecap:Nat}{data ex:List Nat}(T:Tb P0 E F K)(kd:BS h db do_ data)(hd:data.length=dn)(hd1:0<dn∧dn<900)(ke:BS h eb 0 ex)(he:ex.length=en)(he1:en=60)(hc:ecap=Aa+1):
  Ct P0 E F K 71 [.slc db do_ dn dcap,.slc eb 0 en ecap] h fun v h'=>v= .int .u64 ((crcB (data++ex):Nat):Int)∧K0 h h':=by
 subst he1 hc
 have l1:=kd.lt_n
 have l2:=ke.lt_n
 have a1:=Nn (data++ex)
 refine Ad L X.f71 X.k71 rfl rfl fun Q x cs G=>?_
 refine wk ?_
 refine cal (c:=Ja L X (b1:=db) (o1:=do_) (n1:=dn) (c1:=dcap) (b2:=eb) (o2:=0) (n2:=60) (c2:=Aa+1) (bs1:=data) (bs2:=ex) lkp lkb lkb hd he (by omega) (by omega)) (g:=?_)
 rintro _ h2 ⟨b,rfl,w1,w2,w3⟩
 refine wk ?_
 refine cal (c:=j9 L X T w1 (by rw [List.length_append];omega) (by omega)) (g:=?_)
 rintro _ h3 ⟨rfl,w4⟩
 refine wk ?_
 refine ret X.f71 ?_
 exact⟨rfl,kps⟩
theorem Rb {db do_ dn dcap:Nat}{s:Sp}{data:List Nat}(T:Tb P0 E F K)(q:s.Fit)(kd:BS h db do_ data)(hd:data.length=dn)(hd1:0<dn∧dn<900):
  Ct P0 E F K 145 [.agg (spC s),.slc db do_ dn dcap] h fun v h'=> ∃b,v= .tup [.slc b 0 64 (Aa+1),eI ((0:Nat):Int)]∧BS h' b 0 (An s data)∧h.n≤b∧K0 h h':=by
 have l1:=kd.lt_n
 have hf:=x7 q
 have hB:=Aas q
 have hL:=rq s
 have hv:=q.v
 have hk:=q.ok
 obtain⟨v1,v2,v3,v4,v5,v6⟩:=hv
 obtain⟨k1,k2,k3⟩:=hk
 have hc:=Nn (data++A4 s)
 have e1:u64 s.sec=s.sec.toNat:=by unfold u64;omega
 have e2:u64 s.idx=s.idx.toNat:=by unfold u64;omega
 have e3:u64 s.len=s.len.toNat:=by unfold u64;omega
 refine Ad L X.f145 X.k145 rfl rfl fun Q x cs G=>?_
 refine wk ?_
 refine cal (c:=Q6 L X q.ok) (g:=?_)
 rintro _ h2 ⟨rfl,w1⟩
 rw [decide_eq_true q.v]
 have n2:=w1.n
 simp only [Am]at n2
 refine wk ?_
 (apply st1 L rfl;exact Io rfl;rfl)
 rw [e1]
 refine wk ?_
 (apply st1 L rfl;exact Io rfl;rfl)
 rw [e2]
 refine wk ?_
 (apply st1 L rfl;exact Io rfl;rfl)
 rw [e3]
 refine wk ?_
 refine cal (c:=Ra L X (k:=8) (l:=spF s) lkp rfl (by omega) hf) (g:=?_)
 rintro _ h3 ⟨b3,rfl,w2,w3,w4⟩
 have n3:=w4.n
 simp only [Am]at n3 w3
 rw [hL]
 refine wk ?_
 have f3:BS (hp h3.n h3.t []) b3 0 (fB (spF s)):=w2
 have a3:=f3.all
 (apply st1 L rfl;exact ui (zero:= [.int .u8 ((0:Nat):Int)]) (old:=B5 (fB (spF s))) rfl rfl (by omega) (f3.slr hL) rfl (by omega) (by omega) (by omega);rfl)
 have hB2:B5 (fB (spF s))++rl [.int .u8 ((0:Nat):Int)] 24=B5 (A4 s):=by rw [Fc,In,hB]
 rw [show 60 - 36=24 from rfl,hB2]
 have ah:=Vx k1
 have hl60:=Ec s
 have n4:h.n+1≤h2.n:=n2
 refine wk ?_
 have f4:BS (hp (h3.n+1) h3.t [(h3.n,some (cl (B5 (A4 s)))),(b3,none)]) h3.n 0 (A4 s):=Gm ah
 have k4:BS (hp (h3.n+1) h3.t [(h3.n,some (cl (B5 (A4 s)))),(b3,none)]) db do_ data:=xj (qw (by omega) (by exact lkb))
 refine cal (c:=ll L X T k4 hd hd1 f4 hl60 rfl rfl) (g:=?_)
 rintro _ h5 ⟨rfl,w5⟩
 have n5:=w5.n
 simp only [Am]at n5
 refine wk ?_
 refine cal (c:=Ra L X (k:=1) (l:= [(crcB (data++A4 s),4)]) lkp rfl (by omega) (fun x hx=>by cases hx with|head=>exact⟨by simp,by simpa using hc,by simp only;omega⟩|tail _ h=>cases h)) (g:=?_)
 rintro _ h6 ⟨b6,rfl,w6,w7,w8⟩
 have n6:=w8.n
 simp only [Am]at n6 w7
 have e6:fB [(crcB (data++A4 s),4)]=leb 4 (crcB (data++A4 s)):=by unfold fB;simp
 rw [e6]at*
 rw [A5]
 refine wk ?_
 have f6:BS (hp h6.n h6.t []) b6 0 (leb 4 (crcB (data++A4 s))):=w6
 refine cal (c:=Ja L X (b1:=h3.n) (o1:=0) (n1:=60) (c1:=Aa+1) (b2:=b6) (o2:=0) (n2:=4) (c2:=Aa+1) (bs1:=A4 s) (bs2:=leb 4 (crcB (data++A4 s))) lkp lkb lkb hl60 (A5 _ _) (by omega) (by omega)) (g:=?_)
 rintro _ h7 ⟨b7,rfl,x1,x2,x3⟩
 simp only [Am]at x2
 refine wk ?_
 refine ret X.f145 ?_
 refine⟨b7,rfl,x1,by omega,?_⟩
 have k3':Kp (fun j=>h.n≤j) h h3:=kps
 have k5':Kp (fun j=>h.n≤j) h h5:=kps
 have k6':Kp (fun j=>h.n≤j) h h6:=kps
 have k7':Kp (fun j=>h.n≤j) h h7:=kps
 exact k7'.cut (Nat.le_refl _)
end
end
section
variable {P0:Program}{E:Env}{F:T CFn}{K:T (List AV×AV)}(L:Lg P0 E F K)(X:Fx F K)
include L X
section
variable {h:H}
theorem Rc {e:Int}:Ct P0 E F K 110 [.bool true,.int .i64 e] h fun v h'=>v= .tup []∧h'=h:=by
 refine Ad L X.f110 X.k110 rfl rfl fun Q x cs G=>?_
 refine wk ?_
 refine ret X.f110 ?_
 exact⟨rfl,rfl⟩
theorem V6 {d fm bb:Nat}{D:Dv}(hd:Bk h d (dvC D fm bb)):Ct P0 E F K 88 [.ptr d 0] h fun v h'=>v= .bool (!D.off)∧h'=h:=by
 refine Al L X.f88 X.k88 rfl rfl fun Q x cs G=>?_
 refine wk ?_
 refine cal (c:=Fg L X hd) (g:=?_)
 rintro _ rfl
 have hd':=hd
 unfold dvC dvL at hd'
 refine wk ?_
 refine ret X.f88 ?_
 exact⟨rfl,rfl⟩
theorem Gf {sz:Nat}(hz:12≤sz∧sz≤8192):Ct P0 E F K 86 [.int .i64 ((sz:Nat):Int)] h fun v h'=>v= .int .i64 (((sz - 4) / 8:Nat):Int)∧h'=h:=by
 refine Al L X.f86 X.k86 rfl rfl fun Q x cs G=>?_
 refine wk ?_
 refine ret X.f86 ?_
 exact⟨rfl,rfl⟩
theorem V7 {e:Ent}:Ct P0 E F K 122 [.agg (Az e)] h fun v h'=>v= .bool (decide (¬e.Ok))∧K0 h h':=by
 obtain⟨a,b⟩:=e
 have hT: ¬(0≤a∧a≤4294967294∧ -1≤b∧b≤4294967294)→decide (¬Ent.Ok (a,b))=true:=fun q=>decide_eq_true (by unfold Ent.Ok;exact q)
 have hF:(0≤a∧a≤4294967294∧ -1≤b∧b≤4294967294)→decide (¬Ent.Ok (a,b))=false:=fun q=>decide_eq_false (by unfold Ent.Ok;exact fun r=>r q)
 by_cases q0:a<0
 ·rw [hT (by omega)]
  refine Al L X.f122 X.k122 rfl rfl fun Q x cs G=>?_
  refine wk ?_
  refine ret X.f122 ?_
  exact⟨rfl,kps⟩
 by_cases q1:4294967294<a
 ·rw [hT (by omega)]
  refine Al L X.f122 X.k122 rfl rfl fun Q x cs G=>?_
  refine wk ?_
  refine ret X.f122 ?_
  exact⟨rfl,kps⟩
 by_cases q2:b< -1
 ·rw [hT (by omega)]
  refine Al L X.f122 X.k122 rfl rfl fun Q x cs G=>?_
  refine wk ?_
  refine ret X.f122 ?_
  exact⟨rfl,kps⟩
 by_cases q3:4294967294<b
 ·rw [hT (by omega)]
  refine Al L X.f122 X.k122 rfl rfl fun Q x cs G=>?_
  refine wk ?_
  refine ret X.f122 ?_
  exact⟨rfl,kps⟩
 ·rw [hF (by omega)]
  refine Al L X.f122 X.k122 rfl rfl fun Q x cs G=>?_
  refine wk ?_
  refine ret X.f122 ?_
  exact⟨rfl,kps⟩
theorem Av {e:Int}:Ct P0 E F K 48 [.bool true,.int .i64 e] h fun v h'=>v= .tup []∧h'=h:=by
 refine Ad L X.f48 X.k48 rfl rfl fun Q x cs G=>?_
 refine wk ?_
 refine ret X.f48 ?_
 exact⟨rfl,rfl⟩
theorem Bo {e:Int}:CtP P0 E F K 48 [.bool false,.int .i64 e] h fun v h'=>v= .ifc 44 (.int .i64 e)∧h'=h:=by
 refine Fe L X.f48 X.k48 rfl rfl rfl fun Q x cs G=>?_
 refine wk ?_
 refine Pk L rfl rfl ?_
 refine Ao L X.f48 ?_
 exact G _ _ ⟨rfl,rfl⟩
theorem Z7 {lo:Nat}{v:AV}{l:List Ent}(q:EL h lo v l)(hlen:l.length<1000)(hok: ∀e∈l,e.Ok):Ct P0 E F K 192 [v,.fn (.func 122) [] []] h fun u h'=>u= .int .i64 (-1)∧K0 h h':=by
 rcases q.len with⟨rfl,rfl⟩|⟨hpos,b,rfl,hb,-⟩
 ·refine Ad L X.f192 X.k192 rfl rfl fun Q x cs G=>?_
  refine wk ?_
  refine A2 L ?_
  refine wk ?_
  refine ret X.f192 ?_
  exact⟨rfl,kps⟩
 ·have hl2:=A8 l
  refine Ad L X.f192 X.k192 rfl rfl fun Q x cs G=>?_
  refine wk ?_
  refine Co L (α:= Unit) (T:=fun i _=> [(8,some (.int .i64 ((i:Nat):Int))),(7,some (.int .i64 ((l.length:Nat):Int))),(0,some (.slc b 0 l.length (Aa+2))),(1,some (.fn (.func 122) [] []))]) (n:=l.length)
   (R:=fun i _ h2=>True∧K0 h h2) (i0:=0) () tsb ⟨trivial,kps⟩ (Nat.zero_le _) ?_ ?_
  ·rintro i _ h2 hi ⟨-,k2⟩ ih
   have hx:l[i]?=some l[i]:=List.getElem?_eq_getElem hi
   have hdt:=Ff l (Ks l) i _ hx
   have ho:=hok _ (List.getElem_mem hi)
   have hb2:=Ag k2 hb
   refine wk ?_
   (apply st1 L rfl;exact Bs hb2.rk hdt rfl;rfl)
   refine wk ?_
   refine cal (c:=V7 L X) (g:=?_)
   rintro _ h3 ⟨rfl,k3⟩
   rw [decide_eq_false (by simpa using ho)]
   refine wk ?_
   exact ih () _ _ ⟨trivial,kps⟩ tsb
  ·rintro _ h2 ⟨-,k2⟩
   refine wk ?_
   refine ret X.f192 ?_
   exact⟨rfl,k2⟩
theorem Fh {lo:Nat}{v:AV}{l:List Ent}(q:EL h lo v l)(hlen:l.length<1000)(hok: ∀e∈l,e.Ok):Ct P0 E F K 169 [v,.fn (.func 122) [] []] h fun u h'=>u= .bool false∧K0 h h':=by
 refine Ad L X.f169 X.k169 rfl rfl fun Q x cs G=>?_
 refine wk ?_
 refine cal (c:=Z7 L X q hlen hok) (g:=?_)
 rintro _ h2 ⟨rfl,k2⟩
 refine wk ?_
 refine ret X.f169 ?_
 exact⟨rfl,k2⟩
theorem Z8 {lb k cap sz:Nat}{ls:List Nat}(hb:Bk h lb (ls.map fun n=>eI ((n:Nat):Int)))(hk:ls.length=k)(hk1:0<k∧k<1000)(hl: ∀x∈ls,x<4294967296)(hsz:4*k≤sz∧sz<900):
  Ct P0 E F K 171 [eI ((sz:Nat):Int),.slc lb 0 k cap] h fun u h'=> ∃b,u= .slc b 0 sz (Aa+1)∧BS h' b 0 (ls.flatMap (leb 4)++List.replicate (sz - 4*k) 0)∧h.n≤b∧K0 h h':=by
 have l1:=hb.lt
 have hfl: ∀r:List Nat,(r.flatMap (leb 4)).length=4*r.length:=by
  intro r
  induction r with
  |nil=>rfl
  |cons a r ih=>rw [List.flatMap_cons,List.length_append,A5,ih,List.length_cons];omega
 refine Ad L X.f171 X.k171 rfl rfl fun Q x cs G=>?_
 refine wk ?_
 refine Co L (α:= Unit) (T:=fun i _=> [(10,some (eI ((i:Nat):Int))),(9,some (eI ((k:Nat):Int))),(8,some (.slc lb 0 k cap)),(5,some (.ptr h.n 0)),(0,some (eI ((sz:Nat):Int))),(1,some (.slc lb 0 k cap))]) (n:=k)
  (R:=fun i _ h2=>WrR h2 h.n h.n ((ls.take i).flatMap (leb 4))∧Kp (fun j=>h.n≤j) h h2) (i0:=0) () tsb ⟨⟨.inl ⟨by simp,lkp⟩,Nat.le_refl _⟩,kps⟩ (Nat.zero_le _) ?_ ?_
 ·rintro i _ h2 hi ⟨q1,q2⟩ ih
  have hx:ls[i]?=some ls[i]:=List.getElem?_eq_getElem (by omega)
  have hlt:=hl _ (List.getElem_mem (show i<ls.length by omega))
  have hb2:Bk h2 lb (ls.map fun n=>eI ((n:Nat):Int)):=As q2 (by omega) hb
  have hx2:(ls.map fun n=>eI ((n:Nat):Int))[i]?=some (eI ((ls[i]:Nat):Int)):=by rw [List.getElem?_map,hx];rfl
  have e1:(ls.take (i+1)).flatMap (leb 4)=(ls.take i).flatMap (leb 4)++leb 4 ls[i]:=by rw [List.take_add_one,hx,List.flatMap_append];simp
  have hle:=hfl (ls.take i)
  rw [List.length_take]at hle
  rw [e1]at ih
  generalize ls[i]=v at*
  refine wk ?_
  refine cal (c:=rh L X (v:=v) (n:=4) q1 (by omega) (by omega) (by omega) (by omega)) (g:=?_)
  rintro _ h3 ⟨rfl,w1,w2⟩
  refine wk ?_
  refine ih () _ _ ⟨w1,Kp.trS w2 (fun _ _ e=>e) q2⟩ tsb
 ·rintro _ h2 ⟨q1,q2⟩
  rw [←hk,List.take_length]at q1
  have hle:=hfl ls
  have n2:=q2.n
  refine wk ?_
  refine cal (c:=Q9 L X (n:=4*k) q1 (by omega) (by omega)) (g:=?_)
  rintro _ h3 ⟨b3,rfl,w1,w2,w3⟩
  have a3:=w1.all
  have n3:=w3.n
  refine wk ?_
  by_cases hz:sz=4*k
  ·subst hz
   rw [Nat.sub_self]
   (apply st1 L rfl;exact Aaq rfl rfl;rfl)
   refine wk ?_
   refine ret X.f171 ?_
   rw [Nat.sub_self,List.replicate_zero,List.append_nil]
   exact⟨b3,rfl,lkb,by omega,Kp.cut (Kp.tr0 w3 q2) (Nat.le_refl _)⟩
  ·have f3:BS (hp h3.n h3.t []) b3 0 (ls.flatMap (leb 4)):=w1
   (apply st1 L rfl;exact ui (zero:= [.int .u8 ((0:Nat):Int)]) (old:=B5 (ls.flatMap (leb 4))) rfl rfl (by omega) (f3.slr (by omega)) rfl (by omega) (by omega) (by omega);rfl)
   rw [Fc,In]
   refine wk ?_
   refine ret X.f171 ?_
   refine⟨h3.n,by rw [show 4*k+(sz - 4*k)=sz by omega];rfl,Gm (a3.app (AllB.rep (by omega))),by omega,?_⟩
   have k3:Kp (fun j=>h.n≤j) h (hp (h3.n+1) h3.t [(h3.n,some (cl (B5 (ls.flatMap (leb 4)++List.replicate (sz - 4*k) 0)))),(b3,none)]):=kps
   exact k3.cut (Nat.le_refl _)
end
end
section
variable {P0:Program}{E:Env}{F:T CFn}{K:T (List AV×AV)}(L:Lg P0 E F K)(X:Fx F K)
include L X
section
variable {h:H}
theorem Pv {m:Nat}{c0 c1 c2:AV}{r1:Nat}{rest:List AV}(k:Bk h m (c0::c1::c2:: .map r1::rest)):Ct P0 E F K 59 [.ptr m 0] h fun v h'=>v= .bool false∧h'=h:=by
 refine Al L X.f59 X.k59 rfl rfl fun Q x cs G=>?_
 refine wk ?_
 (apply st1 L rfl;exact Aap rfl rfl;rfl)
 refine wk ?_
 refine ret X.f59 ?_
 exact⟨rfl,rfl⟩
theorem Rd {S nb P:Nat}(hn:nb≤12∧P≤6):Ct P0 E F K 152 [.agg [AI ((S:Nat):Int),AI ((nb:Nat):Int),AI ((P:Nat):Int)]] h fun v h'=>v=AI ((nb*P:Nat):Int)∧K0 h h':=by
 have hm:nb*P≤12*6:=Nat.mul_le_mul hn.1 hn.2
 refine Al L X.f152 X.k152 rfl rfl fun Q x cs G=>?_
 refine wk ?_
 refine ret X.f152 ?_
 exact⟨rfl,kps⟩
theorem ly {S nb P:Nat}{x:Ent}(hn:nb≤12∧P≤6∧S≤1000):Ct P0 E F K 111 [.agg [AI ((S:Nat):Int),AI ((nb:Nat):Int),AI ((P:Nat):Int)],.agg (Az x)] h fun v h'=>v= .bool (decide (Ps S (nb*P) x))∧K0 h h':=by
 obtain⟨a,b⟩:=x
 have hT:(0≤a∧a<S∧ -1≤b∧b<((nb*P:Nat):Int))→decide (Ps S (nb*P) (a,b))=true:=fun q=>decide_eq_true q
 have hF: ¬(0≤a∧a<S∧ -1≤b∧b<((nb*P:Nat):Int))→decide (Ps S (nb*P) (a,b))=false:=fun q=>decide_eq_false q
 obtain⟨T,hT'⟩: ∃T,nb*P=T:=⟨_,rfl⟩
 rw [hT']at hT hF ⊢
 by_cases q0:a<0
 ·rw [hF (by omega)]
  refine Ad L X.f111 X.k111 rfl rfl fun Q x cs G=>?_
  refine wk ?_
  refine ret X.f111 ?_
  exact⟨rfl,kps⟩
 by_cases q1:(S:Int)≤a
 ·rw [hF (by omega)]
  refine Ad L X.f111 X.k111 rfl rfl fun Q x cs G=>?_
  refine wk ?_
  refine ret X.f111 ?_
  exact⟨rfl,kps⟩
 by_cases q2:b< -1
 ·rw [hF (by omega)]
  refine Ad L X.f111 X.k111 rfl rfl fun Q x cs G=>?_
  refine wk ?_
  refine ret X.f111 ?_
  exact⟨rfl,kps⟩
 by_cases q3:(T:Int)≤b
 ·rw [hF (by omega)]
  refine Ad L X.f111 X.k111 rfl rfl fun Q x cs G=>?_
  refine wk ?_
  refine cal (c:=Rd L X (S:=S) (nb:=nb) (P:=P) ⟨hn.1,hn.2.1⟩) (g:=?_)
  rintro _ h2 ⟨rfl,w1⟩
  rw [hT']
  refine wk ?_
  refine ret X.f111 ?_
  exact⟨rfl,kps⟩
 ·rw [hT (by omega)]
  refine Ad L X.f111 X.k111 rfl rfl fun Q x cs G=>?_
  refine wk ?_
  refine cal (c:=Rd L X (S:=S) (nb:=nb) (P:=P) ⟨hn.1,hn.2.1⟩) (g:=?_)
  rintro _ h2 ⟨rfl,w1⟩
  rw [hT']
  refine wk ?_
  refine ret X.f111 ?_
  exact⟨rfl,kps⟩
end
end
def okE (S T:Nat)(A:Int→Option Int)(x:Ent):Prop:=Ps S T x∧ ¬uk A x
structure InvA (S T:Nat)(A:Int→Option Int):Prop where
 rg: ∀s p,A s=some p→0≤s∧s<S∧0≤p∧p<(T:Int)
 inj: ∀s s' p,A s=some p→A s'=some p→s=s'
theorem InvA.set {S T:Nat}{A:Int→Option Int}{x:Ent}(q:InvA S T A)(k:okE S T A x):InvA S T (C1 A x):=by
 obtain⟨⟨f1,f2,f3,f4⟩,hb⟩:=k
 have key: ∀s p,C1 A x s=some p→(s=x.1∧p=x.2∧0≤x.2)∨(s≠x.1∧A s=some p):=by
  intro s p e
  unfold C1 at e
  by_cases e1:s=x.1
  ·rw [if_pos e1]at e
   by_cases e2:0≤x.2
   ·rw [if_pos e2]at e;cases e;exact .inl ⟨e1,rfl,e2⟩
   ·rw [if_neg e2]at e;cases e
  ·rw [if_neg e1]at e;exact .inr ⟨e1,e⟩
 refine⟨fun s p e=>?_,fun s s' p e e'=>?_⟩
 ·rcases key s p e with⟨rfl,rfl,h3⟩|⟨h1,h2⟩
  ·exact⟨f1,f2,h3,f4⟩
  ·exact q.rg s p h2
 ·rcases key s p e with⟨h1,h2,h3⟩|⟨h1,h2⟩ <;> rcases key s' p e' with⟨g1,g2,g3⟩|⟨g1,g2⟩
  ·rw [h1,g1]
  ·exact absurd ⟨s',by rw [←h2];exact g2,g1⟩ hb
  ·exact absurd ⟨s,by rw [←g2];exact h2,h1⟩ hb
  ·exact q.inj s s' p h2 g2
def stA (A:Int→Option Int)(l:List Ent)(i:Nat):Int→Option Int:=(l.take i).foldl C1 A
theorem Pw {A:Int→Option Int}{l:List Ent}{i:Nat}{x:Ent}(h:l[i]?=some x):stA A l (i+1)=C1 (stA A l i) x:=by
 unfold stA;rw [List.take_add_one,h,List.foldl_append];rfl
theorem InvA.st {S T:Nat}{A:Int→Option Int}{l:List Ent}(q:InvA S T A): ∀i,i≤l.length→(∀j x,j<i→l[j]?=some x→okE S T (stA A l j) x)→InvA S T (stA A l i)
 |0,_,_=>q
 |i+1,h,k=>by
  have hx:l[i]?=some l[i]:=List.getElem?_eq_getElem (by omega)
  rw [Pw hx]
  exact(q.st i (by omega) fun j x hj=>k j x (by omega)).set (k i _ (by omega) hx)
def Z9 (A:Int→Option Int)(x:Ent):Ent:=(x.1,(A x.1).getD (-1))
def Na (A:Int→Option Int)(l:List Ent)(i:Nat):List Ent:=(List.range i).map fun j=>Z9 (stA A l j) (l.getD j (0,0))
theorem Dj (A:Int→Option Int)(l:List Ent)(i:Nat):(Na A l i).length=i:=by simp [Na]
theorem ac {A:Int→Option Int}{l:List Ent}{i:Nat}{x:Ent}(h:l[i]?=some x):Na A l (i+1)=Na A l i++ [Z9 (stA A l i) x]:=by
 simp [Na,List.range_succ,List.getD_eq_getElem?_getD,h]
theorem MpR.inv {S nb P:Nat}{h:H}{m r1 r2 vb:Nat}{A:Int→Option Int}(q:MpR S nb P h m r1 r2 vb A):InvA S (nb*P) A:=⟨q.rg,fun s s' p e e'=>q.inj e e'⟩
section
variable {l:List (Nat×Option AV)}{h:H}{x z w:O}{size:Nat}
theorem lz {j k:IntKind}(e:evO l x=some .nils)(e1:evO l z=some (.int j ((0:Nat):Int)))(e2:evO l w=some (.int k ((0:Nat):Int))):XV (.sliceS size x none (some z) (some w)) h l .nils h:=by
 refine⟨?_⟩
 have g1:C4 (tms l) none=some none:=rfl
 simp only [exec,Ae,g1,(BndR.att e1).opt,(BndR.att e2).opt,Ab e]
 rfl
end
section
variable {P0:Program}{E:Env}{F:T CFn}{K:T (List AV×AV)}(L:Lg P0 E F K)(X:Fx F K)
include L X
section
variable {h:H}
theorem X2 {S nb P m r1 r2 vb:Nat}{A:Int→Option Int}{x:Ent}(q:MpR S nb P h m r1 r2 vb A)(hf:Ps S (nb*P) x)(hb: ¬uk A x):
  Ct P0 E F K 61 [.ptr m 0,.agg (Az x)] h fun v h'=>v= .tup []∧MpR S nb P h' m r1 r2 vb (C1 A x)∧Kp (fun j=>j=r1∨j=r2∨j=vb) h h':=by
 obtain⟨km,⟨n1,n2,n3,n4,n5,n6⟩,rg,nz,M1,M2,c1,c2,cv,k1,o1,k2,o2,kv,vl,vv,mr⟩:=q
 obtain⟨a,b⟩:=x
 have l1:=km.lt
 have l2:=k1.lt
 have l3:=k2.lt
 have l4:=kv.lt
 have hfits:=hf
 obtain⟨f1,f2,f3,f4⟩:=hf
 simp only at f1 f2 f3 f4
 have hm:nb*P≤12*6:=Nat.mul_le_mul nz.2.1 nz.2.2.2.1
 show Ct P0 E F K 61 [.ptr m 0,.agg [AI a,AI b]] h _
 refine Ad L X.f61 X.k61 rfl rfl fun Q x cs G=>?_
 refine wk ?_
 refine cal (c:=ly L X (S:=S) (nb:=nb) (P:=P) (x:=(a,b)) ⟨nz.2.1,nz.2.2.2.1,nz.2.2.2.2⟩) (g:=?_)
 rintro _ h2 ⟨rfl,w1⟩
 have m1:=w1.n
 simp only [Am]at m1
 rw [decide_eq_true hfits]
 refine wk ?_
 refine cal (c:=Rc L X) (g:=?_)
 rintro _ rfl
 have hs:(Bp M2 b=none∧ ∀s,A s≠some b)∨(Bp M2 b=some (AI a)∧A a=some b):=by
  cases hg:Bp M2 b with
  |none=>exact .inl ⟨rfl,fun s e=>by rw [mr.a2 s b e]at hg;cases hg⟩
  |some u=>
   obtain⟨s,rfl,e2⟩:=mr.a3 b u hg
   have:s=a:=Classical.byContradiction fun e=>hb ⟨s,e2,e⟩
   subst this
   exact .inr ⟨rfl,e2⟩
 have ha:(Bp M1 a=none∧A a=none)∨ ∃p:Nat,Bp M1 a=some (AI ((p:Nat):Int))∧A a=some ((p:Nat):Int)∧p<nb*P:=by
  have h1:=mr.a1 a
  cases hA:A a with
  |none=>rw [hA]at h1;exact .inl ⟨h1,rfl⟩
  |some p=>
   rw [hA]at h1
   obtain⟨-,-,g3,g4⟩:=rg a p hA
   have g5:((p.toNat:Nat):Int)=p:=Int.toNat_of_nonneg g3
   exact .inr ⟨p.toNat,by rw [g5];exact h1,by rw [g5],by omega⟩
 have rgA: ∀s p,C1 A (a,b) s=some p→0≤s∧s<S∧0≤p∧p<((nb*P:Nat):Int):=by
  intro s p e
  unfold C1 at e
  by_cases e1:s=a
  ·rw [if_pos e1]at e
   by_cases e2:0≤b
   ·rw [if_pos e2]at e;cases e;exact⟨by omega,by omega,e2,f4⟩
   ·rw [if_neg e2]at e;cases e
  ·rw [if_neg e1]at e;exact rg s p e
 have hP:0<P:=by omega
 have hvl:=X0 A P
 have hrem: ∀p:Nat,A a=some ((p:Nat):Int)→p<nb*P→0<valA A P (p / P)∧ ∀i,i<nb→(cv.set (p / P) (AI ((valA A P (p / P) - 1:Nat):Int)))[i]?=some (AI ((valA (Ef A a) P i:Nat):Int)):=by
  intro p hp hlt
  have hq:p / P<nb:=Pn hlt
  have inj: ∀s,A s=some ((p:Nat):Int)→s=a:=fun s hs=>mr.inj hs hp
  have e0:=Pu (i:=p / P) hP hp inj
  rw [if_pos rfl]at e0
  refine⟨by omega,fun i hi=>?_⟩
  have e1:=Pu (i:=i) hP hp inj
  by_cases e:p / P=i
  ·rw [if_pos e]at e1
   subst e
   rw [List.getElem?_set_self (by omega),e1];rfl
  ·rw [if_neg e]at e1
   rw [List.getElem?_set_ne e,vv i hi,e1];rfl
 have hins: ∀(B:Int→Option Int) (cw:List AV) (b:Nat),B a=none→(∀s,B s≠some ((b:Nat):Int))→b<nb*P→cw.length=nb→(∀i,i<nb→cw[i]?=some (AI ((valA B P i:Nat):Int)))→ ∀i,i<nb→(cw.set (b / P) (AI ((valA B P (b / P)+1:Nat):Int)))[i]?=some (AI ((valA (C1 B (a,((b:Nat):Int))) P i:Nat):Int)):=by
  intro B cw b h1 h2 h3 h4 h5 i hi
  have hq:b / P<nb:=Pn h3
  have e1:=ky (i:=i) hP h1 h2
  by_cases e:b / P=i
  ·rw [if_pos e]at e1
   subst e
   rw [List.getElem?_set_self (by omega),e1]
  ·rw [if_neg e]at e1
   rw [List.getElem?_set_ne e,h5 i hi,e1];rfl
 by_cases hb0:0≤b
 ·obtain⟨b,rfl⟩: ∃b':Nat,b=((b':Nat):Int):=⟨b.toNat,by omega⟩
  have hqb:b / P<nb:=Pn (by omega)
  rcases ha with⟨g1,ha⟩|⟨p,g1,ha,hp⟩
  ·rcases hs with⟨g2,hs⟩|⟨g2,hs⟩
   rotate_left
   ·rw [ha]at hs;cases hs
   have hz:=vv _ hqb
   have vz:=hvl (b / P)
   have vfin:=hins A cv b ha hs (by omega) vl vv
   have mr2:=mr.ins (x:=(a,((b:Nat):Int))) (c1:=c1) (c2:=c2) hb0 ha hs
   refine wk ?_
   (apply Cp rfl rfl;exact Dy (KE.int .i64) rfl rfl lkq)
   rw [g2]
   refine wk ?_
   (apply Cp rfl rfl;exact Dy (KE.int .i64) rfl rfl lkq)
   rw [g1]
   refine wk ?_
   (apply Ij L rfl rfl;exact Lw (KE.int .i64) o1 rfl rfl lkq)
   refine wk ?_
   (apply Jo L rfl rfl;exact G1 (k:=a) o1 rfl rfl rfl lkq)
   refine wk ?_
   (apply Ij L rfl rfl;exact Lw (KE.int .i64) o2 rfl rfl lkq)
   refine wk ?_
   (apply Jo L rfl rfl;exact G1 (k:=((b:Nat):Int)) o2 rfl rfl rfl lkq)
   refine wk ?_
   refine ret X.f61 ?_
   exact⟨rfl,⟨lkp,⟨n1,n2,n3,n4,n5,n6⟩,rgA,nz,_,_,_,_,_,lkq,o1.set _ _,lkq,o2.set _ _,lkp,(by simp [vl]),vfin,mr2⟩,kps⟩
  ·have hqp:p / P<nb:=Pn hp
   have hz:=vv _ hqp
   obtain⟨hpos,vv2⟩:=hrem p ha hp
   have vz:=hvl (p / P)
   have hy:=vv2 _ hqb
   have vy:=X0 (Ef A a) P (b / P)
   have hl2:b / P<(cv.set (p / P) (AI ((valA A P (p / P) - 1:Nat):Int))).length:=by rw [List.length_set,vl];exact hqb
   have hm0: ∀s,Ef A a s≠some ((b:Nat):Int):=by
    intro s e
    unfold Ef at e
    by_cases e1:s=a
    ·rw [if_pos e1]at e;cases e
    ·rw [if_neg e1]at e;exact hb ⟨s,e,e1⟩
   have vfin:=hins (Ef A a) (cv.set (p / P) (AI ((valA A P (p / P) - 1:Nat):Int))) b (by unfold Ef;rw [if_pos rfl]) hm0 (by omega) (by simp [vl]) vv2
   rw [show C1 (Ef A a) (a,((b:Nat):Int))=C1 A (a,((b:Nat):Int)) from Ug A (a,((b:Nat):Int))]at vfin
   have mr2:=(mr.rem ha).ins (x:=(a,((b:Nat):Int))) (c1:=c1) (c2:=c2) hb0 (by unfold Ef;rw [if_pos rfl]) hm0
   rw [show C1 (Ef A a) (a,((b:Nat):Int))=C1 A (a,((b:Nat):Int)) from Ug A (a,((b:Nat):Int))]at mr2
   rcases hs with⟨g2,hs⟩|⟨g2,hs⟩
   ·refine wk ?_
    (apply Cp rfl rfl;exact Dy (KE.int .i64) rfl rfl lkq)
    rw [g2]
    refine wk ?_
    (apply Cp rfl rfl;exact Dy (KE.int .i64) rfl rfl lkq)
    rw [g1]
    refine wk ?_
    (apply Jo L rfl rfl;exact Gl (KE.int .i64) o1 rfl rfl lkq)
    refine wk ?_
    (apply Jz L rfl;exact Gl (KE.int .i64) o2 rfl rfl lkq;rfl)
    refine wk ?_
    (apply Ij L rfl rfl;exact Lw (KE.int .i64) (o1.del _) rfl rfl lkq)
    refine wk ?_
    (apply Jo L rfl rfl;exact G1 (k:=a) (o1.del _) rfl rfl rfl lkq)
    refine wk ?_
    (apply Ij L rfl rfl;exact Lw (KE.int .i64) (o2.del _) rfl rfl lkq)
    refine wk ?_
    (apply Jo L rfl rfl;exact G1 (k:=((b:Nat):Int)) (o2.del _) rfl rfl rfl lkq)
    refine wk ?_
    refine ret X.f61 ?_
    exact⟨rfl,⟨lkp,⟨n1,n2,n3,n4,n5,n6⟩,rgA,nz,_,_,_,_,_,lkq,(o1.del _).set _ _,lkq,(o2.del _).set _ _,lkp,(by simp [vl]),vfin,mr2⟩,kps⟩
   ·refine wk ?_
    (apply Cp rfl rfl;exact Dy (KE.int .i64) rfl rfl lkq)
    rw [g2]
    refine wk ?_
    refine cal (c:=Rc L X) (g:=?_)
    rintro _ rfl
    refine wk ?_
    (apply Cp rfl rfl;exact Dy (KE.int .i64) rfl rfl lkq)
    rw [g1]
    refine wk ?_
    (apply Jo L rfl rfl;exact Gl (KE.int .i64) o1 rfl rfl lkq)
    refine wk ?_
    (apply Jz L rfl;exact Gl (KE.int .i64) o2 rfl rfl lkq;rfl)
    refine wk ?_
    (apply Ij L rfl rfl;exact Lw (KE.int .i64) (o1.del _) rfl rfl lkq)
    refine wk ?_
    (apply Jo L rfl rfl;exact G1 (k:=a) (o1.del _) rfl rfl rfl lkq)
    refine wk ?_
    (apply Ij L rfl rfl;exact Lw (KE.int .i64) (o2.del _) rfl rfl lkq)
    refine wk ?_
    (apply Jo L rfl rfl;exact G1 (k:=((b:Nat):Int)) (o2.del _) rfl rfl rfl lkq)
    refine wk ?_
    refine ret X.f61 ?_
    exact⟨rfl,⟨lkp,⟨n1,n2,n3,n4,n5,n6⟩,rgA,nz,_,_,_,_,_,lkq,(o1.del _).set _ _,lkq,(o2.del _).set _ _,lkp,(by simp [vl]),vfin,mr2⟩,kps⟩
 ·rcases hs with⟨g2,hs⟩|⟨g2,hs⟩
  rotate_left
  ·exact absurd (rg _ _ hs).2.2.1 hb0
  rcases ha with⟨g1,ha⟩|⟨p,g1,ha,hp⟩
  ·rw [show C1 A (a,b)=A by rw [Uf hb0];exact Z6 ha]at*
   refine wk ?_
   (apply Cp rfl rfl;exact Dy (KE.int .i64) rfl rfl lkq)
   rw [g2]
   refine wk ?_
   (apply Cp rfl rfl;exact Dy (KE.int .i64) rfl rfl lkq)
   rw [g1]
   refine wk ?_
   refine ret X.f61 ?_
   exact⟨rfl,⟨lkp,⟨n1,n2,n3,n4,n5,n6⟩,rgA,nz,_,_,_,_,_,lkq,o1,lkq,o2,lkp,vl,vv,mr⟩,kps⟩
  ·have hqp:p / P<nb:=Pn hp
   have hz:=vv _ hqp
   obtain⟨hpos,vv2⟩:=hrem p ha hp
   have vz:=hvl (p / P)
   rw [show C1 A (a,b)=Ef A a from Uf hb0]at*
   refine wk ?_
   (apply Cp rfl rfl;exact Dy (KE.int .i64) rfl rfl lkq)
   rw [g2]
   refine wk ?_
   (apply Cp rfl rfl;exact Dy (KE.int .i64) rfl rfl lkq)
   rw [g1]
   refine wk ?_
   (apply Jo L rfl rfl;exact Gl (KE.int .i64) o1 rfl rfl lkq)
   refine wk ?_
   (apply Jz L rfl;exact Gl (KE.int .i64) o2 rfl rfl lkq;rfl)
   refine wk ?_
   refine ret X.f61 ?_
   exact⟨rfl,⟨lkp,⟨n1,n2,n3,n4,n5,n6⟩,rgA,nz,_,_,_,_,_,lkq,o1.del _,lkq,o2.del _,lkp,(by simp [vl]),vv2,mr.rem ha⟩,kps⟩
end
end
section
variable {P0:Program}{E:Env}{F:T CFn}{K:T (List AV×AV)}(L:Lg P0 E F K)(X:Fx F K)
include L X
section
variable {h:H}
theorem Ly {S nb P m r1 r2 vb lo:Nat}{A:Int→Option Int}{es:List Ent}{lv:AV}(q:MpR S nb P h m r1 r2 vb A)(hl:EL h lo lv es)(hlen:es.length≤150)(hlo:r1<lo∧r2<lo∧vb<lo∧m<lo)(hok: ∀j x,es[j]?=some x→okE S (nb*P) (stA A es j) x):
  Ct P0 E F K 22 [.ptr m 0,lv] h fun v h'=>v=AI ((0:Nat):Int)∧Kp (fun j=>j=r1∨j=r2∨j=vb) h h'∧MpR S nb P h' m r1 r2 vb (stA A es es.length):=by
 have lq:=q.lt
 have hl1:=hl.len
 rcases hl1 with⟨rfl,rfl⟩|⟨hpos,lb,rfl,g5,g6⟩
 ·have km:=q.km
  refine Ad L X.f22 X.k22 rfl rfl fun Q x cs G=>?_
  refine wk ?_
  refine cal (c:=Pv L X (c0:=AI ((S:Nat):Int)) (c1:=AI ((nb:Nat):Int)) (c2:=AI ((P:Nat):Int)) (r1:=r1) (rest:= [.map r2,.slc vb 0 nb nb]) lkp) (g:=?_)
  rintro _ rfl
  refine wk ?_
  refine Ip L rfl rfl rfl rfl ?_
  refine wk ?_
  refine A2 L ?_
  refine wk ?_
  refine D0 L (todo:= []) ?_
  refine Ea L (by intro q;cases q) X.f60 rfl rfl rfl ?_
  refine Gc L rfl ?_
  refine wk ?_
  (apply st1 L rfl;exact O8 (k:=true) rfl rfl;rfl)
  refine wk ?_
  refine Lx L X.f60 rfl ?_
  refine Eb L X.f22 (Eh (b:=h.n+2) rfl (Bk.e lkp) rfl Jn) G ⟨rfl,kps,q.k0 kps⟩
 have l5:=g5.lt
 have km:=q.km
 refine Ad L X.f22 X.k22 rfl rfl fun Q x cs G=>?_
 refine wk ?_
 refine cal (c:=Pv L X (c0:=AI ((S:Nat):Int)) (c1:=AI ((nb:Nat):Int)) (c2:=AI ((P:Nat):Int)) (r1:=r1) (rest:= [.map r2,.slc vb 0 nb nb]) lkp) (g:=?_)
 rintro _ rfl
 refine wk ?_
 refine Ip L rfl rfl rfl rfl ?_
 refine wk ?_
 refine Co L (α:= AV) (T:=fun i v=> [(17,some (AI ((i:Nat):Int))),(16,some (AI ((es.length:Nat):Int))),(15,some (.slc lb 0 es.length (Aa+2))),(2,some (.ptr h.n 0)),(4,some (.ptr (h.n+2) 0)),(5,some (.ptr (h.n+3) 0)),(6,some (.ptr (h.n+4) 0))]) (n:=es.length)
  (R:=fun i v h2=>MpR S nb P h2 m r1 r2 vb (stA A es i)∧Bk h2 h.n [.ptr m 0]∧Bk h2 (h.n+1) [.slc lb 0 es.length (Aa+2)]∧Bk h2 (h.n+2) [AI ((0:Nat):Int)]∧Bk h2 (h.n+3) [AI ((i:Nat):Int)]∧Bk h2 (h.n+4) [v]∧EL h2 (h.n+5) v (Na A es i)∧h.n+5≤h2.n∧Kp (fun j=>j=r1∨j=r2∨j=vb) h h2) (i0:=0) .nils tsb
  ⟨q.k0 kps,lkp,lkp,lkp,lkp,lkp,EL.nil _ _,Nat.le_refl _,kps⟩ (Nat.zero_le _) ?_ ?_
 ·rintro i v h2 hi ⟨u1,u3,u4,u5,u6,u7,u8,u9,u10⟩ ih
  have hx:es[i]?=some es[i]:=List.getElem?_eq_getElem hi
  have hdt:=Ff es (Ks es) i _ hx
  have g5':Bk h2 lb (es.flatMap Az):=As u10 (by omega) g5
  have lu:=u1.lt
  have hokx:=hok i _ hx
  have u1':=u1
  obtain⟨km2,⟨n1,n2,n3,n4,n5,n6⟩,rg,nz,M1,M2,c1,c2,cv,⟨k1,o1,k2,o2,kv,vl,vv,mr⟩⟩:=u1'
  have ha1:=mr.a1 es[i].1
  rw [Pw hx,ac hx]at ih
  generalize hxe:es[i]=x at*
  obtain⟨xa,xb⟩:=x
  have hdt':i*2+2≤(es.flatMap Az).length∧((es.flatMap Az).drop (i*2)).take 2= [AI xa,AI xb]:=hdt
  have hw2: ∀b n c,v= .slc b 0 n c→b≠h.n+1+1:=by
   intro b n c e
   rcases u8.ex with⟨_,rfl⟩|⟨_,b',rfl,_,h5⟩
   ·cases e
   ·cases e;omega
  simp only at ha1
  rcases hB:stA A es i xa with _|p
  ·rw [hB]at ha1
   have hwas:Z9 (stA A es i) (xa,xb)=(xa,-1):=by unfold Z9;rw [hB];rfl
   refine wk ?_
   (apply st1 L rfl;exact Bs g5'.rk hdt' rfl;rfl)
   refine wk ?_
   (apply Cp rfl rfl;exact Dy (KE.int .i64) rfl rfl lkq)
   rw [ha1]
   refine wk ?_
   refine cal (c:=X2 L X (x:=(xa,xb)) (u1.k0 kps) hokx.1 hokx.2) (g:=?_)
   rintro _ h3 ⟨rfl,w1,w2⟩
   have n3:=w2.n
   simp only [Am]at n3
   rcases u8.len with⟨e0,rfl⟩|⟨gn,wb,rfl,g7,g8⟩
   ·obtain rfl:i=0:=by have:=Dj A es i;rw [e0]at this;simpa using this.symm
    refine wk ?_
    (apply Cp rfl rfl;exact lz rfl rfl rfl)
    refine wk ?_
    (apply Ij L rfl rfl;exact F0 (new:=Az (xa,-1)) rfl rfl (SlR.of (c:=Az (xa,-1)) lkp (Nat.le_refl _) rfl) (by omega) (by omega))
    refine wk ?_
    refine ih _ _ _ ⟨w1.kp (B:=fun j=>j=h.n+3∨j=h.n+4) kps (by omega) (by omega) (by omega) (by omega),lkp,lkp,lkp,lkp,lkp,?_,by simp only [Am];omega,kps⟩ tsb
    rw [hwas,e0,List.nil_append]
    exact EL.app (l:= []) (by exact lkp) (by omega) rfl
   ·have g9:=g7.lt
    rw [Dj]at*
    refine wk ?_
    (apply Ij L rfl rfl;exact qv (old:=(Na A es i).flatMap Az) (new:=Az (xa,-1)) rfl rfl (SlR.of (c:=(Na A es i).flatMap Az) lkp (by rw [A8,Dj];omega) (by rw [List.drop_zero,List.take_of_length_le (by rw [A8,Dj];exact Nat.le_refl _)])) (SlR.of (c:=Az (xa,-1)) lkp (Nat.le_refl _) rfl) (by omega) (by simp only [Aa];omega) (by omega))
    refine wk ?_
    refine ih _ _ _ ⟨w1.kp (B:=fun j=>j=h.n+3∨j=h.n+4) kps (by omega) (by omega) (by omega) (by omega),lkp,lkp,lkp,lkp,lkp,?_,by simp only [Am];omega,kps⟩ tsb
    rw [hwas]
    exact EL.app (l:=Na A es i) (by exact lkp) (by omega) (Dj _ _ _)
  ·rw [hB]at ha1
   have hwas:Z9 (stA A es i) (xa,xb)=(xa,p):=by unfold Z9;rw [hB];rfl
   refine wk ?_
   (apply st1 L rfl;exact Bs g5'.rk hdt' rfl;rfl)
   refine wk ?_
   (apply Cp rfl rfl;exact Dy (KE.int .i64) rfl rfl lkq)
   rw [ha1]
   refine wk ?_
   refine cal (c:=X2 L X (x:=(xa,xb)) (u1.k0 kps) hokx.1 hokx.2) (g:=?_)
   rintro _ h3 ⟨rfl,w1,w2⟩
   have n3:=w2.n
   simp only [Am]at n3
   rcases u8.len with⟨e0,rfl⟩|⟨gn,wb,rfl,g7,g8⟩
   ·obtain rfl:i=0:=by have:=Dj A es i;rw [e0]at this;simpa using this.symm
    refine wk ?_
    (apply Cp rfl rfl;exact lz rfl rfl rfl)
    refine wk ?_
    (apply Ij L rfl rfl;exact F0 (new:=Az (xa,p)) rfl rfl (SlR.of (c:=Az (xa,p)) lkp (Nat.le_refl _) rfl) (by omega) (by omega))
    refine wk ?_
    refine ih _ _ _ ⟨w1.kp (B:=fun j=>j=h.n+3∨j=h.n+4) kps (by omega) (by omega) (by omega) (by omega),lkp,lkp,lkp,lkp,lkp,?_,by simp only [Am];omega,kps⟩ tsb
    rw [hwas,e0,List.nil_append]
    exact EL.app (l:= []) (by exact lkp) (by omega) rfl
   ·have g9:=g7.lt
    rw [Dj]at*
    refine wk ?_
    (apply Ij L rfl rfl;exact qv (old:=(Na A es i).flatMap Az) (new:=Az (xa,p)) rfl rfl (SlR.of (c:=(Na A es i).flatMap Az) lkp (by rw [A8,Dj];omega) (by rw [List.drop_zero,List.take_of_length_le (by rw [A8,Dj];exact Nat.le_refl _)])) (SlR.of (c:=Az (xa,p)) lkp (Nat.le_refl _) rfl) (by omega) (by simp only [Aa];omega) (by omega))
    refine wk ?_
    refine ih _ _ _ ⟨w1.kp (B:=fun j=>j=h.n+3∨j=h.n+4) kps (by omega) (by omega) (by omega) (by omega),lkp,lkp,lkp,lkp,lkp,?_,by simp only [Am];omega,kps⟩ tsb
    rw [hwas]
    exact EL.app (l:=Na A es i) (by exact lkp) (by omega) (Dj _ _ _)
 ·rintro v h2 ⟨u1,u3,u4,u5,u6,u7,u8,u9,u10⟩
  refine wk ?_
  refine D0 L (todo:= []) ?_
  refine Ea L (by intro q;cases q) X.f60 rfl rfl rfl ?_
  refine Gc L rfl ?_
  refine wk ?_
  (apply st1 L rfl;exact O8 (k:=true) rfl rfl;rfl)
  refine wk ?_
  refine Lx L X.f60 rfl ?_
  refine Eb L X.f22 (Eh (b:=h.n+2) rfl (Bk.e lkp) rfl Jn) G ⟨rfl,kps,u1.kp (B:=fun j=>j=h.n+2) kps (by omega) (by omega) (by omega) (by omega)⟩
end
end
open Go.Sort
theorem HR.growC {E:Env}{w0:Array Obj}{φ: Phi}{h:H}{m:Array Obj}(hr:HR E w0 φ h m)(os:Array Obj):HR E w0 φ h (m++os):=by
 have hg: ∀k,k<m.size→(m++os)[k]?=m[k]?:=fun k hk=>by simp [Array.getElem?_append,hk]
 refine⟨hr.bound,fun b l hb=>?_,fun b l x hb hx=>?_,hr.inj,hr.own,fun cb hc=>?_,?_⟩
 ·have:=hr.cbound b l hb;simp;omega
 ·obtain⟨o,h1,h2⟩:=hr.blk b l x hb hx
  exact⟨o,by rw [hg _ (hr.cbound b l hb)];exact h1,h2⟩
 ·rw [hg _ (Nat.lt_of_lt_of_le hc hr.size)];exact hr.old cb hc
 ·have:=hr.size;simp;omega
abbrev zI (z:Int):AV:= .int .i64 z
def Fi (zs:List Int):List Int:=zs.mergeSort fun x y=>decide (x≤y)
theorem Ew (zs:List Int):(Fi zs).length=zs.length:=List.length_mergeSort _
theorem x8 {P:Program}{E:Env}{f:Nat}(hs: ∀(blk off cap:Nat) (zs:List Int) (w:World),Holds (Value.int .i64) w blk off zs.toArray→blk<w.heap.size→zs.length<4611686018427387904→Calls P f #[.slice (some ⟨blk,off,none⟩) zs.length cap] w fun e w'=>
   e= .returned (.tuple #[])∧ ∃n os,w'=grow (putRow (Value.int .i64) (Sort.ahead w n) blk off (Fi zs).toArray) os)
  {h:H} {b:Nat} {zs:List Int} (k:Bk h b (zs.map zI)) (hpos:0<zs.length) (hlen:zs.length<100000):
  XCt P E f [.slc b 0 zs.length (Aa+1)] h fun v h'=>v= .tup []∧Bk h' b ((Fi zs).map zI)∧Kp (fun j=>j=b) h h':=by
 intro φ w0 w args' hargs hW
 obtain⟨hr,like⟩:=hW
 obtain⟨arr⟩:=args'
 have h1: ∃l c off,φ b=some l∧off=l.base∧arr= [.slice (some ⟨l.cb,off,none⟩) zs.length c]:=by
  cases hargs with
  |cons hv ht=>
   cases ht
   generalize hcp:Aa+1=cp at hv
   cases hv with
   |slcX h1 h2 h3 h4=>exact absurd h2 (by omega)
   |slcU h1 h2 h3 h4=>exact⟨_,_,_,h1,h4 hpos,rfl⟩
 obtain⟨l,c,off,hφ,rfl,rfl⟩:=h1
 obtain⟨cs,e,g1,g2,g3,g4⟩:=hr.cellsOf_blkW hφ k.e
 have hcb:=hr.cbound _ _ hφ
 rw [List.length_map]at g3
 have hval: ∀j z,zs[j]?=some z→cs[l.base+j]?=some (Value.int .i64 z):=by
  intro j z hz
  obtain⟨v',h5,h6⟩:=g4 j (zI z) (by rw [List.length_map];exact(List.getElem?_eq_some_iff.1 hz).1) (by rw [Hj];simp [hz])
  cases h6
  exact h5
 have hH:Holds (Value.int .i64) w l.cb l.base zs.toArray:=by
  intro j hj
  have hj':j<zs.length:=by simpa using hj
  refine⟨?_,by simp [World.frozen?,g1]⟩
  simp only [World.cell?,g1]
  simp only [Option.isSome_none,Bool.false_eq_true,if_false]
  rw [hval j zs[j] (List.getElem?_eq_getElem hj')]
  simp [hj']
 refine(hs l.cb l.base c zs w hH hcb (by omega)).mono ?_
 rintro e9 w' ⟨rfl,n,os,rfl⟩
 refine⟨.tup [],.tuple #[],φ,H.set h b (cl ((Fi zs).map zI)),rfl,⟨rfl,⟨?_,k.lt⟩,?_⟩,fun _ _ h=>h,.tup .nil,?_⟩
 ·rw [H.get_set,if_pos rfl]
 ·exact⟨Nat.le_refl _,fun j hj hne=>by rw [H.get_set,if_neg hne]⟩
 ·have hro:(Blk.cells false ((zs.map zI).length) (ofL 0 .leaf (zs.map zI)))=cl (zs.map zI):=rfl
  have hov:=hr.over (x':=cl ((Fi zs).map zI)) (o':= .cells (putCells (Value.int .i64) l.base (Fi zs).toArray cs) e (0,0)) hφ k.e rfl (.cells (fun _=>rfl) (by simp [putCells,g2]) (by simp [putCells,Ew];exact g3) ?_) rfl
  ·have hh:(putRow (Value.int .i64) (Sort.ahead w n) l.cb l.base (Fi zs).toArray).heap=w.heap.setIfInBounds l.cb (.cells (putCells (Value.int .i64) l.base (Fi zs).toArray cs) e (0,0)):=by
    apply Array.ext_getElem?
    intro i
    simp only [putRow,mapBlock,Sort.ahead,Array.getElem?_modify,Array.getElem?_setIfInBounds]
    by_cases hi:l.cb=i
    ·subst hi
     have g0:w.heap[l.cb]=Obj.cells cs e (0,0):=(Array.getElem?_eq_some_iff.1 g1).2
     simp [g0,onCells,hcb]
    ·simp [hi]
   refine⟨?_,like.trans ⟨rfl,rfl,rfl⟩⟩
   show HR E w0.heap φ _ ((putRow (Value.int .i64) (Sort.ahead w n) l.cb l.base (Fi zs).toArray).heap++os)
   rw [hh]
   exact hov.growC os
  ·intro i v hi hv
   rw [Hj]at hv
   rw [List.length_map,Ew]at hi
   rw [List.getElem?_map,Option.map_eq_some_iff]at hv
   obtain⟨z,hz,rfl⟩:=hv
   refine⟨Value.int .i64 z,?_,.int _ _⟩
   obtain⟨hz1,hz2⟩:=List.getElem?_eq_some_iff.1 hz
   have hin:l.base+i<cs.size:=by omega
   simp only [putCells,Array.getElem?_mapIdx,Array.getElem?_eq_getElem hin,Option.map_some]
   rw [if_pos (by simp [Ew];omega)]
   have:l.base+i - l.base=i:=by omega
   rw [this]
   simp [hz1,hz2]
theorem rt {P:Program}{E:Env}{f:Nat}(hs: ∀(p:Option Addr) (cap:Nat) (w:World),Calls P f #[.slice p 0 cap] w fun e w'=>e= .returned (.tuple #[])∧w'=w){h:H}:
  XCt P E f [.nils] h fun v h'=>v= .tup []∧h'=h:=by
 intro φ w0 w args' hargs hW
 obtain⟨arr⟩:=args'
 have h1: ∃p c,arr= [.slice p 0 c]:=by
  cases hargs with
  |cons hv ht=>cases ht;cases hv;exact⟨_,_,rfl⟩
 obtain⟨p,c,rfl⟩:=h1
 refine(hs p c w).mono ?_
 rintro e9 w' ⟨rfl,rfl⟩
 exact⟨.tup [],.tuple #[],φ,h,rfl,⟨rfl,rfl⟩,fun _ _ h=>h,.tup .nil,hW⟩
structure SortOk (P:Program)(E:Env)(F:T CFn)(f:Nat):Prop where
 g: ∃g0,T.get F f=some g0
 x: ∀(h:H) (b:Nat) (zs:List Int),Bk h b (zs.map zI)→0<zs.length→zs.length<100000→XCt P E f [.slc b 0 zs.length (Aa+1)] h fun v h'=>v= .tup []∧Bk h' b ((Fi zs).map zI)∧Kp (fun j=>j=b) h h'
 x0: ∀h:H,XCt P E f [.nils] h fun v h'=>v= .tup []∧h'=h
end Go.Ev
namespace Go.Ev
section
variable {P:Program}{E:Env}{F:T CFn}{K:T (List AV×AV)}{Q:Nat→AV→Prop}
variable {fn nt:Nat}{l:List (Nat×Option AV)}{k:List AItem}{ds:List ADef}{dfd:Bool}{ro:Option Nat}{cs:List AFr}
variable (L:Lg P E F K)
include L
theorem ru {α: Type}{bd:CC}(T:α→List (Nat×Option AV))(mu:α→Nat)(R:α→H→Prop)(s0:α){h0:H}(hT:TSub (tms (T s0)) (tms l))(hR:R s0 h0)
  (body: ∀s h,R s h→(∀s' h' l',mu s'<mu s→R s' h'→TSub (tms (T s')) (tms l')→Good P E Q ⟨⟨fn,nt,tms l',.inLoop bd::k,ds,.run,dfd,ro⟩,cs,h'⟩)→Good P E Q ⟨⟨fn,nt,tms (T s),.code bd:: .inLoop bd::k,ds,.run,dfd,ro⟩,cs,hp h.n h.t []⟩):
  Good P E Q ⟨⟨fn,nt,tms l,.code (.loop bd)::k,ds,.run,dfd,ro⟩,cs,h0⟩:=by
 have main: ∀m s h,mu s≤m→R s h→Good P E Q ⟨⟨fn,nt,tms (T s),.code bd:: .inLoop bd::k,ds,.run,dfd,ro⟩,cs,hp h.n h.t []⟩:=by
  intro m
  induction m with
  |zero=>intro s h e hR;exact body s h hR fun s' h' l' hlt hR' hT'=>absurd hlt (by omega)
  |succ m ih=>intro s h e hR;exact body s h hR fun s' h' l' hlt hR' hT'=>Bh L (E0 L hT' (ih s' h' (by omega) hR'))
 exact A2 L (E0 L hT (main (mu s0) s0 h0 (Nat.le_refl _) hR))
end
theorem X3 {α: Type}{p q:α→Bool}(h: ∀x,q x=true→p x=true): ∀(M:List α) (y:α),y∈M→p y=true→q y=false→(M.filter q).length<(M.filter p).length
 | [],y,hy,_,_=>by cases hy
 |x::r,y,hy,hp,hq=>by
  have le:(r.filter q).length≤(r.filter p).length:=by
   clear hy
   induction r with
   |nil=>exact Nat.le_refl _
   |cons z r ih=>
    rw [List.filter_cons,List.filter_cons]
    by_cases e:q z=true
    ·rw [if_pos e,if_pos (h z e),List.length_cons,List.length_cons];omega
    ·rw [if_neg e]
     split
     ·rw [List.length_cons];omega
     ·exact ih
  rw [List.filter_cons,List.filter_cons]
  rcases List.mem_cons.1 hy with rfl|hy
  ·rw [if_pos hp,if_neg (by rw [hq];simp),List.length_cons];omega
  ·have:=X3 h r y hy hp hq
   by_cases e:q x=true
   ·rw [if_pos e,if_pos (h x e),List.length_cons,List.length_cons];omega
   ·rw [if_neg e]
    split
    ·rw [List.length_cons];omega
    ·exact this
section
variable {α: Type}{M Y:List (α×AV×Nat)}{ck:Nat}
def muM (M Y:List (α×AV×Nat)):Nat:=(M.filter fun x=>decide (x.2.2∉Y.map (·.2.2))).length
theorem So {y:α×AV×Nat}(hy:y∈M)(hn:y.2.2∉Y.map (·.2.2)):muM M (Y++ [y])<muM M Y:=by
 refine X3 (fun x hx=>?_) M y hy (decide_eq_true hn) (by simp)
 simp only [List.map_append,List.mem_append,not_or,decide_eq_true_eq]at hx ⊢
 exact hx.1
theorem Re (q:MOk M ck)(hY: ∀y∈Y,y∈M)(nd:(Y.map (·.2.2)).Nodup)(all: ∀y∈M,y.2.2∈Y.map (·.2.2)):Y.Perm M:=by
 have inj: ∀(L:List (α×AV×Nat)),(L.map (·.2.2)).Nodup→ ∀a∈L,∀b∈L,a.2.2=b.2.2→a=b:=by
  intro L
  induction L with
  |nil=>intro _ a ha;cases ha
  |cons c L ih=>
   intro hn a ha b hb e
   rw [List.map_cons,List.nodup_cons]at hn
   rcases List.mem_cons.1 ha with ea|ha
   ·rcases List.mem_cons.1 hb with eb|hb
    ·rw [ea,eb]
    ·exact absurd (by rw [←ea,e];exact List.mem_map_of_mem hb) hn.1
   ·rcases List.mem_cons.1 hb with eb|hb
    ·exact absurd (by rw [←eb,←e];exact List.mem_map_of_mem ha) hn.1
    ·exact ih hn.2 a ha b hb e
 have ndl: ∀(L:List (α×AV×Nat)),(L.map (·.2.2)).Nodup→L.Nodup:=by
  intro L
  induction L with
  |nil=>intro _;exact List.nodup_nil
  |cons c L ih=>
   intro hn
   rw [List.map_cons,List.nodup_cons]at hn
   exact List.nodup_cons.2 ⟨fun h=>hn.1 (List.mem_map_of_mem h),ih hn.2⟩
 refine(List.perm_ext_iff_of_nodup (ndl Y nd) (ndl M q.borns)).2 fun a=>⟨hY a,fun ha=>?_⟩
 obtain⟨b,hb,e⟩:=List.mem_map.1 (all a ha)
 rw [←inj M q.borns b (hY b hb) a ha e];exact hb
theorem ma {y:α×AV×Nat}(nd:(Y.map (·.2.2)).Nodup)(hn:y.2.2∉Y.map (·.2.2)):((Y++ [y]).map (·.2.2)).Nodup:=by
 rw [List.map_append,List.nodup_append]
 refine⟨nd,by simp,fun a ha b hb e=>hn ?_⟩
 simp only [List.map_cons,List.map_nil,List.mem_singleton]at hb
 rw [←hb,←e];exact ha
end
section
variable {P0:Program}{E:Env}{F:T CFn}{K:T (List AV×AV)}(L:Lg P0 E F K)(X:Fx F K)
include L X
section
variable {h:H}
theorem mc {mb r1 lp ck:Nat}{M:List (Int×AV×Nat)}(q:MOk M ck)(I:List Int→H→Prop)
  (hI: ∀S hh,I S hh→Bk hh mb [.map r1]∧Mk hh r1 (M.map (mE AI)) ck)
  (hK: ∀S hh h',I S hh→Kp (fun j=>j=h.n) hh h'→I S h')
  (hY: ∀S k hh,I S hh→S.length<M.length→h.n<hh.n→CtA P0 E F K (.yield lp) [AI k] hh fun u h'=>u= .bool true∧I (S++ [k]) h'∧hh.n≤h'.n∧(∀x,Gk hh h.n x→Gk h' h.n x)) (h0:I [] h):
  Ct P0 E F K 199 [.fn (.yield lp) [] [],.ptr mb 0] h fun v h'=> ∃S,List.Perm S (M.map (·.1))∧I S h':=by
 obtain⟨k1,k2⟩:=hI _ _ h0
 have l1:=k1.lt
 have l2:=k2.lt
 refine Ad L X.f199 X.k199 rfl rfl fun Q x cs G=>?_
 refine wk ?_
 (apply st1 L rfl;exact Xt rfl lkq;rfl)
 refine wk ?_
 refine ru L (α:= List (Int×AV×Nat)) (T:=fun Y=> [(5,some (.ptr h.n 0)),(0,some (.fn (.yield lp) [] []))]) (mu:=muM M) (R:=fun Y hh=>I (Y.map (·.1)) hh∧Gk hh h.n (.miter (some r1) ck (Y.map (·.2.2)) ck)∧(∀y∈Y,y∈M)∧(Y.map (·.2.2)).Nodup∧h.n<hh.n∧Y.length+muM M Y≤M.length) [] tsb ⟨hK _ _ _ h0 kps,lkg,(fun y hy=>by cases hy),List.nodup_nil,Nat.lt_succ_self _,by rw [List.length_nil,Nat.zero_add];exact List.length_filter_le _ _⟩ ?_
 rintro Y hh ⟨i1,i2,i3,i4,i5,i6⟩ ih
 obtain⟨k3,k4⟩:=hI _ _ i1
 refine wk ?_
 refine Xv L rfl rfl (M:=M) (enc:=AI) (ck:=ck) (it:=h.n) (m:=r1) (seen:=Y.map (·.2.2)) lkg lkq q.lt ?_ ?_
 ·intro hall
  refine wk ?_
  refine ret X.f199 ?_
  exact⟨_,(Re q i3 i4 hall).map _,hK _ _ _ i1 kps⟩
 ·intro y hy hn
  have hmu:=So hy hn
  refine wk ?_
  (apply st1 L rfl;exact Xw q rfl lkg lkq hy;rfl)
  refine wk ?_
  refine Pj L rfl rfl rfl rfl rfl (hY _ y.1 _ (hK _ _ _ i1 (by exact kps)) (by rw [List.length_map];omega) (by simp only [Am];omega)) ?_
  rintro _ h3 ⟨rfl,w1,w2,w3⟩
  simp only [Am]at w2
  refine wk ?_
  refine ih (Y++ [y]) _ _ (So hy hn) ⟨?_,?_,?_,ma i4 hn,by simp only [Am];omega,by rw [List.length_append,List.length_singleton];omega⟩ tsb
  ·rw [List.map_append];exact hK _ _ _ w1 kps
  ·rw [List.map_append];exact w3 _ (by exact lkg)
  ·intro z hz
   rcases List.mem_append.1 hz with hz|hz
   ·exact i3 z hz
   ·rw [List.mem_singleton.1 hz];exact hy
end
end
section
variable {P0:Program}{E:Env}{F:T CFn}{K:T (List AV×AV)}(L:Lg P0 E F K)(X:Fx F K)
include L X
section
variable {h:H}
noncomputable def lpA (hn mb:Nat)(st:LS):Blk:= .loop ⟨st,none,191,cf191.ntmps,tms [(6,some (.fn (.func 199) [] [.ptr mb 0])),(4,some .nils),(2,some (.ptr hn 0)),(1,some (.fn (.func 199) [] [.ptr mb 0])),(0,some .nils)],[7],c191_2,c191_4,hn+1⟩
omit L X in
structure RA (h hh:H)(mb:Nat)(S:List Int):Prop where
 k:K0 h hh
 dk:Gk hh (h.n+1) (.dfr (some []))
 lp:Gk hh (h.n+2) (lpA h.n mb .ready)
 ex: ∃v,Bk hh h.n [v]∧((S= []∧v= .nils)∨(0<S.length∧ ∃b,v= .slc b 0 S.length (Aa+1)∧Bk hh b (S.map AI)∧h.n+4≤b))
theorem ae {mb r1 ck:Nat}{M:List (Int×AV×Nat)}(q:MOk M ck)(k1:Bk h mb [.map r1])(k2:Mk h r1 (M.map (mE AI)) ck)(hlen:M.length<2000):
  Ct P0 E F K 191 [.nils,.fn (.func 199) [] [.ptr mb 0]] h fun v h'=> ∃S,List.Perm S (M.map (·.1))∧K0 h h'∧((S= []∧v= .nils)∨(0<S.length∧ ∃b,v= .slc b 0 S.length (Aa+1)∧Bk h' b (S.map AI)∧h.n≤b)):=by
 have l1:=k1.lt
 have l2:=k2.lt
 refine Ad L X.f191 X.k191 rfl rfl fun Q x cs G=>?_
 refine wk ?_
 refine Hq L (post:=fun _ h'=> ∃S,List.Perm S (M.map (·.1))∧RA h h' mb S) rfl rfl rfl ?_ ?_
 ·refine Ct.A ((mc L X q (fun S hh=>RA h hh mb S) (fun S hh r=>⟨Ag r.k k1,O7 r.k k2⟩) (fun S hh h' r k=>?_) (fun S z hh r hSl hlt=>?_) ⟨kps,lkg,lkg,.nils,lkp,.inl ⟨rfl,rfl⟩⟩).mono fun v h' p=>p)
  ·obtain⟨r1,r2,r3,v,r4,r5⟩:=r
   simp only [Am]at k
   have l3:=r4.lt
   refine⟨Kp.trS k (fun i hi e=>by omega) r1,Il k (by omega) r2,Il k (by omega) r3,v,As k (by omega) r4,?_⟩
   rcases r5 with r5|⟨r5,b,r6,r7,r8⟩
   ·exact .inl r5
   ·exact .inr ⟨r5,b,r6,As k (by omega) r7,r8⟩
  ·obtain⟨r1,r2,r3,v,r4,r5⟩:=r
   simp only [Am]at hlt
   have l3:=r4.lt
   have l4:=r3.lt
   have hle:=r3.e
   unfold lpA at hle
   refine F1 L (l1:= [(7,some (AI z)),(6,some (.fn (.func 199) [] [.ptr mb 0])),(4,some .nils),(2,some (.ptr h.n 0)),(1,some (.fn (.func 199) [] [.ptr mb 0])),(0,some .nils)]) hle rfl ?_
   intro Q z2 cs G
   refine wk ?_
   refine Eu L (Gk.e lkg) ?_
   rcases r5 with⟨rfl,rfl⟩|⟨r5,b,rfl,r7,r8⟩
   ·refine wk ?_
    (apply st1 L rfl;exact F0 (new:= [AI z]) rfl rfl (SlR.of (c:= [AI z]) lkp (Nat.le_refl _) rfl) (by omega) (by omega);rfl)
    refine wk ?_
    refine Da L (Gk.e lkg) G ⟨rfl,?_,by simp only [Am];omega,fun x hx=>(fun hx2:Gk hh (h.n+3) x=>(show Gk _ (h.n+3) x from by exact lkg)) hx⟩
    exact⟨kps,lkg,(by unfold lpA;exact Dx (by omega)),_,lkp,.inr ⟨by simp,hh.n+1,rfl,by exact lkp,by omega⟩⟩
   ·have l6:=r7.lt
    refine wk ?_
    (apply st1 L rfl;exact Fz (old:=S.map AI) (new:= [AI z]) rfl rfl (SlR.of (c:=S.map AI) lkp (by simp) (by rw [List.drop_zero,List.take_of_length_le (by simp)])) (SlR.of (c:= [AI z]) lkp (Nat.le_refl _) rfl) (by omega) (by omega) rfl;rfl)
    refine wk ?_
    refine Da L (Gk.e lkg) G ⟨rfl,?_,by simp only [Am];omega,fun x hx=>(fun hx2:Gk hh (h.n+3) x=>(show Gk _ (h.n+3) x from by exact lkg)) hx⟩
    exact⟨kps,lkg,(by unfold lpA;exact Dx (by omega)),_,lkp,.inr ⟨by simp,hh.n+1,by simp,(by rw [List.map_append];exact lkp),by omega⟩⟩
 ·rintro v h3 ⟨S,p,r1,r2,r3,v2,r4,r5⟩
  have hle:=r3.e
  unfold lpA at hle
  have l4:=r4.lt
  have l5:=r2.lt
  refine Gd L (n:=h3.n) (t:=h3.t) (lh:= []) hle (by intro q;cases q) ?_
  refine wk ?_
  refine D0 L (todo:= []) ?_
  refine F2 L (by intro q;cases q) (Gk.e lkg) ?_
  refine Eb L X.f191 (C0 rfl) G ⟨S,p,kps,?_⟩
  rcases r5 with r5|⟨r5,b,r6,r7,r8⟩
  ·exact .inl r5
  ·exact .inr ⟨r5,b,r6,by exact lkp,by omega⟩
end
end
section
variable {P0:Program}{E:Env}{F:T CFn}{K:T (List AV×AV)}(L:Lg P0 E F K)(X:Fx F K)
include L X
section
variable {h:H}
omit L X in
structure RowN (h:H)(lo:Nat)(v:AV)(S:List Int):Prop where
 ex:(S= []∧v= .nils)∨(0<S.length∧ ∃b,v= .slc b 0 S.length (Aa+1)∧Bk h b (S.map AI)∧lo≤b)
omit L X in
theorem RowN.k0 {h h':H}{lo:Nat}{v:AV}{S:List Int}(q:RowN h lo v S)(k:K0 h h'):RowN h' lo v S:=by
 rcases q.ex with h1|⟨h2,b,h3,h4,h5⟩
 ·exact⟨.inl h1⟩
 ·exact⟨.inr ⟨h2,b,h3,Ag k h4,h5⟩⟩
theorem V8 {mb r1 ck:Nat}{M:List (Int×AV×Nat)}(q:MOk M ck)(k1:Bk h mb [.map r1])(k2:Mk h r1 (M.map (mE AI)) ck)(hlen:M.length<2000):
  Ct P0 E F K 166 [.fn (.func 199) [] [.ptr mb 0]] h fun v h'=> ∃S,List.Perm S (M.map (·.1))∧K0 h h'∧RowN h' h.n v S:=by
 refine Al L X.f166 X.k166 rfl rfl fun Q x cs G=>?_
 refine wk ?_
 refine cal (c:=ae L X q k1 k2 hlen) (g:=?_)
 rintro _ h2 ⟨S,p,w1,w2⟩
 rcases w2 with⟨rfl,rfl⟩|⟨w2,b,rfl,w3,w4⟩
 ·refine wk ?_
  refine ret X.f166 ?_
  exact⟨_,p,kps,⟨.inl ⟨by first|rfl|exact List.mergeSort_nil,rfl⟩⟩⟩
 ·refine wk ?_
  refine ret X.f166 ?_
  exact⟨_,p,kps,⟨.inr ⟨w2,b,rfl,by exact lkp,w4⟩⟩⟩
theorem af {mb r1 ck:Nat}{M:List (Int×AV×Nat)}(U:SortOk P0 E F 129)(q:MOk M ck)(k1:Bk h mb [.map r1])(k2:Mk h r1 (M.map (mE AI)) ck)(hlen:M.length<2000):
  Ct P0 E F K 136 [.fn (.func 199) [] [.ptr mb 0]] h fun v h'=> ∃S,List.Perm S (M.map (·.1))∧K0 h h'∧RowN h' h.n v (Fi S):=by
 obtain⟨g0,hg0⟩:=U.g
 refine Al L X.f136 X.k136 rfl rfl fun Q x cs G=>?_
 refine wk ?_
 refine cal (c:=V8 L X q k1 k2 hlen) (g:=?_)
 rintro _ h2 ⟨S,p,w1,w2⟩
 have pl:=p.length_eq
 rw [List.length_map]at pl
 rcases w2.ex with⟨rfl,rfl⟩|⟨w3,b,rfl,w4,w5⟩
 ·refine wk ?_
  refine Xq L rfl rfl rfl rfl hg0 (U.x0 _) ?_
  rintro _ _ ⟨rfl,rfl⟩
  refine wk ?_
  refine ret X.f136 ?_
  exact⟨_,p,kps,⟨.inl ⟨by first|rfl|exact List.mergeSort_nil,rfl⟩⟩⟩
 ·refine wk ?_
  refine Xq L rfl rfl rfl rfl hg0 (U.x _ _ S (by exact lkp) w3 (by omega)) ?_
  rintro _ h3 ⟨rfl,w6,w7⟩
  refine wk ?_
  refine ret X.f136 ?_
  exact⟨_,p,kps,⟨.inr ⟨by rw [Ew];exact w3,b,by rw [Ew];rfl,by exact lkp,w5⟩⟩⟩
theorem V9 {r1 ck:Nat}{M:List (Int×AV×Nat)}(U:SortOk P0 E F 129)(q:MOk M ck)(k2:Mk h r1 (M.map (mE AI)) ck)(hlen:M.length<2000):
  Ct P0 E F K 151 [.map r1] h fun v h'=> ∃S,List.Perm S (M.map (·.1))∧K0 h h'∧RowN h' h.n v (Fi S):=by
 have l2:=k2.lt
 have hkeys:Ct P0 E F K 178 [.map r1] h fun v h'=>v= .fn (.func 199) [] [.ptr h.n 0]∧Bk h' h.n [.map r1]∧K0 h h'∧h'.n=h.n+1:=by
  refine Al L X.f178 X.k178 rfl rfl fun Q x cs G=>?_
  refine wk ?_
  refine ret X.f178 ?_
  exact⟨rfl,lkp,kps,rfl⟩
 refine Al L X.f151 X.k151 rfl rfl fun Q x cs G=>?_
 refine wk ?_
 refine cal (c:=hkeys) (g:=?_)
 rintro _ h2 ⟨rfl,w1,w2,w3⟩
 refine wk ?_
 refine cal (c:=af L X U q w1 (O7 w2 k2) hlen) (g:=?_)
 rintro _ h3 ⟨S,p,w4,w5⟩
 have w6:=w5
 rcases w5.ex with⟨e0,rfl⟩|⟨w7,b,rfl,w8,w9⟩
 ·refine wk ?_
  refine ret X.f151 ?_
  exact⟨_,p,kps,⟨.inl ⟨e0,rfl⟩⟩⟩
 ·refine wk ?_
  refine ret X.f151 ?_
  exact⟨_,p,kps,⟨.inr ⟨w7,b,rfl,by exact lkp,by omega⟩⟩⟩
end
end
theorem Dk: ∀(n:Nat) (l:List Int),l.Nodup→(∀x∈l,0≤x∧x<(n:Int))→l.length≤n
 |0,l,_,h=>by
  cases l with
  |nil=>exact Nat.le_refl _
  |cons x r=>have:=h x (List.mem_cons_self ..);omega
 |n+1,l,hn,h=>by
  have h1:=Dk n (l.erase (n:Int)) (hn.erase _) fun x hx=>by
   have h2:=hn.mem_erase_iff.1 hx
   have h3:=h x h2.2
   have:x≠(n:Int):=h2.1
   omega
  have h4:=List.length_erase (a:=(n:Int)) (l:=l)
  split at h4 <;> omega
theorem Jb (S:List Int):(Fi S).Perm S:=List.mergeSort_perm S _
theorem rv (S:List Int):(Fi S).Pairwise (· ≤ ·):=by
 have:=List.pairwise_mergeSort (le:=fun x y:Int=>decide (x≤y)) (by intro a b c;simp only [decide_eq_true_eq];omega) (by intro a b;simp only [Bool.or_eq_true,decide_eq_true_eq];omega) S
 exact this.imp fun h=>by simpa using h
theorem X4 {S:List Int}(h:S.Nodup):(Fi S).Pairwise (· < ·):=by
 have h1:(Fi S).Nodup:=(Jb S).nodup_iff.2 h
 refine((rv S).and h1).imp fun {a b} q=>?_
 have:=q.1
 have:a≠b:=q.2
 omega
structure DomA (A:Int→Option Int)(S:List Int):Prop where
 lt:S.Pairwise (· < ·)
 mem: ∀s,s∈S↔(A s).isSome=true
theorem MQ.dom {M1 M2:List (Int×AV×Nat)}{A:Int→Option Int}{ck:Nat}(q:MQ M1 M2 A)(o:MOk M1 ck){S:List Int}(p:S.Perm (M1.map (·.1))):DomA A (Fi S):=by
 refine⟨X4 (p.nodup_iff.2 o.keys),fun s=>?_⟩
 rw [(Jb S).mem_iff,p.mem_iff,←mHas_mem,C3]
 have h1:=q.a1 s
 unfold Bp at h1
 cases hA:A s with
 |none=>rw [hA]at h1;simp only [Option.map_none,Option.map_eq_none_iff]at h1;rw [h1];simp
 |some v=>
  rw [hA]at h1
  cases hf:M1.find? fun x=>decide (s=x.1)with
  |none=>rw [hf]at h1;cases h1
  |some x=>simp
theorem MpR.keys {S nb P:Nat}{h:H}{m r1 r2 vb:Nat}{A:Int→Option Int}{M1 M2:List (Int×AV×Nat)}{c1 c2:Nat}{cv:List AV}(q:MpR S nb P h m r1 r2 vb A)(o:MpC S nb P h m r1 r2 vb A M1 M2 c1 c2 cv):M1.length≤1000:=by
 have h1:=Dk S (M1.map (·.1)) o.o1.keys fun x hx=>by
  have h2:=mHas_mem.2 hx
  have h3:=o.mr.a1 x
  cases hA:A x with
  |none=>rw [hA]at h3;have:=mGet_none.1 h3;rw [this]at h2;cases h2
  |some p=>have:=q.rg x p hA;omega
 rw [List.length_map]at h1
 have:=q.nz
 omega
section
variable {P0:Program}{E:Env}{F:T CFn}{K:T (List AV×AV)}(L:Lg P0 E F K)(X:Fx F K)
include L X
section
variable {h:H}
omit L X in
def atA (A:Int→Option Int)(s:Int):Int:=(A s).getD 0
omit L X in
theorem rx {M1 M2:List (Int×AV×Nat)}{A:Int→Option Int}(q:MQ M1 M2 A)(s:Int):(Bp M1 s).getD (AI ((0:Nat):Int))=AI (atA A s):=by
 rw [q.a1];unfold atA;cases A s <;> rfl
theorem ry {S nb P m r1 r2 vb:Nat}{A:Int→Option Int}(U:SortOk P0 E F 129)(q:MpR S nb P h m r1 r2 vb A):
  Ct P0 E F K 109 [.ptr m 0] h fun v h'=> ∃D a b va vb',DomA A D∧D.length≤1000∧v= .fn (.func 144) [] [.ptr a 0,.ptr b 0]∧Bk h' a [va]∧Bk h' b [vb']∧RowN h' h.n va D∧RowN h' h.n vb' (D.map (atA A))∧K0 h h'∧h.n≤a∧h.n≤b:=by
 have q0:=q
 obtain⟨km,⟨n1,n2,n3,n4,n5,n6⟩,rg,nz,M1,M2,c1,c2,cv,oo⟩:=q
 have hk:=MpR.keys q0 oo
 obtain⟨k1,o1,k2,o2,kv,vl,vv,mr⟩:=oo
 have l1:=km.lt
 have l2:=k1.lt
 have hpairs0: ∀(h2:H),Ct P0 E F K 103 [.nils,.nils] h2 fun v h'=>v= .fn (.func 144) [] [.ptr h2.n 0,.ptr (h2.n+1) 0]∧Bk h' h2.n [.nils]∧Bk h' (h2.n+1) [.nils]∧K0 h2 h':=by
  intro h2
  refine Ad L X.f103 X.k103 rfl rfl fun Q x cs G=>?_
  refine wk ?_
  refine ret X.f103 ?_
  exact⟨rfl,lkp,lkp,kps⟩
 have hpairs1: ∀(h2:H) (a0 b0 k0 l0:Nat),Ct P0 E F K 103 [.slc a0 0 k0 (Aa+1),.slc b0 0 l0 (Aa+1)] h2 fun v h'=>v= .fn (.func 144) [] [.ptr h2.n 0,.ptr (h2.n+1) 0]∧Bk h' h2.n [.slc a0 0 k0 (Aa+1)]∧Bk h' (h2.n+1) [.slc b0 0 l0 (Aa+1)]∧K0 h2 h':=by
  intro h2 a0 b0 k0 l0
  refine Ad L X.f103 X.k103 rfl rfl fun Q x cs G=>?_
  refine wk ?_
  refine ret X.f103 ?_
  exact⟨rfl,lkp,lkp,kps⟩
 refine Al L X.f109 X.k109 rfl rfl fun Q x cs G=>?_
 refine wk ?_
 refine cal (c:=Pv L X (c0:=AI ((S:Nat):Int)) (c1:=AI ((nb:Nat):Int)) (c2:=AI ((P:Nat):Int)) (r1:=r1) (rest:= [.map r2,.slc vb 0 nb nb]) lkp) (g:=?_)
 rintro _ rfl
 refine wk ?_
 refine cal (c:=V9 L X U o1 k1 (by omega)) (g:=?_)
 rintro _ h2 ⟨S0,p,w1,w2⟩
 have hD:=mr.dom o1 p
 have hDl:(Fi S0).length≤1000:=by rw [Ew,p.length_eq,List.length_map];exact hk
 generalize Fi S0=D at*
 have n2:=w1.n
 rcases w2.ex with⟨rfl,rfl⟩|⟨w3,db,rfl,w4,w5⟩
 ·refine wk ?_
  refine A2 L ?_
  refine wk ?_
  refine cal (c:=hpairs0 _) (g:=?_)
  rintro _ h3 ⟨rfl,u1,u2,u3⟩
  refine wk ?_
  refine ret X.f109 ?_
  exact⟨[],_,_,.nils,.nils,hD,hDl,rfl,by exact lkp,by exact lkp,⟨.inl ⟨rfl,rfl⟩⟩,⟨.inl ⟨rfl,rfl⟩⟩,kps,by first|omega|(simp only [Am]at *;omega),by first|omega|(simp only [Am]at *;omega)⟩
 have ld:=w4.lt
 refine wk ?_
 refine Co L (α:= AV) (T:=fun i v=> [(17,some (AI ((i:Nat):Int))),(16,some (AI ((D.length:Nat):Int))),(15,some (.slc db 0 D.length (Aa+1))),(4,some v),(3,some (.slc db 0 D.length (Aa+1))),(0,some (.ptr m 0))]) (n:=D.length)
  (R:=fun i v h3=>RowN h3 h2.n v ((D.take i).map (atA A))∧K0 h h3∧K0 h2 h3) (i0:=0) .nils tsb ⟨⟨.inl ⟨rfl,rfl⟩⟩,kps,kps⟩ (Nat.zero_le _) ?_ ?_
 ·rintro i v h3 hi ⟨u1,u2,u3⟩ ih
  have hx:D[i]?=some D[i]:=List.getElem?_eq_getElem hi
  have hxm:(D.map AI)[i]?=some (AI D[i]):=by rw [List.getElem?_map,hx];rfl
  have e1:((D.take (i+1)).map (atA A))=(D.take i).map (atA A)++ [atA A D[i]]:=by rw [List.take_add_one,hx,List.map_append];rfl
  have e2:((D.take i).map (atA A)).length=i:=by rw [List.length_map,List.length_take];omega
  rw [e1]at ih
  generalize D[i]=s at*
  have hg:=rx mr s
  have n3:=u3.n
  refine wk ?_
  (apply st1 L rfl;exact Dz (KE.int .i64) rfl rfl lkq;rfl)
  rw [hg]
  rcases u1.ex with⟨e0,rfl⟩|⟨gn,lb,rfl,g5,g6⟩
  ·refine wk ?_
   (apply st1 L rfl;exact F0 (new:= [AI (atA A s)]) rfl rfl (SlR.of (c:= [AI (atA A s)]) lkp (Nat.le_refl _) rfl) (by omega) (by omega);rfl)
   refine wk ?_
   refine ih _ _ _ ⟨?_,kps,kps⟩ tsb
   rw [e0,List.nil_append]
   exact⟨.inr ⟨by simp,_,rfl,by exact lkp,by omega⟩⟩
  ·have g8:=g5.lt
   rw [e2]
   refine wk ?_
   (apply st1 L rfl;exact Fz (old:=((D.take i).map (atA A)).map AI) (new:= [AI (atA A s)]) rfl rfl (SlR.of (c:=((D.take i).map (atA A)).map AI) lkp (by rw [List.length_map,e2];omega) (by rw [List.drop_zero,List.take_of_length_le (by rw [List.length_map,e2];omega)])) (SlR.of (c:= [AI (atA A s)]) lkp (Nat.le_refl _) rfl) (by omega) (by omega) rfl;rfl)
   refine wk ?_
   refine ih _ _ _ ⟨?_,kps,kps⟩ tsb
   refine⟨.inr ⟨by simp,h3.n+1,(by rw [List.length_append,e2];rfl),(by rw [List.map_append];exact lkp),by omega⟩⟩
 ·rintro v h3 ⟨u1,u2,u3⟩
  rw [List.take_length]at u1
  rcases u1.ex with⟨e0,rfl⟩|⟨gn,lb,rfl,g5,g6⟩
  ·rw [List.map_eq_nil_iff]at e0;rw [e0]at w3;exact absurd w3 (Nat.lt_irrefl 0)
  have g8:=g5.lt
  have hn:=u3.n
  refine wk ?_
  refine cal (c:=hpairs1 _ db lb _ _) (g:=?_)
  rintro _ h4 ⟨rfl,x1,x2,x3⟩
  refine wk ?_
  refine ret X.f109 ?_
  exact⟨D,_,_,_,_,hD,hDl,rfl,by exact lkp,by exact lkp,⟨.inr ⟨w3,db,rfl,by exact lkp,by omega⟩⟩,⟨.inr ⟨gn,lb,rfl,by exact lkp,by omega⟩⟩,kps,by first|omega|(simp only [Am]at *;omega),by first|omega|(simp only [Am]at *;omega)⟩
end
end
section
variable {P0:Program}{E:Env}{F:T CFn}{K:T (List AV×AV)}(L:Lg P0 E F K)(X:Fx F K)
include L X
section
variable {h:H}
theorem ag {lp a b lo:Nat}{va vb':AV}{D:List Int}{g:Int→Int}(hlen:D.length≤1000)(I:Nat→H→Prop)
  (hI: ∀i hh,I i hh→Bk hh a [va]∧Bk hh b [vb']∧RowN hh lo va D∧RowN hh lo vb' (D.map g)) (hK: ∀i hh h',I i hh→K0 hh h'→I i h')
  (hY: ∀i s hh,D[i]?=some s→I i hh→CtA P0 E F K (.yield lp) [AI s,AI (g s)] hh fun u h'=>u= .bool true∧I (i+1) h') (h0:I 0 h):
  Ct P0 E F K 144 [.fn (.yield lp) [] [],.ptr a 0,.ptr b 0] h fun v h'=>I D.length h':=by
 obtain⟨k1,k2,k3,k4⟩:=hI _ _ h0
 rcases k3.ex with⟨rfl,rfl⟩|⟨hp1,da,rfl,k5,k6⟩
 ·refine Bz L X.f144 X.k144 rfl rfl fun Q x cs G=>?_
  refine wk ?_
  refine A2 L ?_
  refine wk ?_
  refine ret X.f144 ?_
  exact hK _ _ _ h0 kps
 rcases k4.ex with⟨e0,rfl⟩|⟨hp2,db,rfl,k7,k8⟩
 ·rw [List.map_eq_nil_iff]at e0;rw [e0]at hp1;exact absurd hp1 (Nat.lt_irrefl 0)
 refine Bz L X.f144 X.k144 rfl rfl fun Q x cs G=>?_
 refine wk ?_
 refine Co L (α:= Unit) (T:=fun i _=> [(8,some (AI ((i:Nat):Int))),(7,some (AI ((D.length:Nat):Int))),(6,some (.slc da 0 D.length (Aa+1))),(2,some (.ptr b 0)),(0,some (.fn (.yield lp) [] []))]) (n:=D.length)
  (R:=fun i _ hh=>I i hh) (i0:=0) () tsb (hK _ _ _ h0 kps) (Nat.zero_le _) ?_ ?_
 ·rintro i _ h2 hi w ih
  have hx:D[i]?=some D[i]:=List.getElem?_eq_getElem hi
  have hxa:(D.map AI)[i]?=some (AI D[i]):=by rw [List.getElem?_map,hx];rfl
  have hxb:((D.map g).map AI)[i]?=some (AI (g D[i])):=by rw [List.getElem?_map,List.getElem?_map,hx];rfl
  have hl2:i<(D.map g).length:=by rw [List.length_map];exact hi
  obtain⟨j1,j2,j3,j4⟩:=hI _ _ w
  have j5:Bk h2 da (D.map AI):=by
   rcases j3.ex with⟨_,e⟩|⟨_,b',e,e2,_⟩
   ·cases e
   ·cases e;exact e2
  have j6:Bk h2 db ((D.map g).map AI):=by
   rcases j4.ex with⟨_,e⟩|⟨_,b',e,e2,_⟩
   ·cases e
   ·cases e;exact e2
  generalize D[i]=s at*
  refine wk ?_
  refine Pj L rfl rfl rfl rfl rfl (hY i _ _ hx (hK i _ _ w (by exact kps))) ?_
  rintro _ h3 ⟨rfl,w3⟩
  refine wk ?_
  refine ih () _ _ w3 ?_;exact tsb
 ·rintro _ h2 w
  refine wk ?_
  refine ret X.f144 ?_
  exact w
end
end
section
variable {P0:Program}{E:Env}{F:T CFn}{K:T (List AV×AV)}(L:Lg P0 E F K)(X:Fx F K)
include L X
section
variable {h:H}
noncomputable def lpM (m hn a b mk:Nat)(st:LS):Blk:= .loop ⟨st,none,56,cf56.ntmps,tms [(6,some (.fn (.func 144) [] [.ptr a 0,.ptr b 0])),(5,some (.ptr m 0)),(2,some (.ptr hn 0)),(0,some (.ptr m 0))],[7,8],c56_4,c56_6,mk⟩
omit L X in
def B0 (A:Int→Option Int)(D:List Int):List Ent:=D.map fun s=>(s,atA A s)
omit L X in
theorem RowN.kS {h h':H}{S:Nat→Prop}{lo hi:Nat}{v:AV}{D:List Int}(q:RowN h lo v D)(hb: ∀b n c,v= .slc b 0 n c→b<hi)(k:Kp S h h')(hs: ∀j,lo≤j→j<hi→ ¬S j):RowN h' lo v D:=by
 rcases q.ex with h1|⟨h2,b,h3,h4,h5⟩
 ·exact⟨.inl h1⟩
 ·exact⟨.inr ⟨h2,b,h3,As k (hs b h5 (hb _ _ _ h3)) h4,h5⟩⟩
omit L X in
theorem RowN.bd {h:H}{lo:Nat}{v:AV}{D:List Int}(q:RowN h lo v D): ∀b n c,v= .slc b 0 n c→b<h.n:=by
 intro b n c e
 rcases q.ex with⟨_,h1⟩|⟨_,b',h3,h4,_⟩
 ·rw [h1]at e;cases e
 ·rw [h3]at e;cases e;exact h4.lt
omit L X in
structure RE (h hh:H)(m a b mk:Nat)(va vb':AV)(A:Int→Option Int)(D:List Int)(i:Nat):Prop where
 k:K0 h hh
 dk:Gk hh mk (.dfr (some []))
 lp:Gk hh (mk+1) (lpM m h.n a b mk .ready)
 ka:Bk hh a [va]
 kb:Bk hh b [vb']
 ra:RowN hh (h.n+1) va D
 rb:RowN hh (h.n+1) vb' (D.map (atA A))
 ex: ∃v,Bk hh h.n [v]∧EL hh (mk+2) v (B0 A (D.take i))
theorem It {S nb P m r1 r2 vb:Nat}{A:Int→Option Int}(U:SortOk P0 E F 129)(q:MpR S nb P h m r1 r2 vb A):
  Ct P0 E F K 56 [.ptr m 0] h fun v h'=> ∃D,DomA A D∧D.length≤1000∧EL h' h.n v (B0 A D)∧K0 h h':=by
 refine Al L X.f56 X.k56 rfl rfl fun Q x cs G=>?_
 refine wk ?_
 refine cal (c:=ry L X U (q.k0 kps)) (g:=?_)
 rintro _ h2 ⟨D,a,b,va,vb',hD,hDl,rfl,w1,w2,w3,w4,w5,w6,w7⟩
 have n5:=w5.n
 simp only [Am]at n5 w6 w7
 have la:=w1.lt
 have lb:=w2.lt
 refine wk ?_
 refine Hq L (post:=fun _ h'=>RE h h' m a b h2.n va vb' A D D.length) rfl rfl rfl ?_ ?_
 ·refine Ct.A ((ag L X (g:=atA A) (lo:=h.n+1) hDl (fun i hh=>RE h hh m a b h2.n va vb' A D i) (fun i hh r=>⟨r.ka,r.kb,r.ra,r.rb⟩) (fun i hh h' r k=>?_) (fun i s hh hx r=>?_) ⟨kps,lkg,lkg,by exact lkp,by exact lkp,?_,?_,.nils,by exact lkp,EL.nil _ _⟩).mono fun v h' p=>p)
  ·exact⟨Kp.tr0 k r.k,E5 k r.dk,E5 k r.lp,Ag k r.ka,Ag k r.kb,r.ra.k0 k,r.rb.k0 k,let⟨v,e1,e2⟩:=r.ex;⟨v,Ag k e1,e2.k0 k⟩⟩
  ·obtain⟨r1,r2,r3,r4,r5,r6,r7,v,r8,r9⟩:=r
   have hle:=r3.e
   unfold lpM at hle
   have g1:=r2.lt
   have g2:=r3.lt
   have g3:=r4.lt
   have g4:=r5.lt
   have g5:=r8.lt
   have hi:=(List.getElem?_eq_some_iff.1 hx).1
   have e1:B0 A (D.take (i+1))=B0 A (D.take i)++ [(s,atA A s)]:=by unfold B0;rw [List.take_add_one,hx,List.map_append];rfl
   have e2:(B0 A (D.take i)).length=i:=by unfold B0;rw [List.length_map,List.length_take];omega
   refine F1 L (l1:= [(8,some (AI (atA A s))),(7,some (AI s)),(6,some (.fn (.func 144) [] [.ptr a 0,.ptr b 0])),(5,some (.ptr m 0)),(2,some (.ptr h.n 0)),(0,some (.ptr m 0))]) hle rfl ?_
   intro Q z2 cs G
   refine wk ?_
   refine Eu L (Gk.e lkg) ?_
   rcases r9.len with⟨e0,rfl⟩|⟨gn,lb2,rfl,g6,g7⟩
   ·refine wk ?_
    (apply st1 L rfl;exact F0 (new:=Az (s,atA A s)) rfl rfl (SlR.of (c:=Az (s,atA A s)) lkp (Nat.le_refl _) rfl) (by omega) (by omega);rfl)
    refine wk ?_
    refine Da L (Gk.e lkg) G ⟨rfl,?_⟩
    refine⟨kps,lkg,(by unfold lpM;exact Dx (by omega)),by exact lkp,by exact lkp,r6.kS (S:=fun j=>j=h.n∨j=h2.n+1) w3.bd kps (by intro j q1 q2;omega),r7.kS (S:=fun j=>j=h.n∨j=h2.n+1) w4.bd kps (by intro j q1 q2;omega),_,by exact lkp,?_⟩
    rw [e1,e0,List.nil_append]
    exact EL.app (l:= []) (by exact lkp) (by omega) rfl
   ·have g8:=g6.lt
    rw [e2]at r8
    refine wk ?_
    (apply st1 L rfl;exact Fz (old:=(B0 A (D.take i)).flatMap Az) (new:=Az (s,atA A s)) rfl rfl (SlR.of (c:=(B0 A (D.take i)).flatMap Az) lkp (by rw [A8,e2];omega) (by rw [List.drop_zero,List.take_of_length_le (by rw [A8,e2];exact Nat.le_refl _)])) (SlR.of (c:=Az (s,atA A s)) lkp (Nat.le_refl _) rfl) (by omega) (by omega) rfl;rfl)
    refine wk ?_
    refine Da L (Gk.e lkg) G ⟨rfl,?_⟩
    refine⟨kps,lkg,(by unfold lpM;exact Dx (by omega)),by exact lkp,by exact lkp,r6.kS (S:=fun j=>j=h.n∨j=h2.n+1∨j=lb2) w3.bd kps (by intro j q1 q2;omega),r7.kS (S:=fun j=>j=h.n∨j=h2.n+1∨j=lb2) w4.bd kps (by intro j q1 q2;omega),_,by exact lkp,?_⟩
    rw [e1]
    exact EL.app (l:=B0 A (D.take i)) (by exact lkp) (by omega) e2
  ·exact w3.k0 kps
  ·exact w4.k0 kps
 ·rintro v h3 ⟨r1,r2,r3,r4,r5,r6,r7,v2,r8,r9⟩
  have hle:=r3.e
  unfold lpM at hle
  have l4:=r8.lt
  have l5:=r2.lt
  refine Gd L (n:=h3.n) (t:=h3.t) (lh:= []) hle (by intro q;cases q) ?_
  rw [List.take_length]at r9
  rcases r9.ex with⟨e0,rfl⟩|⟨e0,b',rfl,r10,r11⟩
  all_goals
   refine wk ?_
   refine D0 L (todo:= []) ?_
   refine F2 L (by intro q;cases q) (Gk.e lkg) ?_
   refine Eb L X.f56 (Eh (b:=h.n) rfl (Bk.e lkp) rfl Jn) G ⟨D,hD,hDl,?_,kps⟩
  ·exact⟨.inl ⟨e0,rfl⟩⟩
  ·exact⟨.inr ⟨e0,b',rfl,by exact lkp,by omega⟩⟩
end
end
end Go.Ev
