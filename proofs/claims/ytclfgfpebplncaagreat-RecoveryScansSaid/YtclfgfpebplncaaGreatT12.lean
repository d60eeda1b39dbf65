/- Part of the proof. -/
import Derived.Test.YtclfgfpebplncaaGreatT11
set_option linter.unusedVariables false
set_option linter.unusedSectionVars false
set_option linter.unusedSimpArgs false
set_option maxRecDepth 10000
set_option maxHeartbeats 4000000
namespace Go.Ev
section
variable {P0:Program}{E:Env}{F:T CFn}{K:T (List AV×AV)}(L:Lg P0 E F K)(X:Fx F K)
include L X
section
variable {h:H}
theorem bx {r cb o n at_ m a sb:Nat}{bs:List Nat}(ks:Bk h sb [.int .i64 ((m:Nat):Int)])(k:Bk h r [.slc cb o n (Ac+1),.int .i64 ((at_:Nat):Int)])(kb:BS h cb o ((bs.drop a).take m))(hl:a+m≤bs.length)(hm:m≤n)(hm1:1≤m∧m≤8)(hn:n<1000)(ha:at_<1000)(hne:cb≠r):
  Ct P0 E F K 200 [.ptr r 0,.slc sb 0 1 1] h fun v h'=> ∃b,v= .tup [.slc b 0 1 (Ac+1),.int .i64 ((0:Nat):Int)]∧Bk h' b [.int .u64 ((leF bs a m:Nat):Int)]∧h.n≤b∧Bk h' r [.slc cb (o+m) (n - m) (Ac+1),.int .i64 ((at_+m:Nat):Int)]∧Kp (fun j=>j=r) h h':=by
 have l1:=k.lt
 have l2:=ks.lt
 have l3:=kb.lt_n
 refine Af L X.f200 X.k200 rfl rfl fun Q x cs G=>?_
 refine wk ?_
 refine cal (c:=Lw L X) (g:=?_)
 rintro _ rfl
 refine wk ?_
 refine cal (c:=rt L X (a:=a) (bs:=bs) (at_:=at_) (n:=n) lkp lkp lkb hl hm hm1 hn ha (by omega)) (g:=?_)
 rintro _ h2 ⟨b,rfl,w1,w2,w3,w4⟩
 have n2:=w4.n
 have l4:=w1.lt
 have l5:=w3.lt
 simp only [Ah]at n2 w2
 refine wk ?_
 refine ret X.f200 ?_
 exact⟨b,rfl,lkp,by omega,lkp,kps⟩
theorem Ky {r cb o n at_ m a:Nat}{bs:List Nat}(k:Bk h r [.slc cb o n (Ac+1),.int .i64 ((at_:Nat):Int)])(kb:BS h cb o ((bs.drop a).take m))(hl:a+m≤bs.length)(hm:m≤n)(hm1:1≤m∧m≤8)(hn:n<1000)(ha:at_<1000)(hne:cb≠r):
  Ct P0 E F K 154 [.ptr r 0,.int .i64 ((m:Nat):Int)] h fun v h'=>v= .tup [.int .u64 ((leF bs a m:Nat):Int),.int .i64 ((0:Nat):Int)]∧Bk h' r [.slc cb (o+m) (n - m) (Ac+1),.int .i64 ((at_+m:Nat):Int)]∧Kp (fun j=>j=r) h h':=by
 have l1:=k.lt
 have l3:=kb.lt_n
 refine Af L X.f154 X.k154 rfl rfl fun Q x cs G=>?_
 refine wk ?_
 refine cal (c:=bx L X (a:=a) (bs:=bs) (at_:=at_) (n:=n) (cb:=cb) (o:=o) lkp lkp lkb hl hm hm1 hn ha hne) (g:=?_)
 rintro _ h2 ⟨b,rfl,w1,w2,w3,w4⟩
 have n2:=w4.n
 have l4:=w1.lt
 have l5:=w3.lt
 simp only [Ah]at n2 w2
 refine wk ?_
 refine ret X.f154 ?_
 exact⟨rfl,lkp,kps⟩
theorem j9 {r at_:Nat}{v0:AV}(k:Bk h r [v0,.int .i64 ((at_:Nat):Int)]):Ct P0 E F K 159 [.ptr r 0] h fun v h'=>v= .int .i64 ((at_:Nat):Int)∧h'=h:=by
 refine Ao L X.f159 X.k159 rfl rfl fun Q x cs G=>?_
 refine wk ?_
 refine cal (c:=Lw L X) (g:=?_)
 rintro _ rfl
 refine wk ?_
 refine ret X.f159 ?_
 exact⟨rfl,rfl⟩
theorem b7 {v:Nat}:Ct P0 E F K 205 [.int .u8 ((v:Nat):Int)] h fun u h'=>u= .bool (decide (v≠0))∧h'=h:=by
 refine Ao L X.f205 X.k205 rfl rfl fun Q x cs G=>?_
 refine wk ?_
 by_cases hv:v=0
 ·refine wk ?_
  refine ret X.f205 ?_
  exact⟨by rw [decide_eq_false (by omega)];rfl,rfl⟩
 ·refine wk ?_
  refine ret X.f205 ?_
  exact⟨by rw [decide_eq_true (by omega)];rfl,rfl⟩
def zer (bs:List Nat)(a n:Nat):Bool:=(List.range n).all fun i=>decide (bs.getD (a+i) 0=0)
omit L X in
theorem ur {bs:List Nat}{a n:Nat}(h: ∀i,i<n→bs.getD (a+i) 0=0):zer bs a n=true:=by
 unfold zer;rw [List.all_eq_true];intro i hi;exact decide_eq_true (h i (List.mem_range.1 hi))
omit L X in
theorem Aa1 {bs:List Nat}{a n i:Nat}(hi:i<n)(h:bs.getD (a+i) 0≠0):zer bs a n=false:=by
 cases hz:zer bs a n with
 |false=>rfl
 |true=>
  unfold zer at hz
  rw [List.all_eq_true]at hz
  exact absurd (of_decide_eq_true (hz i (List.mem_range.2 hi))) h
theorem ca {b o n c a:Nat}{bs:List Nat}(k:BS h b o ((bs.drop a).take n))(hl:a+n≤bs.length)(hn:n<1000):
  Ct P0 E F K 225 [.slc b o n c,.fn (.func 205) [] []] h fun v h'=>(∃i:Int,v= .int .i64 i∧(0≤i↔zer bs a n=false)∧ -1≤i∧i<1000)∧h'=h:=by
 have hkl:((bs.drop a).take n).length=n:=by rw [List.length_take,List.length_drop];omega
 have hgd: ∀i,i<n→((bs.drop a).take n).getD i 0=bs.getD (a+i) 0:=fun i hi=>by
  simp only [List.getD_eq_getElem?_getD]
  rw [List.getElem?_take_of_lt hi,List.getElem?_drop]
 refine Af L X.f225 X.k225 rfl rfl fun Q x cs G=>?_
 refine wk ?_
 refine Bb L (α:= Unit) (T:=fun i _=> [(8,some (.int .i64 ((i:Nat):Int))),(7,some (.int .i64 ((n:Nat):Int))),(0,some (.slc b o n c)),(1,some (.fn (.func 205) [] []))]) (n:=n)
  (R:=fun i _ h1=>h1=h∧ ∀j,j<i→bs.getD (a+j) 0=0) (i0:=0) () tsb ⟨rfl,fun j hj=>absurd hj (Nat.not_lt_zero j)⟩ (Nat.zero_le _) ?_ ?_
 ·rintro i _ h1 hi ⟨rfl,w1⟩ ih
  refine wk ?_
  (apply st1 L rfl;exact F3 k rfl (by omega);rfl)
  rw [hgd i hi]
  refine wk ?_
  refine cal (c:=b7 L X) (g:=?_)
  rintro _ rfl
  by_cases hz:bs.getD (a+i) 0=0
  ·rw [decide_eq_false (show¬bs.getD (a+i) 0≠0 from fun q=>q hz)]
   refine wk ?_
   refine ih () _ _ ⟨rfl,fun j hj=>?_⟩ tsb
   by_cases e:j=i
   ·rw [e];exact hz
   ·exact w1 j (by omega)
  ·rw [decide_eq_true (show bs.getD (a+i) 0≠0 from hz)]
   refine wk ?_
   refine ret X.f225 ?_
   exact⟨⟨i,rfl,by rw [Aa1 hi hz];simp,by omega,by omega⟩,rfl⟩
 ·rintro _ h1 ⟨rfl,w1⟩
  refine wk ?_
  refine ret X.f225 ?_
  exact⟨⟨-1,rfl,by rw [ur w1];simp,by omega,by omega⟩,rfl⟩
theorem Tz {b o n c a:Nat}{bs:List Nat}(k:BS h b o ((bs.drop a).take n))(hl:a+n≤bs.length)(hn:n<1000):
  Ct P0 E F K 204 [.slc b o n c,.fn (.func 205) [] []] h fun v h'=>v= .bool (!zer bs a n)∧h'=h:=by
 refine Af L X.f204 X.k204 rfl rfl fun Q x cs G=>?_
 refine wk ?_
 refine cal (c:=ca L X (bs:=bs) (a:=a) lkb hl hn) (g:=?_)
 rintro _ ⟨i,rfl,w1,w2,w3⟩
 cases hz:zer bs a n with
 |false=>
  have h0:=w1.2 hz
  refine wk ?_
  refine ret X.f204 ?_
  exact⟨by rw [hz];rfl,rfl⟩
 |true=>
  have h0: ¬0≤i:=fun q=>by rw [w1.1 q]at hz;cases hz
  refine wk ?_
  refine ret X.f204 ?_
  exact⟨by rw [hz];rfl,rfl⟩
theorem Ql {r cb o n at_ m a:Nat}{bs:List Nat}(k:Bk h r [.slc cb o n (Ac+1),.int .i64 ((at_:Nat):Int)])(kb:BS h cb o ((bs.drop a).take m))(hl:a+m≤bs.length)(hm:m≤n)(hn:n<1000)(ha:at_<1000)(hne:cb≠r):
  Ct P0 E F K 158 [.ptr r 0,.int .i64 ((m:Nat):Int)] h fun v h'=>v= .int .i64 ((if zer bs a m=true then 0 else 6:Nat):Int)∧(zer bs a m=true→Bk h' r [.slc cb (o+m) (n - m) (Ac+1),.int .i64 ((at_+m:Nat):Int)])∧Kp (fun j=>j=r) h h':=by
 have l1:=k.lt
 have l3:=kb.lt_n
 refine Af L X.f158 X.k158 rfl rfl fun Q x cs G=>?_
 refine wk ?_
 refine cal (c:=Lw L X) (g:=?_)
 rintro _ rfl
 refine wk ?_
 refine cal (c:=Yz L X (at_:=at_) (n:=n) (cb:=cb) (o:=o) lkp hm hn ha) (g:=?_)
 rintro _ h2 ⟨rfl,w1,w2⟩
 have n2:=w2.n
 simp only [Ah]at n2
 refine wk ?_
 refine cal (c:=Tz L X (bs:=bs) (a:=a) lkb hl (by omega)) (g:=?_)
 rintro _ rfl
 cases hz:zer bs a m with
 |true=>
  refine wk ?_
  refine ret X.f158 ?_
  rw [if_pos hz]
  exact⟨rfl,fun _=>lkp,kps⟩
 |false=>
  refine wk ?_
  refine ret X.f158 ?_
  rw [if_neg (by rw [hz];simp)]
  refine⟨rfl,?_,kps⟩
  intro q
  first|(cases q;done)|(rw [hz]at q;cases q)
end
end
end Go.Ev
