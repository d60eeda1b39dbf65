/- Part of the proof. -/
import Derived.Test.YtclfgfpebplncaaGreatH04
import Derived.Test.YtclfgfpebplncaaGreatH05
import Derived.Test.YtclfgfpebplncaaGreatH07
set_option linter.unusedVariables false
set_option linter.unusedSectionVars false
set_option linter.unusedSimpArgs false
set_option maxRecDepth 10000
set_option maxHeartbeats 4000000
namespace Go.Ev
variable {at_ b b4 b5 c c' cb e m nt o r rb sb:Nat}{data ex:List Nat}{h:H}{i:Int}{post:AV→H→Prop}{todo:List AItem}{x0 x1 x2 x3 x4 x5 y0:AV}{z:AFr}
section
variable {P0:Program}{E:Env}{F:T CFn}{K:T (List AV×AV)}(L:Lg P0 E F K)(X:Fx F K)
include L X
theorem Mr {n:Nat}{bs:List Nat}(k:BS h b o bs)(e:bs.length=n)(h1:0<n∧n<1000): Ct P0 E F K 152 [.slc b o n c] h fun v h'=> ∃r cb,v= .ptr r 0∧Bk h' r [.slc cb 0 n (Aa+1),Zi]∧BS h' cb 0 bs∧h.n≤cb∧h.n≤r∧cb≠r∧K0 h h':=by refine Ao L X.f152 fun Q x cs G=>?_;refine cal ?_ (c:=Mp L X lkb e h1);rintro _ h2 ⟨cb,rfl,w1,w2,w3⟩;have n2:=w3.n;have l2:=w1.lt_n;simp only [Al]at w2 n2;refine ret X.f152.1 ?_;exact⟨h2.n,cb,rfl,lkp,lkb,by omega,by omega,by omega,kps⟩
theorem Ms:Ct P0 E F K 202 [.ptr r 0] h fun v h'=>v= .ptr r 0∧h'=h:=by refine Ao L X.f202 fun Q x cs G=>?_;refine ret X.f202.1 ?_;exact⟨rfl,rfl⟩
theorem W4 {n:Nat}(k:Bk h r [.slc cb o n (Aa+1),AN at_])(hm:m≤n)(hn:n<1000)(ha:at_<1000): Ct P0 E F K 203 [.ptr r 0,AN m] h fun v h'=>v= .tup [.slc cb o m m,Zi]∧Bk h' r [.slc cb (o+m) (n - m) (Aa+1),AN (at_+m)]∧Kp (fun j=>j=r) h h':=by refine Af L X.f203 fun Q x cs G=>?_;refine wk ?_;(apply bm L rfl rfl rfl rfl rfl rfl rfl;exact lkp;rfl;intro h9 hs9;(repeat(first|(apply Ax rfl rfl;exact opv)|(apply Rh rfl rfl)));(first|(apply p_0;exact chk)|(refine Yx L ?_ rfl ?_;exact chk));refine Uy L hs9 ?_);refine ret X.f203.1 ?_;exact⟨rfl,lkp,kps⟩
theorem bw {n:Nat}{bs:List Nat}{a:Nat}(k:BS h b o ((bs.drop a).take n))(hl:a+n≤bs.length)(hn:1≤n∧n≤8): Ct P0 E F K 156 [.slc b o n c] h fun v h'=>v= .tup [UN (leF bs a n),Zi]∧h'=h:=by
 have hall:=k.all;have hkl:((bs.drop a).take n).length=n:=by rw [List.length_take,List.length_drop];omega
 have hgd: ∀i,i<n→((bs.drop a).take n).getD i 0=bs.getD (a+i) 0:=fun i hi=>by exact Ae9
 have hlt: ∀i,i≤n→leF bs a i<256 ^ i:=by
  intro i;induction i with
  |zero=>intro _;simp [leF]
  |succ i ih=>intro hi;have h1:=ih (by omega);have h2:=El hall i;rw [hgd i (by omega)]at h2;rw [Mn,Nat.pow_succ];have:bs.getD (a+i) 0*256 ^ i≤255*256 ^ i:=Nat.mul_le_mul_right _ (by omega);omega
 refine Ao L X.f156 fun Q x cs G=>?_;refine wk ?_;refine Bs L (α:= Nat) (T:=fun i u=> [(16,some (AN i)),(15,some (AN n)),(14,some (.slc b o n c)),(2,some (UN u))]) (n:=n) (R:=fun i u h1=>h1=h∧u=leF bs a i) (i0:=0) 0 tsb ⟨rfl,rfl⟩ (Nat.zero_le _) ?_ ?_
 ·rintro i u h1 hi ⟨rfl,w1⟩ ih;have h1':=hlt i (by omega);rw [←w1]at h1';have hb:=El hall i;rw [hgd i hi]at hb;have hlt2:=hlt (i+1) (by omega);rw [Mn,←w1]at hlt2;have hp:256 ^ (i+1)≤256 ^ 8:=Nat.pow_le_pow_right (by omega) (by omega);have hp2:(256:Nat) ^ 8=18446744073709551616:=by decide
  have hpe:2 ^ (8*i)=256 ^ i:=(U9 i).symm;refine wk ?_;(apply st1 L rfl;exact U6 k rfl (by omega);rfl);rw [hgd i hi];refine wk ?_;(apply st1 L rfl;exact Ajl (s:=8*i) rfl rfl rfl (by show 8*i≤64;omega);rfl);rw [hpe,show(bs.getD (a+i) 0*256 ^ i) % pw .u64=bs.getD (a+i) 0*256 ^ i from Nat.mod_eq_of_lt (by simp only [pw];omega)];have hor:u ||| bs.getD (a+i) 0*256 ^ i=u+bs.getD (a+i) 0*256 ^ i:=by have:=Nat.shiftLeft_add_eq_or_of_lt (i:=8*i) (show u<2 ^ (8*i) by rw [hpe];exact h1') (bs.getD (a+i) 0);rw [Nat.shiftLeft_eq,hpe]at this;rw [Nat.or_comm,←this,Nat.add_comm]
  refine wk ?_;(apply st1 L rfl;exact Apa rfl rfl rfl (by simp only [pw];omega) (by simp only [pw];omega) (by rw [hor];simp only [pw];omega);rfl);rw [hor];refine wk ?_;refine ih _ _ _ ⟨rfl,?_⟩ tsb;rw [Mn,←w1]
 ·rintro u h1 ⟨rfl,w1⟩;refine ret X.f156.1 ?_;rw [w1];exact⟨rfl,rfl⟩
theorem ul {n a:Nat}{bs:List Nat}(k:Bk h r [.slc cb o n (Aa+1),AN at_])(kb:BS h cb o ((bs.drop a).take m))(hl:a+m≤bs.length)(hm:m≤n)(hm1:1≤m∧m≤8)(hn:n<1000)(ha:at_<1000)(hne:cb≠r): Ct P0 E F K 223 [.ptr r 0,AN m] h fun v h'=> ∃b,v= .tup [.slc b 0 1 1,Zi]∧Bk h' b [UN (leF bs a m)]∧h.n≤b∧Bk h' r [.slc cb (o+m) (n - m) (Aa+1),AN (at_+m)]∧Kp (fun j=>j=r) h h':=by have l1:=k.lt;refine Af L X.f223 fun Q x cs G=>?_;refine cal ?_ (c:=W4 L X lkp hm hn ha);rintro _ h2 ⟨rfl,w1,w2⟩;have n2:=w2.n;simp only [Al]at n2;refine cal ?_ (c:=bw L X lkb hl hm1);rintro _ rfl;refine ret X.f223.1 ?_;exact⟨h2.n,rfl,lkp,by omega,lkp,kps⟩
theorem um {n a:Nat}{bs:List Nat}(ks:Bk h sb [AN m])(k:Bk h r [.slc cb o n (Aa+1),AN at_])(kb:BS h cb o ((bs.drop a).take m))(hl:a+m≤bs.length)(hm:m≤n)(hm1:1≤m∧m≤8)(hn:n<1000)(ha:at_<1000)(hne:cb≠r): Ct P0 E F K 222 [.slc sb 0 1 1,.fn (.func 223) [.ptr r 0] []] h fun v h'=> ∃b,v= .tup [.slc b 0 1 (Aa+1),Zi]∧Bk h' b [UN (leF bs a m)]∧h.n≤b∧Bk h' r [.slc cb (o+m) (n - m) (Aa+1),AN (at_+m)]∧Kp (fun j=>j=r) h h':=by have l1:=k.lt;refine Af L X.f222 fun Q x cs G=>?_;refine wk ?_;refine Bt L ?_;refine wk ?_;refine Ml L rfl rfl rfl rfl rfl (Ct.A (ul L X (bs:=bs) (a:=a) k (by exact kb) hl hm hm1 hn ha hne)) ?_;rintro _ h2 ⟨b,rfl,w1,w2,w3,w4⟩;have n2:=w4.n;have l3:=w3.lt;have l4:=w1.lt;refine wk ?_;(apply st1 L rfl;exact Dr (n2:=1) (new:= [UN (leF bs a m)]) rfl rfl (SlR.of (c:= [UN (leF bs a m)]) lkp (Nat.le_refl _) rfl) (by omega) (by omega);rfl);refine wk ?_;refine Bw L ?_;refine ret X.f222.1 ?_;exact⟨h2.n,rfl,lkp,by omega,lkp,kps⟩
theorem iu {n a:Nat}{bs:List Nat}(ks:Bk h sb [AN m])(k:Bk h r [.slc cb o n (Aa+1),AN at_])(kb:BS h cb o ((bs.drop a).take m))(hl:a+m≤bs.length)(hm:m≤n)(hm1:1≤m∧m≤8)(hn:n<1000)(ha:at_<1000)(hne:cb≠r): Ct P0 E F K 200 [.ptr r 0,.slc sb 0 1 1] h fun v h'=> ∃b,v= .tup [.slc b 0 1 (Aa+1),Zi]∧Bk h' b [UN (leF bs a m)]∧h.n≤b∧Bk h' r [.slc cb (o+m) (n - m) (Aa+1),AN (at_+m)]∧Kp (fun j=>j=r) h h':=by have l1:=k.lt;have l2:=ks.lt;have l3:=kb.lt_n;refine Af L X.f200 fun Q x cs G=>?_;refine cal ?_ (c:=Ms L X);rintro _ rfl;refine cal ?_ (c:=um L X (a:=a) (bs:=bs) (at_:=at_) (n:=n) lkp lkp lkb hl hm hm1 hn ha (by omega));rintro _ h2 ⟨b,rfl,w1,w2,w3,w4⟩;have n2:=w4.n;have l4:=w1.lt;have l5:=w3.lt;simp only [Al]at n2 w2;refine ret X.f200.1 ?_;exact⟨b,rfl,lkp,by omega,lkp,kps⟩
theorem Lp {n a:Nat}{bs:List Nat}(k:Bk h r [.slc cb o n (Aa+1),AN at_])(kb:BS h cb o ((bs.drop a).take m))(hl:a+m≤bs.length)(hm:m≤n)(hm1:1≤m∧m≤8)(hn:n<1000)(ha:at_<1000)(hne:cb≠r): Ct P0 E F K 154 [.ptr r 0,AN m] h fun v h'=>v= .tup [UN (leF bs a m),Zi]∧Bk h' r [.slc cb (o+m) (n - m) (Aa+1),AN (at_+m)]∧Kp (fun j=>j=r) h h':=by have l1:=k.lt;have l3:=kb.lt_n;refine Af L X.f154 fun Q x cs G=>?_;refine cal ?_ (c:=iu L X (a:=a) (bs:=bs) (at_:=at_) (n:=n) (cb:=cb) (o:=o) lkp lkp lkb hl hm hm1 hn ha hne);rintro _ h2 ⟨b,rfl,w1,w2,w3,w4⟩;have n2:=w4.n;have l4:=w1.lt;have l5:=w3.lt;simp only [Al]at n2 w2;refine ret X.f154.1 ?_;exact⟨rfl,lkp,kps⟩
theorem uo {v0:AV}(k:Bk h r [v0,AN at_]):Ct P0 E F K 159 [.ptr r 0] h fun v h'=>v= AN at_∧h'=h:=by refine Ao L X.f159 fun Q x cs G=>?_;refine cal ?_ (c:=Ms L X);rintro _ rfl;refine ret X.f159.1 ?_;exact⟨rfl,rfl⟩
theorem iv {v:Nat}:Ct P0 E F K 205 [.int .u8 (v:Int)] h fun u h'=>u= .bool (decide (v≠0))∧h'=h:=by
 refine Ao L X.f205 fun Q x cs G=>?_;refine wk ?_;by_cases hv:v=0;·refine ret X.f205.1 ?_;exact⟨by rw [decide_eq_false (by omega)];rfl,rfl⟩
 ·refine ret X.f205.1 ?_;exact⟨by rw [decide_eq_true (by omega)];rfl,rfl⟩
def zer (bs:List Nat)(a n:Nat):Bool:=(List.range n).all fun i=>decide (bs.getD (a+i) 0=0)
omit L X in
theorem Ac6 {bs:List Nat}{a n:Nat}(h: ∀i,i<n→bs.getD (a+i) 0=0):zer bs a n=true:=by unfold zer;rw [List.all_eq_true];intro i hi;exact decide_eq_true (h i (List.mem_range.1 hi))
omit L X in
theorem Ana {bs:List Nat}{a n i:Nat}(hi:i<n)(h:bs.getD (a+i) 0≠0):zer bs a n=false:=by
 cases hz:zer bs a n with
 |false=>rfl
 |true=>unfold zer at hz;rw [List.all_eq_true]at hz;exact absurd (of_decide_eq_true (hz i (List.mem_range.2 hi))) h
theorem iy {n a:Nat}{bs:List Nat}(k:BS h b o ((bs.drop a).take n))(hl:a+n≤bs.length)(hn:n<1000): Ct P0 E F K 225 [.slc b o n c,.fn (.func 205) [] []] h fun v h'=>(∃i:Int,v= .int .i64 i∧(0≤i↔zer bs a n=false)∧ -1≤i∧i<1000)∧h'=h:=by
 have hkl:((bs.drop a).take n).length=n:=by rw [List.length_take,List.length_drop];omega
 have hgd: ∀i,i<n→((bs.drop a).take n).getD i 0=bs.getD (a+i) 0:=fun i hi=>by exact Ae9
 refine Af L X.f225 fun Q x cs G=>?_;refine wk ?_;refine Bs L (α:= Unit) (T:=fun i _=> [(8,some (AN i)),(7,some (AN n)),(0,some (.slc b o n c)),(1,some (.fn (.func 205) [] []))]) (n:=n) (R:=fun i _ h1=>h1=h∧ ∀j,j<i→bs.getD (a+j) 0=0) (i0:=0) () tsb ⟨rfl,fun j hj=>absurd hj (Nat.not_lt_zero j)⟩ (Nat.zero_le _) ?_ ?_
 ·rintro i _ h1 hi ⟨rfl,w1⟩ ih;refine wk ?_;(apply st1 L rfl;exact U6 k rfl (by omega);rfl);rw [hgd i hi];refine cal ?_ (c:=iv L X);rintro _ rfl;by_cases hz:bs.getD (a+i) 0=0
  ·rw [decide_eq_false (show¬bs.getD (a+i) 0≠0 from fun q=>q hz)];refine wk ?_;refine ih () _ _ ⟨rfl,fun j hj=>?_⟩ tsb;by_cases e:j=i;·rw [e];exact hz
   ·exact w1 j (by omega)
  ·rw [decide_eq_true (show bs.getD (a+i) 0≠0 from hz)];refine ret X.f225.1 ?_;exact⟨⟨i,rfl,by rw [Ana hi hz];simp,by omega,by omega⟩,rfl⟩
 ·rintro _ h1 ⟨rfl,w1⟩;refine ret X.f225.1 ?_;exact⟨⟨-1,rfl,by rw [Ac6 w1];simp,by omega,by omega⟩,rfl⟩
theorem Vd {n a:Nat}{bs:List Nat}(k:BS h b o ((bs.drop a).take n))(hl:a+n≤bs.length)(hn:n<1000): Ct P0 E F K 204 [.slc b o n c,.fn (.func 205) [] []] h fun v h'=>v= .bool (!zer bs a n)∧h'=h:=by
 refine Af L X.f204 fun Q x cs G=>?_;refine cal ?_ (c:=iy L X (bs:=bs) (a:=a) lkb hl hn);rintro _ ⟨i,rfl,w1,w2,w3⟩
 cases hz:zer bs a n with
 |false=>have h0:=w1.2 hz;refine ret X.f204.1 ?_;exact⟨by rw [hz];rfl,rfl⟩
 |true=>
  have h0: ¬0≤i:=fun q=>by rw [w1.1 q]at hz;cases hz
  refine ret X.f204.1 ?_;exact⟨by rw [hz];rfl,rfl⟩
theorem Ro {n a:Nat}{bs:List Nat}(k:Bk h r [.slc cb o n (Aa+1),AN at_])(kb:BS h cb o ((bs.drop a).take m))(hl:a+m≤bs.length)(hm:m≤n)(hn:n<1000)(ha:at_<1000)(hne:cb≠r): Ct P0 E F K 158 [.ptr r 0,AN m] h fun v h'=>v= AN (if zer bs a m=true then 0 else 6)∧(zer bs a m=true→Bk h' r [.slc cb (o+m) (n - m) (Aa+1),AN (at_+m)])∧Kp (fun j=>j=r) h h':=by
 have l1:=k.lt;have l3:=kb.lt_n;refine Af L X.f158 fun Q x cs G=>?_;refine cal ?_ (c:=Ms L X);rintro _ rfl;refine cal ?_ (c:=W4 L X (at_:=at_) (n:=n) (cb:=cb) (o:=o) lkp hm hn ha);rintro _ h2 ⟨rfl,w1,w2⟩;have n2:=w2.n;simp only [Al]at n2;refine cal ?_ (c:=Vd L X (bs:=bs) (a:=a) lkb hl (by omega));rintro _ rfl
 cases hz:zer bs a m with
 |true=>refine ret X.f158.1 ?_;rw [if_pos hz];exact⟨rfl,fun _=>lkp,kps⟩
 |false=>
  refine ret X.f158.1 ?_;rw [if_neg (by rw [hz];simp)];refine⟨rfl,?_,kps⟩;intro q
  first|(cases q;done)|(rw [hz]at q;cases q)
theorem iz {b1 o1 n1 c1 b2 o2:Nat}(T:Tb P0 E F K)(k1:BS h b1 o1 data)(k2:BS h b2 o2 ex)(e1:data.length=n1)(e2:ex.length=64)(h1:0<n1∧n1<1000): Ct P0 E F K 157 [.slc b1 o1 n1 c1,.slc b2 o2 64 (Aa+1)] h fun v h'=>v= UN (crcB (data++ex.take 60))∧K0 h h':=by
 have l1:=k1.lt_n;have l2:=k2.lt_n;have hcl:=Mq (data++ex.take 60);have e3:(ex.take 60).length=60:=by rw [List.length_take];omega
 refine Af L X.f157 fun Q x cs G=>?_;refine cal ?_ (c:=Kj L X (bs1:=data) (bs2:=ex.take 60) lkp lkb (BS.part (a:=0) (k:=by exact lkb) (by omega)) e1 e3 h1 (by omega));rintro _ h2 ⟨b,rfl,w1,w2,w3⟩;have n2:=w3.n;have l3:=w1.lt_n;simp only [Al]at n2 w2;refine cal ?_ (c:=uk L X T (bs:=data++ex.take 60) lkb (by rw [List.length_append];omega) (by omega));rintro _ h3 ⟨rfl,w4⟩;refine ret X.f157.1 ?_;exact⟨rfl,kps⟩
theorem Em {e:Int}:Ct P0 E F K 151 [.bool true,.int .i64 e] h fun v h'=>v= .tup []∧h'=h:=by refine Af L X.f151 fun Q x cs G=>?_;refine ret X.f151.1 ?_;exact⟨rfl,rfl⟩
theorem Jv {e:Int}:CtP P0 E F K 151 [.bool false,.int .i64 e] h fun v h'=>v= .ifc 34 (.int .i64 e)∧h'=h:=by refine Ek L X.f151 fun Q x cs G=>?_;refine wk ?_;refine Mm L rfl rfl ?_;refine A2 L X.f151.1 ?_;exact G _ _ ⟨rfl,rfl⟩
theorem Mt {n a:Nat}{bs:List Nat}(kr:Bk h rb [.ptr r 0])(k:Bk h r [.slc cb o n (Aa+1),AN at_])(kb:BS h cb o ((bs.drop a).take m))(hall:AllB bs)(hl:a+m≤bs.length)(hm:m≤n)(hm1:1≤m∧m≤4)(hn:n<1000)(ha:at_<1000)(hne:cb≠r): Ct P0 E F K 153 [AN m,.ptr rb 0] h fun v h'=>v= AN (leF bs a m)∧Bk h' r [.slc cb (o+m) (n - m) (Aa+1),AN (at_+m)]∧Kp (fun j=>j=r) h h':=by have hlt:=Gv hall m a;have hp:256 ^ m≤256 ^ 4:=Nat.pow_le_pow_right (by omega) (by omega);have hlt2:leF bs a m<4294967296:=Nat.lt_of_lt_of_le hlt hp;clear hp hlt;refine Af L X.f153 fun Q x cs G=>?_;refine cal ?_ (c:=Lp L X (a:=a) (bs:=bs) (at_:=at_) (n:=n) (cb:=cb) (o:=o) lkp lkb hl hm (by omega) hn ha hne);rintro _ h2 ⟨rfl,w1,w2⟩;refine cal ?_ (c:=Em L X);rintro _ ⟨rfl⟩;refine ret X.f153.1 ?_;exact⟨rfl,lkp,kps⟩
theorem bz {n a:Nat}{bs:List Nat}(kr:Bk h rb [.ptr r 0])(k:Bk h r [.slc cb o n (Aa+1),AN at_])(kb:BS h cb o ((bs.drop a).take 8))(hl:a+8≤bs.length)(hm:8≤n)(hn:n<1000)(ha:at_<1000)(hne:cb≠r): Ct P0 E F K 155 [.ptr rb 0] h fun v h'=>v= UN (leF bs a 8)∧Bk h' r [.slc cb (o+8) (n - 8) (Aa+1),AN (at_+8)]∧Kp (fun j=>j=r) h h':=by refine Ao L X.f155 fun Q x cs G=>?_;refine cal ?_ (c:=Lp L X (a:=a) (m:=8) (bs:=bs) (at_:=at_) (n:=n) (cb:=cb) (o:=o) lkp lkb hl hm (by omega) hn ha hne);rintro _ h2 ⟨rfl,w1,w2⟩;refine cal ?_ (c:=Em L X);rintro _ ⟨rfl⟩;refine ret X.f155.1 ?_;exact⟨rfl,lkp,kps⟩
theorem Rp {Q:Nat→AV→Prop}{l:List (Nat×Option AV)}{cs:List AFr}{e:Int}(t4:look l 4=some (.ptr b4 0))(t5:look l 5=some (.ptr b5 0)) (k4:Bk h b4 [x0,x1,x2,x3,x4,x5]) (k5:Bk h b5 [y0]) (hne:b4≠b5) (hG: ∀v h',post v h'→GO P0 E Q (finish v cs h' z)) (hp1: ∀h',Kp (fun j=>j=b4∨j=b5) h h'→post (.tup [.agg (spC sp0),.int .i64 e]) h'): Good P0 E Q ⟨⟨109,nt,tms l,todo,[.call 150 [.ptr b4 0,.ptr b5 0]],.panicking [(.ifc 34 (.int .i64 e),false)],false,none⟩,z::cs,h⟩:=by have l4:=k4.lt;have l5:=k5.lt;refine C6 L (by intro q;cases q) X.f150.1 rfl rfl rfl ?_;refine Lo L rfl ?_;refine wk ?_;(apply bm L rfl rfl rfl rfl rfl rfl rfl;exact lkp;rfl;intro h9 hs9;(repeat(first|(apply Ax rfl rfl;exact opv)|(apply Rh rfl rfl)));(first|(apply p_0;exact chk)|(refine Yx L ?_ rfl ?_;exact chk));refine Uy L hs9 ?_);refine wk ?_;refine Im L X.f150.1 rfl ?_;refine D7 L X.f109.1 (E5 t4 (Bk.e lkp) rfl (C4 t5 (Bk.e lkp) rfl Er)) hG (hp1 _ kps)
theorem ur {Q:Nat→AV→Prop}{l:List (Nat×Option AV)}{cs:List AFr}(t4:look l 4=some (.ptr b4 0))(t5:look l 5=some (.ptr b5 0)) (k4:Bk h b4 [x0,x1,x2,x3,x4,x5]) (k5:Bk h b5 [y0]) (hG: ∀v h',post v h'→GO P0 E Q (finish v cs h' z)) (hp1:post (.tup [.agg [x0,x1,x2,x3,x4,x5],y0]) h): Good P0 E Q ⟨⟨109,nt,tms l,todo,[.call 150 [.ptr b4 0,.ptr b5 0]],.returning,false,none⟩,z::cs,h⟩:=by refine C6 L (by intro q;cases q) X.f150.1 rfl rfl rfl ?_;refine Ea L rfl ?_;refine wk ?_;(apply st1 L rfl;exact Li (k:=true) rfl rfl;rfl);refine wk ?_;refine Im L X.f150.1 rfl ?_;refine D7 L X.f109.1 (E5 t4 (Bk.e lkp) rfl (C4 t5 (Bk.e lkp) rfl Er)) hG hp1
def Is (ex:List Nat):Sp:=⟨ex.getD 4 0,((leF ex 24 4:Nat):Int),leF ex 8 8,leF ex 16 8,((leF ex 28 4:Nat):Int),((leF ex 32 4:Nat):Int)⟩
def Mv (ex data:List Nat):Option Sp:=if leF ex 60 4=crcB (data++ex.take 60)∧(Is ex).Valid∧ex.take 60=A6 (Is ex)then some (Is ex)else none
omit L X in
theorem Aaz (h:AllB ex):(Is ex).Ok:=⟨El h 4,Gv h 8 8,Gv h 8 16⟩
end
theorem Ac7 {p:Prop}(h:p:=by
 rw [List.getElem?_map,List.getElem?_range hi,List.getElem?_replicate_of_lt hi,Option.map_some,N6,h i hi]):p:=h
theorem N5 (l:List Nat)(n:Nat)(h:n≤l.length):l.take n=(List.range n).map fun i=>l.getD i 0:=by
 apply List.ext_getElem?;intro i;by_cases hi:i<n;·rw [List.getElem?_take_of_lt hi,List.getElem?_map,List.getElem?_range hi,List.getElem?_eq_getElem (by omega)];simp [List.getD_eq_getElem?_getD,show i<l.length by omega]
 ·rw [List.getElem?_take_eq_none (by omega),List.getElem?_eq_none (by simp;omega)]
theorem N6 (l:List Nat)(a i:Nat):(l.drop a).getD i 0=l.getD (a+i) 0:=by simp only [List.getD_eq_getElem?_getD,List.getElem?_drop]
theorem Ve {bs:List Nat}{a n:Nat}:zer bs a n=true↔ ∀i,i<n→bs.getD (a+i) 0=0:=by
 constructor;·intro h i hi;unfold zer at h;rw [List.all_eq_true]at h;exact of_decide_eq_true (h i (List.mem_range.2 hi))
 ·exact Ac6
theorem Dj (l:List Nat)(a m n:Nat):(l.drop a).take (m+n)=(l.drop a).take m++(l.drop (a+m)).take n:=by rw [List.take_add,List.drop_drop]
theorem ja (ex:List Nat):ex.take 60=ex.take 8++(ex.drop 8).take 8++(ex.drop 16).take 8++(ex.drop 24).take 4++(ex.drop 28).take 4++(ex.drop 32).take 4++(ex.drop 36).take 24:=by have h0:ex.take 60=(ex.drop 0).take (8+52):=rfl;rw [h0,Dj,show(52:Nat)=8+44 from rfl,Dj,show(44:Nat)=8+36 from rfl,Dj,show(36:Nat)=4+32 from rfl,Dj,show(32:Nat)=4+28 from rfl,Dj,show(28:Nat)=4+24 from rfl,Dj];simp only [List.append_assoc,List.drop_zero,Nat.zero_add]
theorem Rq (ha:AllB ex)(hl:ex.length=64):ex.take 60=A6 (Is ex)↔leF ex 0 4=1280591427∧zer ex 5 3=true∧zer ex 36 24=true:=by
 have u1:u64 (Is ex).sec=leF ex 24 4:=U8 (Nat.lt_trans (Gv ha 4 24) (by decide));have u2:u64 (Is ex).idx=leF ex 28 4:=U8 (Nat.lt_trans (Gv ha 4 28) (by decide));have u3:u64 (Is ex).len=leF ex 32 4:=U8 (Nat.lt_trans (Gv ha 4 32) (by decide));have e1:(Is ex).seq=leF ex 8 8:=rfl;have e2:(Is ex).prev=leF ex 16 8:=rfl;have e3:(Is ex).kind=ex.getD 4 0:=rfl;have key:ex.take 60=A6 (Is ex)↔ex.take 8=mag (ex.getD 4 0)∧(ex.drop 36).take 24=List.replicate 24 0:=by
  unfold A6;rw [ja,u1,u2,u3,e1,e2,e3,F7 ha 8 8 (by omega),F7 ha 8 16 (by omega),F7 ha 4 24 (by omega),F7 ha 4 28 (by omega),F7 ha 4 32 (by omega)];constructor;·intro h;obtain⟨q1,q2⟩:=List.append_inj h (by simp [mag];omega);obtain⟨q3,-⟩:=List.append_inj q1 (by simp [mag];omega);obtain⟨q4,-⟩:=List.append_inj q3 (by simp [mag];omega);obtain⟨q5,-⟩:=List.append_inj q4 (by simp [mag];omega);obtain⟨q6,-⟩:=List.append_inj q5 (by simp [mag];omega);obtain⟨q7,-⟩:=List.append_inj q6 (by simp [mag];omega);exact⟨q7,q2⟩
  ·rintro⟨h1,h2⟩;rw [h1,h2]
 rw [key];have b0:=El ha 0;have b1:=El ha 1;have b2:=El ha 2;have b3:=El ha 3;have hm:ex.take 8=mag (ex.getD 4 0)↔leF ex 0 4=1280591427∧zer ex 5 3=true:=by
  rw [N5 ex 8 (by omega),Ve];show [ex.getD 0 0,ex.getD 1 0,ex.getD 2 0,ex.getD 3 0,ex.getD 4 0,ex.getD 5 0,ex.getD 6 0,ex.getD 7 0]= [67,70,84,76,ex.getD 4 0,0,0,0]↔ex.getD 0 0+256*(ex.getD 1 0+256*(ex.getD 2 0+256*(ex.getD 3 0+256*0)))=1280591427∧_;generalize ex.getD 0 0=x0 at*;generalize ex.getD 1 0=x1 at*;generalize ex.getD 2 0=x2 at*;generalize ex.getD 3 0=x3 at*;constructor
  ·intro h;simp only [List.cons.injEq,and_true,true_and]at h;obtain⟨h0,h1,h2,h3,h5,h6,h7⟩:=h;refine⟨by omega,fun i hi=>?_⟩;rcases i with _|_|_|i;·exact h5
   ·exact h6
   ·exact h7
   ·omega
  ·rintro⟨h1,h2⟩;have:=h2 0 (by omega);have:=h2 1 (by omega);have:=h2 2 (by omega);simp only [List.cons.injEq,and_true,true_and];refine⟨by omega,by omega,by omega,by omega,?_,?_,?_⟩ <;> assumption
 have hz:(ex.drop 36).take 24=List.replicate 24 0↔zer ex 36 24=true:=by
  rw [N5 _ 24 (by rw [List.length_drop];omega),Ve];constructor;·intro h i hi;have:=congrArg (fun l=>l[i]?) h;simp only [List.getElem?_map,List.getElem?_range hi,List.getElem?_replicate_of_lt hi,Option.map_some,Option.some.injEq,N6]at this;exact this
  ·intro h;apply List.ext_getElem?;intro i;by_cases hi:i<24;·exact Ac7
   ·rw [List.getElem?_eq_none (by simp;omega),List.getElem?_eq_none (by simp;omega)]
 rw [hm,hz,and_assoc]
theorem jc (ha:AllB ex)(hl:ex.length=64)(h1:leF ex 60 4=crcB (data++ex.take 60))(h2:leF ex 0 4=1280591427)(h3:zer ex 5 3=true)(h4:zer ex 36 24=true)(h5:(Is ex).Valid):Mv ex data=some (Is ex):= if_pos ⟨h1,h5,(Rq ha hl).2 ⟨h2,h3,h4⟩⟩
theorem Hy (ha:AllB ex)(hl:ex.length=64)(h: ¬(leF ex 60 4=crcB (data++ex.take 60)∧leF ex 0 4=1280591427∧zer ex 5 3=true∧zer ex 36 24=true∧(Is ex).Valid)):Mv ex data=none:= if_neg fun q=>h (let⟨a,b,c⟩:=(Rq ha hl).1 q.2.2;⟨q.1,a,b,c,q.2.1⟩)
def jN (b:List Nat):Nat:=leF b 0 4
def Lq (b:List Nat)(i:Nat):Ent:=(((leF b (4+8*i) 4:Nat):Int),((leF b (8+8*i) 4:Nat):Int) - 1)
def D0 (b:List Nat)(n:Nat):List Ent:=(List.range n).map (Lq b)
theorem Ga (b:List Nat)(n:Nat):(D0 b n).length=n:=by simp [D0]
theorem Rr (b:List Nat)(n:Nat):D0 b (n+1)=D0 b n++ [Lq b n]:=by simp [D0,List.range_succ]
def JOk (b:List Nat):Prop:=jN b≤(b.length - 4) / 8∧(∀e∈D0 b (jN b),e.Ok)∧zer b (4+8*jN b) (b.length - (4+8*jN b))=true
instance (b:List Nat):Decidable (JOk b):=by unfold JOk;infer_instance
def Mw (b:List Nat):Option (List Ent):=if JOk b then some (D0 b (jN b))else none
theorem Aa1 {b:List Nat}(ha:AllB b)(hn:4+8*jN b≤b.length)(hok: ∀e∈D0 b (jN b),e.Ok):Cd b.length (D0 b (jN b))=b↔zer b (4+8*jN b) (b.length - (4+8*jN b))=true:=by
 have h1:leb 4 (D0 b (jN b)).length=(b.drop 0).take 4:=by rw [Ga];exact F7 ha 4 0 (by omega)
 have h2: ∀n,4+8*n≤b.length→(D0 b n).flatMap Ip=(b.drop 4).take (8*n):=by
  intro n;induction n with
  |zero=>intro _;simp [D0]
  |succ n ih=>intro hn;rw [Rr,List.flatMap_append,ih (by omega)];have e1:((leF b (4+8*n) 4:Nat):Int).toNat=leF b (4+8*n) 4:=Int.toNat_natCast _;have e2:(((leF b (8+8*n) 4:Nat):Int) - 1+1).toNat=leF b (8+8*n) 4:=(by omega);have e3: [Lq b n].flatMap Ip=(b.drop (4+8*n)).take 4++(b.drop (8+8*n)).take 4:=(by simp only [List.flatMap_cons,List.flatMap_nil,List.append_nil,Ip,Lq];rw [e1,e2,F7 ha 4 (4+8*n) (by omega),F7 ha 4 (8+8*n) (by omega)]);rw [e3,←List.append_assoc];have e4:=Dj b 4 (8*n) 8;have e5:=Dj b (4+8*n) 4 4;rw [show 8*(n+1)=8*n+8 by omega,e4,e5,show 4+8*n+4=8+8*n by omega,List.append_assoc]
 unfold Cd;rw [h1,h2 _ hn,Ga];have e6:b=(b.drop 0).take 4++(b.drop 4).take (8*jN b)++b.drop (4+8*jN b):=by rw [List.drop_zero,List.append_assoc];conv=>lhs;rw [←List.take_append_drop 4 b,←List.take_append_drop (8*jN b) (b.drop 4),List.drop_drop]
 have e7: ∀X:List Nat,(b.drop 0).take 4++(b.drop 4).take (8*jN b)++X=b↔X=b.drop (4+8*jN b):=by
  intro X;constructor
  ·intro h;conv at h=>rhs;rw [e6]
   exact List.append_cancel_left h
  ·rintro rfl;exact e6.symm
 rw [e7,show b.length - 4 - 8*jN b=b.length - (4+8*jN b) by omega];have e8:(b.drop (4+8*jN b))=(b.drop (4+8*jN b)).take (b.length - (4+8*jN b)):=by rw [List.take_of_length_le];rw [List.length_drop];exact Nat.le_refl _
 rw [e8,N5 _ _ (by rw [List.length_drop];exact Nat.le_refl _),Ve];constructor;·intro h i hi;have:=congrArg (fun l=>l[i]?) h;simp only [List.getElem?_map,List.getElem?_range hi,List.getElem?_replicate_of_lt hi,Option.map_some,Option.some.injEq,N6]at this;exact this.symm
 ·intro h;apply List.ext_getElem?;intro i;by_cases hi:i<b.length - (4+8*jN b);·exact Ac7
  ·rw [List.getElem?_eq_none (by simp;omega),List.getElem?_eq_none (by simp;omega)]
abbrev Rec:=Nat×Nat×Nat×Nat
def Hz (k:Rec):AV:= .agg [.int .u8 (k.1:Int),UN k.2.1,UN k.2.2.1,AN k.2.2.2]
def Anb:Sh:= .agg [(0,0,.pint),(1,0,.pint),(2,0,.pint),(3,0,.pint)]
def Bj (s:Sp):Rec:=(s.kind,s.seq - s.idx.toNat,s.prev,s.len.toNat)
structure Sp.Jr (s:Sp):Prop where
 v:s.Valid
 ok:s.Ok
 k:s.kind=2∨s.kind=3
theorem KE.recd:KE Anb Hz:=by
 refine⟨fun a b=>?_,fun a=>rfl,fun a=>?_⟩;·obtain⟨a0,a1,a2,a3⟩:=a;obtain⟨b0,b1,b2,b3⟩:=b;by_cases h0:a0=b0 <;> by_cases h1:a1=b1 <;> by_cases h2:a2=b2 <;> by_cases h3:a3=b3 <;> simp [Anb,Hz,eqv,H7,Xy,Gf,Bb,Ew,h0,h1,h2,h3,Int.natCast_inj]
 ·obtain⟨a0,a1,a2,a3⟩:=a;show I9 _ _=true;simp [I9,Gf,Bb,Ri]
theorem Anh {p:Prop}(h:p:=by
 rw [List.findIdx?_eq_some_iff_getElem]at h
 obtain⟨h1,h2,_⟩:=h
 exact⟨L[e],List.getElem?_eq_getElem h1,by simpa using h2⟩):p:=h
abbrev JP:=Sp×List Ent
def C2 (L:List JP)(k:Rec):Option Nat:=L.findIdx? fun p=>decide (Bj p.1=k)
def Dw (L:List JP)(k:Rec)(i:Int):Option Nat:=L.findIdx? fun p=>decide (Bj p.1=k) && decide (p.1.idx=i)
theorem Mz {α: Type}(f:α→Bool)(L:List α)(p:α):(L++ [p]).findIdx? f=match L.findIdx? f with
 |some i=>some i
 |none=>if f p=true then some L.length else none:=by
 rw [List.findIdx?_append]
 cases L.findIdx? f with
 |some i=>rfl
 |none=>
  simp only [Option.none_or,List.findIdx?_cons,List.findIdx?_nil]
  by_cases h:f p=true <;> simp [h]
theorem E2 (L:List JP)(p:JP)(k:Rec):C2 (L++ [p]) k=match C2 L k with
 |some i=>some i
 |none=>if Bj p.1=k then some L.length else none:=by
 unfold C2;rw [Mz];simp only [decide_eq_true_eq]
theorem H0 (L:List JP)(p:JP)(k:Rec)(i:Int):Dw (L++ [p]) k i=match Dw L k i with
 |some j=>some j
 |none=>if Bj p.1=k∧p.1.idx=i then some L.length else none:=by
 unfold Dw;rw [Mz];simp only [Bool.and_eq_true,decide_eq_true_eq]
theorem jk {L:List JP}{k:Rec}(h:C2 L k=none):Dw L k i=none:=by unfold C2 at h;unfold Dw;rw [List.findIdx?_eq_none_iff]at h ⊢;intro x hx;have:=h x hx;simp only [decide_eq_false_iff_not]at this;simp [this]
theorem Rt {L:List JP}{k:Rec}(h:C2 L k=some e): ∃p,L[e]?=some p∧Bj p.1=k:=by unfold C2 at h;exact Anh
theorem H2 {L:List JP}{k:Rec}(h:Dw L k i=some e): ∃p,L[e]?=some p∧Bj p.1=k∧p.1.idx=i:=by unfold Dw at h;exact Anh
theorem vd {L:List JP}{k k':Rec}(h:C2 L k=some e)(h':C2 L k'=some e):k=k':=by obtain⟨p,h1,h2⟩:=Rt h;obtain⟨p',h3,h4⟩:=Rt h';rw [h1]at h3;cases h3;rw [←h2,h4]
structure RcR (h:H)(lo:Nat)(M:List (Rec×AV×Nat))(ck:Nat)(P:List JP):Prop where
 ok:MOk M ck
 no: ∀k,C2 P k=none→A5 M k=none
 at_: ∀k e,C2 P k=some e→ ∃a Mi ci,A5 M k=some (.agg [.map a,AN e])∧Mk h a (Mi.map (mE AI)) ci∧MOk Mi ci∧lo≤a∧ ∀i,A5 Mi i=(Dw P k i).map fun j=>AN j
 ne: ∀k k' a a' e e',A5 M k=some (.agg [.map a,e])→A5 M k'=some (.agg [.map a',e'])→a=a'→k=k'
theorem RcR.nil (h:H)(lo:Nat):RcR h lo [] 0 []:=⟨MOk.nil,fun _ _=>rfl,fun k e q=>(by cases q),fun k k' a a' e e' q=>(by cases q)⟩
structure JL (h:H)(lo:Nat)(v:AV)(L:List JP):Prop where
 ex: ∃l:List (JP×AV),l.map (·.1)=L∧(∀x∈l,EL h lo x.2 x.1.2)∧((l= []∧v= .nils)∨(0<l.length∧ ∃b,v= .slc b 0 l.length (Aa+7)∧Bk h b (l.flatMap jpC)∧lo≤b))
section
variable {α:Type}[DecidableEq α]{sh:Sh}{enc:α→AV}{l:List (Nat×Option AV)}{x y:O}{ck:Nat}{zero v:AV}{M:List (α×AV×Nat)}{k:α}
theorem Vg (e:KE sh enc)(hx:evO l x=some (.map r))(hy:evO l y=some (enc k))(hb:Mk h r (M.map (mE enc)) ck)(hg:A5 M k=none):XV (.lookup sh zero x y true) h l (.tup [zero,.bool false]) h:=by have:=D6 (zero:=zero) e hx hy hb;rw [hg]at this;exact this
theorem cf (e:KE sh enc)(hx:evO l x=some (.map r))(hy:evO l y=some (enc k))(hb:Mk h r (M.map (mE enc)) ck)(hg:A5 M k=some v):XV (.lookup sh zero x y true) h l (.tup [v,.bool true]) h:=by have:=D6 (zero:=zero) e hx hy hb;rw [hg]at this;exact this
end
section
variable {h':H}{lo ck:Nat}{M:List (Rec×AV×Nat)}{P:List JP}{p:JP}
theorem RcR.twice (q:RcR h lo M ck P){j:Nat}(hE:C2 P (Bj p.1)=some e)(hF:Dw P (Bj p.1) p.1.idx=some j)(keep: ∀b es c,lo≤b→Mk h b es c→Mk h' b es c):RcR h' lo M ck (P++ [p]):=by
 refine⟨q.ok,fun k hk=>q.no k ?_,fun k e' he=>?_,q.ne⟩
 ·rw [E2]at hk
  cases h1:C2 P k with
  |none=>rfl
  |some i=>rw [h1]at hk;cases hk
 ·have h2:C2 P k=some e':=by
   rw [E2]at he
   cases h1:C2 P k with
   |some i=>rw [h1]at he;exact he
   |none=>
    rw [h1]at he;by_cases h3:Bj p.1=k;·rw [←h3,hE]at h1;cases h1
    ·simp only [if_neg h3]at he;cases he
  obtain⟨a,Mi,ci,g1,g2,g3,g4,g5⟩:=q.at_ k e' h2;refine⟨a,Mi,ci,g1,keep _ _ _ g4 g2,g3,g4,fun i=>?_⟩;rw [g5,H0]
  cases h4:Dw P k i with
  |some x=>rfl
  |none=>
   by_cases h5:Bj p.1=k∧p.1.idx=i;·rw [←h5.1,←h5.2,hF]at h4;cases h4
   ·simp only [if_neg h5]
theorem RcR.add (q:RcR h lo M ck P){a ci c':Nat}{Mi:List (Int×AV×Nat)}(hE:C2 P (Bj p.1)=some e)(hF:Dw P (Bj p.1) p.1.idx=none)(hg:A5 M (Bj p.1)=some (.agg [.map a,AN e]))(oi:MOk Mi ci)(la:lo≤a) (hf: ∀i,A5 Mi i=(Dw P (Bj p.1) i).map fun j=>AN j) (ha:Mk h' a ((C7 Mi ci p.1.idx (AN P.length)).map (mE AI)) (mCk Mi ci p.1.idx)) (keep: ∀b es c,lo≤b→b≠a→Mk h b es c→Mk h' b es c):RcR h' lo M ck (P++ [p]):=by
 refine⟨q.ok,fun k hk=>q.no k ?_,fun k e' he=>?_,q.ne⟩
 ·rw [E2]at hk
  cases h1:C2 P k with
  |none=>rfl
  |some i=>rw [h1]at hk;cases hk
 ·by_cases h3:Bj p.1=k
  ·subst h3;rw [E2,hE]at he
   cases he;refine⟨a,_,_,hg,ha,oi.set _ _,la,fun i=>?_⟩;rw [Bz,H0,hf];by_cases h5:i=p.1.idx;·rw [if_pos h5,h5,hF];simp
   ·rw [if_neg h5]
    cases h4:Dw P (Bj p.1) i with
    |some x=>rfl
    |none=>simp [Ne.symm h5]
  ·have h2:C2 P k=some e':=by
    rw [E2]at he
    cases h1:C2 P k with
    |some i=>rw [h1]at he;exact he
    |none=>rw [h1]at he;simp only [if_neg h3]at he;cases he
   obtain⟨a2,M2,c2,g1,g2,g3,g4,g5⟩:=q.at_ k e' h2;have hne:a2≠a:=fun f=>h3 (q.ne _ _ _ _ _ _ hg g1 f.symm);refine⟨a2,M2,c2,g1,keep _ _ _ g4 hne g2,g3,g4,fun i=>?_⟩;rw [g5,H0]
   cases h4:Dw P k i with
   |some x=>rfl
   |none=>simp [h3]
theorem RcR.new (q:RcR h lo M ck P){a c':Nat}(hE:C2 P (Bj p.1)=none)(la:lo≤a)(hfresh:h.n≤a) (ha:Mk h' a ((C7 [] 0 p.1.idx (AN P.length)).map (mE AI)) (mCk ([]:List (Int×AV×Nat)) 0 p.1.idx)) (keep: ∀b es c,lo≤b→b<h.n→Mk h b es c→Mk h' b es c): RcR h' lo (C7 M ck (Bj p.1) (.agg [.map a,AN P.length])) (mCk M ck (Bj p.1)) (P++ [p]):=by
 have old: ∀k e,C2 P k=some e→k≠Bj p.1:=fun k e he f=>by rw [f,hE]at he;cases he
 refine⟨q.ok.set _ _,fun k hk=>?_,fun k e' he=>?_,fun k k' a1 a2 e1 e2 g1 g2 f=>?_⟩
 ·rw [E2]at hk
  cases h1:C2 P k with
  |some i=>rw [h1]at hk;cases hk
  |none=>
   rw [h1]at hk;by_cases h3:Bj p.1=k;·simp only [if_pos h3]at hk;cases hk
   ·rw [Bz,if_neg (Ne.symm h3)];exact q.no k h1
 ·rw [E2]at he
  cases h1:C2 P k with
  |some i=>
   rw [h1]at he;cases he;obtain⟨a2,M2,c2,g1,g2,g3,g4,g5⟩:=q.at_ k _ h1;refine⟨a2,M2,c2,by rw [Bz,if_neg (old k _ h1)];exact g1,keep _ _ _ g4 g2.lt g2,g3,g4,fun i=>?_⟩;rw [g5,H0]
   cases h4:Dw P k i with
   |some x=>rfl
   |none=>simp [Ne.symm (old k _ h1)]
  |none=>
   rw [h1]at he;by_cases h3:Bj p.1=k
   ·simp only [if_pos h3]at he;cases he;subst h3;refine⟨a,_,_,by rw [Bz,if_pos rfl],ha,MOk.nil.set _ _,la,fun i=>?_⟩;rw [Bz,H0,jk hE];by_cases h5:i=p.1.idx;·simp [h5]
    ·simp [h5,Ne.symm h5,A5]
   ·simp only [if_neg h3]at he;cases he
 ·have bd: ∀k a e,k≠Bj p.1→A5 M k=some (.agg [.map a,e])→a<h.n:=by
   intro k a0 e0 hne hg
   cases h1:C2 P k with
   |none=>rw [q.no k h1]at hg;cases hg
   |some i=>obtain⟨a2,M2,c2,g1,g2,_⟩:=q.at_ k i h1;rw [g1]at hg;cases hg;exact g2.lt
  rw [Bz]at g1 g2;by_cases h1:k=Bj p.1 <;> by_cases h2:k'=Bj p.1;·rw [h1,h2]
  ·rw [if_pos h1]at g1;rw [if_neg h2]at g2;cases g1;have:=bd _ _ _ h2 g2;omega
  ·rw [if_neg h1]at g1;rw [if_pos h2]at g2;cases g2;have:=bd _ _ _ h1 g1;omega
  ·rw [if_neg h1]at g1;rw [if_neg h2]at g2;exact q.ne _ _ _ _ _ _ g1 g2 f
end
theorem W9 {α: Type}[DecidableEq α]: ∀{M:List (α×AV×Nat)} {y:α×AV×Nat},(M.map (·.1)).Nodup→y∈M→A5 M y.1=some y.2.1
 | [],y,_,h=>by cases h
 |x::r,y,hn,h=>by
  rw [List.map_cons,List.nodup_cons]at hn;unfold A5;rw [List.find?_cons];rcases List.mem_cons.1 h with rfl|h;·simp
  ·have:y.1≠x.1:=fun e=>hn.1 (by rw [←e];exact List.mem_map_of_mem h);rw [decide_eq_false this];exact W9 hn.2 h
variable {B:Rec→Rec→Bool}{E:Env}{F:T CFn}{K:T (List AV×AV)}{P:List JP}{P0:Program}{W:Rec→Bool}{b3 cap i j kind:Nat}{e:Int}{is:Bool}{k y:Rec}{p:Prop}{prev:Option Nat}
def full (P:List JP)(k:Rec):Bool:=(List.range k.2.2.2).all fun i=>(Dw P k ((i:Nat):Int)).isSome
theorem Agn: ∀(n:Nat) (l:List Int),l.Nodup→(∀x∈l,0≤x∧x<(n:Int))→(l.length=n↔ ∀i,i<n→((i:Nat):Int)∈l):=by
 intro n l hn h;have hle:=D2 n l hn h;constructor
 ·intro e i hi;refine Classical.byContradiction fun hni=>?_;have h2:=D2 (n - 1) (l.map fun x=>if x=((n - 1:Nat):Int)then((i:Nat):Int)else x) ?_ ?_;·rw [List.length_map]at h2;omega
  ·have inj: ∀x∈l,∀y∈l,(if x=((n - 1:Nat):Int)then(i:Int)else x)=(if y=((n - 1:Nat):Int)then(i:Int)else y)→x=y:=by
    intro x hx y hy e;by_cases h3:x=((n - 1:Nat):Int) <;> by_cases h4:y=((n - 1:Nat):Int);·rw [h3,h4]
    ·rw [if_pos h3,if_neg h4]at e;exact absurd (e ▸ hy) hni
    ·rw [if_neg h3,if_pos h4]at e;exact absurd (e ▸ hx) hni
    ·rw [if_neg h3,if_neg h4]at e;exact e
   clear hle h e;induction l with
   |nil=>exact List.nodup_nil
   |cons a r ih=>rw [List.nodup_cons]at hn;rw [List.map_cons,List.nodup_cons];refine⟨fun hm=>?_,ih hn.2 (fun hh=>hni (List.mem_cons_of_mem _ hh)) fun x hx y hy=>inj x (List.mem_cons_of_mem _ hx) y (List.mem_cons_of_mem _ hy)⟩;obtain⟨b,hb,e2⟩:=List.mem_map.1 hm;have:=inj b (List.mem_cons_of_mem _ hb) a (List.mem_cons_self ..) e2;exact hn.1 (this ▸ hb)
  ·intro x hx;obtain⟨y,hy,rfl⟩:=List.mem_map.1 hx;have h5:=h y hy;by_cases h6:y=((n - 1:Nat):Int);·rw [if_pos h6];have:i≠n - 1:=fun e=>hni (by rw [e,←h6];exact hy);omega
   ·rw [if_neg h6];omega
 ·intro hall;refine Nat.le_antisymm hle ?_;have: ∀m,m≤n→ ∃r:List Int,r.length+m=l.length∧r.Nodup∧ ∀i,m≤i→i<n→((i:Nat):Int)∈r:=by
   intro m;induction m with
   |zero=>intro _;exact⟨l,rfl,hn,fun i _ hi=>hall i hi⟩
   |succ m ih=>intro hm;obtain⟨r,h1,h2,h3⟩:=ih (by omega);have h4:=h3 m (Nat.le_refl _) (by omega);have h5:=List.length_erase_of_mem h4;have h6:0<r.length:=List.length_pos_of_mem h4;exact⟨r.erase (m:Int),by omega,h2.erase _,fun i hi1 hi2=>h2.mem_erase_iff.2 ⟨by omega,h3 i (by omega) hi2⟩⟩
  obtain⟨r,h1,_,_⟩:=this n (Nat.le_refl _);omega
theorem Xa {α: Type}[DecidableEq α]{M:List (α×AV×Nat)}{k:α}:k∈M.map (·.1)↔(A5 M k).isSome=true:=by
 rw [←mHas_mem,Cx];unfold A5
 cases M.find? fun x=>decide (k=x.1) <;> simp
theorem vh (hj: ∀p∈P,p.1.Jr){Mi:List (Int×AV×Nat)}{ci:Nat}(oi:MOk Mi ci)(hf: ∀i,A5 Mi i=(Dw P k i).map fun j=>AN j):decide (Mi.length=k.2.2.2)=full P k:=by
 have hk: ∀i,i∈Mi.map (·.1)↔(Dw P k i).isSome=true:=fun i=>by rw [Xa,hf];cases Dw P k i <;> simp
 have h1:=Agn k.2.2.2 (Mi.map (·.1)) oi.keys fun x hx=>by
  have h2:=(hk x).1 hx
  cases h3:Dw P k x with
  |none=>rw [h3]at h2;cases h2
  |some e=>obtain⟨p,h4,h5,h6⟩:=H2 h3;obtain⟨⟨v1,v2,v3,v4,v5,v6⟩,_,_⟩:=hj p (List.mem_of_getElem? h4);have h7:p.1.len.toNat=k.2.2.2:=(by rw [←h5];rfl);omega
 rw [List.length_map]at h1;unfold full;rw [Bool.eq_iff_iff,decide_eq_true_eq,h1,List.all_eq_true];constructor;·intro h2 i hi;exact(hk _).1 (h2 i (List.mem_range.1 hi))
 ·intro h2 i hi;exact(hk _).2 (h2 i (List.mem_range.2 hi))
theorem RcR.ent {lo ck:Nat}{M:List (Rec×AV×Nat)}(q:RcR h lo M ck P){y:Rec×AV×Nat}(hy:y∈M): ∃a Mi ci e,y.2.1= .agg [.map a,AN e]∧A5 M y.1=some (.agg [.map a,AN e])∧C2 P y.1=some e∧Mk h a (Mi.map (mE AI)) ci∧MOk Mi ci∧lo≤a∧ ∀i,A5 Mi i=(Dw P y.1 i).map fun j=>AN j:=by
 have h1:=W9 q.ok.keys hy
 cases h2:C2 P y.1 with
 |none=>rw [q.no _ h2]at h1;cases h1
 |some e=>obtain⟨a,Mi,ci,g1,g2,g3,g4,g5⟩:=q.at_ _ _ h2;rw [h1]at g1;simp only [Option.some.injEq]at g1;exact⟨a,Mi,ci,e,g1,by rw [h1,g1],rfl,g2,g3,g4,g5⟩
def Cp (P:List JP)(k:Rec):List Nat:=(List.range k.2.2.2).map fun i=>(Dw P k ((i:Nat):Int)).getD 0
def Fz (P:List JP)(j:Nat):List Ent:=match P[j]? with
 |some p=>p.2
 |none=> []
def cq (P:List JP)(k:Rec):List Ent:=(Cp P k).flatMap (Fz P)
def Fp (k:Rec):Nat:=k.2.1+k.2.2.2 - 1
def Pp (P:List JP)(a b:Rec):Bool:=decide (b.2.1<a.2.1) || (decide (a.2.1=b.2.1) && decide ((C2 P a).getD 0<(C2 P b).getD 0))
def isK (P:List JP)(k:Rec):Prop:=(C2 P k).isSome=true
def D3 (P:List JP)(kind:Nat)(prev:Option Nat)(k:Rec):Bool:=decide (k.1=kind) && full P k && (match prev with|some n=>decide (k.2.2.1=n)|none=>true)
def BestP (P:List JP)(kind:Nat)(prev:Option Nat)(o:Option Rec):Prop:=match o with
 |none=> ∀k,isK P k→D3 P kind prev k=false
 |some k=>isK P k∧D3 P kind prev k=true∧ ∀k',isK P k'→D3 P kind prev k'=true→k'=k∨Pp P k k'=true
theorem BestP.uniq {o o':Option Rec}(h:BestP P kind prev o)(h':BestP P kind prev o'):o=o':=by
 cases o with
 |none=>
  cases o' with
  |none=>rfl
  |some k=>obtain⟨h1,h2,_⟩:=h';rw [h k h1]at h2;cases h2
 |some k=>
  obtain⟨h1,h2,h3⟩:=h
  cases o' with
  |none=>rw [h' k h1]at h2;cases h2
  |some k'=>
   obtain⟨g1,g2,g3⟩:=h';rcases h3 k' g1 g2 with e|e;·rw [e]
   ·rcases g3 k h1 h2 with f|f;·rw [f]
    ·unfold Pp at e f;simp only [Bool.or_eq_true,Bool.and_eq_true,decide_eq_true_eq]at e f;omega
inductive RunP (P:List JP):Option Rec→List Rec→Prop where
 |none:RunP P none []
 |some {k:Rec} {o:Option Rec} {ks:List Rec} (h:BestP P 2 (some (Fp k)) o) (r:RunP P o ks):RunP P (some k) (k::ks)
theorem RunP.uniq {o:Option Rec}{ks ks':List Rec}(h:RunP P o ks):RunP P o ks'→ks=ks':=by
 induction h generalizing ks' with
 |none=>intro h';cases h';rfl
 |some h1 r ih=>
  intro h'
  cases h' with
  |some h2 r2=>have:=h1.uniq h2;subst this;rw [ih r2]
def StartP (P:List JP)(o:Option Rec):Prop:= ∃o1,BestP P 3 none o1∧(match o1 with|some k=>o=some k|none=>BestP P 2 (some 0) o)
def chE (P:List JP)(ks:List Rec):List Ent:=ks.flatMap (cq P)
def chU (P:List JP)(ks:List Rec):List Nat:=ks.flatMap (Cp P)
def chL (ks:List Rec):Nat:=match ks.getLast? with|some k=>Fp k|none=>0
theorem jp {l:List (JP×AV)}{x:JP×AV}(h:l[j]?=some x):Fz (l.map (·.1)) j=x.1.2:=by unfold Fz;rw [List.getElem?_map,h];rfl
theorem Kl (P:List JP)(k:Rec):(Cp P k).length=k.2.2.2:=by simp [Cp]
theorem Km (hf:full P k=true)(hi:i<k.2.2.2): ∃j,Dw P k (i:Int)=some j∧(Cp P k)[i]?=some j:=by unfold full at hf;rw [List.all_eq_true]at hf;have h1:=hf i (List.mem_range.2 hi);obtain⟨j,hj⟩:=Option.isSome_iff_exists.1 h1;exact⟨j,hj,by simp [Cp,hi,hj]⟩
theorem cr {i:Int}(h:Dw P k i=some j):j<P.length:=by obtain⟨p,h1,_⟩:=H2 h;exact(List.getElem?_eq_some_iff.1 h1).1
theorem N8 (hf:full P k=true)(h:(Cp P k)[i]?=some j):i<k.2.2.2∧Dw P k (i:Int)=some j:=by have hi:=(List.getElem?_eq_some_iff.1 h).1;rw [Kl]at hi;obtain⟨j',h1,h2⟩:=Km hf hi;rw [h]at h2;cases h2;exact⟨hi,h1⟩
theorem jt (hf:full P k=true)(h:j∈Cp P k): ∃i,i<k.2.2.2∧Dw P k ((i:Nat):Int)=some j:=by obtain⟨i,hi⟩:=List.mem_iff_getElem?.1 h;exact⟨i,N8 hf hi⟩
theorem Xb (hf:full P k=true):(Cp P k).Nodup:=by rw [List.nodup_iff_pairwise_ne,List.pairwise_iff_getElem];intro i j hi hj hij e;have h1:=N8 hf (List.getElem?_eq_getElem hi);have h2:=N8 hf (List.getElem?_eq_getElem hj);rw [e]at h1;obtain⟨p,g1,_,g3⟩:=H2 h1.2;obtain⟨p',g4,_,g6⟩:=H2 h2.2;rw [g1]at g4;cases g4;omega
theorem jv (n:Nat)(l:List Nat)(hn:l.Nodup)(h: ∀x∈l,x<n):l.length≤n:=by
 have:=D2 n (l.map fun x=>((x:Nat):Int)) (by
  rw [List.nodup_iff_pairwise_ne]at hn ⊢;exact List.Pairwise.map _ (fun a b h e=>h (by omega)) hn) fun x hx=>by
  obtain⟨y,hy,rfl⟩:=List.mem_map.1 hx;have:=h y hy;omega
 rwa [List.length_map]at this
theorem Xc (hf:full P k=true):k.2.2.2≤P.length:=by rw [←Kl P k];refine jv _ _ (Xb hf) fun x hx=>?_;obtain⟨i,_,h⟩:=jt hf hx;exact cr h
theorem Vi (h:isK P k): ∃p∈P,Bj p.1=k:=by unfold isK at h;obtain⟨e,he⟩:=Option.isSome_iff_exists.1 h;obtain⟨p,h1,h2⟩:=Rt he;exact⟨p,List.mem_of_getElem? h1,h2⟩
theorem Ago {p:JP}(h:p∈P):isK P (Bj p.1):=by
 unfold isK
 cases he:C2 P (Bj p.1)with
 |some e=>rfl
 |none=>unfold C2 at he;rw [List.findIdx?_eq_none_iff]at he;have:=he p h;simp at this
theorem Vj (hj: ∀p∈P,p.1.Jr)(h:isK P k):1≤k.2.2.2∧k.2.2.1<k.2.1∧k.2.2.2≤65535∧(k.1=2∨k.1=3):=by
 obtain⟨p,hp,rfl⟩:=Vi h;obtain⟨⟨v1,v2,v3,v4,v5,v6⟩,_,hk⟩:=hj p hp;have:p.1.prev<p.1.seq∧p.1.idx.toNat<p.1.seq - p.1.prev:=by
  rcases v6 with q|q;·rcases hk with e|e <;> omega
  ·exact q.2.2
 show 1≤p.1.len.toNat∧p.1.prev<p.1.seq - p.1.idx.toNat∧p.1.len.toNat≤65535∧_;exact⟨by omega,by omega,by omega,hk⟩
theorem Agp (hj: ∀p∈P,p.1.Jr)(h:Dw P k (i:Int)=some j): ∃p,P[j]?=some p∧p∈P∧p.1.seq=k.2.1+i∧Bj p.1=k:=by
 obtain⟨p,h1,h2,h3⟩:=H2 h;have hm:=List.mem_of_getElem? h1;obtain⟨⟨v1,v2,v3,v4,v5,v6⟩,_,hk⟩:=hj p hm;have h4:p.1.seq - p.1.idx.toNat=k.2.1:=by rw [←h2];rfl
 have:p.1.prev<p.1.seq∧p.1.idx.toNat<p.1.seq - p.1.prev:=by
  rcases v6 with q|q;·rcases hk with e|e <;> omega
  ·exact q.2.2
 exact⟨p,h1,hm,by omega,h2⟩
theorem Aa9 (hj: ∀p∈P,p.1.Jr)(h:isK P k)(hf:full P k=true){B:Nat}(hs: ∀p∈P,p.1.seq<B):k.2.1+k.2.2.2≤B:=by have h1:=Vj hj h;obtain⟨j,h2,_⟩:=Km hf (show k.2.2.2 - 1<k.2.2.2 by omega);obtain⟨p,_,h3,h4,_⟩:=Agp hj h2;have:=hs p h3;omega
theorem jw (hj: ∀p∈P,p.1.Jr){k':Rec}(hk:isK P k)(b:BestP P 2 (some (Fp k)) (some k')):k.2.1<k'.2.1∧isK P k'∧full P k'=true:=by obtain⟨h1,h2,_⟩:=b;simp only [D3,Bool.and_eq_true,decide_eq_true_eq]at h2;have h3:=Vj hj h1;have h4:=Vj hj hk;unfold Fp at h2;exact⟨by omega,h1,h2.1.2⟩
theorem N9 (b:BestP P kind prev (some k)):isK P k∧full P k=true:=by obtain⟨h1,h2,_⟩:=b;unfold D3 at h2;simp only [Bool.and_eq_true,decide_eq_true_eq]at h2;exact⟨h1,h2.1.2⟩
theorem Zd (s:StartP P (some k)):isK P k∧full P k=true:=by
 obtain⟨o1,h1,h2⟩:=s
 cases o1 with
 |some k'=>cases h2;exact N9 h1
 |none=>exact N9 h2
def muF (P:List JP)(is:Bool)(o:Rec):Nat:=if is=true then(P.filter fun p=>decide (o.2.1≤(Bj p.1).2.1)).length else 0
theorem Agq (P:List JP)(is:Bool)(o:Rec):muF P is o≤P.length:=by
 unfold muF;split;·exact List.length_filter_le _ _
 ·exact Nat.zero_le _
theorem Agr (hj: ∀p∈P,p.1.Jr){o o':Rec}(hk:isK P o)(b:BestP P 2 (some (Fp o)) (if is=true then some o' else none)):muF P is o'<muF P true o:=by
 obtain⟨p,hp,e⟩:=Vi hk;unfold muF;rw [if_pos rfl]
 cases is with
 |false=>rw [if_neg (by simp)];refine List.length_pos_of_mem (a:=p) (List.mem_filter.2 ⟨hp,?_⟩);rw [e];exact decide_eq_true (Nat.le_refl _)
 |true=>
  rw [if_pos rfl];rw [if_pos rfl]at b;have:=jw hj hk b;refine Vf (fun x hx=>?_) P p hp (by rw [e];exact decide_eq_true (Nat.le_refl _)) ?_;·simp only [decide_eq_true_eq]at hx ⊢;omega
  ·rw [e];exact decide_eq_false (by omega)
theorem vi (P:List JP)(ks:List Rec)(k:Rec):chE P (ks++ [k])=chE P ks++cq P k:=by simp [chE]
theorem vj (P:List JP)(ks:List Rec)(k:Rec):chU P (ks++ [k])=chU P ks++Cp P k:=by simp [chU]
theorem vk (ks:List Rec)(k:Rec):chL (ks++ [k])=Fp k:=by simp [chL]
theorem P5 {P:List JP}: ∀ks:List Rec,(∀k∈ks,full P k=true)→(chU P ks).length≤ks.length*P.length
 | [],_=>Nat.zero_le _
 |k::ks,h=>by have h1:=P5 ks fun x hx=>h x (List.mem_cons_of_mem _ hx);have h2:=Xc (h k (List.mem_cons_self ..));rw [←Kl P k]at h2;unfold chU at h1 ⊢;rw [List.flatMap_cons,List.length_append,List.length_cons,Nat.add_mul,Nat.one_mul];omega
theorem M3 {P:List JP}{m:Nat}(hm: ∀p∈P,p.2.length≤m): ∀l:List Nat,(l.flatMap (Fz P)).length≤l.length*m
 | []=>Nat.zero_le _
 |j::l=>by
  have h1:=M3 hm l;have h2:(Fz P j).length≤m:=by
   unfold Fz
   cases h:P[j]? with
   |none=>exact Nat.zero_le _
   |some p=>exact hm p (List.mem_of_getElem? h)
  rw [List.flatMap_cons,List.length_append,List.length_cons,Nat.add_mul,Nat.one_mul];omega
theorem Xd (P:List JP)(ks:List Rec):chE P ks=(chU P ks).flatMap (Fz P):=by unfold chE chU cq;rw [List.flatMap_assoc]
section
variable {l:List (Nat×Option AV)}{x y:O}{a d:Nat}{k:IntKind}{sh:Sh}{q:Bool}
theorem vm (hs:k.signed=false)(e:evO l x=some (.int k (a:Int)))(e1:evO l y=some (.int k (d:Int)))(hr:a+d<pw k):XV (.bin .add x y q sh) h l (.int k ((a+d:Nat):Int)) h:=by have:=sw (h:=h) (sh:=sh) (q:=q) hs e e1;rwa [Nat.mod_eq_of_lt hr]at this
end
theorem Lu: ∀l:List Ent,Ar (l.flatMap Az)=true
 | []=>rfl
 |_::r=>Lu r
theorem T0 {l:List Ent}(k:Bk h b (l.flatMap Az)):SlR 2 h (.slc b 0 l.length cap) l.length (l.flatMap Az):= SlR.of k (by rw [Ba];omega) (by rw [List.drop_zero,List.take_of_length_le (by rw [Ba];exact Nat.le_refl _)])
theorem cu {l:List Int}(k:Bk h b (l.map AI)):SlR 1 h (.slc b 0 l.length cap) l.length (l.map AI):= SlR.of k (by simp) (by rw [List.drop_zero,List.take_of_length_le (by simp)])
theorem Hk {z:Int}(k:Bk h b [AI z]):SlR 1 h (.slc b 0 1 cap) 1 [AI z]:=SlR.of k (Nat.le_refl _) rfl
theorem jx {a d:Nat}(e:a=d):AV.slc b 0 a cap= .slc b 0 d cap:=by rw [e]
theorem Aa0 (h:p:=by
 exact Rp L X rfl rfl lkp lkp (by omega) G fun h9 k9=>⟨⟨6,rfl,by simp,by omega⟩,Kp.trS k9 (fun i hi e=>by omega) kps⟩):p:=h
section
variable (L:Lg P0 E F K)(X:Fx F K)
include L X
theorem jd {b1 o1 b2 o2 c2:Nat}(T:Tb P0 E F K)(k1:BS h b1 o1 ex)(k2:BS h b2 o2 data)(hl1:ex.length=64)(hl2:data.length=m)(hm:0<m∧m<1000): Ct P0 E F K 109 [.slc b1 o1 64 (Aa+1),.slc b2 o2 m c2] h fun v h'=>(∃e:Nat,v= .tup [.agg (spC ((Mv ex data).getD sp0)),AN e]∧(e=0↔(Mv ex data).isSome=true)∧e<1000)∧K0 h h':=by
 have l1:=k1.lt_n;have l2:=k2.lt_n;have a1:=k1.all;have a2:=k2.all;have g4:leF ex 4 1<256:=Gv a1 1 4;refine Af L X.f109 fun Q x cs G=>?_;refine wk ?_;refine Hx L rfl rfl rfl rfl ?_;refine cal ?_ (c:=Em L X);rintro _ rfl;refine cal ?_ (c:=Mr L X (bs:=ex) lkb hl1 (by omega));rintro _ h2 ⟨r,cb,rfl,w1,w2,w3,w4,w5,w6⟩;have n2:=w6.n;have m1:=w1.lt;have m2:=w2.lt_n;simp only [Al]at n2 w3 w4;refine cal ?_ (c:=bw L X (n:=4) (a:=60) (bs:=ex) (BS.part (k:=by exact lkb) (by omega)) (by omega) (by omega));rintro _ rfl;refine cal ?_ (c:=iz L X T (data:=data) (ex:=ex) lkb lkb hl2 hl1 hm);rintro _ h3 ⟨rfl,w7⟩;have n3:=w7.n;simp only [Al]at n3;by_cases hc:leF ex 60 4=crcB (data++ex.take 60);rotate_left;·refine wk ?_;refine Ei L rfl rfl rfl rfl rfl (Jv L X) ?_;rintro _ _ ⟨rfl,rfl⟩;rw [Hy a1 hl1 (by intro q;exact hc q.1)]at G;exact Rp L X rfl rfl lkp lkp (by omega) G fun h9 k9=>⟨⟨10,rfl,by simp,by omega⟩,Kp.trS k9 (fun i hi e=>by omega) kps⟩
 refine cal ?_ (c:=Em L X);rintro _ rfl;refine cal ?_ (c:=Mt L X (a:=0) (m:=4) (bs:=ex) (cb:=cb) (o:=0) (at_:=0) (n:=64) lkp lkp (BS.part (o:=0) (a:=0) (n:=4) (bs:=ex) (k:=by exact lkb) (by omega)) a1 (by omega) (by omega) (by omega) (by omega) (by omega) w5);rintro _ h4 ⟨rfl,w8,w9⟩;have n4:=w9.n;simp only [Al]at n4;by_cases hg:leF ex 0 4=1280591427;rotate_left;·refine wk ?_;refine Ei L rfl rfl rfl rfl rfl (Jv L X) ?_;rintro _ _ ⟨rfl,rfl⟩;rw [Hy a1 hl1 (by intro q;exact hg q.2.1)]at G;exact Aa0
 refine cal ?_ (c:=Em L X);rintro _ rfl;refine cal ?_ (c:=Mt L X (a:=4) (m:=1) (bs:=ex) (cb:=cb) (o:=0+4) (at_:=0+4) (n:=64 - 4) lkp lkp (BS.part (o:=0) (a:=4) (n:=1) (bs:=ex) (k:=by exact lkb) (by omega)) a1 (by omega) (by omega) (by omega) (by omega) (by omega) w5);rintro _ h5 ⟨rfl,x1,x2⟩;have n5:=x2.n;simp only [Al]at n5;refine cal ?_ (c:=Ro L X (a:=5) (m:=3) (bs:=ex) (cb:=cb) (o:=0+4+1) (at_:=0+4+1) (n:=64 - 4 - 1) lkp (BS.part (o:=0) (a:=5) (n:=3) (bs:=ex) (k:=by exact lkb) (by omega)) (by omega) (by omega) (by omega) (by omega) w5);rintro _ h6 ⟨rfl,x3,zh6⟩;have nh6:=zh6.n;simp only [Al]at nh6;by_cases hz:zer ex 5 3=true;rotate_left;·rw [if_neg hz];refine wk ?_;refine Ei L rfl rfl rfl rfl rfl (Jv L X) ?_;rintro _ _ ⟨rfl,rfl⟩;rw [Hy a1 hl1 (by intro q;exact hz q.2.2.1)]at G;exact Aa0
 rw [if_pos hz];have x5:=x3 hz;refine cal ?_ (c:=Em L X);rintro _ rfl;refine wk ?_;refine Bt L ?_;refine cal ?_ (c:=uo L X (at_:=0+4+1+3) lkp);rintro _ rfl;refine cal ?_ (c:=Em L X);rintro _ rfl;refine cal ?_ (c:=bz L X (a:=8) (bs:=ex) (cb:=cb) (o:=0+4+1+3) (at_:=0+4+1+3) (n:=64 - 4 - 1 - 3) lkp lkp (BS.part (o:=0) (a:=8) (n:=8) (bs:=ex) (k:=by exact lkb) (by omega)) (by omega) (by omega) (by omega) (by omega) w5);rintro _ h7 ⟨rfl,xh7,zh7⟩;have nh7:=zh7.n;simp only [Al]at nh7;refine wk ?_;refine Bw L ?_;refine cal ?_ (c:=uo L X (at_:=0+4+1+3+8) lkp);rintro _ rfl;refine cal ?_ (c:=Em L X);rintro _ rfl;refine cal ?_ (c:=bz L X (a:=16) (bs:=ex) (cb:=cb) (o:=0+4+1+3+8) (at_:=0+4+1+3+8) (n:=64 - 4 - 1 - 3 - 8) lkp lkp (BS.part (o:=0) (a:=16) (n:=8) (bs:=ex) (k:=by exact lkb) (by omega)) (by omega) (by omega) (by omega) (by omega) w5);rintro _ h8 ⟨rfl,xh8,zh8⟩;have nh8:=zh8.n;simp only [Al]at nh8;refine wk ?_;refine Bw L ?_;refine wk ?_;refine Bt L ?_;refine cal ?_ (c:=Mt L X (a:=24) (m:=4) (bs:=ex) (cb:=cb) (o:=0+4+1+3+8+8) (at_:=0+4+1+3+8+8) (n:=64 - 4 - 1 - 3 - 8 - 8) lkp lkp (BS.part (o:=0) (a:=24) (n:=4) (bs:=ex) (k:=by exact lkb) (by omega)) a1 (by omega) (by omega) (by omega) (by omega) (by omega) w5);rintro _ h9 ⟨rfl,xh9,zh9⟩;have nh9:=zh9.n;simp only [Al]at nh9;refine wk ?_;refine Bw L ?_;refine cal ?_ (c:=Mt L X (a:=28) (m:=4) (bs:=ex) (cb:=cb) (o:=0+4+1+3+8+8+4) (at_:=0+4+1+3+8+8+4) (n:=64 - 4 - 1 - 3 - 8 - 8 - 4) lkp lkp (BS.part (o:=0) (a:=28) (n:=4) (bs:=ex) (k:=by exact lkb) (by omega)) a1 (by omega) (by omega) (by omega) (by omega) (by omega) w5);rintro _ h10 ⟨rfl,xh10,zh10⟩;have nh10:=zh10.n;simp only [Al]at nh10;refine wk ?_;refine Bw L ?_;refine cal ?_ (c:=Mt L X (a:=32) (m:=4) (bs:=ex) (cb:=cb) (o:=0+4+1+3+8+8+4+4) (at_:=0+4+1+3+8+8+4+4) (n:=64 - 4 - 1 - 3 - 8 - 8 - 4 - 4) lkp lkp (BS.part (o:=0) (a:=32) (n:=4) (bs:=ex) (k:=by exact lkb) (by omega)) a1 (by omega) (by omega) (by omega) (by omega) (by omega) w5);rintro _ h11 ⟨rfl,xh11,zh11⟩;have nh11:=zh11.n;simp only [Al]at nh11;refine wk ?_;refine Bw L ?_;refine cal ?_ (c:=uo L X (at_:=0+4+1+3+8+8+4+4+4) lkp);rintro _ rfl;refine wk ?_;refine Ml L rfl rfl rfl rfl rfl (Ct.A (Ro L X (a:=36) (m:=24) (bs:=ex) (r:=r) (cb:=cb) (o:=0+4+1+3+8+8+4+4+4) (at_:=0+4+1+3+8+8+4+4+4) (n:=64 - 4 - 1 - 3 - 8 - 8 - 4 - 4 - 4) lkp (BS.part (o:=0) (a:=36) (n:=24) (bs:=ex) (k:=by exact lkb) (by omega)) (by omega) (by omega) (by omega) (by omega) w5)) ?_;rintro _ h12 ⟨rfl,xh12,zh12⟩;have nh12:=zh12.n;simp only [Al]at nh12;by_cases hy:zer ex 36 24=true;rotate_left;·rw [if_neg hy];refine wk ?_;refine Ei L rfl rfl rfl rfl rfl (Jv L X) ?_;rintro _ _ ⟨rfl,rfl⟩;rw [Hy a1 hl1 (by intro q;exact hy q.2.2.2.1)]at G;exact Aa0
 rw [if_pos hy];refine cal ?_ (c:=Tt L X (s:=Is ex) (Aaz a1));rintro _ hl ⟨rfl,zhl⟩;have nhl:=zhl.n;simp only [Al]at nhl;by_cases hv:(Is ex).Valid;rotate_left;·rw [decide_eq_false hv];refine wk ?_;refine Ei L rfl rfl rfl rfl rfl (Jv L X) ?_;rintro _ _ ⟨rfl,rfl⟩;rw [Hy a1 hl1 (by intro q;exact hv q.2.2.2.2)]at G;exact Aa0
 rw [decide_eq_true hv];refine cal ?_ (c:=Em L X);rintro _ rfl;refine wk ?_;rw [jc a1 hl1 hc hg hz hy hv]at G;refine Gt L (todo:= []) ?_;exact ur L X rfl rfl lkp lkp G ⟨⟨0,rfl,by simp,by omega⟩,kps⟩
theorem H3:Ct P0 E F K 162 [.bool true,.int .i64 e] h fun v h'=>v= .tup []∧h'=h:=by refine Af L X.f162 fun Q x cs G=>?_;refine ret X.f162.1 ?_;exact⟨rfl,rfl⟩
theorem Oa:CtP P0 E F K 162 [.bool false,.int .i64 e] h fun v h'=>v= .ifc 34 (.int .i64 e)∧h'=h:=by refine Ek L X.f162 fun Q x cs G=>?_;refine wk ?_;refine Mm L rfl rfl ?_;refine A2 L X.f162.1 ?_;exact G _ _ ⟨rfl,rfl⟩
theorem Ze {n:Nat}:Ct P0 E F K 163 [UN n,Zi] h fun v h'=>v= UN n∧h'=h:=by refine Af L X.f163 fun Q x cs G=>?_;refine cal ?_ (c:=H3 L X);rintro _ rfl;refine ret X.f163.1 ?_;exact⟨rfl,rfl⟩
theorem Aba {n:Nat}{w:AV}(k:Bk h r [.slc cb o n c,w]):Ct P0 E F K 165 [.ptr r 0] h fun v h'=>v= AN n∧h'=h:=by refine Ao L X.f165 fun Q x cs G=>?_;refine cal ?_ (c:=Ms L X);rintro _ rfl;refine ret X.f165.1 ?_;exact⟨rfl,rfl⟩
def rdC (cb a sz:Nat):List AV:= [.slc cb a (sz - a) (Aa+1),AN a]
theorem Ry {a sz:Nat}{bs:List Nat}(k:Bk h r (rdC cb a sz))(kb:BS h cb 0 bs)(hl:bs.length=sz)(hs:sz<1000)(ham:a+m≤sz)(hm:1≤m∧m≤8)(hne:cb≠r): Ct P0 E F K 154 [.ptr r 0,AN m] h fun v h'=>v= .tup [UN (leF bs a m),Zi]∧Bk h' r (rdC cb (a+m) sz)∧Kp (fun j=>j=r) h h':=by have k2:=BS.part (a:=a) (n:=m) kb (by omega);rw [Nat.zero_add]at k2;refine(Lp L X (a:=a) (bs:=bs) (at_:=a) (n:=sz - a) (cb:=cb) (o:=a) k k2 (by omega) (by omega) hm (by omega) (by omega) hne).mono fun v h' q=>⟨q.1,?_,q.2.2⟩;unfold rdC;rw [←Nat.sub_sub];exact q.2.1
end
theorem Ags (h:p:=by
 exact Xe L X rfl rfl lkp lkp (by omega) G fun h9 k9=>⟨⟨.nils,6,rfl,EL.nil _ _,by simp,by omega⟩,Kp.trS k9 (fun i hi e=>by omega) kps⟩):p:=h
section
variable (L:Lg P0 E F K)(X:Fx F K)
include L X
theorem Xe {Q:Nat→AV→Prop}{l:List (Nat×Option AV)}{cs:List AFr}{b2:Nat}(t2:look l 2=some (.ptr b2 0))(t3:look l 3=some (.ptr b3 0)) (k2:Bk h b2 [x0]) (k3:Bk h b3 [y0]) (hne:b2≠b3) (hG: ∀v h',post v h'→GO P0 E Q (finish v cs h' z)) (hp1: ∀h',Kp (fun j=>j=b2∨j=b3) h h'→post (.tup [.nils,.int .i64 e]) h'): Good P0 E Q ⟨⟨110,nt,tms l,todo,[.call 161 [.ptr b2 0,.ptr b3 0]],.panicking [(.ifc 34 (.int .i64 e),false)],false,none⟩,z::cs,h⟩:=by have l2:=k2.lt;have l3:=k3.lt;refine C6 L (by intro q;cases q) X.f161.1 rfl rfl rfl ?_;refine Lo L rfl ?_;refine wk ?_;(apply bm L rfl rfl rfl rfl rfl rfl rfl;exact lkp;rfl;intro h9 hs9;(repeat(first|(apply Ax rfl rfl;exact opv)|(apply Rh rfl rfl)));(first|(apply p_0;exact chk)|(refine Yx L ?_ rfl ?_;exact chk));refine Uy L hs9 ?_);refine wk ?_;refine Im L X.f161.1 rfl ?_;refine D7 L X.f110.1 (C4 t2 (Bk.e lkp) rfl (C4 t3 (Bk.e lkp) rfl Er)) hG (hp1 _ kps)
theorem jy {Q:Nat→AV→Prop}{l:List (Nat×Option AV)}{cs:List AFr}{b2:Nat}(t2:look l 2=some (.ptr b2 0))(t3:look l 3=some (.ptr b3 0)) (k2:Bk h b2 [x0]) (k3:Bk h b3 [y0]) (hG: ∀v h',post v h'→GO P0 E Q (finish v cs h' z)) (hp1:post (.tup [x0,y0]) h): Good P0 E Q ⟨⟨110,nt,tms l,todo,[.call 161 [.ptr b2 0,.ptr b3 0]],.returning,false,none⟩,z::cs,h⟩:=by refine C6 L (by intro q;cases q) X.f161.1 rfl rfl rfl ?_;refine Ea L rfl ?_;refine wk ?_;(apply st1 L rfl;exact Li (k:=true) rfl rfl;rfl);refine wk ?_;refine Im L X.f161.1 rfl ?_;refine D7 L X.f110.1 (C4 t2 (Bk.e lkp) rfl (C4 t3 (Bk.e lkp) rfl Er)) hG hp1
theorem cx {n:Nat}{bs:List Nat}(k:BS h b o bs)(hl:bs.length=n)(hn:12≤n∧n<1000): Ct P0 E F K 110 [.slc b o n c] h fun v h'=>(∃(u:AV) (e:Nat),v= .tup [u,AN e]∧EL h' h.n u ((Mw bs).getD [])∧(e=0↔(Mw bs).isSome=true)∧e<1000)∧K0 h h':=by
 have ha:=k.all;have l1:=k.lt_n;have bN:jN bs<4294967296:=Gv ha 4 0;have bad: ¬JOk bs→Mw bs=none:=fun q=>if_neg q;have good:JOk bs→Mw bs=some (D0 bs (jN bs)):=fun q=>if_pos q;refine Ao L X.f110 fun Q x cs G=>?_;refine wk ?_;refine Hx L rfl rfl rfl rfl ?_;refine cal ?_ (c:=Ha L X (sz:=n) (by omega));rintro _ rfl;refine cal ?_ (c:=H3 L X);rintro _ rfl;refine cal ?_ (c:=Mr L X (bs:=bs) lkb hl (by omega));rintro _ h2 ⟨r,cb,rfl,w1,w2,w3,w4,w5,w6⟩;have n2:=w6.n;have m1:=w1.lt;have m2:=w2.lt_n;simp only [Al]at n2 w3 w4;have w1':Bk h2 r (rdC cb 0 n):=w1;refine cal ?_ (c:=Ry L X (a:=0) (m:=4) (bs:=bs) (sz:=n) (cb:=cb) (by exact lkp) lkb hl (by omega) (by omega) (by omega) w5);rintro _ h3 ⟨rfl,w7,w8⟩;have n3:=w8.n;simp only [Al]at n3;have eN:leF bs 0 4=jN bs:=rfl;rw [eN];refine cal ?_ (c:=Ze L X (n:=jN bs));rintro _ rfl;by_cases hN:(n - 4) / 8<jN bs;·refine wk ?_;refine Ei L rfl rfl rfl rfl rfl (Oa L X) ?_;rintro _ _ ⟨rfl,rfl⟩;rw [bad (by rintro⟨q,_⟩;rw [hl]at q;omega)]at G;exact Ags
 refine cal ?_ (c:=H3 L X);rintro _ rfl;refine wk ?_;refine Bs L (α:= AV) (T:=fun i v=> [(29,some (AN i)),(28,some (AN (jN bs))),(5,some (.ptr r 0)),(3,some (.ptr (h.n+1) 0)),(2,some (.ptr h.n 0))]) (n:=jN bs) (R:=fun i v h4=>EL h4 h3.n v (D0 bs i)∧(∀e∈D0 bs i,e.Ok)∧Bk h4 h.n [v]∧Bk h4 (h.n+1) [Zi]∧Bk h4 r (rdC cb (4+8*i) n)∧BS h4 cb 0 bs∧h3.n≤h4.n∧K0 h h4) (i0:=0) .nils tsb ⟨EL.nil _ _,(by intro e he;cases he),lkp,lkp,lkp,lkb,Nat.le_refl _,kps⟩ (Nat.zero_le _) ?_ ?_
 ·rintro i v h4 hi ⟨u1,u2,u3,u4,u5,u6,u7,u8⟩ ih;have x1:=Gv ha 4 (4+8*i);have x2:=Gv ha 4 (8+8*i);have eE:Lq bs i=(((leF bs (4+8*i) 4:Nat):Int),((leF bs (8+8*i) 4:Nat):Int) - 1):=rfl;rw [Rr]at ih;refine cal ?_ (c:=Ry L X (a:=4+8*i) (m:=4) (bs:=bs) (sz:=n) (cb:=cb) (by exact lkp) lkb hl (by omega) (by omega) (by omega) w5);rintro _ h5 ⟨rfl,w9,w10⟩;have n5:=w10.n;simp only [Al]at n5;refine cal ?_ (c:=Ze L X);rintro _ rfl;refine wk ?_;rw [show 4+8*i+4=8+8*i by omega]at w9;refine cal ?_ (c:=Ry L X (a:=8+8*i) (m:=4) (bs:=bs) (sz:=n) (cb:=cb) (by exact lkp) lkb hl (by omega) (by omega) (by omega) w5);rintro _ h6 ⟨rfl,w11,w12⟩;have n6:=w12.n;simp only [Al]at n6;refine cal ?_ (c:=Ze L X);rintro _ rfl;refine cal ?_ (c:=Rs L X (e:=Lq bs i));rintro _ h7 ⟨rfl,w13⟩;have n7:=w13.n;simp only [Al]at n7;by_cases hok:(Lq bs i).Ok;rotate_left;·rw [decide_eq_true hok];refine wk ?_;refine Ei L rfl rfl rfl rfl rfl (Oa L X) ?_;rintro _ _ ⟨rfl,rfl⟩;rw [bad (by rintro⟨_,q,_⟩;exact hok (q _ (List.mem_map_of_mem (List.mem_range.2 hi))))]at G;exact Ags
  rw [decide_eq_false (show¬ ¬(Lq bs i).Ok from fun q=>q hok)];refine cal ?_ (c:=H3 L X);rintro _ rfl;have hall: ∀e∈D0 bs i++ [Lq bs i],e.Ok:=by
   intro e he;rcases List.mem_append.1 he with he|he;·exact u2 e he
   ·rw [List.mem_singleton.1 he];exact hok
  have u1l:=u1.len;rw [Ga]at u1l;have e8:4+8*(i+1)=8+8*i+4:=by omega
  rcases u1l with⟨e0,rfl⟩|⟨gn,lb,rfl,g5,g6⟩
  ·refine wk ?_;(apply st1 L rfl;exact Dr (new:=Az (Lq bs i)) rfl rfl (SlR.of (c:=Az (Lq bs i)) lkp (Nat.le_refl _) rfl) (by omega) (by omega);rfl);refine wk ?_;refine ih _ _ _ ⟨?_,hall,lkp,lkp,?_,lkb,by simp only [Al];omega,kps⟩ tsb;·rw [e0,List.nil_append];exact EL.app (l:= []) (by exact lkp) (by omega) rfl
   ·rw [e8];exact lkp
  ·have g8:=g5.lt;refine wk ?_;(apply st1 L rfl;exact Dq (old:=(D0 bs i).flatMap Az) (new:=Az (Lq bs i)) rfl rfl (SlR.of (c:=(D0 bs i).flatMap Az) lkp (by rw [Ba,Ga];omega) (by rw [List.drop_zero,List.take_of_length_le (by rw [Ba,Ga];exact Nat.le_refl _)])) (SlR.of (c:=Az (Lq bs i)) lkp (Nat.le_refl _) rfl) (by omega) (by omega) rfl;rfl);refine wk ?_;refine ih _ _ _ ⟨?_,hall,lkp,lkp,?_,lkb,by simp only [Al];omega,kps⟩ tsb;·exact EL.app (l:=D0 bs i) (by exact lkp) (by omega) (Ga _ _)
   ·rw [e8];exact lkp
 ·rintro v h4 ⟨u1,u2,u3,u4,u5,u6,u7,u8⟩;refine cal ?_ (c:=Aba L X u5);rintro _ rfl;refine wk ?_;have zk:=BS.part (o:=0) (a:=4+8*jN bs) (n:=n - (4+8*jN bs)) u6 (by omega);rw [Nat.zero_add]at zk;refine cal ?_ (c:=Ro L X (a:=4+8*jN bs) (m:=n - (4+8*jN bs)) (bs:=bs) (r:=r) (cb:=cb) (o:=4+8*jN bs) (at_:=4+8*jN bs) (n:=n - (4+8*jN bs)) u5 zk (by omega) (by omega) (by omega) (by omega) w5);rintro _ h5 ⟨rfl,w9,w10⟩;have n5:=w10.n;by_cases hz:zer bs (4+8*jN bs) (n - (4+8*jN bs))=true
  ·rw [if_pos hz];rw [good ⟨by rw [hl];omega,u2,by rw [hl];exact hz⟩]at G;have u9:=u1.kS w10 (by intro b hb;omega);rcases u1.ex with⟨e1,rfl⟩|⟨e1,b',rfl,e2,e3⟩
   all_goals
    refine cal ?_ (c:=H3 L X);rintro _ rfl;refine wk ?_;refine Gt L (todo:= []) ?_;exact jy L X rfl rfl lkp lkp G ⟨⟨_,0,rfl,EL.mono (u9.kS (S:=fun j=>j=h.n∨j=h.n+1) kps (by intro b hb;omega)) (by omega),by simp,by omega⟩,kps⟩
  ·rw [if_neg hz];refine wk ?_;refine Ei L rfl rfl rfl rfl rfl (Oa L X) ?_;rintro _ _ ⟨rfl,rfl⟩;rw [bad (by rintro⟨_,_,q⟩;rw [hl]at q;exact hz q)]at G;exact Ags
end
theorem Ani (h:p:=by
 refine Ao L X.f166 fun Q x cs G=>?_
 refine wk ?_
 (apply st1 L rfl;exact N4 rfl rfl rfl (by omega) (by simp only [pw];omega);rfl)
 refine wk ?_
 (apply st1 L rfl;exact N4 rfl rfl rfl (by omega) (by simp only [pw];omega);rfl)
 refine ret X.f166.1 ?_
 exact⟨rfl,kps⟩):p:=h
section
variable (L:Lg P0 E F K)(X:Fx F K)
include L X
section
theorem Agt {s:Sp}(j:s.Jr):Ct P0 E F K 166 [.agg (spC s)] h fun v h'=>v= .tup [Hz (Bj s),.bool true]∧K0 h h':=by
 obtain⟨⟨v1,v2,v3,v4,v5,v6⟩,⟨o1,o2,o3⟩,hk⟩:=j;obtain⟨kind,sec,seq,prev,idx,len⟩:=s;simp only at v1 v2 v3 v4 v5 v6 o1 o2 o3 hk;obtain⟨i,rfl⟩: ∃i:Nat,idx=(i:Int):=⟨idx.toNat,by omega⟩;obtain⟨n,rfl⟩: ∃n:Nat,len=(n:Int):=⟨len.toNat,by omega⟩;obtain⟨rfl,w1,w2⟩:sec=0∧prev<seq∧i<seq - prev:=by
  rcases v6 with q|q;·omega
  ·simp only [Int.toNat_natCast]at q;exact⟨q.2.1,q.2.2.1,q.2.2.2⟩
 rcases hk with rfl|rfl;·show Ct P0 E F K 166 [.agg [.int .u8 ((2:Nat):Int),Zi,UN seq,UN prev,AN i,AN n]] h _;exact Ani
 ·show Ct P0 E F K 166 [.agg [.int .u8 ((3:Nat):Int),Zi,UN seq,UN prev,AN i,AN n]] h _;exact Ani
omit L X
def pgV (a e:Nat):AV:= .agg [.map a,AN e]
def Top (W:Rec→Bool)(B:Rec→Rec→Bool)(Y:List Rec)(is:Bool)(out:Rec):Prop:=
 (is=false∧ ∀y∈Y,W y=false)∨(is=true∧out∈Y∧W out=true∧ ∀z∈Y,W z=true→z=out∨B out z=true)
theorem Top.mem {Y Y':List Rec}{out:Rec}(q:Top W B Y is out)(e: ∀y,y∈Y↔y∈Y'):Top W B Y' is out:=by
 rcases q with⟨h1,h2⟩|⟨h1,h2,h3,h4⟩;·exact .inl ⟨h1,fun y hy=>h2 y ((e y).2 hy)⟩
 ·exact .inr ⟨h1,(e _).1 h2,h3,fun z hz=>h4 z ((e z).2 hz)⟩
theorem Top.skip {W:Rec→Bool}{B:Rec→Rec→Bool}{Y:List Rec}{is:Bool}{out y:Rec}(q:Top W B Y is out)(e:W y=false):Top W B (Y++ [y]) is out:=by
 rcases q with⟨h1,h2⟩|⟨h1,h2,h3,h4⟩;·exact .inl ⟨h1,fun z hz=>(List.mem_append.1 hz).elim (h2 z) fun f=>by rw [List.mem_singleton.1 f];exact e⟩
 ·exact .inr ⟨h1,List.mem_append_left _ h2,h3,fun z hz w=>(List.mem_append.1 hz).elim (fun f=>h4 z f w) fun f=>by rw [List.mem_singleton.1 f,e]at w;cases w⟩
theorem Top.first {Y:List Rec}{out:Rec}(q:Top W B Y false out)(e:W y=true):Top W B (Y++ [y]) true y:=by
 rcases q with⟨h1,h2⟩|⟨h1,_⟩;·exact .inr ⟨rfl,by simp,e,fun z hz w=>(List.mem_append.1 hz).elim (fun f=>by rw [h2 z f]at w;cases w) fun f=> .inl (List.mem_singleton.1 f)⟩
 ·cases h1
theorem Top.better {Y:List Rec}{out:Rec}(tr: ∀a b c,B a b=true→B b c=true→B a c=true)(q:Top W B Y true out)(e:W y=true)(b:B y out=true):Top W B (Y++ [y]) true y:=by
 rcases q with⟨h1,_⟩|⟨h1,h2,h3,h4⟩;·cases h1
 ·exact .inr ⟨rfl,by simp,e,fun z hz w=>(List.mem_append.1 hz).elim (fun f=>(h4 z f w).elim (fun g=> .inr (by rw [g];exact b)) fun g=> .inr (tr _ _ _ b g)) fun f=> .inl (List.mem_singleton.1 f)⟩
theorem Top.keep {Y:List Rec}{out:Rec}(q:Top W B Y true out)(tot:y≠out→B y out=true∨B out y=true)(b:B y out=false):Top W B (Y++ [y]) true out:=by
 rcases q with⟨h1,_⟩|⟨h1,h2,h3,h4⟩;·cases h1
 ·refine .inr ⟨rfl,List.mem_append_left _ h2,h3,fun z hz w=>(List.mem_append.1 hz).elim (fun f=>h4 z f w) fun f=>?_⟩;rw [List.mem_singleton.1 f];by_cases e:y=out;·exact .inl e
  ·rcases tot e with g|g;·rw [b]at g;cases g
   ·exact .inr g
include L X
theorem Lv {ck fw fb:Nat}{capw capb:List AV}{M:List (Rec×AV×Nat)}(q:MOk M ck)(k:Mk h r (M.map (mE Hz)) ck) (hv: ∀y∈M,∃a e,y.2.1=pgV a e) (hW: ∀y∈M,∀h2,K0 h h2→Ct P0 E F K fw (Hz y.1::y.2.1::capw) h2 fun v h'=>v= .bool (W y.1)∧K0 h2 h') (hB: ∀y∈M,∀z∈M,∀h2,K0 h h2→Ct P0 E F K fb (Hz y.1::Hz z.1::capb) h2 fun v h'=>v= .bool (B y.1 z.1)∧K0 h2 h') (tr: ∀a b c,B a b=true→B b c=true→B a c=true) (tot: ∀y∈M,∀z∈M,y.1≠z.1→B y.1 z.1=true∨B z.1 y.1=true): Ct P0 E F K 170 [.map r,.fn (.func fw) [] capw,.fn (.func fb) [] capb] h fun v h'=> ∃out is,v= .tup [Hz out,.bool is]∧Top W B (M.map (·.1)) is out∧K0 h h':=by
 have l1:=k.lt;refine Bf L X.f170 fun Q x cs G=>?_;refine wk ?_;(apply st1 L rfl;exact U4 rfl lkq;rfl);refine wk ?_;refine je L (α:= List (Rec×AV×Nat)×Bool×Rec) (T:=fun s=> [(11,some (.ptr (h.n+1) 0)),(7,some (.bool s.2.1)),(6,some (.ptr h.n 0)),(1,some (.fn (.func fw) [] capw)),(2,some (.fn (.func fb) [] capb))]) (mu:=fun s=>muM M s.1) (R:=fun s hh=>Gk hh (h.n+1) (.miter (some r) ck (s.1.map (·.2.2)) ck)∧(∀y∈s.1,y∈M)∧(s.1.map (·.2.2)).Nodup∧Bk hh h.n [.int .u8 ((s.2.2.1:Nat):Int),UN s.2.2.2.1,UN s.2.2.2.2.1,AN s.2.2.2.2.2]∧Top W B (s.1.map (·.1)) s.2.1 s.2.2∧K0 h hh) ([],false,(0,0,0,0)) tsb ⟨lkg,(fun y hy=>by cases hy),List.nodup_nil,lkp,.inl ⟨rfl,fun y hy=>by cases hy⟩,kps⟩ ?_;rintro⟨Y,is,out⟩ hh ⟨i1,i2,i3,i4,i5,i6⟩ ih;simp only at i1 i2 i3 i4 i5;have l4:=i1.lt;refine wk ?_;refine U5 L rfl rfl (M:=M) (enc:=Hz) (ck:=ck) (it:=h.n+1) (m:=r) (seen:=Y.map (·.2.2)) lkg lkq q.lt ?_ ?_;·intro hall;refine ret X.f170.1 ?_;refine⟨out,is,rfl,?_,kps⟩;exact i5.mem fun z=>((N7 q i2 i3 hall).map (·.1)).mem_iff
 ·intro y hy hn;have hmu:=Y8 hy hn;obtain⟨pa,pe,hpg⟩:=hv y hy;have hWy:=hW y hy;rw [hpg]at hWy
  have fin: ∀(is':Bool) (out':Rec) (h9:H) (l9:List (Nat×Option AV)),Top W B (Y.map (·.1)++ [y.1]) is' out'→Gk h9 (h.n+1) (.miter (some r) ck (Y.map (·.2.2)++ [y.2.2]) ck)→Bk h9 h.n [.int .u8 (out'.1:Int),UN out'.2.1,UN out'.2.2.1,AN out'.2.2.2]→K0 h h9→
    TSub (tms [(11,some (.ptr (h.n+1) 0)),(7,some (.bool is')),(6,some (.ptr h.n 0)),(1,some (.fn (.func fw) [] capw)),(2,some (.fn (.func fb) [] capb))]) (tms l9)→Good P0 E Q ⟨⟨170,cf170.ntmps,tms l9,[.inLoop Aas,.inBlock 0,.code Aat],[],.run,false,none⟩,x::cs,h9⟩:=by
   intro is' out' h9 l9 t1 t2 t3 t4 t5
   refine ih (Y++ [y],is',out') h9 l9 hmu ⟨?_,?_,ut i3 hn,t3,?_,t4⟩ t5
   ·rw [List.map_append];exact t2
   ·intro z hz
    rcases List.mem_append.1 hz with hz|hz
    ·exact i2 z hz
    ·rw [List.mem_singleton.1 hz];exact hy
   ·rw [List.map_append];exact t1
  clear ih;refine wk ?_;(apply st1 L rfl;exact bj q rfl lkg lkq hy;rfl);rw [hpg];refine wk ?_;refine Ml L rfl rfl rfl rfl rfl (hWy _ kps).A ?_;rintro _ h3 ⟨rfl,w1⟩;have n3:=w1.n;simp only [Al]at n3
  cases hw:W y.1 with
  |false=>refine wk ?_;exact fin is out _ _ (i5.skip hw) lkg lkp kps tsb
  |true=>
   cases is with
   |false=>refine wk ?_;exact fin true y.1 _ _ (i5.first hw) lkg lkp kps tsb
   |true=>
    have hin:out∈Y.map (·.1):=by
     rcases i5 with⟨e,_⟩|⟨_,e,_⟩;·cases e
     ·exact e
    obtain⟨z,hz,rfl⟩:=List.mem_map.1 hin;refine wk ?_;refine Ml L rfl rfl rfl rfl rfl (hB y hy z (i2 z hz) _ kps).A ?_;rintro _ h4 ⟨rfl,w2⟩;have n4:=w2.n;simp only [Al]at n4
    cases hb:B y.1 z.1 with
    |false=>refine wk ?_;exact fin true z.1 _ _ (i5.keep (fun e=>tot y hy z (i2 z hz) e) hb) lkg lkp kps tsb
    |true=>refine wk ?_;exact fin true y.1 _ _ (i5.better tr hw hb) lkg lkp kps tsb
end
end
variable {ci e lo:Nat}
theorem Agu (h:p:=by
 refine Bf L X.f169 fun Q x cs G=>?_
 refine wk ?_
 (apply st1 L rfl;exact th rfl lkq;rfl)
 refine ret X.f169.1 ?_
 exact⟨rfl,kps⟩):p:=h
theorem Anj (h:p:=by
 refine Af L X.f168 fun Q x cs G=>?_
 refine wk ?_
 (apply st1 L rfl;exact th rfl lkq;rfl)
 refine ret X.f168.1 ?_
 exact⟨rfl,kps⟩):p:=h
section
variable (L:Lg P0 E F K)(X:Fx F K)
include L X
section
omit L X
def Zf (E0:Rec→Nat)(a b:Rec):Bool:=decide (b.2.1<a.2.1) || (decide (a.2.1=b.2.1) && decide (E0 a<E0 b))
theorem Vk {E0:Rec→Nat}(a b c:Rec)(h1:Zf E0 a b=true)(h2:Zf E0 b c=true):Zf E0 a c=true:=by unfold Zf at*;simp only [Bool.or_eq_true,Bool.and_eq_true,decide_eq_true_eq]at*;omega
theorem vn {E0:Rec→Nat}(a b:Rec)(h:E0 a≠E0 b):Zf E0 a b=true∨Zf E0 b a=true:=by unfold Zf;simp only [Bool.or_eq_true,Bool.and_eq_true,decide_eq_true_eq];omega
include L X
theorem Agv {a:Nat}{Mi:List (Int×AV×Nat)}(ka:Mk h a (Mi.map (mE AI)) ci):Ct P0 E F K 168 [Hz k,pgV a e] h fun v h'=>v= .bool (decide (k.1=3) && decide (Mi.length=k.2.2.2))∧K0 h h':=by
 have l1:=ka.lt;obtain⟨k0,k1,k2,k3⟩:=k;by_cases h0:k0=3
 ·by_cases h1:Mi.length=k3;·rw [show(decide ((k0,k1,k2,k3).1=3) && decide (Mi.length=(k0,k1,k2,k3).2.2.2))=true by simp [h0,h1]];exact Anj
  ·rw [show(decide ((k0,k1,k2,k3).1=3) && decide (Mi.length=(k0,k1,k2,k3).2.2.2))=false by simp [h0,h1]];exact Anj
 ·rw [show(decide ((k0,k1,k2,k3).1=3) && decide (Mi.length=(k0,k1,k2,k3).2.2.2))=false by simp [h0]];refine Af L X.f168 fun Q x cs G=>?_;refine ret X.f168.1 ?_;exact⟨rfl,kps⟩
theorem Agw {a lst:Nat}{Mi:List (Int×AV×Nat)}{u w:AV}(ka:Mk h a (Mi.map (mE AI)) ci)(kc:Bk h c [u,UN lst,w]):Ct P0 E F K 169 [Hz k,pgV a e,.ptr c 0] h fun v h'=>v= .bool (decide (k.1=2) && decide (Mi.length=k.2.2.2) && decide (k.2.2.1=lst))∧K0 h h':=by
 have l1:=ka.lt;have l2:=kc.lt;obtain⟨k0,k1,k2,k3⟩:=k;by_cases h0:k0=2
 ·by_cases h1:Mi.length=k3
  ·by_cases h2:k2=lst;·rw [show(decide ((k0,k1,k2,k3).1=2) && decide (Mi.length=(k0,k1,k2,k3).2.2.2) && decide ((k0,k1,k2,k3).2.2.1=lst))=true by simp [h0,h1,h2]];exact Agu
   ·rw [show(decide ((k0,k1,k2,k3).1=2) && decide (Mi.length=(k0,k1,k2,k3).2.2.2) && decide ((k0,k1,k2,k3).2.2.1=lst))=false by simp [h0,h1,h2]];exact Agu
  ·rw [show(decide ((k0,k1,k2,k3).1=2) && decide (Mi.length=(k0,k1,k2,k3).2.2.2) && decide ((k0,k1,k2,k3).2.2.1=lst))=false by simp [h0,h1]];exact Agu
 ·rw [show(decide ((k0,k1,k2,k3).1=2) && decide (Mi.length=(k0,k1,k2,k3).2.2.2) && decide ((k0,k1,k2,k3).2.2.1=lst))=false by simp [h0]];refine Bf L X.f169 fun Q x cs G=>?_;refine ret X.f169.1 ?_;exact⟨rfl,kps⟩
end
end
theorem zq4 (h:p:=by
 refine Bf L X.f167 fun Q x cs G=>?_
 (try refine Bn L 1000 rfl ?_);(repeat(first|(apply st1 L rfl;exact⟨Dy rfl⟩;rfl)|(apply st1 L rfl;exact Hw rfl rfl rfl;rfl)|(apply st1 L rfl;exact Ey rfl rfl (by omega);rfl)|(apply st1 L rfl;exact Cb rfl rfl (by omega);rfl)|(apply st1 L rfl;(apply C5 rfl;exact lkp;first|rfl|assumption);rfl)))
 refine Pz L ?_
 (repeat(first|(apply Ax rfl rfl;exact⟨Dy rfl⟩)|(apply Ax rfl rfl;exact Lj rfl rfl (by omega))|(apply Ax rfl rfl;exact Rd rfl rfl (by omega))|(apply Ax rfl rfl;(apply C5 rfl;exact lkp;first|rfl|assumption))|(apply Ax rfl rfl;(apply G9 rfl;exact lkp;rfl))|(apply Rh rfl rfl)))
 (apply Ax rfl rfl;exact Db KE.recd rfl rfl lkq)
 rw [ha]
 (repeat(first|(apply Ax rfl rfl;exact⟨Dy rfl⟩)|(apply Ax rfl rfl;exact Lj rfl rfl (by omega))|(apply Ax rfl rfl;exact Rd rfl rfl (by omega))|(apply Ax rfl rfl;(apply C5 rfl;exact lkp;first|rfl|assumption))|(apply Ax rfl rfl;(apply G9 rfl;exact lkp;rfl))|(apply Rh rfl rfl)))
 (apply Ax rfl rfl;exact Db KE.recd rfl rfl lkq)
 rw [hb]
 refine ret X.f167.1 ?_
 exact⟨rfl,kps⟩):p:=h
section
variable (L:Lg P0 E F K)(X:Fx F K)
include L X
section
theorem Agx {ck aa ab ea eb:Nat}{M:List (Rec×AV×Nat)}{a b:Rec}(kb:Bk h rb [.map r])(k:Mk h r (M.map (mE Hz)) ck)(ha:A5 M a=some (pgV aa ea))(hb:A5 M b=some (pgV ab eb)): Ct P0 E F K 167 [Hz a,Hz b,.ptr rb 0] h fun v h'=>v= .bool (decide (b.2.1<a.2.1) || (decide (a.2.1=b.2.1) && decide (ea<eb)))∧K0 h h':=by
 have l1:=k.lt;have l2:=kb.lt;by_cases h0:b.2.1<a.2.1;·rw [show(decide (b.2.1<a.2.1) || (decide (a.2.1=b.2.1) && decide (ea<eb)))=true by simp [h0]];refine Bf L X.f167 fun Q x cs G=>?_;refine ret X.f167.1 ?_;exact⟨rfl,kps⟩
 by_cases h1:a.2.1=b.2.1
 ·have e1:(decide (b.2.1<a.2.1) || (decide (a.2.1=b.2.1) && decide (ea<eb)))=decide (ea<eb):=by simp [h0,h1]
  rw [e1];by_cases h2:ea<eb;·rw [decide_eq_true h2];exact zq4
  ·rw [decide_eq_false h2];exact zq4
 ·rw [show(decide (b.2.1<a.2.1) || (decide (a.2.1=b.2.1) && decide (ea<eb)))=false by simp [h0,h1]];refine Bf L X.f167 fun Q x cs G=>?_;refine ret X.f167.1 ?_;exact⟨rfl,kps⟩
omit L X in
structure ChR (h:H)(lo c:Nat)(v1 v2:AV)(es:List Ent)(us:List Int):Prop where
 e:(es= []∧v1= .nils)∨(0<es.length∧ ∃b,v1= .slc b 0 es.length (Aa+2)∧Bk h b (es.flatMap Az)∧lo≤b∧b≠c)
 u:(us= []∧v2= .nils)∨(0<us.length∧ ∃b,v2= .slc b 0 us.length (Aa+1)∧Bk h b (us.map AI)∧lo≤b∧b≠c)
 d: ∀b1 n1 c1 b2 n2 c2,v1= .slc b1 0 n1 c1→v2= .slc b2 0 n2 c2→b1≠b2
omit L X
theorem ChR.kp {h':H}{S:Nat→Prop}{v1 v2:AV}{es:List Ent}{us:List Int}(q:ChR h lo c v1 v2 es us)(k:Kp S h h')(hs: ∀b,lo≤b→b≠c→ ¬S b):ChR h' lo c v1 v2 es us:=by
 refine⟨?_,?_,q.d⟩
 ·rcases q.e with e|⟨e1,b,e2,e3,e4,e5⟩;·exact .inl e
  ·exact .inr ⟨e1,b,e2,Aq k (hs b e4 e5) e3,e4,e5⟩
 ·rcases q.u with e|⟨e1,b,e2,e3,e4,e5⟩;·exact .inl e
  ·exact .inr ⟨e1,b,e2,Aq k (hs b e4 e5) e3,e4,e5⟩
def Agz (o:Rec):List AV:= [.int .u8 (o.1:Int),UN o.2.1,UN o.2.2.1,AN o.2.2.2]
def nI (l:List Nat):List Int:=l.map fun x=>((x:Nat):Int)
theorem R0 {ck:Nat}{M:List (Rec×AV×Nat)}{out:Rec}(q:RcR h lo M ck P)(w:Top (D3 P kind prev) (Pp P) (M.map (·.1)) is out):BestP P kind prev (if is=true then some out else none):=by
 have hk: ∀k,isK P k→k∈M.map (·.1):=by
  intro k hk;unfold isK at hk
  cases h1:C2 P k with
  |none=>rw [h1]at hk;cases hk
  |some e=>obtain⟨a,Mi,ci,g1,_⟩:=q.at_ k e h1;rw [Xa,g1];rfl
 rcases w with⟨h1,h2⟩|⟨h1,h2,h3,h4⟩;·rw [h1];exact fun k kk=>h2 k (hk k kk)
 ·rw [h1];refine⟨?_,h3,fun k kk w=>h4 k (hk k kk) w⟩;obtain⟨y,hy,rfl⟩:=List.mem_map.1 h2;obtain⟨a,Mi,ci,e,g1,g2,g3,_⟩:=q.ent hy;unfold isK;rw [g3];rfl
include L X
theorem ku {lv:AV}{l:List (JP×AV)}(hj: ∀x∈l,x.1.1.Jr)(hl0: ∀x∈l,EL h lo x.2 x.1.2)(hlv:(l= []∧lv= .nils)∨ ∃lb,lv= .slc lb 0 l.length (Aa+7)∧Bk h lb (l.flatMap jpC))(hlen:l.length≤100)(hes: ∀x∈l,x.1.2.length≤100)(hsq: ∀x∈l,x.1.1.seq<9223372036854775808)(U:SortOk P0 E F 171): Ct P0 E F K 111 [lv] h fun v h'=> ∃o ks v1 v2,v= .agg [v1,UN (chL ks),v2]∧StartP (l.map (·.1)) o∧RunP (l.map (·.1)) o ks∧EL h' h.n v1 (chE (l.map (·.1)) ks)∧RowN h' h.n v2 (Dc (nI (chU (l.map (·.1)) ks)))∧((chE (l.map (·.1)) ks).length≤1000000∧(chU (l.map (·.1)) ks).length≤1000000)∧K0 h h':=by
 have hsl: ∀{i:Nat},i<l.length→ ∃lb,lv= .slc lb 0 l.length (Aa+7)∧Bk h lb (l.flatMap jpC):=fun hi=>hlv.elim (fun e=>absurd hi (by rw [e.1];exact Nat.not_lt_zero _)) id;refine Ao L X.f111 fun Q x cs G=>?_
 have main: ∀(h0:H) (lq:List (Nat×Option AV)),Mk h0 (h.n+1) (([]:List (Rec×AV×Nat)).map (mE Hz)) 0→Bk h0 (h.n+2) [.map (h.n+1)]→Bk h0 h.n [.nils,Zu,.nils]→h.n+3≤h0.n→K0 h h0→
   TSub (tms [(22,some Zi),(21,some (AN l.length)),(20,some lv),(3,some (.ptr (h.n+2) 0)),(2,some (.ptr h.n 0)),(0,some lv)]) (tms lq)→Good P0 E Q ⟨⟨111,cf111.ntmps,tms lq,[.code Aam,.inBlock 0,.code Aaq,.inScope bo],[],.run,false,none⟩,x::cs,h0⟩:=by
   intro h0 lq m1 m2 m3 m4 m5 ht
   refine Bs L (α:= List (Rec×AV×Nat)×Nat) (T:=fun i _=> [(22,some (AN i)),(21,some (AN l.length)),(20,some lv),(3,some (.ptr (h.n+2) 0)),(2,some (.ptr h.n 0)),(0,some lv)]) (n:=l.length)
     (R:=fun i s hh=>RcR hh (h.n+3) s.1 s.2 ((l.take i).map (·.1))∧Mk hh (h.n+1) (s.1.map (mE Hz)) s.2∧Bk hh (h.n+2) [.map (h.n+1)]∧Bk hh h.n [.nils,Zu,.nils]∧h.n+3≤hh.n∧K0 h hh) (i0:=0) ([],0) ht ⟨RcR.nil _ _,m1,m2,m3,m4,m5⟩ (Nat.zero_le _) ?_ ?_
   · rintro i ⟨M,ck⟩ hh hi ⟨q,i2,i3,i4,i5,i6⟩ ih
     simp only at q i2
     obtain⟨lb,rfl,kl⟩:=hsl hi
     have l3:=kl.lt
     have hx:l[i]?=some l[i]:=List.getElem?_eq_getElem hi
     have hm:=List.getElem_mem hi
     have hjr:=hj _ hm
     have hel:=hl0 _ hm
     have hdt:=B4 l (Kk l) i _ hx
     have e1:((l.take (i+1)).map (·.1))=(l.take i).map (·.1)++ [l[i].1]:=by rw [List.take_add_one,hx,List.map_append];rfl
     have e2:((l.take i).map (·.1)).length=i:=by rw [List.length_map,List.length_take];omega
     generalize hP:(l.take i).map (·.1)=P at*
     generalize l[i]=y at*
     obtain⟨⟨s,es⟩,v⟩:=y
     simp only at hjr hel
     have hdt':i*7+7≤(l.flatMap jpC).length∧((l.flatMap jpC).drop (i*7)).take 7= [.int .u8 (s.kind:Int),.int .i64 s.sec,UN s.seq,UN s.prev,.int .i64 s.idx,.int .i64 s.len,v]:=hdt
     have k2:Bk hh lb (l.flatMap jpC):=Ag i6 kl
     have l4:=k2.lt
     have l6:=i2.lt
     rcases hel.ex with⟨_,rfl⟩|⟨_,eb,rfl,_,_⟩
     all_goals
       refine wk ?_
       (apply st1 L rfl;exact Bg k2.rk hdt' rfl;rfl)
       refine cal ?_ (c:=Agt L X hjr)
       rintro _ h3 ⟨rfl,w1⟩
       have n3:=w1.n
       simp only [Al]at n3
       refine wk ?_
       cases hE:C2 P (Bj s)with
       |none=>
         have hg:=q.no _ hE
         (apply st1 L rfl;exact Vg KE.recd rfl rfl lkq hg;rfl)
         refine wk ?_
         (apply Lm L rfl;exact Ez (k:=Bj s) KE.recd q.ok rfl rfl rfl lkq;rfl)
         refine wk ?_
         (apply st1 L rfl;exact Vg (KE.int .i64) (M:= []) (k:=s.idx) rfl rfl lkq rfl;rfl)
         refine wk ?_
         (apply Lm L rfl;exact Ez (M:= []) (k:=s.idx) (KE.int .i64) MOk.nil rfl rfl rfl lkq;rfl)
         refine wk ?_
         refine ih (C7 M ck (Bj s) (.agg [.map (h3.n+1+1),AN i]),mCk M ck (Bj s)) _ _ ⟨?_,by exact lkq,by exact lkp,by exact lkp,by simp only [Al];omega,kps⟩ tsb
         rw [e1]
         have hv: ∀h9,RcR h9 (h.n+3) (C7 M ck (Bj s) (.agg [.map (h3.n+1+1),AN P.length])) (mCk M ck (Bj s)) (P++ [(s,es)])→RcR h9 (h.n+3) (C7 M ck (Bj s) (.agg [.map (h3.n+1+1),AN i])) (mCk M ck (Bj s)) (P++ [(s,es)]):=by
           intro h9 q9;rw [e2]at q9;exact q9
         refine hv _ (RcR.new (p:=(s,es)) (c':=0) q hE (by omega) (by omega) (by rw [e2];exact lkq) (fun b es c hb hb2 hmk=>by exact lkq))
       |some e=>
         obtain⟨a,Mi,ci,hg,ka,oi,la,hf⟩:=q.at_ _ _ hE
         have lka:=ka.lt
         (apply st1 L rfl;exact cf KE.recd rfl rfl lkq hg;rfl)
         cases hF:Dw P (Bj s) s.idx with
         |none=>
           have hg2:A5 Mi s.idx=none:=by rw [hf,hF];rfl
           refine wk ?_
           (apply st1 L rfl;exact Vg (KE.int .i64) (M:=Mi) (k:=s.idx) rfl rfl lkq hg2;rfl)
           refine wk ?_
           (apply Lm L rfl;exact Ez (M:=Mi) (k:=s.idx) (KE.int .i64) oi rfl rfl rfl lkq;rfl)
           refine wk ?_
           refine ih (M,ck) _ _ ⟨?_,by exact lkq,by exact lkp,by exact lkp,by simp only [Al];omega,kps⟩ tsb
           rw [e1]
           refine RcR.add (p:=(s,es)) (c':=0) q hE hF hg oi la hf (by rw [e2];exact lkq) (fun b es c hb hne hmk=>by have:=hmk.lt;exact lkq)
         |some j=>
           have hg2:A5 Mi s.idx=some (AN j):=by rw [hf,hF];rfl
           refine wk ?_
           (apply st1 L rfl;exact cf (KE.int .i64) (M:=Mi) (k:=s.idx) rfl rfl lkq hg2;rfl)
           refine wk ?_
           refine ih (M,ck) _ _ ⟨?_,by exact lkq,by exact lkp,by exact lkp,by simp only [Al];omega,kps⟩ tsb
           rw [e1]
           refine RcR.twice (p:=(s,es)) q hE hF (fun b es c hb hmk=>by have:=hmk.lt;exact lkq)
   · rintro⟨M,ck⟩ hh ⟨q,i2,i3,i4,i5,i6⟩
     rw [List.take_length]at q
     simp only at q i2
     have hjP: ∀p∈l.map (·.1),p.1.Jr:=by
       intro p hp
       obtain⟨x,hx,rfl⟩:=List.mem_map.1 hp
       exact hj x hx
     have hsP: ∀p∈l.map (·.1),p.1.seq<9223372036854775808:=by
       intro p hp
       obtain⟨x,hx,rfl⟩:=List.mem_map.1 hp
       exact hsq x hx
     have heP: ∀p∈l.map (·.1),p.2.length≤100:=by
       intro p hp
       obtain⟨x,hx,rfl⟩:=List.mem_map.1 hp
       exact hes x hx
     have hgetP: ∀j x,l[j]?=some x→Fz (l.map (·.1)) j=x.1.2:=fun j x hx=>jp hx
     have hlP:(l.map (·.1)).length=l.length:=List.length_map _
     generalize hP:l.map (·.1)=P at*
     have hv: ∀y∈M,∃a e,y.2.1=pgV a e:=fun y hy=>by
       obtain⟨a,Mi,ci,e,g1,_⟩:=q.ent hy
       exact⟨a,e,g1⟩
     have tot: ∀y∈M,∀z∈M,y.1≠z.1→Pp P y.1 z.1=true∨Pp P z.1 y.1=true:=by
       intro y hy z hz hne
       obtain⟨a,Mi,ci,e,g1,g2,g3,_⟩:=q.ent hy
       obtain⟨a',Mi',ci',e',g1',g2',g3',_⟩:=q.ent hz
       refine vn (E0:=fun k=>(C2 P k).getD 0) _ _ ?_
       show(C2 P y.1).getD 0≠(C2 P z.1).getD 0
       rw [g3,g3']
       intro f
       simp only [Option.getD_some]at f
       subst f
       exact hne (vd g3 g3')
     have hB: ∀h1,Kp (fun j=>j=h.n) hh h1→ ∀y∈M,∀z∈M,∀h2,K0 h1 h2→Ct P0 E F K 167 (Hz y.1::Hz z.1:: [.ptr (h.n+2) 0]) h2 fun v h'=>v= .bool (Pp P y.1 z.1)∧K0 h2 h':=by
       intro h1 k1 y hy z hz h2 k2
       obtain⟨a,Mi,ci,e,g1,g2,g3,_⟩:=q.ent hy
       obtain⟨a',Mi',ci',e',g1',g2',g3',_⟩:=q.ent hz
       have kk:Kp (fun j=>j=h.n) hh h2:=k1.trans (k2.mono fun _ f=>f.elim)
       refine(Agx L X (Aq kk (by omega) i3) (Me kk (by omega) i2) g2 g2').mono fun v h' p=>?_
       have:Pp P y.1 z.1=(decide (z.1.2.1<y.1.2.1) || (decide (y.1.2.1=z.1.2.1) && decide (e<e'))):=by
         unfold Pp;simp only [g3,g3',Option.getD_some]
       rw [this];exact p
     have hW2: ∀h1,Kp (fun j=>j=h.n) hh h1→ ∀y∈M,∀h2,K0 h1 h2→Ct P0 E F K 168 (Hz y.1::y.2.1:: []) h2 fun v h'=>v= .bool (D3 P 3 none y.1)∧K0 h2 h':=by
       intro h1 k1 y hy h2 k2
       obtain⟨a,Mi,ci,e,g1,g2,g3,g4,g5,g6,g7⟩:=q.ent hy
       have kk:Kp (fun j=>j=h.n) hh h2:=k1.trans (k2.mono fun _ f=>f.elim)
       rw [g1,show D3 P 3 none y.1=(decide (y.1.1=3) && full P y.1) from Bool.and_true _,←vh hjP g5 g7]
       exact Agv L X (Me kk (by omega) g4)
     refine cal ?_ (c:=Lv L X (W:=D3 P 3 none) (B:=Pp P) (capw:= []) (capb:= [.ptr (h.n+2) 0]) q.ok (by exact lkq) hv (hW2 _ (by exact kps)) (hB _ (by exact kps)) (Vk (E0:=fun k=>(C2 P k).getD 0)) tot)
     rintro _ h3 ⟨out,is,rfl,w1,w2⟩
     have b1:=R0 q w1
     have hW3: ∀h1 lst u w,Kp (fun j=>j=h.n) hh h1→Bk h1 h.n [u,UN lst,w]→ ∀y∈M,∀h2,K0 h1 h2→Ct P0 E F K 169 (Hz y.1::y.2.1:: [.ptr h.n 0]) h2 fun v h'=>v= .bool (D3 P 2 (some lst) y.1)∧K0 h2 h':=by
       intro h1 lst u w k1 kc y hy h2 k2
       obtain⟨a,Mi,ci,e,g1,g2,g3,g4,g5,g6,g7⟩:=q.ent hy
       have kk:Kp (fun j=>j=h.n) hh h2:=k1.trans (k2.mono fun _ f=>f.elim)
       rw [g1,show D3 P 2 (some lst) y.1=(decide (y.1.1=2) && full P y.1 && decide (y.1.2.2.1=lst)) from rfl,←vh hjP g5 g7]
       exact Agw L X (Me kk (by omega) g4) (Ag k2 kc)
     have n3:=w2.n
     simp only [Al]at n3
     have loop: ∀(h5:H) (b15:Nat) (is5:Bool) (o5:Rec) (lq:List (Nat×Option AV)),Kp (fun j=>j=h.n) hh h5→Bk h5 h.n [.nils,Zu,.nils]→hh.n≤b15→Bk h5 b15 [.int .u8 (o5.1:Int),UN o5.2.1,UN o5.2.2.1,AN o5.2.2.2]→StartP P (if is5=true then some o5 else none)→
         TSub (tms [(16,some (.bool is5)),(15,some (.ptr b15 0)),(14,some (.fn (.func 169) [] [.ptr h.n 0])),(12,some (.fn (.func 167) [] [.ptr (h.n+2) 0])),(3,some (.ptr (h.n+2) 0)),(2,some (.ptr h.n 0)),(0,some lv)]) (tms lq)→
         Good P0 E Q ⟨⟨111,cf111.ntmps,tms lq,[.code Aao,.inBlock 2,.code Aap,.inScope bo],[],.run,false,none⟩,x::cs,h5⟩:=by
       intro h5 b15 is5 o5 lq k5 c5 lb15 kb15 hst ht5
       have hs0:is5=true→isK P o5∧full P o5=true:=fun e=>by rw [if_pos e]at hst;exact Zd hst
       have l15:=kb15.lt
       refine je L (bd:=Aan) (α:= List Rec×Bool×Rec×AV×AV) (T:=fun s=> [(16,some (.bool s.2.1)),(15,some (.ptr b15 0)),(14,some (.fn (.func 169) [] [.ptr h.n 0])),(12,some (.fn (.func 167) [] [.ptr (h.n+2) 0])),(3,some (.ptr (h.n+2) 0)),(2,some (.ptr h.n 0)),(0,some lv)]) (mu:=fun s=>muF P s.2.1 s.2.2.1)
         (R:=fun s h6=>Kp (fun j=>j=h.n) hh h6∧ChR h6 hh.n b15 s.2.2.2.1 s.2.2.2.2 (chE P s.1) (nI (chU P s.1))∧Bk h6 h.n [s.2.2.2.1,UN (chL s.1),s.2.2.2.2]∧Bk h6 b15 (Agz s.2.2.1)∧
           (∀tl,RunP P (if s.2.1=true then some s.2.2.1 else none) tl→RunP P (if is5=true then some o5 else none) (s.1++tl))∧(s.2.1=true→isK P s.2.2.1∧full P s.2.2.1=true)∧s.1.length+muF P s.2.1 s.2.2.1≤P.length∧ ∀k∈s.1,full P k=true)
         ([],is5,o5,.nils,.nils) ht5 ⟨k5,⟨.inl ⟨rfl,rfl⟩,.inl ⟨rfl,rfl⟩,fun _ _ _ _ _ _ e=>by cases e⟩,c5,kb15,fun _ q=>q,hs0,(by simpa using Agq P is5 o5),fun k hk=>by cases hk⟩ ?_
       rintro⟨ks,is,o,v1,v2⟩ h6 ⟨j1,j2,j3,j4,j5,j6,j7,j8⟩ ih
       simp only at j2 j3 j4 j5 j6 j7 j8 ih
       have l6:=j1.n
       have l7:=j4.lt
       cases is with
       |false=>
         have hrun:=j5 [] .none
         rw [List.append_nil]at hrun
         obtain⟨g0,hg0⟩:=U.g
         have hul:(nI (chU P ks)).length<100000:=by
           have h1:=P5 ks j8
           have h2:ks.length*P.length≤100*100:=Nat.mul_le_mul (by omega) (by omega)
           unfold nI;rw [List.length_map];omega
         have hbE:(chE P ks).length≤1000000∧(chU P ks).length≤1000000:=by
           have h1:=P5 ks j8
           have h2:ks.length*P.length≤100*100:=Nat.mul_le_mul (by omega) (by omega)
           have h3:=M3 heP (chU P ks)
           rw [←Xd]at h3
           omega
         have fin: ∀(h9:H) (v2':AV),RowN h9 h.n v2' (Dc (nI (chU P ks)))→EL h9 h.n v1 (chE P ks)→K0 h h9→ ∃o ks_1 v1_1 v2_1,(AV.agg [v1,UN (chL ks),v2'])= .agg [v1_1,UN (chL ks_1),v2_1]∧StartP P o∧RunP P o ks_1∧EL h9 h.n v1_1 (chE P ks_1)∧RowN h9 h.n v2_1 (Dc (nI (chU P ks_1)))∧((chE P ks_1).length≤1000000∧(chU P ks_1).length≤1000000)∧K0 h h9:=
           fun h9 v2' q1 q2 q3=>⟨_,ks,v1,v2',rfl,hst,hrun,q2,q1,hbE,q3⟩
         have hdd:=j2.d
         have hE:EL h6 h.n v1 (chE P ks):=by
           rcases j2.e with⟨f1,f2⟩|⟨f1,b1,f2,f3,f4,f5⟩
           · exact⟨.inl ⟨f1,f2⟩⟩
           · exact⟨.inr ⟨List.length_pos_iff.1 f1,b1,f2,f3,by omega⟩⟩
         rcases j2.e with⟨f1,rfl⟩|⟨f1,b1,rfl,f3,f4,f5⟩
         · rcases j2.u with⟨e1,rfl⟩|⟨e1,b,rfl,e3,e4,e5⟩
           · refine wk ?_
             refine To L rfl rfl rfl rfl hg0 (U.x0 _) ?_
             rintro _ _ ⟨rfl,rfl⟩
             refine ret X.f111.1 ?_
             exact fin _ _ ⟨.inl ⟨by rw [e1];exact List.mergeSort_nil,rfl⟩⟩ ⟨.inl ⟨f1,rfl⟩⟩ (by exact kps)
           · refine wk ?_
             refine To L rfl rfl rfl rfl hg0 (U.x _ _ (nI (chU P ks)) (by exact lkp) e1 hul) ?_
             rintro _ h7 ⟨rfl,w6,w7⟩
             refine ret X.f111.1 ?_
             exact fin _ _ ⟨.inr ⟨by rw [Dk];exact e1,b,by rw [Dk],by exact lkp,by omega⟩⟩ ⟨.inl ⟨f1,rfl⟩⟩ (by exact kps)
         · rcases j2.u with⟨e1,rfl⟩|⟨e1,b,rfl,e3,e4,e5⟩
           · refine wk ?_
             refine To L rfl rfl rfl rfl hg0 (U.x0 _) ?_
             rintro _ _ ⟨rfl,rfl⟩
             refine ret X.f111.1 ?_
             exact fin _ _ ⟨.inl ⟨by rw [e1];exact List.mergeSort_nil,rfl⟩⟩ ⟨.inr ⟨List.length_pos_iff.1 f1,b1,rfl,by exact lkp,by omega⟩⟩ (by exact kps)
           · have hbb:=hdd _ _ _ _ _ _ rfl rfl
             refine wk ?_
             refine To L rfl rfl rfl rfl hg0 (U.x _ _ (nI (chU P ks)) (by exact lkp) e1 hul) ?_
             rintro _ h7 ⟨rfl,w6,w7⟩
             refine ret X.f111.1 ?_
             exact fin _ _ ⟨.inr ⟨by rw [Dk];exact e1,b,by rw [Dk],by exact lkp,by omega⟩⟩ ⟨.inr ⟨List.length_pos_iff.1 f1,b1,rfl,by exact lkp,by omega⟩⟩ (by exact kps)
       |true=>
         obtain⟨hk,hf⟩:=j6 rfl
         have hok:=Vj hjP hk
         have hlast:=Aa9 hjP hk hf hsP
         have hfl:=Xc hf
         obtain⟨e0,he0⟩:=Option.isSome_iff_exists.1 (show(C2 P o).isSome=true from hk)
         obtain⟨a,Mi,ci,hg,ka,oi,la,hfm⟩:=q.at_ o e0 he0
         have lka:=ka.lt
         have i2lt:=i2.lt
         have bU:=P5 ks j8
         have bU2:ks.length*P.length≤100*100:=Nat.mul_le_mul (by omega) (by omega)
         refine wk ?_
         refine Bs L (α:= AV×AV) (T:=fun i s=> [(89,some (AN i)),(88,some (AN o.2.2.2)),(15,some (.ptr b15 0)),(14,some (.fn (.func 169) [] [.ptr h.n 0])),(12,some (.fn (.func 167) [] [.ptr (h.n+2) 0])),(3,some (.ptr (h.n+2) 0)),(2,some (.ptr h.n 0)),(0,some lv)]) (n:=o.2.2.2)
           (R:=fun i s h7=>Kp (fun j=>j=h.n) hh h7∧ChR h7 hh.n b15 s.1 s.2 (chE P ks++((Cp P o).take i).flatMap (Fz P)) (nI (chU P ks++(Cp P o).take i))∧Bk h7 h.n [s.1,UN (chL ks),s.2]∧Bk h7 b15 (Agz o)) (i0:=0) (v1,v2) tsb ⟨j1,by simp only [List.take_zero,List.flatMap_nil,List.append_nil];exact j2,j3,j4⟩ (Nat.zero_le _) ?_ ?_
         · rintro i ⟨v1,v2⟩ h7 hi ⟨t1,t2,t3,t4⟩ ih2
           simp only at t2 t3
           have n7:=t1.n
           have lt4:=t4.lt
           obtain⟨jj,hj1,hj2⟩:=Km hf hi
           have hjl:=cr hj1
           have hjl2:jj<l.length:=by omega
           obtain⟨lb,rfl,kl⟩:=hsl hjl2
           have l3:=kl.lt
           have hx:l[jj]?=some l[jj]:=List.getElem?_eq_getElem hjl2
           have hm:=List.getElem_mem hjl2
           have hel:=hl0 _ hm
           have hes1:=hes _ hm
           have hdt:=B4 l (Kk l) jj _ hx
           have ee:=hgetP jj _ hx
           generalize l[jj]=y at*
           obtain⟨⟨s,es⟩,v⟩:=y
           simp only at hel ee hes1
           have e1:(Cp P o).take (i+1)=(Cp P o).take i++ [jj]:=by rw [List.take_add_one,hj2];rfl
           have e2:chE P ks++((Cp P o).take (i+1)).flatMap (Fz P)=(chE P ks++((Cp P o).take i).flatMap (Fz P))++es:=by rw [e1,List.flatMap_append,←List.append_assoc];simp [ee]
           have e3:nI (chU P ks++(Cp P o).take (i+1))=nI (chU P ks++(Cp P o).take i)++ [(jj:Int)]:=by rw [e1];simp [nI]
           have bE:(chE P ks++((Cp P o).take i).flatMap (Fz P)).length≤2000000:=by
             have h1:=M3 heP ((Cp P o).take i)
             have h2:=M3 heP (chU P ks)
             rw [←Xd]at h2
             have h3:((Cp P o).take i).length≤100:=by rw [List.length_take];omega
             rw [List.length_append]
             omega
           have bU3:(nI (chU P ks++(Cp P o).take i)).length≤20000:=by
             unfold nI
             rw [List.length_map,List.length_append,List.length_take];omega
           have ih3:=fun(v1' v2':AV) (h':H) (l':List (Nat×Option AV)) (a1:Kp (fun j=>j=h.n) hh h') (a2:ChR h' hh.n b15 v1' v2' ((chE P ks++((Cp P o).take i).flatMap (Fz P))++es) (nI (chU P ks++(Cp P o).take i)++ [(jj:Int)])) (a3:Bk h' h.n [v1',UN (chL ks),v2']) (a4:Bk h' b15 (Agz o))
             (t:TSub (tms [(89,some (AN (i+1))),(88,some (AN o.2.2.2)),(15,some (.ptr b15 0)),(14,some (.fn (.func 169) [] [.ptr h.n 0])),(12,some (.fn (.func 167) [] [.ptr (h.n+2) 0])),(3,some (.ptr (h.n+2) 0)),(2,some (.ptr h.n 0)),(0,some (.slc lb 0 l.length (Aa+7)))]) (tms l'))=>
             ih2 (v1',v2') h' l' ⟨a1,by rw [e2,e3];exact a2,a3,a4⟩ t
           clear ih2
           generalize chE P ks++((Cp P o).take i).flatMap (Fz P)=ES at*
           generalize nI (chU P ks++(Cp P o).take i)=US at*
           have hv6:(l.flatMap jpC)[jj*7+6]?=some v:=by
             have:=congrArg (fun r=>r[6]?) hdt.2
             simp only [List.getElem?_take_of_lt (show 6<7 by omega),List.getElem?_drop]at this
             exact this
           have kl8:Bk h7 lb (l.flatMap jpC):=Aq t1 (by omega) (Ag i6 kl)
           have ka8:=Me t1 (by omega) ka
           (try refine Bn L 1000 rfl ?_);(repeat(first|(apply st1 L rfl;exact⟨Dy rfl⟩;rfl)|(apply st1 L rfl;exact Hw rfl rfl rfl;rfl)|(apply st1 L rfl;exact Ey rfl rfl (by omega);rfl)|(apply st1 L rfl;exact Cb rfl rfl (by omega);rfl)|(apply st1 L rfl;(apply C5 rfl;exact lkp;first|rfl|assumption);rfl)))
           (apply st1 L rfl;exact(by apply G9 rfl;exact lkp;rfl);rfl)
           (apply st1 L rfl;exact Db (k:=o) KE.recd rfl rfl lkq;rfl)
           rw [hg]
           (try rw [Option.getD_some])
           (try refine Bn L 1000 rfl ?_);(repeat(first|(apply st1 L rfl;exact⟨Dy rfl⟩;rfl)|(apply st1 L rfl;exact Hw rfl rfl rfl;rfl)|(apply st1 L rfl;exact Ey rfl rfl (by omega);rfl)|(apply st1 L rfl;exact Cb rfl rfl (by omega);rfl)|(apply st1 L rfl;(apply C5 rfl;exact lkp;first|rfl|assumption);rfl)))
           (apply st1 L rfl;exact Db (KE.int .i64) (M:=Mi) (k:=(i:Int)) rfl rfl lkq;rfl)
           rw [hfm,hj1]
           (try rw [Option.map_some,Option.getD_some])
           have lk3:=t3.lt
           rcases hel.len with⟨rfl,rfl⟩|⟨g1,eb,rfl,g3,g4⟩
           · rw [List.append_nil]at ih3
             rcases t2.e with⟨rfl,rfl⟩|⟨m1,b1,rfl,m3,m4,m5⟩
             · rcases t2.u with⟨rfl,rfl⟩|⟨u1,b2,rfl,u3,u4,u5⟩
               · refine wk ?_
                 (apply st1 L rfl;exact Dr (new:= [AN jj]) rfl rfl (Hk lkp) (by omega) (by omega);rfl)
                 refine wk ?_
                 refine ih3 _ _ _ _ (by exact kps) ?_ (by exact lkp) (by exact lkp) tsb
                 exact⟨.inl ⟨rfl,rfl⟩,.inr ⟨by simp,_,rfl,(by exact lkp),(by omega),(by omega)⟩,fun _ _ _ _ _ _ p1 p2=>by cases p1⟩
               · have lu:=u3.lt
                 refine wk ?_
                 (apply st1 L rfl;exact Dq (old:=US.map AI) (new:= [AN jj]) rfl rfl (cu lkp) (Hk lkp) (by omega) (by omega) rfl;rfl)
                 refine wk ?_
                 refine ih3 _ _ _ _ (by exact kps) ?_ (by exact lkp) (by exact lkp) tsb
                 exact⟨.inl ⟨rfl,rfl⟩,.inr ⟨by simp,_,(jx (by rw [List.length_append];rfl)),(by rw [List.map_append];exact lkp),(by omega),(by omega)⟩,fun _ _ _ _ _ _ p1 p2=>by cases p1⟩
             · rcases t2.u with⟨rfl,rfl⟩|⟨u1,b2,rfl,u3,u4,u5⟩
               · have lm:=m3.lt
                 refine wk ?_
                 (try(apply Hh L rfl rfl;exact ap0h rfl rfl))
                 refine wk ?_
                 (apply st1 L rfl;exact Dr (new:= [AN jj]) rfl rfl (Hk lkp) (by omega) (by omega);rfl)
                 refine wk ?_
                 refine ih3 _ _ _ _ (by exact kps) ?_ (by exact lkp) (by exact lkp) tsb
                 exact⟨.inr ⟨m1,b1,rfl,(by exact lkp),m4,m5⟩,.inr ⟨by simp,_,rfl,(by exact lkp),(by omega),(by omega)⟩,fun _ _ _ _ _ _ p1 p2=>by cases p1;cases p2;omega⟩
               · have lm:=m3.lt
                 have lu:=u3.lt
                 have hdd:=t2.d _ _ _ _ _ _ rfl rfl
                 refine wk ?_
                 (try(apply Hh L rfl rfl;exact ap0h rfl rfl))
                 refine wk ?_
                 (apply st1 L rfl;exact Dq (old:=US.map AI) (new:= [AN jj]) rfl rfl (cu lkp) (Hk lkp) (by omega) (by omega) rfl;rfl)
                 refine wk ?_
                 refine ih3 _ _ _ _ (by exact kps) ?_ (by exact lkp) (by exact lkp) tsb
                 exact⟨.inr ⟨m1,b1,rfl,(by exact lkp),m4,m5⟩,.inr ⟨by simp,_,(jx (by rw [List.length_append];rfl)),(by rw [List.map_append];exact lkp),(by omega),(by omega)⟩,fun _ _ _ _ _ _ p1 p2=>by cases p1;cases p2;omega⟩
           · have gk:Bk h7 eb (es.flatMap Az):=Aq t1 (by have:=g3.lt;omega) (Ag i6 g3)
             have gl:=g3.lt
             rcases t2.e with⟨rfl,rfl⟩|⟨m1,b1,rfl,m3,m4,m5⟩
             · rcases t2.u with⟨rfl,rfl⟩|⟨u1,b2,rfl,u3,u4,u5⟩
               · refine wk ?_
                 (apply Hh L rfl rfl;exact Dr (new:=es.flatMap Az) rfl rfl (T0 lkp) g1 (by omega))
                 refine wk ?_
                 (apply st1 L rfl;exact Dr (new:= [AN jj]) rfl rfl (Hk lkp) (by omega) (by omega);rfl)
                 refine wk ?_
                 refine ih3 _ _ _ _ (by exact kps) ?_ (by exact lkp) (by exact lkp) tsb
                 exact⟨.inr ⟨g1,_,rfl,(by exact lkp),(by omega),(by omega)⟩,.inr ⟨by simp,_,rfl,(by exact lkp),(by omega),(by omega)⟩,fun _ _ _ _ _ _ p1 p2=>by cases p1;cases p2;omega⟩
               · have lu:=u3.lt
                 refine wk ?_
                 (apply Hh L rfl rfl;exact Dr (new:=es.flatMap Az) rfl rfl (T0 lkp) g1 (by omega))
                 refine wk ?_
                 (apply st1 L rfl;exact Dq (old:=US.map AI) (new:= [AN jj]) rfl rfl (cu lkp) (Hk lkp) (by omega) (by omega) rfl;rfl)
                 refine wk ?_
                 refine ih3 _ _ _ _ (by exact kps) ?_ (by exact lkp) (by exact lkp) tsb
                 exact⟨.inr ⟨g1,_,rfl,(by exact lkp),(by omega),(by omega)⟩,.inr ⟨by simp,_,(jx (by rw [List.length_append];rfl)),(by rw [List.map_append];exact lkp),(by omega),(by omega)⟩,fun _ _ _ _ _ _ p1 p2=>by cases p1;cases p2;omega⟩
             · rcases t2.u with⟨rfl,rfl⟩|⟨u1,b2,rfl,u3,u4,u5⟩
               · have lm:=m3.lt
                 refine wk ?_
                 (apply Hh L rfl rfl;exact Dq (old:=ES.flatMap Az) (new:=es.flatMap Az) rfl rfl (T0 lkp) (T0 lkp) g1 (by omega) (Lu _))
                 refine wk ?_
                 (apply st1 L rfl;exact Dr (new:= [AN jj]) rfl rfl (Hk lkp) (by omega) (by omega);rfl)
                 refine wk ?_
                 refine ih3 _ _ _ _ (by exact kps) ?_ (by exact lkp) (by exact lkp) tsb
                 exact⟨.inr ⟨(by rw [List.length_append];omega),_,(jx List.length_append.symm),(by rw [List.flatMap_append];exact lkp),(by omega),(by omega)⟩,.inr ⟨by simp,_,rfl,(by exact lkp),(by omega),(by omega)⟩,fun _ _ _ _ _ _ p1 p2=>by cases p1;cases p2;omega⟩
               · have lm:=m3.lt
                 have lu:=u3.lt
                 have hdd:=t2.d _ _ _ _ _ _ rfl rfl
                 refine wk ?_
                 (apply Hh L rfl rfl;exact Dq (old:=ES.flatMap Az) (new:=es.flatMap Az) rfl rfl (T0 lkp) (T0 lkp) g1 (by omega) (Lu _))
                 refine wk ?_
                 (apply st1 L rfl;exact Dq (old:=US.map AI) (new:= [AN jj]) rfl rfl (cu lkp) (Hk lkp) (by omega) (by omega) rfl;rfl)
                 refine wk ?_
                 refine ih3 _ _ _ _ (by exact kps) ?_ (by exact lkp) (by exact lkp) tsb
                 exact⟨.inr ⟨(by rw [List.length_append];omega),_,(jx List.length_append.symm),(by rw [List.flatMap_append];exact lkp),(by omega),(by omega)⟩,.inr ⟨by simp,_,(jx (by rw [List.length_append];rfl)),(by rw [List.map_append];exact lkp),(by omega),(by omega)⟩,fun _ _ _ _ _ _ p1 p2=>by cases p1;cases p2;omega⟩
         · rintro⟨v1,v2⟩ h7 ⟨t1,t2,t3,t4⟩
           simp only at t2 t3
           have htk:(Cp P o).take o.2.2.2=Cp P o:=by rw [←Kl P o,List.take_length]
           rw [htk]at t2
           have n7:=t1.n
           have lt4:=t4.lt
           refine wk ?_
           (apply st1 L rfl;exact vm rfl rfl rfl (by simp only [pw];omega);rfl)
           refine wk ?_
           (apply st1 L rfl;exact N4 rfl rfl rfl (by omega) (by simp only [pw];omega);rfl)
           refine cal ?_ (c:=Lv L X (W:=D3 P 2 (some (Fp o))) (B:=Pp P) (capw:= [.ptr h.n 0]) (capb:= [.ptr (h.n+2) 0]) q.ok (by exact lkq) hv (hW3 _ (Fp o) v1 v2 (by exact kps) (by exact lkp)) (hB _ (by exact kps)) (Vk (E0:=fun k=>(C2 P k).getD 0)) tot)
           rintro _ h8 ⟨out,is',rfl,w3,w4⟩
           have b2:=R0 q w3
           have n8:=w4.n
           simp only [Al]at n8
           have hmu:=Agr hjP hk b2
           refine wk ?_
           refine ih (ks++ [o],is',out,v1,v2) _ _ hmu ⟨by exact kps,?_,?_,by exact lkp,fun tl r=>?_,fun e=>?_,?_,fun k hk2=>?_⟩ tsb
           · simp only [vi,vj]
             exact t2.kp (S:=fun j=>j=h.n∨j=b15) (by exact kps) (fun b hb hn=>by omega)
           · simp only [vk];exact lkp
           · simp only
             rw [List.append_assoc];exact j5 (o::tl) (by rw [if_pos rfl];exact .some b2 r)
           · simp only at e
             rw [if_pos e]at b2;exact N9 b2
           · simp only [List.length_append,List.length_cons,List.length_nil];omega
           · rcases List.mem_append.1 hk2 with e|e
             · exact j8 _ e
             · rw [List.mem_singleton.1 e];exact hf
     cases is with
     |true=>
       refine wk ?_
       exact loop _ h3.n true out _ (by exact kps) (by exact lkp) (by omega) (by exact lkp) ⟨_,b1,rfl⟩ (by exact tsb)
     |false=>
       refine cal ?_ (c:=Lv L X (W:=D3 P 2 (some 0)) (B:=Pp P) (capw:= [.ptr h.n 0]) (capb:= [.ptr (h.n+2) 0]) q.ok (by exact lkq) hv (hW3 _ 0 .nils .nils (by exact kps) (by exact lkp)) (hB _ (by exact kps)) (Vk (E0:=fun k=>(C2 P k).getD 0)) tot)
       rintro _ h4 ⟨out2,is2,rfl,w3,w4⟩
       have b2:=R0 q w3
       refine wk ?_
       exact loop _ h3.n is2 out2 _ (by exact kps) (by exact lkp) (by omega) (by exact lkp) ⟨_,b1,b2⟩ (by exact tsb)
 rcases hlv with⟨rfl,rfl⟩|⟨lb,rfl,kl⟩
 all_goals
  refine wk ?_;exact main _ _ (by exact lkq) (by exact lkp) (by exact lkp) (Nat.le_refl _) (by exact kps) (by exact tsb)
