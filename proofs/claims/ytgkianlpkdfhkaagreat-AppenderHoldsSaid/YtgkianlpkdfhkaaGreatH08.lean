/- Part of the proof. -/
import Derived.Test.YtgkianlpkdfhkaaGreatH04
import Derived.Test.YtgkianlpkdfhkaaGreatH05
import Derived.Test.YtgkianlpkdfhkaaGreatH07
set_option linter.unusedVariables false
set_option linter.unusedSectionVars false
set_option linter.unusedSimpArgs false
set_option maxRecDepth 10000
set_option maxHeartbeats 4000000
namespace Go.Ev
variable {at_ b b4 b5 c' cb e m nt o r rb sb:Nat}{data ex:List Nat}{h:H}{i:Int}{post:AV→H→Prop}{todo:List AItem}{x0 x1 x2 x3 x4 x5 y0:AV}{z:AFr}
section
variable {P0:Program}{E:Env}{F:T CFn}{K:T (List AV×AV)}(L:Lg P0 E F K)(X:Fx F K)
include L X
theorem Mz {n c:Nat}{bs:List Nat}(k:BS h b o bs)(e:bs.length=n)(h1:0<n∧n<1000): Ct P0 E F K 66 [.slc b o n c] h fun v h'=> ∃r cb,v= .ptr r 0∧Bk h' r [.slc cb 0 n (Aa+1),Zi]∧BS h' cb 0 bs∧h.n≤cb∧h.n≤r∧cb≠r∧K0 h h':=by refine Am L X.f66 fun Q x cs G=>?_;refine cal ?_ (c:=Mo L X lkb e h1);rintro _ h2 ⟨cb,rfl,w1,w2,w3⟩;have n2:=w3.n;have l2:=w1.lt_n;simp only [Aj]at w2 n2;refine ret X.f66.1 ?_;exact⟨h2.n,cb,rfl,lkp,lkb,by omega,by omega,by omega,kps⟩
theorem M0:Ct P0 E F K 115 [.ptr r 0] h fun v h'=>v= .ptr r 0∧h'=h:=by refine Am L X.f115 fun Q x cs G=>?_;refine ret X.f115.1 ?_;exact⟨rfl,rfl⟩
theorem Xo {n:Nat}(k:Bk h r [.slc cb o n (Aa+1),AN at_])(hm:m≤n)(hn:n<1000)(ha:at_<1000): Ct P0 E F K 116 [.ptr r 0,AN m] h fun v h'=>v= .tup [.slc cb o m m,Zi]∧Bk h' r [.slc cb (o+m) (n - m) (Aa+1),AN (at_+m)]∧Kp (fun j=>j=r) h h':=by refine Ad L X.f116 fun Q x cs G=>?_;refine wk ?_;(apply K8 L rfl rfl rfl rfl rfl rfl rfl;exact lkp;rfl;intro h9 hs9;(repeat(first|(apply A6 rfl rfl;exact opv)|(apply Ll rfl rfl)));(first|(apply p_0;exact chk)|(refine N1 L ?_ rfl ?_;exact chk));refine L7 L hs9 ?_);refine ret X.f116.1 ?_;exact⟨rfl,lkp,kps⟩
theorem eu {n c:Nat}{bs:List Nat}{a:Nat}(k:BS h b o ((bs.drop a).take n))(hl:a+n≤bs.length)(hn:1≤n∧n≤8): Ct P0 E F K 70 [.slc b o n c] h fun v h'=>v= .tup [UN (leF bs a n),Zi]∧h'=h:=by
 have hall:=k.all;have hkl:((bs.drop a).take n).length=n:=by rw [List.length_take,List.length_drop];omega
 have hgd: ∀i,i<n→((bs.drop a).take n).getD i 0=bs.getD (a+i) 0:=fun i hi=>by simp only [List.getD_eq_getElem?_getD];rw [List.getElem?_take_of_lt hi,List.getElem?_drop]
 have hlt: ∀i,i≤n→leF bs a i<256 ^ i:=by
  intro i;induction i with
  |zero=>intro _;simp [leF]
  |succ i ih=>intro hi;have h1:=ih (by omega);have h2:=Ey hall i;rw [hgd i (by omega)]at h2;rw [Mj,Nat.pow_succ];have:bs.getD (a+i) 0*256 ^ i≤255*256 ^ i:=Nat.mul_le_mul_right _ (by omega);omega
 refine Am L X.f70 fun Q x cs G=>?_;refine wk ?_;refine B9 L (α:= Nat) (T:=fun i u=> [(16,some (AN i)),(15,some (AN n)),(14,some (.slc b o n c)),(2,some (UN u))]) (n:=n) (R:=fun i u h1=>h1=h∧u=leF bs a i) (i0:=0) 0 tsb ⟨rfl,rfl⟩ (Nat.zero_le _) ?_ ?_
 ·rintro i u h1 hi ⟨rfl,w1⟩ ih;have h1':=hlt i (by omega);rw [←w1]at h1';have hb:=Ey hall i;rw [hgd i hi]at hb;have hlt2:=hlt (i+1) (by omega);rw [Mj,←w1]at hlt2;have hp:256 ^ (i+1)≤256 ^ 8:=Nat.pow_le_pow_right (by omega) (by omega);have hp2:(256:Nat) ^ 8=18446744073709551616:=by decide
  have hpe:2 ^ (8*i)=256 ^ i:=(Vg i).symm;refine wk ?_;(apply st1 L rfl;exact Vd k rfl (by omega);rfl);rw [hgd i hi];refine wk ?_;(apply st1 L rfl;exact Ajp (s:=8*i) rfl rfl rfl (by show 8*i≤64;omega);rfl);rw [hpe,show(bs.getD (a+i) 0*256 ^ i) % pw .u64=bs.getD (a+i) 0*256 ^ i from Nat.mod_eq_of_lt (by simp only [pw];omega)];have hor:u ||| bs.getD (a+i) 0*256 ^ i=u+bs.getD (a+i) 0*256 ^ i:=by have:=Nat.shiftLeft_add_eq_or_of_lt (i:=8*i) (show u<2 ^ (8*i) by rw [hpe];exact h1') (bs.getD (a+i) 0);rw [Nat.shiftLeft_eq,hpe]at this;rw [Nat.or_comm,←this,Nat.add_comm]
  refine wk ?_;(apply st1 L rfl;exact Amj rfl rfl rfl (by simp only [pw];omega) (by simp only [pw];omega) (by rw [hor];simp only [pw];omega);rfl);rw [hor];refine wk ?_;refine ih _ _ _ ⟨rfl,?_⟩ tsb;rw [Mj,←w1]
 ·rintro u h1 ⟨rfl,w1⟩;refine ret X.f70.1 ?_;rw [w1];exact⟨rfl,rfl⟩
theorem xf {n a:Nat}{bs:List Nat}(k:Bk h r [.slc cb o n (Aa+1),AN at_])(kb:BS h cb o ((bs.drop a).take m))(hl:a+m≤bs.length)(hm:m≤n)(hm1:1≤m∧m≤8)(hn:n<1000)(ha:at_<1000)(hne:cb≠r): Ct P0 E F K 154 [.ptr r 0,AN m] h fun v h'=> ∃b,v= .tup [.slc b 0 1 1,Zi]∧Bk h' b [UN (leF bs a m)]∧h.n≤b∧Bk h' r [.slc cb (o+m) (n - m) (Aa+1),AN (at_+m)]∧Kp (fun j=>j=r) h h':=by have l1:=k.lt;refine Ad L X.f154 fun Q x cs G=>?_;refine cal ?_ (c:=Xo L X lkp hm hn ha);rintro _ h2 ⟨rfl,w1,w2⟩;have n2:=w2.n;simp only [Aj]at n2;refine cal ?_ (c:=eu L X lkb hl hm1);rintro _ rfl;refine ret X.f154.1 ?_;exact⟨h2.n,rfl,lkp,by omega,lkp,kps⟩
theorem xg {n a:Nat}{bs:List Nat}(ks:Bk h sb [AN m])(k:Bk h r [.slc cb o n (Aa+1),AN at_])(kb:BS h cb o ((bs.drop a).take m))(hl:a+m≤bs.length)(hm:m≤n)(hm1:1≤m∧m≤8)(hn:n<1000)(ha:at_<1000)(hne:cb≠r): Ct P0 E F K 153 [.slc sb 0 1 1,.fn (.func 154) [.ptr r 0] []] h fun v h'=> ∃b,v= .tup [.slc b 0 1 (Aa+1),Zi]∧Bk h' b [UN (leF bs a m)]∧h.n≤b∧Bk h' r [.slc cb (o+m) (n - m) (Aa+1),AN (at_+m)]∧Kp (fun j=>j=r) h h':=by have l1:=k.lt;refine Ad L X.f153 fun Q x cs G=>?_;refine wk ?_;refine A5 L ?_;refine wk ?_;refine Mg L rfl rfl rfl rfl rfl (Ct.A (xf L X (bs:=bs) (a:=a) k (by exact kb) hl hm hm1 hn ha hne)) ?_;rintro _ h2 ⟨b,rfl,w1,w2,w3,w4⟩;have n2:=w4.n;have l3:=w3.lt;have l4:=w1.lt;refine wk ?_;(apply st1 L rfl;exact D6 (n2:=1) (new:= [UN (leF bs a m)]) rfl rfl (SlR.of (c:= [UN (leF bs a m)]) lkp (Nat.le_refl _) rfl) (by omega) (by omega);rfl);refine wk ?_;refine Bz L ?_;refine ret X.f153.1 ?_;exact⟨h2.n,rfl,lkp,by omega,lkp,kps⟩
theorem m6 {n a:Nat}{bs:List Nat}(ks:Bk h sb [AN m])(k:Bk h r [.slc cb o n (Aa+1),AN at_])(kb:BS h cb o ((bs.drop a).take m))(hl:a+m≤bs.length)(hm:m≤n)(hm1:1≤m∧m≤8)(hn:n<1000)(ha:at_<1000)(hne:cb≠r): Ct P0 E F K 112 [.ptr r 0,.slc sb 0 1 1] h fun v h'=> ∃b,v= .tup [.slc b 0 1 (Aa+1),Zi]∧Bk h' b [UN (leF bs a m)]∧h.n≤b∧Bk h' r [.slc cb (o+m) (n - m) (Aa+1),AN (at_+m)]∧Kp (fun j=>j=r) h h':=by have l1:=k.lt;have l2:=ks.lt;have l3:=kb.lt_n;refine Ad L X.f112 fun Q x cs G=>?_;refine cal ?_ (c:=M0 L X);rintro _ rfl;refine cal ?_ (c:=xg L X (a:=a) (bs:=bs) (at_:=at_) (n:=n) lkp lkp lkb hl hm hm1 hn ha (by omega));rintro _ h2 ⟨b,rfl,w1,w2,w3,w4⟩;have n2:=w4.n;have l4:=w1.lt;have l5:=w3.lt;simp only [Aj]at n2 w2;refine ret X.f112.1 ?_;exact⟨b,rfl,lkp,by omega,lkp,kps⟩
theorem Ls {n a:Nat}{bs:List Nat}(k:Bk h r [.slc cb o n (Aa+1),AN at_])(kb:BS h cb o ((bs.drop a).take m))(hl:a+m≤bs.length)(hm:m≤n)(hm1:1≤m∧m≤8)(hn:n<1000)(ha:at_<1000)(hne:cb≠r): Ct P0 E F K 68 [.ptr r 0,AN m] h fun v h'=>v= .tup [UN (leF bs a m),Zi]∧Bk h' r [.slc cb (o+m) (n - m) (Aa+1),AN (at_+m)]∧Kp (fun j=>j=r) h h':=by have l1:=k.lt;have l3:=kb.lt_n;refine Ad L X.f68 fun Q x cs G=>?_;refine cal ?_ (c:=m6 L X (a:=a) (bs:=bs) (at_:=at_) (n:=n) (cb:=cb) (o:=o) lkp lkp lkb hl hm hm1 hn ha hne);rintro _ h2 ⟨b,rfl,w1,w2,w3,w4⟩;have n2:=w4.n;have l4:=w1.lt;have l5:=w3.lt;simp only [Aj]at n2 w2;refine ret X.f68.1 ?_;exact⟨rfl,lkp,kps⟩
theorem xh {v0:AV}(k:Bk h r [v0,AN at_]):Ct P0 E F K 73 [.ptr r 0] h fun v h'=>v= AN at_∧h'=h:=by refine Am L X.f73 fun Q x cs G=>?_;refine cal ?_ (c:=M0 L X);rintro _ rfl;refine ret X.f73.1 ?_;exact⟨rfl,rfl⟩
theorem m7 {v:Nat}:Ct P0 E F K 118 [.int .u8 (v:Int)] h fun u h'=>u= .bool (decide (v≠0))∧h'=h:=by
 refine Am L X.f118 fun Q x cs G=>?_;refine wk ?_;by_cases hv:v=0;·refine ret X.f118.1 ?_;exact⟨by rw [decide_eq_false (by omega)];rfl,rfl⟩
 ·refine ret X.f118.1 ?_;exact⟨by rw [decide_eq_true (by omega)];rfl,rfl⟩
def zer (bs:List Nat)(a n:Nat):Bool:=(List.range n).all fun i=>decide (bs.getD (a+i) 0=0)
omit L X in
theorem Ach {bs:List Nat}{a n:Nat}(h: ∀i,i<n→bs.getD (a+i) 0=0):zer bs a n=true:=by unfold zer;rw [List.all_eq_true];intro i hi;exact decide_eq_true (h i (List.mem_range.1 hi))
omit L X in
theorem Ajx {bs:List Nat}{a n i:Nat}(hi:i<n)(h:bs.getD (a+i) 0≠0):zer bs a n=false:=by
 cases hz:zer bs a n with
 |false=>rfl
 |true=>unfold zer at hz;rw [List.all_eq_true]at hz;exact absurd (of_decide_eq_true (hz i (List.mem_range.2 hi))) h
theorem m8 {n c a:Nat}{bs:List Nat}(k:BS h b o ((bs.drop a).take n))(hl:a+n≤bs.length)(hn:n<1000): Ct P0 E F K 157 [.slc b o n c,.fn (.func 118) [] []] h fun v h'=>(∃i:Int,v= .int .i64 i∧(0≤i↔zer bs a n=false)∧ -1≤i∧i<1000)∧h'=h:=by
 have hkl:((bs.drop a).take n).length=n:=by rw [List.length_take,List.length_drop];omega
 have hgd: ∀i,i<n→((bs.drop a).take n).getD i 0=bs.getD (a+i) 0:=fun i hi=>by simp only [List.getD_eq_getElem?_getD];rw [List.getElem?_take_of_lt hi,List.getElem?_drop]
 refine Ad L X.f157 fun Q x cs G=>?_;refine wk ?_;refine B9 L (α:= Unit) (T:=fun i _=> [(8,some (AN i)),(7,some (AN n)),(0,some (.slc b o n c)),(1,some (.fn (.func 118) [] []))]) (n:=n) (R:=fun i _ h1=>h1=h∧ ∀j,j<i→bs.getD (a+j) 0=0) (i0:=0) () tsb ⟨rfl,fun j hj=>absurd hj (Nat.not_lt_zero j)⟩ (Nat.zero_le _) ?_ ?_
 ·rintro i _ h1 hi ⟨rfl,w1⟩ ih;refine wk ?_;(apply st1 L rfl;exact Vd k rfl (by omega);rfl);rw [hgd i hi];refine cal ?_ (c:=m7 L X);rintro _ rfl;by_cases hz:bs.getD (a+i) 0=0
  ·rw [decide_eq_false (show¬bs.getD (a+i) 0≠0 from fun q=>q hz)];refine wk ?_;refine ih () _ _ ⟨rfl,fun j hj=>?_⟩ tsb;by_cases e:j=i;·rw [e];exact hz
   ·exact w1 j (by omega)
  ·rw [decide_eq_true (show bs.getD (a+i) 0≠0 from hz)];refine ret X.f157.1 ?_;exact⟨⟨i,rfl,by rw [Ajx hi hz];simp,by omega,by omega⟩,rfl⟩
 ·rintro _ h1 ⟨rfl,w1⟩;refine ret X.f157.1 ?_;exact⟨⟨-1,rfl,by rw [Ach w1];simp,by omega,by omega⟩,rfl⟩
theorem Vp {n c a:Nat}{bs:List Nat}(k:BS h b o ((bs.drop a).take n))(hl:a+n≤bs.length)(hn:n<1000): Ct P0 E F K 117 [.slc b o n c,.fn (.func 118) [] []] h fun v h'=>v= .bool (!zer bs a n)∧h'=h:=by
 refine Ad L X.f117 fun Q x cs G=>?_;refine cal ?_ (c:=m8 L X (bs:=bs) (a:=a) lkb hl hn);rintro _ ⟨i,rfl,w1,w2,w3⟩
 cases hz:zer bs a n with
 |false=>have h0:=w1.2 hz;refine ret X.f117.1 ?_;exact⟨by rw [hz];rfl,rfl⟩
 |true=>
  have h0: ¬0≤i:=fun q=>by rw [w1.1 q]at hz;cases hz
  refine ret X.f117.1 ?_;exact⟨by rw [hz];rfl,rfl⟩
theorem Sb {n a:Nat}{bs:List Nat}(k:Bk h r [.slc cb o n (Aa+1),AN at_])(kb:BS h cb o ((bs.drop a).take m))(hl:a+m≤bs.length)(hm:m≤n)(hn:n<1000)(ha:at_<1000)(hne:cb≠r): Ct P0 E F K 72 [.ptr r 0,AN m] h fun v h'=>v= AN (if zer bs a m=true then 0 else 6)∧(zer bs a m=true→Bk h' r [.slc cb (o+m) (n - m) (Aa+1),AN (at_+m)])∧Kp (fun j=>j=r) h h':=by
 have l1:=k.lt;have l3:=kb.lt_n;refine Ad L X.f72 fun Q x cs G=>?_;refine cal ?_ (c:=M0 L X);rintro _ rfl;refine cal ?_ (c:=Xo L X (at_:=at_) (n:=n) (cb:=cb) (o:=o) lkp hm hn ha);rintro _ h2 ⟨rfl,w1,w2⟩;have n2:=w2.n;simp only [Aj]at n2;refine cal ?_ (c:=Vp L X (bs:=bs) (a:=a) lkb hl (by omega));rintro _ rfl
 cases hz:zer bs a m with
 |true=>refine ret X.f72.1 ?_;rw [if_pos hz];exact⟨rfl,fun _=>lkp,kps⟩
 |false=>
  refine ret X.f72.1 ?_;rw [if_neg (by rw [hz];simp)];refine⟨rfl,?_,kps⟩;intro q
  first|(cases q;done)|(rw [hz]at q;cases q)
theorem m9 {b1 o1 n1 c1 b2 o2:Nat}(T:Tb P0 E F K)(k1:BS h b1 o1 data)(k2:BS h b2 o2 ex)(e1:data.length=n1)(e2:ex.length=64)(h1:0<n1∧n1<1000): Ct P0 E F K 71 [.slc b1 o1 n1 c1,.slc b2 o2 64 (Aa+1)] h fun v h'=>v= UN (crcB (data++ex.take 60))∧K0 h h':=by
 have l1:=k1.lt_n;have l2:=k2.lt_n;have hcl:=P7 (data++ex.take 60);have e3:(ex.take 60).length=60:=by rw [List.length_take];omega
 refine Ad L X.f71 fun Q x cs G=>?_;refine cal ?_ (c:=Kq L X (bs1:=data) (bs2:=ex.take 60) lkp lkb (BS.part (a:=0) (k:=by exact lkb) (by omega)) e1 e3 h1 (by omega));rintro _ h2 ⟨b,rfl,w1,w2,w3⟩;have n2:=w3.n;have l3:=w1.lt_n;simp only [Aj]at n2 w2;refine cal ?_ (c:=vk L X T (bs:=data++ex.take 60) lkb (by rw [List.length_append];omega) (by omega));rintro _ h3 ⟨rfl,w4⟩;refine ret X.f71.1 ?_;exact⟨rfl,kps⟩
theorem E1 {e:Int}:Ct P0 E F K 65 [.bool true,.int .i64 e] h fun v h'=>v= .tup []∧h'=h:=by refine Ad L X.f65 fun Q x cs G=>?_;refine ret X.f65.1 ?_;exact⟨rfl,rfl⟩
theorem H3 {e:Int}:CtP P0 E F K 65 [.bool false,.int .i64 e] h fun v h'=>v= .ifc 44 (.int .i64 e)∧h'=h:=by refine Fh L X.f65 fun Q x cs G=>?_;refine wk ?_;refine Mh L rfl rfl ?_;refine Au L X.f65.1 ?_;exact G _ _ ⟨rfl,rfl⟩
theorem M3 {n a:Nat}{bs:List Nat}(kr:Bk h rb [.ptr r 0])(k:Bk h r [.slc cb o n (Aa+1),AN at_])(kb:BS h cb o ((bs.drop a).take m))(hall:AllB bs)(hl:a+m≤bs.length)(hm:m≤n)(hm1:1≤m∧m≤4)(hn:n<1000)(ha:at_<1000)(hne:cb≠r): Ct P0 E F K 67 [AN m,.ptr rb 0] h fun v h'=>v= AN (leF bs a m)∧Bk h' r [.slc cb (o+m) (n - m) (Aa+1),AN (at_+m)]∧Kp (fun j=>j=r) h h':=by have hlt:=G6 hall m a;have hp:256 ^ m≤256 ^ 4:=Nat.pow_le_pow_right (by omega) (by omega);have hlt2:leF bs a m<4294967296:=Nat.lt_of_lt_of_le hlt hp;clear hp hlt;refine Ad L X.f67 fun Q x cs G=>?_;refine cal ?_ (c:=Ls L X (a:=a) (bs:=bs) (at_:=at_) (n:=n) (cb:=cb) (o:=o) lkp lkb hl hm (by omega) hn ha hne);rintro _ h2 ⟨rfl,w1,w2⟩;refine cal ?_ (c:=E1 L X);rintro _ ⟨rfl⟩;refine ret X.f67.1 ?_;exact⟨rfl,lkp,kps⟩
theorem ez {n a:Nat}{bs:List Nat}(kr:Bk h rb [.ptr r 0])(k:Bk h r [.slc cb o n (Aa+1),AN at_])(kb:BS h cb o ((bs.drop a).take 8))(hl:a+8≤bs.length)(hm:8≤n)(hn:n<1000)(ha:at_<1000)(hne:cb≠r): Ct P0 E F K 69 [.ptr rb 0] h fun v h'=>v= UN (leF bs a 8)∧Bk h' r [.slc cb (o+8) (n - 8) (Aa+1),AN (at_+8)]∧Kp (fun j=>j=r) h h':=by refine Am L X.f69 fun Q x cs G=>?_;refine cal ?_ (c:=Ls L X (a:=a) (m:=8) (bs:=bs) (at_:=at_) (n:=n) (cb:=cb) (o:=o) lkp lkb hl hm (by omega) hn ha hne);rintro _ h2 ⟨rfl,w1,w2⟩;refine cal ?_ (c:=E1 L X);rintro _ ⟨rfl⟩;refine ret X.f69.1 ?_;exact⟨rfl,lkp,kps⟩
theorem Fd {Q:Nat→AV→Prop}{l:List (Nat×Option AV)}{cs:List AFr}{e:Int}(t4:look l 4=some (.ptr b4 0))(t5:look l 5=some (.ptr b5 0)) (k4:Bk h b4 [x0,x1,x2,x3,x4,x5]) (k5:Bk h b5 [y0]) (hne:b4≠b5) (hG: ∀v h',post v h'→GO P0 E Q (finish v cs h' z)) (hp1: ∀h',Kp (fun j=>j=b4∨j=b5) h h'→post (.tup [.agg (spC sp0),.int .i64 e]) h'): Good P0 E Q ⟨⟨24,nt,tms l,todo,[.call 64 [.ptr b4 0,.ptr b5 0]],.panicking [(.ifc 44 (.int .i64 e),false)],false,none⟩,z::cs,h⟩:=by have l4:=k4.lt;have l5:=k5.lt;refine Dr L (by intro q;cases q) X.f64.1 rfl rfl rfl ?_;refine Ln L rfl ?_;refine wk ?_;(apply K8 L rfl rfl rfl rfl rfl rfl rfl;exact lkp;rfl;intro h9 hs9;(repeat(first|(apply A6 rfl rfl;exact opv)|(apply Ll rfl rfl)));(first|(apply p_0;exact chk)|(refine N1 L ?_ rfl ?_;exact chk));refine L7 L hs9 ?_);refine wk ?_;refine Jz L X.f64.1 rfl ?_;refine Ei L X.f24.1 (Ma t4 (Bk.e lkp) rfl (Dj t5 (Bk.e lkp) rfl I8)) hG (hp1 _ kps)
theorem xj {Q:Nat→AV→Prop}{l:List (Nat×Option AV)}{cs:List AFr}(t4:look l 4=some (.ptr b4 0))(t5:look l 5=some (.ptr b5 0)) (k4:Bk h b4 [x0,x1,x2,x3,x4,x5]) (k5:Bk h b5 [y0]) (hG: ∀v h',post v h'→GO P0 E Q (finish v cs h' z)) (hp1:post (.tup [.agg [x0,x1,x2,x3,x4,x5],y0]) h): Good P0 E Q ⟨⟨24,nt,tms l,todo,[.call 64 [.ptr b4 0,.ptr b5 0]],.returning,false,none⟩,z::cs,h⟩:=by refine Dr L (by intro q;cases q) X.f64.1 rfl rfl rfl ?_;refine Fv L rfl ?_;refine wk ?_;(apply st1 L rfl;exact N0 (k:=true) rfl rfl;rfl);refine wk ?_;refine Jz L X.f64.1 rfl ?_;refine Ei L X.f24.1 (Ma t4 (Bk.e lkp) rfl (Dj t5 (Bk.e lkp) rfl I8)) hG hp1
def I0 (ex:List Nat):Sp:=⟨ex.getD 4 0,((leF ex 24 4:Nat):Int),leF ex 8 8,leF ex 16 8,((leF ex 28 4:Nat):Int),((leF ex 32 4:Nat):Int)⟩
def Vq (ex data:List Nat):Option Sp:=if leF ex 60 4=crcB (data++ex.take 60)∧(I0 ex).Valid∧ex.take 60=A7 (I0 ex)then some (I0 ex)else none
omit L X in
theorem Aa4 (h:AllB ex):(I0 ex).Ok:=⟨Ey h 4,G6 h 8 8,G6 h 8 16⟩
end
theorem Od (l:List Nat)(n:Nat)(h:n≤l.length):l.take n=(List.range n).map fun i=>l.getD i 0:=by
 apply List.ext_getElem?;intro i;by_cases hi:i<n;·rw [List.getElem?_take_of_lt hi,List.getElem?_map,List.getElem?_range hi,List.getElem?_eq_getElem (by omega)];simp [List.getD_eq_getElem?_getD,show i<l.length by omega]
 ·rw [List.getElem?_take_eq_none (by omega),List.getElem?_eq_none (by simp;omega)]
theorem K1 (l:List Nat)(a i:Nat):(l.drop a).getD i 0=l.getD (a+i) 0:=by simp only [List.getD_eq_getElem?_getD,List.getElem?_drop]
theorem Vr {bs:List Nat}{a n:Nat}:zer bs a n=true↔ ∀i,i<n→bs.getD (a+i) 0=0:=by
 constructor;·intro h i hi;unfold zer at h;rw [List.all_eq_true]at h;exact of_decide_eq_true (h i (List.mem_range.2 hi))
 ·exact Ach
theorem Dy (l:List Nat)(a m n:Nat):(l.drop a).take (m+n)=(l.drop a).take m++(l.drop (a+m)).take n:=by rw [List.take_add,List.drop_drop]
theorem na (ex:List Nat):ex.take 60=ex.take 8++(ex.drop 8).take 8++(ex.drop 16).take 8++(ex.drop 24).take 4++(ex.drop 28).take 4++(ex.drop 32).take 4++(ex.drop 36).take 24:=by have h0:ex.take 60=(ex.drop 0).take (8+52):=rfl;rw [h0,Dy,show(52:Nat)=8+44 from rfl,Dy,show(44:Nat)=8+36 from rfl,Dy,show(36:Nat)=4+32 from rfl,Dy,show(32:Nat)=4+28 from rfl,Dy,show(28:Nat)=4+24 from rfl,Dy];simp only [List.append_assoc,List.drop_zero,Nat.zero_add]
theorem Sc (ha:AllB ex)(hl:ex.length=64):ex.take 60=A7 (I0 ex)↔leF ex 0 4=1280591427∧zer ex 5 3=true∧zer ex 36 24=true:=by
 have u1:u64 (I0 ex).sec=leF ex 24 4:=Vf (Nat.lt_trans (G6 ha 4 24) (by decide));have u2:u64 (I0 ex).idx=leF ex 28 4:=Vf (Nat.lt_trans (G6 ha 4 28) (by decide));have u3:u64 (I0 ex).len=leF ex 32 4:=Vf (Nat.lt_trans (G6 ha 4 32) (by decide));have e1:(I0 ex).seq=leF ex 8 8:=rfl;have e2:(I0 ex).prev=leF ex 16 8:=rfl;have e3:(I0 ex).kind=ex.getD 4 0:=rfl;have key:ex.take 60=A7 (I0 ex)↔ex.take 8=mag (ex.getD 4 0)∧(ex.drop 36).take 24=List.replicate 24 0:=by
  unfold A7;rw [na,u1,u2,u3,e1,e2,e3,Gh ha 8 8 (by omega),Gh ha 8 16 (by omega),Gh ha 4 24 (by omega),Gh ha 4 28 (by omega),Gh ha 4 32 (by omega)];constructor;·intro h;obtain⟨q1,q2⟩:=List.append_inj h (by simp [mag];omega);obtain⟨q3,-⟩:=List.append_inj q1 (by simp [mag];omega);obtain⟨q4,-⟩:=List.append_inj q3 (by simp [mag];omega);obtain⟨q5,-⟩:=List.append_inj q4 (by simp [mag];omega);obtain⟨q6,-⟩:=List.append_inj q5 (by simp [mag];omega);obtain⟨q7,-⟩:=List.append_inj q6 (by simp [mag];omega);exact⟨q7,q2⟩
  ·rintro⟨h1,h2⟩;rw [h1,h2]
 rw [key];have b0:=Ey ha 0;have b1:=Ey ha 1;have b2:=Ey ha 2;have b3:=Ey ha 3;have hm:ex.take 8=mag (ex.getD 4 0)↔leF ex 0 4=1280591427∧zer ex 5 3=true:=by
  rw [Od ex 8 (by omega),Vr];show [ex.getD 0 0,ex.getD 1 0,ex.getD 2 0,ex.getD 3 0,ex.getD 4 0,ex.getD 5 0,ex.getD 6 0,ex.getD 7 0]= [67,70,84,76,ex.getD 4 0,0,0,0]↔ex.getD 0 0+256*(ex.getD 1 0+256*(ex.getD 2 0+256*(ex.getD 3 0+256*0)))=1280591427∧_;generalize ex.getD 0 0=x0 at*;generalize ex.getD 1 0=x1 at*;generalize ex.getD 2 0=x2 at*;generalize ex.getD 3 0=x3 at*;constructor
  ·intro h;simp only [List.cons.injEq,and_true,true_and]at h;obtain⟨h0,h1,h2,h3,h5,h6,h7⟩:=h;refine⟨by omega,fun i hi=>?_⟩;rcases i with _|_|_|i;·exact h5
   ·exact h6
   ·exact h7
   ·omega
  ·rintro⟨h1,h2⟩;have:=h2 0 (by omega);have:=h2 1 (by omega);have:=h2 2 (by omega);simp only [List.cons.injEq,and_true,true_and];refine⟨by omega,by omega,by omega,by omega,?_,?_,?_⟩ <;> assumption
 have hz:(ex.drop 36).take 24=List.replicate 24 0↔zer ex 36 24=true:=by
  rw [Od _ 24 (by rw [List.length_drop];omega),Vr];constructor;·intro h i hi;have:=congrArg (fun l=>l[i]?) h;simp only [List.getElem?_map,List.getElem?_range hi,List.getElem?_replicate_of_lt hi,Option.map_some,Option.some.injEq,K1]at this;exact this
  ·intro h;apply List.ext_getElem?;intro i;by_cases hi:i<24;·rw [List.getElem?_map,List.getElem?_range hi,List.getElem?_replicate_of_lt hi,Option.map_some,K1,h i hi]
   ·rw [List.getElem?_eq_none (by simp;omega),List.getElem?_eq_none (by simp;omega)]
 rw [hm,hz,and_assoc]
theorem nf (ha:AllB ex)(hl:ex.length=64)(h1:leF ex 60 4=crcB (data++ex.take 60))(h2:leF ex 0 4=1280591427)(h3:zer ex 5 3=true)(h4:zer ex 36 24=true)(h5:(I0 ex).Valid):Vq ex data=some (I0 ex):= if_pos ⟨h1,h5,(Sc ha hl).2 ⟨h2,h3,h4⟩⟩
theorem H4 (ha:AllB ex)(hl:ex.length=64)(h: ¬(leF ex 60 4=crcB (data++ex.take 60)∧leF ex 0 4=1280591427∧zer ex 5 3=true∧zer ex 36 24=true∧(I0 ex).Valid)):Vq ex data=none:= if_neg fun q=>h (let⟨a,b,c⟩:=(Sc ha hl).1 q.2.2;⟨q.1,a,b,c,q.2.1⟩)
def jN (b:List Nat):Nat:=leF b 0 4
def Lu (b:List Nat)(i:Nat):Ent:=(((leF b (4+8*i) 4:Nat):Int),((leF b (8+8*i) 4:Nat):Int) - 1)
def Ec (b:List Nat)(n:Nat):List Ent:=(List.range n).map (Lu b)
theorem Gq (b:List Nat)(n:Nat):(Ec b n).length=n:=by simp [Ec]
theorem Sd (b:List Nat)(n:Nat):Ec b (n+1)=Ec b n++ [Lu b n]:=by simp [Ec,List.range_succ]
def JOk (b:List Nat):Prop:=jN b≤(b.length - 4) / 8∧(∀e∈Ec b (jN b),e.Ok)∧zer b (4+8*jN b) (b.length - (4+8*jN b))=true
instance (b:List Nat):Decidable (JOk b):=by unfold JOk;infer_instance
def Vs (b:List Nat):Option (List Ent):=if JOk b then some (Ec b (jN b))else none
theorem Aa5 {b:List Nat}(ha:AllB b)(hn:4+8*jN b≤b.length)(hok: ∀e∈Ec b (jN b),e.Ok):Bv b.length (Ec b (jN b))=b↔zer b (4+8*jN b) (b.length - (4+8*jN b))=true:=by
 have h1:leb 4 (Ec b (jN b)).length=(b.drop 0).take 4:=by rw [Gq];exact Gh ha 4 0 (by omega)
 have h2: ∀n,4+8*n≤b.length→(Ec b n).flatMap Iu=(b.drop 4).take (8*n):=by
  intro n;induction n with
  |zero=>intro _;simp [Ec]
  |succ n ih=>intro hn;rw [Sd,List.flatMap_append,ih (by omega)];have e1:((leF b (4+8*n) 4:Nat):Int).toNat=leF b (4+8*n) 4:=Int.toNat_natCast _;have e2:(((leF b (8+8*n) 4:Nat):Int) - 1+1).toNat=leF b (8+8*n) 4:=(by omega);have e3: [Lu b n].flatMap Iu=(b.drop (4+8*n)).take 4++(b.drop (8+8*n)).take 4:=(by simp only [List.flatMap_cons,List.flatMap_nil,List.append_nil,Iu,Lu];rw [e1,e2,Gh ha 4 (4+8*n) (by omega),Gh ha 4 (8+8*n) (by omega)]);rw [e3,←List.append_assoc];have e4:=Dy b 4 (8*n) 8;have e5:=Dy b (4+8*n) 4 4;rw [show 8*(n+1)=8*n+8 by omega,e4,e5,show 4+8*n+4=8+8*n by omega,List.append_assoc]
 unfold Bv;rw [h1,h2 _ hn,Gq];have e6:b=(b.drop 0).take 4++(b.drop 4).take (8*jN b)++b.drop (4+8*jN b):=by rw [List.drop_zero,List.append_assoc];conv=>lhs;rw [←List.take_append_drop 4 b,←List.take_append_drop (8*jN b) (b.drop 4),List.drop_drop]
 have e7: ∀X:List Nat,(b.drop 0).take 4++(b.drop 4).take (8*jN b)++X=b↔X=b.drop (4+8*jN b):=by
  intro X;constructor
  ·intro h;conv at h=>rhs;rw [e6]
   exact List.append_cancel_left h
  ·rintro rfl;exact e6.symm
 rw [e7,show b.length - 4 - 8*jN b=b.length - (4+8*jN b) by omega];have e8:(b.drop (4+8*jN b))=(b.drop (4+8*jN b)).take (b.length - (4+8*jN b)):=by rw [List.take_of_length_le];rw [List.length_drop];exact Nat.le_refl _
 rw [e8,Od _ _ (by rw [List.length_drop];exact Nat.le_refl _),Vr];constructor;·intro h i hi;have:=congrArg (fun l=>l[i]?) h;simp only [List.getElem?_map,List.getElem?_range hi,List.getElem?_replicate_of_lt hi,Option.map_some,Option.some.injEq,K1]at this;exact this.symm
 ·intro h;apply List.ext_getElem?;intro i;by_cases hi:i<b.length - (4+8*jN b);·rw [List.getElem?_map,List.getElem?_range hi,List.getElem?_replicate_of_lt hi,Option.map_some,K1,h i hi]
  ·rw [List.getElem?_eq_none (by simp;omega),List.getElem?_eq_none (by simp;omega)]
abbrev Rec:=Nat×Nat×Nat×Nat
def H5 (k:Rec):AV:= .agg [.int .u8 (k.1:Int),UN k.2.1,UN k.2.2.1,AN k.2.2.2]
def Ajy:Sh:= .agg [(0,0,.pint),(1,0,.pint),(2,0,.pint),(3,0,.pint)]
def Bi (s:Sp):Rec:=(s.kind,s.seq - s.idx.toNat,s.prev,s.len.toNat)
structure Sp.Jr (s:Sp):Prop where
 v:s.Valid
 ok:s.Ok
 k:s.kind=2∨s.kind=3
theorem KE.recd:KE Ajy H5:=by
 refine⟨fun a b=>?_,fun a=>rfl,fun a=>?_⟩;·obtain⟨a0,a1,a2,a3⟩:=a;obtain⟨b0,b1,b2,b3⟩:=b;by_cases h0:a0=b0 <;> by_cases h1:a1=b1 <;> by_cases h2:a2=b2 <;> by_cases h3:a3=b3 <;> simp [Ajy,H5,eqv,H9,X4,Gr,A8,E7,h0,h1,h2,h3,Int.natCast_inj]
 ·obtain⟨a0,a1,a2,a3⟩:=a;show Je _ _=true;simp [Je,Gr,A8,Rr]
abbrev JP:=Sp×List Ent
def Da (L:List JP)(k:Rec):Option Nat:=L.findIdx? fun p=>decide (Bi p.1=k)
def Ed (L:List JP)(k:Rec)(i:Int):Option Nat:=L.findIdx? fun p=>decide (Bi p.1=k) && decide (p.1.idx=i)
theorem M4 {α: Type}(f:α→Bool)(L:List α)(p:α):(L++ [p]).findIdx? f=match L.findIdx? f with
 |some i=>some i
 |none=>if f p=true then some L.length else none:=by
 rw [List.findIdx?_append]
 cases L.findIdx? f with
 |some i=>rfl
 |none=>
  simp only [Option.none_or,List.findIdx?_cons,List.findIdx?_nil]
  by_cases h:f p=true <;> simp [h]
theorem Fe (L:List JP)(p:JP)(k:Rec):Da (L++ [p]) k=match Da L k with
 |some i=>some i
 |none=>if Bi p.1=k then some L.length else none:=by
 unfold Da;rw [M4];simp only [decide_eq_true_eq]
theorem H6 (L:List JP)(p:JP)(k:Rec)(i:Int):Ed (L++ [p]) k i=match Ed L k i with
 |some j=>some j
 |none=>if Bi p.1=k∧p.1.idx=i then some L.length else none:=by
 unfold Ed;rw [M4];simp only [Bool.and_eq_true,decide_eq_true_eq]
theorem ng {L:List JP}{k:Rec}(h:Da L k=none):Ed L k i=none:=by unfold Da at h;unfold Ed;rw [List.findIdx?_eq_none_iff]at h ⊢;intro x hx;have:=h x hx;simp only [decide_eq_false_iff_not]at this;simp [this]
theorem Se {L:List JP}{k:Rec}(h:Da L k=some e): ∃p,L[e]?=some p∧Bi p.1=k:=by unfold Da at h;rw [List.findIdx?_eq_some_iff_getElem]at h;obtain⟨h1,h2,_⟩:=h;exact⟨L[e],List.getElem?_eq_getElem h1,by simpa using h2⟩
theorem H7 {L:List JP}{k:Rec}(h:Ed L k i=some e): ∃p,L[e]?=some p∧Bi p.1=k∧p.1.idx=i:=by unfold Ed at h;rw [List.findIdx?_eq_some_iff_getElem]at h;obtain⟨h1,h2,_⟩:=h;exact⟨L[e],List.getElem?_eq_getElem h1,by simpa using h2⟩
theorem xm {L:List JP}{k k':Rec}(h:Da L k=some e)(h':Da L k'=some e):k=k':=by obtain⟨p,h1,h2⟩:=Se h;obtain⟨p',h3,h4⟩:=Se h';rw [h1]at h3;cases h3;rw [←h2,h4]
structure RcR (h:H)(lo:Nat)(M:List (Rec×AV×Nat))(ck:Nat)(P:List JP):Prop where
 ok:MOk M ck
 no: ∀k,Da P k=none→A4 M k=none
 at_: ∀k e,Da P k=some e→ ∃a Mi ci,A4 M k=some (.agg [.map a,AN e])∧Mk h a (Mi.map (mE AI)) ci∧MOk Mi ci∧lo≤a∧ ∀i,A4 Mi i=(Ed P k i).map fun j=>AN j
 ne: ∀k k' a a' e e',A4 M k=some (.agg [.map a,e])→A4 M k'=some (.agg [.map a',e'])→a=a'→k=k'
theorem RcR.nil (h:H)(lo:Nat):RcR h lo [] 0 []:=⟨MOk.nil,fun _ _=>rfl,fun k e q=>(by cases q),fun k k' a a' e e' q=>(by cases q)⟩
structure JL (h:H)(lo:Nat)(v:AV)(L:List JP):Prop where
 ex: ∃l:List (JP×AV),l.map (·.1)=L∧(∀x∈l,EL h lo x.2 x.1.2)∧((l= []∧v= .nils)∨(0<l.length∧ ∃b,v= .slc b 0 l.length (Aa+7)∧Bk h b (l.flatMap jpC)∧lo≤b))
section
variable {α:Type}[DecidableEq α]{sh:Sh}{enc:α→AV}{l:List (Nat×Option AV)}{x y:O}{ck:Nat}{zero v:AV}{M:List (α×AV×Nat)}{k:α}
theorem Vt (e:KE sh enc)(hx:evO l x=some (.map r))(hy:evO l y=some (enc k))(hb:Mk h r (M.map (mE enc)) ck)(hg:A4 M k=none):XV (.lookup sh zero x y true) h l (.tup [zero,.bool false]) h:=by have:=D5 (zero:=zero) e hx hy hb;rw [hg]at this;exact this
theorem fc (e:KE sh enc)(hx:evO l x=some (.map r))(hy:evO l y=some (enc k))(hb:Mk h r (M.map (mE enc)) ck)(hg:A4 M k=some v):XV (.lookup sh zero x y true) h l (.tup [v,.bool true]) h:=by have:=D5 (zero:=zero) e hx hy hb;rw [hg]at this;exact this
end
section
variable {h':H}{lo ck:Nat}{M:List (Rec×AV×Nat)}{P:List JP}{p:JP}
theorem RcR.twice (q:RcR h lo M ck P){j:Nat}(hE:Da P (Bi p.1)=some e)(hF:Ed P (Bi p.1) p.1.idx=some j)(keep: ∀b es c,lo≤b→Mk h b es c→Mk h' b es c):RcR h' lo M ck (P++ [p]):=by
 refine⟨q.ok,fun k hk=>q.no k ?_,fun k e' he=>?_,q.ne⟩
 ·rw [Fe]at hk
  cases h1:Da P k with
  |none=>rfl
  |some i=>rw [h1]at hk;cases hk
 ·have h2:Da P k=some e':=by
   rw [Fe]at he
   cases h1:Da P k with
   |some i=>rw [h1]at he;exact he
   |none=>
    rw [h1]at he;by_cases h3:Bi p.1=k;·rw [←h3,hE]at h1;cases h1
    ·simp only [if_neg h3]at he;cases he
  obtain⟨a,Mi,ci,g1,g2,g3,g4,g5⟩:=q.at_ k e' h2;refine⟨a,Mi,ci,g1,keep _ _ _ g4 g2,g3,g4,fun i=>?_⟩;rw [g5,H6]
  cases h4:Ed P k i with
  |some x=>rfl
  |none=>
   by_cases h5:Bi p.1=k∧p.1.idx=i;·rw [←h5.1,←h5.2,hF]at h4;cases h4
   ·simp only [if_neg h5]
theorem RcR.add (q:RcR h lo M ck P){a ci c':Nat}{Mi:List (Int×AV×Nat)}(hE:Da P (Bi p.1)=some e)(hF:Ed P (Bi p.1) p.1.idx=none)(hg:A4 M (Bi p.1)=some (.agg [.map a,AN e]))(oi:MOk Mi ci)(la:lo≤a) (hf: ∀i,A4 Mi i=(Ed P (Bi p.1) i).map fun j=>AN j) (ha:Mk h' a ((Dp Mi ci p.1.idx (AN P.length)).map (mE AI)) (mCk Mi ci p.1.idx)) (keep: ∀b es c,lo≤b→b≠a→Mk h b es c→Mk h' b es c):RcR h' lo M ck (P++ [p]):=by
 refine⟨q.ok,fun k hk=>q.no k ?_,fun k e' he=>?_,q.ne⟩
 ·rw [Fe]at hk
  cases h1:Da P k with
  |none=>rfl
  |some i=>rw [h1]at hk;cases hk
 ·by_cases h3:Bi p.1=k
  ·subst h3;rw [Fe,hE]at he
   cases he;refine⟨a,_,_,hg,ha,oi.set _ _,la,fun i=>?_⟩;rw [Br,H6,hf];by_cases h5:i=p.1.idx;·rw [if_pos h5,h5,hF];simp
   ·rw [if_neg h5]
    cases h4:Ed P (Bi p.1) i with
    |some x=>rfl
    |none=>simp [Ne.symm h5]
  ·have h2:Da P k=some e':=by
    rw [Fe]at he
    cases h1:Da P k with
    |some i=>rw [h1]at he;exact he
    |none=>rw [h1]at he;simp only [if_neg h3]at he;cases he
   obtain⟨a2,M2,c2,g1,g2,g3,g4,g5⟩:=q.at_ k e' h2;have hne:a2≠a:=fun f=>h3 (q.ne _ _ _ _ _ _ hg g1 f.symm);refine⟨a2,M2,c2,g1,keep _ _ _ g4 hne g2,g3,g4,fun i=>?_⟩;rw [g5,H6]
   cases h4:Ed P k i with
   |some x=>rfl
   |none=>simp [h3]
theorem RcR.new (q:RcR h lo M ck P){a c':Nat}(hE:Da P (Bi p.1)=none)(la:lo≤a)(hfresh:h.n≤a) (ha:Mk h' a ((Dp [] 0 p.1.idx (AN P.length)).map (mE AI)) (mCk ([]:List (Int×AV×Nat)) 0 p.1.idx)) (keep: ∀b es c,lo≤b→b<h.n→Mk h b es c→Mk h' b es c): RcR h' lo (Dp M ck (Bi p.1) (.agg [.map a,AN P.length])) (mCk M ck (Bi p.1)) (P++ [p]):=by
 have old: ∀k e,Da P k=some e→k≠Bi p.1:=fun k e he f=>by rw [f,hE]at he;cases he
 refine⟨q.ok.set _ _,fun k hk=>?_,fun k e' he=>?_,fun k k' a1 a2 e1 e2 g1 g2 f=>?_⟩
 ·rw [Fe]at hk
  cases h1:Da P k with
  |some i=>rw [h1]at hk;cases hk
  |none=>
   rw [h1]at hk;by_cases h3:Bi p.1=k;·simp only [if_pos h3]at hk;cases hk
   ·rw [Br,if_neg (Ne.symm h3)];exact q.no k h1
 ·rw [Fe]at he
  cases h1:Da P k with
  |some i=>
   rw [h1]at he;cases he;obtain⟨a2,M2,c2,g1,g2,g3,g4,g5⟩:=q.at_ k _ h1;refine⟨a2,M2,c2,by rw [Br,if_neg (old k _ h1)];exact g1,keep _ _ _ g4 g2.lt g2,g3,g4,fun i=>?_⟩;rw [g5,H6]
   cases h4:Ed P k i with
   |some x=>rfl
   |none=>simp [Ne.symm (old k _ h1)]
  |none=>
   rw [h1]at he;by_cases h3:Bi p.1=k
   ·simp only [if_pos h3]at he;cases he;subst h3;refine⟨a,_,_,by rw [Br,if_pos rfl],ha,MOk.nil.set _ _,la,fun i=>?_⟩;rw [Br,H6,ng hE];by_cases h5:i=p.1.idx;·simp [h5]
    ·simp [h5,Ne.symm h5,A4]
   ·simp only [if_neg h3]at he;cases he
 ·have bd: ∀k a e,k≠Bi p.1→A4 M k=some (.agg [.map a,e])→a<h.n:=by
   intro k a0 e0 hne hg
   cases h1:Da P k with
   |none=>rw [q.no k h1]at hg;cases hg
   |some i=>obtain⟨a2,M2,c2,g1,g2,_⟩:=q.at_ k i h1;rw [g1]at hg;cases hg;exact g2.lt
  rw [Br]at g1 g2;by_cases h1:k=Bi p.1 <;> by_cases h2:k'=Bi p.1;·rw [h1,h2]
  ·rw [if_pos h1]at g1;rw [if_neg h2]at g2;cases g1;have:=bd _ _ _ h2 g2;omega
  ·rw [if_neg h1]at g1;rw [if_pos h2]at g2;cases g2;have:=bd _ _ _ h1 g1;omega
  ·rw [if_neg h1]at g1;rw [if_neg h2]at g2;exact q.ne _ _ _ _ _ _ g1 g2 f
end
variable {B:Rec→Rec→Bool}{M:List (Rec×AV×Nat)}{Mi:List (Int×AV×Nat)}{P:List JP}{W:Rec→Bool}{b3 cap ci d i j kind lo:Nat}{e:Int}{is:Bool}{k y:Rec}{prev:Option Nat}{w:AV}
theorem Xp {α: Type}[DecidableEq α]: ∀{M:List (α×AV×Nat)} {y:α×AV×Nat},(M.map (·.1)).Nodup→y∈M→A4 M y.1=some y.2.1
 | [],y,_,h=>by cases h
 |x::r,y,hn,h=>by
  rw [List.map_cons,List.nodup_cons]at hn;unfold A4;rw [List.find?_cons];rcases List.mem_cons.1 h with rfl|h;·simp
  ·have:y.1≠x.1:=fun e=>hn.1 (by rw [←e];exact List.mem_map_of_mem h);rw [decide_eq_false this];exact Xp hn.2 h
def full (P:List JP)(k:Rec):Bool:=(List.range k.2.2.2).all fun i=>(Ed P k ((i:Nat):Int)).isSome
theorem Ae9: ∀(n:Nat) (l:List Int),l.Nodup→(∀x∈l,0≤x∧x<(n:Int))→(l.length=n↔ ∀i,i<n→((i:Nat):Int)∈l):=by
 intro n l hn h;have hle:=Ea n l hn h;constructor
 ·intro e i hi;refine Classical.byContradiction fun hni=>?_;have h2:=Ea (n - 1) (l.map fun x=>if x=((n - 1:Nat):Int)then((i:Nat):Int)else x) ?_ ?_;·rw [List.length_map]at h2;omega
  ·have inj: ∀x∈l,∀y∈l,(if x=((n - 1:Nat):Int)then(i:Int)else x)=(if y=((n - 1:Nat):Int)then(i:Int)else y)→x=y:=by
    intro x hx y hy e;by_cases h3:x=((n - 1:Nat):Int) <;> by_cases h4:y=((n - 1:Nat):Int);·rw [h3,h4]
    ·rw [if_pos h3,if_neg h4]at e;exact absurd (e ▸ hy) hni
    ·rw [if_neg h3,if_pos h4]at e;exact absurd (e ▸ hx) hni
    ·rw [if_neg h3,if_neg h4]at e;exact e
   clear hle h e;induction l with
   |nil=>exact List.nodup_nil
   |cons a r ih=>rw [List.nodup_cons]at hn;rw [List.map_cons,List.nodup_cons];refine⟨fun hm=>?_,ih hn.2 (fun hh=>hni (List.mem_cons_of_mem _ hh)) fun x hx y hy=>inj x (List.mem_cons_of_mem _ hx) y (List.mem_cons_of_mem _ hy)⟩;obtain⟨b,hb,e2⟩:=List.mem_map.1 hm;have:=inj b (List.mem_cons_of_mem _ hb) a (List.mem_cons_self ..) e2;exact hn.1 (this ▸ hb)
  ·intro x hx;obtain⟨y,hy,rfl⟩:=List.mem_map.1 hx;have h5:=h y hy;by_cases h6:y=((n - 1:Nat):Int);·rw [if_pos h6];have:i≠n - 1:=fun e=>hni (by rw [e,←h6];exact hy);omega
   ·rw [if_neg h6];omega
 ·intro hall;refine Nat.le_antisymm hle ?_;have: ∀m,m≤n→ ∃r:List Int,r.length+m=l.length∧r.Nodup∧ ∀i,m≤i→i<n→((i:Nat):Int)∈r:=by
   intro m;induction m with
   |zero=>intro _;exact⟨l,rfl,hn,fun i _ hi=>hall i hi⟩
   |succ m ih=>intro hm;obtain⟨r,h1,h2,h3⟩:=ih (by omega);have h4:=h3 m (Nat.le_refl _) (by omega);have h5:=List.length_erase_of_mem h4;have h6:0<r.length:=List.length_pos_of_mem h4;exact⟨r.erase (m:Int),by omega,h2.erase _,fun i hi1 hi2=>h2.mem_erase_iff.2 ⟨by omega,h3 i (by omega) hi2⟩⟩
  obtain⟨r,h1,_,_⟩:=this n (Nat.le_refl _);omega
theorem Xq {α: Type}[DecidableEq α]{M:List (α×AV×Nat)}{k:α}:k∈M.map (·.1)↔(A4 M k).isSome=true:=by
 rw [←mHas_mem,C6];unfold A4
 cases M.find? fun x=>decide (k=x.1) <;> simp
theorem xo (hj: ∀p∈P,p.1.Jr)(oi:MOk Mi ci)(hf: ∀i,A4 Mi i=(Ed P k i).map fun j=>AN j):decide (Mi.length=k.2.2.2)=full P k:=by
 have hk: ∀i,i∈Mi.map (·.1)↔(Ed P k i).isSome=true:=fun i=>by rw [Xq,hf];cases Ed P k i <;> simp
 have h1:=Ae9 k.2.2.2 (Mi.map (·.1)) oi.keys fun x hx=>by
  have h2:=(hk x).1 hx
  cases h3:Ed P k x with
  |none=>rw [h3]at h2;cases h2
  |some e=>obtain⟨p,h4,h5,h6⟩:=H7 h3;obtain⟨⟨v1,v2,v3,v4,v5,v6⟩,_,_⟩:=hj p (List.mem_of_getElem? h4);have h7:p.1.len.toNat=k.2.2.2:=(by rw [←h5];rfl);omega
 rw [List.length_map]at h1;unfold full;rw [Bool.eq_iff_iff,decide_eq_true_eq,h1,List.all_eq_true];constructor;·intro h2 i hi;exact(hk _).1 (h2 i (List.mem_range.1 hi))
 ·intro h2 i hi;exact(hk _).2 (h2 i (List.mem_range.2 hi))
theorem RcR.ent {ck:Nat}(q:RcR h lo M ck P){y:Rec×AV×Nat}(hy:y∈M): ∃a Mi ci e,y.2.1= .agg [.map a,AN e]∧A4 M y.1=some (.agg [.map a,AN e])∧Da P y.1=some e∧Mk h a (Mi.map (mE AI)) ci∧MOk Mi ci∧lo≤a∧ ∀i,A4 Mi i=(Ed P y.1 i).map fun j=>AN j:=by
 have h1:=Xp q.ok.keys hy
 cases h2:Da P y.1 with
 |none=>rw [q.no _ h2]at h1;cases h1
 |some e=>obtain⟨a,Mi,ci,g1,g2,g3,g4,g5⟩:=q.at_ _ _ h2;rw [h1]at g1;simp only [Option.some.injEq]at g1;exact⟨a,Mi,ci,e,g1,by rw [h1,g1],rfl,g2,g3,g4,g5⟩
def C1 (P:List JP)(k:Rec):List Nat:=(List.range k.2.2.2).map fun i=>(Ed P k ((i:Nat):Int)).getD 0
def F8 (P:List JP)(j:Nat):List Ent:=match P[j]? with
 |some p=>p.2
 |none=> []
def fe (P:List JP)(k:Rec):List Ent:=(C1 P k).flatMap (F8 P)
def J9 (k:Rec):Nat:=k.2.1+k.2.2.2 - 1
def Pr (P:List JP)(a b:Rec):Bool:=decide (b.2.1<a.2.1) || (decide (a.2.1=b.2.1) && decide ((Da P a).getD 0<(Da P b).getD 0))
def isK (P:List JP)(k:Rec):Prop:=(Da P k).isSome=true
def Ee (P:List JP)(kind:Nat)(prev:Option Nat)(k:Rec):Bool:=decide (k.1=kind) && full P k && (match prev with|some n=>decide (k.2.2.1=n)|none=>true)
def BestP (P:List JP)(kind:Nat)(prev:Option Nat)(o:Option Rec):Prop:=match o with
 |none=> ∀k,isK P k→Ee P kind prev k=false
 |some k=>isK P k∧Ee P kind prev k=true∧ ∀k',isK P k'→Ee P kind prev k'=true→k'=k∨Pr P k k'=true
theorem BestP.uniq {o o':Option Rec}(h:BestP P kind prev o)(h':BestP P kind prev o'):o=o':=by
 cases o with
 |none=>
  cases o' with
  |none=>rfl
  |some k=>obtain⟨h1,h2,_⟩:=h';rw [h k h1]at h2;cases h2
 |some k=>
  obtain⟨h1,h2,h3⟩:=h
  cases o' with
  |none=>rw [h' k h1]at h2;cases h2
  |some k'=>
   obtain⟨g1,g2,g3⟩:=h';rcases h3 k' g1 g2 with e|e;·rw [e]
   ·rcases g3 k h1 h2 with f|f;·rw [f]
    ·unfold Pr at e f;simp only [Bool.or_eq_true,Bool.and_eq_true,decide_eq_true_eq]at e f;omega
inductive RunP (P:List JP):Option Rec→List Rec→Prop where
 |none:RunP P none []
 |some {k:Rec} {o:Option Rec} {ks:List Rec} (h:BestP P 2 (some (J9 k)) o) (r:RunP P o ks):RunP P (some k) (k::ks)
theorem RunP.uniq {o:Option Rec}{ks ks':List Rec}(h:RunP P o ks):RunP P o ks'→ks=ks':=by
 induction h generalizing ks' with
 |none=>intro h';cases h';rfl
 |some h1 r ih=>
  intro h'
  cases h' with
  |some h2 r2=>have:=h1.uniq h2;subst this;rw [ih r2]
def StartP (P:List JP)(o:Option Rec):Prop:= ∃o1,BestP P 3 none o1∧(match o1 with|some k=>o=some k|none=>BestP P 2 (some 0) o)
def chE (P:List JP)(ks:List Rec):List Ent:=ks.flatMap (fe P)
def chU (P:List JP)(ks:List Rec):List Nat:=ks.flatMap (C1 P)
def chL (ks:List Rec):Nat:=match ks.getLast? with|some k=>J9 k|none=>0
theorem ni {l:List (JP×AV)}{x:JP×AV}(h:l[j]?=some x):F8 (l.map (·.1)) j=x.1.2:=by unfold F8;rw [List.getElem?_map,h];rfl
theorem K2 (P:List JP)(k:Rec):(C1 P k).length=k.2.2.2:=by simp [C1]
theorem M6 (hf:full P k=true)(hi:i<k.2.2.2): ∃j,Ed P k (i:Int)=some j∧(C1 P k)[i]?=some j:=by unfold full at hf;rw [List.all_eq_true]at hf;have h1:=hf i (List.mem_range.2 hi);obtain⟨j,hj⟩:=Option.isSome_iff_exists.1 h1;exact⟨j,hj,by simp [C1,hi,hj]⟩
theorem ff {i:Int}(h:Ed P k i=some j):j<P.length:=by obtain⟨p,h1,_⟩:=H7 h;exact(List.getElem?_eq_some_iff.1 h1).1
theorem Oe (hf:full P k=true)(h:(C1 P k)[i]?=some j):i<k.2.2.2∧Ed P k (i:Int)=some j:=by have hi:=(List.getElem?_eq_some_iff.1 h).1;rw [K2]at hi;obtain⟨j',h1,h2⟩:=M6 hf hi;rw [h]at h2;cases h2;exact⟨hi,h1⟩
theorem nj (hf:full P k=true)(h:j∈C1 P k): ∃i,i<k.2.2.2∧Ed P k ((i:Nat):Int)=some j:=by obtain⟨i,hi⟩:=List.mem_iff_getElem?.1 h;exact⟨i,Oe hf hi⟩
theorem Xr (hf:full P k=true):(C1 P k).Nodup:=by rw [List.nodup_iff_pairwise_ne,List.pairwise_iff_getElem];intro i j hi hj hij e;have h1:=Oe hf (List.getElem?_eq_getElem hi);have h2:=Oe hf (List.getElem?_eq_getElem hj);rw [e]at h1;obtain⟨p,g1,_,g3⟩:=H7 h1.2;obtain⟨p',g4,_,g6⟩:=H7 h2.2;rw [g1]at g4;cases g4;omega
theorem np (n:Nat)(l:List Nat)(hn:l.Nodup)(h: ∀x∈l,x<n):l.length≤n:=by
 have:=Ea n (l.map fun x=>((x:Nat):Int)) (by
  rw [List.nodup_iff_pairwise_ne]at hn ⊢;exact List.Pairwise.map _ (fun a b h e=>h (by omega)) hn) fun x hx=>by
  obtain⟨y,hy,rfl⟩:=List.mem_map.1 hx;have:=h y hy;omega
 rwa [List.length_map]at this
theorem Xs (hf:full P k=true):k.2.2.2≤P.length:=by rw [←K2 P k];refine np _ _ (Xr hf) fun x hx=>?_;obtain⟨i,_,h⟩:=nj hf hx;exact ff h
theorem Vu (h:isK P k): ∃p∈P,Bi p.1=k:=by unfold isK at h;obtain⟨e,he⟩:=Option.isSome_iff_exists.1 h;obtain⟨p,h1,h2⟩:=Se he;exact⟨p,List.mem_of_getElem? h1,h2⟩
theorem Afa {p:JP}(h:p∈P):isK P (Bi p.1):=by
 unfold isK
 cases he:Da P (Bi p.1)with
 |some e=>rfl
 |none=>unfold Da at he;rw [List.findIdx?_eq_none_iff]at he;have:=he p h;simp at this
theorem Vv (hj: ∀p∈P,p.1.Jr)(h:isK P k):1≤k.2.2.2∧k.2.2.1<k.2.1∧k.2.2.2≤65535∧(k.1=2∨k.1=3):=by
 obtain⟨p,hp,rfl⟩:=Vu h;obtain⟨⟨v1,v2,v3,v4,v5,v6⟩,_,hk⟩:=hj p hp;have:p.1.prev<p.1.seq∧p.1.idx.toNat<p.1.seq - p.1.prev:=by
  rcases v6 with q|q;·rcases hk with e|e <;> omega
  ·exact q.2.2
 show 1≤p.1.len.toNat∧p.1.prev<p.1.seq - p.1.idx.toNat∧p.1.len.toNat≤65535∧_;exact⟨by omega,by omega,by omega,hk⟩
theorem Afb (hj: ∀p∈P,p.1.Jr)(h:Ed P k (i:Int)=some j): ∃p,P[j]?=some p∧p∈P∧p.1.seq=k.2.1+i∧Bi p.1=k:=by
 obtain⟨p,h1,h2,h3⟩:=H7 h;have hm:=List.mem_of_getElem? h1;obtain⟨⟨v1,v2,v3,v4,v5,v6⟩,_,hk⟩:=hj p hm;have h4:p.1.seq - p.1.idx.toNat=k.2.1:=by rw [←h2];rfl
 have:p.1.prev<p.1.seq∧p.1.idx.toNat<p.1.seq - p.1.prev:=by
  rcases v6 with q|q;·rcases hk with e|e <;> omega
  ·exact q.2.2
 exact⟨p,h1,hm,by omega,h2⟩
theorem Aa6 (hj: ∀p∈P,p.1.Jr)(h:isK P k)(hf:full P k=true){B:Nat}(hs: ∀p∈P,p.1.seq<B):k.2.1+k.2.2.2≤B:=by have h1:=Vv hj h;obtain⟨j,h2,_⟩:=M6 hf (show k.2.2.2 - 1<k.2.2.2 by omega);obtain⟨p,_,h3,h4,_⟩:=Afb hj h2;have:=hs p h3;omega
theorem nq (hj: ∀p∈P,p.1.Jr){k':Rec}(hk:isK P k)(b:BestP P 2 (some (J9 k)) (some k')):k.2.1<k'.2.1∧isK P k'∧full P k'=true:=by obtain⟨h1,h2,_⟩:=b;simp only [Ee,Bool.and_eq_true,decide_eq_true_eq]at h2;have h3:=Vv hj h1;have h4:=Vv hj hk;unfold J9 at h2;exact⟨by omega,h1,h2.1.2⟩
theorem Of (b:BestP P kind prev (some k)):isK P k∧full P k=true:=by obtain⟨h1,h2,_⟩:=b;unfold Ee at h2;simp only [Bool.and_eq_true,decide_eq_true_eq]at h2;exact⟨h1,h2.1.2⟩
theorem ag (s:StartP P (some k)):isK P k∧full P k=true:=by
 obtain⟨o1,h1,h2⟩:=s
 cases o1 with
 |some k'=>cases h2;exact Of h1
 |none=>exact Of h2
def muF (P:List JP)(is:Bool)(o:Rec):Nat:=if is=true then(P.filter fun p=>decide (o.2.1≤(Bi p.1).2.1)).length else 0
theorem Afc (P:List JP)(is:Bool)(o:Rec):muF P is o≤P.length:=by
 unfold muF;split;·exact List.length_filter_le _ _
 ·exact Nat.zero_le _
theorem Afd (hj: ∀p∈P,p.1.Jr){o o':Rec}(hk:isK P o)(b:BestP P 2 (some (J9 o)) (if is=true then some o' else none)):muF P is o'<muF P true o:=by
 obtain⟨p,hp,e⟩:=Vu hk;unfold muF;rw [if_pos rfl]
 cases is with
 |false=>rw [if_neg (by simp)];refine List.length_pos_of_mem (a:=p) (List.mem_filter.2 ⟨hp,?_⟩);rw [e];exact decide_eq_true (Nat.le_refl _)
 |true=>
  rw [if_pos rfl];rw [if_pos rfl]at b;have:=nq hj hk b;refine Vi (fun x hx=>?_) P p hp (by rw [e];exact decide_eq_true (Nat.le_refl _)) ?_;·simp only [decide_eq_true_eq]at hx ⊢;omega
  ·rw [e];exact decide_eq_false (by omega)
theorem xr (P:List JP)(ks:List Rec)(k:Rec):chE P (ks++ [k])=chE P ks++fe P k:=by simp [chE]
theorem xu (P:List JP)(ks:List Rec)(k:Rec):chU P (ks++ [k])=chU P ks++C1 P k:=by simp [chU]
theorem xw (ks:List Rec)(k:Rec):chL (ks++ [k])=J9 k:=by simp [chL]
theorem Qd {P:List JP}: ∀ks:List Rec,(∀k∈ks,full P k=true)→(chU P ks).length≤ks.length*P.length
 | [],_=>Nat.zero_le _
 |k::ks,h=>by have h1:=Qd ks fun x hx=>h x (List.mem_cons_of_mem _ hx);have h2:=Xs (h k (List.mem_cons_self ..));rw [←K2 P k]at h2;unfold chU at h1 ⊢;rw [List.flatMap_cons,List.length_append,List.length_cons,Nat.add_mul,Nat.one_mul];omega
theorem M8 {P:List JP}{m:Nat}(hm: ∀p∈P,p.2.length≤m): ∀l:List Nat,(l.flatMap (F8 P)).length≤l.length*m
 | []=>Nat.zero_le _
 |j::l=>by
  have h1:=M8 hm l;have h2:(F8 P j).length≤m:=by
   unfold F8
   cases h:P[j]? with
   |none=>exact Nat.zero_le _
   |some p=>exact hm p (List.mem_of_getElem? h)
  rw [List.flatMap_cons,List.length_append,List.length_cons,Nat.add_mul,Nat.one_mul];omega
theorem Xt (P:List JP)(ks:List Rec):chE P ks=(chU P ks).flatMap (F8 P):=by unfold chE chU fe;rw [List.flatMap_assoc]
section
variable {l:List (Nat×Option AV)}{x y:O}{a:Nat}{k:IntKind}{sh:Sh}{q:Bool}
theorem Afe (hs:k.signed=false)(e:evO l x=some (.int k (a:Int)))(e1:evO l y=some (.int k (d:Int)))(hr:a+d<pw k):XV (.bin .add x y q sh) h l (.int k ((a+d:Nat):Int)) h:=by have:=th (h:=h) (sh:=sh) (q:=q) hs e e1;rwa [Nat.mod_eq_of_lt hr]at this
end
theorem I1: ∀l:List Ent,As (l.flatMap Aq)=true
 | []=>rfl
 |_::r=>I1 r
theorem Sf {l:List Ent}(k:Bk h b (l.flatMap Aq)):SlR 2 h (.slc b 0 l.length cap) l.length (l.flatMap Aq):= SlR.of k (by rw [A1];omega) (by rw [List.drop_zero,List.take_of_length_le (by rw [A1];exact Nat.le_refl _)])
theorem fg {l:List Int}(k:Bk h b (l.map AI)):SlR 1 h (.slc b 0 l.length cap) l.length (l.map AI):= SlR.of k (by simp) (by rw [List.drop_zero,List.take_of_length_le (by simp)])
theorem Ka {z:Int}(k:Bk h b [AI z]):SlR 1 h (.slc b 0 1 cap) 1 [AI z]:=SlR.of k (Nat.le_refl _) rfl
theorem nr {a:Nat}(e:a=d):AV.slc b 0 a cap= .slc b 0 d cap:=by rw [e]
section
variable {P0:Program}{E:Env}{F:T CFn}{K:T (List AV×AV)}(L:Lg P0 E F K)(X:Fx F K)
include L X
section
theorem Og {b1 o1 b2 o2 c2:Nat}(T:Tb P0 E F K)(k1:BS h b1 o1 ex)(k2:BS h b2 o2 data)(hl1:ex.length=64)(hl2:data.length=m)(hm:0<m∧m<1000): Ct P0 E F K 24 [.slc b1 o1 64 (Aa+1),.slc b2 o2 m c2] h fun v h'=>(∃e:Nat,v= .tup [.agg (spC ((Vq ex data).getD sp0)),AN e]∧(e=0↔(Vq ex data).isSome=true)∧e<1000)∧K0 h h':=by
 have l1:=k1.lt_n;have l2:=k2.lt_n;have a1:=k1.all;have a2:=k2.all;have g4:leF ex 4 1<256:=G6 a1 1 4;refine Ad L X.f24 fun Q x cs G=>?_;refine wk ?_;refine Hx L rfl rfl rfl rfl ?_;refine cal ?_ (c:=E1 L X);rintro _ rfl;refine cal ?_ (c:=Mz L X (bs:=ex) lkb hl1 (by omega));rintro _ h2 ⟨r,cb,rfl,w1,w2,w3,w4,w5,w6⟩;have n2:=w6.n;have m1:=w1.lt;have m2:=w2.lt_n;simp only [Aj]at n2 w3 w4;refine cal ?_ (c:=eu L X (n:=4) (a:=60) (bs:=ex) (BS.part (k:=by exact lkb) (by omega)) (by omega) (by omega));rintro _ rfl;refine cal ?_ (c:=m9 L X T (data:=data) (ex:=ex) lkb lkb hl2 hl1 hm);rintro _ h3 ⟨rfl,w7⟩;have n3:=w7.n;simp only [Aj]at n3;by_cases hc:leF ex 60 4=crcB (data++ex.take 60);rotate_left;·refine wk ?_;refine En L rfl rfl rfl rfl rfl (H3 L X) ?_;rintro _ _ ⟨rfl,rfl⟩;rw [H4 a1 hl1 (by intro q;exact hc q.1)]at G;exact Fd L X rfl rfl lkp lkp (by omega) G fun h9 k9=>⟨⟨10,rfl,by simp,by omega⟩,Kp.trS k9 (fun i hi e=>by omega) kps⟩
 refine cal ?_ (c:=E1 L X);rintro _ rfl;refine cal ?_ (c:=M3 L X (a:=0) (m:=4) (bs:=ex) (cb:=cb) (o:=0) (at_:=0) (n:=64) lkp lkp (BS.part (o:=0) (a:=0) (n:=4) (bs:=ex) (k:=by exact lkb) (by omega)) a1 (by omega) (by omega) (by omega) (by omega) (by omega) w5);rintro _ h4 ⟨rfl,w8,w9⟩;have n4:=w9.n;simp only [Aj]at n4;by_cases hg:leF ex 0 4=1280591427;rotate_left;·refine wk ?_;refine En L rfl rfl rfl rfl rfl (H3 L X) ?_;rintro _ _ ⟨rfl,rfl⟩;rw [H4 a1 hl1 (by intro q;exact hg q.2.1)]at G;exact Fd L X rfl rfl lkp lkp (by omega) G fun h9 k9=>⟨⟨6,rfl,by simp,by omega⟩,Kp.trS k9 (fun i hi e=>by omega) kps⟩
 refine cal ?_ (c:=E1 L X);rintro _ rfl;refine cal ?_ (c:=M3 L X (a:=4) (m:=1) (bs:=ex) (cb:=cb) (o:=0+4) (at_:=0+4) (n:=64 - 4) lkp lkp (BS.part (o:=0) (a:=4) (n:=1) (bs:=ex) (k:=by exact lkb) (by omega)) a1 (by omega) (by omega) (by omega) (by omega) (by omega) w5);rintro _ h5 ⟨rfl,x1,x2⟩;have n5:=x2.n;simp only [Aj]at n5;refine cal ?_ (c:=Sb L X (a:=5) (m:=3) (bs:=ex) (cb:=cb) (o:=0+4+1) (at_:=0+4+1) (n:=64 - 4 - 1) lkp (BS.part (o:=0) (a:=5) (n:=3) (bs:=ex) (k:=by exact lkb) (by omega)) (by omega) (by omega) (by omega) (by omega) w5);rintro _ h6 ⟨rfl,x3,zh6⟩;have nh6:=zh6.n;simp only [Aj]at nh6;by_cases hz:zer ex 5 3=true;rotate_left;·rw [if_neg hz];refine wk ?_;refine En L rfl rfl rfl rfl rfl (H3 L X) ?_;rintro _ _ ⟨rfl,rfl⟩;rw [H4 a1 hl1 (by intro q;exact hz q.2.2.1)]at G;exact Fd L X rfl rfl lkp lkp (by omega) G fun h9 k9=>⟨⟨6,rfl,by simp,by omega⟩,Kp.trS k9 (fun i hi e=>by omega) kps⟩
 rw [if_pos hz];have x5:=x3 hz;refine cal ?_ (c:=E1 L X);rintro _ rfl;refine wk ?_;refine A5 L ?_;refine cal ?_ (c:=xh L X (at_:=0+4+1+3) lkp);rintro _ rfl;refine cal ?_ (c:=E1 L X);rintro _ rfl;refine cal ?_ (c:=ez L X (a:=8) (bs:=ex) (cb:=cb) (o:=0+4+1+3) (at_:=0+4+1+3) (n:=64 - 4 - 1 - 3) lkp lkp (BS.part (o:=0) (a:=8) (n:=8) (bs:=ex) (k:=by exact lkb) (by omega)) (by omega) (by omega) (by omega) (by omega) w5);rintro _ h7 ⟨rfl,xh7,zh7⟩;have nh7:=zh7.n;simp only [Aj]at nh7;refine wk ?_;refine Bz L ?_;refine cal ?_ (c:=xh L X (at_:=0+4+1+3+8) lkp);rintro _ rfl;refine cal ?_ (c:=E1 L X);rintro _ rfl;refine cal ?_ (c:=ez L X (a:=16) (bs:=ex) (cb:=cb) (o:=0+4+1+3+8) (at_:=0+4+1+3+8) (n:=64 - 4 - 1 - 3 - 8) lkp lkp (BS.part (o:=0) (a:=16) (n:=8) (bs:=ex) (k:=by exact lkb) (by omega)) (by omega) (by omega) (by omega) (by omega) w5);rintro _ h8 ⟨rfl,xh8,zh8⟩;have nh8:=zh8.n;simp only [Aj]at nh8;refine wk ?_;refine Bz L ?_;refine wk ?_;refine A5 L ?_;refine cal ?_ (c:=M3 L X (a:=24) (m:=4) (bs:=ex) (cb:=cb) (o:=0+4+1+3+8+8) (at_:=0+4+1+3+8+8) (n:=64 - 4 - 1 - 3 - 8 - 8) lkp lkp (BS.part (o:=0) (a:=24) (n:=4) (bs:=ex) (k:=by exact lkb) (by omega)) a1 (by omega) (by omega) (by omega) (by omega) (by omega) w5);rintro _ h9 ⟨rfl,xh9,zh9⟩;have nh9:=zh9.n;simp only [Aj]at nh9;refine wk ?_;refine Bz L ?_;refine cal ?_ (c:=M3 L X (a:=28) (m:=4) (bs:=ex) (cb:=cb) (o:=0+4+1+3+8+8+4) (at_:=0+4+1+3+8+8+4) (n:=64 - 4 - 1 - 3 - 8 - 8 - 4) lkp lkp (BS.part (o:=0) (a:=28) (n:=4) (bs:=ex) (k:=by exact lkb) (by omega)) a1 (by omega) (by omega) (by omega) (by omega) (by omega) w5);rintro _ h10 ⟨rfl,xh10,zh10⟩;have nh10:=zh10.n;simp only [Aj]at nh10;refine wk ?_;refine Bz L ?_;refine cal ?_ (c:=M3 L X (a:=32) (m:=4) (bs:=ex) (cb:=cb) (o:=0+4+1+3+8+8+4+4) (at_:=0+4+1+3+8+8+4+4) (n:=64 - 4 - 1 - 3 - 8 - 8 - 4 - 4) lkp lkp (BS.part (o:=0) (a:=32) (n:=4) (bs:=ex) (k:=by exact lkb) (by omega)) a1 (by omega) (by omega) (by omega) (by omega) (by omega) w5);rintro _ h11 ⟨rfl,xh11,zh11⟩;have nh11:=zh11.n;simp only [Aj]at nh11;refine wk ?_;refine Bz L ?_;refine cal ?_ (c:=xh L X (at_:=0+4+1+3+8+8+4+4+4) lkp);rintro _ rfl;refine wk ?_;refine Mg L rfl rfl rfl rfl rfl (Ct.A (Sb L X (a:=36) (m:=24) (bs:=ex) (r:=r) (cb:=cb) (o:=0+4+1+3+8+8+4+4+4) (at_:=0+4+1+3+8+8+4+4+4) (n:=64 - 4 - 1 - 3 - 8 - 8 - 4 - 4 - 4) lkp (BS.part (o:=0) (a:=36) (n:=24) (bs:=ex) (k:=by exact lkb) (by omega)) (by omega) (by omega) (by omega) (by omega) w5)) ?_;rintro _ h12 ⟨rfl,xh12,zh12⟩;have nh12:=zh12.n;simp only [Aj]at nh12;by_cases hy:zer ex 36 24=true;rotate_left;·rw [if_neg hy];refine wk ?_;refine En L rfl rfl rfl rfl rfl (H3 L X) ?_;rintro _ _ ⟨rfl,rfl⟩;rw [H4 a1 hl1 (by intro q;exact hy q.2.2.2.1)]at G;exact Fd L X rfl rfl lkp lkp (by omega) G fun h9 k9=>⟨⟨6,rfl,by simp,by omega⟩,Kp.trS k9 (fun i hi e=>by omega) kps⟩
 rw [if_pos hy];refine cal ?_ (c:=T1 L X (s:=I0 ex) (Aa4 a1));rintro _ hl ⟨rfl,zhl⟩;have nhl:=zhl.n;simp only [Aj]at nhl;by_cases hv:(I0 ex).Valid;rotate_left;·rw [decide_eq_false hv];refine wk ?_;refine En L rfl rfl rfl rfl rfl (H3 L X) ?_;rintro _ _ ⟨rfl,rfl⟩;rw [H4 a1 hl1 (by intro q;exact hv q.2.2.2.2)]at G;exact Fd L X rfl rfl lkp lkp (by omega) G fun h9 k9=>⟨⟨6,rfl,by simp,by omega⟩,Kp.trS k9 (fun i hi e=>by omega) kps⟩
 rw [decide_eq_true hv];refine cal ?_ (c:=E1 L X);rintro _ rfl;refine wk ?_;rw [nf a1 hl1 hc hg hz hy hv]at G;refine Eh L (todo:= []) ?_;exact xj L X rfl rfl lkp lkp G ⟨⟨0,rfl,by simp,by omega⟩,kps⟩
theorem H8:Ct P0 E F K 120 [.bool true,.int .i64 e] h fun v h'=>v= .tup []∧h'=h:=by refine Ad L X.f120 fun Q x cs G=>?_;refine ret X.f120.1 ?_;exact⟨rfl,rfl⟩
theorem Oh:CtP P0 E F K 120 [.bool false,.int .i64 e] h fun v h'=>v= .ifc 44 (.int .i64 e)∧h'=h:=by refine Fh L X.f120 fun Q x cs G=>?_;refine wk ?_;refine Mh L rfl rfl ?_;refine Au L X.f120.1 ?_;exact G _ _ ⟨rfl,rfl⟩
theorem ap {n:Nat}:Ct P0 E F K 121 [UN n,Zi] h fun v h'=>v= UN n∧h'=h:=by refine Ad L X.f121 fun Q x cs G=>?_;refine cal ?_ (c:=H8 L X);rintro _ rfl;refine ret X.f121.1 ?_;exact⟨rfl,rfl⟩
theorem Aa7 {n c:Nat}(k:Bk h r [.slc cb o n c,w]):Ct P0 E F K 123 [.ptr r 0] h fun v h'=>v= AN n∧h'=h:=by refine Am L X.f123 fun Q x cs G=>?_;refine cal ?_ (c:=M0 L X);rintro _ rfl;refine ret X.f123.1 ?_;exact⟨rfl,rfl⟩
def rdC (cb a sz:Nat):List AV:= [.slc cb a (sz - a) (Aa+1),AN a]
theorem Sj {a sz:Nat}{bs:List Nat}(k:Bk h r (rdC cb a sz))(kb:BS h cb 0 bs)(hl:bs.length=sz)(hs:sz<1000)(ham:a+m≤sz)(hm:1≤m∧m≤8)(hne:cb≠r): Ct P0 E F K 68 [.ptr r 0,AN m] h fun v h'=>v= .tup [UN (leF bs a m),Zi]∧Bk h' r (rdC cb (a+m) sz)∧Kp (fun j=>j=r) h h':=by have k2:=BS.part (a:=a) (n:=m) kb (by omega);rw [Nat.zero_add]at k2;refine(Ls L X (a:=a) (bs:=bs) (at_:=a) (n:=sz - a) (cb:=cb) (o:=a) k k2 (by omega) (by omega) hm (by omega) (by omega) hne).mono fun v h' q=>⟨q.1,?_,q.2.2⟩;unfold rdC;rw [←Nat.sub_sub];exact q.2.1
theorem Kb {Q:Nat→AV→Prop}{l:List (Nat×Option AV)}{cs:List AFr}{b2:Nat}(t2:look l 2=some (.ptr b2 0))(t3:look l 3=some (.ptr b3 0)) (k2:Bk h b2 [x0]) (k3:Bk h b3 [y0]) (hne:b2≠b3) (hG: ∀v h',post v h'→GO P0 E Q (finish v cs h' z)) (hp1: ∀h',Kp (fun j=>j=b2∨j=b3) h h'→post (.tup [.nils,.int .i64 e]) h'): Good P0 E Q ⟨⟨78,nt,tms l,todo,[.call 119 [.ptr b2 0,.ptr b3 0]],.panicking [(.ifc 44 (.int .i64 e),false)],false,none⟩,z::cs,h⟩:=by have l2:=k2.lt;have l3:=k3.lt;refine Dr L (by intro q;cases q) X.f119.1 rfl rfl rfl ?_;refine Ln L rfl ?_;refine wk ?_;(apply K8 L rfl rfl rfl rfl rfl rfl rfl;exact lkp;rfl;intro h9 hs9;(repeat(first|(apply A6 rfl rfl;exact opv)|(apply Ll rfl rfl)));(first|(apply p_0;exact chk)|(refine N1 L ?_ rfl ?_;exact chk));refine L7 L hs9 ?_);refine wk ?_;refine Jz L X.f119.1 rfl ?_;refine Ei L X.f78.1 (Dj t2 (Bk.e lkp) rfl (Dj t3 (Bk.e lkp) rfl I8)) hG (hp1 _ kps)
theorem nv {Q:Nat→AV→Prop}{l:List (Nat×Option AV)}{cs:List AFr}{b2:Nat}(t2:look l 2=some (.ptr b2 0))(t3:look l 3=some (.ptr b3 0)) (k2:Bk h b2 [x0]) (k3:Bk h b3 [y0]) (hG: ∀v h',post v h'→GO P0 E Q (finish v cs h' z)) (hp1:post (.tup [x0,y0]) h): Good P0 E Q ⟨⟨78,nt,tms l,todo,[.call 119 [.ptr b2 0,.ptr b3 0]],.returning,false,none⟩,z::cs,h⟩:=by refine Dr L (by intro q;cases q) X.f119.1 rfl rfl rfl ?_;refine Fv L rfl ?_;refine wk ?_;(apply st1 L rfl;exact N0 (k:=true) rfl rfl;rfl);refine wk ?_;refine Jz L X.f119.1 rfl ?_;refine Ei L X.f78.1 (Dj t2 (Bk.e lkp) rfl (Dj t3 (Bk.e lkp) rfl I8)) hG hp1
theorem Aa8 {n c:Nat}{bs:List Nat}(k:BS h b o bs)(hl:bs.length=n)(hn:12≤n∧n<1000): Ct P0 E F K 78 [.slc b o n c] h fun v h'=>(∃(u:AV) (e:Nat),v= .tup [u,AN e]∧EL h' h.n u ((Vs bs).getD [])∧(e=0↔(Vs bs).isSome=true)∧e<1000)∧K0 h h':=by
 have ha:=k.all;have l1:=k.lt_n;have bN:jN bs<4294967296:=G6 ha 4 0;have bad: ¬JOk bs→Vs bs=none:=fun q=>if_neg q;have good:JOk bs→Vs bs=some (Ec bs (jN bs)):=fun q=>if_pos q;refine Am L X.f78 fun Q x cs G=>?_;refine wk ?_;refine Hx L rfl rfl rfl rfl ?_;refine cal ?_ (c:=Gj L X (sz:=n) (by omega));rintro _ rfl;refine cal ?_ (c:=H8 L X);rintro _ rfl;refine cal ?_ (c:=Mz L X (bs:=bs) lkb hl (by omega));rintro _ h2 ⟨r,cb,rfl,w1,w2,w3,w4,w5,w6⟩;have n2:=w6.n;have m1:=w1.lt;have m2:=w2.lt_n;simp only [Aj]at n2 w3 w4;have w1':Bk h2 r (rdC cb 0 n):=w1;refine cal ?_ (c:=Sj L X (a:=0) (m:=4) (bs:=bs) (sz:=n) (cb:=cb) (by exact lkp) lkb hl (by omega) (by omega) (by omega) w5);rintro _ h3 ⟨rfl,w7,w8⟩;have n3:=w8.n;simp only [Aj]at n3;have eN:leF bs 0 4=jN bs:=rfl;rw [eN];refine cal ?_ (c:=ap L X (n:=jN bs));rintro _ rfl;by_cases hN:(n - 4) / 8<jN bs;·refine wk ?_;refine En L rfl rfl rfl rfl rfl (Oh L X) ?_;rintro _ _ ⟨rfl,rfl⟩;rw [bad (by rintro⟨q,_⟩;rw [hl]at q;omega)]at G;exact Kb L X rfl rfl lkp lkp (by omega) G fun h9 k9=>⟨⟨.nils,6,rfl,EL.nil _ _,by simp,by omega⟩,Kp.trS k9 (fun i hi e=>by omega) kps⟩
 refine cal ?_ (c:=H8 L X);rintro _ rfl;refine wk ?_;refine B9 L (α:= AV) (T:=fun i v=> [(29,some (AN i)),(28,some (AN (jN bs))),(5,some (.ptr r 0)),(3,some (.ptr (h.n+1) 0)),(2,some (.ptr h.n 0))]) (n:=jN bs) (R:=fun i v h4=>EL h4 h3.n v (Ec bs i)∧(∀e∈Ec bs i,e.Ok)∧Bk h4 h.n [v]∧Bk h4 (h.n+1) [Zi]∧Bk h4 r (rdC cb (4+8*i) n)∧BS h4 cb 0 bs∧h3.n≤h4.n∧K0 h h4) (i0:=0) .nils tsb ⟨EL.nil _ _,(by intro e he;cases he),lkp,lkp,lkp,lkb,Nat.le_refl _,kps⟩ (Nat.zero_le _) ?_ ?_
 ·rintro i v h4 hi ⟨u1,u2,u3,u4,u5,u6,u7,u8⟩ ih;have x1:=G6 ha 4 (4+8*i);have x2:=G6 ha 4 (8+8*i);have eE:Lu bs i=(((leF bs (4+8*i) 4:Nat):Int),((leF bs (8+8*i) 4:Nat):Int) - 1):=rfl;rw [Sd]at ih;refine cal ?_ (c:=Sj L X (a:=4+8*i) (m:=4) (bs:=bs) (sz:=n) (cb:=cb) (by exact lkp) lkb hl (by omega) (by omega) (by omega) w5);rintro _ h5 ⟨rfl,w9,w10⟩;have n5:=w10.n;simp only [Aj]at n5;refine cal ?_ (c:=ap L X);rintro _ rfl;refine wk ?_;rw [show 4+8*i+4=8+8*i by omega]at w9;refine cal ?_ (c:=Sj L X (a:=8+8*i) (m:=4) (bs:=bs) (sz:=n) (cb:=cb) (by exact lkp) lkb hl (by omega) (by omega) (by omega) w5);rintro _ h6 ⟨rfl,w11,w12⟩;have n6:=w12.n;simp only [Aj]at n6;refine cal ?_ (c:=ap L X);rintro _ rfl;refine cal ?_ (c:=Rz L X (e:=Lu bs i));rintro _ h7 ⟨rfl,w13⟩;have n7:=w13.n;simp only [Aj]at n7;by_cases hok:(Lu bs i).Ok;rotate_left;·rw [decide_eq_true hok];refine wk ?_;refine En L rfl rfl rfl rfl rfl (Oh L X) ?_;rintro _ _ ⟨rfl,rfl⟩;rw [bad (by rintro⟨_,q,_⟩;exact hok (q _ (List.mem_map_of_mem (List.mem_range.2 hi))))]at G;exact Kb L X rfl rfl lkp lkp (by omega) G fun h9 k9=>⟨⟨.nils,6,rfl,EL.nil _ _,by simp,by omega⟩,Kp.trS k9 (fun i hi e=>by omega) kps⟩
  rw [decide_eq_false (show¬ ¬(Lu bs i).Ok from fun q=>q hok)];refine cal ?_ (c:=H8 L X);rintro _ rfl;have hall: ∀e∈Ec bs i++ [Lu bs i],e.Ok:=by
   intro e he;rcases List.mem_append.1 he with he|he;·exact u2 e he
   ·rw [List.mem_singleton.1 he];exact hok
  have u1l:=u1.len;rw [Gq]at u1l;have e8:4+8*(i+1)=8+8*i+4:=by omega
  rcases u1l with⟨e0,rfl⟩|⟨gn,lb,rfl,g5,g6⟩
  ·refine wk ?_;(apply st1 L rfl;exact D6 (new:=Aq (Lu bs i)) rfl rfl (SlR.of (c:=Aq (Lu bs i)) lkp (Nat.le_refl _) rfl) (by omega) (by omega);rfl);refine wk ?_;refine ih _ _ _ ⟨?_,hall,lkp,lkp,?_,lkb,by simp only [Aj];omega,kps⟩ tsb;·rw [e0,List.nil_append];exact EL.app (l:= []) (by exact lkp) (by omega) rfl
   ·rw [e8];exact lkp
  ·have g8:=g5.lt;refine wk ?_;(apply st1 L rfl;exact D8 (old:=(Ec bs i).flatMap Aq) (new:=Aq (Lu bs i)) rfl rfl (SlR.of (c:=(Ec bs i).flatMap Aq) lkp (by rw [A1,Gq];omega) (by rw [List.drop_zero,List.take_of_length_le (by rw [A1,Gq];exact Nat.le_refl _)])) (SlR.of (c:=Aq (Lu bs i)) lkp (Nat.le_refl _) rfl) (by omega) (by omega) rfl;rfl);refine wk ?_;refine ih _ _ _ ⟨?_,hall,lkp,lkp,?_,lkb,by simp only [Aj];omega,kps⟩ tsb;·exact EL.app (l:=Ec bs i) (by exact lkp) (by omega) (Gq _ _)
   ·rw [e8];exact lkp
 ·rintro v h4 ⟨u1,u2,u3,u4,u5,u6,u7,u8⟩;refine cal ?_ (c:=Aa7 L X u5);rintro _ rfl;refine wk ?_;have zk:=BS.part (o:=0) (a:=4+8*jN bs) (n:=n - (4+8*jN bs)) u6 (by omega);rw [Nat.zero_add]at zk;refine cal ?_ (c:=Sb L X (a:=4+8*jN bs) (m:=n - (4+8*jN bs)) (bs:=bs) (r:=r) (cb:=cb) (o:=4+8*jN bs) (at_:=4+8*jN bs) (n:=n - (4+8*jN bs)) u5 zk (by omega) (by omega) (by omega) (by omega) w5);rintro _ h5 ⟨rfl,w9,w10⟩;have n5:=w10.n;by_cases hz:zer bs (4+8*jN bs) (n - (4+8*jN bs))=true
  ·rw [if_pos hz];rw [good ⟨by rw [hl];omega,u2,by rw [hl];exact hz⟩]at G;have u9:=u1.kS w10 (by intro b hb;omega);rcases u1.ex with⟨e1,rfl⟩|⟨e1,b',rfl,e2,e3⟩
   all_goals
    refine cal ?_ (c:=H8 L X);rintro _ rfl;refine wk ?_;refine Eh L (todo:= []) ?_;exact nv L X rfl rfl lkp lkp G ⟨⟨_,0,rfl,EL.mono (u9.kS (S:=fun j=>j=h.n∨j=h.n+1) kps (by intro b hb;omega)) (by omega),by simp,by omega⟩,kps⟩
  ·rw [if_neg hz];refine wk ?_;refine En L rfl rfl rfl rfl rfl (Oh L X) ?_;rintro _ _ ⟨rfl,rfl⟩;rw [bad (by rintro⟨_,_,q⟩;rw [hl]at q;exact hz q)]at G;exact Kb L X rfl rfl lkp lkp (by omega) G fun h9 k9=>⟨⟨.nils,6,rfl,EL.nil _ _,by simp,by omega⟩,Kp.trS k9 (fun i hi e=>by omega) kps⟩
theorem Aff {s:Sp}(j:s.Jr):Ct P0 E F K 124 [.agg (spC s)] h fun v h'=>v= .tup [H5 (Bi s),.bool true]∧K0 h h':=by
 obtain⟨⟨v1,v2,v3,v4,v5,v6⟩,⟨o1,o2,o3⟩,hk⟩:=j;obtain⟨kind,sec,seq,prev,idx,len⟩:=s;simp only at v1 v2 v3 v4 v5 v6 o1 o2 o3 hk;obtain⟨i,rfl⟩: ∃i:Nat,idx=(i:Int):=⟨idx.toNat,by omega⟩;obtain⟨n,rfl⟩: ∃n:Nat,len=(n:Int):=⟨len.toNat,by omega⟩;obtain⟨rfl,w1,w2⟩:sec=0∧prev<seq∧i<seq - prev:=by
  rcases v6 with q|q;·omega
  ·simp only [Int.toNat_natCast]at q;exact⟨q.2.1,q.2.2.1,q.2.2.2⟩
 rcases hk with rfl|rfl;·show Ct P0 E F K 124 [.agg [.int .u8 ((2:Nat):Int),Zi,UN seq,UN prev,AN i,AN n]] h _;refine Am L X.f124 fun Q x cs G=>?_;refine wk ?_;(apply st1 L rfl;exact Ju rfl rfl rfl (by omega) (by simp only [pw];omega);rfl);refine wk ?_;(apply st1 L rfl;exact Ju rfl rfl rfl (by omega) (by simp only [pw];omega);rfl);refine ret X.f124.1 ?_;exact⟨rfl,kps⟩
 ·show Ct P0 E F K 124 [.agg [.int .u8 ((3:Nat):Int),Zi,UN seq,UN prev,AN i,AN n]] h _;refine Am L X.f124 fun Q x cs G=>?_;refine wk ?_;(apply st1 L rfl;exact Ju rfl rfl rfl (by omega) (by simp only [pw];omega);rfl);refine wk ?_;(apply st1 L rfl;exact Ju rfl rfl rfl (by omega) (by simp only [pw];omega);rfl);refine ret X.f124.1 ?_;exact⟨rfl,kps⟩
omit L X
def pgV (a e:Nat):AV:= .agg [.map a,AN e]
def Top (W:Rec→Bool)(B:Rec→Rec→Bool)(Y:List Rec)(is:Bool)(out:Rec):Prop:=
 (is=false∧ ∀y∈Y,W y=false)∨(is=true∧out∈Y∧W out=true∧ ∀z∈Y,W z=true→z=out∨B out z=true)
theorem Top.mem {Y Y':List Rec}{out:Rec}(q:Top W B Y is out)(e: ∀y,y∈Y↔y∈Y'):Top W B Y' is out:=by
 rcases q with⟨h1,h2⟩|⟨h1,h2,h3,h4⟩;·exact .inl ⟨h1,fun y hy=>h2 y ((e y).2 hy)⟩
 ·exact .inr ⟨h1,(e _).1 h2,h3,fun z hz=>h4 z ((e z).2 hz)⟩
theorem Top.skip {W:Rec→Bool}{B:Rec→Rec→Bool}{Y:List Rec}{is:Bool}{out y:Rec}(q:Top W B Y is out)(e:W y=false):Top W B (Y++ [y]) is out:=by
 rcases q with⟨h1,h2⟩|⟨h1,h2,h3,h4⟩;·exact .inl ⟨h1,fun z hz=>(List.mem_append.1 hz).elim (h2 z) fun f=>by rw [List.mem_singleton.1 f];exact e⟩
 ·exact .inr ⟨h1,List.mem_append_left _ h2,h3,fun z hz w=>(List.mem_append.1 hz).elim (fun f=>h4 z f w) fun f=>by rw [List.mem_singleton.1 f,e]at w;cases w⟩
theorem Top.first {Y:List Rec}{out:Rec}(q:Top W B Y false out)(e:W y=true):Top W B (Y++ [y]) true y:=by
 rcases q with⟨h1,h2⟩|⟨h1,_⟩;·exact .inr ⟨rfl,by simp,e,fun z hz w=>(List.mem_append.1 hz).elim (fun f=>by rw [h2 z f]at w;cases w) fun f=> .inl (List.mem_singleton.1 f)⟩
 ·cases h1
theorem Top.better {Y:List Rec}{out:Rec}(tr: ∀a b c,B a b=true→B b c=true→B a c=true)(q:Top W B Y true out)(e:W y=true)(b:B y out=true):Top W B (Y++ [y]) true y:=by
 rcases q with⟨h1,_⟩|⟨h1,h2,h3,h4⟩;·cases h1
 ·exact .inr ⟨rfl,by simp,e,fun z hz w=>(List.mem_append.1 hz).elim (fun f=>(h4 z f w).elim (fun g=> .inr (by rw [g];exact b)) fun g=> .inr (tr _ _ _ b g)) fun f=> .inl (List.mem_singleton.1 f)⟩
theorem Top.keep {Y:List Rec}{out:Rec}(q:Top W B Y true out)(tot:y≠out→B y out=true∨B out y=true)(b:B y out=false):Top W B (Y++ [y]) true out:=by
 rcases q with⟨h1,_⟩|⟨h1,h2,h3,h4⟩;·cases h1
 ·refine .inr ⟨rfl,List.mem_append_left _ h2,h3,fun z hz w=>(List.mem_append.1 hz).elim (fun f=>h4 z f w) fun f=>?_⟩;rw [List.mem_singleton.1 f];by_cases e:y=out;·exact .inl e
  ·rcases tot e with g|g;·rw [b]at g;cases g
   ·exact .inr g
include L X
theorem Lv {ck fw fb:Nat}{capw capb:List AV}(q:MOk M ck)(k:Mk h r (M.map (mE H5)) ck) (hv: ∀y∈M,∃a e,y.2.1=pgV a e) (hW: ∀y∈M,∀h2,K0 h h2→Ct P0 E F K fw (H5 y.1::y.2.1::capw) h2 fun v h'=>v= .bool (W y.1)∧K0 h2 h') (hB: ∀y∈M,∀z∈M,∀h2,K0 h h2→Ct P0 E F K fb (H5 y.1::H5 z.1::capb) h2 fun v h'=>v= .bool (B y.1 z.1)∧K0 h2 h') (tr: ∀a b c,B a b=true→B b c=true→B a c=true) (tot: ∀y∈M,∀z∈M,y.1≠z.1→B y.1 z.1=true∨B z.1 y.1=true): Ct P0 E F K 128 [.map r,.fn (.func fw) [] capw,.fn (.func fb) [] capb] h fun v h'=> ∃out is,v= .tup [H5 out,.bool is]∧Top W B (M.map (·.1)) is out∧K0 h h':=by
 have l1:=k.lt;refine Ba L X.f128 fun Q x cs G=>?_;refine wk ?_;(apply st1 L rfl;exact Va rfl lkq;rfl);refine wk ?_;refine ju L (α:= List (Rec×AV×Nat)×Bool×Rec) (T:=fun s=> [(11,some (.ptr (h.n+1) 0)),(7,some (.bool s.2.1)),(6,some (.ptr h.n 0)),(1,some (.fn (.func fw) [] capw)),(2,some (.fn (.func fb) [] capb))]) (mu:=fun s=>muM M s.1) (R:=fun s hh=>Gk hh (h.n+1) (.miter (some r) ck (s.1.map (·.2.2)) ck)∧(∀y∈s.1,y∈M)∧(s.1.map (·.2.2)).Nodup∧Bk hh h.n [.int .u8 ((s.2.2.1:Nat):Int),UN s.2.2.2.1,UN s.2.2.2.2.1,AN s.2.2.2.2.2]∧Top W B (s.1.map (·.1)) s.2.1 s.2.2∧K0 h hh) ([],false,(0,0,0,0)) tsb ⟨lkg,(fun y hy=>by cases hy),List.nodup_nil,lkp,.inl ⟨rfl,fun y hy=>by cases hy⟩,kps⟩ ?_;rintro⟨Y,is,out⟩ hh ⟨i1,i2,i3,i4,i5,i6⟩ ih;simp only at i1 i2 i3 i4 i5;have l4:=i1.lt;refine wk ?_;refine Vb L rfl rfl (M:=M) (enc:=H5) (ck:=ck) (it:=h.n+1) (m:=r) (seen:=Y.map (·.2.2)) lkg lkq q.lt ?_ ?_;·intro hall;refine ret X.f128.1 ?_;refine⟨out,is,rfl,?_,kps⟩;exact i5.mem fun z=>((N4 q i2 i3 hall).map (·.1)).mem_iff
 ·intro y hy hn;have hmu:=R2 hy hn;obtain⟨pa,pe,hpg⟩:=hv y hy;have hWy:=hW y hy;rw [hpg]at hWy
  have fin: ∀(is':Bool) (out':Rec) (h9:H) (l9:List (Nat×Option AV)),Top W B (Y.map (·.1)++ [y.1]) is' out'→Gk h9 (h.n+1) (.miter (some r) ck (Y.map (·.2.2)++ [y.2.2]) ck)→Bk h9 h.n [.int .u8 (out'.1:Int),UN out'.2.1,UN out'.2.2.1,AN out'.2.2.2]→K0 h h9→
    TSub (tms [(11,some (.ptr (h.n+1) 0)),(7,some (.bool is')),(6,some (.ptr h.n 0)),(1,some (.fn (.func fw) [] capw)),(2,some (.fn (.func fb) [] capb))]) (tms l9)→Good P0 E Q ⟨⟨128,cf128.ntmps,tms l9,[.inLoop ce,.inBlock 0,.code cf],[],.run,false,none⟩,x::cs,h9⟩:=by
   intro is' out' h9 l9 t1 t2 t3 t4 t5
   refine ih (Y++ [y],is',out') h9 l9 hmu ⟨?_,?_,Zl i3 hn,t3,?_,t4⟩ t5
   ·rw [List.map_append];exact t2
   ·intro z hz
    rcases List.mem_append.1 hz with hz|hz
    ·exact i2 z hz
    ·rw [List.mem_singleton.1 hz];exact hy
   ·rw [List.map_append];exact t1
  clear ih;refine wk ?_;(apply st1 L rfl;exact Vc q rfl lkg lkq hy;rfl);rw [hpg];refine wk ?_;refine Mg L rfl rfl rfl rfl rfl (hWy _ kps).A ?_;rintro _ h3 ⟨rfl,w1⟩;have n3:=w1.n;simp only [Aj]at n3
  cases hw:W y.1 with
  |false=>refine wk ?_;exact fin is out _ _ (i5.skip hw) lkg lkp kps tsb
  |true=>
   cases is with
   |false=>refine wk ?_;exact fin true y.1 _ _ (i5.first hw) lkg lkp kps tsb
   |true=>
    have hin:out∈Y.map (·.1):=by
     rcases i5 with⟨e,_⟩|⟨_,e,_⟩;·cases e
     ·exact e
    obtain⟨z,hz,rfl⟩:=List.mem_map.1 hin;refine wk ?_;refine Mg L rfl rfl rfl rfl rfl (hB y hy z (i2 z hz) _ kps).A ?_;rintro _ h4 ⟨rfl,w2⟩;have n4:=w2.n;simp only [Aj]at n4
    cases hb:B y.1 z.1 with
    |false=>refine wk ?_;exact fin true z.1 _ _ (i5.keep (fun e=>tot y hy z (i2 z hz) e) hb) lkg lkp kps tsb
    |true=>refine wk ?_;exact fin true y.1 _ _ (i5.better tr hw hb) lkg lkp kps tsb
omit L X
def aq (E0:Rec→Nat)(a b:Rec):Bool:=decide (b.2.1<a.2.1) || (decide (a.2.1=b.2.1) && decide (E0 a<E0 b))
theorem Vx {E0:Rec→Nat}(a b c:Rec)(h1:aq E0 a b=true)(h2:aq E0 b c=true):aq E0 a c=true:=by unfold aq at*;simp only [Bool.or_eq_true,Bool.and_eq_true,decide_eq_true_eq]at*;omega
theorem x6 {E0:Rec→Nat}(a b:Rec)(h:E0 a≠E0 b):aq E0 a b=true∨aq E0 b a=true:=by unfold aq;simp only [Bool.or_eq_true,Bool.and_eq_true,decide_eq_true_eq];omega
include L X
theorem Afg {a e:Nat}(ka:Mk h a (Mi.map (mE AI)) ci):Ct P0 E F K 126 [H5 k,pgV a e] h fun v h'=>v= .bool (decide (k.1=3) && decide (Mi.length=k.2.2.2))∧K0 h h':=by
 have l1:=ka.lt;obtain⟨k0,k1,k2,k3⟩:=k;by_cases h0:k0=3
 ·by_cases h1:Mi.length=k3;·rw [show(decide ((k0,k1,k2,k3).1=3) && decide (Mi.length=(k0,k1,k2,k3).2.2.2))=true by simp [h0,h1]];refine Ad L X.f126 fun Q x cs G=>?_;refine wk ?_;(apply st1 L rfl;exact Rs rfl lkq;rfl);refine ret X.f126.1 ?_;exact⟨rfl,kps⟩
  ·rw [show(decide ((k0,k1,k2,k3).1=3) && decide (Mi.length=(k0,k1,k2,k3).2.2.2))=false by simp [h0,h1]];refine Ad L X.f126 fun Q x cs G=>?_;refine wk ?_;(apply st1 L rfl;exact Rs rfl lkq;rfl);refine ret X.f126.1 ?_;exact⟨rfl,kps⟩
 ·rw [show(decide ((k0,k1,k2,k3).1=3) && decide (Mi.length=(k0,k1,k2,k3).2.2.2))=false by simp [h0]];refine Ad L X.f126 fun Q x cs G=>?_;refine ret X.f126.1 ?_;exact⟨rfl,kps⟩
theorem Afh {a e c lst:Nat}{u:AV}(ka:Mk h a (Mi.map (mE AI)) ci)(kc:Bk h c [u,UN lst,w]):Ct P0 E F K 127 [H5 k,pgV a e,.ptr c 0] h fun v h'=>v= .bool (decide (k.1=2) && decide (Mi.length=k.2.2.2) && decide (k.2.2.1=lst))∧K0 h h':=by
 have l1:=ka.lt;have l2:=kc.lt;obtain⟨k0,k1,k2,k3⟩:=k;by_cases h0:k0=2
 ·by_cases h1:Mi.length=k3
  ·by_cases h2:k2=lst;·rw [show(decide ((k0,k1,k2,k3).1=2) && decide (Mi.length=(k0,k1,k2,k3).2.2.2) && decide ((k0,k1,k2,k3).2.2.1=lst))=true by simp [h0,h1,h2]];refine Ba L X.f127 fun Q x cs G=>?_;refine wk ?_;(apply st1 L rfl;exact Rs rfl lkq;rfl);refine ret X.f127.1 ?_;exact⟨rfl,kps⟩
   ·rw [show(decide ((k0,k1,k2,k3).1=2) && decide (Mi.length=(k0,k1,k2,k3).2.2.2) && decide ((k0,k1,k2,k3).2.2.1=lst))=false by simp [h0,h1,h2]];refine Ba L X.f127 fun Q x cs G=>?_;refine wk ?_;(apply st1 L rfl;exact Rs rfl lkq;rfl);refine ret X.f127.1 ?_;exact⟨rfl,kps⟩
  ·rw [show(decide ((k0,k1,k2,k3).1=2) && decide (Mi.length=(k0,k1,k2,k3).2.2.2) && decide ((k0,k1,k2,k3).2.2.1=lst))=false by simp [h0,h1]];refine Ba L X.f127 fun Q x cs G=>?_;refine wk ?_;(apply st1 L rfl;exact Rs rfl lkq;rfl);refine ret X.f127.1 ?_;exact⟨rfl,kps⟩
 ·rw [show(decide ((k0,k1,k2,k3).1=2) && decide (Mi.length=(k0,k1,k2,k3).2.2.2) && decide ((k0,k1,k2,k3).2.2.1=lst))=false by simp [h0]];refine Ba L X.f127 fun Q x cs G=>?_;refine ret X.f127.1 ?_;exact⟨rfl,kps⟩
theorem Afi {ck aa ab ea eb:Nat}{a b:Rec}(kb:Bk h rb [.map r])(k:Mk h r (M.map (mE H5)) ck)(ha:A4 M a=some (pgV aa ea))(hb:A4 M b=some (pgV ab eb)): Ct P0 E F K 125 [H5 a,H5 b,.ptr rb 0] h fun v h'=>v= .bool (decide (b.2.1<a.2.1) || (decide (a.2.1=b.2.1) && decide (ea<eb)))∧K0 h h':=by
 have l1:=k.lt;have l2:=kb.lt;by_cases h0:b.2.1<a.2.1;·rw [show(decide (b.2.1<a.2.1) || (decide (a.2.1=b.2.1) && decide (ea<eb)))=true by simp [h0]];refine Ba L X.f125 fun Q x cs G=>?_;refine ret X.f125.1 ?_;exact⟨rfl,kps⟩
 by_cases h1:a.2.1=b.2.1
 ·have e1:(decide (b.2.1<a.2.1) || (decide (a.2.1=b.2.1) && decide (ea<eb)))=decide (ea<eb):=by simp [h0,h1]
  rw [e1];by_cases h2:ea<eb;·rw [decide_eq_true h2];refine Ba L X.f125 fun Q x cs G=>?_;(try refine B0 L 1000 rfl ?_);(repeat(first|(apply st1 L rfl;exact⟨G1 rfl⟩;rfl)|(apply st1 L rfl;exact Mb rfl rfl rfl;rfl)|(apply st1 L rfl;exact Ip rfl rfl (by omega);rfl)|(apply st1 L rfl;exact D2 rfl rfl (by omega);rfl)|(apply st1 L rfl;(apply Ff rfl;exact lkp;first|rfl|assumption);rfl)));refine Uy L ?_;(repeat(first|(apply A6 rfl rfl;exact⟨G1 rfl⟩)|(apply A6 rfl rfl;exact Rp rfl rfl (by omega))|(apply A6 rfl rfl;exact Wt rfl rfl (by omega))|(apply A6 rfl rfl;(apply Ff rfl;exact lkp;first|rfl|assumption))|(apply A6 rfl rfl;(apply Kn rfl;exact lkp;rfl))|(apply Ll rfl rfl)));(apply A6 rfl rfl;exact C7 KE.recd rfl rfl lkq);rw [ha];(repeat(first|(apply A6 rfl rfl;exact⟨G1 rfl⟩)|(apply A6 rfl rfl;exact Rp rfl rfl (by omega))|(apply A6 rfl rfl;exact Wt rfl rfl (by omega))|(apply A6 rfl rfl;(apply Ff rfl;exact lkp;first|rfl|assumption))|(apply A6 rfl rfl;(apply Kn rfl;exact lkp;rfl))|(apply Ll rfl rfl)));(apply A6 rfl rfl;exact C7 KE.recd rfl rfl lkq);rw [hb];refine ret X.f125.1 ?_;exact⟨rfl,kps⟩
  ·rw [decide_eq_false h2];refine Ba L X.f125 fun Q x cs G=>?_;(try refine B0 L 1000 rfl ?_);(repeat(first|(apply st1 L rfl;exact⟨G1 rfl⟩;rfl)|(apply st1 L rfl;exact Mb rfl rfl rfl;rfl)|(apply st1 L rfl;exact Ip rfl rfl (by omega);rfl)|(apply st1 L rfl;exact D2 rfl rfl (by omega);rfl)|(apply st1 L rfl;(apply Ff rfl;exact lkp;first|rfl|assumption);rfl)));refine Uy L ?_;(repeat(first|(apply A6 rfl rfl;exact⟨G1 rfl⟩)|(apply A6 rfl rfl;exact Rp rfl rfl (by omega))|(apply A6 rfl rfl;exact Wt rfl rfl (by omega))|(apply A6 rfl rfl;(apply Ff rfl;exact lkp;first|rfl|assumption))|(apply A6 rfl rfl;(apply Kn rfl;exact lkp;rfl))|(apply Ll rfl rfl)));(apply A6 rfl rfl;exact C7 KE.recd rfl rfl lkq);rw [ha];(repeat(first|(apply A6 rfl rfl;exact⟨G1 rfl⟩)|(apply A6 rfl rfl;exact Rp rfl rfl (by omega))|(apply A6 rfl rfl;exact Wt rfl rfl (by omega))|(apply A6 rfl rfl;(apply Ff rfl;exact lkp;first|rfl|assumption))|(apply A6 rfl rfl;(apply Kn rfl;exact lkp;rfl))|(apply Ll rfl rfl)));(apply A6 rfl rfl;exact C7 KE.recd rfl rfl lkq);rw [hb];refine ret X.f125.1 ?_;exact⟨rfl,kps⟩
 ·rw [show(decide (b.2.1<a.2.1) || (decide (a.2.1=b.2.1) && decide (ea<eb)))=false by simp [h0,h1]];refine Ba L X.f125 fun Q x cs G=>?_;refine ret X.f125.1 ?_;exact⟨rfl,kps⟩
omit L X in
theorem ap0h {l:List (Nat×Option AV)}{x y:O}{sl size bytes:Nat} (e:evO l x=some (.slc b o sl cap))(e1:evO l y=some .nils):XV (.append size bytes x y) h l (.slc b o sl cap) h:=⟨by simp only [exec,Af,Ab e,Ab e1];rfl⟩
omit L X in
structure ChR (h:H)(lo c:Nat)(v1 v2:AV)(es:List Ent)(us:List Int):Prop where
 e:(es= []∧v1= .nils)∨(0<es.length∧ ∃b,v1= .slc b 0 es.length (Aa+2)∧Bk h b (es.flatMap Aq)∧lo≤b∧b≠c)
 u:(us= []∧v2= .nils)∨(0<us.length∧ ∃b,v2= .slc b 0 us.length (Aa+1)∧Bk h b (us.map AI)∧lo≤b∧b≠c)
 d: ∀b1 n1 c1 b2 n2 c2,v1= .slc b1 0 n1 c1→v2= .slc b2 0 n2 c2→b1≠b2
omit L X
theorem ChR.kp {h':H}{c:Nat}{S:Nat→Prop}{v1 v2:AV}{es:List Ent}{us:List Int}(q:ChR h lo c v1 v2 es us)(k:Kp S h h')(hs: ∀b,lo≤b→b≠c→ ¬S b):ChR h' lo c v1 v2 es us:=by
 refine⟨?_,?_,q.d⟩
 ·rcases q.e with e|⟨e1,b,e2,e3,e4,e5⟩;·exact .inl e
  ·exact .inr ⟨e1,b,e2,Ar k (hs b e4 e5) e3,e4,e5⟩
 ·rcases q.u with e|⟨e1,b,e2,e3,e4,e5⟩;·exact .inl e
  ·exact .inr ⟨e1,b,e2,Ar k (hs b e4 e5) e3,e4,e5⟩
def Afj (o:Rec):List AV:= [.int .u8 (o.1:Int),UN o.2.1,UN o.2.2.1,AN o.2.2.2]
def nI (l:List Nat):List Int:=l.map fun x=>((x:Nat):Int)
theorem Sk {ck:Nat}{out:Rec}(q:RcR h lo M ck P)(w:Top (Ee P kind prev) (Pr P) (M.map (·.1)) is out):BestP P kind prev (if is=true then some out else none):=by
 have hk: ∀k,isK P k→k∈M.map (·.1):=by
  intro k hk;unfold isK at hk
  cases h1:Da P k with
  |none=>rw [h1]at hk;cases hk
  |some e=>obtain⟨a,Mi,ci,g1,_⟩:=q.at_ k e h1;rw [Xq,g1];rfl
 rcases w with⟨h1,h2⟩|⟨h1,h2,h3,h4⟩;·rw [h1];exact fun k kk=>h2 k (hk k kk)
 ·rw [h1];refine⟨?_,h3,fun k kk w=>h4 k (hk k kk) w⟩;obtain⟨y,hy,rfl⟩:=List.mem_map.1 h2;obtain⟨a,Mi,ci,e,g1,g2,g3,_⟩:=q.ent hy;unfold isK;rw [g3];rfl
include L X
theorem ny {lv:AV}{l:List (JP×AV)}(hj: ∀x∈l,x.1.1.Jr)(hl0: ∀x∈l,EL h lo x.2 x.1.2)(hlv:(l= []∧lv= .nils)∨ ∃lb,lv= .slc lb 0 l.length (Aa+7)∧Bk h lb (l.flatMap jpC))(hlen:l.length≤100)(hes: ∀x∈l,x.1.2.length≤100)(hsq: ∀x∈l,x.1.1.seq<9223372036854775808)(U:SortOk P0 E F 129): Ct P0 E F K 79 [lv] h fun v h'=> ∃o ks v1 v2,v= .agg [v1,UN (chL ks),v2]∧StartP (l.map (·.1)) o∧RunP (l.map (·.1)) o ks∧EL h' h.n v1 (chE (l.map (·.1)) ks)∧RowN h' h.n v2 (Fc (nI (chU (l.map (·.1)) ks)))∧(chE (l.map (·.1)) ks).length≤1000000∧K0 h h':=by
 have hsl: ∀{i:Nat},i<l.length→ ∃lb,lv= .slc lb 0 l.length (Aa+7)∧Bk h lb (l.flatMap jpC):=fun hi=>hlv.elim (fun e=>absurd hi (by rw [e.1];exact Nat.not_lt_zero _)) id;refine Am L X.f79 fun Q x cs G=>?_
 have main: ∀(h0:H) (lq:List (Nat×Option AV)),Mk h0 (h.n+1) (([]:List (Rec×AV×Nat)).map (mE H5)) 0→Bk h0 (h.n+2) [.map (h.n+1)]→Bk h0 h.n [.nils,Zu,.nils]→h.n+3≤h0.n→K0 h h0→
   TSub (tms [(22,some Zi),(21,some (AN l.length)),(20,some lv),(3,some (.ptr (h.n+2) 0)),(2,some (.ptr h.n 0)),(0,some lv)]) (tms lq)→Good P0 E Q ⟨⟨79,cf79.ntmps,tms lq,[.code t8,.inBlock 0,.code ud,.inScope Y2],[],.run,false,none⟩,x::cs,h0⟩:=by
   intro h0 lq m1 m2 m3 m4 m5 ht
   refine B9 L (α:= List (Rec×AV×Nat)×Nat) (T:=fun i _=> [(22,some (AN i)),(21,some (AN l.length)),(20,some lv),(3,some (.ptr (h.n+2) 0)),(2,some (.ptr h.n 0)),(0,some lv)]) (n:=l.length)
     (R:=fun i s hh=>RcR hh (h.n+3) s.1 s.2 ((l.take i).map (·.1))∧Mk hh (h.n+1) (s.1.map (mE H5)) s.2∧Bk hh (h.n+2) [.map (h.n+1)]∧Bk hh h.n [.nils,Zu,.nils]∧h.n+3≤hh.n∧K0 h hh) (i0:=0) ([],0) ht ⟨RcR.nil _ _,m1,m2,m3,m4,m5⟩ (Nat.zero_le _) ?_ ?_
   · rintro i ⟨M,ck⟩ hh hi ⟨q,i2,i3,i4,i5,i6⟩ ih
     simp only at q i2
     obtain⟨lb,rfl,kl⟩:=hsl hi
     have l3:=kl.lt
     have hx:l[i]?=some l[i]:=List.getElem?_eq_getElem hi
     have hm:=List.getElem_mem hi
     have hjr:=hj _ hm
     have hel:=hl0 _ hm
     have hdt:=D3 l (Ku l) i _ hx
     have e1:((l.take (i+1)).map (·.1))=(l.take i).map (·.1)++ [l[i].1]:=by rw [List.take_add_one,hx,List.map_append];rfl
     have e2:((l.take i).map (·.1)).length=i:=by rw [List.length_map,List.length_take];omega
     generalize hP:(l.take i).map (·.1)=P at*
     generalize l[i]=y at*
     obtain⟨⟨s,es⟩,v⟩:=y
     simp only at hjr hel
     have hdt':i*7+7≤(l.flatMap jpC).length∧((l.flatMap jpC).drop (i*7)).take 7= [.int .u8 (s.kind:Int),.int .i64 s.sec,UN s.seq,UN s.prev,.int .i64 s.idx,.int .i64 s.len,v]:=hdt
     have k2:Bk hh lb (l.flatMap jpC):=Ag i6 kl
     have l4:=k2.lt
     have l6:=i2.lt
     rcases hel.ex with⟨_,rfl⟩|⟨_,eb,rfl,_,_⟩
     all_goals
       refine wk ?_
       (apply st1 L rfl;exact Bb k2.rk hdt' rfl;rfl)
       refine cal ?_ (c:=Aff L X hjr)
       rintro _ h3 ⟨rfl,w1⟩
       have n3:=w1.n
       simp only [Aj]at n3
       refine wk ?_
       cases hE:Da P (Bi s)with
       |none=>
         have hg:=q.no _ hE
         (apply st1 L rfl;exact Vt KE.recd rfl rfl lkq hg;rfl)
         refine wk ?_
         (apply I9 L rfl;exact F3 (k:=Bi s) KE.recd q.ok rfl rfl rfl lkq;rfl)
         refine wk ?_
         (apply st1 L rfl;exact Vt (KE.int .i64) (M:= []) (k:=s.idx) rfl rfl lkq rfl;rfl)
         refine wk ?_
         (apply I9 L rfl;exact F3 (M:= []) (k:=s.idx) (KE.int .i64) MOk.nil rfl rfl rfl lkq;rfl)
         refine wk ?_
         refine ih (Dp M ck (Bi s) (.agg [.map (h3.n+1+1),AN i]),mCk M ck (Bi s)) _ _ ⟨?_,by exact lkq,by exact lkp,by exact lkp,by simp only [Aj];omega,kps⟩ tsb
         rw [e1]
         have hv: ∀h9,RcR h9 (h.n+3) (Dp M ck (Bi s) (.agg [.map (h3.n+1+1),AN P.length])) (mCk M ck (Bi s)) (P++ [(s,es)])→RcR h9 (h.n+3) (Dp M ck (Bi s) (.agg [.map (h3.n+1+1),AN i])) (mCk M ck (Bi s)) (P++ [(s,es)]):=by
           intro h9 q9;rw [e2]at q9;exact q9
         refine hv _ (RcR.new (p:=(s,es)) (c':=0) q hE (by omega) (by omega) (by rw [e2];exact lkq) (fun b es c hb hb2 hmk=>by exact lkq))
       |some e=>
         obtain⟨a,Mi,ci,hg,ka,oi,la,hf⟩:=q.at_ _ _ hE
         have lka:=ka.lt
         (apply st1 L rfl;exact fc KE.recd rfl rfl lkq hg;rfl)
         cases hF:Ed P (Bi s) s.idx with
         |none=>
           have hg2:A4 Mi s.idx=none:=by rw [hf,hF];rfl
           refine wk ?_
           (apply st1 L rfl;exact Vt (KE.int .i64) (M:=Mi) (k:=s.idx) rfl rfl lkq hg2;rfl)
           refine wk ?_
           (apply I9 L rfl;exact F3 (M:=Mi) (k:=s.idx) (KE.int .i64) oi rfl rfl rfl lkq;rfl)
           refine wk ?_
           refine ih (M,ck) _ _ ⟨?_,by exact lkq,by exact lkp,by exact lkp,by simp only [Aj];omega,kps⟩ tsb
           rw [e1]
           refine RcR.add (p:=(s,es)) (c':=0) q hE hF hg oi la hf (by rw [e2];exact lkq) (fun b es c hb hne hmk=>by have:=hmk.lt;exact lkq)
         |some j=>
           have hg2:A4 Mi s.idx=some (AN j):=by rw [hf,hF];rfl
           refine wk ?_
           (apply st1 L rfl;exact fc (KE.int .i64) (M:=Mi) (k:=s.idx) rfl rfl lkq hg2;rfl)
           refine wk ?_
           refine ih (M,ck) _ _ ⟨?_,by exact lkq,by exact lkp,by exact lkp,by simp only [Aj];omega,kps⟩ tsb
           rw [e1]
           refine RcR.twice (p:=(s,es)) q hE hF (fun b es c hb hmk=>by have:=hmk.lt;exact lkq)
   · rintro⟨M,ck⟩ hh ⟨q,i2,i3,i4,i5,i6⟩
     rw [List.take_length]at q
     simp only at q i2
     have hjP: ∀p∈l.map (·.1),p.1.Jr:=by
       intro p hp
       obtain⟨x,hx,rfl⟩:=List.mem_map.1 hp
       exact hj x hx
     have hsP: ∀p∈l.map (·.1),p.1.seq<9223372036854775808:=by
       intro p hp
       obtain⟨x,hx,rfl⟩:=List.mem_map.1 hp
       exact hsq x hx
     have heP: ∀p∈l.map (·.1),p.2.length≤100:=by
       intro p hp
       obtain⟨x,hx,rfl⟩:=List.mem_map.1 hp
       exact hes x hx
     have hgetP: ∀j x,l[j]?=some x→F8 (l.map (·.1)) j=x.1.2:=fun j x hx=>ni hx
     have hlP:(l.map (·.1)).length=l.length:=List.length_map _
     generalize hP:l.map (·.1)=P at*
     have hv: ∀y∈M,∃a e,y.2.1=pgV a e:=fun y hy=>by
       obtain⟨a,Mi,ci,e,g1,_⟩:=q.ent hy
       exact⟨a,e,g1⟩
     have tot: ∀y∈M,∀z∈M,y.1≠z.1→Pr P y.1 z.1=true∨Pr P z.1 y.1=true:=by
       intro y hy z hz hne
       obtain⟨a,Mi,ci,e,g1,g2,g3,_⟩:=q.ent hy
       obtain⟨a',Mi',ci',e',g1',g2',g3',_⟩:=q.ent hz
       refine x6 (E0:=fun k=>(Da P k).getD 0) _ _ ?_
       show(Da P y.1).getD 0≠(Da P z.1).getD 0
       rw [g3,g3']
       intro f
       simp only [Option.getD_some]at f
       subst f
       exact hne (xm g3 g3')
     have hB: ∀h1,Kp (fun j=>j=h.n) hh h1→ ∀y∈M,∀z∈M,∀h2,K0 h1 h2→Ct P0 E F K 125 (H5 y.1::H5 z.1:: [.ptr (h.n+2) 0]) h2 fun v h'=>v= .bool (Pr P y.1 z.1)∧K0 h2 h':=by
       intro h1 k1 y hy z hz h2 k2
       obtain⟨a,Mi,ci,e,g1,g2,g3,_⟩:=q.ent hy
       obtain⟨a',Mi',ci',e',g1',g2',g3',_⟩:=q.ent hz
       have kk:Kp (fun j=>j=h.n) hh h2:=k1.trans (k2.mono fun _ f=>f.elim)
       refine(Afi L X (Ar kk (by omega) i3) (Nz kk (by omega) i2) g2 g2').mono fun v h' p=>?_
       have:Pr P y.1 z.1=(decide (z.1.2.1<y.1.2.1) || (decide (y.1.2.1=z.1.2.1) && decide (e<e'))):=by
         unfold Pr;simp only [g3,g3',Option.getD_some]
       rw [this];exact p
     have hW2: ∀h1,Kp (fun j=>j=h.n) hh h1→ ∀y∈M,∀h2,K0 h1 h2→Ct P0 E F K 126 (H5 y.1::y.2.1:: []) h2 fun v h'=>v= .bool (Ee P 3 none y.1)∧K0 h2 h':=by
       intro h1 k1 y hy h2 k2
       obtain⟨a,Mi,ci,e,g1,g2,g3,g4,g5,g6,g7⟩:=q.ent hy
       have kk:Kp (fun j=>j=h.n) hh h2:=k1.trans (k2.mono fun _ f=>f.elim)
       rw [g1,show Ee P 3 none y.1=(decide (y.1.1=3) && full P y.1) from Bool.and_true _,←xo hjP g5 g7]
       exact Afg L X (Nz kk (by omega) g4)
     refine cal ?_ (c:=Lv L X (W:=Ee P 3 none) (B:=Pr P) (capw:= []) (capb:= [.ptr (h.n+2) 0]) q.ok (by exact lkq) hv (hW2 _ (by exact kps)) (hB _ (by exact kps)) (Vx (E0:=fun k=>(Da P k).getD 0)) tot)
     rintro _ h3 ⟨out,is,rfl,w1,w2⟩
     have b1:=Sk q w1
     have hW3: ∀h1 lst u w,Kp (fun j=>j=h.n) hh h1→Bk h1 h.n [u,UN lst,w]→ ∀y∈M,∀h2,K0 h1 h2→Ct P0 E F K 127 (H5 y.1::y.2.1:: [.ptr h.n 0]) h2 fun v h'=>v= .bool (Ee P 2 (some lst) y.1)∧K0 h2 h':=by
       intro h1 lst u w k1 kc y hy h2 k2
       obtain⟨a,Mi,ci,e,g1,g2,g3,g4,g5,g6,g7⟩:=q.ent hy
       have kk:Kp (fun j=>j=h.n) hh h2:=k1.trans (k2.mono fun _ f=>f.elim)
       rw [g1,show Ee P 2 (some lst) y.1=(decide (y.1.1=2) && full P y.1 && decide (y.1.2.2.1=lst)) from rfl,←xo hjP g5 g7]
       exact Afh L X (Nz kk (by omega) g4) (Ag k2 kc)
     have n3:=w2.n
     simp only [Aj]at n3
     have loop: ∀(h5:H) (b15:Nat) (is5:Bool) (o5:Rec) (lq:List (Nat×Option AV)),Kp (fun j=>j=h.n) hh h5→Bk h5 h.n [.nils,Zu,.nils]→hh.n≤b15→Bk h5 b15 [.int .u8 (o5.1:Int),UN o5.2.1,UN o5.2.2.1,AN o5.2.2.2]→StartP P (if is5=true then some o5 else none)→
         TSub (tms [(16,some (.bool is5)),(15,some (.ptr b15 0)),(14,some (.fn (.func 127) [] [.ptr h.n 0])),(12,some (.fn (.func 125) [] [.ptr (h.n+2) 0])),(3,some (.ptr (h.n+2) 0)),(2,some (.ptr h.n 0)),(0,some lv)]) (tms lq)→
         Good P0 E Q ⟨⟨79,cf79.ntmps,tms lq,[.code ua,.inBlock 2,.code uc,.inScope Y2],[],.run,false,none⟩,x::cs,h5⟩:=by
       intro h5 b15 is5 o5 lq k5 c5 lb15 kb15 hst ht5
       have hs0:is5=true→isK P o5∧full P o5=true:=fun e=>by rw [if_pos e]at hst;exact ag hst
       have l15:=kb15.lt
       refine ju L (bd:=t9) (α:= List Rec×Bool×Rec×AV×AV) (T:=fun s=> [(16,some (.bool s.2.1)),(15,some (.ptr b15 0)),(14,some (.fn (.func 127) [] [.ptr h.n 0])),(12,some (.fn (.func 125) [] [.ptr (h.n+2) 0])),(3,some (.ptr (h.n+2) 0)),(2,some (.ptr h.n 0)),(0,some lv)]) (mu:=fun s=>muF P s.2.1 s.2.2.1)
         (R:=fun s h6=>Kp (fun j=>j=h.n) hh h6∧ChR h6 hh.n b15 s.2.2.2.1 s.2.2.2.2 (chE P s.1) (nI (chU P s.1))∧Bk h6 h.n [s.2.2.2.1,UN (chL s.1),s.2.2.2.2]∧Bk h6 b15 (Afj s.2.2.1)∧
           (∀tl,RunP P (if s.2.1=true then some s.2.2.1 else none) tl→RunP P (if is5=true then some o5 else none) (s.1++tl))∧(s.2.1=true→isK P s.2.2.1∧full P s.2.2.1=true)∧s.1.length+muF P s.2.1 s.2.2.1≤P.length∧ ∀k∈s.1,full P k=true)
         ([],is5,o5,.nils,.nils) ht5 ⟨k5,⟨.inl ⟨rfl,rfl⟩,.inl ⟨rfl,rfl⟩,fun _ _ _ _ _ _ e=>by cases e⟩,c5,kb15,fun _ q=>q,hs0,(by simpa using Afc P is5 o5),fun k hk=>by cases hk⟩ ?_
       rintro⟨ks,is,o,v1,v2⟩ h6 ⟨j1,j2,j3,j4,j5,j6,j7,j8⟩ ih
       simp only at j2 j3 j4 j5 j6 j7 j8 ih
       have l6:=j1.n
       have l7:=j4.lt
       cases is with
       |false=>
         have hrun:=j5 [] .none
         rw [List.append_nil]at hrun
         obtain⟨g0,hg0⟩:=U.g
         have hul:(nI (chU P ks)).length<100000:=by
           have h1:=Qd ks j8
           have h2:ks.length*P.length≤100*100:=Nat.mul_le_mul (by omega) (by omega)
           unfold nI;rw [List.length_map];omega
         have hbE:(chE P ks).length≤1000000:=by
           have h1:=Qd ks j8
           have h2:ks.length*P.length≤100*100:=Nat.mul_le_mul (by omega) (by omega)
           have h3:=M8 heP (chU P ks)
           rw [←Xt]at h3
           omega
         have fin: ∀(h9:H) (v2':AV),RowN h9 h.n v2' (Fc (nI (chU P ks)))→EL h9 h.n v1 (chE P ks)→K0 h h9→ ∃o ks_1 v1_1 v2_1,(AV.agg [v1,UN (chL ks),v2'])= .agg [v1_1,UN (chL ks_1),v2_1]∧StartP P o∧RunP P o ks_1∧EL h9 h.n v1_1 (chE P ks_1)∧RowN h9 h.n v2_1 (Fc (nI (chU P ks_1)))∧(chE P ks_1).length≤1000000∧K0 h h9:=
           fun h9 v2' q1 q2 q3=>⟨_,ks,v1,v2',rfl,hst,hrun,q2,q1,hbE,q3⟩
         have hdd:=j2.d
         have hE:EL h6 h.n v1 (chE P ks):=by
           rcases j2.e with⟨f1,f2⟩|⟨f1,b1,f2,f3,f4,f5⟩
           · exact⟨.inl ⟨f1,f2⟩⟩
           · exact⟨.inr ⟨List.length_pos_iff.1 f1,b1,f2,f3,by omega⟩⟩
         rcases j2.e with⟨f1,rfl⟩|⟨f1,b1,rfl,f3,f4,f5⟩
         · rcases j2.u with⟨e1,rfl⟩|⟨e1,b,rfl,e3,e4,e5⟩
           · refine wk ?_
             refine Pc L rfl rfl rfl rfl hg0 (U.x0 _) ?_
             rintro _ _ ⟨rfl,rfl⟩
             refine ret X.f79.1 ?_
             exact fin _ _ ⟨.inl ⟨by rw [e1];exact List.mergeSort_nil,rfl⟩⟩ ⟨.inl ⟨f1,rfl⟩⟩ (by exact kps)
           · refine wk ?_
             refine Pc L rfl rfl rfl rfl hg0 (U.x _ _ (nI (chU P ks)) (by exact lkp) e1 hul) ?_
             rintro _ h7 ⟨rfl,w6,w7⟩
             refine ret X.f79.1 ?_
             exact fin _ _ ⟨.inr ⟨by rw [Dd];exact e1,b,by rw [Dd],by exact lkp,by omega⟩⟩ ⟨.inl ⟨f1,rfl⟩⟩ (by exact kps)
         · rcases j2.u with⟨e1,rfl⟩|⟨e1,b,rfl,e3,e4,e5⟩
           · refine wk ?_
             refine Pc L rfl rfl rfl rfl hg0 (U.x0 _) ?_
             rintro _ _ ⟨rfl,rfl⟩
             refine ret X.f79.1 ?_
             exact fin _ _ ⟨.inl ⟨by rw [e1];exact List.mergeSort_nil,rfl⟩⟩ ⟨.inr ⟨List.length_pos_iff.1 f1,b1,rfl,by exact lkp,by omega⟩⟩ (by exact kps)
           · have hbb:=hdd _ _ _ _ _ _ rfl rfl
             refine wk ?_
             refine Pc L rfl rfl rfl rfl hg0 (U.x _ _ (nI (chU P ks)) (by exact lkp) e1 hul) ?_
             rintro _ h7 ⟨rfl,w6,w7⟩
             refine ret X.f79.1 ?_
             exact fin _ _ ⟨.inr ⟨by rw [Dd];exact e1,b,by rw [Dd],by exact lkp,by omega⟩⟩ ⟨.inr ⟨List.length_pos_iff.1 f1,b1,rfl,by exact lkp,by omega⟩⟩ (by exact kps)
       |true=>
         obtain⟨hk,hf⟩:=j6 rfl
         have hok:=Vv hjP hk
         have hlast:=Aa6 hjP hk hf hsP
         have hfl:=Xs hf
         obtain⟨e0,he0⟩:=Option.isSome_iff_exists.1 (show(Da P o).isSome=true from hk)
         obtain⟨a,Mi,ci,hg,ka,oi,la,hfm⟩:=q.at_ o e0 he0
         have lka:=ka.lt
         have i2lt:=i2.lt
         have bU:=Qd ks j8
         have bU2:ks.length*P.length≤100*100:=Nat.mul_le_mul (by omega) (by omega)
         refine wk ?_
         refine B9 L (α:= AV×AV) (T:=fun i s=> [(89,some (AN i)),(88,some (AN o.2.2.2)),(15,some (.ptr b15 0)),(14,some (.fn (.func 127) [] [.ptr h.n 0])),(12,some (.fn (.func 125) [] [.ptr (h.n+2) 0])),(3,some (.ptr (h.n+2) 0)),(2,some (.ptr h.n 0)),(0,some lv)]) (n:=o.2.2.2)
           (R:=fun i s h7=>Kp (fun j=>j=h.n) hh h7∧ChR h7 hh.n b15 s.1 s.2 (chE P ks++((C1 P o).take i).flatMap (F8 P)) (nI (chU P ks++(C1 P o).take i))∧Bk h7 h.n [s.1,UN (chL ks),s.2]∧Bk h7 b15 (Afj o)) (i0:=0) (v1,v2) tsb ⟨j1,by simp only [List.take_zero,List.flatMap_nil,List.append_nil];exact j2,j3,j4⟩ (Nat.zero_le _) ?_ ?_
         · rintro i ⟨v1,v2⟩ h7 hi ⟨t1,t2,t3,t4⟩ ih2
           simp only at t2 t3
           have n7:=t1.n
           have lt4:=t4.lt
           obtain⟨jj,hj1,hj2⟩:=M6 hf hi
           have hjl:=ff hj1
           have hjl2:jj<l.length:=by omega
           obtain⟨lb,rfl,kl⟩:=hsl hjl2
           have l3:=kl.lt
           have hx:l[jj]?=some l[jj]:=List.getElem?_eq_getElem hjl2
           have hm:=List.getElem_mem hjl2
           have hel:=hl0 _ hm
           have hes1:=hes _ hm
           have hdt:=D3 l (Ku l) jj _ hx
           have ee:=hgetP jj _ hx
           generalize l[jj]=y at*
           obtain⟨⟨s,es⟩,v⟩:=y
           simp only at hel ee hes1
           have e1:(C1 P o).take (i+1)=(C1 P o).take i++ [jj]:=by rw [List.take_add_one,hj2];rfl
           have e2:chE P ks++((C1 P o).take (i+1)).flatMap (F8 P)=(chE P ks++((C1 P o).take i).flatMap (F8 P))++es:=by rw [e1,List.flatMap_append,←List.append_assoc];simp [ee]
           have e3:nI (chU P ks++(C1 P o).take (i+1))=nI (chU P ks++(C1 P o).take i)++ [(jj:Int)]:=by rw [e1];simp [nI]
           have bE:(chE P ks++((C1 P o).take i).flatMap (F8 P)).length≤2000000:=by
             have h1:=M8 heP ((C1 P o).take i)
             have h2:=M8 heP (chU P ks)
             rw [←Xt]at h2
             have h3:((C1 P o).take i).length≤100:=by rw [List.length_take];omega
             rw [List.length_append]
             omega
           have bU3:(nI (chU P ks++(C1 P o).take i)).length≤20000:=by
             unfold nI
             rw [List.length_map,List.length_append,List.length_take];omega
           have ih3:=fun(v1' v2':AV) (h':H) (l':List (Nat×Option AV)) (a1:Kp (fun j=>j=h.n) hh h') (a2:ChR h' hh.n b15 v1' v2' ((chE P ks++((C1 P o).take i).flatMap (F8 P))++es) (nI (chU P ks++(C1 P o).take i)++ [(jj:Int)])) (a3:Bk h' h.n [v1',UN (chL ks),v2']) (a4:Bk h' b15 (Afj o))
             (t:TSub (tms [(89,some (AN (i+1))),(88,some (AN o.2.2.2)),(15,some (.ptr b15 0)),(14,some (.fn (.func 127) [] [.ptr h.n 0])),(12,some (.fn (.func 125) [] [.ptr (h.n+2) 0])),(3,some (.ptr (h.n+2) 0)),(2,some (.ptr h.n 0)),(0,some (.slc lb 0 l.length (Aa+7)))]) (tms l'))=>
             ih2 (v1',v2') h' l' ⟨a1,by rw [e2,e3];exact a2,a3,a4⟩ t
           clear ih2
           generalize chE P ks++((C1 P o).take i).flatMap (F8 P)=ES at*
           generalize nI (chU P ks++(C1 P o).take i)=US at*
           have hv6:(l.flatMap jpC)[jj*7+6]?=some v:=by
             have:=congrArg (fun r=>r[6]?) hdt.2
             simp only [List.getElem?_take_of_lt (show 6<7 by omega),List.getElem?_drop]at this
             exact this
           have kl8:Bk h7 lb (l.flatMap jpC):=Ar t1 (by omega) (Ag i6 kl)
           have ka8:=Nz t1 (by omega) ka
           (try refine B0 L 1000 rfl ?_);(repeat(first|(apply st1 L rfl;exact⟨G1 rfl⟩;rfl)|(apply st1 L rfl;exact Mb rfl rfl rfl;rfl)|(apply st1 L rfl;exact Ip rfl rfl (by omega);rfl)|(apply st1 L rfl;exact D2 rfl rfl (by omega);rfl)|(apply st1 L rfl;(apply Ff rfl;exact lkp;first|rfl|assumption);rfl)))
           (apply st1 L rfl;exact(by apply Kn rfl;exact lkp;rfl);rfl)
           (apply st1 L rfl;exact C7 (k:=o) KE.recd rfl rfl lkq;rfl)
           rw [hg]
           (try rw [Option.getD_some])
           (try refine B0 L 1000 rfl ?_);(repeat(first|(apply st1 L rfl;exact⟨G1 rfl⟩;rfl)|(apply st1 L rfl;exact Mb rfl rfl rfl;rfl)|(apply st1 L rfl;exact Ip rfl rfl (by omega);rfl)|(apply st1 L rfl;exact D2 rfl rfl (by omega);rfl)|(apply st1 L rfl;(apply Ff rfl;exact lkp;first|rfl|assumption);rfl)))
           (apply st1 L rfl;exact C7 (KE.int .i64) (M:=Mi) (k:=(i:Int)) rfl rfl lkq;rfl)
           rw [hfm,hj1]
           (try rw [Option.map_some,Option.getD_some])
           have lk3:=t3.lt
           rcases hel.len with⟨rfl,rfl⟩|⟨g1,eb,rfl,g3,g4⟩
           · rw [List.append_nil]at ih3
             rcases t2.e with⟨rfl,rfl⟩|⟨m1,b1,rfl,m3,m4,m5⟩
             · rcases t2.u with⟨rfl,rfl⟩|⟨u1,b2,rfl,u3,u4,u5⟩
               · refine wk ?_
                 (apply st1 L rfl;exact D6 (new:= [AN jj]) rfl rfl (Ka lkp) (by omega) (by omega);rfl)
                 refine wk ?_
                 refine ih3 _ _ _ _ (by exact kps) ?_ (by exact lkp) (by exact lkp) tsb
                 exact⟨.inl ⟨rfl,rfl⟩,.inr ⟨by simp,_,rfl,(by exact lkp),(by omega),(by omega)⟩,fun _ _ _ _ _ _ p1 p2=>by cases p1⟩
               · have lu:=u3.lt
                 refine wk ?_
                 (apply st1 L rfl;exact D8 (old:=US.map AI) (new:= [AN jj]) rfl rfl (fg lkp) (Ka lkp) (by omega) (by omega) rfl;rfl)
                 refine wk ?_
                 refine ih3 _ _ _ _ (by exact kps) ?_ (by exact lkp) (by exact lkp) tsb
                 exact⟨.inl ⟨rfl,rfl⟩,.inr ⟨by simp,_,(nr (by rw [List.length_append];rfl)),(by rw [List.map_append];exact lkp),(by omega),(by omega)⟩,fun _ _ _ _ _ _ p1 p2=>by cases p1⟩
             · rcases t2.u with⟨rfl,rfl⟩|⟨u1,b2,rfl,u3,u4,u5⟩
               · have lm:=m3.lt
                 refine wk ?_
                 (apply Hk L rfl rfl;exact ap0h rfl rfl)
                 refine wk ?_
                 (apply st1 L rfl;exact D6 (new:= [AN jj]) rfl rfl (Ka lkp) (by omega) (by omega);rfl)
                 refine wk ?_
                 refine ih3 _ _ _ _ (by exact kps) ?_ (by exact lkp) (by exact lkp) tsb
                 exact⟨.inr ⟨m1,b1,rfl,(by exact lkp),m4,m5⟩,.inr ⟨by simp,_,rfl,(by exact lkp),(by omega),(by omega)⟩,fun _ _ _ _ _ _ p1 p2=>by cases p1;cases p2;omega⟩
               · have lm:=m3.lt
                 have lu:=u3.lt
                 have hdd:=t2.d _ _ _ _ _ _ rfl rfl
                 refine wk ?_
                 (apply Hk L rfl rfl;exact ap0h rfl rfl)
                 refine wk ?_
                 (apply st1 L rfl;exact D8 (old:=US.map AI) (new:= [AN jj]) rfl rfl (fg lkp) (Ka lkp) (by omega) (by omega) rfl;rfl)
                 refine wk ?_
                 refine ih3 _ _ _ _ (by exact kps) ?_ (by exact lkp) (by exact lkp) tsb
                 exact⟨.inr ⟨m1,b1,rfl,(by exact lkp),m4,m5⟩,.inr ⟨by simp,_,(nr (by rw [List.length_append];rfl)),(by rw [List.map_append];exact lkp),(by omega),(by omega)⟩,fun _ _ _ _ _ _ p1 p2=>by cases p1;cases p2;omega⟩
           · have gk:Bk h7 eb (es.flatMap Aq):=Ar t1 (by have:=g3.lt;omega) (Ag i6 g3)
             have gl:=g3.lt
             rcases t2.e with⟨rfl,rfl⟩|⟨m1,b1,rfl,m3,m4,m5⟩
             · rcases t2.u with⟨rfl,rfl⟩|⟨u1,b2,rfl,u3,u4,u5⟩
               · refine wk ?_
                 (apply Hk L rfl rfl;exact D6 (new:=es.flatMap Aq) rfl rfl (Sf lkp) g1 (by omega))
                 refine wk ?_
                 (apply st1 L rfl;exact D6 (new:= [AN jj]) rfl rfl (Ka lkp) (by omega) (by omega);rfl)
                 refine wk ?_
                 refine ih3 _ _ _ _ (by exact kps) ?_ (by exact lkp) (by exact lkp) tsb
                 exact⟨.inr ⟨g1,_,rfl,(by exact lkp),(by omega),(by omega)⟩,.inr ⟨by simp,_,rfl,(by exact lkp),(by omega),(by omega)⟩,fun _ _ _ _ _ _ p1 p2=>by cases p1;cases p2;omega⟩
               · have lu:=u3.lt
                 refine wk ?_
                 (apply Hk L rfl rfl;exact D6 (new:=es.flatMap Aq) rfl rfl (Sf lkp) g1 (by omega))
                 refine wk ?_
                 (apply st1 L rfl;exact D8 (old:=US.map AI) (new:= [AN jj]) rfl rfl (fg lkp) (Ka lkp) (by omega) (by omega) rfl;rfl)
                 refine wk ?_
                 refine ih3 _ _ _ _ (by exact kps) ?_ (by exact lkp) (by exact lkp) tsb
                 exact⟨.inr ⟨g1,_,rfl,(by exact lkp),(by omega),(by omega)⟩,.inr ⟨by simp,_,(nr (by rw [List.length_append];rfl)),(by rw [List.map_append];exact lkp),(by omega),(by omega)⟩,fun _ _ _ _ _ _ p1 p2=>by cases p1;cases p2;omega⟩
             · rcases t2.u with⟨rfl,rfl⟩|⟨u1,b2,rfl,u3,u4,u5⟩
               · have lm:=m3.lt
                 refine wk ?_
                 (apply Hk L rfl rfl;exact D8 (old:=ES.flatMap Aq) (new:=es.flatMap Aq) rfl rfl (Sf lkp) (Sf lkp) g1 (by omega) (I1 _))
                 refine wk ?_
                 (apply st1 L rfl;exact D6 (new:= [AN jj]) rfl rfl (Ka lkp) (by omega) (by omega);rfl)
                 refine wk ?_
                 refine ih3 _ _ _ _ (by exact kps) ?_ (by exact lkp) (by exact lkp) tsb
                 exact⟨.inr ⟨(by rw [List.length_append];omega),_,(nr List.length_append.symm),(by rw [List.flatMap_append];exact lkp),(by omega),(by omega)⟩,.inr ⟨by simp,_,rfl,(by exact lkp),(by omega),(by omega)⟩,fun _ _ _ _ _ _ p1 p2=>by cases p1;cases p2;omega⟩
               · have lm:=m3.lt
                 have lu:=u3.lt
                 have hdd:=t2.d _ _ _ _ _ _ rfl rfl
                 refine wk ?_
                 (apply Hk L rfl rfl;exact D8 (old:=ES.flatMap Aq) (new:=es.flatMap Aq) rfl rfl (Sf lkp) (Sf lkp) g1 (by omega) (I1 _))
                 refine wk ?_
                 (apply st1 L rfl;exact D8 (old:=US.map AI) (new:= [AN jj]) rfl rfl (fg lkp) (Ka lkp) (by omega) (by omega) rfl;rfl)
                 refine wk ?_
                 refine ih3 _ _ _ _ (by exact kps) ?_ (by exact lkp) (by exact lkp) tsb
                 exact⟨.inr ⟨(by rw [List.length_append];omega),_,(nr List.length_append.symm),(by rw [List.flatMap_append];exact lkp),(by omega),(by omega)⟩,.inr ⟨by simp,_,(nr (by rw [List.length_append];rfl)),(by rw [List.map_append];exact lkp),(by omega),(by omega)⟩,fun _ _ _ _ _ _ p1 p2=>by cases p1;cases p2;omega⟩
         · rintro⟨v1,v2⟩ h7 ⟨t1,t2,t3,t4⟩
           simp only at t2 t3
           have htk:(C1 P o).take o.2.2.2=C1 P o:=by rw [←K2 P o,List.take_length]
           rw [htk]at t2
           have n7:=t1.n
           have lt4:=t4.lt
           refine wk ?_
           (apply st1 L rfl;exact Afe rfl rfl rfl (by simp only [pw];omega);rfl)
           refine wk ?_
           (apply st1 L rfl;exact Ju rfl rfl rfl (by omega) (by simp only [pw];omega);rfl)
           refine cal ?_ (c:=Lv L X (W:=Ee P 2 (some (J9 o))) (B:=Pr P) (capw:= [.ptr h.n 0]) (capb:= [.ptr (h.n+2) 0]) q.ok (by exact lkq) hv (hW3 _ (J9 o) v1 v2 (by exact kps) (by exact lkp)) (hB _ (by exact kps)) (Vx (E0:=fun k=>(Da P k).getD 0)) tot)
           rintro _ h8 ⟨out,is',rfl,w3,w4⟩
           have b2:=Sk q w3
           have n8:=w4.n
           simp only [Aj]at n8
           have hmu:=Afd hjP hk b2
           refine wk ?_
           refine ih (ks++ [o],is',out,v1,v2) _ _ hmu ⟨by exact kps,?_,?_,by exact lkp,fun tl r=>?_,fun e=>?_,?_,fun k hk2=>?_⟩ tsb
           · simp only [xr,xu]
             exact t2.kp (S:=fun j=>j=h.n∨j=b15) (by exact kps) (fun b hb hn=>by omega)
           · simp only [xw];exact lkp
           · simp only
             rw [List.append_assoc];exact j5 (o::tl) (by rw [if_pos rfl];exact .some b2 r)
           · simp only at e
             rw [if_pos e]at b2;exact Of b2
           · simp only [List.length_append,List.length_cons,List.length_nil];omega
           · rcases List.mem_append.1 hk2 with e|e
             · exact j8 _ e
             · rw [List.mem_singleton.1 e];exact hf
     cases is with
     |true=>
       refine wk ?_
       exact loop _ h3.n true out _ (by exact kps) (by exact lkp) (by omega) (by exact lkp) ⟨_,b1,rfl⟩ (by exact tsb)
     |false=>
       refine cal ?_ (c:=Lv L X (W:=Ee P 2 (some 0)) (B:=Pr P) (capw:= [.ptr h.n 0]) (capb:= [.ptr (h.n+2) 0]) q.ok (by exact lkq) hv (hW3 _ 0 .nils .nils (by exact kps) (by exact lkp)) (hB _ (by exact kps)) (Vx (E0:=fun k=>(Da P k).getD 0)) tot)
       rintro _ h4 ⟨out2,is2,rfl,w3,w4⟩
       have b2:=Sk q w3
       refine wk ?_
       exact loop _ h3.n is2 out2 _ (by exact kps) (by exact lkp) (by omega) (by exact lkp) ⟨_,b1,b2⟩ (by exact tsb)
 rcases hlv with⟨rfl,rfl⟩|⟨lb,rfl,kl⟩
 all_goals
  refine wk ?_;exact main _ _ (by exact lkq) (by exact lkp) (by exact lkp) (Nat.le_refl _) (by exact kps) (by exact tsb)
