/- Part of the proof. -/
import Derived.Test.YtclfgfpebplncaaGreatT14
import Derived.Test.YtclfgfpebplncaaGreatT13
import Derived.Shelf.Sort.Plain
import Derived.Shelf.Slices.In.SortNone
set_option linter.unusedVariables false
set_option linter.unusedSectionVars false
set_option linter.unusedSimpArgs false
set_option maxRecDepth 10000
set_option maxHeartbeats 4000000
namespace Go.Ev
section
variable {P0:Program}{E:Env}{F:T CFn}{K:T (List AV×AV)}(L:Lg P0 E F K)(X:Fx F K)
include L X
section
variable {h:H}
theorem cx {S nb P m r1 r2 vb lo:Nat}{A:Int→Option Int}{es:List Ent}{lv:AV}(q:MpR S nb P h m r1 r2 vb A 0)(hA:InvA S (nb*P) A)(hl:EL h lo lv es)(hlen:es.length≤150)(hlo:r1<lo∧r2<lo∧vb<lo∧m<lo):
  Ct P0 E F K 58 [.ptr m 0,lv] h fun v h'=> ∃e:Nat,v=AI ((e:Nat):Int)∧Kp (fun j=>j=r1∨j=r2∨j=vb) h h'∧
   ((e=0∧(∀j x,es[j]?=some x→okE S (nb*P) (stA A es j) x)∧MpR S nb P h' m r1 r2 vb (stA A es es.length) (2*es.length))∨(e≠0∧e<1000∧ ∃j x,es[j]?=some x∧(∀j' x',j'<j→es[j']?=some x'→okE S (nb*P) (stA A es j') x')∧ ¬okE S (nb*P) (stA A es j) x)):=by
 have lq:=q.lt
 have hl1:=hl.len
 rcases hl1 with⟨rfl,rfl⟩|⟨hpos,lb,rfl,g5,g6⟩
 ·have km:=q.km
  refine Af L X.f58 X.k58 rfl rfl fun Q x cs G=>?_
  refine wk ?_
  refine cal (c:=Qw L X (c0:=AI ((S:Nat):Int)) (c1:=AI ((nb:Nat):Int)) (c2:=AI ((P:Nat):Int)) (r1:=r1) (rest:= [.map r2,.slc vb 0 nb nb]) lkp) (g:=?_)
  rintro _ rfl
  refine wk ?_
  refine Jk L rfl rfl rfl rfl ?_
  refine wk ?_
  refine A4 L ?_
  refine wk ?_
  refine Gq L (todo:= []) ?_
  refine Db L (by intro q;cases q) X.f113 rfl rfl rfl ?_
  refine Fm L rfl ?_
  refine wk ?_
  (apply st1 L rfl;exact My (k:=true) rfl rfl;rfl)
  refine wk ?_
  refine Ij L X.f113 rfl ?_
  refine Gr L X.f58 (Dn (b:=h.n+2) rfl (Bk.e lkp) rfl Ix) G ⟨0,rfl,kps,.inl ⟨rfl,fun j x hjx=>(by simp at hjx),q.k0 kps⟩⟩
 have l5:=g5.lt
 have km:=q.km
 refine Af L X.f58 X.k58 rfl rfl fun Q x cs G=>?_
 refine wk ?_
 refine cal (c:=Qw L X (c0:=AI ((S:Nat):Int)) (c1:=AI ((nb:Nat):Int)) (c2:=AI ((P:Nat):Int)) (r1:=r1) (rest:= [.map r2,.slc vb 0 nb nb]) lkp) (g:=?_)
 rintro _ rfl
 refine wk ?_
 refine Jk L rfl rfl rfl rfl ?_
 refine wk ?_
 refine Bb L (α:= AV) (T:=fun i v=> [(17,some (AI ((i:Nat):Int))),(16,some (AI ((es.length:Nat):Int))),(15,some (.slc lb 0 es.length (Ac+2))),(2,some (.ptr h.n 0)),(4,some (.ptr (h.n+2) 0)),(5,some (.ptr (h.n+3) 0)),(6,some (.ptr (h.n+4) 0))]) (n:=es.length)
  (R:=fun i v h2=>MpR S nb P h2 m r1 r2 vb (stA A es i) (2*i)∧(∀j x,j<i→es[j]?=some x→okE S (nb*P) (stA A es j) x)∧Bk h2 h.n [.ptr m 0]∧Bk h2 (h.n+1) [.slc lb 0 es.length (Ac+2)]∧Bk h2 (h.n+2) [AI ((0:Nat):Int)]∧Bk h2 (h.n+3) [AI ((i:Nat):Int)]∧Bk h2 (h.n+4) [v]∧EL h2 (h.n+5) v (I1 A es i)∧h.n+5≤h2.n∧Kp (fun j=>j=r1∨j=r2∨j=vb) h h2) (i0:=0) .nils tsb
  ⟨q.k0 kps,(fun j x hj=>absurd hj (Nat.not_lt_zero j)),lkp,lkp,lkp,lkp,lkp,EL.nil _ _,Nat.le_refl _,kps⟩ (Nat.zero_le _) ?_ ?_
 ·rintro i v h2 hi ⟨u1,u2,u3,u4,u5,u6,u7,u8,u9,u10⟩ ih
  have hx:es[i]?=some es[i]:=List.getElem?_eq_getElem hi
  have hdt:=Bj es (B4 es) i _ hx
  have g5':Bk h2 lb (es.flatMap An):=A5 u10 (by omega) g5
  have lu:=u1.lt
  have hinv:=u1.inv
  have u1':=u1
  obtain⟨km2,⟨n1,n2,n3,n4,n5,n6⟩,rg,nz,M1,M2,c1,c2,cv,⟨k1,o1,k2,o2,kv,vl,vv,mr⟩⟩:=u1'
  have ha1:=mr.a1 es[i].1
  rw [Lz hx,cw hx]at ih
  have e28:2*(i+1)=2*i+2:=by omega
  rw [e28]at ih
  generalize hxe:es[i]=x at*
  obtain⟨xa,xb⟩:=x
  have hdt':i*2+2≤(es.flatMap An).length∧((es.flatMap An).drop (i*2)).take 2= [AI xa,AI xb]:=hdt
  have hub: ∀j x,j<i+1→es[j]?=some x→okE S (nb*P) (stA A es i) (xa,xb)→okE S (nb*P) (stA A es j) x:=by
   intro j x hj hjx ho
   by_cases e:j=i
   ·subst e;rw [hx]at hjx;cases hjx;exact ho
   ·exact u2 j x (by omega) hjx
  have hw2: ∀b n c,v= .slc b 0 n c→b≠h.n+1+1:=by
   intro b n c e
   rcases u8.ex with⟨_,rfl⟩|⟨_,b',rfl,_,h5⟩
   ·cases e
   ·cases e;omega
  simp only at ha1
  rcases hB:stA A es i xa with _|p
  ·rw [hB]at ha1
   have hwas:Oe (stA A es i) (xa,xb)=(xa,-1):=by unfold Oe;rw [hB];rfl
   refine wk ?_
   (apply st1 L rfl;exact B6 g5'.rk hdt' rfl;rfl)
   refine wk ?_
   (apply Au rfl rfl;exact Ee (KE.int .i64) rfl rfl lkq)
   rw [ha1]
   refine wk ?_
   by_cases hf:Hq S (nb*P) (xa,xb)
   rotate_left
   ·refine Ex L rfl rfl rfl rfl rfl (Vu L X (x:=(xa,xb)) (u1.k0 kps) hf) ?_
    rintro _ h3 ⟨rfl,w1⟩
    have n3:=w1.n
    simp only [Ah]at n3
    refine Fd L X (e:=3) (lo:=lo) (es:=es) (i:=i) (t:=2*i) rfl lkp lkp lkp lkp lkp (u1.k0 kps) hA (by omega) u2 (hl.kS (S:=fun j=>j=r1∨j=r2∨j=vb) kps (by intro b hb;omega)) ((u8.mono (by omega)).k0 kps) hlen (by omega) hlo (by omega) (fun b n c e=>by cases e;omega) hw2 G fun h9 k9=>?_
    exact⟨3,rfl,Kp.trS k9 (fun i hi e=>by omega) kps,.inr ⟨by omega,by omega,i,_,hx,u2,fun q=>hf q.1⟩⟩
   by_cases hbz:Sk (stA A es i) (xa,xb)
   ·refine Ex L rfl rfl rfl rfl rfl (Vv L X (x:=(xa,xb)) (u1.k0 kps) hf hbz) ?_
    rintro _ h3 ⟨rfl,w1⟩
    have n3:=w1.n
    simp only [Ah]at n3
    refine Fd L X (e:=11) (lo:=lo) (es:=es) (i:=i) (t:=2*i) rfl lkp lkp lkp lkp lkp (u1.k0 kps) hA (by omega) u2 (hl.kS (S:=fun j=>j=r1∨j=r2∨j=vb) kps (by intro b hb;omega)) ((u8.mono (by omega)).k0 kps) hlen (by omega) hlo (by omega) (fun b n c e=>by cases e;omega) hw2 G fun h9 k9=>?_
    exact⟨11,rfl,Kp.trS k9 (fun i hi e=>by omega) kps,.inr ⟨by omega,by omega,i,_,hx,u2,fun q=>q.2 hbz⟩⟩
   refine cal (c:=Ox L X (x:=(xa,xb)) (u1.k0 kps) (by omega) hf hbz) (g:=?_)
   rintro _ h3 ⟨rfl,w1,w2⟩
   have n3:=w2.n
   simp only [Ah]at n3
   rcases u8.len with⟨e0,rfl⟩|⟨gn,wb,rfl,g7,g8⟩
   ·obtain rfl:i=0:=by have:=De A es i;rw [e0]at this;simpa using this.symm
    refine wk ?_
    (apply Au rfl rfl;exact ut rfl rfl rfl)
    refine wk ?_
    (apply B5 L rfl rfl;exact D8 (new:=An (xa,-1)) rfl rfl (SlR.of (c:=An (xa,-1)) lkp (Nat.le_refl _) rfl) (by omega) (by omega))
    refine wk ?_
    refine ih _ _ _ ⟨w1.kp (B:=fun j=>j=h.n+3∨j=h.n+4) kps (by omega) (by omega) (by omega) (by omega),fun j x hj hjx=>hub j x hj hjx ⟨hf,hbz⟩,lkp,lkp,lkp,lkp,lkp,?_,by simp only [Ah];omega,kps⟩ tsb
    rw [hwas,e0,List.nil_append]
    exact EL.app (l:= []) (by exact lkp) (by omega) rfl
   ·have g9:=g7.lt
    rw [De]at*
    refine wk ?_
    (apply B5 L rfl rfl;exact bq (old:=(I1 A es i).flatMap An) (new:=An (xa,-1)) rfl rfl (SlR.of (c:=(I1 A es i).flatMap An) lkp (by rw [A2,De];omega) (by rw [List.drop_zero,List.take_of_length_le (by rw [A2,De];exact Nat.le_refl _)])) (SlR.of (c:=An (xa,-1)) lkp (Nat.le_refl _) rfl) (by omega) (by simp only [Ac];omega) (by omega))
    refine wk ?_
    refine ih _ _ _ ⟨w1.kp (B:=fun j=>j=h.n+3∨j=h.n+4) kps (by omega) (by omega) (by omega) (by omega),fun j x hj hjx=>hub j x hj hjx ⟨hf,hbz⟩,lkp,lkp,lkp,lkp,lkp,?_,by simp only [Ah];omega,kps⟩ tsb
    rw [hwas]
    exact EL.app (l:=I1 A es i) (by exact lkp) (by omega) (De _ _ _)
  ·rw [hB]at ha1
   have hwas:Oe (stA A es i) (xa,xb)=(xa,p):=by unfold Oe;rw [hB];rfl
   refine wk ?_
   (apply st1 L rfl;exact B6 g5'.rk hdt' rfl;rfl)
   refine wk ?_
   (apply Au rfl rfl;exact Ee (KE.int .i64) rfl rfl lkq)
   rw [ha1]
   refine wk ?_
   by_cases hf:Hq S (nb*P) (xa,xb)
   rotate_left
   ·refine Ex L rfl rfl rfl rfl rfl (Vu L X (x:=(xa,xb)) (u1.k0 kps) hf) ?_
    rintro _ h3 ⟨rfl,w1⟩
    have n3:=w1.n
    simp only [Ah]at n3
    refine Fd L X (e:=3) (lo:=lo) (es:=es) (i:=i) (t:=2*i) rfl lkp lkp lkp lkp lkp (u1.k0 kps) hA (by omega) u2 (hl.kS (S:=fun j=>j=r1∨j=r2∨j=vb) kps (by intro b hb;omega)) ((u8.mono (by omega)).k0 kps) hlen (by omega) hlo (by omega) (fun b n c e=>by cases e;omega) hw2 G fun h9 k9=>?_
    exact⟨3,rfl,Kp.trS k9 (fun i hi e=>by omega) kps,.inr ⟨by omega,by omega,i,_,hx,u2,fun q=>hf q.1⟩⟩
   by_cases hbz:Sk (stA A es i) (xa,xb)
   ·refine Ex L rfl rfl rfl rfl rfl (Vv L X (x:=(xa,xb)) (u1.k0 kps) hf hbz) ?_
    rintro _ h3 ⟨rfl,w1⟩
    have n3:=w1.n
    simp only [Ah]at n3
    refine Fd L X (e:=11) (lo:=lo) (es:=es) (i:=i) (t:=2*i) rfl lkp lkp lkp lkp lkp (u1.k0 kps) hA (by omega) u2 (hl.kS (S:=fun j=>j=r1∨j=r2∨j=vb) kps (by intro b hb;omega)) ((u8.mono (by omega)).k0 kps) hlen (by omega) hlo (by omega) (fun b n c e=>by cases e;omega) hw2 G fun h9 k9=>?_
    exact⟨11,rfl,Kp.trS k9 (fun i hi e=>by omega) kps,.inr ⟨by omega,by omega,i,_,hx,u2,fun q=>q.2 hbz⟩⟩
   refine cal (c:=Ox L X (x:=(xa,xb)) (u1.k0 kps) (by omega) hf hbz) (g:=?_)
   rintro _ h3 ⟨rfl,w1,w2⟩
   have n3:=w2.n
   simp only [Ah]at n3
   rcases u8.len with⟨e0,rfl⟩|⟨gn,wb,rfl,g7,g8⟩
   ·obtain rfl:i=0:=by have:=De A es i;rw [e0]at this;simpa using this.symm
    refine wk ?_
    (apply Au rfl rfl;exact ut rfl rfl rfl)
    refine wk ?_
    (apply B5 L rfl rfl;exact D8 (new:=An (xa,p)) rfl rfl (SlR.of (c:=An (xa,p)) lkp (Nat.le_refl _) rfl) (by omega) (by omega))
    refine wk ?_
    refine ih _ _ _ ⟨w1.kp (B:=fun j=>j=h.n+3∨j=h.n+4) kps (by omega) (by omega) (by omega) (by omega),fun j x hj hjx=>hub j x hj hjx ⟨hf,hbz⟩,lkp,lkp,lkp,lkp,lkp,?_,by simp only [Ah];omega,kps⟩ tsb
    rw [hwas,e0,List.nil_append]
    exact EL.app (l:= []) (by exact lkp) (by omega) rfl
   ·have g9:=g7.lt
    rw [De]at*
    refine wk ?_
    (apply B5 L rfl rfl;exact bq (old:=(I1 A es i).flatMap An) (new:=An (xa,p)) rfl rfl (SlR.of (c:=(I1 A es i).flatMap An) lkp (by rw [A2,De];omega) (by rw [List.drop_zero,List.take_of_length_le (by rw [A2,De];exact Nat.le_refl _)])) (SlR.of (c:=An (xa,p)) lkp (Nat.le_refl _) rfl) (by omega) (by simp only [Ac];omega) (by omega))
    refine wk ?_
    refine ih _ _ _ ⟨w1.kp (B:=fun j=>j=h.n+3∨j=h.n+4) kps (by omega) (by omega) (by omega) (by omega),fun j x hj hjx=>hub j x hj hjx ⟨hf,hbz⟩,lkp,lkp,lkp,lkp,lkp,?_,by simp only [Ah];omega,kps⟩ tsb
    rw [hwas]
    exact EL.app (l:=I1 A es i) (by exact lkp) (by omega) (De _ _ _)
 ·rintro v h2 ⟨u1,u2,u3,u4,u5,u6,u7,u8,u9,u10⟩
  refine wk ?_
  refine Gq L (todo:= []) ?_
  refine Db L (by intro q;cases q) X.f113 rfl rfl rfl ?_
  refine Fm L rfl ?_
  refine wk ?_
  (apply st1 L rfl;exact My (k:=true) rfl rfl;rfl)
  refine wk ?_
  refine Ij L X.f113 rfl ?_
  refine Gr L X.f58 (Dn (b:=h.n+2) rfl (Bk.e lkp) rfl Ix) G ⟨0,rfl,kps,.inl ⟨rfl,fun j x hjx=>u2 j x (List.getElem?_eq_some_iff.1 hjx).1 hjx,u1.kp (B:=fun j=>j=h.n+2) kps (by omega) (by omega) (by omega) (by omega)⟩⟩
end
end
open Go.Sort
theorem HR.growC {E:Env}{w0:Array Obj}{φ: Phi}{h:H}{m:Array Obj}(hr:HR E w0 φ h m)(os:Array Obj):HR E w0 φ h (m++os):=by
 have hg: ∀k,k<m.size→(m++os)[k]?=m[k]?:=fun k hk=>by simp [Array.getElem?_append,hk]
 refine⟨hr.bound,fun b l hb=>?_,fun b l x hb hx=>?_,hr.inj,hr.own,fun cb hc=>?_,?_⟩
 ·have:=hr.cbound b l hb;simp;omega
 ·obtain⟨o,h1,h2⟩:=hr.blk b l x hb hx
  exact⟨o,by rw [hg _ (hr.cbound b l hb)];exact h1,h2⟩
 ·rw [hg _ (Nat.lt_of_lt_of_le hc hr.size)];exact hr.old cb hc
 ·have:=hr.size;simp;omega
abbrev zI (z:Int):AV:= .int .i64 z
def Dk (zs:List Int):List Int:=zs.mergeSort fun x y=>decide (x≤y)
theorem Df (zs:List Int):(Dk zs).length=zs.length:=List.length_mergeSort _
theorem x9 {P:Program}{E:Env}{f:Nat}(hs: ∀(blk off cap:Nat) (zs:List Int) (w:World),Holds (Value.int .i64) w blk off zs.toArray→blk<w.heap.size→zs.length<4611686018427387904→Calls P f #[.slice (some ⟨blk,off,none⟩) zs.length cap] w fun e w'=>
   e= .returned (.tuple #[])∧ ∃n os,w'=grow (putRow (Value.int .i64) (Sort.ahead w n) blk off (Dk zs).toArray) os)
  {h:H} {b:Nat} {zs:List Int} (k:Bk h b (zs.map zI)) (hpos:0<zs.length) (hlen:zs.length<100000):
  XCt P E f [.slc b 0 zs.length (Ac+1)] h fun v h'=>v= .tup []∧Bk h' b ((Dk zs).map zI)∧Kp (fun j=>j=b) h h':=by
 intro φ w0 w args' hargs hW
 obtain⟨hr,like⟩:=hW
 obtain⟨arr⟩:=args'
 have h1: ∃l c off,φ b=some l∧off=l.base∧arr= [.slice (some ⟨l.cb,off,none⟩) zs.length c]:=by
  cases hargs with
  |cons hv ht=>
   cases ht
   generalize hcp:Ac+1=cp at hv
   cases hv with
   |slcX h1 h2 h3 h4=>exact absurd h2 (by omega)
   |slcU h1 h2 h3 h4=>exact⟨_,_,_,h1,h4 hpos,rfl⟩
 obtain⟨l,c,off,hφ,rfl,rfl⟩:=h1
 obtain⟨cs,e,g1,g2,g3,g4⟩:=hr.cellsOf_blkW hφ k.e
 have hcb:=hr.cbound _ _ hφ
 rw [List.length_map]at g3
 have hval: ∀j z,zs[j]?=some z→cs[l.base+j]?=some (Value.int .i64 z):=by
  intro j z hz
  obtain⟨v',h5,h6⟩:=g4 j (zI z) (by rw [List.length_map];exact(List.getElem?_eq_some_iff.1 hz).1) (by rw [G9];simp [hz])
  cases h6
  exact h5
 have hH:Holds (Value.int .i64) w l.cb l.base zs.toArray:=by
  intro j hj
  have hj':j<zs.length:=by simpa using hj
  refine⟨?_,by simp [World.frozen?,g1]⟩
  simp only [World.cell?,g1]
  simp only [Option.isSome_none,Bool.false_eq_true,if_false]
  rw [hval j zs[j] (List.getElem?_eq_getElem hj')]
  simp [hj']
 refine(hs l.cb l.base c zs w hH hcb (by omega)).mono ?_
 rintro e9 w' ⟨rfl,n,os,rfl⟩
 refine⟨.tup [],.tuple #[],φ,H.set h b (cl ((Dk zs).map zI)),rfl,⟨rfl,⟨?_,k.lt⟩,?_⟩,fun _ _ h=>h,.tup .nil,?_⟩
 ·rw [H.get_set,if_pos rfl]
 ·exact⟨Nat.le_refl _,fun j hj hne=>by rw [H.get_set,if_neg hne]⟩
 ·have hro:(Blk.cells false ((zs.map zI).length) (ofL 0 .leaf (zs.map zI)))=cl (zs.map zI):=rfl
  have hov:=hr.over (x':=cl ((Dk zs).map zI)) (o':= .cells (putCells (Value.int .i64) l.base (Dk zs).toArray cs) e (0,0)) hφ k.e rfl (.cells (fun _=>rfl) (by simp [putCells,g2]) (by simp [putCells,Df];exact g3) ?_) rfl
  ·have hh:(putRow (Value.int .i64) (Sort.ahead w n) l.cb l.base (Dk zs).toArray).heap=w.heap.setIfInBounds l.cb (.cells (putCells (Value.int .i64) l.base (Dk zs).toArray cs) e (0,0)):=by
    apply Array.ext_getElem?
    intro i
    simp only [putRow,mapBlock,Sort.ahead,Array.getElem?_modify,Array.getElem?_setIfInBounds]
    by_cases hi:l.cb=i
    ·subst hi
     have g0:w.heap[l.cb]=Obj.cells cs e (0,0):=(Array.getElem?_eq_some_iff.1 g1).2
     simp [g0,onCells,hcb]
    ·simp [hi]
   refine⟨?_,like.trans ⟨rfl,rfl,rfl⟩⟩
   show HR E w0.heap φ _ ((putRow (Value.int .i64) (Sort.ahead w n) l.cb l.base (Dk zs).toArray).heap++os)
   rw [hh]
   exact hov.growC os
  ·intro i v hi hv
   rw [G9]at hv
   rw [List.length_map,Df]at hi
   rw [List.getElem?_map,Option.map_eq_some_iff]at hv
   obtain⟨z,hz,rfl⟩:=hv
   refine⟨Value.int .i64 z,?_,.int _ _⟩
   obtain⟨hz1,hz2⟩:=List.getElem?_eq_some_iff.1 hz
   have hin:l.base+i<cs.size:=by omega
   simp only [putCells,Array.getElem?_mapIdx,Array.getElem?_eq_getElem hin,Option.map_some]
   rw [if_pos (by simp [Df];omega)]
   have:l.base+i - l.base=i:=by omega
   rw [this]
   simp [hz1,hz2]
theorem si {P:Program}{E:Env}{f:Nat}(hs: ∀(p:Option Addr) (cap:Nat) (w:World),Calls P f #[.slice p 0 cap] w fun e w'=>e= .returned (.tuple #[])∧w'=w){h:H}:
  XCt P E f [.nils] h fun v h'=>v= .tup []∧h'=h:=by
 intro φ w0 w args' hargs hW
 obtain⟨arr⟩:=args'
 have h1: ∃p c,arr= [.slice p 0 c]:=by
  cases hargs with
  |cons hv ht=>cases ht;cases hv;exact⟨_,_,rfl⟩
 obtain⟨p,c,rfl⟩:=h1
 refine(hs p c w).mono ?_
 rintro e9 w' ⟨rfl,rfl⟩
 exact⟨.tup [],.tuple #[],φ,h,rfl,⟨rfl,rfl⟩,fun _ _ h=>h,.tup .nil,hW⟩
structure SortOk (P:Program)(E:Env)(F:T CFn)(f:Nat):Prop where
 g: ∃g0,T.get F f=some g0
 x: ∀(h:H) (b:Nat) (zs:List Int),Bk h b (zs.map zI)→0<zs.length→zs.length<100000→XCt P E f [.slc b 0 zs.length (Ac+1)] h fun v h'=>v= .tup []∧Bk h' b ((Dk zs).map zI)∧Kp (fun j=>j=b) h h'
 x0: ∀h:H,XCt P E f [.nils] h fun v h'=>v= .tup []∧h'=h
end Go.Ev
namespace Go.Ev
section
variable {P:Program}{E:Env}{F:T CFn}{K:T (List AV×AV)}{Q:Nat→AV→Prop}
variable {fn nt:Nat}{l:List (Nat×Option AV)}{k:List AItem}{ds:List ADef}{dfd:Bool}{ro:Option Nat}{cs:List AFr}
variable (L:Lg P E F K)
include L
theorem sj {α: Type}{bd:CC}(T:α→List (Nat×Option AV))(mu:α→Nat)(R:α→H→Prop)(s0:α){h0:H}(hT:TSub (tms (T s0)) (tms l))(hR:R s0 h0)
  (body: ∀s h,R s h→(∀s' h' l',mu s'<mu s→R s' h'→TSub (tms (T s')) (tms l')→Good P E Q ⟨⟨fn,nt,tms l',.inLoop bd::k,ds,.run,dfd,ro⟩,cs,h'⟩)→Good P E Q ⟨⟨fn,nt,tms (T s),.code bd:: .inLoop bd::k,ds,.run,dfd,ro⟩,cs,hp h.n h.t []⟩):
  Good P E Q ⟨⟨fn,nt,tms l,.code (.loop bd)::k,ds,.run,dfd,ro⟩,cs,h0⟩:=by
 have main: ∀m s h,mu s≤m→R s h→Good P E Q ⟨⟨fn,nt,tms (T s),.code bd:: .inLoop bd::k,ds,.run,dfd,ro⟩,cs,hp h.n h.t []⟩:=by
  intro m
  induction m with
  |zero=>intro s h e hR;exact body s h hR fun s' h' l' hlt hR' hT'=>absurd hlt (by omega)
  |succ m ih=>intro s h e hR;exact body s h hR fun s' h' l' hlt hR' hT'=>C7 L (Oc L hT' (ih s' h' (by omega) hR'))
 exact A4 L (Oc L hT (main (mu s0) s0 h0 (Nat.le_refl _) hR))
end
theorem T5 {α: Type}{p q:α→Bool}(h: ∀x,q x=true→p x=true): ∀(M:List α) (y:α),y∈M→p y=true→q y=false→(M.filter q).length<(M.filter p).length
 | [],y,hy,_,_=>by cases hy
 |x::r,y,hy,hp,hq=>by
  have le:(r.filter q).length≤(r.filter p).length:=by
   clear hy
   induction r with
   |nil=>exact Nat.le_refl _
   |cons z r ih=>
    rw [List.filter_cons,List.filter_cons]
    by_cases e:q z=true
    ·rw [if_pos e,if_pos (h z e),List.length_cons,List.length_cons];omega
    ·rw [if_neg e]
     split
     ·rw [List.length_cons];omega
     ·exact ih
  rw [List.filter_cons,List.filter_cons]
  rcases List.mem_cons.1 hy with rfl|hy
  ·rw [if_pos hp,if_neg (by rw [hq];simp),List.length_cons];omega
  ·have:=T5 h r y hy hp hq
   by_cases e:q x=true
   ·rw [if_pos e,if_pos (h x e),List.length_cons,List.length_cons];omega
   ·rw [if_neg e]
    split
    ·rw [List.length_cons];omega
    ·exact this
section
variable {α: Type}{M Y:List (α×AV×Nat)}{ck:Nat}
def muM (M Y:List (α×AV×Nat)):Nat:=(M.filter fun x=>decide (x.2.2∉Y.map (·.2.2))).length
theorem Xs {y:α×AV×Nat}(hy:y∈M)(hn:y.2.2∉Y.map (·.2.2)):muM M (Y++ [y])<muM M Y:=by
 refine T5 (fun x hx=>?_) M y hy (decide_eq_true hn) (by simp)
 simp only [List.map_append,List.mem_append,not_or,decide_eq_true_eq]at hx ⊢
 exact hx.1
theorem So (q:MOk M ck)(hY: ∀y∈Y,y∈M)(nd:(Y.map (·.2.2)).Nodup)(all: ∀y∈M,y.2.2∈Y.map (·.2.2)):Y.Perm M:=by
 have inj: ∀(L:List (α×AV×Nat)),(L.map (·.2.2)).Nodup→ ∀a∈L,∀b∈L,a.2.2=b.2.2→a=b:=by
  intro L
  induction L with
  |nil=>intro _ a ha;cases ha
  |cons c L ih=>
   intro hn a ha b hb e
   rw [List.map_cons,List.nodup_cons]at hn
   rcases List.mem_cons.1 ha with ea|ha
   ·rcases List.mem_cons.1 hb with eb|hb
    ·rw [ea,eb]
    ·exact absurd (by rw [←ea,e];exact List.mem_map_of_mem hb) hn.1
   ·rcases List.mem_cons.1 hb with eb|hb
    ·exact absurd (by rw [←eb,←e];exact List.mem_map_of_mem ha) hn.1
    ·exact ih hn.2 a ha b hb e
 have ndl: ∀(L:List (α×AV×Nat)),(L.map (·.2.2)).Nodup→L.Nodup:=by
  intro L
  induction L with
  |nil=>intro _;exact List.nodup_nil
  |cons c L ih=>
   intro hn
   rw [List.map_cons,List.nodup_cons]at hn
   exact List.nodup_cons.2 ⟨fun h=>hn.1 (List.mem_map_of_mem h),ih hn.2⟩
 refine(List.perm_ext_iff_of_nodup (ndl Y nd) (ndl M q.borns)).2 fun a=>⟨hY a,fun ha=>?_⟩
 obtain⟨b,hb,e⟩:=List.mem_map.1 (all a ha)
 rw [←inj M q.borns b (hY b hb) a ha e];exact hb
theorem mj {y:α×AV×Nat}(nd:(Y.map (·.2.2)).Nodup)(hn:y.2.2∉Y.map (·.2.2)):((Y++ [y]).map (·.2.2)).Nodup:=by
 rw [List.map_append,List.nodup_append]
 refine⟨nd,by simp,fun a ha b hb e=>hn ?_⟩
 simp only [List.map_cons,List.map_nil,List.mem_singleton]at hb
 rw [←hb,←e];exact ha
end
section
variable {P0:Program}{E:Env}{F:T CFn}{K:T (List AV×AV)}(L:Lg P0 E F K)(X:Fx F K)
include L X
section
variable {h:H}
theorem ml {mb r1 lp ck:Nat}{M:List (Int×AV×Nat)}(q:MOk M ck)(I:List Int→H→Prop)
  (hI: ∀S hh,I S hh→Bk hh mb [.map r1]∧Mk hh r1 (M.map (mE AI)) ck)
  (hK: ∀S hh h',I S hh→Kp (fun j=>j=h.n) hh h'→I S h')
  (hY: ∀S k hh,I S hh→S.length<M.length→h.n<hh.n→CtA P0 E F K (.yield lp) [AI k] hh fun u h'=>u= .bool true∧I (S++ [k]) h'∧hh.n≤h'.n∧(∀x,Gk hh h.n x→Gk h' h.n x)) (h0:I [] h):
  Ct P0 E F K 237 [.fn (.yield lp) [] [],.ptr mb 0] h fun v h'=> ∃S,List.Perm S (M.map (·.1))∧I S h':=by
 obtain⟨k1,k2⟩:=hI _ _ h0
 have l1:=k1.lt
 have l2:=k2.lt
 refine Af L X.f237 X.k237 rfl rfl fun Q x cs G=>?_
 refine wk ?_
 (apply st1 L rfl;exact Y7 rfl lkq;rfl)
 refine wk ?_
 refine sj L (α:= List (Int×AV×Nat)) (T:=fun Y=> [(5,some (.ptr h.n 0)),(0,some (.fn (.yield lp) [] []))]) (mu:=muM M) (R:=fun Y hh=>I (Y.map (·.1)) hh∧Gk hh h.n (.miter (some r1) ck (Y.map (·.2.2)) ck)∧(∀y∈Y,y∈M)∧(Y.map (·.2.2)).Nodup∧h.n<hh.n∧Y.length+muM M Y≤M.length) [] tsb ⟨hK _ _ _ h0 kps,lkg,(fun y hy=>by cases hy),List.nodup_nil,Nat.lt_succ_self _,by rw [List.length_nil,Nat.zero_add];exact List.length_filter_le _ _⟩ ?_
 rintro Y hh ⟨i1,i2,i3,i4,i5,i6⟩ ih
 obtain⟨k3,k4⟩:=hI _ _ i1
 refine wk ?_
 refine Y9 L rfl rfl (M:=M) (enc:=AI) (ck:=ck) (it:=h.n) (m:=r1) (seen:=Y.map (·.2.2)) lkg lkq q.lt ?_ ?_
 ·intro hall
  refine wk ?_
  refine ret X.f237 ?_
  exact⟨_,(So q i3 i4 hall).map _,hK _ _ _ i1 kps⟩
 ·intro y hy hn
  have hmu:=Xs hy hn
  refine wk ?_
  (apply st1 L rfl;exact Za q rfl lkg lkq hy;rfl)
  refine wk ?_
  refine Qg L rfl rfl rfl rfl rfl (hY _ y.1 _ (hK _ _ _ i1 (by exact kps)) (by rw [List.length_map];omega) (by simp only [Ah];omega)) ?_
  rintro _ h3 ⟨rfl,w1,w2,w3⟩
  simp only [Ah]at w2
  refine wk ?_
  refine ih (Y++ [y]) _ _ (Xs hy hn) ⟨?_,?_,?_,mj i4 hn,by simp only [Ah];omega,by rw [List.length_append,List.length_singleton];omega⟩ tsb
  ·rw [List.map_append];exact hK _ _ _ w1 kps
  ·rw [List.map_append];exact w3 _ (by exact lkg)
  ·intro z hz
   rcases List.mem_append.1 hz with hz|hz
   ·exact i3 z hz
   ·rw [List.mem_singleton.1 hz];exact hy
end
end
section
variable {P0:Program}{E:Env}{F:T CFn}{K:T (List AV×AV)}(L:Lg P0 E F K)(X:Fx F K)
include L X
section
variable {h:H}
noncomputable def lpA (hn mb:Nat)(st:LS):Blk:= .loop ⟨st,none,238,cf238.ntmps,tms [(6,some (.fn (.func 237) [] [.ptr mb 0])),(4,some .nils),(2,some (.ptr hn 0)),(1,some (.fn (.func 237) [] [.ptr mb 0])),(0,some .nils)],[7],c238_2,c238_4,hn+1⟩
omit L X in
structure RA (h hh:H)(mb:Nat)(S:List Int):Prop where
 k:K0 h hh
 dk:Gk hh (h.n+1) (.dfr (some []))
 lp:Gk hh (h.n+2) (lpA h.n mb .ready)
 ex: ∃v,Bk hh h.n [v]∧((S= []∧v= .nils)∨(0<S.length∧ ∃b,v= .slc b 0 S.length (Ac+1)∧Bk hh b (S.map AI)∧h.n+4≤b))
theorem cy {mb r1 ck:Nat}{M:List (Int×AV×Nat)}(q:MOk M ck)(k1:Bk h mb [.map r1])(k2:Mk h r1 (M.map (mE AI)) ck)(hlen:M.length<2000):
  Ct P0 E F K 238 [.nils,.fn (.func 237) [] [.ptr mb 0]] h fun v h'=> ∃S,List.Perm S (M.map (·.1))∧K0 h h'∧((S= []∧v= .nils)∨(0<S.length∧ ∃b,v= .slc b 0 S.length (Ac+1)∧Bk h' b (S.map AI)∧h.n≤b)):=by
 have l1:=k1.lt
 have l2:=k2.lt
 refine Af L X.f238 X.k238 rfl rfl fun Q x cs G=>?_
 refine wk ?_
 refine Yw L (post:=fun _ h'=> ∃S,List.Perm S (M.map (·.1))∧RA h h' mb S) rfl rfl rfl ?_ ?_
 ·refine Ct.A ((ml L X q (fun S hh=>RA h hh mb S) (fun S hh r=>⟨Aj r.k k1,Ve r.k k2⟩) (fun S hh h' r k=>?_) (fun S z hh r hSl hlt=>?_) ⟨kps,lkg,lkg,.nils,lkp,.inl ⟨rfl,rfl⟩⟩).mono fun v h' p=>p)
  ·obtain⟨r1,r2,r3,v,r4,r5⟩:=r
   simp only [Ah]at k
   have l3:=r4.lt
   refine⟨Kp.trS k (fun i hi e=>by omega) r1,xy k (by omega) r2,xy k (by omega) r3,v,A5 k (by omega) r4,?_⟩
   rcases r5 with r5|⟨r5,b,r6,r7,r8⟩
   ·exact .inl r5
   ·exact .inr ⟨r5,b,r6,A5 k (by omega) r7,r8⟩
  ·obtain⟨r1,r2,r3,v,r4,r5⟩:=r
   simp only [Ah]at hlt
   have l3:=r4.lt
   have l4:=r3.lt
   have hle:=r3.e
   unfold lpA at hle
   refine Vm L (l1:= [(7,some (AI z)),(6,some (.fn (.func 237) [] [.ptr mb 0])),(4,some .nils),(2,some (.ptr h.n 0)),(1,some (.fn (.func 237) [] [.ptr mb 0])),(0,some .nils)]) hle rfl ?_
   intro Q z2 cs G
   refine wk ?_
   refine Vn L (Gk.e lkg) ?_
   rcases r5 with⟨rfl,rfl⟩|⟨r5,b,rfl,r7,r8⟩
   ·refine wk ?_
    (apply st1 L rfl;exact D8 (new:= [AI z]) rfl rfl (SlR.of (c:= [AI z]) lkp (Nat.le_refl _) rfl) (by omega) (by omega);rfl)
    refine wk ?_
    refine Tx L (Gk.e lkg) G ⟨rfl,?_,by simp only [Ah];omega,fun x hx=>(fun hx2:Gk hh (h.n+3) x=>(show Gk _ (h.n+3) x from by exact lkg)) hx⟩
    exact⟨kps,lkg,(by unfold lpA;exact Vs (by omega)),_,lkp,.inr ⟨by simp,hh.n+1,rfl,by exact lkp,by omega⟩⟩
   ·have l6:=r7.lt
    refine wk ?_
    (apply st1 L rfl;exact C2 (old:=S.map AI) (new:= [AI z]) rfl rfl (SlR.of (c:=S.map AI) lkp (by simp) (by rw [List.drop_zero,List.take_of_length_le (by simp)])) (SlR.of (c:= [AI z]) lkp (Nat.le_refl _) rfl) (by omega) (by omega) rfl;rfl)
    refine wk ?_
    refine Tx L (Gk.e lkg) G ⟨rfl,?_,by simp only [Ah];omega,fun x hx=>(fun hx2:Gk hh (h.n+3) x=>(show Gk _ (h.n+3) x from by exact lkg)) hx⟩
    exact⟨kps,lkg,(by unfold lpA;exact Vs (by omega)),_,lkp,.inr ⟨by simp,hh.n+1,by simp,(by rw [List.map_append];exact lkp),by omega⟩⟩
 ·rintro v h3 ⟨S,p,r1,r2,r3,v2,r4,r5⟩
  have hle:=r3.e
  unfold lpA at hle
  have l4:=r4.lt
  have l5:=r2.lt
  refine Yx L (n:=h3.n) (t:=h3.t) (lh:= []) hle (by intro q;cases q) ?_
  refine wk ?_
  refine Gq L (todo:= []) ?_
  refine jy L (by intro q;cases q) (Gk.e lkg) ?_
  refine Gr L X.f238 (E9 rfl) G ⟨S,p,kps,?_⟩
  rcases r5 with r5|⟨r5,b,r6,r7,r8⟩
  ·exact .inl r5
  ·exact .inr ⟨r5,b,r6,by exact lkp,by omega⟩
end
end
section
variable {P0:Program}{E:Env}{F:T CFn}{K:T (List AV×AV)}(L:Lg P0 E F K)(X:Fx F K)
include L X
section
variable {h:H}
omit L X in
structure RowN (h:H)(lo:Nat)(v:AV)(S:List Int):Prop where
 ex:(S= []∧v= .nils)∨(0<S.length∧ ∃b,v= .slc b 0 S.length (Ac+1)∧Bk h b (S.map AI)∧lo≤b)
omit L X in
theorem RowN.k0 {h h':H}{lo:Nat}{v:AV}{S:List Int}(q:RowN h lo v S)(k:K0 h h'):RowN h' lo v S:=by
 rcases q.ex with h1|⟨h2,b,h3,h4,h5⟩
 ·exact⟨.inl h1⟩
 ·exact⟨.inr ⟨h2,b,h3,Aj k h4,h5⟩⟩
theorem Xt {mb r1 ck:Nat}{M:List (Int×AV×Nat)}(q:MOk M ck)(k1:Bk h mb [.map r1])(k2:Mk h r1 (M.map (mE AI)) ck)(hlen:M.length<2000):
  Ct P0 E F K 214 [.fn (.func 237) [] [.ptr mb 0]] h fun v h'=> ∃S,List.Perm S (M.map (·.1))∧K0 h h'∧RowN h' h.n v S:=by
 refine Ao L X.f214 X.k214 rfl rfl fun Q x cs G=>?_
 refine wk ?_
 refine cal (c:=cy L X q k1 k2 hlen) (g:=?_)
 rintro _ h2 ⟨S,p,w1,w2⟩
 rcases w2 with⟨rfl,rfl⟩|⟨w2,b,rfl,w3,w4⟩
 ·refine wk ?_
  refine ret X.f214 ?_
  exact⟨_,p,kps,⟨.inl ⟨by first|rfl|exact List.mergeSort_nil,rfl⟩⟩⟩
 ·refine wk ?_
  refine ret X.f214 ?_
  exact⟨_,p,kps,⟨.inr ⟨w2,b,rfl,by exact lkp,w4⟩⟩⟩
theorem cz {mb r1 ck:Nat}{M:List (Int×AV×Nat)}(U:SortOk P0 E F 171)(q:MOk M ck)(k1:Bk h mb [.map r1])(k2:Mk h r1 (M.map (mE AI)) ck)(hlen:M.length<2000):
  Ct P0 E F K 191 [.fn (.func 237) [] [.ptr mb 0]] h fun v h'=> ∃S,List.Perm S (M.map (·.1))∧K0 h h'∧RowN h' h.n v (Dk S):=by
 obtain⟨g0,hg0⟩:=U.g
 refine Ao L X.f191 X.k191 rfl rfl fun Q x cs G=>?_
 refine wk ?_
 refine cal (c:=Xt L X q k1 k2 hlen) (g:=?_)
 rintro _ h2 ⟨S,p,w1,w2⟩
 have pl:=p.length_eq
 rw [List.length_map]at pl
 rcases w2.ex with⟨rfl,rfl⟩|⟨w3,b,rfl,w4,w5⟩
 ·refine wk ?_
  refine Qo L rfl rfl rfl rfl hg0 (U.x0 _) ?_
  rintro _ _ ⟨rfl,rfl⟩
  refine wk ?_
  refine ret X.f191 ?_
  exact⟨_,p,kps,⟨.inl ⟨by first|rfl|exact List.mergeSort_nil,rfl⟩⟩⟩
 ·refine wk ?_
  refine Qo L rfl rfl rfl rfl hg0 (U.x _ _ S (by exact lkp) w3 (by omega)) ?_
  rintro _ h3 ⟨rfl,w6,w7⟩
  refine wk ?_
  refine ret X.f191 ?_
  exact⟨_,p,kps,⟨.inr ⟨by rw [Df];exact w3,b,by rw [Df];rfl,by exact lkp,w5⟩⟩⟩
theorem Xu {r1 ck:Nat}{M:List (Int×AV×Nat)}(U:SortOk P0 E F 171)(q:MOk M ck)(k2:Mk h r1 (M.map (mE AI)) ck)(hlen:M.length<2000):
  Ct P0 E F K 175 [.map r1] h fun v h'=> ∃S,List.Perm S (M.map (·.1))∧K0 h h'∧RowN h' h.n v (Dk S):=by
 have l2:=k2.lt
 have hkeys:Ct P0 E F K 210 [.map r1] h fun v h'=>v= .fn (.func 237) [] [.ptr h.n 0]∧Bk h' h.n [.map r1]∧K0 h h'∧h'.n=h.n+1:=by
  refine Ao L X.f210 X.k210 rfl rfl fun Q x cs G=>?_
  refine wk ?_
  refine ret X.f210 ?_
  exact⟨rfl,lkp,kps,rfl⟩
 refine Ao L X.f175 X.k175 rfl rfl fun Q x cs G=>?_
 refine wk ?_
 refine cal (c:=hkeys) (g:=?_)
 rintro _ h2 ⟨rfl,w1,w2,w3⟩
 refine wk ?_
 refine cal (c:=cz L X U q w1 (Ve w2 k2) hlen) (g:=?_)
 rintro _ h3 ⟨S,p,w4,w5⟩
 have w6:=w5
 rcases w5.ex with⟨e0,rfl⟩|⟨w7,b,rfl,w8,w9⟩
 ·refine wk ?_
  refine ret X.f175 ?_
  exact⟨_,p,kps,⟨.inl ⟨e0,rfl⟩⟩⟩
 ·refine wk ?_
  refine ret X.f175 ?_
  exact⟨_,p,kps,⟨.inr ⟨w7,b,rfl,by exact lkp,by omega⟩⟩⟩
end
end
theorem Ht: ∀(n:Nat) (l:List Int),l.Nodup→(∀x∈l,0≤x∧x<(n:Int))→l.length≤n
 |0,l,_,h=>by
  cases l with
  |nil=>exact Nat.le_refl _
  |cons x r=>have:=h x (List.mem_cons_self ..);omega
 |n+1,l,hn,h=>by
  have h1:=Ht n (l.erase (n:Int)) (hn.erase _) fun x hx=>by
   have h2:=hn.mem_erase_iff.1 hx
   have h3:=h x h2.2
   have:x≠(n:Int):=h2.1
   omega
  have h4:=List.length_erase (a:=(n:Int)) (l:=l)
  split at h4 <;> omega
theorem F8 (S:List Int):(Dk S).Perm S:=List.mergeSort_perm S _
theorem sq (S:List Int):(Dk S).Pairwise (· ≤ ·):=by
 have:=List.pairwise_mergeSort (le:=fun x y:Int=>decide (x≤y)) (by intro a b c;simp only [decide_eq_true_eq];omega) (by intro a b;simp only [Bool.or_eq_true,decide_eq_true_eq];omega) S
 exact this.imp fun h=>by simpa using h
theorem Zb {S:List Int}(h:S.Nodup):(Dk S).Pairwise (· < ·):=by
 have h1:(Dk S).Nodup:=(F8 S).nodup_iff.2 h
 refine((sq S).and h1).imp fun {a b} q=>?_
 have:=q.1
 have:a≠b:=q.2
 omega
structure DomA (A:Int→Option Int)(S:List Int):Prop where
 lt:S.Pairwise (· < ·)
 mem: ∀s,s∈S↔(A s).isSome=true
theorem MQ.dom {M1 M2:List (Int×AV×Nat)}{A:Int→Option Int}{ck:Nat}(q:MQ M1 M2 A)(o:MOk M1 ck){S:List Int}(p:S.Perm (M1.map (·.1))):DomA A (Dk S):=by
 refine⟨Zb (p.nodup_iff.2 o.keys),fun s=>?_⟩
 rw [(F8 S).mem_iff,p.mem_iff,←mHas_mem,D3]
 have h1:=q.a1 s
 unfold Be at h1
 cases hA:A s with
 |none=>rw [hA]at h1;simp only [Option.map_none,Option.map_eq_none_iff]at h1;rw [h1];simp
 |some v=>
  rw [hA]at h1
  cases hf:M1.find? fun x=>decide (s=x.1)with
  |none=>rw [hf]at h1;cases h1
  |some x=>simp
theorem MpR.keys {S nb P:Nat}{h:H}{m r1 r2 vb t:Nat}{A:Int→Option Int}{M1 M2:List (Int×AV×Nat)}{c1 c2:Nat}{cv:List AV}(q:MpR S nb P h m r1 r2 vb A t)(o:MpC S nb P h m r1 r2 vb A t M1 M2 c1 c2 cv):M1.length≤1000:=by
 have h1:=Ht S (M1.map (·.1)) o.o1.keys fun x hx=>by
  have h2:=mHas_mem.2 hx
  have h3:=o.mr.a1 x
  cases hA:A x with
  |none=>rw [hA]at h3;have:=mGet_none.1 h3;rw [this]at h2;cases h2
  |some p=>have:=q.rg x p hA;omega
 rw [List.length_map]at h1
 have:=q.nz
 omega
section
variable {P0:Program}{E:Env}{F:T CFn}{K:T (List AV×AV)}(L:Lg P0 E F K)(X:Fx F K)
include L X
section
variable {h:H}
omit L X in
def atA (A:Int→Option Int)(s:Int):Int:=(A s).getD 0
omit L X in
theorem sr {M1 M2:List (Int×AV×Nat)}{A:Int→Option Int}(q:MQ M1 M2 A)(s:Int):(Be M1 s).getD (AI ((0:Nat):Int))=AI (atA A s):=by
 rw [q.a1];unfold atA;cases A s <;> rfl
theorem su {S nb P m r1 r2 vb t:Nat}{A:Int→Option Int}(U:SortOk P0 E F 171)(q:MpR S nb P h m r1 r2 vb A t):
  Ct P0 E F K 115 [.ptr m 0] h fun v h'=> ∃D a b va vb',DomA A D∧D.length≤1000∧v= .fn (.func 209) [] [.ptr a 0,.ptr b 0]∧Bk h' a [va]∧Bk h' b [vb']∧RowN h' h.n va D∧RowN h' h.n vb' (D.map (atA A))∧K0 h h'∧h.n≤a∧h.n≤b:=by
 have q0:=q
 obtain⟨km,⟨n1,n2,n3,n4,n5,n6⟩,rg,nz,M1,M2,c1,c2,cv,oo⟩:=q
 have hk:=MpR.keys q0 oo
 obtain⟨k1,o1,k2,o2,kv,vl,vv,mr⟩:=oo
 have l1:=km.lt
 have l2:=k1.lt
 have hpairs0: ∀(h2:H),Ct P0 E F K 174 [.nils,.nils] h2 fun v h'=>v= .fn (.func 209) [] [.ptr h2.n 0,.ptr (h2.n+1) 0]∧Bk h' h2.n [.nils]∧Bk h' (h2.n+1) [.nils]∧K0 h2 h':=by
  intro h2
  refine Af L X.f174 X.k174 rfl rfl fun Q x cs G=>?_
  refine wk ?_
  refine ret X.f174 ?_
  exact⟨rfl,lkp,lkp,kps⟩
 have hpairs1: ∀(h2:H) (a0 b0 k0 l0:Nat),Ct P0 E F K 174 [.slc a0 0 k0 (Ac+1),.slc b0 0 l0 (Ac+1)] h2 fun v h'=>v= .fn (.func 209) [] [.ptr h2.n 0,.ptr (h2.n+1) 0]∧Bk h' h2.n [.slc a0 0 k0 (Ac+1)]∧Bk h' (h2.n+1) [.slc b0 0 l0 (Ac+1)]∧K0 h2 h':=by
  intro h2 a0 b0 k0 l0
  refine Af L X.f174 X.k174 rfl rfl fun Q x cs G=>?_
  refine wk ?_
  refine ret X.f174 ?_
  exact⟨rfl,lkp,lkp,kps⟩
 refine Ao L X.f115 X.k115 rfl rfl fun Q x cs G=>?_
 refine wk ?_
 refine cal (c:=Qw L X (c0:=AI ((S:Nat):Int)) (c1:=AI ((nb:Nat):Int)) (c2:=AI ((P:Nat):Int)) (r1:=r1) (rest:= [.map r2,.slc vb 0 nb nb]) lkp) (g:=?_)
 rintro _ rfl
 refine wk ?_
 refine cal (c:=Xu L X U o1 k1 (by omega)) (g:=?_)
 rintro _ h2 ⟨S0,p,w1,w2⟩
 have hD:=mr.dom o1 p
 have hDl:(Dk S0).length≤1000:=by rw [Df,p.length_eq,List.length_map];exact hk
 generalize Dk S0=D at*
 have n2:=w1.n
 rcases w2.ex with⟨rfl,rfl⟩|⟨w3,db,rfl,w4,w5⟩
 ·refine wk ?_
  refine A4 L ?_
  refine wk ?_
  refine cal (c:=hpairs0 _) (g:=?_)
  rintro _ h3 ⟨rfl,u1,u2,u3⟩
  refine wk ?_
  refine ret X.f115 ?_
  exact⟨[],_,_,.nils,.nils,hD,hDl,rfl,by exact lkp,by exact lkp,⟨.inl ⟨rfl,rfl⟩⟩,⟨.inl ⟨rfl,rfl⟩⟩,kps,by first|omega|(simp only [Ah]at *;omega),by first|omega|(simp only [Ah]at *;omega)⟩
 have ld:=w4.lt
 refine wk ?_
 refine Bb L (α:= AV) (T:=fun i v=> [(17,some (AI ((i:Nat):Int))),(16,some (AI ((D.length:Nat):Int))),(15,some (.slc db 0 D.length (Ac+1))),(4,some v),(3,some (.slc db 0 D.length (Ac+1))),(0,some (.ptr m 0))]) (n:=D.length)
  (R:=fun i v h3=>RowN h3 h2.n v ((D.take i).map (atA A))∧K0 h h3∧K0 h2 h3) (i0:=0) .nils tsb ⟨⟨.inl ⟨rfl,rfl⟩⟩,kps,kps⟩ (Nat.zero_le _) ?_ ?_
 ·rintro i v h3 hi ⟨u1,u2,u3⟩ ih
  have hx:D[i]?=some D[i]:=List.getElem?_eq_getElem hi
  have hxm:(D.map AI)[i]?=some (AI D[i]):=by rw [List.getElem?_map,hx];rfl
  have e1:((D.take (i+1)).map (atA A))=(D.take i).map (atA A)++ [atA A D[i]]:=by rw [List.take_add_one,hx,List.map_append];rfl
  have e2:((D.take i).map (atA A)).length=i:=by rw [List.length_map,List.length_take];omega
  rw [e1]at ih
  generalize D[i]=s at*
  have hg:=sr mr s
  have n3:=u3.n
  (try refine Br L 1000 rfl ?_);(repeat(first|(apply st1 L rfl;exact⟨Ei rfl⟩;rfl)|(apply st1 L rfl;exact Kj rfl rfl rfl;rfl)|(apply st1 L rfl;exact Hb rfl rfl (by omega);rfl)|(apply st1 L rfl;exact Dh rfl rfl (by omega);rfl)|(apply st1 L rfl;(apply Bp rfl;exact lkp;first|rfl|assumption);rfl)))
  (apply st1 L rfl;exact Gu (KE.int .i64) rfl rfl lkq;rfl)
  rw [hg]
  rcases u1.ex with⟨e0,rfl⟩|⟨gn,lb,rfl,g5,g6⟩
  ·refine wk ?_
   (apply st1 L rfl;exact D8 (new:= [AI (atA A s)]) rfl rfl (SlR.of (c:= [AI (atA A s)]) lkp (Nat.le_refl _) rfl) (by omega) (by omega);rfl)
   refine wk ?_
   refine ih _ _ _ ⟨?_,kps,kps⟩ tsb
   rw [e0,List.nil_append]
   exact⟨.inr ⟨by simp,_,rfl,by exact lkp,by omega⟩⟩
  ·have g8:=g5.lt
   rw [e2]
   refine wk ?_
   (apply st1 L rfl;exact C2 (old:=((D.take i).map (atA A)).map AI) (new:= [AI (atA A s)]) rfl rfl (SlR.of (c:=((D.take i).map (atA A)).map AI) lkp (by rw [List.length_map,e2];omega) (by rw [List.drop_zero,List.take_of_length_le (by rw [List.length_map,e2];omega)])) (SlR.of (c:= [AI (atA A s)]) lkp (Nat.le_refl _) rfl) (by omega) (by omega) rfl;rfl)
   refine wk ?_
   refine ih _ _ _ ⟨?_,kps,kps⟩ tsb
   refine⟨.inr ⟨by simp,h3.n+1,(by rw [List.length_append,e2];rfl),(by rw [List.map_append];exact lkp),by omega⟩⟩
 ·rintro v h3 ⟨u1,u2,u3⟩
  rw [List.take_length]at u1
  rcases u1.ex with⟨e0,rfl⟩|⟨gn,lb,rfl,g5,g6⟩
  ·rw [List.map_eq_nil_iff]at e0;rw [e0]at w3;exact absurd w3 (Nat.lt_irrefl 0)
  have g8:=g5.lt
  have hn:=u3.n
  refine wk ?_
  refine cal (c:=hpairs1 _ db lb _ _) (g:=?_)
  rintro _ h4 ⟨rfl,x1,x2,x3⟩
  refine wk ?_
  refine ret X.f115 ?_
  exact⟨D,_,_,_,_,hD,hDl,rfl,by exact lkp,by exact lkp,⟨.inr ⟨w3,db,rfl,by exact lkp,by omega⟩⟩,⟨.inr ⟨gn,lb,rfl,by exact lkp,by omega⟩⟩,kps,by first|omega|(simp only [Ah]at *;omega),by first|omega|(simp only [Ah]at *;omega)⟩
end
end
section
variable {P0:Program}{E:Env}{F:T CFn}{K:T (List AV×AV)}(L:Lg P0 E F K)(X:Fx F K)
include L X
section
variable {h:H}
theorem c6 {lp a b lo:Nat}{va vb':AV}{D:List Int}{g:Int→Int}(hlen:D.length≤1000)(I:Nat→H→Prop)
  (hI: ∀i hh,I i hh→Bk hh a [va]∧Bk hh b [vb']∧RowN hh lo va D∧RowN hh lo vb' (D.map g)) (hK: ∀i hh h',I i hh→K0 hh h'→I i h')
  (hY: ∀i s hh,D[i]?=some s→I i hh→CtA P0 E F K (.yield lp) [AI s,AI (g s)] hh fun u h'=>u= .bool true∧I (i+1) h') (h0:I 0 h):
  Ct P0 E F K 209 [.fn (.yield lp) [] [],.ptr a 0,.ptr b 0] h fun v h'=>I D.length h':=by
 obtain⟨k1,k2,k3,k4⟩:=hI _ _ h0
 rcases k3.ex with⟨rfl,rfl⟩|⟨hp1,da,rfl,k5,k6⟩
 ·refine A6 L X.f209 X.k209 rfl rfl fun Q x cs G=>?_
  refine wk ?_
  refine A4 L ?_
  refine wk ?_
  refine ret X.f209 ?_
  exact hK _ _ _ h0 kps
 rcases k4.ex with⟨e0,rfl⟩|⟨hp2,db,rfl,k7,k8⟩
 ·rw [List.map_eq_nil_iff]at e0;rw [e0]at hp1;exact absurd hp1 (Nat.lt_irrefl 0)
 refine A6 L X.f209 X.k209 rfl rfl fun Q x cs G=>?_
 refine wk ?_
 refine Bb L (α:= Unit) (T:=fun i _=> [(8,some (AI ((i:Nat):Int))),(7,some (AI ((D.length:Nat):Int))),(6,some (.slc da 0 D.length (Ac+1))),(2,some (.ptr b 0)),(0,some (.fn (.yield lp) [] []))]) (n:=D.length)
  (R:=fun i _ hh=>I i hh) (i0:=0) () tsb (hK _ _ _ h0 kps) (Nat.zero_le _) ?_ ?_
 ·rintro i _ h2 hi w ih
  have hx:D[i]?=some D[i]:=List.getElem?_eq_getElem hi
  have hxa:(D.map AI)[i]?=some (AI D[i]):=by rw [List.getElem?_map,hx];rfl
  have hxb:((D.map g).map AI)[i]?=some (AI (g D[i])):=by rw [List.getElem?_map,List.getElem?_map,hx];rfl
  have hl2:i<(D.map g).length:=by rw [List.length_map];exact hi
  obtain⟨j1,j2,j3,j4⟩:=hI _ _ w
  have j5:Bk h2 da (D.map AI):=by
   rcases j3.ex with⟨_,e⟩|⟨_,b',e,e2,_⟩
   ·cases e
   ·cases e;exact e2
  have j6:Bk h2 db ((D.map g).map AI):=by
   rcases j4.ex with⟨_,e⟩|⟨_,b',e,e2,_⟩
   ·cases e
   ·cases e;exact e2
  generalize D[i]=s at*
  refine wk ?_
  refine Qg L rfl rfl rfl rfl rfl (hY i _ _ hx (hK i _ _ w (by exact kps))) ?_
  rintro _ h3 ⟨rfl,w3⟩
  refine wk ?_
  refine ih () _ _ w3 ?_;exact tsb
 ·rintro _ h2 w
  refine wk ?_
  refine ret X.f209 ?_
  exact w
end
end
section
variable {P0:Program}{E:Env}{F:T CFn}{K:T (List AV×AV)}(L:Lg P0 E F K)(X:Fx F K)
include L X
section
variable {h:H}
noncomputable def lpM (m hn a b mk:Nat)(st:LS):Blk:= .loop ⟨st,none,59,cf59.ntmps,tms [(6,some (.fn (.func 209) [] [.ptr a 0,.ptr b 0])),(5,some (.ptr m 0)),(2,some (.ptr hn 0)),(0,some (.ptr m 0))],[7,8],c59_4,c59_6,mk⟩
omit L X in
def F6 (A:Int→Option Int)(D:List Int):List Ent:=D.map fun s=>(s,atA A s)
omit L X in
theorem RowN.kS {h h':H}{S:Nat→Prop}{lo hi:Nat}{v:AV}{D:List Int}(q:RowN h lo v D)(hb: ∀b n c,v= .slc b 0 n c→b<hi)(k:Kp S h h')(hs: ∀j,lo≤j→j<hi→ ¬S j):RowN h' lo v D:=by
 rcases q.ex with h1|⟨h2,b,h3,h4,h5⟩
 ·exact⟨.inl h1⟩
 ·exact⟨.inr ⟨h2,b,h3,A5 k (hs b h5 (hb _ _ _ h3)) h4,h5⟩⟩
omit L X in
theorem RowN.bd {h:H}{lo:Nat}{v:AV}{D:List Int}(q:RowN h lo v D): ∀b n c,v= .slc b 0 n c→b<h.n:=by
 intro b n c e
 rcases q.ex with⟨_,h1⟩|⟨_,b',h3,h4,_⟩
 ·rw [h1]at e;cases e
 ·rw [h3]at e;cases e;exact h4.lt
omit L X in
structure RE (h hh:H)(m a b mk:Nat)(va vb':AV)(A:Int→Option Int)(D:List Int)(i:Nat):Prop where
 k:K0 h hh
 dk:Gk hh mk (.dfr (some []))
 lp:Gk hh (mk+1) (lpM m h.n a b mk .ready)
 ka:Bk hh a [va]
 kb:Bk hh b [vb']
 ra:RowN hh (h.n+1) va D
 rb:RowN hh (h.n+1) vb' (D.map (atA A))
 ex: ∃v,Bk hh h.n [v]∧EL hh (mk+2) v (F6 A (D.take i))
theorem Vw {S nb P m r1 r2 vb t:Nat}{A:Int→Option Int}(U:SortOk P0 E F 171)(q:MpR S nb P h m r1 r2 vb A t):
  Ct P0 E F K 59 [.ptr m 0] h fun v h'=> ∃D,DomA A D∧D.length≤1000∧EL h' h.n v (F6 A D)∧K0 h h':=by
 refine Ao L X.f59 X.k59 rfl rfl fun Q x cs G=>?_
 refine wk ?_
 refine cal (c:=su L X U (q.k0 kps)) (g:=?_)
 rintro _ h2 ⟨D,a,b,va,vb',hD,hDl,rfl,w1,w2,w3,w4,w5,w6,w7⟩
 have n5:=w5.n
 simp only [Ah]at n5 w6 w7
 have la:=w1.lt
 have lb:=w2.lt
 refine wk ?_
 refine Yw L (post:=fun _ h'=>RE h h' m a b h2.n va vb' A D D.length) rfl rfl rfl ?_ ?_
 ·refine Ct.A ((c6 L X (g:=atA A) (lo:=h.n+1) hDl (fun i hh=>RE h hh m a b h2.n va vb' A D i) (fun i hh r=>⟨r.ka,r.kb,r.ra,r.rb⟩) (fun i hh h' r k=>?_) (fun i s hh hx r=>?_) ⟨kps,lkg,lkg,by exact lkp,by exact lkp,?_,?_,.nils,by exact lkp,EL.nil _ _⟩).mono fun v h' p=>p)
  ·exact⟨Kp.tr0 k r.k,ly k r.dk,ly k r.lp,Aj k r.ka,Aj k r.kb,r.ra.k0 k,r.rb.k0 k,let⟨v,e1,e2⟩:=r.ex;⟨v,Aj k e1,e2.k0 k⟩⟩
  ·obtain⟨r1,r2,r3,r4,r5,r6,r7,v,r8,r9⟩:=r
   have hle:=r3.e
   unfold lpM at hle
   have g1:=r2.lt
   have g2:=r3.lt
   have g3:=r4.lt
   have g4:=r5.lt
   have g5:=r8.lt
   have hi:=(List.getElem?_eq_some_iff.1 hx).1
   have e1:F6 A (D.take (i+1))=F6 A (D.take i)++ [(s,atA A s)]:=by unfold F6;rw [List.take_add_one,hx,List.map_append];rfl
   have e2:(F6 A (D.take i)).length=i:=by unfold F6;rw [List.length_map,List.length_take];omega
   refine Vm L (l1:= [(8,some (AI (atA A s))),(7,some (AI s)),(6,some (.fn (.func 209) [] [.ptr a 0,.ptr b 0])),(5,some (.ptr m 0)),(2,some (.ptr h.n 0)),(0,some (.ptr m 0))]) hle rfl ?_
   intro Q z2 cs G
   refine wk ?_
   refine Vn L (Gk.e lkg) ?_
   rcases r9.len with⟨e0,rfl⟩|⟨gn,lb2,rfl,g6,g7⟩
   ·refine wk ?_
    (apply st1 L rfl;exact D8 (new:=An (s,atA A s)) rfl rfl (SlR.of (c:=An (s,atA A s)) lkp (Nat.le_refl _) rfl) (by omega) (by omega);rfl)
    refine wk ?_
    refine Tx L (Gk.e lkg) G ⟨rfl,?_⟩
    refine⟨kps,lkg,(by unfold lpM;exact Vs (by omega)),by exact lkp,by exact lkp,r6.kS (S:=fun j=>j=h.n∨j=h2.n+1) w3.bd kps (by intro j q1 q2;omega),r7.kS (S:=fun j=>j=h.n∨j=h2.n+1) w4.bd kps (by intro j q1 q2;omega),_,by exact lkp,?_⟩
    rw [e1,e0,List.nil_append]
    exact EL.app (l:= []) (by exact lkp) (by omega) rfl
   ·have g8:=g6.lt
    rw [e2]at r8
    refine wk ?_
    (apply st1 L rfl;exact C2 (old:=(F6 A (D.take i)).flatMap An) (new:=An (s,atA A s)) rfl rfl (SlR.of (c:=(F6 A (D.take i)).flatMap An) lkp (by rw [A2,e2];omega) (by rw [List.drop_zero,List.take_of_length_le (by rw [A2,e2];exact Nat.le_refl _)])) (SlR.of (c:=An (s,atA A s)) lkp (Nat.le_refl _) rfl) (by omega) (by omega) rfl;rfl)
    refine wk ?_
    refine Tx L (Gk.e lkg) G ⟨rfl,?_⟩
    refine⟨kps,lkg,(by unfold lpM;exact Vs (by omega)),by exact lkp,by exact lkp,r6.kS (S:=fun j=>j=h.n∨j=h2.n+1∨j=lb2) w3.bd kps (by intro j q1 q2;omega),r7.kS (S:=fun j=>j=h.n∨j=h2.n+1∨j=lb2) w4.bd kps (by intro j q1 q2;omega),_,by exact lkp,?_⟩
    rw [e1]
    exact EL.app (l:=F6 A (D.take i)) (by exact lkp) (by omega) e2
  ·exact w3.k0 kps
  ·exact w4.k0 kps
 ·rintro v h3 ⟨r1,r2,r3,r4,r5,r6,r7,v2,r8,r9⟩
  have hle:=r3.e
  unfold lpM at hle
  have l4:=r8.lt
  have l5:=r2.lt
  refine Yx L (n:=h3.n) (t:=h3.t) (lh:= []) hle (by intro q;cases q) ?_
  rw [List.take_length]at r9
  rcases r9.ex with⟨e0,rfl⟩|⟨e0,b',rfl,r10,r11⟩
  all_goals
   refine wk ?_
   refine Gq L (todo:= []) ?_
   refine jy L (by intro q;cases q) (Gk.e lkg) ?_
   refine Gr L X.f59 (Dn (b:=h.n) rfl (Bk.e lkp) rfl Ix) G ⟨D,hD,hDl,?_,kps⟩
  ·exact⟨.inl ⟨e0,rfl⟩⟩
  ·exact⟨.inr ⟨e0,b',rfl,by exact lkp,by omega⟩⟩
end
end
def Bm (x:PgE):Bool:=decide (x.s.kind=1)
def isJ (x:PgE):Bool:=!Bm x && (B2 x.data).isSome
abbrev Rec:=Nat×Nat×Nat×Nat
def Ir (k:Rec):AV:= .agg [.int .u8 ((k.1:Nat):Int),.int .u64 ((k.2.1:Nat):Int),.int .u64 ((k.2.2.1:Nat):Int),.int .i64 ((k.2.2.2:Nat):Int)]
def Aa7:Sh:= .agg [(0,0,.pint),(1,0,.pint),(2,0,.pint),(3,0,.pint)]
def Ak (s:Sp):Rec:=(s.kind,s.seq - s.idx.toNat,s.prev,s.len.toNat)
structure Sp.Jr (s:Sp):Prop where
 v:s.Valid
 ok:s.Ok
 k:s.kind=2∨s.kind=3
theorem KE.recd:KE Aa7 Ir:=by
 refine⟨fun a b=>?_,fun a=>rfl,fun a=>?_⟩
 ·obtain⟨a0,a1,a2,a3⟩:=a
  obtain⟨b0,b1,b2,b3⟩:=b
  by_cases h0:a0=b0 <;> by_cases h1:a1=b1 <;> by_cases h2:a2=b2 <;> by_cases h3:a3=b3 <;> simp [Aa7,Ir,eqv,H2,Wc,F9,A7,E2,h0,h1,h2,h3,Int.natCast_inj]
 ·obtain⟨a0,a1,a2,a3⟩:=a
  show I5 _ _=true
  simp [I5,F9,A7,Qn]
abbrev JP:=Sp×List Ent
def Ca (L:List JP)(k:Rec):Option Nat:=L.findIdx? fun p=>decide (Ak p.1=k)
def Dr (L:List JP)(k:Rec)(i:Int):Option Nat:=L.findIdx? fun p=>decide (Ak p.1=k) && decide (p.1.idx=i)
theorem L0 {α: Type}(f:α→Bool)(L:List α)(p:α):(L++ [p]).findIdx? f=match L.findIdx? f with
 |some i=>some i
 |none=>if f p=true then some L.length else none:=by
 rw [List.findIdx?_append]
 cases L.findIdx? f with
 |some i=>rfl
 |none=>
  simp only [Option.none_or,List.findIdx?_cons,List.findIdx?_nil]
  by_cases h:f p=true <;> simp [h]
theorem E6 (L:List JP)(p:JP)(k:Rec):Ca (L++ [p]) k=match Ca L k with
 |some i=>some i
 |none=>if Ak p.1=k then some L.length else none:=by
 unfold Ca;rw [L0];simp only [decide_eq_true_eq]
theorem Hu (L:List JP)(p:JP)(k:Rec)(i:Int):Dr (L++ [p]) k i=match Dr L k i with
 |some j=>some j
 |none=>if Ak p.1=k∧p.1.idx=i then some L.length else none:=by
 unfold Dr;rw [L0];simp only [Bool.and_eq_true,decide_eq_true_eq]
theorem c7 {L:List JP}{k:Rec}{i:Int}(h:Ca L k=none):Dr L k i=none:=by
 unfold Ca at h;unfold Dr
 rw [List.findIdx?_eq_none_iff]at h ⊢
 intro x hx
 have:=h x hx
 simp only [decide_eq_false_iff_not]at this
 simp [this]
theorem L1 {L:List JP}{k:Rec}{e:Nat}(h:Ca L k=some e): ∃p,L[e]?=some p∧Ak p.1=k:=by
 unfold Ca at h
 rw [List.findIdx?_eq_some_iff_getElem]at h
 obtain⟨h1,h2,_⟩:=h
 exact⟨L[e],List.getElem?_eq_getElem h1,by simpa using h2⟩
theorem Hv {L:List JP}{k:Rec}{i:Int}{e:Nat}(h:Dr L k i=some e): ∃p,L[e]?=some p∧Ak p.1=k∧p.1.idx=i:=by
 unfold Dr at h
 rw [List.findIdx?_eq_some_iff_getElem]at h
 obtain⟨h1,h2,_⟩:=h
 exact⟨L[e],List.getElem?_eq_getElem h1,by simpa using h2⟩
theorem mm {L:List JP}{k k':Rec}{e:Nat}(h:Ca L k=some e)(h':Ca L k'=some e):k=k':=by
 obtain⟨p,h1,h2⟩:=L1 h
 obtain⟨p',h3,h4⟩:=L1 h'
 rw [h1]at h3;cases h3
 rw [←h2,h4]
structure RcR (h:H)(lo:Nat)(M:List (Rec×AV×Nat))(ck:Nat)(P:List JP):Prop where
 ok:MOk M ck
 no: ∀k,Ca P k=none→Be M k=none
 at_: ∀k e,Ca P k=some e→ ∃a Mi ci,Be M k=some (.agg [.map a,AI ((e:Nat):Int)])∧Mk h a (Mi.map (mE AI)) ci∧MOk Mi ci∧lo≤a∧ ∀i,Be Mi i=(Dr P k i).map fun j=>AI ((j:Nat):Int)
 ne: ∀k k' a a' e e',Be M k=some (.agg [.map a,e])→Be M k'=some (.agg [.map a',e'])→a=a'→k=k'
theorem RcR.nil (h:H)(lo:Nat):RcR h lo [] 0 []:=⟨MOk.nil,fun _ _=>rfl,fun k e q=>(by cases q),fun k k' a a' e e' q=>(by cases q)⟩
def jpC (x:JP×AV):List AV:=spC x.1.1++ [x.2]
structure JL (h:H)(lo:Nat)(v:AV)(L:List JP):Prop where
 ex: ∃l:List (JP×AV),l.map (·.1)=L∧(∀x∈l,EL h lo x.2 x.1.2)∧((l= []∧v= .nils)∨(0<l.length∧ ∃b,v= .slc b 0 l.length (Ac+7)∧Bk h b (l.flatMap jpC)∧lo≤b))
theorem G6 (l:List (JP×AV)): ∀x∈l,(jpC x).length=7:=fun _ _=>rfl
section
variable {α: Type}[DecidableEq α]{sh:Sh}{enc:α→AV}{l:List (Nat×Option AV)}{h:H}{x y:O}{r ck:Nat}{zero v:AV}{M:List (α×AV×Nat)}{k:α}
theorem T6 (e:KE sh enc)(hx:evO l x=some (.map r))(hy:evO l y=some (enc k))(hb:Mk h r (M.map (mE enc)) ck)(hg:Be M k=none):XV (.lookup sh zero x y true) h l (.tup [zero,.bool false]) h:=by
 have:=Ee (zero:=zero) e hx hy hb;rw [hg]at this;exact this
theorem Zc (e:KE sh enc)(hx:evO l x=some (.map r))(hy:evO l y=some (enc k))(hb:Mk h r (M.map (mE enc)) ck)(hg:Be M k=some v):XV (.lookup sh zero x y true) h l (.tup [v,.bool true]) h:=by
 have:=Ee (zero:=zero) e hx hy hb;rw [hg]at this;exact this
end
section
variable {h h':H}{lo ck:Nat}{M:List (Rec×AV×Nat)}{P:List JP}{p:JP}
theorem RcR.twice (q:RcR h lo M ck P){e j:Nat}(hE:Ca P (Ak p.1)=some e)(hF:Dr P (Ak p.1) p.1.idx=some j)(keep: ∀b es c,lo≤b→Mk h b es c→Mk h' b es c):RcR h' lo M ck (P++ [p]):=by
 refine⟨q.ok,fun k hk=>q.no k ?_,fun k e' he=>?_,q.ne⟩
 ·rw [E6]at hk
  cases h1:Ca P k with
  |none=>rfl
  |some i=>rw [h1]at hk;cases hk
 ·have h2:Ca P k=some e':=by
   rw [E6]at he
   cases h1:Ca P k with
   |some i=>rw [h1]at he;exact he
   |none=>
    rw [h1]at he
    by_cases h3:Ak p.1=k
    ·rw [←h3,hE]at h1;cases h1
    ·simp only [if_neg h3]at he;cases he
  obtain⟨a,Mi,ci,g1,g2,g3,g4,g5⟩:=q.at_ k e' h2
  refine⟨a,Mi,ci,g1,keep _ _ _ g4 g2,g3,g4,fun i=>?_⟩
  rw [g5,Hu]
  cases h4:Dr P k i with
  |some x=>rfl
  |none=>
   by_cases h5:Ak p.1=k∧p.1.idx=i
   ·rw [←h5.1,←h5.2,hF]at h4;cases h4
   ·simp only [if_neg h5]
theorem RcR.add (q:RcR h lo M ck P){e a ci c':Nat}{Mi:List (Int×AV×Nat)}(hE:Ca P (Ak p.1)=some e)(hF:Dr P (Ak p.1) p.1.idx=none)(hg:Be M (Ak p.1)=some (.agg [.map a,AI ((e:Nat):Int)]))(oi:MOk Mi ci)(la:lo≤a)
  (hf: ∀i,Be Mi i=(Dr P (Ak p.1) i).map fun j=>AI ((j:Nat):Int)) (ha:Mk h' a ((Ew Mi ci p.1.idx (AI ((P.length:Nat):Int))).map (mE AI)) (mCk Mi ci p.1.idx)) (keep: ∀b es c,lo≤b→b≠a→Mk h b es c→Mk h' b es c):RcR h' lo M ck (P++ [p]):=by
 refine⟨q.ok,fun k hk=>q.no k ?_,fun k e' he=>?_,q.ne⟩
 ·rw [E6]at hk
  cases h1:Ca P k with
  |none=>rfl
  |some i=>rw [h1]at hk;cases hk
 ·by_cases h3:Ak p.1=k
  ·subst h3
   rw [E6,hE]at he
   cases he
   refine⟨a,_,_,hg,ha,oi.set _ _,la,fun i=>?_⟩
   rw [Du,Hu,hf]
   by_cases h5:i=p.1.idx
   ·rw [if_pos h5,h5,hF];simp
   ·rw [if_neg h5]
    cases h4:Dr P (Ak p.1) i with
    |some x=>rfl
    |none=>simp [Ne.symm h5]
  ·have h2:Ca P k=some e':=by
    rw [E6]at he
    cases h1:Ca P k with
    |some i=>rw [h1]at he;exact he
    |none=>rw [h1]at he;simp only [if_neg h3]at he;cases he
   obtain⟨a2,M2,c2,g1,g2,g3,g4,g5⟩:=q.at_ k e' h2
   have hne:a2≠a:=fun f=>h3 (q.ne _ _ _ _ _ _ hg g1 f.symm)
   refine⟨a2,M2,c2,g1,keep _ _ _ g4 hne g2,g3,g4,fun i=>?_⟩
   rw [g5,Hu]
   cases h4:Dr P k i with
   |some x=>rfl
   |none=>simp [h3]
theorem RcR.new (q:RcR h lo M ck P){a c':Nat}(hE:Ca P (Ak p.1)=none)(la:lo≤a)(hfresh:h.n≤a)
  (ha:Mk h' a ((Ew [] 0 p.1.idx (AI ((P.length:Nat):Int))).map (mE AI)) (mCk ([]:List (Int×AV×Nat)) 0 p.1.idx)) (keep: ∀b es c,lo≤b→b<h.n→Mk h b es c→Mk h' b es c):
  RcR h' lo (Ew M ck (Ak p.1) (.agg [.map a,AI ((P.length:Nat):Int)])) (mCk M ck (Ak p.1)) (P++ [p]):=by
 have old: ∀k e,Ca P k=some e→k≠Ak p.1:=fun k e he f=>by rw [f,hE]at he;cases he
 refine⟨q.ok.set _ _,fun k hk=>?_,fun k e' he=>?_,fun k k' a1 a2 e1 e2 g1 g2 f=>?_⟩
 ·rw [E6]at hk
  cases h1:Ca P k with
  |some i=>rw [h1]at hk;cases hk
  |none=>
   rw [h1]at hk
   by_cases h3:Ak p.1=k
   ·simp only [if_pos h3]at hk;cases hk
   ·rw [Du,if_neg (Ne.symm h3)];exact q.no k h1
 ·rw [E6]at he
  cases h1:Ca P k with
  |some i=>
   rw [h1]at he;cases he
   obtain⟨a2,M2,c2,g1,g2,g3,g4,g5⟩:=q.at_ k _ h1
   refine⟨a2,M2,c2,by rw [Du,if_neg (old k _ h1)];exact g1,keep _ _ _ g4 g2.lt g2,g3,g4,fun i=>?_⟩
   rw [g5,Hu]
   cases h4:Dr P k i with
   |some x=>rfl
   |none=>simp [Ne.symm (old k _ h1)]
  |none=>
   rw [h1]at he
   by_cases h3:Ak p.1=k
   ·simp only [if_pos h3]at he;cases he
    subst h3
    refine⟨a,_,_,by rw [Du,if_pos rfl],ha,MOk.nil.set _ _,la,fun i=>?_⟩
    rw [Du,Hu,c7 hE]
    by_cases h5:i=p.1.idx
    ·simp [h5]
    ·simp [h5,Ne.symm h5,Be]
   ·simp only [if_neg h3]at he;cases he
 ·have bd: ∀k a e,k≠Ak p.1→Be M k=some (.agg [.map a,e])→a<h.n:=by
   intro k a0 e0 hne hg
   cases h1:Ca P k with
   |none=>rw [q.no k h1]at hg;cases hg
   |some i=>
    obtain⟨a2,M2,c2,g1,g2,_⟩:=q.at_ k i h1
    rw [g1]at hg;cases hg;exact g2.lt
  rw [Du]at g1 g2
  by_cases h1:k=Ak p.1 <;> by_cases h2:k'=Ak p.1
  ·rw [h1,h2]
  ·rw [if_pos h1]at g1;rw [if_neg h2]at g2;cases g1
   have:=bd _ _ _ h2 g2;omega
  ·rw [if_neg h1]at g1;rw [if_pos h2]at g2;cases g2
   have:=bd _ _ _ h1 g1;omega
  ·rw [if_neg h1]at g1;rw [if_neg h2]at g2
   exact q.ne _ _ _ _ _ _ g1 g2 f
end
theorem Vx {α: Type}[DecidableEq α]: ∀{M:List (α×AV×Nat)} {y:α×AV×Nat},(M.map (·.1)).Nodup→y∈M→Be M y.1=some y.2.1
 | [],y,_,h=>by cases h
 |x::r,y,hn,h=>by
  rw [List.map_cons,List.nodup_cons]at hn
  unfold Be
  rw [List.find?_cons]
  rcases List.mem_cons.1 h with rfl|h
  ·simp
  ·have:y.1≠x.1:=fun e=>hn.1 (by rw [←e];exact List.mem_map_of_mem h)
   rw [decide_eq_false this]
   exact Vx hn.2 h
def full (P:List JP)(k:Rec):Bool:=(List.range k.2.2.2).all fun i=>(Dr P k ((i:Nat):Int)).isSome
theorem ya: ∀(n:Nat) (l:List Int),l.Nodup→(∀x∈l,0≤x∧x<(n:Int))→(l.length=n↔ ∀i,i<n→((i:Nat):Int)∈l):=by
 intro n l hn h
 have hle:=Ht n l hn h
 constructor
 ·intro e i hi
  refine Classical.byContradiction fun hni=>?_
  have h2:=Ht (n - 1) (l.map fun x=>if x=((n - 1:Nat):Int)then((i:Nat):Int)else x) ?_ ?_
  ·rw [List.length_map]at h2;omega
  ·have inj: ∀x∈l,∀y∈l,(if x=((n - 1:Nat):Int)then((i:Nat):Int)else x)=(if y=((n - 1:Nat):Int)then((i:Nat):Int)else y)→x=y:=by
    intro x hx y hy e
    by_cases h3:x=((n - 1:Nat):Int) <;> by_cases h4:y=((n - 1:Nat):Int)
    ·rw [h3,h4]
    ·rw [if_pos h3,if_neg h4]at e;exact absurd (e ▸ hy) hni
    ·rw [if_neg h3,if_pos h4]at e;exact absurd (e ▸ hx) hni
    ·rw [if_neg h3,if_neg h4]at e;exact e
   clear hle h e
   induction l with
   |nil=>exact List.nodup_nil
   |cons a r ih=>
    rw [List.nodup_cons]at hn
    rw [List.map_cons,List.nodup_cons]
    refine⟨fun hm=>?_,ih hn.2 (fun hh=>hni (List.mem_cons_of_mem _ hh)) fun x hx y hy=>inj x (List.mem_cons_of_mem _ hx) y (List.mem_cons_of_mem _ hy)⟩
    obtain⟨b,hb,e2⟩:=List.mem_map.1 hm
    have:=inj b (List.mem_cons_of_mem _ hb) a (List.mem_cons_self ..) e2
    exact hn.1 (this ▸ hb)
  ·intro x hx
   obtain⟨y,hy,rfl⟩:=List.mem_map.1 hx
   have h5:=h y hy
   by_cases h6:y=((n - 1:Nat):Int)
   ·rw [if_pos h6]
    have:i≠n - 1:=fun e=>hni (by rw [e,←h6];exact hy)
    omega
   ·rw [if_neg h6];omega
 ·intro hall
  refine Nat.le_antisymm hle ?_
  have: ∀m,m≤n→ ∃r:List Int,r.length+m=l.length∧r.Nodup∧ ∀i,m≤i→i<n→((i:Nat):Int)∈r:=by
   intro m
   induction m with
   |zero=>intro _;exact⟨l,rfl,hn,fun i _ hi=>hall i hi⟩
   |succ m ih=>
    intro hm
    obtain⟨r,h1,h2,h3⟩:=ih (by omega)
    have h4:=h3 m (Nat.le_refl _) (by omega)
    have h5:=List.length_erase_of_mem h4
    have h6:0<r.length:=List.length_pos_of_mem h4
    exact⟨r.erase ((m:Nat):Int),by omega,h2.erase _,fun i hi1 hi2=>h2.mem_erase_iff.2 ⟨by omega,h3 i (by omega) hi2⟩⟩
  obtain⟨r,h1,_,_⟩:=this n (Nat.le_refl _)
  omega
theorem Vy {α: Type}[DecidableEq α]{M:List (α×AV×Nat)}{k:α}:k∈M.map (·.1)↔(Be M k).isSome=true:=by
 rw [←mHas_mem,D3];unfold Be
 cases M.find? fun x=>decide (k=x.1) <;> simp
theorem mn {P:List JP}(hj: ∀p∈P,p.1.Jr){k:Rec}{Mi:List (Int×AV×Nat)}{ci:Nat}(oi:MOk Mi ci)(hf: ∀i,Be Mi i=(Dr P k i).map fun j=>AI ((j:Nat):Int)):decide (Mi.length=k.2.2.2)=full P k:=by
 have hk: ∀i,i∈Mi.map (·.1)↔(Dr P k i).isSome=true:=fun i=>by rw [Vy,hf];cases Dr P k i <;> simp
 have h1:=ya k.2.2.2 (Mi.map (·.1)) oi.keys fun x hx=>by
  have h2:=(hk x).1 hx
  cases h3:Dr P k x with
  |none=>rw [h3]at h2;cases h2
  |some e=>
   obtain⟨p,h4,h5,h6⟩:=Hv h3
   obtain⟨⟨v1,v2,v3,v4,v5,v6⟩,_,_⟩:=hj p (List.mem_of_getElem? h4)
   have h7:p.1.len.toNat=k.2.2.2:=by rw [←h5];rfl
   omega
 rw [List.length_map]at h1
 unfold full
 rw [Bool.eq_iff_iff,decide_eq_true_eq,h1,List.all_eq_true]
 constructor
 ·intro h2 i hi
  exact(hk _).1 (h2 i (List.mem_range.1 hi))
 ·intro h2 i hi
  exact(hk _).2 (h2 i (List.mem_range.2 hi))
theorem RcR.ent {h:H}{lo ck:Nat}{M:List (Rec×AV×Nat)}{P:List JP}(q:RcR h lo M ck P){y:Rec×AV×Nat}(hy:y∈M):
  ∃a Mi ci e,y.2.1= .agg [.map a,AI ((e:Nat):Int)]∧Be M y.1=some (.agg [.map a,AI ((e:Nat):Int)])∧Ca P y.1=some e∧Mk h a (Mi.map (mE AI)) ci∧MOk Mi ci∧lo≤a∧ ∀i,Be Mi i=(Dr P y.1 i).map fun j=>AI ((j:Nat):Int):=by
 have h1:=Vx q.ok.keys hy
 cases h2:Ca P y.1 with
 |none=>rw [q.no _ h2]at h1;cases h1
 |some e=>
  obtain⟨a,Mi,ci,g1,g2,g3,g4,g5⟩:=q.at_ _ _ h2
  rw [h1]at g1
  simp only [Option.some.injEq]at g1
  exact⟨a,Mi,ci,e,g1,by rw [h1,g1],rfl,g2,g3,g4,g5⟩
def Al (P:List JP)(k:Rec):List Nat:=(List.range k.2.2.2).map fun i=>(Dr P k ((i:Nat):Int)).getD 0
def Dw (P:List JP)(j:Nat):List Ent:=match P[j]? with
 |some p=>p.2
 |none=> []
def mo (P:List JP)(k:Rec):List Ent:=(Al P k).flatMap (Dw P)
def Hd (k:Rec):Nat:=k.2.1+k.2.2.2 - 1
def Kf (P:List JP)(a b:Rec):Bool:=decide (b.2.1<a.2.1) || (decide (a.2.1=b.2.1) && decide ((Ca P a).getD 0<(Ca P b).getD 0))
def isK (P:List JP)(k:Rec):Prop:=(Ca P k).isSome=true
def B9 (P:List JP)(kind:Nat)(prev:Option Nat)(k:Rec):Bool:=decide (k.1=kind) && full P k && (match prev with|some n=>decide (k.2.2.1=n)|none=>true)
def BestP (P:List JP)(kind:Nat)(prev:Option Nat)(o:Option Rec):Prop:=match o with
 |none=> ∀k,isK P k→B9 P kind prev k=false
 |some k=>isK P k∧B9 P kind prev k=true∧ ∀k',isK P k'→B9 P kind prev k'=true→k'=k∨Kf P k k'=true
theorem BestP.uniq {P:List JP}{kind:Nat}{prev:Option Nat}{o o':Option Rec}(h:BestP P kind prev o)(h':BestP P kind prev o'):o=o':=by
 cases o with
 |none=>
  cases o' with
  |none=>rfl
  |some k=>obtain⟨h1,h2,_⟩:=h';rw [h k h1]at h2;cases h2
 |some k=>
  obtain⟨h1,h2,h3⟩:=h
  cases o' with
  |none=>rw [h' k h1]at h2;cases h2
  |some k'=>
   obtain⟨g1,g2,g3⟩:=h'
   rcases h3 k' g1 g2 with e|e
   ·rw [e]
   ·rcases g3 k h1 h2 with f|f
    ·rw [f]
    ·unfold Kf at e f
     simp only [Bool.or_eq_true,Bool.and_eq_true,decide_eq_true_eq]at e f
     omega
inductive RunP (P:List JP):Option Rec→List Rec→Prop where
 |none:RunP P none []
 |some {k:Rec} {o:Option Rec} {ks:List Rec} (h:BestP P 2 (some (Hd k)) o) (r:RunP P o ks):RunP P (some k) (k::ks)
theorem RunP.uniq {P:List JP}{o:Option Rec}{ks ks':List Rec}(h:RunP P o ks):RunP P o ks'→ks=ks':=by
 induction h generalizing ks' with
 |none=>intro h';cases h';rfl
 |some h1 r ih=>
  intro h'
  cases h' with
  |some h2 r2=>
   have:=h1.uniq h2
   subst this
   rw [ih r2]
def StartP (P:List JP)(o:Option Rec):Prop:= ∃o1,BestP P 3 none o1∧(match o1 with|some k=>o=some k|none=>BestP P 2 (some 0) o)
def chE (P:List JP)(ks:List Rec):List Ent:=ks.flatMap (mo P)
def chU (P:List JP)(ks:List Rec):List Nat:=ks.flatMap (Al P)
def chL (ks:List Rec):Nat:=match ks.getLast? with|some k=>Hd k|none=>0
theorem Sq {l:List (JP×AV)}{j:Nat}{x:JP×AV}(h:l[j]?=some x):Dw (l.map (·.1)) j=x.1.2:=by
 unfold Dw;rw [List.getElem?_map,h];rfl
theorem D4 (P:List JP)(k:Rec):(Al P k).length=k.2.2.2:=by simp [Al]
theorem L2 {P:List JP}{k:Rec}(hf:full P k=true){i:Nat}(hi:i<k.2.2.2): ∃j,Dr P k ((i:Nat):Int)=some j∧(Al P k)[i]?=some j:=by
 unfold full at hf
 rw [List.all_eq_true]at hf
 have h1:=hf i (List.mem_range.2 hi)
 obtain⟨j,hj⟩:=Option.isSome_iff_exists.1 h1
 exact⟨j,hj,by simp [Al,hi,hj]⟩
theorem T7 {P:List JP}{k:Rec}{i:Int}{j:Nat}(h:Dr P k i=some j):j<P.length:=by
 obtain⟨p,h1,_⟩:=Hv h
 exact(List.getElem?_eq_some_iff.1 h1).1
theorem Nb {P:List JP}{k:Rec}(hf:full P k=true){i j:Nat}(h:(Al P k)[i]?=some j):i<k.2.2.2∧Dr P k ((i:Nat):Int)=some j:=by
 have hi:=(List.getElem?_eq_some_iff.1 h).1
 rw [D4]at hi
 obtain⟨j',h1,h2⟩:=L2 hf hi
 rw [h]at h2;cases h2
 exact⟨hi,h1⟩
theorem Sr {P:List JP}{k:Rec}(hf:full P k=true){j:Nat}(h:j∈Al P k): ∃i,i<k.2.2.2∧Dr P k ((i:Nat):Int)=some j:=by
 obtain⟨i,hi⟩:=List.mem_iff_getElem?.1 h
 exact⟨i,Nb hf hi⟩
theorem N7 {P:List JP}{k:Rec}(hf:full P k=true):(Al P k).Nodup:=by
 rw [List.nodup_iff_pairwise_ne,List.pairwise_iff_getElem]
 intro i j hi hj hij e
 have h1:=Nb hf (List.getElem?_eq_getElem hi)
 have h2:=Nb hf (List.getElem?_eq_getElem hj)
 rw [e]at h1
 obtain⟨p,g1,_,g3⟩:=Hv h1.2
 obtain⟨p',g4,_,g6⟩:=Hv h2.2
 rw [g1]at g4;cases g4
 omega
theorem Ss (n:Nat)(l:List Nat)(hn:l.Nodup)(h: ∀x∈l,x<n):l.length≤n:=by
 have:=Ht n (l.map fun x=>((x:Nat):Int)) (by
  rw [List.nodup_iff_pairwise_ne]at hn ⊢
  exact List.Pairwise.map _ (fun a b h e=>h (by omega)) hn) fun x hx=>by
  obtain⟨y,hy,rfl⟩:=List.mem_map.1 hx
  have:=h y hy
  omega
 rwa [List.length_map]at this
theorem L3 {P:List JP}{k:Rec}(hf:full P k=true):k.2.2.2≤P.length:=by
 rw [←D4 P k]
 refine Ss _ _ (N7 hf) fun x hx=>?_
 obtain⟨i,_,h⟩:=Sr hf hx
 exact T7 h
theorem T8 {P:List JP}{k:Rec}(h:isK P k): ∃p∈P,Ak p.1=k:=by
 unfold isK at h
 obtain⟨e,he⟩:=Option.isSome_iff_exists.1 h
 obtain⟨p,h1,h2⟩:=L1 he
 exact⟨p,List.mem_of_getElem? h1,h2⟩
theorem yb {P:List JP}{p:JP}(h:p∈P):isK P (Ak p.1):=by
 unfold isK
 cases he:Ca P (Ak p.1)with
 |some e=>rfl
 |none=>
  unfold Ca at he
  rw [List.findIdx?_eq_none_iff]at he
  have:=he p h
  simp at this
theorem Qy {P:List JP}(hj: ∀p∈P,p.1.Jr){k:Rec}(h:isK P k):1≤k.2.2.2∧k.2.2.1<k.2.1∧k.2.2.2≤65535∧(k.1=2∨k.1=3):=by
 obtain⟨p,hp,rfl⟩:=T8 h
 obtain⟨⟨v1,v2,v3,v4,v5,v6⟩,_,hk⟩:=hj p hp
 have:p.1.prev<p.1.seq∧p.1.idx.toNat<p.1.seq - p.1.prev:=by
  rcases v6 with q|q
  ·rcases hk with e|e <;> omega
  ·exact q.2.2
 show 1≤p.1.len.toNat∧p.1.prev<p.1.seq - p.1.idx.toNat∧p.1.len.toNat≤65535∧_
 exact⟨by omega,by omega,by omega,hk⟩
theorem mq {P:List JP}(hj: ∀p∈P,p.1.Jr){k:Rec}{i j:Nat}(h:Dr P k ((i:Nat):Int)=some j): ∃p,P[j]?=some p∧p∈P∧p.1.seq=k.2.1+i∧Ak p.1=k:=by
 obtain⟨p,h1,h2,h3⟩:=Hv h
 have hm:=List.mem_of_getElem? h1
 obtain⟨⟨v1,v2,v3,v4,v5,v6⟩,_,hk⟩:=hj p hm
 have h4:p.1.seq - p.1.idx.toNat=k.2.1:=by rw [←h2];rfl
 have:p.1.prev<p.1.seq∧p.1.idx.toNat<p.1.seq - p.1.prev:=by
  rcases v6 with q|q
  ·rcases hk with e|e <;> omega
  ·exact q.2.2
 exact⟨p,h1,hm,by omega,h2⟩
theorem sv {P:List JP}(hj: ∀p∈P,p.1.Jr){k:Rec}(h:isK P k)(hf:full P k=true){B:Nat}(hs: ∀p∈P,p.1.seq<B):k.2.1+k.2.2.2≤B:=by
 have h1:=Qy hj h
 obtain⟨j,h2,_⟩:=L2 hf (show k.2.2.2 - 1<k.2.2.2 by omega)
 obtain⟨p,_,h3,h4,_⟩:=mq hj h2
 have:=hs p h3
 omega
theorem Su {P:List JP}(hj: ∀p∈P,p.1.Jr){k k':Rec}(hk:isK P k)(b:BestP P 2 (some (Hd k)) (some k')):k.2.1<k'.2.1∧isK P k'∧full P k'=true:=by
 obtain⟨h1,h2,_⟩:=b
 simp only [B9,Bool.and_eq_true,decide_eq_true_eq]at h2
 have h3:=Qy hj h1
 have h4:=Qy hj hk
 unfold Hd at h2
 exact⟨by omega,h1,h2.1.2⟩
theorem Hw {P:List JP}{kind:Nat}{prev:Option Nat}{k:Rec}(b:BestP P kind prev (some k)):isK P k∧full P k=true:=by
 obtain⟨h1,h2,_⟩:=b
 unfold B9 at h2
 simp only [Bool.and_eq_true,decide_eq_true_eq]at h2
 exact⟨h1,h2.1.2⟩
theorem K3 {P:List JP}{k:Rec}(s:StartP P (some k)):isK P k∧full P k=true:=by
 obtain⟨o1,h1,h2⟩:=s
 cases o1 with
 |some k'=>cases h2;exact Hw h1
 |none=>exact Hw h2
def muF (P:List JP)(is:Bool)(o:Rec):Nat:=if is=true then(P.filter fun p=>decide (o.2.1≤(Ak p.1).2.1)).length else 0
theorem mw (P:List JP)(is:Bool)(o:Rec):muF P is o≤P.length:=by
 unfold muF;split
 ·exact List.length_filter_le _ _
 ·exact Nat.zero_le _
theorem Xv {P:List JP}(hj: ∀p∈P,p.1.Jr){is:Bool}{o o':Rec}(hk:isK P o)(b:BestP P 2 (some (Hd o)) (if is=true then some o' else none)):muF P is o'<muF P true o:=by
 obtain⟨p,hp,e⟩:=T8 hk
 unfold muF
 rw [if_pos rfl]
 cases is with
 |false=>
  rw [if_neg (by simp)]
  refine List.length_pos_of_mem (a:=p) (List.mem_filter.2 ⟨hp,?_⟩)
  rw [e];exact decide_eq_true (Nat.le_refl _)
 |true=>
  rw [if_pos rfl]
  rw [if_pos rfl]at b
  have:=Su hj hk b
  refine T5 (fun x hx=>?_) P p hp (by rw [e];exact decide_eq_true (Nat.le_refl _)) ?_
  ·simp only [decide_eq_true_eq]at hx ⊢;omega
  ·rw [e];exact decide_eq_false (by omega)
theorem Qz (P:List JP)(ks:List Rec)(k:Rec):chE P (ks++ [k])=chE P ks++mo P k:=by simp [chE]
theorem Q0 (P:List JP)(ks:List Rec)(k:Rec):chU P (ks++ [k])=chU P ks++Al P k:=by simp [chU]
theorem Q1 (ks:List Rec)(k:Rec):chL (ks++ [k])=Hd k:=by simp [chL]
theorem Oy {P:List JP}: ∀ks:List Rec,(∀k∈ks,full P k=true)→(chU P ks).length≤ks.length*P.length
 | [],_=>Nat.zero_le _
 |k::ks,h=>by
  have h1:=Oy ks fun x hx=>h x (List.mem_cons_of_mem _ hx)
  have h2:=L3 (h k (List.mem_cons_self ..))
  rw [←D4 P k]at h2
  unfold chU at h1 ⊢
  rw [List.flatMap_cons,List.length_append,List.length_cons,Nat.add_mul,Nat.one_mul]
  omega
theorem Hx {P:List JP}{m:Nat}(hm: ∀p∈P,p.2.length≤m): ∀l:List Nat,(l.flatMap (Dw P)).length≤l.length*m
 | []=>Nat.zero_le _
 |j::l=>by
  have h1:=Hx hm l
  have h2:(Dw P j).length≤m:=by
   unfold Dw
   cases h:P[j]? with
   |none=>exact Nat.zero_le _
   |some p=>exact hm p (List.mem_of_getElem? h)
  rw [List.flatMap_cons,List.length_append,List.length_cons,Nat.add_mul,Nat.one_mul]
  omega
theorem Q2 (P:List JP)(ks:List Rec):chE P ks=(chU P ks).flatMap (Dw P):=by
 unfold chE chU mo;rw [List.flatMap_assoc]
section
variable {l:List (Nat×Option AV)}{h:H}{x y:O}{a d:Nat}{k:IntKind}{sh:Sh}{q:Bool}
theorem Xw (hs:k.signed=false)(e:evO l x=some (.int k ((a:Nat):Int)))(e1:evO l y=some (.int k ((d:Nat):Int)))(hr:a+d<pw k):XV (.bin .add x y q sh) h l (.int k ((a+d:Nat):Int)) h:=by
 have:=wu (h:=h) (sh:=sh) (q:=q) hs e e1
 rwa [Nat.mod_eq_of_lt hr]at this
end
theorem Dx: ∀l:List Ent,As (l.flatMap An)=true
 | []=>rfl
 |_::r=>Dx r
theorem Jq {h:H}{b cap:Nat}{l:List Ent}(k:Bk h b (l.flatMap An)):SlR 2 h (.slc b 0 l.length cap) l.length (l.flatMap An):=
 SlR.of k (by rw [A2];omega) (by rw [List.drop_zero,List.take_of_length_le (by rw [A2];exact Nat.le_refl _)])
theorem Iy {h:H}{b cap:Nat}{l:List Int}(k:Bk h b (l.map AI)):SlR 1 h (.slc b 0 l.length cap) l.length (l.map AI):=
 SlR.of k (by simp) (by rw [List.drop_zero,List.take_of_length_le (by simp)])
theorem B7 {h:H}{b cap:Nat}{z:Int}(k:Bk h b [AI z]):SlR 1 h (.slc b 0 1 cap) 1 [AI z]:=SlR.of k (Nat.le_refl _) rfl
theorem Js {b cap a d:Nat}(e:a=d):AV.slc b 0 a cap= .slc b 0 d cap:=by rw [e]
end Go.Ev
