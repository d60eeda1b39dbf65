/- Part of the proof. -/
import Derived.Test.YtclfgfpebplncaaGreatT20
import Derived.Test.YtclfgfpebplncaaGreatT13
import Derived.ChangeSame
import Derived.DataReads
set_option linter.unusedVariables false
set_option linter.unusedSectionVars false
set_option linter.unusedSimpArgs false
set_option maxRecDepth 10000
set_option maxHeartbeats 4000000
namespace Go.Ev
section
variable {P0:Program}{E:Env}{F:T CFn}{K:T (List AV×AV)}(L:Lg P0 E F K)(X:Fx F K)
include L X
section
variable {κ: Nat→Nat}{h:H}{D:Dv}
omit L X in
theorem JA.mono {h:H}{lo lo':Nat}{pv atv:AV}{L:List JP}{us:List Int}(q:JA h lo pv atv L us)(k:lo'≤lo):JA h lo' pv atv L us:=by
 obtain⟨l,h1,h2,h3,h4⟩:=q.ex
 refine⟨l,h1,h2,fun x hx=>(h3 x hx).mono k,?_⟩
 rcases h4 with h4|⟨g,b,a,e1,e2,e3,e4,e5,e6,e7,e8⟩
 ·exact .inl h4
 ·exact .inr ⟨g,b,a,e1,e2,e3,e4,by omega,by omega,e7,e8⟩
theorem te {Q:Nat→AV→Prop}{x:AFr}{cs:List AFr}{κ':Nat→Nat}{fb pb eb ecap Sn:Nat}{cp ce:List AV}(ok:D.Ok)(rdc:RDevC κ h D pb eb cp ce)(hS:1≤Sn∧Sn≤1000)(hoff:D.off=false){hh:H}{b2 b4 b6 b9:Nat}{lv:AV}
  (w:K0 h hh) (k2:Bk hh b2 (rvL D.nb D.P D.sz D.en fb pb eb ecap D.n D.cut D.byt false)) (k4:Bk hh b4 [.nils,.int .u64 ((0:Nat):Int),.int .u64 ((0:Nat):Int),.nils,.nils]) (k6:Bk hh b6 (mpV Sn D.nb D.P .nils)) (k9:Bk hh b9 [.nils,.int .u64 ((0:Nat):Int),.int .u64 ((1:Nat):Int),.nils,.nils])
  (hb:h.n≤b2∧b2<b4∧b4<b6∧b6<b9) (q:PL κ' hh D.sz peR lv (Ab D)) (hc:κ' b6≠0∧κ' b9≠0)
  (G: ∀v h',Fp D ((Sn:Nat):Int) h v h'→GO P0 E Q (finish v cs h' x))
  {lq:List (Nat×Option AV)} (ht:TSub (tms [(12,some (AI ((0:Nat):Int))),(11,some .nils),(10,some .nils),(9,some (.ptr b9 0)),(8,some lv),(6,some (.ptr b6 0)),(4,some (.ptr b4 0)),(2,some (.ptr b2 0))]) (tms lq)):
  Good P0 E Q ⟨⟨15,cf15.ntmps,tms lq,[.code c15_46,.inBlock 0,.code c15_114],[],.run,false,none⟩,x::cs,hh⟩:=by
 have n0:=w.n
 have l9:=k9.lt
 have hnb:=ok.g.nb
 have hP:=ok.g.P
 have hsz:=ok.g.sz
 have hpl0:=C8 ok
 have k2u:=k2
 unfold rvL at k2u
 have hlv: ∀(i:Nat) (y:PgE),(Ab D)[i]?=some y→ ∃(lb db:Nat) (l:List (PgE×Nat)),lv= .slc lb 0 (Ab D).length (Ac+8)∧Bk hh lb (l.flatMap (peR D.sz))∧l[i]?=some (y,db)∧BS hh db 0 y.data∧y.data.length=D.sz∧l.length=(Ab D).length∧κ' lb=0∧κ' db=0:=by
  intro i y hy
  obtain⟨l,hlm,q1,q2⟩:=q.ex
  have hll:l.length=(Ab D).length:=by rw [←hlm,List.length_map]
  rw [←hlm,List.getElem?_map,Option.map_eq_some_iff]at hy
  obtain⟨⟨y',db⟩,hy1,rfl⟩:=hy
  obtain⟨r1,r2,r3⟩:=q1 _ (List.mem_of_getElem? hy1)
  rcases q2 with⟨rfl,_⟩|⟨_,lb,e1,q4,q5⟩
  ·cases hy1
  ·exact⟨lb,db,l,by rw [←hll];exact e1,q4,hy1,r1,r3,hll,q5,r2⟩
 have hlen0:lv= .nils∧(Ab D).length=0∨ ∃lb,lv= .slc lb 0 (Ab D).length (Ac+8):=by
  obtain⟨l,hlm,q1,q2⟩:=q.ex
  have hll:l.length=(Ab D).length:=by rw [←hlm,List.length_map]
  rcases q2 with⟨rfl,e⟩|⟨_,lb,e1,q4,q5⟩
  ·exact .inl ⟨e,hll.symm⟩
  ·exact .inr ⟨lb,by rw [←hll];exact e1⟩
 refine Bb L (bd:=c15_45) (α:= AV×AV) (T:=fun i s=> [(12,some (AI ((i:Nat):Int))),(11,some s.2),(10,some s.1),(9,some (.ptr b9 0)),(8,some lv),(6,some (.ptr b6 0)),(4,some (.ptr b4 0)),(2,some (.ptr b2 0))]) (n:=(Ab D).length)
  (R:=fun i s h2=>Kp (fun j=>j=b9) hh h2∧Bk h2 b9 [.nils,.int .u64 ((0:Nat):Int),.int .u64 ((Eu ((Ab D).take i):Nat):Int),.nils,.nils]∧JA h2 hh.n s.1 s.2 (jps ((Ab D).take i)) (atI D.P ((Ab D).take i))∧ ∀y∈(Ab D).take i,y.s.seq<9223372036854775808) (i0:=0) (.nils,.nils) ht ⟨Kp.refl _,k9,⟨[],rfl,rfl,(fun x hx=>by cases hx),.inl ⟨rfl,rfl,rfl⟩⟩,fun y hy=>by cases hy⟩ (Nat.zero_le _) ?_ ?_
 ·rintro i ⟨pv,atv⟩ h2 hi ⟨w1,w2,w3,w4⟩ ih
  dsimp only
  simp only at w3
  have n2:=w1.n
  have l3:=w2.lt
  have hnx:=Sv _ w4
  have hxp:(Ab D)[i]?=some (Ab D)[i]:=List.getElem?_eq_getElem hi
  have e1:=N8 hxp
  have e2:=om hxp
  have e3:=oj (P:=D.P) hxp
  have e4: ∀y∈(Ab D).take (i+1),y∈(Ab D).take i∨y=(Ab D)[i]:=by
   intro y hy
   rw [List.take_add_one,hxp]at hy
   rcases List.mem_append.1 hy with hy|hy
   ·exact .inl hy
   ·exact .inr (by simpa using hy)
  have hmem:=List.getElem_mem hi
  have hin:=G7 ok hmem
  obtain⟨lb,db,l,rfl,q4,hx,r1,r3,hll,ql,qd⟩:=hlv i _ hxp
  have hjl1:(jps ((Ab D).take i)).length≤36:=by
   unfold jps
   rw [List.length_map]
   refine Nat.le_trans (List.length_filter_le _ _) ?_
   rw [List.length_take];omega
  have hal1:=Zs D.P ((Ab D).take i)
  rw [e1,e2,e3]at ih
  generalize jps ((Ab D).take i)=JL at*
  generalize atI D.P ((Ab D).take i)=us at*
  generalize Eu ((Ab D).take i)=nx at*
  generalize (Ab D)[i]=y at*
  have hf8: ∀x∈l,(peR D.sz x).length=8:=fun _ _=>rfl
  have hdt:=Bj l hf8 i _ hx
  obtain⟨pa,s,data⟩:=y
  simp only at r1 r3
  have hlt:pa<36:=by
   have:=hin.lt
   have:D.nb*D.P≤6*6:=Nat.mul_le_mul hnb.2 hP.2
   simp only at *;omega
  have hdt':i*8+8≤(l.flatMap (peR D.sz)).length∧((l.flatMap (peR D.sz)).drop (i*8)).take 8= [.int .i64 ((pa:Nat):Int),.int .u8 ((s.kind:Nat):Int),.int .i64 s.sec,.int .u64 ((s.seq:Nat):Int),.int .u64 ((s.prev:Nat):Int),.int .i64 s.idx,.int .i64 s.len,.slc db 0 D.sz (Ac+1)]:=hdt
  have q4n:lb≠b9:=fun e=>hc.2 (by rw [←e];exact ql)
  have qdn:db≠b9:=fun e=>hc.2 (by rw [←e];exact qd)
  have q4':Bk h2 lb (l.flatMap (peR D.sz)):=A5 w1 q4n q4
  have r1':BS h2 db 0 data:=r1.kp w1 qdn
  have ldb:=r1'.lt_n
  have kr:=q4'.rk
  have k2':=A5 w1 (by omega) k2u
  have k4':=A5 w1 (by omega) k4
  have kk:K0 h h2:=Kp.trS w1 (fun i hi e=>by omega) w
  simp only at e4 ih
  refine wk ?_
  (apply st1 L rfl;exact B6 lkr hdt' rfl;rfl)
  by_cases hbig:9223372036854775808≤s.seq
  ·refine wk ?_
   refine ret X.f15 ?_
   exact D9 (e:=6) (.inr (.inr (.inl ⟨by omega,hoff,⟨_,hmem,hbig⟩,rfl,rfl⟩))) (by exact kps)
  have hnext: ∀y∈(Ab D).take (i+1),y.s.seq<9223372036854775808:=by
   intro y hy
   rcases e4 y hy with e|e
   ·exact w4 y e
   ·rw [e];show s.seq<_;omega
  refine wk ?_
  (apply st1 L rfl;exact Xw rfl rfl rfl (by simp only [pw];omega);rfl)
  by_cases hkd:s.kind=1
  ·have e1:isJ ⟨pa,s,data⟩=false:=by unfold isJ Bm;rw [decide_eq_true hkd];rfl
   rw [if_neg (by rw [e1];simp),if_neg (by rw [e1];simp),List.append_nil,List.append_nil]at ih
   refine wk ?_
   exact ih (pv,atv) _ _ ⟨by exact kps,by exact lkp,w3.kp (S:=fun j=>j=b9) (by exact kps) (fun b hb e=>by omega),hnext⟩ tsb
  refine wk ?_
  refine cal (c:=Zk L X (bs:=data) (by exact lkb) r3 (by omega)) (g:=?_)
  rintro _ h3 ⟨⟨u,e,rfl,x1,x2,x3⟩,x4⟩
  have n3:=x4.n
  simp only [Ah]at n3
  have e5:isJ ⟨pa,s,data⟩=(B2 data).isSome:=by unfold isJ Bm;rw [decide_eq_false hkd];rfl
  rw [e5]at ih
  by_cases he:e=0
  rotate_left
  ·have e6: ¬(B2 data).isSome=true:=fun q=>he (x2.2 q)
   rw [if_neg e6,if_neg e6,List.append_nil,List.append_nil]at ih
   refine wk ?_
   exact ih (pv,atv) _ _ ⟨by exact kps,by exact lkp,w3.kp (S:=fun j=>j=b9) (by exact kps) (fun b hb e=>by omega),hnext⟩ tsb
  have e6:=x2.1 he
  rw [if_pos e6,if_pos e6]at ih
  subst he
  have hpl:=Sz (s,(B2 data).getD []) x1
  have hdj:L4 ⟨pa,s,data⟩=(s,(B2 data).getD []):=rfl
  rw [hdj]at ih
  have x1o:=x1
  have x1:EL h3 hh.n u ((B2 data).getD []):=x1.mono (by show hh.n≤h2.n+1;omega)
  have usep0:=x1
  obtain⟨ll,g1,g4,g2,g3⟩:=w3.ex
  have g9:ll.length≤36:=by rw [←g1,List.length_map]at hjl1;exact hjl1
  have hsep: ∀x∈ll,∀b n c,x.2= .slc b 0 n c→b<h2.n∧b≠b9:=by
   intro x hx b n c e
   rcases(g2 x hx).ex with⟨_,e2⟩|⟨_,b',e2,e3,e4⟩
   ·rw [e2]at e;cases e
   ·rw [e2]at e;cases e;exact⟨e3.lt,by omega⟩
  have stepJ: ∀(h9:H) (N M:Nat) {pv' atv':AV},Bk h9 N (ll.flatMap jpC++jpC ((s,(B2 data).getD []),u))→Bk h9 M (us.map AI++ [AI ((pa / D.P:Nat):Int)])→h3.n≤N→h3.n≤M→M≠N→pv'= .slc N 0 (ll.length+1) (Ac+7)→atv'= .slc M 0 (us.length+1) (Ac+1)→(∀x∈ll,EL h9 hh.n x.2 x.1.2)→EL h9 hh.n u ((B2 data).getD [])→
    JA h9 hh.n pv' atv' (JL++ [(s,(B2 data).getD [])]) (us++ [((pa / D.P:Nat):Int)]):=by
   intro h9 N M pv' atv' b1 b1' b2 b2' bn e1 e1' b3 b4
   subst e1;subst e1'
   refine⟨ll++ [((s,(B2 data).getD []),u)],by rw [List.map_append,g1];rfl,by simp [g4],fun x hx=>?_,.inr ⟨by simp,N,M,Js (by rw [List.length_append];rfl),Js (by rw [List.length_append];rfl),by rw [List.flatMap_append];simpa using b1,by rw [List.map_append];exact b1',by omega,by omega,bn,fun x hx b n c e=>?_⟩⟩
   ·rcases List.mem_append.1 hx with hx|hx
    ·exact b3 x hx
    ·rw [List.mem_singleton.1 hx];exact b4
   ·have hlt3:b<h3.n:=by
     rcases List.mem_append.1 hx with hx|hx
     ·have:=hsep x hx b n c e;omega
     ·rw [List.mem_singleton.1 hx]at e
      rcases usep0.ex with⟨_,f⟩|⟨_,b',f,f2,_⟩
      ·rw [f]at e;cases e
      ·rw [f]at e;cases e;exact f2.lt
    omega
  have usep: ∀b n c,u= .slc b 0 n c→h2.n≤b:=by
   intro b n c e
   rcases x1o.ex with⟨_,f⟩|⟨_,b',f,_,f3⟩
   ·rw [f]at e;cases e
   ·rw [f]at e;cases e
    have:h2.n+1≤b:=f3
    omega
  rcases x1.ex with⟨_,rfl⟩|⟨_,ub,rfl,_,_⟩
  ·rcases g3 with⟨rfl,rfl,rfl⟩|⟨gn,lb2,la2,rfl,rfl,g5,g5a,g6,g6a,gab,g7⟩
   ·obtain rfl:us= []:=List.length_eq_zero_iff.1 g4.symm
    refine wk ?_
    (apply st1 L rfl;exact D8 (new:=jpC ((s,(B2 data).getD []),AV.nils)) rfl rfl (SlR.of (c:=jpC ((s,(B2 data).getD []),AV.nils)) lkp (Nat.le_refl _) rfl) (by omega) (by omega);rfl)
    refine wk ?_
    (apply st1 L rfl;exact D8 (new:= [AI ((pa / D.P:Nat):Int)]) rfl rfl (B7 lkp) (by omega) (by omega);rfl)
    refine wk ?_
    refine ih (_,_) _ _ ⟨by exact kps,by exact lkp,?_,hnext⟩ tsb
    exact stepJ _ _ _ (by exact lkp) (by exact lkp) (by omega) (by omega) (by omega) rfl rfl (fun x hx=>by cases hx) (x1.k0 (by exact kps))
   ·have g8:=g5.lt
    have g8a:=g5a.lt
    refine wk ?_
    (apply st1 L rfl;exact C2 (old:=ll.flatMap jpC) (new:=jpC ((s,(B2 data).getD []),AV.nils)) rfl rfl (sy (l:=ll) lkp) (SlR.of (c:=jpC ((s,(B2 data).getD []),AV.nils)) lkp (Nat.le_refl _) rfl) (by omega) (by omega) hpl;rfl)
    refine wk ?_
    (apply st1 L rfl;exact C2 (old:=us.map AI) (new:= [AI ((pa / D.P:Nat):Int)]) rfl rfl (Iy lkp) (B7 lkp) (by omega) (by omega) rfl;rfl)
    refine wk ?_
    refine ih (_,_) _ _ ⟨by exact kps,by exact lkp,?_,hnext⟩ tsb
    refine stepJ _ _ _ (by exact lkp) (by exact lkp) (by omega) (by omega) (by omega) rfl rfl (fun x hx=>?_) ?_
    ·exact(g2 x hx).keep (S:=fun j=>j=b9∨j=lb2∨j=la2) (by exact kps) (fun b n c e=>by have h1:=g7 x hx b n c e;have h2:=hsep x hx b n c e;omega)
    ·exact x1.keep (S:=fun j=>j=lb2∨j=la2) (by exact kps) (fun b n c e=>by have:=usep b n c e;omega)
  ·rcases g3 with⟨rfl,rfl,rfl⟩|⟨gn,lb2,la2,rfl,rfl,g5,g5a,g6,g6a,gab,g7⟩
   ·obtain rfl:us= []:=List.length_eq_zero_iff.1 g4.symm
    refine wk ?_
    (apply st1 L rfl;exact D8 (new:=jpC ((s,(B2 data).getD []),(AV.slc ub 0 ((B2 data).getD []).length (Ac+2)))) rfl rfl (SlR.of (c:=jpC ((s,(B2 data).getD []),(AV.slc ub 0 ((B2 data).getD []).length (Ac+2)))) lkp (Nat.le_refl _) rfl) (by omega) (by omega);rfl)
    refine wk ?_
    (apply st1 L rfl;exact D8 (new:= [AI ((pa / D.P:Nat):Int)]) rfl rfl (B7 lkp) (by omega) (by omega);rfl)
    refine wk ?_
    refine ih (_,_) _ _ ⟨by exact kps,by exact lkp,?_,hnext⟩ tsb
    exact stepJ _ _ _ (by exact lkp) (by exact lkp) (by omega) (by omega) (by omega) rfl rfl (fun x hx=>by cases hx) (x1.k0 (by exact kps))
   ·have g8:=g5.lt
    have g8a:=g5a.lt
    refine wk ?_
    (apply st1 L rfl;exact C2 (old:=ll.flatMap jpC) (new:=jpC ((s,(B2 data).getD []),(AV.slc ub 0 ((B2 data).getD []).length (Ac+2)))) rfl rfl (sy (l:=ll) lkp) (SlR.of (c:=jpC ((s,(B2 data).getD []),(AV.slc ub 0 ((B2 data).getD []).length (Ac+2)))) lkp (Nat.le_refl _) rfl) (by omega) (by omega) hpl;rfl)
    refine wk ?_
    (apply st1 L rfl;exact C2 (old:=us.map AI) (new:= [AI ((pa / D.P:Nat):Int)]) rfl rfl (Iy lkp) (B7 lkp) (by omega) (by omega) rfl;rfl)
    refine wk ?_
    refine ih (_,_) _ _ ⟨by exact kps,by exact lkp,?_,hnext⟩ tsb
    refine stepJ _ _ _ (by exact lkp) (by exact lkp) (by omega) (by omega) (by omega) rfl rfl (fun x hx=>?_) ?_
    ·exact(g2 x hx).keep (S:=fun j=>j=b9∨j=lb2∨j=la2) (by exact kps) (fun b n c e=>by have h1:=g7 x hx b n c e;have h2:=hsep x hx b n c e;omega)
    ·exact x1.keep (S:=fun j=>j=lb2∨j=la2) (by exact kps) (fun b n c e=>by have:=usep b n c e;omega)
 ·rintro⟨pv,atv⟩ h2 ⟨w1,w2,w3,w4⟩
  dsimp only
  rw [List.take_length]at w2 w3 w4
  simp only at w3
  have n2:=w1.n
  have hnb': ¬c8 (Ab D):=by
   rintro⟨y,hy,f⟩
   have:=w4 y hy
   omega
  have kk:K0 h h2:=Kp.trS w1 (fun i hi e=>by omega) w
  have q2:=q.fw (w1.fw (κ:= κ') fun b _ e=>by rw [e];exact hc.2)
  rcases hlen0 with⟨rfl,e0⟩|⟨lb,rfl⟩
  ·rw [e0]
   refine wk ?_
   refine Wa L X ok rdc (κ':=κ') (b6:=b6) (b9:=b9) (pv:=pv) hS hoff hnb' (by exact kps) (A5 w1 (by omega) k2) (A5 w1 (by omega) k4) (A5 w1 (by omega) k6) w2 hb q2 hc.1 (w3.mono (by omega)) G tsb
  ·refine wk ?_
   refine Wa L X ok rdc (κ':=κ') (b6:=b6) (b9:=b9) (pv:=pv) hS hoff hnb' (by exact kps) (A5 w1 (by omega) k2) (A5 w1 (by omega) k4) (A5 w1 (by omega) k6) w2 hb q2 hc.1 (w3.mono (by omega)) G tsb
end
end
section
variable {P0:Program}{E:Env}{F:T CFn}{K:T (List AV×AV)}(L:Lg P0 E F K)(X:Fx F K)
include L X
section
variable {κ: Nat→Nat}{h:H}{D:Dv}
theorem dx {nb P:Nat}{s:Int}(hS:s<1)(hn:2≤nb∧nb≤6)(hP:2≤P∧P≤6):Ct P0 E F K 62 [AI s,AI ((nb:Nat):Int),AI ((P:Nat):Int)] h fun v h'=>v= .tup [.agg [AI ((0:Nat):Int),AI ((0:Nat):Int),AI ((0:Nat):Int),.nils],AI ((2:Nat):Int)]∧K0 h h':=by
 refine A6 L X.f62 X.k62 rfl rfl fun Q x cs G=>?_
 refine wk ?_
 refine ret X.f62 ?_
 exact⟨rfl,kps⟩
theorem dy {rv:List AV}{S:Int}(r:RDev κ h D rv)(hS:S≤1000):Ct P0 E F K 15 [.agg rv,AI S] h fun v h'=>Fp D S h v h':=by
 obtain⟨hok,fb,pb,eb,ecap,cp,ce,rfl,hecap,rdc⟩:=r
 have r0:RDev κ h D (rvC D fb pb eb ecap):=⟨hok,fb,pb,eb,ecap,cp,ce,rfl,hecap,rdc⟩
 have hP:=hok.g.P
 have hnb:=hok.g.nb
 have hsz:=hok.g.sz
 have hpl:=C8 hok
 have fw1:Fw κ h (fun b=>if b<h.n then κ b else 100) h:=⟨Nat.le_refl _,fun _ _ _=>rfl,fun b hb=>if_pos hb⟩
 have r:RDev (fun b=>if b<h.n then κ b else 100) h D (rvC D fb pb eb ecap):=r0.fw fw1
 by_cases hS1:S<1
 ·have ebad: ∀h9,K0 h h9→Fp D S h (.tup [.agg [.nils,.int .u64 ((0:Nat):Int),.int .u64 ((0:Nat):Int),.nils,.nils],AI ((2:Nat):Int)]) h9:=fun h9 k=>D9 (e:=2) (.inl ⟨hS1,rfl,rfl⟩) k
  cases hoff:D.off
  all_goals
   rw [show rvC D fb pb eb ecap=rvL D.nb D.P D.sz D.en fb pb eb ecap D.n D.cut D.byt _ from by unfold rvC;rw [hoff]]
   refine Af L X.f15 X.k15 rfl rfl fun Q x cs G=>?_
   refine wk ?_
   refine cal (c:=dx L X hS1 hnb hP) (g:=?_)
   rintro _ h2 ⟨rfl,w1⟩
   have n2:=w1.n
   simp only [Ah]at n2
   refine wk ?_
   refine ret X.f15 ?_
   exact ebad _ (by exact kps)
 obtain⟨Sn,rfl⟩: ∃n:Nat,S=((n:Nat):Int):=⟨S.toNat,by omega⟩
 cases hoff:D.off with
 |true=>
  have eo:rvC D fb pb eb ecap=rvL D.nb D.P D.sz D.en fb pb eb ecap D.n D.cut D.byt true:=by unfold rvC;rw [hoff]
  rw [eo]
  refine Af L X.f15 X.k15 rfl rfl fun Q x cs G=>?_
  refine wk ?_
  refine cal (c:=V4 L X (S:=Sn) (by omega) hnb hP) (g:=?_)
  rintro _ h2 ⟨rfl,w1⟩
  have n2:=w1.n
  simp only [Ah]at n2
  refine wk ?_
  refine ret X.f15 ?_
  exact D9 (e:=50) (.inr (.inl ⟨by omega,hoff,rfl,rfl⟩)) (by exact kps)
 |false=>
  have eo:rvC D fb pb eb ecap=rvL D.nb D.P D.sz D.en fb pb eb ecap D.n D.cut D.byt false:=by unfold rvC;rw [hoff]
  rw [eo]at r ⊢
  refine Af L X.f15 X.k15 rfl rfl fun Q x cs G=>?_
  refine wk ?_
  refine cal (c:=V4 L X (S:=Sn) (by omega) hnb hP) (g:=?_)
  rintro _ h2 ⟨rfl,w1⟩
  have n2:=w1.n
  simp only [Ah]at n2
  refine wk ?_
  refine cal (c:=Q8 L X (D:=D) (κ:= fun b=>if b<h.n then κ b else 100) (r.fw (Kp.fw0 (by exact kps)))) (g:=?_)
  rintro lv h3 ⟨w2,w3⟩
  have n3:=w3.n
  simp only [Ah]at n3 w2
  have w4:PL (upd (ext (fun b=>if b<h.n then κ b else 100) (h2.n+1)) h3.n 100) h3 D.sz peR lv (Ab D):=w2.fw ⟨Nat.le_refl _,fun _ _ _=>rfl,fun b hb=>upd_ne _ _ (by omega)⟩
  refine wk ?_
  refine te L X hok rdc (h:=h) (κ':=upd (ext (fun b=>if b<h.n then κ b else 100) (h2.n+1)) h3.n 100) (b2:=h.n) (b4:=h.n+1) (b6:=h2.n) (b9:=h3.n) (by omega) hoff (by exact kps) (by exact lkp) (by exact lkp) (by exact lkp) (by exact lkp) (by omega) (w4.fw (Kp.fw0 (by exact kps))) ⟨?_,by rw [upd_eq];omega⟩ G tsb
  rw [upd_ne _ _ (by omega),B1 (by omega),if_neg (by omega)];omega
end
end
section
variable {P0:Program}{E:Env}{F:T CFn}{K:T (List AV×AV)}(L:Lg P0 E F K)(X:Fx F K)
include L X
section
variable {h:H}
omit L X in
theorem tf {l:List (Nat×Option AV)}{x y:O}{q:Bool}{a b:Int}(e:evO l x=some (.agg [AI a,AI b]))(e1:evO l y=some (.agg [AI a,AI b])):XV (.bin .neq x y q (.agg [(0,0,.pint),(1,0,.pint)])) h l (.bool false) h:=by
 refine⟨?_⟩
 simp [exec,Ag,Ad e,Ad e1,F0,Rn,Ul,S6,eqv,H2,Wc,F9,A7,Qn,vo]
theorem tg {lo lo':Nat}{v v':AV}{es:List Ent}(q:EL h lo v es)(q':EL h lo' v' es)(hl:es.length≤100000):Ct P0 E F K 30 [v,v'] h fun u h'=>u= .bool true∧K0 h h':=by
 rcases q.len with⟨rfl,rfl⟩|⟨g1,b,rfl,g3,_⟩
 ·rcases q'.len with⟨_,rfl⟩|⟨g1',_⟩
  ·refine Af L X.f30 X.k30 rfl rfl fun Q x cs G=>?_
   refine wk ?_
   refine A4 L ?_
   refine wk ?_
   refine ret X.f30 ?_
   exact⟨rfl,kps⟩
  ·exact absurd g1' (Nat.lt_irrefl _)
 ·rcases q'.len with⟨rfl,_⟩|⟨_,b',rfl,g3',_⟩
  ·exact absurd g1 (Nat.lt_irrefl _)
  have l1:=g3.lt
  have l2:=g3'.lt
  refine Af L X.f30 X.k30 rfl rfl fun Q x cs G=>?_
  refine wk ?_
  refine Bb L (α:= Unit) (T:=fun i _=> [(5,some (AI ((i:Nat):Int))),(1,some (.slc b' 0 es.length (Ac+2))),(0,some (.slc b 0 es.length (Ac+2)))]) (n:=es.length)
   (R:=fun _ _ h2=>K0 h h2) (i0:=0) () tsb kps (Nat.zero_le _) ?_ ?_
  ·rintro i _ h2 hi w1 ih
   have hx:es[i]?=some es[i]:=List.getElem?_eq_getElem hi
   obtain⟨x1,x2⟩:=K5 hx
   have gb:=Aj w1 g3
   have gb':=Aj w1 g3'
   generalize es[i]=e at*
   obtain⟨ea,eb⟩:=e
   simp only at x1 x2
   refine wk ?_
   (apply Au rfl rfl;exact tf rfl rfl)
   refine wk ?_
   exact ih () _ _ (by exact kps) tsb
  ·rintro _ h2 w1
   refine wk ?_
   refine ret X.f30 ?_
   exact⟨rfl,kps⟩
theorem Zt {lo lo':Nat}{v v':AV}{zs:List Int}(q:RowN h lo v zs)(q':RowN h lo' v' zs)(hl:zs.length≤100000):Ct P0 E F K 69 [v,v'] h fun u h'=>u= .bool true∧K0 h h':=by
 rcases q.ex with⟨rfl,rfl⟩|⟨g1,b,rfl,g3,_⟩
 ·rcases q'.ex with⟨_,rfl⟩|⟨g1',_⟩
  ·refine Af L X.f69 X.k69 rfl rfl fun Q x cs G=>?_
   refine wk ?_
   refine A4 L ?_
   refine wk ?_
   refine ret X.f69 ?_
   exact⟨rfl,kps⟩
  ·exact absurd g1' (Nat.lt_irrefl _)
 ·rcases q'.ex with⟨rfl,_⟩|⟨_,b',rfl,g3',_⟩
  ·exact absurd g1 (Nat.lt_irrefl _)
  have l1:=g3.lt
  have l2:=g3'.lt
  refine Af L X.f69 X.k69 rfl rfl fun Q x cs G=>?_
  refine wk ?_
  refine Bb L (α:= Unit) (T:=fun i _=> [(5,some (AI ((i:Nat):Int))),(1,some (.slc b' 0 zs.length (Ac+1))),(0,some (.slc b 0 zs.length (Ac+1)))]) (n:=zs.length)
   (R:=fun _ _ h2=>K0 h h2) (i0:=0) () tsb kps (Nat.zero_le _) ?_ ?_
  ·rintro i _ h2 hi w1 ih
   have hx:(zs.map AI)[i]?=some (AI zs[i]):=by rw [List.getElem?_map,List.getElem?_eq_getElem hi];rfl
   have gb:=Aj w1 g3
   have gb':=Aj w1 g3'
   generalize zs[i]=z at*
   refine wk ?_
   exact ih () _ _ (by exact kps) tsb
  ·rintro _ h2 w1
   refine wk ?_
   refine ret X.f69 ?_
   exact⟨rfl,kps⟩
theorem oq {lo lo':Nat}{v v':AV}{f:FoundD}(q:FdR h lo v f)(q':FdR h lo' v' f)(h1:f.es.length≤100000)(h2:f.js.length≤100000)(h3:f.ds.length≤100000):Ct P0 E F K 18 [v,v'] h fun u h'=>u= .bool true∧K0 h h':=by
 obtain⟨v1,v2,v3,rfl,e1,e2,e3⟩:=q.ex
 obtain⟨u1,u2,u3,rfl,e1',e2',e3'⟩:=q'.ex
 refine Af L X.f18 X.k18 rfl rfl fun Q x cs G=>?_
 refine wk ?_
 refine cal (c:=tg L X (e1.k0 (by exact kps)) (e1'.k0 (by exact kps)) h1) (g:=?_)
 rintro _ h4 ⟨rfl,w1⟩
 have n4:=w1.n
 simp only [Ah]at n4
 refine wk ?_
 refine cal (c:=Zt L X (e2.k0 (by exact kps)) (e2'.k0 (by exact kps)) h2) (g:=?_)
 rintro _ h5 ⟨rfl,w2⟩
 have n5:=w2.n
 simp only [Ah]at n5
 refine wk ?_
 refine cal (c:=Zt L X (e3.k0 (by exact kps)) (e3'.k0 (by exact kps)) h3) (g:=?_)
 rintro _ h6 ⟨rfl,w3⟩
 refine wk ?_
 refine ret X.f18 ?_
 exact⟨rfl,kps⟩
omit L X in
theorem ScanR.len {D:Dv}{S:Int}{e:Nat}{f:FoundD}(ok:D.Ok)(hS:S≤1000)(q:ScanR D S e f):f.es.length≤100000∧f.js.length≤100000∧f.ds.length≤100000:=by
 have hz:f0.es.length≤100000∧f0.js.length≤100000∧f0.ds.length≤100000:=by
  unfold f0;simp
 have hnb:=ok.g.nb
 rcases q with⟨_,_,rfl⟩|⟨_,_,_,rfl⟩|⟨_,_,_,_,rfl⟩|⟨a,_,_,o,ks,s,r,g⟩
 ·exact hz
 ·exact hz
 ·exact hz
 rcases g with⟨_,_,rfl⟩|⟨g1,_,Dm,d1,rfl⟩
 ·exact hz
 ·have hD:Dm.length≤1000:=by
   have inv:=Zp (i:=(chE (jps (Ab D)) ks).length) (Nat.le_refl _) (fun j x _ hx=>g1.1 j x hx)
   refine Ht 1000 Dm (d1.lt.imp fun q=>by omega) fun x hx=>?_
   obtain⟨p,hp⟩:=Option.isSome_iff_exists.1 ((d1.mem x).1 hx)
   have:=inv.rg x p hp
   omega
  have hj:=Ue D (Sw (Ab D) D.P (chU (jps (Ab D)) ks)) D.nb
  refine⟨?_,?_,?_⟩
  ·show(F6 _ Dm).length≤_
   unfold F6;rw [List.length_map];omega
  ·exact Nat.le_trans hj.1 (by omega)
  ·exact Nat.le_trans hj.2 (by omega)
end
end
section
variable {P0:Program}{E:Env}{F:T CFn}{K:T (List AV×AV)}(L:Lg P0 E F K)(X:Fx F K)
include L X
section
variable {h:H}
structure Wk (P:Program)(E:Env)(F:T CFn)(K:T (List AV×AV)):Prop where
 ct: ∀h,Ct P E F K 7 [] h fun v h'=>v= .bool true∧h'=h
omit L X in
theorem Oa {h:H}{lo:Nat}{v1 v2 v3:AV}{f:FoundD}(q:FdR h lo (.agg [v1,.int .u64 ((f.last:Nat):Int),.int .u64 ((f.next:Nat):Int),v2,v3]) f):As [v1,.int .u64 ((f.last:Nat):Int),.int .u64 ((f.next:Nat):Int),v2,v3]=true:=by
 obtain⟨_,_,_,e,e1,e2,e3⟩:=q.ex
 simp only [AV.agg.injEq,List.cons.injEq,and_true]at e
 obtain⟨rfl,-,-,rfl,rfl⟩:=e
 have a1:=e1.plain.2
 have a2:Az v2=true:=by rcases e2.ex with⟨_,rfl⟩|⟨_,b,rfl,_⟩ <;> rfl
 have a3:Az v3=true:=by rcases e3.ex with⟨_,rfl⟩|⟨_,b,rfl,_⟩ <;> rfl
 simp only [As,a1,a2,a3]
 rfl
omit L X in
theorem FdR.k0 {h h':H}{lo:Nat}{v:AV}{f:FoundD}(q:FdR h lo v f)(k:K0 h h'):FdR h' lo v f:=by
 obtain⟨v1,v2,v3,e,e1,e2,e3⟩:=q.ex
 exact⟨v1,v2,v3,e,e1.k0 k,e2.k0 k,e3.k0 k⟩
theorem Rc {κ: Nat→Nat}{D:Dv}{S:Int}{d b10:Nat}{rv:List AV}(T:Tb P0 E F K)(U:SortOk P0 E F 171)(W:Wk P0 E F K)(r:DevR κ h d D)(rd:RDev κ h D rv)(k10:Bk h b10 rv)(hS:S≤1000)
  {lq:List (Nat×Option AV)} (ht:TSub (tms [(60,some (.ptr d 0)),(10,some (.ptr b10 0)),(9,some (.ptr d 0)),(2,some (AI S))]) (tms lq)):
  Good P0 E (fun fn u=>fn=3∧u= .bool true) ⟨⟨3,cf3.ntmps,tms lq,[.ops [Cc 61 10 [(.t 60)],Cv 12 61],.code c3_32],[],.run,false,none⟩,[],hp h.n h.t []⟩:=by
 refine Oc L ht ?_
 have ok:=r.ok
 have rd0:=rd
 obtain⟨-,fb,pb,eb,ecap,cp,ce,rfl,-,-⟩:=rd0
 have r0:=r
 obtain⟨-,fm,bb,cb,dc⟩:=r0
 have kd:=dc.dk
 have ld:=kd.lt
 have l10:=k10.lt
 refine cal (c:=D7 L X kd) (g:=?_)
 rintro _ rfl
 refine wk ?_
 refine cal (c:=s9 L X T U (r.k0 (by exact kps)) hS) (g:=?_)
 rintro _ h2 ⟨fv,e,f,rfl,s1,s2,s3⟩
 have n2:=s3.n
 simp only [Ah]at n2
 have s2':=s2.ex
 obtain⟨v1,v2,v3,rfl,e1,e2,e3⟩:=s2'
 have q1:=Oa ⟨_,_,_,rfl,e1,e2,e3⟩
 refine wk ?_
 (apply stS L rfl rfl rfl rfl rfl q1;exact lkp;rfl;rfl)
 refine wk ?_
 refine cal (c:=dy L X (rd.fw (Kp.fw0 (by exact kps))) hS) (g:=?_)
 rintro _ h3 ⟨fv',e',f',rfl,s1',s2',s3'⟩
 have n3:=s3'.n
 simp only [Ah]at n3
 obtain⟨v1',v2',v3',rfl,e1',e2',e3'⟩:=s2'.ex
 have q1':=Oa ⟨_,_,_,rfl,e1',e2',e3'⟩
 obtain⟨rfl,rfl⟩:=s1.uniq s1'
 refine wk ?_
 (apply stS L rfl rfl rfl rfl rfl q1';exact lkp;rfl;rfl)
 refine wk ?_
 refine cal (c:=ny L X T (r.k0 (by exact kps))) (g:=?_)
 rintro _ h4 ⟨rfl,s4⟩
 have n4:=s4.n
 simp only [Ah]at n4
 unfold Ug
 refine wk ?_
 refine cal (c:=X5 L X (rd.fw (Kp.fw0 (by exact kps)))) (g:=?_)
 rintro _ h5 ⟨rfl,s5⟩
 have n5:=s5.n
 simp only [Ah]at n5
 unfold Ug
 obtain⟨z1,z2,z3⟩:=s1.len ok hS
 refine wk ?_
 refine cal (c:=oq L X (s2.k0 (by exact kps)) (s2'.k0 (by exact kps)) z1 z2 z3) (g:=?_)
 rintro _ h6 ⟨rfl,s6⟩
 have n6:=s6.n
 simp only [Ah]at n6
 refine wk ?_
 refine cal (c:=Xy L X) (g:=?_)
 rintro _ rfl
 refine wk ?_
 refine cal (c:=D7 L X (by exact lkp)) (g:=?_)
 rintro _ rfl
 refine wk ?_
 refine cal (c:=W.ct _) (g:=?_)
 try rintro _ _ ⟨rfl,rfl⟩
 try rintro _ rfl
 refine wk ?_
 refine Gq L (todo:= []) ?_
 exact Yy L X.f3 (E9 rfl) ⟨rfl,rfl⟩
end
section
variable {h:H}
theorem dz {κ: Nat→Nat}{g0 g1 g2 g3 S:Int}{off:Bool}{v:AV}{l:List (St×AV)}(T:Tb P0 E F K)(U:SortOk P0 E F 171)(W:Wk P0 E F K)(k:StR κ h v l)(z: ∀b,b<h.n→κ b=0):
  Good P0 E (fun fn u=>fn=3∧u= .bool true) ⟨⟨3,cf3.ntmps,tms [(3,some (.bool off)),(2,some (.int .i64 S)),(1,some v),(0,some (.agg (rz g0 g1 g2 g3)))],[.code cf3.body],[],.run,false,none⟩,[],hp h.n h.t []⟩:=by
 by_cases hr:2≤g0∧g0≤6∧2≤g1∧g1≤6∧12≤g2∧g2≤30∧1≤g3∧g3≤1000∧l.length≤30
 rotate_left
 ·refine wk ?_
  refine cal (c:=sw L X (κ:= κ) (l:=l) (k.fw (Kp.fw0 (by exact kps))) hr) (g:=?_)
  rintro _ h1 ⟨rfl,w1⟩
  have n1:=w1.n
  simp only [Ah]at n1
  refine wk ?_
  refine cal (c:=W.ct _) (g:=?_)
  try rintro _ _ ⟨rfl,rfl⟩
  try rintro _ rfl
  refine wk ?_
  refine Gq L (todo:= []) ?_
  exact Yy L X.f3 (E9 rfl) ⟨rfl,rfl⟩
 ·obtain⟨n0,rfl⟩: ∃n:Nat,g0=n:=⟨g0.toNat,by omega⟩
  obtain⟨n1,rfl⟩: ∃n:Nat,g1=n:=⟨g1.toNat,by omega⟩
  obtain⟨n2,rfl⟩: ∃n:Nat,g2=n:=⟨g2.toNat,by omega⟩
  obtain⟨n3,rfl⟩: ∃n:Nat,g3=n:=⟨g3.toNat,by omega⟩
  refine wk ?_
  refine cal (c:=sx L X (κ:= κ) (l:=l) (k.fw (Kp.fw0 (by exact kps))) hr) (g:=?_)
  rintro _ h1 ⟨rfl,w1⟩
  have m1:=w1.n
  simp only [Ah]at m1
  by_cases he: ∀x∈l,x.1.ents.length≤4
  rotate_left
  ·rw [decide_eq_false he]
   refine wk ?_
   refine cal (c:=W.ct _) (g:=?_)
   try rintro _ _ ⟨rfl,rfl⟩
   try rintro _ rfl
   refine wk ?_
   refine Gq L (todo:= []) ?_
   exact Yy L X.f3 (E9 rfl) ⟨rfl,rfl⟩
  ·rw [decide_eq_true he]
   by_cases hS:S≤1000
   rotate_left
   ·refine wk ?_
    refine cal (c:=W.ct _) (g:=?_)
    try rintro _ _ ⟨rfl,rfl⟩
    try rintro _ rfl
    refine wk ?_
    refine Gq L (todo:= []) ?_
    exact Yy L X.f3 (E9 rfl) ⟨rfl,rfl⟩
   refine wk ?_
   have kk1:K0 h h1:=Kp.tr0 w1 (by exact kps)
   have k1:=k.fw (K0.fwe kk1)
   refine cal (c:=nu L X (g0:=n0) (g1:=n1) (g2:=n2) (g3:=n3) k1 (fun b _=>uo (z b)) (by omega) (by omega) (by omega) (by omega) hr.2.2.2.2.2.2.2.2 he) (g:=?_)
   rintro _ h2 ⟨d,rv,D,κ2,rfl,r2,rd2,hn2,hoff,z2,w2⟩
   have m2:=w2.n
   try simp only [Ah]at m2 z2
   have rd2':=rd2
   obtain⟨-,fb,pb0,eb,ecap,cp,ce,rfl,-,-⟩:=rd2'
   refine wk ?_
   cases off with
   |false=>
    refine wk ?_
    have kA:K0 h2 (hp (h2.n+1) h2.t [(h2.n,some (cl (rvC D fb pb0 eb ecap))),(h2.n,some (cl z11))]):=kps
    refine Rc L X (h:=hp (h2.n+1) h2.t [(h2.n,some (cl (rvC D fb pb0 eb ecap))),(h2.n,some (cl z11))]) T U W (r2.ext kA) (rd2.fw (K0.fwe kA)) (by exact lkp) hS ?_
    exact tsb
   |true=>
    refine wk ?_
    have kA:K0 h2 (hp (h2.n+1) h2.t [(h2.n,some (cl (rvC D fb pb0 eb ecap))),(h2.n,some (cl z11))]):=kps
    have hcl: ∀b,b<h2.n→upd κ2 h2.n 100 b=κ2 b:=fun b hb=>upd_ne _ _ (by omega)
    have rA:=(r2.recol hcl).k0 kA
    have rdA:=rd2.fw (Fw.mk (κ':=upd κ2 h2.n 100) kA.n (fun b hb _=>kA.old b hb fun f=>f) hcl)
    obtain⟨rok,fm,bb,cb,rc⟩:=rA
    have hsz:=rok.g.sz
    have rc2:=r2.ex
    obtain⟨_,_,_,rc2⟩:=rc2
    have ld:=rc2.dk.lt
    have kd:=rc.dk
    refine cal (c:=D7 L X kd) (g:=?_)
    rintro _ rfl
    refine wk ?_
    refine cal (c:=Xe L X kd hoff (by omega) (b:=0) (by omega)) (g:=?_)
    rintro _ h8 ⟨rfl,w3,w4⟩
    have ch:=rc.chd w4
    have m8:=w4.n
    simp only [Ah]at m8
    have ok1:=rok.cutS (b:=0) (by omega)
    have rB:DevR (upd κ2 h2.n 100) h8 d {D with cut:=(D.n:Nat),byt:=0,off:=false}:=⟨ok1,fm,bb,cb,rc.cnt w3 w4 rfl rfl rfl⟩
    have rdB:=rdA.fw ch.fw
    have k10:Bk h8 h2.n (rvC D fb pb0 eb ecap):=A5 w4 (by omega) (by exact lkp)
    refine wk ?_
    refine cal (c:=Tu (D:=D) L X hoff (by omega) (b:=0) (by omega)) (g:=?_)
    rintro _ h9 ⟨rfl,w5⟩
    have m9:=w5.n
    try simp only [Ah]at m9
    refine wk ?_
    have kE:Kp (fun b=>b=h2.n) h8 (hp h9.n h9.t [(h2.n,some (cl (rvC {D with cut:=(D.n:Nat),byt:=0,off:=false} fb pb0 eb ecap)))]):=kps
    have rE:=rB.kb (kE.mono fun b e=>by subst e;rw [upd_eq];exact Nat.le_refl _)
    have rdE:=(rdB.cnt ok1 rfl rfl rfl).fw (kE.fw fun b _ e=>by subst e;rw [upd_eq];omega)
    refine cal (c:=Se L X rE (by show D.n+1<1000;omega)) (g:=?_)
    rintro _ hX ⟨rfl,κ7,rX,ch7⟩
    have mX:=ch7.k.n
    try simp only [Ah]at mX
    have kX:Bk hX h2.n (rvC {D with cut:=(D.n:Nat),byt:=0,off:=false} fb pb0 eb ecap):=A5 ch7.k (by rw [upd_eq];omega) (by exact lkp)
    have lX:=kX.lt
    have cX:κ7 h2.n=100:=(ch7.col _ (by show h2.n<h9.n;omega)).trans (upd_eq _ _ _)
    refine wk ?_
    refine cal (c:=Sg L X (rdE.fw ch7.fw) (by show D.n+1<1000;omega)) (g:=?_)
    rintro _ hY ⟨rv',rfl,rY,wY⟩
    have mY:=wY.n
    try simp only [Ah]at mY
    have rY':=rY
    obtain⟨-,fb1,pb1,eb1,ecap1,cp1,ce1,rfl,-,-⟩:=rY'
    refine wk ?_
    have kZ:Kp (fun b=>b=h2.n) hY (hp hY.n hY.t [(h2.n,some (cl (rvC (Dv.erase {D with cut:=(D.n:Nat),byt:=0,off:=false} 0).1 fb1 pb1 eb1 ecap1)))]):=kps
    have cY:ext κ7 hX.n h2.n=100:=(B1 lX).trans cX
    refine Rc L X (h:=hp hY.n hY.t [(h2.n,some (cl (rvC (Dv.erase {D with cut:=(D.n:Nat),byt:=0,off:=false} 0).1 fb1 pb1 eb1 ecap1)))]) T U W ((rX.ext wY).kb (kZ.mono fun b e=>by subst e;rw [cY];exact Nat.le_refl _)) (rY.fw (kZ.fw fun b _ e=>by subst e;rw [cY];omega)) (by exact lkp) hS ?_
    exact tsb
end
end
open Go.ChangeShapes
noncomputable def ofG {α: Type}:Nat→List α→T α
 |_,[]=> .leaf
 |i,x::r=>T.set (ofG (i+1) r) i (some x)
theorem Zv {α: Type}: ∀(l:List α) (i j:Nat),T.get (ofG i l) j=if i≤j then l[j - i]? else none
 | [],i,j=>by simp only [ofG,T.get_leaf];split <;> simp
 |x::r,i,j=>by
  simp only [ofG,T.get_set,Zv r]
  by_cases h1:j=i
  ·subst h1;simp
  ·rw [if_neg h1]
   by_cases h2:i+1≤j
   ·rw [if_pos h2,if_pos (by omega),show j - i=(j - (i+1))+1 by omega,List.getElem?_cons_succ]
   ·rw [if_neg h2,if_neg (by omega)]
theorem ot {α: Type}(l:List α)(j:Nat):T.get (ofG 0 l) j=l[j]?:=by rw [Zv,if_pos (Nat.zero_le _),Nat.sub_zero]
section
variable {W:World}{a:Addr}{k cap:Nat}
theorem d5 {v:Value}(h:W.cell? a=some v):a.spot=none∧ ∃cs e fr,W.heap[a.block]?=some (.cells cs e fr)∧cs[a.off]?=some v:=by
 unfold World.cell? at h
 split at h
 ·rename_i cs e fr hb
  cases hs:a.spot with
  |none=>rw [hs]at h;exact⟨rfl,cs,e,fr,hb,h⟩
  |some _=>rw [hs]at h;cases h
 ·cases h
theorem yk {n:Nat}(h:a.spot=none):a.add n=⟨a.block,a.off+n,none⟩:=by
 unfold Addr.add
 obtain⟨b,o,s⟩:=a
 split
 ·rename_i h0;subst h0;simp only at h;subst h;rfl
 ·rfl
theorem Wb (hk:0<k)(hcap:0<cap){f:Nat→List Value}(h: ∀i,i<cap→W.cells? 0 (a.add (i*k)) k=some (f i)):
  ∃cs e fr,a.spot=none∧W.heap[a.block]?=some (.cells cs e fr)∧a.off+cap*k≤cs.size∧ ∀i j,i<cap→j<k→cs[a.off+(i*k+j)]?=(f i)[j]?:=by
 have h0:=World.cells?_some (h 0 hcap)
 have c0:=h0.2.2 0 hk
 have hl0:=h0.2.1
 rw [List.getElem?_eq_getElem (by omega)]at c0
 have e0:(a.add (0*k)).add 0=a:=by rw [Nat.zero_mul];rfl
 rw [e0]at c0
 obtain⟨hs,cs,e,fr,hb,-⟩:=d5 c0
 have key: ∀i j,i<cap→j<k→cs[a.off+(i*k+j)]?=(f i)[j]?:=by
  intro i j hi hj
  have h1:=(World.cells?_some (h i hi)).2.2 j hj
  rw [yk hs,C6,Jz hb]at h1
  rw [←h1,Nat.add_assoc]
 refine⟨cs,e,fr,hs,hb,?_,key⟩
 have h1:=key (cap - 1) (k - 1) (by omega) (by omega)
 have h2:=(World.cells?_some (h (cap - 1) (by omega))).2.1
 rw [List.getElem?_eq_getElem (by omega)]at h1
 have h3:=(Array.getElem?_eq_some_iff.1 h1).1
 have h4:cap*k=(cap - 1)*k+k:=by
  have:(cap - 1+1)*k=(cap - 1)*k+k:=by rw [Nat.add_mul,Nat.one_mul]
  rwa [show cap - 1+1=cap by omega]at this
 omega
end
section
variable {H:Type}{enc:TypeId×Value→H}{P:Program}{W:World}{held:Bool}{t e:TypeId}{fuel:Nat}
theorem Rd (ht:P.underlying t=some (.slice e)){v:Value}{y:DataW H×List MemPlace}(h:DataW.trod enc P W 0 (fun _=>true) held fuel t [v]=some y):
  v= .slice none 0 0∨ ∃a len cap n,v= .slice (some a) len cap∧len≤cap∧ ∀i,i<cap→ ∃c z,W.cells? 0 (a.add (i*P.cellsOf e)) (P.cellsOf e)=some c∧DataW.trod enc P W 0 (fun _=>true) held n e c=some z:=by
 rcases DataW.trod_slice ht h with⟨h1,-⟩|⟨a,len,cap,elems,rest,n,-,h1,-,-,hle,-,hlen,hel,hsp,-⟩
 ·left;simpa using h1
 ·right
  refine⟨a,len,cap,n,by simpa using h1,hle,fun i hi=>?_⟩
  obtain⟨hr1,hr2⟩:=hsp rfl
  have: ∃z,(W.cells? 0 (a.add (i*P.cellsOf e)) (P.cellsOf e)).bind (DataW.trod enc P W 0 (fun _=>true) held n e)=some z:=by
   by_cases hi2:i<len
   ·rw [hel i hi2]
    exact⟨_,List.getElem?_eq_getElem (by omega)⟩
   ·have:=hr2 (i - len) (by omega)
    rw [show len+(i - len)=i by omega]at this
    rw [this]
    exact⟨_,List.getElem?_eq_getElem (by omega)⟩
  obtain⟨z,hz⟩:=this
  rw [Option.bind_eq_some_iff]at hz
  obtain⟨c,h2,h3⟩:=hz
  exact⟨c,z,h2,h3⟩
theorem dt1 {cs:List Value}{o:Nat}{v:Value}(h:(cs.drop o).take 1= [v]):cs[o]?=some v:=by
 have:=congrArg (fun l=>l[0]?) h
 simpa [List.getElem?_take,List.getElem?_drop]using this
theorem Gw {k:IntKind}{cs:List Value}{o:Nat}{z:DataW H×List MemPlace}{sp:Nat→Bool}(ht:P.underlying t=some (.int k))(hc:P.cellsOf t=1)(h:DataW.trod enc P W 0 sp held fuel t ((cs.drop o).take (P.cellsOf t))=some z):
  ∃n,cs[o]?=some (.int k n)∧(Lit.int k n).wf=true:=by
 rw [hc]at h
 obtain⟨n,h1,-,h2⟩:=DataW.trod_int ht h
 exact⟨n,dt1 h1,h2⟩
theorem Zx {cs:List Value}{o:Nat}{z:DataW H×List MemPlace}{sp:Nat→Bool}(ht:P.underlying t=some .bool)(hc:P.cellsOf t=1)(h:DataW.trod enc P W 0 sp held fuel t ((cs.drop o).take (P.cellsOf t))=some z):
  ∃b,cs[o]?=some (.bool b):=by
 rw [hc]at h
 obtain⟨n,h1,-⟩:=DataW.trod_bool ht h
 exact⟨n,dt1 h1⟩
theorem Uj {k:IntKind}{n:Int}(hs:k.signed=false)(h:(Lit.int k n).wf=true): ∃m:Nat,n=m∧m<pw k:=by
 simp only [Lit.wf,Bool.and_eq_true,decide_eq_true_eq]at h
 cases k <;> first|(cases hs;done)|(simp only [IntKind.min,IntKind.max,IntKind.signed,IntKind.bits]at h;exact⟨n.toNat,by simp at h;omega,by simp [pw]at h ⊢;omega⟩)
end
end Go.Ev
namespace Go.Ev
open Go.ChangeShapes
structure TyR (P:Program):Prop where
 u3:P.underlying 3=some (.int .i64)
 c3:P.cellsOf 3=1
 u4:P.underlying 4=some .bool
 c4:P.cellsOf 4=1
 u5:P.underlying 5=some (.int .u8)
 c5:P.cellsOf 5=1
 u42:P.underlying 42=some (.int .u64)
 c42:P.cellsOf 42=1
 u60:P.underlying 60=some (.int .u8)
 c60:P.cellsOf 60=1
 u41:P.underlying 41=some (.slice 97)
 c41:P.cellsOf 41=1
 u24:P.underlying 24=some (.slice 91)
 u97: ∃fs,P.underlying 97=some (.struct fs)∧fs.map (fun f=>(f.type,f.offset))= #[(3,0),(3,1)]
 c97:P.cellsOf 97=2
 u62: ∃fs,P.underlying 62=some (.struct fs)∧fs.map (fun f=>(f.type,f.offset))= #[(60,0),(3,1),(42,2),(42,3),(3,4),(3,5)]
 c62:P.cellsOf 62=6
 u91: ∃fs,P.underlying 91=some (.struct fs)∧fs.map (fun f=>(f.type,f.offset))= #[(3,0),(4,1),(4,2),(3,3),(62,4),(5,10),(41,11)]
 c91:P.cellsOf 91=12
theorem fld {fs:Array Field}{A:Array (TypeId×Nat)}(h:fs.map (fun f=>(f.type,f.offset))=A){i:Nat}{t:TypeId}{o:Nat}(hi:A[i]?=some (t,o)): ∃f,fs[i]?=some f∧f.type=t∧f.offset=o:=by
 subst h
 rw [Array.getElem?_map,Option.map_eq_some_iff]at hi
 obtain⟨f,h1,h2⟩:=hi
 cases h2
 exact⟨f,h1,rfl,rfl⟩
section
variable {H:Type}{enc:TypeId×Value→H}{P:Program}{W:World}{held:Bool}
theorem X7 {t:TypeId}{n0:Nat}{cs:List Value}{x:DataW H×List MemPlace}{A:Array (TypeId×Nat)}{sp:Nat→Bool}(hu: ∃fs,P.underlying t=some (.struct fs)∧fs.map (fun f=>(f.type,f.offset))=A)
  (h:DataW.trod enc P W 0 sp held n0 t cs=some x):cs.length=P.cellsOf t∧ ∃n,∀(i:Nat) (t':TypeId) (o:Nat),A[i]?=some (t',o)→ ∃z,DataW.trod enc P W 0 sp held n t' ((cs.drop o).take (P.cellsOf t'))=some z:=by
 obtain⟨fs,h1,h2⟩:=hu
 obtain⟨xs,n,-,-,hl,hlen,hf⟩:=DataW.trod_struct h1 h
 refine⟨hl,n,fun i t' o hi=>?_⟩
 obtain⟨f,h3,h4,h5⟩:=fld h2 hi
 have h6:=hf i f h3
 have h7:=(Array.getElem?_eq_some_iff.1 h3).1
 rw [h4,h5]at h6
 rw [h6]
 exact⟨_,List.getElem?_eq_getElem (by omega)⟩
def th (x:Ent):List Value:= [.int .i64 x.1,.int .i64 x.2]
theorem ou (T:TyR P){n0:Nat}{cs:List Value}{x:DataW H×List MemPlace}{sp:Nat→Bool}(h:DataW.trod enc P W 0 sp held n0 97 cs=some x): ∃e:Ent,cs=th e:=by
 obtain⟨hl,n,hf⟩:=X7 T.u97 h
 rw [T.c97]at hl
 obtain⟨z0,h0⟩:=hf 0 3 0 rfl
 obtain⟨z1,h1⟩:=hf 1 3 1 rfl
 obtain⟨a,a1,-⟩:=Gw T.u3 T.c3 h0
 obtain⟨b,b1,-⟩:=Gw T.u3 T.c3 h1
 refine⟨(a,b),List.ext_getElem? fun i=>?_⟩
 rcases i with _|_|i
 ·exact a1
 ·exact b1
 ·rw [List.getElem?_eq_none (by omega)];rfl
def stV (s:St)(ev:Value):List Value:= [.int .i64 s.blk,.bool s.er,.bool s.cut,.int .i64 s.byt,.int .u8 ((s.sp.kind:Nat):Int),.int .i64 s.sp.sec,.int .u64 ((s.sp.seq:Nat):Int),.int .u64 ((s.sp.prev:Nat):Int),.int .i64 s.sp.idx,.int .i64 s.sp.len,.int .u8 ((s.dat:Nat):Int),ev]
theorem Di {cs:List Value}{o k j:Nat}{v:Value}(h:((cs.drop o).take k)[j]?=some v):cs[o+j]?=some v:=by
 have hj:j<k:=by
  have:=(List.getElem?_eq_some_iff.1 h).1
  rw [List.length_take]at this;omega
 rwa [List.getElem?_take_of_lt hj,List.getElem?_drop]at h
theorem d6 (T:TyR P){n0:Nat}{cs:List Value}{x:DataW H×List MemPlace}{sp:Nat→Bool}(h:DataW.trod enc P W 0 sp held n0 91 cs=some x):
  ∃(s:St) (ev:Value) (n:Nat) (y:DataW H×List MemPlace),cs=stV s ev∧s.sp.Ok∧s.dat<256∧DataW.trod enc P W 0 sp held n 41 [ev]=some y:=by
 obtain⟨hl,n,hf⟩:=X7 T.u91 h
 rw [T.c91]at hl
 obtain⟨z0,h0⟩:=hf 0 3 0 rfl
 obtain⟨z1,h1⟩:=hf 1 4 1 rfl
 obtain⟨z2,h2⟩:=hf 2 4 2 rfl
 obtain⟨z3,h3⟩:=hf 3 3 3 rfl
 obtain⟨z4,h4⟩:=hf 4 62 4 rfl
 obtain⟨z5,h5⟩:=hf 5 5 10 rfl
 obtain⟨z6,h6⟩:=hf 6 41 11 rfl
 obtain⟨v0,a0,-⟩:=Gw T.u3 T.c3 h0
 obtain⟨v1,a1⟩:=Zx T.u4 T.c4 h1
 obtain⟨v2,a2⟩:=Zx T.u4 T.c4 h2
 obtain⟨v3,a3,-⟩:=Gw T.u3 T.c3 h3
 obtain⟨hl4,m,hg⟩:=X7 T.u62 h4
 obtain⟨y0,g0⟩:=hg 0 60 0 rfl
 obtain⟨y1,g1⟩:=hg 1 3 1 rfl
 obtain⟨y2,g2⟩:=hg 2 42 2 rfl
 obtain⟨y3,g3⟩:=hg 3 42 3 rfl
 obtain⟨y4,g4⟩:=hg 4 3 4 rfl
 obtain⟨y5,g5⟩:=hg 5 3 5 rfl
 obtain⟨w0,b0,k0⟩:=Gw T.u60 T.c60 g0
 obtain⟨w1,b1,-⟩:=Gw T.u3 T.c3 g1
 obtain⟨w2,b2,k2⟩:=Gw T.u42 T.c42 g2
 obtain⟨w3,b3,k3⟩:=Gw T.u42 T.c42 g3
 obtain⟨w4,b4,-⟩:=Gw T.u3 T.c3 g4
 obtain⟨w5,b5,-⟩:=Gw T.u3 T.c3 g5
 obtain⟨v5,a5,k5⟩:=Gw T.u5 T.c5 h5
 obtain⟨w0,rfl,rk0⟩:=Uj rfl k0
 obtain⟨w2,rfl,rk2⟩:=Uj rfl k2
 obtain⟨w3,rfl,rk3⟩:=Uj rfl k3
 obtain⟨v5,rfl,rk5⟩:=Uj rfl k5
 have b0:=Di b0
 have b1:=Di b1
 have b2:=Di b2
 have b3:=Di b3
 have b4:=Di b4
 have b5:=Di b5
 rw [T.c41]at h6
 have e6:(cs.drop 11).take 1= [cs[11]]:=by
  rw [List.drop_eq_getElem_cons (show 11<cs.length by omega)];rfl
 rw [e6]at h6
 refine⟨⟨v0,v1,v2,v3,⟨w0,w1,w2,w3,w4,w5⟩,v5,[]⟩,cs[11],n,z6,List.ext_getElem? fun i=>?_,⟨rk0,rk2,rk3⟩,rk5,h6⟩
 rcases i with _|_|_|_|_|_|_|_|_|_|_|_|i
 ·exact a0
 ·exact a1
 ·exact a2
 ·exact a3
 ·exact b0
 ·exact b1
 ·exact b2
 ·exact b3
 ·exact b4
 ·exact b5
 ·exact a5
 ·exact List.getElem?_eq_getElem (by omega)
 ·rw [List.getElem?_eq_none (by omega)];rfl
theorem ow (s:St)(l:List Ent)(ev:Value):stV {s with ents:=l} ev=stV s ev:=rfl
def EO (W:World)(v:Value)(x:List Ent×Option Loc):Prop:=
 match x.2 with
 |none=>x.1= []∧(v= .slice none 0 0∨ ∃a,v= .slice (some a) 0 0)
 |some l=> ∃cap cs e fr,v= .slice (some ⟨l.cb,l.base,none⟩) x.1.length cap∧x.1.length≤cap∧l.base+cap*2≤l.csz∧W.heap[l.cb]?=some (.cells cs e fr)∧cs.size=l.csz∧ ∀i y,x.1[i]?=some y→ ∀j,j<2→cs[l.base+(i*2+j)]?=(th y)[j]?
theorem Aa9 {α: Type}{n:Nat}(hn:0<n){R:Nat→α→Prop}(h: ∀i,i<n→ ∃y,R i y): ∃f:Nat→α,∀i,i<n→R i (f i):=by
 have: ∀i,∃y,i<n→R i y:=fun i=>by
  by_cases hi:i<n
  ·obtain⟨y,hy⟩:=h i hi;exact⟨y,fun _=>hy⟩
  ·obtain⟨y,-⟩:=h 0 hn;exact⟨y,fun q=>absurd q hi⟩
 exact Classical.axiomOfChoice this
theorem Kd {α: Type}(f:Nat→α)(n i:Nat)(x:α)(h:((List.range n).map f)[i]?=some x):i<n∧x=f i:=by
 rw [List.getElem?_map,Option.map_eq_some_iff]at h
 obtain⟨j,h1,h2⟩:=h
 obtain⟨h3,h4⟩:=List.getElem?_eq_some_iff.1 h1
 rw [List.length_range]at h3
 rw [List.getElem_range]at h4
 subst h4
 exact⟨h3,h2.symm⟩
theorem Uk (T:TyR P){n0:Nat}{v:Value}{y:DataW H×List MemPlace}(h:DataW.trod enc P W 0 (fun _=>true) held n0 41 [v]=some y): ∃x,EO W v x:=by
 rcases Rd T.u41 h with rfl|⟨a,len,cap,n,rfl,hle,hc⟩
 ·exact⟨([],none),rfl,.inl rfl⟩
 ·by_cases hcap:cap=0
  ·subst hcap
   obtain rfl:len=0:=by omega
   exact⟨([],none),rfl,.inr ⟨a,rfl⟩⟩
  ·rw [T.c97]at hc
   have hc2: ∀i,i<cap→ ∃e:Ent,W.cells? 0 (a.add (i*2)) 2=some (th e):=fun i hi=>by
    obtain⟨c,z,h1,h2⟩:=hc i hi
    obtain⟨e,rfl⟩:=ou T h2
    exact⟨e,h1⟩
   obtain⟨f,hf⟩:=Aa9 (Nat.pos_of_ne_zero hcap) hc2
   obtain⟨cs,e,fr,hs,hb,hsz,hk⟩:=Wb (k:=2) (by omega) (Nat.pos_of_ne_zero hcap) hf
   obtain⟨ab,ao,spt9⟩:=a
   simp only at hs hb hsz hk
   subst hs
   have hlen:((List.range len).map f).length=len:=by simp
   refine⟨((List.range len).map f,some ⟨ab,ao,cs.size⟩),cap,cs,e,fr,?_,?_,hsz,hb,rfl,fun i y hi j hj=>?_⟩
   ·show _=Value.slice (some ⟨ab,ao,none⟩) ((List.range len).map f).length cap
    rw [hlen]
   ·show((List.range len).map f).length≤cap
    rw [hlen];exact hle
   ·obtain⟨h1,rfl⟩:=Kd f len i y hi
    exact hk i j (by omega) hj
theorem ti (l:List AV)(i:Nat):T.get (ofL 0 (.leaf:T AV) l) i=l[i]?:=G9 l i
def eAV (b:Nat)(v:Value)(x:List Ent×Option Loc):AV:=match x.2 with
 |none=>(match v with
  | .slice none _ _=> .nils
  |_=> .opq v)
 |some _=> .slc b 0 x.1.length (Ac+2)
theorem yn {φ: Phi}(e:Ent):VRs φ (An e) (th e):= .cons (.int _ _) (.cons (.int _ _) .nil)
theorem Aba {φ: Phi}(s:St){av:AV}{ev:Value}(h:VR φ av ev):VRs φ (stC (s,av)) (stV s ev):=
 .cons (.int _ _) (.cons (.bool _) (.cons (.bool _) (.cons (.int _ _) (.cons (.int _ _) (.cons (.int _ _) (.cons (.int _ _) (.cons (.int _ _) (.cons (.int _ _) (.cons (.int _ _) (.cons (.int _ _) (.cons h .nil)))))))))))
end
end Go.Ev
namespace Go.Ev
open Go.ChangeShapes
section
variable {H1:Type}{enc:TypeId×Value→H1}{P:Program}{E:Env}{W:World}{held:Bool}
theorem yo {φ: Phi}{b:Nat}{v:Value}{x:List Ent×Option Loc}(h:EO W v x)(hφ: φ b=x.2):VR φ (eAV b v x) v:=by
 obtain⟨xs,ol⟩:=x
 cases ol with
 |none=>
  obtain⟨-,rfl|⟨a,rfl⟩⟩:=h
  ·exact .nils
  ·exact .opq _
 |some l=>
  obtain⟨cap,cs,e,fr,rfl,h1,h2,-,-,-⟩:=h
  exact .slcU hφ h1 h2 fun _=>rfl
theorem X8 {φ: Phi}{l:Loc}{xs:List AV}{cs:Array Value}{e:TypeId}{fr:Nat×Nat}(hs:cs.size=l.csz)(hn:l.base+xs.length≤cs.size)(h: ∀(i:Nat) (v:AV),xs[i]?=some v→ ∃v',cs[l.base+i]?=some v'∧VR φ v v'):
  BR E φ l (Eb xs) (.cells cs e fr):=
 .cells (fun q=>by cases q) hs hn fun i v hi hv=>h i v (by rw [ti]at hv;exact hv)
theorem Zz {α: Type}{f:α→List AV}{k:Nat}(hk:0<k)(l:List α)(hl: ∀x∈l,(f x).length=k){i:Nat}{v:AV}(h:(l.flatMap f)[i]?=some v): ∃x,l[i / k]?=some x∧(f x)[i % k]?=some v∧i / k*k+i % k=i:=by
 have h1:i<(l.flatMap f).length:=(List.getElem?_eq_some_iff.1 h).1
 rw [Co l hl]at h1
 have h2:i / k<l.length:=by rw [Nat.div_lt_iff_lt_mul hk];exact h1
 have h3:i / k*k+i % k=i:=by rw [Nat.mul_comm];exact Nat.div_add_mod i k
 refine⟨l[i / k],List.getElem?_eq_getElem h2,?_,h3⟩
 rw [←Dd l hl (i / k) (i % k) _ (List.getElem?_eq_getElem h2) (Nat.mod_lt _ hk),h3]
 exact h
theorem Z0 {φ: Phi}{v:Value}{x:List Ent×Option Loc}{l:Loc}(h:EO W v x)(hl:x.2=some l): ∃o,W.heap[l.cb]?=some o∧BR E φ l (Eb (x.1.flatMap An)) o:=by
 obtain⟨xs,ol⟩:=x
 simp only at hl
 subst hl
 obtain⟨cap,cs,e,fr,rfl,h1,h2,h3,h4,h5⟩:=h
 simp only at h1 h5
 refine⟨_,h3,X8 h4 ?_ fun i u hi=>?_⟩
 ·rw [Co xs (B4 xs)]
  have:xs.length*2≤cap*2:=Nat.mul_le_mul_right 2 h1
  omega
 ·obtain⟨y,g1,g2,g3⟩:=Zz (by omega) xs (B4 xs) hi
  obtain⟨u',g4,g5⟩:=(yn (φ:= φ) y).get g2
  refine⟨u',?_,g5⟩
  rw [←g4,←h5 _ y g1 (i % 2) (Nat.mod_lt _ (by omega)),g3]
theorem X9 (Ty:TyR P){n0:Nat}{v:Value}{y:DataW H1×List MemPlace}(h:DataW.trod enc P W 0 (fun _=>true) held n0 24 [v]=some y)(hv: ∀a,v= .slice (some a) 0 0→a.spot=none∧ ∃cs e fr,W.heap[a.block]?=some (.cells cs e fr)):
  ∃(h0:H) (φ: Phi) (av:AV) (l:List (St×AV)),VR φ av v∧HR E W.heap φ h0 W.heap∧StR (fun _=>0) h0 av l:=by
 have lt_of: ∀{cb:Nat} {o:Obj},W.heap[cb]?=some o→cb<W.heap.size:=fun q=>by
  rcases Nat.lt_or_ge _ W.heap.size with h'|h'
  ·exact h'
  ·rw [Array.getElem?_eq_none h']at q;cases q
 rcases Rd Ty.u24 h with rfl|⟨a,len,cap,n,rfl,hle,hc⟩
 ·exact⟨⟨0,.leaf⟩,fun _=>none,.nils,[],.nils,HR.none _,fun x hx=>(by cases hx),.inl ⟨rfl,rfl⟩⟩
 ·by_cases hcap:cap=0
  ·subst hcap
   obtain rfl:len=0:=by omega
   obtain⟨hs,cs,e,fr,hb⟩:=hv a rfl
   obtain⟨ab,ao,spt9⟩:=a
   simp only at hs hb
   subst hs
   refine⟨⟨1,ofG 0 [Eb []]⟩,fun b=>if b=0 then some ⟨ab,0,cs.size⟩else none,.slc 0 0 0 0,[],.slcX (l:=⟨ab,0,cs.size⟩) rfl (by decide) (Nat.le_refl _) (fun q=>absurd q (by omega)),?_,?_⟩
   ·have hx: ∀b x,H.get ⟨1,ofG 0 [Eb []]⟩ b=some x→x=Eb []:=by
     intro b x hx
     have:T.get (ofG 0 [Eb []]) b=some x:=hx
     rw [ot]at this
     cases b with
     |zero=>simpa using this.symm
     |succ b=>simp at this
    refine⟨fun b l hb2=>?_,fun b l hb2=>?_,fun b l x hb2 hx2=>?_,fun b b' l l' x x' _ _ hx2 _ hr _=>?_,fun b l x _ hx2 hr=>?_,fun _ _=>rfl,Nat.le_refl _⟩
    ·by_cases e0:b=0
     ·subst e0;show 0<1;omega
     ·rw [if_neg e0]at hb2;cases hb2
    ·by_cases e0:b=0
     ·rw [if_pos e0]at hb2;cases hb2;exact lt_of hb
     ·rw [if_neg e0]at hb2;cases hb2
    ·by_cases e0:b=0
     ·rw [if_pos e0]at hb2
      cases hb2
      rw [hx b x hx2]
      exact⟨_,hb,X8 rfl (Nat.zero_le _) fun i v hi=>by simp at hi⟩
     ·rw [if_neg e0]at hb2;cases hb2
    ·rw [hx b x hx2]at hr;cases hr
    ·rw [hx b x hx2]at hr;cases hr
   ·exact⟨fun x hx=>(by cases hx),.inr ⟨0,0,rfl,⟨⟨true,by show T.get (ofG 0 [Eb []]) 0=_;rw [ot];rfl⟩,by show 0<1;omega⟩,rfl⟩⟩
  ·have hpos:=Nat.pos_of_ne_zero hcap
   rw [Ty.c91]at hc
   have hc2: ∀i,i<cap→ ∃q:St×Value×(List Ent×Option Loc),W.cells? 0 (a.add (i*12)) 12=some (stV q.1 q.2.1)∧q.1.sp.Ok∧q.1.dat<256∧EO W q.2.1 q.2.2:=fun i hi=>by
    obtain⟨c,z,h1,h2⟩:=hc i hi
    obtain⟨s,ev,m,z2,rfl,h3,h4,h5⟩:=d6 Ty h2
    obtain⟨x,hx⟩:=Uk Ty h5
    exact⟨(s,ev,x),h1,h3,h4,hx⟩
   obtain⟨f,hf⟩:=Aa9 hpos hc2
   obtain⟨cs,e,fr,hs,hb,hsz,hk⟩:=Wb (k:=12) (f:=fun i=>stV (f i).1 (f i).2.1) (by omega) hpos fun i hi=>(hf i hi).1
   obtain⟨ab,ao,spt9⟩:=a
   simp only at hs hb hsz hk
   subst hs
   let l:List (St×AV):=(List.range len).map fun i=>({(f i).1 with ents:=(f i).2.2.1},eAV (i+1) (f i).2.1 (f i).2.2)
   have hlen:l.length=len:=by simp [l]
   let B:List Blk:=Eb (l.flatMap stC)::(List.range len).map fun i=>Eb ((f i).2.2.1.flatMap An)
   let φ: Phi:=fun b=>match b with
    |0=>some ⟨ab,ao,cs.size⟩
    |i+1=>if i<len then(f i).2.2.2 else none
   have φs: ∀i,i<len→φ (i+1)=(f i).2.2.2:=fun i hi=>if_pos hi
   have hB: ∀b x,H.get ⟨len+1,ofG 0 B⟩ b=some x→(b=0∧x=Eb (l.flatMap stC))∨ ∃i,b=i+1∧i<len∧x=Eb ((f i).2.2.1.flatMap An):=by
    intro b x hx
    have hx:T.get (ofG 0 B) b=some x:=hx
    rw [ot]at hx
    cases b with
    |zero=>left;exact⟨rfl,by simpa [B]using hx.symm⟩
    |succ i=>
     right
     have hx:((List.range len).map fun i=>Eb ((f i).2.2.1.flatMap An))[i]?=some x:=hx
     obtain⟨h1,h2⟩:=Kd (fun i=>Eb ((f i).2.2.1.flatMap An)) len i x hx
     exact⟨i,rfl,h1,h2⟩
   have ro: ∀b x,H.get ⟨len+1,ofG 0 B⟩ b=some x→roB x=true:=by
    intro b x hx
    rcases hB b x hx with⟨-,rfl⟩|⟨i,-,-,rfl⟩ <;> rfl
   refine⟨⟨len+1,ofG 0 B⟩,φ,.slc 0 0 len (Ac+12),l,.slcU (l:=⟨ab,ao,cs.size⟩) rfl hle hsz fun _=>rfl,?_,?_⟩
   ·refine⟨fun b lo hb2=>?_,fun b lo hb2=>?_,fun b lo x hb2 hx2=>?_,fun b b' lo lo' x x' _ _ hx2 _ hr _=>?_,fun b lo x _ hx2 hr=>?_,fun _ _=>rfl,Nat.le_refl _⟩
    ·cases b with
     |zero=>show 0<len+1;omega
     |succ i=>
      show i+1<len+1
      have hb2:(if i<len then(f i).2.2.2 else none)=some lo:=hb2
      by_cases hi:i<len
      ·omega
      ·rw [if_neg hi]at hb2;cases hb2
    ·cases b with
     |zero=>
      have hb2:some (⟨ab,ao,cs.size⟩:Loc)=some lo:=hb2
      cases hb2;exact lt_of hb
     |succ i=>
      have hb2:(if i<len then(f i).2.2.2 else none)=some lo:=hb2
      by_cases hi:i<len
      ·rw [if_pos hi]at hb2
       obtain⟨o,h1,-⟩:=Z0 (E:=E) (φ:= φ) (hf i (by omega)).2.2.2 hb2
       exact lt_of h1
      ·rw [if_neg hi]at hb2;cases hb2
    ·rcases hB b x hx2 with⟨rfl,rfl⟩|⟨i,rfl,hi,rfl⟩
     ·have hb2:some (⟨ab,ao,cs.size⟩:Loc)=some lo:=hb2
      cases hb2
      refine⟨_,hb,X8 rfl ?_ fun i u hu=>?_⟩
      ·show ao+(l.flatMap stC).length≤cs.size
       rw [Co l (Ow l),hlen]
       have:len*12≤cap*12:=Nat.mul_le_mul_right 12 hle
       omega
      ·obtain⟨q,g1,g2,g3⟩:=Zz (by omega) l (Ow l) hu
       obtain⟨g4,rfl⟩:=Kd _ len _ q g1
       have g5:VR φ (eAV (i / 12+1) (f (i / 12)).2.1 (f (i / 12)).2.2) (f (i / 12)).2.1:=yo (hf _ (by omega)).2.2.2 (φs _ g4)
       obtain⟨u',g6,g7⟩:=(Aba (s:= {(f (i / 12)).1 with ents:=(f (i / 12)).2.2.1}) g5).get g2
       refine⟨u',?_,g7⟩
       show cs[ao+i]?=some u'
       rw [←g6,ow,←hk (i / 12) (i % 12) (by omega) (Nat.mod_lt _ (by omega)),g3]
     ·have hb2:(if i<len then(f i).2.2.2 else none)=some lo:=hb2
      rw [if_pos hi]at hb2
      exact Z0 (hf i (by omega)).2.2.2 hb2
    ·rw [ro b x hx2]at hr;cases hr
    ·rw [ro b x hx2]at hr;cases hr
   ·refine⟨fun x hx=>?_,.inr ⟨0,Ac+12,by rw [hlen],⟨⟨true,?_⟩,by show 0<len+1;omega⟩,rfl⟩⟩
    ·obtain⟨i,hi,e0⟩:=List.getElem_of_mem hx
     have h1:l[i]?=some x:=by rw [List.getElem?_eq_getElem hi,e0]
     obtain⟨h2,rfl⟩:=Kd _ len i x h1
     obtain⟨-,h3,h4,h5⟩:=hf i (by omega)
     refine⟨⟨?_⟩,h3,h4⟩
     have h6:H.get ⟨len+1,ofG 0 B⟩ (i+1)=some (Eb ((f i).2.2.1.flatMap An)):=by
      show T.get (ofG 0 B) (i+1)=_
      rw [ot]
      show((List.range len).map fun i=>Eb ((f i).2.2.1.flatMap An))[i]?=_
      rw [List.getElem?_map,List.getElem?_range h2];rfl
     generalize (f i).2.2=w at*
     obtain⟨xs,ol⟩:=w
     cases ol with
     |none=>
      obtain⟨rfl,h7|⟨a,h7⟩⟩:=h5
      ·left;rw [h7];exact⟨rfl,rfl⟩
      ·right;left;rw [h7];exact⟨rfl,a,rfl⟩
     |some lo=>right;right;exact⟨i+1,Ac+2,rfl,⟨⟨true,h6⟩,by show i+1<len+1;omega⟩,rfl⟩
    ·show T.get (ofG 0 B) 0=_
     rw [ot];rfl
end
end Go.Ev
