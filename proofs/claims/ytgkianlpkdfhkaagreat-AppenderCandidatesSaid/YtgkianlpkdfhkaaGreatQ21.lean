/- Part of the proof. -/
import Derived.Test.YtgkianlpkdfhkaaGreatQ20
import Derived.Test.YtgkianlpkdfhkaaGreatQ10
import Derived.Test.YtgkianlpkdfhkaaGreatQ13
set_option linter.unusedVariables false
set_option linter.unusedSectionVars false
set_option linter.unusedSimpArgs false
set_option maxRecDepth 10000
set_option maxHeartbeats 4000000
namespace Go.Ev
section
variable {P0:Program}{E:Env}{F:T CFn}{K:T (List AV×AV)}(L:Lg P0 E F K)(X:Fx F K)
include L X
omit L X in
theorem Ye {l:List GW}{sz i:Nat}{x:GW}(hx:l[i]?=some x):(l.flatMap (gwC sz))[i*2+0]?=some (AI x.1)∧(l.flatMap (gwC sz))[i*2+1]?=some (gwV sz x.2):=by
 refine⟨?_,?_⟩
 ·rw [B8 l (Je l) i 0 x hx (by omega)];rfl
 ·rw [B8 l (Je l) i 1 x hx (by omega)];rfl
section
variable {h:H}
theorem bv {U:Nat→Prop}{lo' sz:Nat}{dv v:AV}{Z:List (List Nat)}{l:List GW}{δ: Nat→List Nat}(q:DkR h U dv sz Z)(hL:0<Z.length∧Z.length≤10)(g:GrR h lo' v sz l δ)(hl:l.length≤6)(hsz:12≤sz∧sz≤30):
  Ct P0 E F K 38 [.agg [AI ((sz:Nat):Int),dv],v] h fun u h'=>u=AI ((Dc Z.length false (l.map (·.1)):Nat):Int)∧K0 h h':=by
 rcases q.ex with⟨rfl,rfl⟩|⟨-,lb,rows,rfl,-⟩
 ·exact absurd hL.1 (Nat.lt_irrefl _)
 rcases g.ex with⟨rfl,rfl⟩|⟨h1,gb,rfl,kb,h4,h5⟩
 ·refine Ad L X.f38 X.k38 rfl rfl fun Q x cs G=>?_
  refine wk ?_
  refine ret X.f38 ?_
  exact⟨rfl,kps⟩
 ·have lgb:=kb.lt
  refine Ad L X.f38 X.k38 rfl rfl fun Q x cs G=>?_
  refine wk ?_
  refine Co L (α:= Unit) (T:=fun i _=> [(5,some (AI ((i:Nat):Int))),(2,some (.ptr h.n 0)),(1,some (.slc gb 0 l.length (Aa+2)))]) (n:=l.length)
   (R:=fun i _ h2=>((l.map (·.1)).take i).Nodup∧Bk h2 h.n [AI ((sz:Nat):Int),.slc lb 0 Z.length (Aa+1)]∧K0 h h2) (i0:=0) () tsb ⟨by simp,lkp,kps⟩ (Nat.zero_le _) ?_ ?_
  ·rintro i _ h2 hi ⟨r1,r2,r3⟩ ih
   have hx:l[i]?=some l[i]:=List.getElem?_eq_getElem hi
   obtain⟨x1,x2⟩:=Ye (sz:=sz) hx
   have htk:(l.map (·.1)).take (i+1)=(l.map (·.1)).take i++ [l[i].1]:=by
    rw [List.take_add_one,List.getElem?_map,hx];rfl
   generalize hxe:l[i]=xx at*
   obtain⟨s,w⟩:=xx
   simp only at x1 x2 htk
   have lr:=r2.lt
   have kb2:=Ag r3 kb
   have rest: ∀lq,TSub (tms [(6,some (AI ((0:Nat):Int))),(5,some (AI ((i:Nat):Int))),(2,some (.ptr h.n 0)),(1,some (.slc gb 0 l.length (Aa+2)))]) (tms lq)→
     Good P0 E Q ⟨⟨38,cf38.ntmps,tms lq,[.code c38_28,.inBlock 2,.inBlock 1,.code c38_33,.inLoop c38_35,.inBlock 0,.code c38_57],[],.run,false,none⟩,x::cs,hp h2.n h2.t []⟩:=by
    intro lq ht
    refine Co L (α:= Unit) (T:=fun j _=> [(6,some (AI ((j:Nat):Int))),(5,some (AI ((i:Nat):Int))),(2,some (.ptr h.n 0)),(1,some (.slc gb 0 l.length (Aa+2)))]) (n:=i)
     (R:=fun j _ h3=>s∉(l.map (·.1)).take j∧K0 h2 h3) (i0:=0) () ht ⟨by simp,Kp.refl _⟩ (Nat.zero_le _) ?_ ?_
    ·rintro j _ h3 hj ⟨t1,t2⟩ ih2
     have hy:l[j]?=some l[j]:=List.getElem?_eq_getElem (by omega)
     obtain⟨y1,y2⟩:=Ye (sz:=sz) hy
     have htj:(l.map (·.1)).take (j+1)=(l.map (·.1)).take j++ [l[j].1]:=by
      rw [List.take_add_one,List.getElem?_map,hy];rfl
     have hin:l[j].1∈(l.map (·.1)).take i:=by
      rw [List.mem_take_iff_getElem]
      exact⟨j,by rw [List.length_map];omega,by rw [List.getElem_map]⟩
     generalize hye:l[j]=yy at*
     obtain⟨s',w'⟩:=yy
     simp only at y1 y2 htj hin
     have kb3:=Ag t2 kb2
     by_cases e:s'=s
     ·subst e
      refine wk ?_
      refine ret X.f38 ?_
      refine⟨?_,by exact Kp.tr0 (by exact kps) r3⟩
      have nn: ¬(l.map (·.1)).Nodup:=fun nn=>by
       have h1:=nn.sublist (List.take_sublist (i+1) _)
       rw [htk,List.nodup_append]at h1
       exact h1.2.2 s' hin s' (List.mem_singleton_self _) rfl
      unfold Dc
      rw [if_pos (.inr nn)];rfl
     ·refine wk ?_
      refine ih2 () _ _ ⟨?_,by exact kps⟩ tsb
      rw [htj];simp [t1,Ne.symm e]
    ·rintro _ h3 ⟨t1,t2⟩
     refine wk ?_
     refine ih () _ _ ⟨?_,?_,?_⟩ tsb
     ·rw [htk];exact J4 r1 t1
     ·exact Ag t2 r2
     ·exact Kp.tr0 t2 r3
   cases w with
   |none=>
    simp only [gwV]at x2
    refine wk ?_
    refine rest _ ?_
    exact tsb
   |some w=>
    simp only [gwV]at x2
    refine wk ?_
    refine rest _ ?_
    exact tsb
  ·rintro _ h2 ⟨r1,r2,r3⟩
   rw [show l.length=(l.map (·.1)).length from(List.length_map _).symm,List.take_length]at r1
   refine wk ?_
   refine Co L (α:= Unit) (T:=fun i _=> [(7,some (AI ((i:Nat):Int))),(2,some (.ptr h.n 0)),(1,some (.slc gb 0 l.length (Aa+2)))]) (n:=l.length)
    (R:=fun i _ h3=>(∀s∈(l.map (·.1)).take i,0≤s∧s<((Z.length:Nat):Int))∧K0 h2 h3) (i0:=0) () tsb ⟨by simp,Kp.refl _⟩ (Nat.zero_le _) ?_ ?_
   ·rintro i _ h3 hi ⟨t1,t2⟩ ih
    have hx:l[i]?=some l[i]:=List.getElem?_eq_getElem hi
    obtain⟨x1,x2⟩:=Ye (sz:=sz) hx
    have htk:(l.map (·.1)).take (i+1)=(l.map (·.1)).take i++ [l[i].1]:=by
     rw [List.take_add_one,List.getElem?_map,hx];rfl
    have hin:l[i].1∈l.map (·.1):=List.mem_map.2 ⟨l[i],List.getElem_mem hi,rfl⟩
    generalize hxe:l[i]=xx at*
    obtain⟨s,w⟩:=xx
    simp only at x1 x2 htk hin
    have r2':=Ag t2 r2
    have kb3:=Ag t2 (Ag r3 kb)
    have bad: ¬(0≤s∧s<((Z.length:Nat):Int))→Dc Z.length false (l.map (·.1))=3:=fun hb=>by
     unfold Dc
     rw [if_neg (by
                         rintro(e|e);· rw [e]at hin;cases hin
                         · exact e r1),if_pos ⟨s,hin,by omega⟩]
    by_cases c1:s<0
    ·refine wk ?_
     refine ret X.f38 ?_
     exact⟨by rw [bad (by omega)];rfl,Kp.tr0 (by exact kps) r3⟩
    ·by_cases c2:s<((Z.length:Nat):Int)
     ·refine wk ?_
      refine ih () _ _ ⟨?_,by exact kps⟩ tsb
      rw [htk]
      intro s' hs'
      rcases List.mem_append.1 hs' with h|h
      ·exact t1 s' h
      ·rw [List.mem_singleton]at h;subst h;omega
     ·refine wk ?_
      refine ret X.f38 ?_
      exact⟨by rw [bad (by omega)];rfl,Kp.tr0 (by exact kps) r3⟩
   ·rintro _ h3 ⟨t1,t2⟩
    rw [show l.length=(l.map (·.1)).length from(List.length_map _).symm,List.take_length]at t1
    refine wk ?_
    refine ret X.f38 ?_
    refine⟨?_,Kp.tr0 (by exact kps) r3⟩
    unfold Dc
    rw [if_neg (by
                       rintro(e|e);· have:=congrArg List.length e;rw [List.length_map]at this;simp only [List.length_nil]at this;omega
                       · exact e r1),if_neg (by rintro⟨s,hs,h⟩;have:=t1 s hs;omega),if_neg (by simp)]
    rfl
end
end
section
variable {P0:Program}{E:Env}{F:T CFn}{K:T (List AV×AV)}(L:Lg P0 E F K)(X:Fx F K)
include L X
omit L X in
theorem ni {c:List AV}{o:Nat}(h:o≤c.length):E7 [] c o=c:=by
 apply List.ext_getElem?
 intro i
 rw [Eo [] c o i (by simpa using h),if_neg (by simp only [List.length_nil];omega)]
omit L X in
theorem bw {xs c:List AV}(h:xs.length=c.length):E7 xs c 0=xs:=by
 apply List.ext_getElem?
 intro i
 rw [Eo xs c 0 i (by omega)]
 by_cases hi:i<xs.length
 ·rw [if_pos ⟨Nat.zero_le _,by omega⟩];rfl
 ·rw [if_neg (by omega),List.getElem?_eq_none (by omega),List.getElem?_eq_none (by omega)]
section
variable {Q:Nat→AV→Prop}
variable {fn nt:Nat}{l l':List (Nat×Option AV)}{k td':List AItem}{ds:List ADef}{dfd:Bool}{ro:Option Nat}{cs:List AFr}{gd:Option (Nat×Bool)}{r:List CI}
variable {n b o:Nat}{t:T Blk}{lh:List (Nat×Option Blk)}{x y:O}{c:List AV}
theorem np {d size dn dcap:Nat}(hg:gdO gd l=some true)(e:evO l x=some (.slc b o dn dcap))(e1:evO l y=some .nils)(hb:Bk (hp n t lh) b c)(ho:o≤c.length)
  (ha:adv 1000 (.ops r::k) ((d,some (.int .i64 ((0:Nat):Int)))::l)=(td',l')) (g:Good P0 E Q ⟨⟨fn,nt,tms l',td',ds,.run,dfd,ro⟩,cs,hp n t ((b,some (cl c))::lh)⟩):
  Good P0 E Q ⟨⟨fn,nt,tms l,.ops (⟨some d,gd,.copy size x y⟩::r)::k,ds,.run,dfd,ro⟩,cs,hp n t lh⟩:=by
 obtain⟨h',q1,q2⟩:=Kj (n:=n) (t:=t) (lh:=lh) (lv:= []) rfl hb.e (by simpa using ho) (ni ho)
 have hx:exec (.copy size x y) (hp n t lh) (tms l)= .val (.int .i64 ((0:Nat):Int)) h':=by
  have hm:Jj 0 dn=0:=by rw [I2];exact Nat.zero_min _
  have hce:cellsOf size 0 (hp n t lh) .nils=some []:=by cases size <;> rfl
  simp only [exec,Ae,Ab e,Ab e1,lenV,hm,hce,q1]
  rfl
 exact Kh L (Ax hg) hx (M8 L q2 (B6 L 1000 ha g))
end
def apW (sz:Nat)(δ: Nat→List Nat)(Z:List (List Nat))(l:List GW):List (List Nat):=l.foldl (fun Z x=>Z.set x.1.toNat ((x.2.map fun q=>δ q.1).getD (List.replicate sz 0))) Z
omit L X in
theorem Ji {sz:Nat}{δ: Nat→List Nat}: ∀(l:List GW) (Z:List (List Nat)),(apW sz δ Z l).length=Z.length
 | [],Z=>rfl
 |x::r,Z=>by show(apW sz δ (Z.set _ _) r).length=_;rw [Ji r,List.length_set]
omit L X in
theorem nq {sz:Nat}{δ: Nat→List Nat}{l:List GW}{x:GW}{Z:List (List Nat)}:apW sz δ Z (l++ [x])=(apW sz δ Z l).set x.1.toNat ((x.2.map fun q=>δ q.1).getD (List.replicate sz 0)):=by unfold apW;rw [List.foldl_append];rfl
structure DkS (h:H)(U:Nat→Prop)(lb sz:Nat)(Z:List (List Nat))(rows:List Nat):Prop where
 k:Bk h lb (rows.map fun b=>AV.slc b 0 sz sz)
 len:rows.length=Z.length
 r: ∀(i b:Nat) (d:List Nat),rows[i]?=some b→Z[i]?=some d→BS h b 0 d∧d.length=sz∧U b∧b≠lb
omit L X in
theorem DkS.dk {h:H}{U V:Nat→Prop}{lb sz:Nat}{Z:List (List Nat)}{rows:List Nat}(q:DkS h U lb sz Z rows)(hz:0<Z.length)(hl:V lb)(hu: ∀b,U b→V b):DkR h V (.slc lb 0 Z.length (Aa+1)) sz Z:=
 ⟨.inr ⟨hz,lb,rows,rfl,q.k,hl,q.len,fun i b d e1 e2=>let⟨g1,g2,g3,g4⟩:=q.r i b d e1 e2;⟨g1,g2,hu b g3,g4⟩⟩⟩
omit L X in
theorem DkS.kp {h h':H}{U B:Nat→Prop}{lb sz:Nat}{Z:List (List Nat)}{rows:List Nat}(q:DkS h U lb sz Z rows)(k:Kp B h h')(h1: ¬B lb)(hu: ∀b,U b→ ¬B b):DkS h' U lb sz Z rows:=
 ⟨As k h1 q.k,q.len,fun i b d e1 e2=>let⟨g1,g2,g3,g4⟩:=q.r i b d e1 e2;⟨T4 k (hu b g3) g1,g2,g3,g4⟩⟩
omit L X in
theorem DkS.set {h h':H}{U:Nat→Prop}{lb sz N j:Nat}{Z:List (List Nat)}{rows:List Nat}{d:List Nat}(q:DkS h U lb sz Z rows)(hk:Bk h' lb ((rows.map fun b=>AV.slc b 0 sz sz).set j (.slc N 0 sz sz)))(k:Kp (fun i=>i=lb) h h')(hd:BS h' N 0 d)(hl:d.length=sz)(hN:U N∧N≠lb):DkS h' U lb sz (Z.set j d) (rows.set j N):=by
 refine⟨by rw [List.map_set];exact hk,by rw [List.length_set,List.length_set,q.len],fun i b d' e1 e2=>?_⟩
 rw [List.getElem?_set]at e1 e2
 by_cases e:j=i
 ·rw [if_pos e]at e1 e2
  split at e1
  ·cases e1
   split at e2
   ·cases e2;exact⟨hd,hl,hN⟩
   ·cases e2
  ·cases e1
 ·rw [if_neg e]at e1 e2
  obtain⟨g1,g2,g3,g4⟩:=q.r i b d' e1 e2
  exact⟨T4 k g4 g1,g2,g3,g4⟩
section
variable {h:H}
theorem bz {V:Nat→Prop}{lo sz:Nat}{dv v:AV}{Z:List (List Nat)}{l:List GW}{δ: Nat→List Nat}(q:DkR h V dv sz Z)(hlo: ∀b,h.n≤b→V b)(hL:0<Z.length∧Z.length≤10)(g:GrR h lo v sz l δ)(hl:l.length≤6)(hsz:12≤sz∧sz≤30)(hr: ∀x∈l,0≤x.1∧x.1<((Z.length:Nat):Int)):
  Ct P0 E F K 39 [.agg [AI ((sz:Nat):Int),dv],v] h fun u h'=> ∃dv',u= .agg [AI ((sz:Nat):Int),dv']∧DkR h' V dv' sz (apW sz δ Z l)∧K0 h h':=by
 rcases q.ex with⟨rfl,rfl⟩|⟨-,lb,rows,rfl,q1,q2,q3,q4⟩
 ·exact absurd hL.1 (Nat.lt_irrefl _)
 have l1:=q1.lt
 refine Ad L X.f39 X.k39 rfl rfl fun Q x cs G=>?_
 refine wk ?_
 (apply st1 L rfl;exact xh (new:=rows.map fun b=>AV.slc b 0 sz sz) rfl rfl (SlR.of (c:=rows.map fun b=>AV.slc b 0 sz sz) lkp (by rw [Jf];omega) (by rw [List.drop_zero,List.take_of_length_le (by rw [Jf];omega)])) (by omega) (by omega);rfl)
 refine wk ?_
 have kk:K0 h (hp (h.n+1+1+1+1) h.t [(h.n,some (cl [AI ((sz:Nat):Int),.slc (h.n+1+1+1) 0 Z.length (Aa+1)])),(h.n+1+1+1,some (cl (rows.map fun b=>AV.slc b 0 sz sz))),(h.n+1+1,some (cl [])),(h.n+1,some (cl [AI ((0:Nat):Int),.nils])),(h.n,some (cl [AI ((sz:Nat):Int),.slc lb 0 Z.length (Aa+1)]))]):=kps
 have n9:=kk.n
 have S0:DkS (hp (h.n+1+1+1+1) h.t [(h.n,some (cl [AI ((sz:Nat):Int),.slc (h.n+1+1+1) 0 Z.length (Aa+1)])),(h.n+1+1+1,some (cl (rows.map fun b=>AV.slc b 0 sz sz))),(h.n+1+1,some (cl [])),(h.n+1,some (cl [AI ((0:Nat):Int),.nils])),(h.n,some (cl [AI ((sz:Nat):Int),.slc lb 0 Z.length (Aa+1)]))]) (fun b=>V b∧b≠h.n∧b≠h.n+1) (h.n+1+1+1) sz Z rows:=
  ⟨lkp,q3,fun i b d e1 e2=>let⟨g1,g2,g3,_⟩:=q4 i b d e1 e2;⟨g1.k0 kk,g2,⟨g3,by have:=g1.lt_n;omega,by have:=g1.lt_n;omega⟩,by have:=g1.lt_n;omega⟩⟩
 rcases g.ex with⟨rfl,rfl⟩|⟨h1,gb,rfl,kb,h4,h5⟩
 ·refine A2 L ?_
  refine wk ?_
  refine ret X.f39 ?_
  refine⟨_,rfl,(S0.kp (B:=fun j=>j=h.n+1) ?_ (by omega) fun b e=>by omega).dk hL.1 (hlo _ (by omega)) fun b e=>e.1,kps⟩
  exact kps
 ·have lgb:=kb.lt
  refine Co L (α:= List Nat) (T:=fun i _=> [(5,some (AI ((i:Nat):Int))),(4,some (.ptr (h.n+1) 0)),(2,some (.ptr h.n 0)),(1,some (.slc gb 0 l.length (Aa+2)))]) (n:=l.length)
   (R:=fun i rz h2=>DkS h2 (fun b=>V b∧b≠h.n∧b≠h.n+1) (h.n+1+1+1) sz (apW sz δ Z (l.take i)) rz∧Bk h2 h.n [AI ((sz:Nat):Int),.slc (h.n+1+1+1) 0 Z.length (Aa+1)]∧Bk h2 (h.n+1) [AI ((0:Nat):Int),.nils]∧K0 h h2) (i0:=0) rows tsb ⟨S0,lkp,lkp,kps⟩ (Nat.zero_le _) ?_ ?_
  ·rintro i rz h2 hi ⟨r1,r2,r3,r4⟩ ih
   have hx:l[i]?=some l[i]:=List.getElem?_eq_getElem hi
   obtain⟨x1,x2⟩:=Ye (sz:=sz) hx
   have htk:l.take (i+1)=l.take i++ [l[i]]:=by rw [List.take_add_one,hx];rfl
   obtain⟨s1,s2⟩:=hr _ (List.getElem_mem hi)
   generalize hxe:l[i]=xx at*
   obtain⟨s,w⟩:=xx
   simp only at x1 x2 s1 s2
   obtain⟨j,rfl⟩:=Int.eq_ofNat_of_zero_le s1
   have lr2:=r2.lt
   have lr3:=r3.lt
   have lk1:=r1.k.lt
   have n4:=r4.n
   have kb2:=Ag r4 kb
   have r1k:=r1.k
   have hap:apW sz δ Z (l.take (i+1))=(apW sz δ Z (l.take i)).set j ((w.map fun q=>δ q.1).getD (List.replicate sz 0)):=by rw [htk,nq];rfl
   have hln:=r1.len
   rw [Ji]at hln
   cases w with
   |none=>
    simp only [gwV]at x2
    refine wk ?_
    refine np L X (b:=h2.n) (o:=0) (c:=rl [.int .u8 ((0:Nat):Int)] sz) rfl rfl rfl (by exact lkp) (Nat.zero_le _) rfl ?_
    refine wk ?_
    (apply jf L rfl rfl rfl rfl rfl rfl;exact lkp;(rw [Jf];omega);refine B6 L 1000 rfl ?_)
    refine wk ?_
    refine ih (rz.set j h2.n) _ _ ⟨?_,by exact lkp,by exact lkp,kps⟩ tsb
    rw [hap]
    refine r1.set (h:=h2) (d:=List.replicate sz 0) (by exact lkp) kps (Mv ?_ (AllB.rep (by omega))) List.length_replicate ⟨⟨hlo _ (by omega),by omega,by omega⟩,by omega⟩
    rw [←Fc]
    exact lkp
   |some w=>
    obtain⟨b,o,c⟩:=w
    simp only [gwV]at x2
    obtain⟨g1,g2,g3,rfl,rfl,g6⟩:=h5 i _ b o c hx
    have lb1:=g1.lt_n
    refine wk ?_
    refine qy L (lv:=B5 (δ b)) (cs1:=B5 (δ b)) rfl rfl rfl (BS.slr (by exact lkb) g2) lkp (by omega) (D9 _) (by rw [F3,g2,Fc,F3,List.length_replicate];omega) (by rw [F3];omega) (bw (by rw [F3,g2,Fc,F3,List.length_replicate])) rfl ?_
    refine wk ?_
    (apply jf L rfl rfl rfl rfl rfl rfl;exact lkp;(rw [Jf];omega);refine B6 L 1000 rfl ?_)
    refine wk ?_
    refine ih (rz.set j h2.n) _ _ ⟨?_,by exact lkp,by exact lkp,kps⟩ tsb
    rw [hap]
    refine r1.set (h:=h2) (d:=δ b) (by exact lkp) kps (Mv ?_ g1.all) g2 ⟨⟨hlo _ (by omega),by omega,by omega⟩,by omega⟩
    exact lkp
  ·rintro rz h2 ⟨r1,r2,r3,r4⟩
   rw [List.take_length]at r1
   have lr2:=r2.lt
   have lr3:=r3.lt
   refine wk ?_
   refine ret X.f39 ?_
   have fin:=DkS.dk (V:=V) (r1.kp (h':=hp h2.n h2.t [(h.n+1,some (cl [AI ((sz:Nat):Int),.slc (h.n+1+1+1) 0 Z.length (Aa+1)]))]) (B:=fun j=>j=h.n+1) kps (by omega) fun b e=>by omega) (by rw [Ji];exact hL.1) (hlo _ (by omega)) fun b e=>e.1
   rw [Ji]at fin
   exact⟨_,rfl,fin,kps⟩
end
end
section
variable {P0:Program}{E:Env}{F:T CFn}{K:T (List AV×AV)}(L:Lg P0 E F K)(X:Fx F K)
include L X
structure Pl (S:Ap)(k:Nat)(Z:List (List Nat)):Prop where
 inv:AInv S
 bd:Bd S k
 len:Z.length=S.S
 rd: ∀(i:Nat) (d:List Nat),Z[i]?=some d→S.rd ((i:Nat):Int)=d
section
variable {h:H}
theorem Eg {e:Int}:Ct P0 E F K 17 [AI e] h fun v h'=>v=AI e∧h'=h:=by
 refine Al L X.f17 X.k17 rfl rfl fun Q x cs G=>?_
 refine wk ?_
 refine ret X.f17 ?_
 exact⟨rfl,rfl⟩
end
section
variable {l:List (Nat×Option AV)}{h:H}{x y:O}{q:Bool}
end
omit L X in
theorem AChg.bk {κ κ':Nat→Nat}{h h':H}{b:Nat}{c:List AV}(q:AChg κ h κ' h')(k:Bk h b c)(hc:κ b=0):Bk h' b c∧κ' b=0:=⟨As q.k (by omega) k,(q.col b k.lt).trans hc⟩
section
variable {h:H}{κ: Nat→Nat}{I:Ai}{S:Ap}
theorem K5 {ab e:Nat}(r:ApR κ h I S)(ka:Bk h ab [.ptr I.s 0])(he:e=0∨e=7∧frees S=0):
  Ct P0 E F K 16 [.ptr ab 0,AI ((e:Nat):Int)] h (fun v h'=> ∃κ',v= .bool true∧ApR κ' h' I S∧AChg κ h κ' h'):=by
 rcases he with rfl|⟨rfl,hf⟩
 ·refine Ad L X.f16 X.k16 rfl rfl fun Q x cs G=>?_
  refine wk ?_
  refine cal (c:=Eg L X) (g:=?_)
  rintro _ rfl
  refine wk ?_
  refine ret X.f16 ?_
  exact⟨κ,rfl,r,AChg.refl _ _⟩
 ·refine Ad L X.f16 X.k16 rfl rfl fun Q x cs G=>?_
  refine wk ?_
  refine cal (c:=Eg L X) (g:=?_)
  rintro _ rfl
  refine wk ?_
  refine cal (c:=Su L X r ka) (g:=?_)
  rintro _ h2 ⟨κ',rfl,r',a'⟩
  rw [hf]
  refine wk ?_
  refine ret X.f16 ?_
  exact⟨κ',rfl,r',a'⟩
end
end
section
variable {P0:Program}{E:Env}{F:T CFn}{K:T (List AV×AV)}(L:Lg P0 E F K)(X:Fx F K)
include L X
omit L X in
theorem AChg.fw {κ κ':Nat→Nat}{h h':H}(q:AChg κ h κ' h'):Fw κ h κ' h':=⟨q.k.n,fun b hb hc=>q.k.old b hb (by omega),q.col⟩
omit L X in
theorem AChg.b2 {κ κ':Nat→Nat}{h h':H}{b:Nat}{c:List AV}(q:AChg κ h κ' h')(k:Bk h b c)(hc:κ b=200):Bk h' b c∧κ' b=200:=⟨As q.k (by omega) k,(q.col b k.lt).trans hc⟩
omit L X in
theorem AChg.dk {κ κ':Nat→Nat}{h h':H}{sz:Nat}{v:AV}{Z:List (List Nat)}(a:AChg κ h κ' h')(q:DkR h (fun b=>κ b=0) v sz Z):DkR h' (fun b=>κ' b=0) v sz Z:=
 ((q.mono fun b hb u=>⟨hb,u⟩:DkR h (fun b=>b<h.n∧κ b=0) v sz Z).kp a.k fun b e _ u=>by omega).mono fun b _ u=>(a.col b u.1).trans u.2
omit L X in
theorem Yf {sz:Nat}{δ: Nat→List Nat}: ∀(l:List GW) (Z:List (List Nat)),(l.map (·.1)).Nodup→(∀x∈l,0≤x.1∧x.1<((Z.length:Nat):Int))→
  (∀i:Nat,((i:Nat):Int)∉l.map (·.1)→(apW sz δ Z l)[i]?=Z[i]?)∧ ∀x∈l,(apW sz δ Z l)[x.1.toNat]?=some ((x.2.map fun q=>δ q.1).getD (List.replicate sz 0))
 | [],Z,_,_=>⟨fun _ _=>rfl,fun x hx=>by cases hx⟩
 |y::r,Z,hn,hr=>by
  rw [List.map_cons,List.nodup_cons]at hn
  obtain⟨h1,h2⟩:=Yf r (Z.set y.1.toNat ((y.2.map fun q=>δ q.1).getD (List.replicate sz 0))) hn.2 fun x hx=>by rw [List.length_set];exact hr x (List.mem_cons_of_mem _ hx)
  obtain⟨y1,y2⟩:=hr y (List.mem_cons_self ..)
  refine⟨fun i hi=>?_,fun x hx=>?_⟩
  ·rw [List.map_cons,List.mem_cons,not_or]at hi
   show(apW sz δ (Z.set y.1.toNat _) r)[i]?=_
   rw [h1 i hi.2,List.getElem?_set_ne (fun e=>hi.1 (by omega))]
  ·rcases List.mem_cons.1 hx with rfl|hx
   ·show(apW sz δ (Z.set x.1.toNat _) r)[x.1.toNat]?=_
    rw [h1 _ (fun e=>hn.1 (by rw [Int.toNat_of_nonneg y1]at e;exact e)),List.getElem?_set_self (by omega)]
   ·exact h2 x hx
omit L X in
theorem Yg {S:Nat}{d:Bool}{l:List Int}(h:Dc S d l=0):l.Nodup∧l≠[]:=by
 unfold Dc at h
 by_cases e:l= []∨ ¬l.Nodup
 ·rw [if_pos e]at h;cases h
 ·exact⟨Decidable.byContradiction fun q=>e (.inr q),fun q=>e (.inl q)⟩
omit L X in
theorem Yh {δ: Nat→List Nat}{l:List GW}{s:Int}{d:Option (List Nat)}(h:(s,d)∈gpl δ l): ∃x∈l,x.1=s∧d=x.2.map fun q=>δ q.1:=by
 obtain⟨x,h1,h2⟩:=List.mem_map.1 h
 cases h2
 exact⟨x,h1,rfl,rfl⟩
omit L X in
theorem K6 (δ: Nat→List Nat)(l:List GW):(gpl δ l).map (·.1)=l.map (·.1):=by unfold gpl;rw [List.map_map];rfl
omit L X in
theorem Pl.append {S S':Ap}{k:Nat}{Z:List (List Nat)}{l:List GW}{δ: Nat→List Nat}{o:WO}(p:Pl S k Z)(hl:l.length≤6)(hd: ∀(i:Nat) (s:Int) (b o c:Nat),l[i]?=some (s,some (b,o,c))→(δ b).length=S.D.sz)(hc:Dc S.S S.down (l.map (·.1))=0)(a:ApdP (gpl δ l) S S' o):
  Sm S S'∧(o= .done 0→Pl S' (k+1000) (apW S.D.sz δ Z l))∧(o≠ .done 0→o= .full∧frees S'=0∧Pl S' (k+1000) Z):=by
 have hr: ∀y∈gpl δ l,0≤y.1∧y.1<((S.S:Nat):Int):=fun y hy=>Jg hc y.1 (by rw [←K6 δ l];exact List.mem_map.2 ⟨y,hy,rfl⟩)
 have hn:((gpl δ l).map (·.1)).Nodup:=by rw [K6];exact(Yg hc).1
 have hrl: ∀x∈l,0≤x.1∧x.1<((Z.length:Nat):Int):=fun x hx=>by rw [p.len];exact Jg hc x.1 (List.mem_map.2 ⟨x,hx,rfl⟩)
 obtain⟨q',k',h1,h2,-⟩:=a.inv p.inv hr
 have sm:=a.sm p.inv
 have bd:=a.bd p.inv p.bd (by unfold gpl;rw [List.length_map];exact hl)
 refine⟨sm,fun ho=>?_,fun ho=>?_⟩
 ·subst ho
  have hdl: ∀s d,(s,some d)∈gpl δ l→d.length=S.D.sz:=fun s d hm=>by
   obtain⟨x,x1,x2,x3⟩:=Yh hm
   obtain⟨i,hi,ei⟩:=List.getElem_of_mem x1
   obtain⟨s',w⟩:=x
   cases w with
   |none=>cases x3
   |some w=>
    obtain⟨b,o,c⟩:=w
    cases x3
    exact hd i s' b o c (by rw [List.getElem?_eq_getElem hi,ei])
  obtain⟨r1,r2,r3⟩:=a.rd p.inv hr hn hdl
  obtain⟨g1,g2⟩:=Yf (sz:=S.D.sz) (δ:= δ) l Z (Yg hc).1 hrl
  refine⟨q',bd,by rw [Ji,p.len,sm.secs],fun i d hi=>?_⟩
  by_cases hk:((i:Nat):Int)∈l.map (·.1)
  ·obtain⟨x,x1,x2⟩:=List.mem_map.1 hk
   have h3:=g2 x x1
   rw [x2,Int.toNat_natCast,hi]at h3
   cases h3
   obtain⟨s',w⟩:=x
   simp only at x2
   subst x2
   cases w with
   |none=>exact r3 _ (List.mem_map.2 ⟨_,x1,rfl⟩)
   |some w=>exact r2 _ _ (List.mem_map.2 ⟨_,x1,rfl⟩)
  ·rw [g1 i hk]at hi
   rw [r1 _ (by rw [K6];exact hk)]
   exact p.rd i d hi
 ·have hof:o= .full:=by
   cases a with
   |ok _ _=>exact absurd rfl ho
   |bad _ h=>rcases h with e|e;exact e;exact absurd e h1
   |bad2 _ _ h=>rcases h with e|e;exact e;exact absurd e h1
  obtain⟨f1,f2⟩:=h2 hof
  refine⟨hof,Sv fun i hi=>f1 i (by rw [←sm.nb];exact hi),q',bd,by rw [p.len,sm.secs],fun i d hi=>?_⟩
  rw [Hv p.inv k' ⟨sm.P,sm.sz⟩ (by rw [f2])]
  exact p.rd i d hi
omit L X in
theorem Pl.same {S S':Ap}{k k':Nat}{Z:List (List Nat)}(p:Pl S k Z)(q:AInv S')(s:Sm S S')(b:Bd S' k')(h: ∀s,S'.rd s=S.rd s):Pl S' k' Z:=
 ⟨q,b,by rw [p.len,s.secs],fun i d hi=>by rw [h];exact p.rd i d hi⟩
omit L X in
theorem Pl.mono {S:Ap}{k k':Nat}{Z:List (List Nat)}(p:Pl S k Z)(h:k≤k'):Pl S k' Z:=⟨p.inv,p.bd.mono h,p.len,p.rd⟩
end
section
variable {P0:Program}{E:Env}{F:T CFn}{K:T (List AV×AV)}(L:Lg P0 E F K)(X:Fx F K)
include L X
structure AS (κ: Nat→Nat)(h:H)(I:Ai)(S:Ap)(ab:Nat)(dv:AV)(sz:Nat)(Z:List (List Nat))(sv:AV)(secs:List Int):Prop where
 r:ApR κ h I S
 ka:Bk h ab [.ptr I.s 0]
 ca:κ ab=0
 q:DkR h (fun b=>κ b=0) dv sz Z
 qs:IntsR κ h sv secs
omit L X in
theorem AS.chg {κ κ':Nat→Nat}{h h':H}{I:Ai}{S S':Ap}{ab sz:Nat}{dv sv:AV}{Z:List (List Nat)}{secs:List Int}(w:AS κ h I S ab dv sz Z sv secs)(a:AChg κ h κ' h')(r:ApR κ' h' I S'):AS κ' h' I S' ab dv sz Z sv secs:=
 ⟨r,(a.bk w.ka w.ca).1,(a.bk w.ka w.ca).2,a.dk w.q,w.qs.fw a.fw⟩
omit L X in
theorem AS.own {κ: Nat→Nat}{h h':H}{I:Ai}{S:Ap}{ab sz:Nat}{dv sv:AV}{Z:List (List Nat)}{secs:List Int}{B:Nat→Prop}(w:AS κ h I S ab dv sz Z sv secs)(k:Kp B h h')(hb: ∀b,b<h.n→B b→κ b=200):AS κ h' I S ab dv sz Z sv secs:=
 ⟨w.r.out k fun b hl e=>by rw [hb b hl e];exact Nat.le_refl _,As k (fun e=>by have:=hb _ w.ka.lt e;rw [w.ca]at this;omega) w.ka,w.ca,w.q.kp k fun b e hl u=>by have:=hb b hl e;omega,w.qs.fw (k.fw fun b hl e=>by have:=hb b hl e;omega)⟩
omit L X in
theorem AS.disk {κ: Nat→Nat}{h:H}{I:Ai}{S:Ap}{ab sz:Nat}{dv dv' sv:AV}{Z Z':List (List Nat)}{secs:List Int}(w:AS κ h I S ab dv sz Z sv secs)(q:DkR h (fun b=>κ b=0) dv' sz Z'):AS κ h I S ab dv' sz Z' sv secs:=⟨w.r,w.ka,w.ca,q,w.qs⟩
omit L X in
theorem GrR.chg {κ κ':Nat→Nat}{h h':H}{lo sz:Nat}{v:AV}{l:List GW}{δ: Nat→List Nat}(q:GrR h lo v sz l δ)(a:AChg κ h κ' h')(hc: ∀b,lo≤b→κ b=0):GrR h' lo v sz l δ:= by
 rcases q.ex with h1|⟨h1,gb,h2,h3,h4,h5⟩
 ·exact⟨.inl h1⟩
 ·exact⟨.inr ⟨h1,gb,h2,(a.bk h3 (hc gb h4)).1,h4,fun i s b o c e=>let⟨g1,g2,g3,g4⟩:=h5 i s b o c e;⟨(a.bs g1 (hc b g3)).1,g2,g3,g4⟩⟩⟩
omit L X in
theorem AS.chgX {κ κ':Nat→Nat}{h h':H}{I:Ai}{S S':Ap}{ab sz:Nat}{dv sv:AV}{Z:List (List Nat)}{secs:List Int}{Y:Nat→Prop}(w:AS κ h I S ab dv sz Z sv secs)(a:AChX Y κ h κ' h')(hY: ∀b,b<h.n→Y b→κ b=200)(r:ApR κ' h' I S'):AS κ' h' I S' ab dv sz Z sv secs:=
 have nb: ∀b,b<h.n→κ b=0→ ¬((1≤κ b∧κ b<200)∨Y b):=fun b hl hc e=>by
  rcases e with e|e
  ·omega
  ·have:=hY b hl e;omega
 ⟨r,As a.k (nb _ w.ka.lt w.ca) w.ka,(a.col _ w.ka.lt).trans w.ca,((w.q.mono fun b hb u=>⟨hb,u⟩:DkR h (fun b=>b<h.n∧κ b=0) dv sz Z).kp a.k fun b e hl u=>nb b hl u.2 e).mono fun b _ u=>(a.col b u.1).trans u.2,w.qs.fw ⟨a.k.n,fun b hb hc=>a.k.old b hb (nb b hb hc),a.col⟩⟩
omit L X in
theorem AChX.comp {κ κ1 κ2:Nat→Nat}{h h1 h2:H}{Y Y':Nat→Prop}(a:AChg κ h κ1 h1)(x:AChX Y κ1 h1 κ2 h2)(hY: ∀b,b<h.n→Y b→Y' b):AChX Y' κ h κ2 h2:=
 ⟨Kp.trS x.k (fun i hi e=>by
   rcases e with e|e
   ·rw [a.col i hi]at e;exact .inl e
   ·exact .inr (hY i hi e)) (a.k.mono fun b e=> .inl e),fun b hb=>(x.col b (Nat.lt_of_lt_of_le hb a.k.n)).trans (a.col b hb)⟩
omit L X in
theorem AChX.comp2 {κ κ1 κ2:Nat→Nat}{h h1 h1' h2:H}{B Y Y':Nat→Prop}(a:AChg κ h κ1 h1)(k:Kp B h1 h1')(x:AChX Y κ1 h1' κ2 h2)(hB: ∀b,b<h.n→B b→Y' b)(hY: ∀b,b<h.n→Y b→Y' b):AChX Y' κ h κ2 h2:=
 ⟨Kp.trS x.k (fun i hi e=>by
   rcases e with e|e
   ·rw [a.col i hi]at e;exact .inl e
   ·exact .inr (hY i hi e)) (Kp.trS k (fun i hi e=> .inr (hB i hi e)) (a.k.mono fun b e=> .inl e)),fun b hb=>(x.col b (Nat.lt_of_lt_of_le (Nat.lt_of_lt_of_le hb a.k.n) k.n)).trans (a.col b hb)⟩
section
variable {h:H}{κ: Nat→Nat}{I:Ai}{S:Ap}
theorem Yi {n0 e sz lb m:Nat}{lq:List (Nat×Option AV)}{Q:Nat→AV→Prop}{x:AFr}{cs:List AFr}(he:e≠0)(k6:Bk h n0 [AI ((sz:Nat):Int),.slc lb 0 m (Aa+1)])(k10:Bk h (n0+1+1) [AI ((0:Nat):Int),.nils])
  (ht:TSub (tms [(40,some (AI ((e:Nat):Int))),(14,some (AI ((e:Nat):Int))),(10,some (.ptr (n0+1+1) 0)),(6,some (.ptr n0 0))]) (tms lq))
  (G: ∀v h',v= .tup [.agg [AI ((sz:Nat):Int),.slc lb 0 m (Aa+1)],.bool true]∧Kp (fun j=>j=n0+1+1) h h'→GO P0 E Q (finish v cs h' x)):
  Good P0 E Q ⟨⟨11,cf11.ntmps,tms lq,[.ops [Cv 15 40],.code c11_18,.inBlock 0,.code c11_61],[],.run,false,none⟩,x::cs,hp h.n h.t []⟩:=by
 refine E0 L ht ?_
 have l6:=k6.lt
 have l10:=k10.lt
 refine wk ?_
 refine cal (c:=Eg L X) (g:=?_)
 rintro _ rfl
 refine wk ?_
 (apply Mw L rfl rfl rfl rfl rfl rfl rfl;exact lkp;rfl;intro h9 hs9;(repeat(first|(apply Cp rfl rfl;exact opv)|(apply Se rfl rfl)));(first|(apply p_0;exact chk)|(refine Pc L ?_ rfl ?_;exact chk));refine M8 L hs9 ?_)
 refine wk ?_
 refine ret X.f11 ?_
 exact⟨rfl,kps⟩
theorem Uv {ab n0 e sz lb m:Nat}{lq:List (Nat×Option AV)}{Q:Nat→AV→Prop}{x:AFr}{cs:List AFr}(r:ApR κ h I S)(ka:Bk h ab [.ptr I.s 0])(he:e=0∨e=7∧frees S=0)(k6:Bk h n0 [AI ((sz:Nat):Int),.slc lb 0 m (Aa+1)])(k10:Bk h (n0+1+1) [AI ((0:Nat):Int),.nils])(c6:κ n0=200)(c10:κ (n0+1+1)=200)
  (ht:TSub (tms [(15,some (AI ((e:Nat):Int))),(10,some (.ptr (n0+1+1) 0)),(6,some (.ptr n0 0)),(0,some (.ptr ab 0))]) (tms lq))
  (G: ∀v h',(∃κ',v= .tup [.agg [AI ((sz:Nat):Int),.slc lb 0 m (Aa+1)],.bool true]∧ApR κ' h' I S∧AChX (fun j=>j=n0+1+1) κ h κ' h')→GO P0 E Q (finish v cs h' x)):
  Good P0 E Q ⟨⟨11,cf11.ntmps,tms lq,[.code c11_15,.code .ret,.inBlock 0,.code c11_61],[],.run,false,none⟩,x::cs,hp h.n h.t []⟩:=by
 refine E0 L ht ?_
 have l6:=k6.lt
 have l10:=k10.lt
 refine wk ?_
 refine cal (c:=K5 L X r ka he) (g:=?_)
 rintro _ h2 ⟨κ2,rfl,r2,a2⟩
 obtain⟨k6',c6'⟩:=a2.b2 k6 c6
 obtain⟨k10',c10'⟩:=a2.b2 k10 c10
 have l6:=k6'.lt
 have l10:=k10'.lt
 refine wk ?_
 (apply Mw L rfl rfl rfl rfl rfl rfl rfl;exact lkp;rfl;intro h9 hs9;(repeat(first|(apply Cp rfl rfl;exact opv)|(apply Se rfl rfl)));(first|(apply p_0;exact chk)|(refine Pc L ?_ rfl ?_;exact chk));refine M8 L hs9 ?_)
 refine wk ?_
 refine ret X.f11 ?_
 refine⟨κ2,rfl,r2.out (B:=fun j=>j=n0+1+1) ?_ (fun b _ e=>by subst e;omega),⟨Kp.trS (S':=fun j=>j=n0+1+1) ?_ (fun i _ e=> .inr e) (a2.k.mono fun b e=> .inl e),a2.col⟩⟩
 ·exact kps
 ·exact kps
end
end
section
variable {P0:Program}{E:Env}{F:T CFn}{K:T (List AV×AV)}(L:Lg P0 E F K)(X:Fx F K)
include L X
omit L X in
def Ap.cand (S:Ap)(y:Int):Prop:= ∃b:Nat,y=((b:Nat):Int)∧b<S.D.nb∧S.ps b=3∧S.jr ((b:Nat):Int)=false
omit L X in
theorem Ek {S:Ap}{b:Nat}: ∀n,b∈S.cds n↔b<n∧S.ps b=3∧S.jr ((b:Nat):Int)=false
 |0=>by simp [Ap.cds]
 |n+1=>by
  simp only [Ap.cds]
  split
  ·rename_i h
   rw [List.mem_append,List.mem_singleton,Ek n]
   constructor
   ·rintro(⟨h1,h2⟩|rfl)
    ·exact⟨by omega,h2⟩
    ·exact⟨by omega,h⟩
   ·rintro⟨h1,h2⟩
    by_cases e:b=n
    ·exact .inr e
    ·exact .inl ⟨by omega,h2⟩
  ·rename_i h
   rw [Ek n]
   constructor
   ·rintro⟨h1,h2⟩;exact⟨by omega,h2⟩
   ·rintro⟨h1,h2⟩
    have:b≠n:=fun e=>by subst e;exact h h2
    exact⟨by omega,h2⟩
omit L X in
theorem Pl.move {S S':Ap}{k e:Nat}{y:Int}{Z:List (List Nat)}(p:Pl S k Z)(ok:S.D.Ok)(m:MoveO y S e S'):
  Sm S S'∧Pl S' (k+1000) Z∧((e=0∨e=7∧frees S'=0)∧S.cand y∨e=3∧ ¬(0≤y∧y<((S.D.nb:Nat):Int))∨e=8∧(0≤y∧y<((S.D.nb:Nat):Int))∧ ¬S.cand y):=by
 cases m with
 |rng h=>exact⟨⟨rfl,rfl,rfl,rfl,rfl⟩,p.mono (by omega),.inr (.inl ⟨rfl,h⟩)⟩
 | @st b e hb h=>
  refine⟨⟨rfl,rfl,rfl,rfl,rfl⟩,p.mono (by omega),.inr (.inr ⟨rfl,⟨by omega,by omega⟩,?_⟩)⟩
  rintro⟨b',e',h1,h2,h3⟩
  have:b'=b:=by omega
  subst this
  rcases h with h|h
  ·exact h h2
  ·rw [h3]at h;cases h
 | @run b S' o e hb h1 h2 ho m=>
  obtain⟨q',sm,bd,hp,hf,hrd⟩:=m.inv p.inv ok p.bd hb h1 h2
  refine⟨sm,p.same q' sm bd hrd,.inl ⟨?_,b,e,hb,h1,h2⟩⟩
  rcases ho with rfl|rfl|rfl
  ·exact .inl rfl
  ·exact .inr ⟨rfl,Sv fun i hi=>hf rfl i (by rw [←sm.nb];exact hi)⟩
  ·exact absurd rfl hp
omit L X in
theorem Pl.ck {S S':Ap}{k:Nat}{o:WO}{Z:List (List Nat)}(p:Pl S k Z)(hS:S.S≤10)(ho:o= .done 0∨o= .full∨o= .pow)(m:CkO S S' o):Sm S S'∧Pl S' (k+1000) Z∧(eOf o=0∨eOf o=7∧frees S'=0):=by
 obtain⟨q',sm,bd,hp,hf,hrd⟩:=m.inv p.inv p.bd hS
 refine⟨sm,p.same q' sm bd hrd,?_⟩
 rcases ho with rfl|rfl|rfl
 ·exact .inl rfl
 ·exact .inr ⟨rfl,Sv fun i hi=>hf rfl i (by rw [←sm.nb];exact hi)⟩
 ·exact absurd rfl hp
section
variable {h:H}{κ: Nat→Nat}{I:Ai}{S:Ap}
end
section
variable {h:H}{κ: Nat→Nat}{I:Ai}{S:Ap}
end
end
section
variable {P0:Program}{E:Env}{F:T CFn}{K:T (List AV×AV)}(L:Lg P0 E F K)(X:Fx F K)
include L X
structure Pres (J:Ap→Prop):Prop where
 app: ∀{l:List (Int×Option (List Nat))} {S S':Ap} {o:WO} {k:Nat},ApdP l S S' o→AInv S→Bd S k→S.S≤10→(∀s d,(s,some d)∈l→d.length=S.D.sz∧0≤s∧s<S.S)→J S→J S'
 mov: ∀{S S':Ap} {b:Nat} {o:WO} {k:Nat},MovO b S S' o→AInv S→S.D.Ok→Bd S k→S.S≤10→b<S.D.nb→S.ps b=3→S.jr ((b:Nat):Int)=false→J S→J S'
 ck: ∀{S S':Ap} {o:WO} {k:Nat},CkO S S' o→AInv S→Bd S k→S.S≤10→J S→J S'
structure PlG (J:Ap→Prop)(S:Ap)(k:Nat)(Z:List (List Nat)):Prop extends Pl S k Z where
 ev:J S
 pr:Pres J
 hS:S.S≤10
omit L X in
theorem PlG.append {J:Ap→Prop}{S S':Ap}{k:Nat}{Z:List (List Nat)}{l:List GW}{δ: Nat→List Nat}{o:WO}(p:PlG J S k Z)(hl:l.length≤6)(hd: ∀(i:Nat) (s:Int) (b o c:Nat),l[i]?=some (s,some (b,o,c))→(δ b).length=S.D.sz)(hc:Dc S.S S.down (l.map (·.1))=0)(a:ApdP (gpl δ l) S S' o):
  Sm S S'∧(o= .done 0→PlG J S' (k+1000) (apW S.D.sz δ Z l))∧(o≠ .done 0→o= .full∧frees S'=0∧PlG J S' (k+1000) Z):=by
 obtain⟨sm,h1,h2⟩:=p.toPl.append hl hd hc a
 have e:J S':=p.pr.app a p.inv p.bd p.hS (fun s d hm=>by
  obtain⟨x,x1,x2,x3⟩:=Yh hm
  have hr:=Jg hc x.1 (List.mem_map.2 ⟨x,x1,rfl⟩)
  obtain⟨i,hi,ei⟩:=List.getElem_of_mem x1
  obtain⟨s',w⟩:=x
  simp only at x2
  subst x2
  cases w with
  |none=>cases x3
  |some w=>
   obtain⟨b,o,c⟩:=w
   cases x3
   exact⟨hd i s' b o c (by rw [List.getElem?_eq_getElem hi,ei]),hr⟩) p.ev
 exact⟨sm,fun ho=>⟨h1 ho,e,p.pr,by rw [sm.secs];exact p.hS⟩,fun ho=>let⟨a1,a2,a3⟩:=h2 ho;⟨a1,a2,a3,e,p.pr,by rw [sm.secs];exact p.hS⟩⟩
omit L X in
theorem PlG.mono {J:Ap→Prop}{S:Ap}{k k':Nat}{Z:List (List Nat)}(p:PlG J S k Z)(h:k≤k'):PlG J S k' Z:=⟨p.toPl.mono h,p.ev,p.pr,p.hS⟩
omit L X in
theorem PlG.move {J:Ap→Prop}{S S':Ap}{k e:Nat}{y:Int}{Z:List (List Nat)}(p:PlG J S k Z)(ok:S.D.Ok)(m:MoveO y S e S'):
  Sm S S'∧PlG J S' (k+1000) Z∧((e=0∨e=7∧frees S'=0)∧S.cand y∨e=3∧ ¬(0≤y∧y<((S.D.nb:Nat):Int))∨e=8∧(0≤y∧y<((S.D.nb:Nat):Int))∧ ¬S.cand y):=by
 obtain⟨sm,h1,h2⟩:=p.toPl.move ok m
 refine⟨sm,⟨h1,?_,p.pr,by rw [sm.secs];exact p.hS⟩,h2⟩
 cases m with
 |rng h=>exact p.ev
 |st hb h=>exact p.ev
 | @run _ _ _ _ hb g1 g2 ho m=>exact p.pr.mov m p.inv ok p.bd p.hS hb g1 g2 p.ev
omit L X in
theorem PlG.ck {J:Ap→Prop}{S S':Ap}{k:Nat}{o:WO}{Z:List (List Nat)}(p:PlG J S k Z)(hS:S.S≤10)(ho:o= .done 0∨o= .full∨o= .pow)(m:CkO S S' o):Sm S S'∧PlG J S' (k+1000) Z∧(eOf o=0∨eOf o=7∧frees S'=0):=by
 obtain⟨sm,h1,h2⟩:=p.toPl.ck hS ho m
 exact⟨sm,⟨h1,p.pr.ck m p.inv p.bd p.hS p.ev,p.pr,by rw [sm.secs];exact p.hS⟩,h2⟩
section
variable {h:H}{κ: Nat→Nat}{I:Ai}{S:Ap}{J:Ap→Prop}
theorem Ww {ab k n n0:Nat}{dv sv:AV}{Z:List (List Nat)}{secs:List Int}{lq:List (Nat×Option AV)}{Q:Nat→AV→Prop}{x:AFr}{cs:List AFr}(T:Tb P0 E F K)(w:AS κ h I S ab dv S.D.sz Z sv secs)(p:PlG J S k Z)(hZ:0<Z.length∧Z.length≤10)(hk:k≤40000)(hsl:secs.length≤6)(hn:n<100000)(hS:S.S≤10)
  (k6:Bk h n0 [AI ((S.D.sz:Nat):Int),dv]) (c6:κ n0=200) (k10:Bk h (n0+1+1) [AI ((0:Nat):Int),.nils]) (c10:κ (n0+1+1)=200)
  (ht:TSub (tms [(33,some (AI ((n:Nat):Int))),(32,some sv),(30,some (AI ((S.D.sz:Nat):Int))),(10,some (.ptr (n0+1+1) 0)),(6,some (.ptr n0 0)),(0,some (.ptr ab 0))]) (tms lq))
  (G: ∀v h',(∃S' Z' κ' dv',v= .tup [.agg [AI ((S.D.sz:Nat):Int),dv'],.bool true]∧AS κ' h' I S' ab dv' S.D.sz Z' sv secs∧PlG J S' (k+1000) Z'∧Sm S S'∧AChX (fun b=>n0≤b) κ h κ' h')→GO P0 E Q (finish v cs h' x)):
  Good P0 E Q ⟨⟨11,cf11.ntmps,tms lq,[.ops [Cc 34 37 [.t 30,.t 32,.t 33],Cv 13 34],.code c11_20,.inBlock 0,.code c11_61],[],.run,false,none⟩,x::cs,hp h.n h.t []⟩:=by
 refine E0 L ht ?_
 have hsz:=w.r.dv.ok.g.sz
 have l6:=k6.lt
 have l10:=k10.lt
 refine cal (c:=bu L X w.qs hsz hsl hn) (g:=?_)
 rintro gv h2 ⟨l,δ,g,hkeys,kk⟩
 have n2:=kk.n
 have hll:l.length=secs.length:=by rw [←hkeys,List.length_map]
 refine wk ?_
 refine cal (c:=bv L X (w.q.k0 kk) hZ g (by omega) hsz) (g:=?_)
 rintro _ h3 ⟨rfl,k3⟩
 have n3:=k3.n
 have kk3:K0 h h3:=Kp.tr0 k3 kk
 have a3:AChg κ h (ext κ h.n) h3:=AChg.k0 kk3 fun b hb=>Af hb
 have w3:=w.chg a3 (w.r.k0 kk3 fun b hb=>Af hb)
 have g3:=g.k0 k3
 refine wk ?_
 have hee:Dc Z.length false (l.map (·.1))=Dc S.S S.down (l.map (·.1)):=by rw [p.len,p.inv.dn]
 obtain⟨-,k6a,c6a⟩:True∧_∧_:=⟨trivial,a3.b2 k6 c6⟩
 obtain⟨-,k10a,c10a⟩:True∧_∧_:=⟨trivial,a3.b2 k10 c10⟩
 rcases w.q.ex with⟨rfl,rfl⟩|⟨-,lb,rows,rfl,-⟩
 ·exact absurd hZ.1 (Nat.lt_irrefl _)
 rcases g3.ex with⟨rfl,rfl⟩|⟨g1,gb,rfl,kb,g4,g5⟩
 ·refine cal (c:=Wp L X w3.r w3.ka) (g:=?_)
  rintro _ h4 ⟨κ4,rfl,r4,a4⟩
  obtain⟨k6b,c6b⟩:=a4.b2 k6a c6a
  obtain⟨k10b,c10b⟩:=a4.b2 k10a c10a
  have e2:Dc Z.length false (([]:List GW).map (·.1))=2:=rfl
  rw [e2]
  refine Yi L X (h:=h4) (n0:=n0) (e:=2) (by omega) k6b k10b tsb ?_
  rintro _ h5 ⟨rfl,k5⟩
  exact G _ _ ⟨S,Z,κ4,_,rfl,(w3.chg a4 r4).own k5 (fun b _ e=>by subst e;exact c10b),p.mono (by omega),⟨rfl,rfl,rfl,rfl,rfl⟩,Kp.trS k5 (fun i _ e=> .inr (by omega)) ((a3.trans a4).k.mono fun b e=> .inl e),(a3.trans a4).col⟩
 ·have hne:l≠[]:=fun e=>by rw [e]at g1;exact absurd g1 (Nat.lt_irrefl _)
  have hx: ∀b,h.n≤b→ext κ h.n b=0:=fun b hb=>B4 hb
  refine cal (c:=bh (δ:= δ) L X T w3.r w3.ka p.inv.iw (by omega) kb (hx gb g4) hne (by omega) (fun i s b o c e=>let⟨x1,x2,x3,_⟩:=g5 i s b o c e;⟨x1,hx b x3,x2⟩) ⟨p.bd.last,by have:=p.bd.nx;omega⟩ (by have:=p.bd.dn;omega) (fun hc es S' a=>a.ok p.inv fun y hy=>Jg hc y.1 (by rw [←K6 δ l];exact List.mem_map.2 ⟨y,hy,rfl⟩))) (g:=?_)
  rintro _ h4 ⟨e,S4,κ4,rfl,ao,r4,a4⟩
  obtain⟨k6b,c6b⟩:=a4.b2 k6a c6a
  obtain⟨k10b,c10b⟩:=a4.b2 k10a c10a
  have w4:=w3.chg a4 r4
  have g4':=g3.chg a4 hx
  rw [hee]
  cases ao with
  |bad hb=>
   refine Yi L X (h:=h4) (n0:=n0) hb k6b k10b tsb ?_
   rintro _ h5 ⟨rfl,k5⟩
   exact G _ _ ⟨S,Z,κ4,_,rfl,w4.own k5 (fun b _ e=>by subst e;exact c10b),p.mono (by omega),⟨rfl,rfl,rfl,rfl,rfl⟩,Kp.trS k5 (fun i _ e=> .inr (by omega)) ((a3.trans a4).k.mono fun b e=> .inl e),(a3.trans a4).col⟩
  | @run _ o hc ho a=>
   rw [hc]
   obtain⟨sm,p1,p2⟩:=p.append (by omega) (fun i s b o c e=>(g5 i s b o c e).2.1) hc a
   by_cases hod:o= .done 0
   ·subst hod
    rw [show eOf (.done 0)=0 from rfl]
    refine wk ?_
    refine cal (c:=Eg L X) (g:=?_)
    rintro _ rfl
    refine wk ?_
    have hrl: ∀x∈l,0≤x.1∧x.1<((Z.length:Nat):Int):=fun x hx=>by rw [p.len];exact Jg hc x.1 (List.mem_map.2 ⟨x,hx,rfl⟩)
    refine cal (c:=bz L X (V:=fun b=>ext κ4 h4.n b=0) (w4.q.mono fun b hb u=>(Af hb).trans u) (fun b hb=>B4 hb) hZ g4' (by omega) hsz hrl) (g:=?_)
    rintro _ h5 ⟨dv',rfl,q5,k5⟩
    have n5:=k5.n
    have a5:AChg κ4 h4 (ext κ4 h4.n) h5:=AChg.k0 k5 fun b hb=>Af hb
    have w5:=(w4.chg a5 (r4.k0 k5 fun b hb=>Af hb)).disk q5
    obtain⟨k6c,c6c⟩:=a5.b2 k6b c6b
    obtain⟨k10c,c10c⟩:=a5.b2 k10b c10b
    rcases q5.ex with⟨e0,-⟩|⟨z1,lb',rows',rfl,-⟩
    ·have:=congrArg List.length e0;rw [Ji]at this;simp only [List.length_nil]at this;omega
    (apply stS L rfl rfl rfl rfl rfl rfl;exact lkp;rfl;rfl)
    have k6l:=k6c.lt
    have w6:=w5.own (B:=fun j=>j=n0) (h':=hp h5.n h5.t [(n0,some (cl [AI ((S.D.sz:Nat):Int),.slc lb' 0 (apW S.D.sz δ Z l).length (Aa+1)]))]) kps fun b _ e=>by subst e;exact c6c
    refine Uv L X (κ:= ext κ4 h4.n) (h:=hp h5.n h5.t [(n0,some (cl [AI ((S.D.sz:Nat):Int),.slc lb' 0 (apW S.D.sz δ Z l).length (Aa+1)]))]) (n0:=n0) (e:=0) w6.r w6.ka (.inl rfl) (by exact lkp) (by exact lkp) c6c c10c tsb ?_
    rintro _ h7 ⟨κ7,rfl,r7,a7⟩
    refine G _ _ ⟨S4,_,κ7,_,rfl,w6.chgX a7 (fun b _ e=>by subst e;exact c10c) r7,p1 rfl,sm,?_⟩
    have ke:Kp (fun j=>j=n0) h5 (hp h5.n h5.t [(n0,some (cl [AI ((S.D.sz:Nat):Int),.slc lb' 0 (apW S.D.sz δ Z l).length (Aa+1)]))]):=kps
    refine AChX.comp2 ((a3.trans a4).trans a5) ke (AChX.mk a7.k a7.col) (fun b _ e=>by omega) (fun b _ e=>by omega)
   ·obtain⟨rfl,hf,p3⟩:=p2 hod
    rw [show eOf .full=7 from rfl]
    refine wk ?_
    refine cal (c:=Eg L X) (g:=?_)
    rintro _ rfl
    (apply st1 L rfl;exact uf rfl rfl (by omega);rfl)
    refine Uv L X (h:=h4) (n0:=n0) (e:=7) r4 w4.ka (.inr ⟨rfl,hf⟩) k6b k10b c6b c10b tsb ?_
    rintro _ h5 ⟨κ5,rfl,r5,a5⟩
    exact G _ _ ⟨S4,Z,κ5,_,rfl,w4.chgX a5 (fun b _ e=>by subst e;exact c10b) r5,p3,sm,AChX.comp (a3.trans a4) a5 fun b _ e=>by omega⟩
theorem ss {ab k n0 lb:Nat}{sv:AV}{Z:List (List Nat)}{secs:List Int}{lq:List (Nat×Option AV)}{Q:Nat→AV→Prop}{x:AFr}{cs:List AFr}(T:Tb P0 E F K)(U:SortOk P0 E F 129)(w:AS κ h I S ab (.slc lb 0 Z.length (Aa+1)) S.D.sz Z sv secs)(p:PlG J S k Z)(hk:k≤40000)(hS:S.S≤10)
  (k6:Bk h n0 [AI ((S.D.sz:Nat):Int),.slc lb 0 Z.length (Aa+1)]) (c6:κ n0=200) (k10:Bk h (n0+1+1) [AI ((0:Nat):Int),.nils]) (c10:κ (n0+1+1)=200)
  (ht:TSub (tms [(132,some (.ptr ab 0)),(131,some (.ptr ab 0)),(130,some (.agg [AI ((S.D.sz:Nat):Int),.slc lb 0 Z.length (Aa+1)])),(10,some (.ptr (n0+1+1) 0)),(6,some (.ptr n0 0)),(0,some (.ptr ab 0))]) (tms lq))
  (G: ∀v h',(∃S' Z' κ' dv',v= .tup [.agg [AI ((S.D.sz:Nat):Int),dv'],.bool true]∧AS κ' h' I S' ab dv' S.D.sz Z' sv secs∧PlG J S' (k+1000) Z'∧Sm S S'∧AChX (fun b=>n0≤b) κ h κ' h')→GO P0 E Q (finish v cs h' x)):
  Good P0 E Q ⟨⟨11,cf11.ntmps,tms lq,[.drawn ⟨⟨Cc 133 40 [.t 132],[132]⟩,[],[⟨Cn 130 2 6,[6]⟩,⟨Cv 131 0,[0]⟩]⟩ [⟨⟨Cc 134 16 [.t 131,.t 133],[131,133]⟩,[],[⟨Cn 130 2 6,[6]⟩]⟩,⟨⟨Cs 2 10 130,[10,130]⟩,[⟨Cv 11 134,[134]⟩],[]⟩],.code .ret],[],.run,false,none⟩,x::cs,hp h.n h.t []⟩:=by
 refine E0 L ht ?_
 have l6:=k6.lt
 have l10:=k10.lt
 refine cal (c:=Qc L X T U w.r w.ka p.inv.iw p.inv.dn (by omega) (fun y hy=>let⟨b,e1,e2,_⟩:=p.inv.jr y hy;⟨by omega,by omega⟩) ⟨p.bd.last,by have:=p.bd.nx;omega⟩ (by have:=p.bd.dn;omega) (p.inv.ckH p.bd hS (by omega))) (g:=?_)
 rintro _ h3 ⟨o,S3,κ3,rfl,ho,ck,r3,a3⟩
 obtain⟨sm,p3,he⟩:=p.ck hS ho ck
 have w3:=w.chg a3 r3
 obtain⟨k6a,c6a⟩:=a3.b2 k6 c6
 obtain⟨k10a,c10a⟩:=a3.b2 k10 c10
 have l6:=k6a.lt
 have l10:=k10a.lt
 refine wk ?_
 refine cal (c:=K5 L X r3 w3.ka he) (g:=?_)
 rintro _ h4 ⟨κ4,rfl,r4,a4⟩
 have w4:=w3.chg a4 r4
 obtain⟨k6b,c6b⟩:=a4.b2 k6a c6a
 obtain⟨k10b,c10b⟩:=a4.b2 k10a c10a
 have l6:=k6b.lt
 have l10:=k10b.lt
 refine wk ?_
 (apply Mw L rfl rfl rfl rfl rfl rfl rfl;exact lkp;rfl;intro h9 hs9;(repeat(first|(apply Cp rfl rfl;exact opv)|(apply Se rfl rfl)));(first|(apply p_0;exact chk)|(refine Pc L ?_ rfl ?_;exact chk));refine M8 L hs9 ?_)
 refine wk ?_
 refine ret X.f11 ?_
 refine⟨S3,Z,κ4,_,rfl,w4.own (B:=fun j=>j=n0+1+1) ?_ (fun b _ e=>by subst e;exact c10b),p3,sm,Kp.trS (S':=fun j=>j=n0+1+1) ?_ (fun i _ e=> .inr (by omega)) ((a3.trans a4).k.mono fun b e=> .inl e),(a3.trans a4).col⟩
 ·exact kps
 ·exact kps
theorem sw {ab k n:Nat}{dv sv:AV}{Z:List (List Nat)}{what blk:Int}{secs:List Int}(T:Tb P0 E F K)(U:SortOk P0 E F 129)(w:AS κ h I S ab dv S.D.sz Z sv secs)(p:PlG J S k Z)(hZ:0<Z.length∧Z.length≤10)(hk:k≤40000)(hsl:secs.length≤6)(hn:n<100000)(hS:S.S≤10):
  Ct P0 E F K 11 [.ptr ab 0,.agg [AI ((S.D.sz:Nat):Int),dv],AI ((S.D.nb:Nat):Int),.agg [AI what,AI blk,sv],AI ((n:Nat):Int)] h
   (fun v h'=> ∃S' Z' κ' dv',v= .tup [.agg [AI ((S.D.sz:Nat):Int),dv'],.bool true]∧AS κ' h' I S' ab dv' S.D.sz Z' sv secs∧PlG J S' (k+1000) Z'∧Sm S S'∧AChg κ h κ' h'):=by
 have lk:=w.ka.lt
 rcases w.q.ex with⟨rfl,rfl⟩|⟨-,lb,rows,rfl,-⟩
 ·exact absurd hZ.1 (Nat.lt_irrefl _)
 refine Jy L X.f11 X.k11 rfl rfl fun Q x cs G=>?_
 refine wk ?_
 have k1:K0 h (hp (h.n+1+1+1) h.t [(h.n+1+1,some (cl [AI ((0:Nat):Int),.nils])),(h.n+1,some (cl [AI what,AI blk,sv])),(h.n,some (cl [AI ((S.D.sz:Nat):Int),.slc lb 0 Z.length (Aa+1)]))]):=kps
 have a1:AChg κ h (Dd κ h.n) (hp (h.n+1+1+1) h.t [(h.n+1+1,some (cl [AI ((0:Nat):Int),.nils])),(h.n+1,some (cl [AI what,AI blk,sv])),(h.n,some (cl [AI ((S.D.sz:Nat):Int),.slc lb 0 Z.length (Aa+1)]))]):=AChg.k0 k1 fun b hb=>C7 hb
 have w1:=w.chg a1 (w.r.k0 k1 fun b hb=>C7 hb)
 have b6:Bk (hp (h.n+1+1+1) h.t [(h.n+1+1,some (cl [AI ((0:Nat):Int),.nils])),(h.n+1,some (cl [AI what,AI blk,sv])),(h.n,some (cl [AI ((S.D.sz:Nat):Int),.slc lb 0 Z.length (Aa+1)]))]) h.n [AI ((S.D.sz:Nat):Int),.slc lb 0 Z.length (Aa+1)]:=lkp
 have b8:Bk (hp (h.n+1+1+1) h.t [(h.n+1+1,some (cl [AI ((0:Nat):Int),.nils])),(h.n+1,some (cl [AI what,AI blk,sv])),(h.n,some (cl [AI ((S.D.sz:Nat):Int),.slc lb 0 Z.length (Aa+1)]))]) (h.n+1) [AI what,AI blk,sv]:=lkp
 have b10:Bk (hp (h.n+1+1+1) h.t [(h.n+1+1,some (cl [AI ((0:Nat):Int),.nils])),(h.n+1,some (cl [AI what,AI blk,sv])),(h.n,some (cl [AI ((S.D.sz:Nat):Int),.slc lb 0 Z.length (Aa+1)]))]) (h.n+1+1) [AI ((0:Nat):Int),.nils]:=lkp
 refine cal (c:=Yb L X w1.r w1.ka (fun b n e=>Nat.le_of_lt (p.bd.wr b n e)) (by have:=p.bd.nx;omega)) (g:=?_)
 rintro _ h2 ⟨κ2,cd,cc,r2,a2⟩
 have w2:=w1.chg a2 r2
 obtain⟨k6,c6⟩:=a2.b2 b6 (Be (Nat.le_refl _))
 obtain⟨k8,c8⟩:=a2.b2 b8 (Be (Nat.le_succ _))
 obtain⟨k10,c10⟩:=a2.b2 b10 (Be (by omega))
 have l6:=k6.lt
 have l8:=k8.lt
 have l10:=k10.lt
 have fin: ∀κ' h',AChX (fun b=>h.n≤b) κ2 h2 κ' h'→AChg κ h κ' h':=fun κ' h' x=>x.own (a1.trans a2) fun b e=>e
 have ck:=fun lq=>ss L X (h:=h2) (n0:=h.n) (x:=x) (cs:=cs) (Q:=Q) (lq:=lq) T U w2 p hk hS k6 c6 k10 c10
 by_cases c1:what<0
 ·refine wk ?_
  refine ck _ tsb ?_
  rintro v h' ⟨S',Z',κ',dv',rfl,w',p',s',x'⟩
  exact G _ _ ⟨S',Z',κ',dv',rfl,w',p',s',fin κ' h' x'⟩
 by_cases c2:what≤5
 ·refine wk ?_
  refine Ww L X (h:=h2) (n0:=h.n) T w2 p hZ hk hsl hn hS k6 c6 k10 c10 tsb ?_
  rintro v h' ⟨S',Z',κ',dv',rfl,w',p',s',x'⟩
  exact G _ _ ⟨S',Z',κ',dv',rfl,w',p',s',fin κ' h' x'⟩
 by_cases c3:what=8
 ·subst c3
  refine wk ?_
  refine cal (c:=Ya L X T w2.r w2.ka p.inv.iw p.inv.dn ⟨p.bd.last,by have:=p.bd.nx;omega⟩ (by have:=p.bd.dn;omega) (by omega) (fun b e hb h3 _=>p.inv.mvH w2.r.dv.ok (by omega) p.bd (by omega) b hb h3)) (g:=?_)
  rintro _ h3 ⟨e,S3,κ3,rfl,m,r3,a3⟩
  obtain⟨sm,p3,he⟩:=p.move w2.r.dv.ok m
  have w3:=w2.chg a3 r3
  obtain⟨k6a,c6a⟩:=a3.b2 k6 c6
  obtain⟨k8a,c8a⟩:=a3.b2 k8 c8
  obtain⟨k10a,c10a⟩:=a3.b2 k10 c10
  have l6:=k6a.lt
  have l8:=k8a.lt
  have l10:=k10a.lt
  have n23:=a3.k.n
  have done: ∀hh,Kp (fun j=>j=h.n+1+1) h3 hh→GO P0 E Q (finish (.tup [.agg [AI ((S.D.sz:Nat):Int),.slc lb 0 Z.length (Aa+1)],.bool true]) cs hh x):=fun hh kh=>
   G _ _ ⟨S3,Z,κ3,_,rfl,w3.own kh (fun b _ e=>by subst e;exact c10a),p3,sm,fin κ3 hh ⟨Kp.trS kh (fun i _ e=> .inr (by omega)) (a3.k.mono fun b e=> .inl e),a3.col⟩⟩
  by_cases cr:0≤blk∧blk<((S.D.nb:Nat):Int)
  rotate_left
  ·have e3:e=3:=by
    rcases he with⟨_,b,e',hb,_⟩|⟨h,_⟩|⟨_,h,_⟩
    ·exact absurd ⟨by omega,by omega⟩ cr
    ·exact h
    ·exact absurd h cr
   subst e3
   have G:=fun v hh (q:v= .tup [.agg [AI ((S.D.sz:Nat):Int),.slc lb 0 Z.length (Aa+1)],.bool true]∧Kp (fun j=>j=h.n+1+1) h3 hh)=>(show GO P0 E Q (finish v cs hh x) by rw [q.1];exact done hh q.2)
   by_cases cl:blk<0
   ·refine wk ?_
    refine ret X.f11 ?_
    exact⟨rfl,kps⟩
   ·refine wk ?_
    refine ret X.f11 ?_
    exact⟨rfl,kps⟩
  ·have no: ¬S.cand blk→e=8:=fun hn=>by
    rcases he with⟨_,h⟩|⟨_,h⟩|⟨h,_⟩
    ·exact absurd h hn
    ·exact absurd cr h
    ·exact h
   have yes:S.cand blk→e=0∨e=7∧frees S3=0:=fun hc=>by
    rcases he with⟨h,_⟩|⟨_,h⟩|⟨_,_,h⟩
    ·exact h
    ·exact absurd cr h
    ·exact absurd hc h
   rcases cd.ex with⟨e0,rfl⟩|⟨g1,cb,rfl,kcb,-⟩
   ·have e8:=no (by
     rintro⟨b,_,hb⟩
     have:=(Ek (S:=S) (b:=b) S.D.nb).2 hb
     rw [e0]at this;cases this)
    subst e8
    have G:=fun v hh (q:v= .tup [.agg [AI ((S.D.sz:Nat):Int),.slc lb 0 Z.length (Aa+1)],.bool true]∧Kp (fun j=>j=h.n+1+1) h3 hh)=>(show GO P0 E Q (finish v cs hh x) by rw [q.1];exact done hh q.2)
    refine wk ?_
    refine A2 L ?_
    refine wk ?_
    refine ret X.f11 ?_
    exact⟨rfl,kps⟩
   ·obtain⟨kcb3,ccb3⟩:=a3.bk kcb (cc cb _ _ rfl)
    have lcb:=kcb3.lt
    have hlc:=Jh S S.D.nb
    have hnb:=p.inv.geo.nb
    refine wk ?_
    refine Co L (α:= Unit) (T:=fun i _=> [(17,some (AI ((i:Nat):Int))),(16,some (AI ((e:Nat):Int))),(12,some (.slc cb 0 (S.cds S.D.nb).length (Aa+4))),(10,some (.ptr (h.n+1+1) 0)),(8,some (.ptr (h.n+1) 0)),(6,some (.ptr h.n 0)),(0,some (.ptr ab 0))]) (n:=(S.cds S.D.nb).length)
     (R:=fun i _ hh=>(∀b∈(S.cds S.D.nb).take i,((b:Nat):Int)≠blk)∧K0 h3 hh) (i0:=0) () tsb ⟨by simp,Kp.refl _⟩ (Nat.zero_le _) ?_ ?_
    ·rintro i _ hh hi ⟨t1,t2⟩ ih
     have hx:(S.cds S.D.nb)[i]?=some (S.cds S.D.nb)[i]:=List.getElem?_eq_getElem hi
     have htk:(S.cds S.D.nb).take (i+1)=(S.cds S.D.nb).take i++ [(S.cds S.D.nb)[i]]:=by rw [List.take_add_one,hx];rfl
     have hin:=(Ek (S:=S) S.D.nb).1 (List.getElem_mem hi)
     have hf:((S.cds S.D.nb).flatMap (cdC S))[i*4+0]?=some (AI (((S.cds S.D.nb)[i]:Nat):Int)):=by rw [B8 _ (Ej S _) i 0 _ hx (by omega)];rfl
     generalize (S.cds S.D.nb)[i]=b at*
     have kcb4:=Ag t2 kcb3
     have k6b:=Ag t2 k6a
     have k8b:=Ag t2 k8a
     have k10b:=Ag t2 k10a
     by_cases eb:((b:Nat):Int)=blk
     ·subst eb
      have r4:ApR κ3 hh I S3:=r3.k0 t2 fun _ _=>rfl
      refine wk ?_
      refine cal (c:=K5 L X r4 (Ag t2 w3.ka) (yes ⟨b,rfl,hin.1,hin.2⟩)) (g:=?_)
      rintro _ h5 ⟨κ5,rfl,r5,a5⟩
      obtain⟨k6c,c6c⟩:=a5.b2 k6b c6a
      obtain⟨k10c,c10c⟩:=a5.b2 k10b c10a
      have l6:=k6c.lt
      have l10:=k10c.lt
      have a4:AChg κ3 h3 κ3 hh:=AChg.k0 t2 fun _ _=>rfl
      have w5:=(w3.chg a4 r4).chg a5 r5
      refine wk ?_
      (apply Mw L rfl rfl rfl rfl rfl rfl rfl;exact lkp;rfl;intro h9 hs9;(repeat(first|(apply Cp rfl rfl;exact opv)|(apply Se rfl rfl)));(first|(apply p_0;exact chk)|(refine Pc L ?_ rfl ?_;exact chk));refine M8 L hs9 ?_)
      refine wk ?_
      refine ret X.f11 ?_
      refine⟨S3,Z,κ5,_,rfl,w5.own (B:=fun j=>j=h.n+1+1) ?_ (fun b _ e=>by subst e;exact c10c),p3,sm,fin κ5 _ ⟨Kp.trS (S':=fun j=>j=h.n+1+1) ?_ (fun i _ e=> .inr (by omega)) (((a3.trans a4).trans a5).k.mono fun b e=> .inl e),((a3.trans a4).trans a5).col⟩⟩
      ·exact kps
      ·exact kps
     ·refine wk ?_
      refine ih () _ _ ⟨?_,by exact kps⟩ ?_
      ·rw [htk]
       intro b' hb'
       rcases List.mem_append.1 hb' with h|h
       ·exact t1 b' h
       ·rw [List.mem_singleton]at h;subst h;exact eb
      ·exact tsb
    ·rintro _ hh ⟨t1,t2⟩
     rw [List.take_length]at t1
     have e8:=no (by
      rintro⟨b,eb,hb⟩
      exact t1 b ((Ek (S:=S) (b:=b) S.D.nb).2 hb) eb.symm)
     subst e8
     have k6b:=Ag t2 k6a
     have k10b:=Ag t2 k10a
     have l6:=k6b.lt
     have l10:=k10b.lt
     have G:=fun v h4 (q:v= .tup [.agg [AI ((S.D.sz:Nat):Int),.slc lb 0 Z.length (Aa+1)],.bool true]∧Kp (fun j=>j=h.n+1+1) h3 h4)=>(show GO P0 E Q (finish v cs h4 x) by rw [q.1];exact done h4 q.2)
     refine wk ?_
     refine ret X.f11 ?_
     exact⟨rfl,kps⟩
 by_cases c4:what=6∨what=7
 ·rcases cd.ex with⟨e0,rfl⟩|⟨g1,cb,rfl,kcb,-⟩
  ·rcases c4 with rfl|rfl
   all_goals
    refine wk ?_
    refine ck _ tsb ?_
    rintro v h' ⟨S',Z',κ',dv',rfl,w',p',s',x'⟩
    exact G _ _ ⟨S',Z',κ',dv',rfl,w',p',s',fin κ' h' x'⟩
  ·have lcb:=kcb.lt
   have hlc:=Jh S S.D.nb
   have hnb:=p.inv.geo.nb
   have hj:u64 blk % (S.cds S.D.nb).length<(S.cds S.D.nb).length:=Nat.mod_lt _ g1
   have hin:=(Ek (S:=S) S.D.nb).1 (List.getElem_mem hj)
   have hf:((S.cds S.D.nb).flatMap (cdC S))[u64 blk % (S.cds S.D.nb).length*4+0]?=some (AI (((S.cds S.D.nb)[u64 blk % (S.cds S.D.nb).length]:Nat):Int)):=by rw [B8 _ (Ej S _) _ 0 _ (List.getElem?_eq_getElem hj) (by omega)];rfl
   generalize (S.cds S.D.nb)[u64 blk % (S.cds S.D.nb).length]=b at*
   rcases c4 with rfl|rfl
   all_goals
    refine wk ?_
    (apply Cp rfl rfl;exact Io rfl)
    refine wk ?_
    refine cal (c:=Ya L X T w2.r w2.ka p.inv.iw p.inv.dn ⟨p.bd.last,by have:=p.bd.nx;omega⟩ (by have:=p.bd.dn;omega) (by omega) (fun b e hb h3 _=>p.inv.mvH w2.r.dv.ok (by omega) p.bd (by omega) b hb h3)) (g:=?_)
    rintro _ h3 ⟨e,S3,κ3,rfl,m,r3,a3⟩
    obtain⟨sm,p3,he⟩:=p.move w2.r.dv.ok m
    have hee:e=0∨e=7∧frees S3=0:=by
     rcases he with⟨h,_⟩|⟨_,h⟩|⟨_,_,h⟩
     ·exact h
     ·exact absurd ⟨by omega,by omega⟩ h
     ·exact absurd ⟨b,rfl,hin.1,hin.2⟩ h
    have w3:=w2.chg a3 r3
    obtain⟨k6a,c6a⟩:=a3.b2 k6 c6
    obtain⟨k10a,c10a⟩:=a3.b2 k10 c10
    have l6:=k6a.lt
    have l10:=k10a.lt
    refine wk ?_
    refine cal (c:=K5 L X r3 w3.ka hee) (g:=?_)
    rintro _ h4 ⟨κ4,rfl,r4,a4⟩
    have w4:=w3.chg a4 r4
    obtain⟨k6b,c6b⟩:=a4.b2 k6a c6a
    obtain⟨k10b,c10b⟩:=a4.b2 k10a c10a
    have l6:=k6b.lt
    have l10:=k10b.lt
    refine wk ?_
    (apply Mw L rfl rfl rfl rfl rfl rfl rfl;exact lkp;rfl;intro h9 hs9;(repeat(first|(apply Cp rfl rfl;exact opv)|(apply Se rfl rfl)));(first|(apply p_0;exact chk)|(refine Pc L ?_ rfl ?_;exact chk));refine M8 L hs9 ?_)
    refine wk ?_
    refine ret X.f11 ?_
    refine⟨S3,Z,κ4,_,rfl,w4.own (B:=fun j=>j=h.n+1+1) ?_ (fun b _ e=>by subst e;exact c10b),p3,sm,fin κ4 _ ⟨Kp.trS (S':=fun j=>j=h.n+1+1) ?_ (fun i _ e=> .inr (by omega)) ((a3.trans a4).k.mono fun b e=> .inl e),(a3.trans a4).col⟩⟩
    ·exact kps
    ·exact kps
 ·refine wk ?_
  refine ck _ tsb ?_
  rintro v h' ⟨S',Z',κ',dv',rfl,w',p',s',x'⟩
  exact G _ _ ⟨S',Z',κ',dv',rfl,w',p',s',fin κ' h' x'⟩
end
end
section
variable {P0:Program}{E:Env}{F:T CFn}{K:T (List AV×AV)}(L:Lg P0 E F K)(X:Fx F K)(Y:FxC F K)
include L X Y
section
variable {h:H}{κ: Nat→Nat}{I:Ai}{S:Ap}
theorem P3 {ab:Nat}(r:ApR κ h I S)(ka:Bk h ab [.ptr I.s 0]):Ct P0 E F K 19 [.ptr ab 0] h fun v h'=>v= .ptr I.d 0∧h'=h:=by
 have sk:=r.sk
 unfold apC at sk
 refine Al L Y.f19 Y.k19 rfl rfl fun Q x cs G=>?_
 refine wk ?_
 refine ret Y.f19 ?_
 exact⟨rfl,rfl⟩
theorem Sw {c:Nat}(U:SortOk P0 E F 129)(r:ApR κ h I S)(kc:Bk h c [.nils])(hc:200≤κ c):
  Ct P0 E F K 55 [.ptr I.s 0,.ptr c 0] h fun v h'=>Kp (fun j=>j=c) h h'∧ ∃w D,Bk h' c [w]∧DomA S.A D∧D.length≤1000∧EL h' h.n w (B0 S.A D):=by
 have sk:=r.sk
 have ls:=sk.lt
 have lc:=kc.lt
 have hcol:=r.col
 unfold apC at sk
 refine Ad L X.f55 X.k55 rfl rfl fun Q x cs G=>?_
 refine wk ?_
 refine cal (c:=It L X U r.mp) (g:=?_)
 rintro _ h2 ⟨D,d1,d2,d3,k2⟩
 have n2:=k2.n
 obtain⟨p1,p2⟩:=d3.plain
 generalize hv:B0 S.A D=es at*
 refine wk ?_
 (apply qt L rfl rfl rfl p1 p2;exact lkp;(show 0<1;omega);rfl)
 refine wk ?_
 refine ret X.f55 ?_
 refine⟨kps,_,D,lkp,d1,d2,?_⟩
 rw [hv]
 exact d3.kS (S:=fun j=>j=c) kps fun b hb e=>by omega
theorem Uw {ab:Nat}(U:SortOk P0 E F 129)(r:ApR κ h I S)(ka:Bk h ab [.ptr I.s 0]):
  Ct P0 E F K 18 [.ptr ab 0] h (fun v h'=> ∃κ' D,DomA S.A D∧D.length≤1000∧EL h' h.n v (B0 S.A D)∧(∀b n c,v= .slc b 0 n c→κ' b=0)∧ApR κ' h' I S∧AChg κ h κ' h'):=by
 have lk:=ka.lt
 refine Al L X.f18 X.k18 rfl rfl fun Q x cs G=>?_
 refine wk ?_
 have k1:K0 h (hp (h.n+1) h.t [(h.n,some (cl [.nils]))]):=kps
 have hc1: ∀b,b<h.n→Dd κ h.n b=κ b:=fun b hb=>C7 hb
 have r1:ApR (Dd κ h.n) (hp (h.n+1) h.t [(h.n,some (cl [.nils]))]) I S:=r.k0 k1 hc1
 have a1:AChg κ h (Dd κ h.n) (hp (h.n+1) h.t [(h.n,some (cl [.nils]))]):=AChg.k0 k1 hc1
 have kc1:Bk (hp (h.n+1) h.t [(h.n,some (cl [.nils]))]) h.n [.nils]:=lkp
 have hn1:(hp (h.n+1) h.t [(h.n,some (cl [.nils]))]).n=h.n+1:=rfl
 have cl1: ∀κ2 h2,K0 (hp (h.n+1) h.t [(h.n,some (cl [.nils]))]) h2→(hp (h.n+1) h.t [(h.n,some (cl [.nils]))]).n<h2.n→(∀b,b<(hp (h.n+1) h.t [(h.n,some (cl [.nils]))]).n→κ2 b=Dd κ h.n b)→ApR κ2 h2 I S→CtX P0 E F K 55 (.ptr I.s 0:: [.ptr h.n 0]) h2
   (fun v h'=> ∃κ' S',ApR κ' h' I S'∧AChX (fun j=>j=h.n) κ2 h2 κ' h'∧(S'=S∧ ∃w D,Bk h' h.n [w]∧DomA S.A D∧D.length≤1000∧EL h' (h.n+2) w (B0 S.A D)∧ ∀b n c,w= .slc b 0 n c→κ' b=0))
   (fun v h'=> ∃κ' S' e,v= .ifc 44 (AI e)∧ApR κ' h' I S'∧AChX (fun j=>j=h.n) κ2 h2 κ' h'∧False):=by
  intro κ2 h2 k2 n2 c2 r2
  rw [hn1]at n2 c2
  have hk1:κ2 h.n=200:=(c2 _ (by omega)).trans (Be (Nat.le_refl _))
  refine((Sw L X Y U r2 (Ag k2 kc1) (by omega)).mono ?_).X
  rintro v h' ⟨q1,w,D,q2,d1,d2,d3⟩
  refine⟨ext κ2 h2.n,S,r2.own q1 (fun j _ e=>by subst e;omega) fun b hb=>Af hb,⟨q1.mono fun b e=> .inr e,fun b hb=>Af hb⟩,rfl,w,D,q2,d1,d2,d3.mono (by omega),?_⟩
  rintro b n c rfl
  exact B4 d3.blt.2
 refine cal (c:=Ei L X r1 (Ag k1 ka) (fun b e=>by subst e;exact Nat.lt_succ_self _) cl1) (g:=?_)
 rintro v h2 ⟨κ',S',h1,r',a',k',hv⟩
 rw [hn1]at k'
 rcases hv with⟨rfl,u,rfl,w,D,q1,d1,d2,q2,q3⟩|⟨e,rfl,q⟩
 ·have a2:AChg κ h κ' h2:=a'.own a1 fun b e=>by subst e;exact Nat.le_refl _
  have q1':Bk h2 h.n [w]:=As k' (by omega) q1
  have q2':EL h2 (h.n+2) w (B0 S'.A D):=q2.kS k' fun b hb e=>by omega
  have lq:=q1'.lt
  have hk1:κ' h.n=200:=(a'.col _ (by rw [hn1];omega)).trans (Be (Nat.le_refl _))
  obtain⟨p1,p2⟩:=q2'.plain
  refine wk ?_
  (apply qt L rfl rfl rfl p1 p2;exact lkp;(show 0<1;omega);rfl)
  refine wk ?_
  refine ret X.f18 ?_
  refine⟨κ',D,d1,d2,(q2'.kS (S:=fun j=>j=h.n) ?_ fun b hb e=>by omega).mono (by omega),q3,r'.out (B:=fun j=>j=h.n) ?_ (fun b _ e=>by subst e;omega),AChg.own (B:=fun j=>j=h.n) a2 ?_ (fun b e=>by subst e;exact Nat.le_refl _) fun _ _=>rfl⟩
  ·exact kps
  ·exact kps
  ·exact kps
 ·exact q.elim
end
section
variable {h:H}
theorem Wx {p pb nb:Nat}{ps pe:Nat→Nat}{cb:List AV}(q:PoC h p pb nb ps pe cb):Ct P0 E F K 46 [.ptr p 0,AI ((4:Nat):Int)] h fun v h'=>v=AI ((cntS ps 4 nb:Nat):Int)∧h'=h:=by
 have hd:=q.pk
 unfold pcC at hd
 refine Ad L X.f46 X.k46 rfl rfl fun Q x cs G=>?_
 refine wk ?_
 refine cal (c:=Iu L X q) (g:=?_)
 rintro _ rfl
 refine wk ?_
 (apply st1 L rfl;exact F4 (i:=4) rfl rfl (by omega);rfl)
 refine wk ?_
 refine ret X.f46 ?_
 exact⟨rfl,rfl⟩
end
def sx (f:Int→Bool)(n:Nat):Prop:= ∃l:List Int,l.length=n∧l.Nodup∧ ∀x∈l,f x=true
omit L X Y in
theorem Sx {M:List (Int×AV×Nat)}{ck:Nat}{f:Int→Bool}(q:MOk M ck)(h: ∀k:Int,Bp M k=if f k=true then some (.bool true)else none):sx f M.length:=
 ⟨M.map (·.1),List.length_map _,q.keys,fun x hx=>by
  have h1:=h x
  by_cases e:f x=true
  ·exact e
  ·rw [if_neg e,mGet_none]at h1
   obtain⟨y,hy,rfl⟩:=List.mem_map.1 hx
   unfold G0 at h1
   rw [List.any_eq_false]at h1
   exact absurd (decide_eq_true rfl) (h1 y hy)⟩
def nr (S:Ap)(n:Nat):Prop:=n=S.next
def ns (S:Ap)(n:Nat):Prop:=sx S.jr n
def sy (S:Ap)(n:Nat):Prop:= ∃m,n=cntS S.ps 4 S.D.nb+m∧sx S.su m
section
variable {h:H}{κ: Nat→Nat}{I:Ai}{S:Ap}
theorem b9 {c:Nat}(r:ApR κ h I S)(kc:Bk h c [.int .u64 ((0:Nat):Int)])(hc:200≤κ c):Ct P0 E F K 75 [.ptr I.s 0,.ptr c 0] h fun v h'=>Kp (fun j=>j=c) h h'∧ ∃n,nr S n∧Bk h' c [.int .u64 ((n:Nat):Int)]:=by
 have sk:=r.sk
 have ls:=sk.lt
 have lc:=kc.lt
 have hcol:=r.col
 unfold apC at sk
 refine Ad L Y.f75 Y.k75 rfl rfl fun Q x cs G=>?_
 refine wk ?_
 refine ret Y.f75 ?_
 exact⟨kps,_,rfl,lkp⟩
theorem Ux {ab:Nat}(r:ApR κ h I S)(ka:Bk h ab [.ptr I.s 0]):
  Ct P0 E F K 26 [.ptr ab 0] h (fun v h'=> ∃κ' n,v= .int .u64 ((n:Nat):Int)∧nr S n∧ApR κ' h' I S∧AChg κ h κ' h'):=by
 have lk:=ka.lt
 refine Al L Y.f26 Y.k26 rfl rfl fun Q x cs G=>?_
 refine wk ?_
 have k1:K0 h (hp (h.n+1) h.t [(h.n,some (cl [.int .u64 ((0:Nat):Int)]))]):=kps
 have hc1: ∀b,b<h.n→Dd κ h.n b=κ b:=fun b hb=>C7 hb
 have r1:ApR (Dd κ h.n) (hp (h.n+1) h.t [(h.n,some (cl [.int .u64 ((0:Nat):Int)]))]) I S:=r.k0 k1 hc1
 have a1:AChg κ h (Dd κ h.n) (hp (h.n+1) h.t [(h.n,some (cl [.int .u64 ((0:Nat):Int)]))]):=AChg.k0 k1 hc1
 have kc1:Bk (hp (h.n+1) h.t [(h.n,some (cl [.int .u64 ((0:Nat):Int)]))]) h.n [.int .u64 ((0:Nat):Int)]:=lkp
 have hn1:(hp (h.n+1) h.t [(h.n,some (cl [.int .u64 ((0:Nat):Int)]))]).n=h.n+1:=rfl
 have cl1: ∀κ2 h2,K0 (hp (h.n+1) h.t [(h.n,some (cl [.int .u64 ((0:Nat):Int)]))]) h2→(hp (h.n+1) h.t [(h.n,some (cl [.int .u64 ((0:Nat):Int)]))]).n<h2.n→(∀b,b<(hp (h.n+1) h.t [(h.n,some (cl [.int .u64 ((0:Nat):Int)]))]).n→κ2 b=Dd κ h.n b)→ApR κ2 h2 I S→CtX P0 E F K 75 (.ptr I.s 0:: [.ptr h.n 0]) h2
   (fun v h'=> ∃κ' S',ApR κ' h' I S'∧AChX (fun j=>j=h.n) κ2 h2 κ' h'∧(S'=S∧ ∃n,nr S n∧Bk h' h.n [.int .u64 ((n:Nat):Int)]))
   (fun v h'=> ∃κ' S' e,v= .ifc 44 (AI e)∧ApR κ' h' I S'∧AChX (fun j=>j=h.n) κ2 h2 κ' h'∧False):=by
  intro κ2 h2 k2 n2 c2 r2
  rw [hn1]at n2 c2
  have hk1:κ2 h.n=200:=(c2 _ (by omega)).trans (Be (Nat.le_refl _))
  refine((b9 L X Y r2 (Ag k2 kc1) (by omega)).mono ?_).X
  rintro v h' ⟨q1,n,q2,q3⟩
  exact⟨ext κ2 h2.n,S,r2.own q1 (fun j _ e=>by subst e;omega) fun b hb=>Af hb,⟨q1.mono fun b e=> .inr e,fun b hb=>Af hb⟩,rfl,n,q2,q3⟩
 refine cal (c:=Ei L X r1 (Ag k1 ka) (fun b e=>by subst e;exact Nat.lt_succ_self _) cl1) (g:=?_)
 rintro v h2 ⟨κ',S',h1,r',a',k',hv⟩
 rw [hn1]at k'
 rcases hv with⟨rfl,u,rfl,n,q0,q1⟩|⟨e,rfl,q⟩
 ·have a2:AChg κ h κ' h2:=a'.own a1 fun b e=>by subst e;exact Nat.le_refl _
  have q1':Bk h2 h.n [.int .u64 ((n:Nat):Int)]:=As k' (by omega) q1
  have lq:=q1'.lt
  have hk1:κ' h.n=200:=(a'.col _ (by rw [hn1];omega)).trans (Be (Nat.le_refl _))
  refine wk ?_
  refine ret Y.f26 ?_
  refine⟨κ',n,rfl,q0,r'.out (B:=fun j=>j=h.n) ?_ (fun b _ e=>by subst e;omega),AChg.own (B:=fun j=>j=h.n) a2 ?_ (fun b e=>by subst e;exact Nat.le_refl _) fun _ _=>rfl⟩
  ·exact kps
  ·exact kps
 ·exact q.elim
theorem nu {c:Nat}(r:ApR κ h I S)(kc:Bk h c [AI ((0:Nat):Int)])(hc:200≤κ c):Ct P0 E F K 76 [.ptr I.s 0,.ptr c 0] h fun v h'=>Kp (fun j=>j=c) h h'∧ ∃n,ns S n∧Bk h' c [AI ((n:Nat):Int)]:=by
 have sk:=r.sk
 have ls:=sk.lt
 have lc:=kc.lt
 have hcol:=r.col
 unfold apC at sk
 refine Ad L Y.f76 Y.k76 rfl rfl fun Q x cs G=>?_
 obtain⟨M,ck,m1,m2,m3⟩:=r.mj.ex
 refine wk ?_
 (apply st1 L rfl;exact jk rfl m1;rfl)
 refine wk ?_
 refine ret Y.f76 ?_
 exact⟨kps,_,Sx m2 m3,lkp⟩
theorem s8 {ab:Nat}(r:ApR κ h I S)(ka:Bk h ab [.ptr I.s 0]):
  Ct P0 E F K 27 [.ptr ab 0] h (fun v h'=> ∃κ' n,v=AI ((n:Nat):Int)∧ns S n∧ApR κ' h' I S∧AChg κ h κ' h'):=by
 have lk:=ka.lt
 refine Al L Y.f27 Y.k27 rfl rfl fun Q x cs G=>?_
 refine wk ?_
 have k1:K0 h (hp (h.n+1) h.t [(h.n,some (cl [AI ((0:Nat):Int)]))]):=kps
 have hc1: ∀b,b<h.n→Dd κ h.n b=κ b:=fun b hb=>C7 hb
 have r1:ApR (Dd κ h.n) (hp (h.n+1) h.t [(h.n,some (cl [AI ((0:Nat):Int)]))]) I S:=r.k0 k1 hc1
 have a1:AChg κ h (Dd κ h.n) (hp (h.n+1) h.t [(h.n,some (cl [AI ((0:Nat):Int)]))]):=AChg.k0 k1 hc1
 have kc1:Bk (hp (h.n+1) h.t [(h.n,some (cl [AI ((0:Nat):Int)]))]) h.n [AI ((0:Nat):Int)]:=lkp
 have hn1:(hp (h.n+1) h.t [(h.n,some (cl [AI ((0:Nat):Int)]))]).n=h.n+1:=rfl
 have cl1: ∀κ2 h2,K0 (hp (h.n+1) h.t [(h.n,some (cl [AI ((0:Nat):Int)]))]) h2→(hp (h.n+1) h.t [(h.n,some (cl [AI ((0:Nat):Int)]))]).n<h2.n→(∀b,b<(hp (h.n+1) h.t [(h.n,some (cl [AI ((0:Nat):Int)]))]).n→κ2 b=Dd κ h.n b)→ApR κ2 h2 I S→CtX P0 E F K 76 (.ptr I.s 0:: [.ptr h.n 0]) h2
   (fun v h'=> ∃κ' S',ApR κ' h' I S'∧AChX (fun j=>j=h.n) κ2 h2 κ' h'∧(S'=S∧ ∃n,ns S n∧Bk h' h.n [AI ((n:Nat):Int)]))
   (fun v h'=> ∃κ' S' e,v= .ifc 44 (AI e)∧ApR κ' h' I S'∧AChX (fun j=>j=h.n) κ2 h2 κ' h'∧False):=by
  intro κ2 h2 k2 n2 c2 r2
  rw [hn1]at n2 c2
  have hk1:κ2 h.n=200:=(c2 _ (by omega)).trans (Be (Nat.le_refl _))
  refine((nu L X Y r2 (Ag k2 kc1) (by omega)).mono ?_).X
  rintro v h' ⟨q1,n,q2,q3⟩
  exact⟨ext κ2 h2.n,S,r2.own q1 (fun j _ e=>by subst e;omega) fun b hb=>Af hb,⟨q1.mono fun b e=> .inr e,fun b hb=>Af hb⟩,rfl,n,q2,q3⟩
 refine cal (c:=Ei L X r1 (Ag k1 ka) (fun b e=>by subst e;exact Nat.lt_succ_self _) cl1) (g:=?_)
 rintro v h2 ⟨κ',S',h1,r',a',k',hv⟩
 rw [hn1]at k'
 rcases hv with⟨rfl,u,rfl,n,q0,q1⟩|⟨e,rfl,q⟩
 ·have a2:AChg κ h κ' h2:=a'.own a1 fun b e=>by subst e;exact Nat.le_refl _
  have q1':Bk h2 h.n [AI ((n:Nat):Int)]:=As k' (by omega) q1
  have lq:=q1'.lt
  have hk1:κ' h.n=200:=(a'.col _ (by rw [hn1];omega)).trans (Be (Nat.le_refl _))
  refine wk ?_
  refine ret Y.f27 ?_
  refine⟨κ',n,rfl,q0,r'.out (B:=fun j=>j=h.n) ?_ (fun b _ e=>by subst e;omega),AChg.own (B:=fun j=>j=h.n) a2 ?_ (fun b e=>by subst e;exact Nat.le_refl _) fun _ _=>rfl⟩
  ·exact kps
  ·exact kps
 ·exact q.elim
theorem s9 {c:Nat}(r:ApR κ h I S)(kc:Bk h c [AI ((0:Nat):Int)])(hc:200≤κ c)(hsu: ∀k,S.su k=true→0≤k∧k<S.D.nb):Ct P0 E F K 77 [.ptr I.s 0,.ptr c 0] h fun v h'=>Kp (fun j=>j=c) h h'∧ ∃n,sy S n∧Bk h' c [AI ((n:Nat):Int)]:=by
 have sk:=r.sk
 have ls:=sk.lt
 have lc:=kc.lt
 have hcol:=r.col
 unfold apC at sk
 refine Ad L Y.f77 Y.k77 rfl rfl fun Q x cs G=>?_
 obtain⟨M,ck,m1,m2,m3⟩:=r.ms.ex
 obtain⟨cbl,po⟩:=r.po
 have hM:M.length≤S.D.nb:=by
  obtain⟨l,e1,e2,e3⟩:=Sx m2 m3
  rw [←e1]
  exact Dk S.D.nb l e2 fun y hy=>hsu y (e3 y hy)
 have hnb:=r.dv.ok.g.nb
 have hcn:=Gh S.ps 4 S.D.nb
 refine wk ?_
 refine cal (c:=Wx L X Y po) (g:=?_)
 rintro _ rfl
 refine wk ?_
 (apply Cp rfl rfl;exact jk rfl m1)
 refine wk ?_
 refine ret Y.f77 ?_
 exact⟨kps,_,⟨_,rfl,Sx m2 m3⟩,by exact lkp⟩
theorem nv {ab:Nat}(r:ApR κ h I S)(ka:Bk h ab [.ptr I.s 0])(hsu: ∀k,S.su k=true→0≤k∧k<S.D.nb):
  Ct P0 E F K 28 [.ptr ab 0] h (fun v h'=> ∃κ' n,v=AI ((n:Nat):Int)∧sy S n∧ApR κ' h' I S∧AChg κ h κ' h'):=by
 have lk:=ka.lt
 refine Al L Y.f28 Y.k28 rfl rfl fun Q x cs G=>?_
 refine wk ?_
 have k1:K0 h (hp (h.n+1) h.t [(h.n,some (cl [AI ((0:Nat):Int)]))]):=kps
 have hc1: ∀b,b<h.n→Dd κ h.n b=κ b:=fun b hb=>C7 hb
 have r1:ApR (Dd κ h.n) (hp (h.n+1) h.t [(h.n,some (cl [AI ((0:Nat):Int)]))]) I S:=r.k0 k1 hc1
 have a1:AChg κ h (Dd κ h.n) (hp (h.n+1) h.t [(h.n,some (cl [AI ((0:Nat):Int)]))]):=AChg.k0 k1 hc1
 have kc1:Bk (hp (h.n+1) h.t [(h.n,some (cl [AI ((0:Nat):Int)]))]) h.n [AI ((0:Nat):Int)]:=lkp
 have hn1:(hp (h.n+1) h.t [(h.n,some (cl [AI ((0:Nat):Int)]))]).n=h.n+1:=rfl
 have cl1: ∀κ2 h2,K0 (hp (h.n+1) h.t [(h.n,some (cl [AI ((0:Nat):Int)]))]) h2→(hp (h.n+1) h.t [(h.n,some (cl [AI ((0:Nat):Int)]))]).n<h2.n→(∀b,b<(hp (h.n+1) h.t [(h.n,some (cl [AI ((0:Nat):Int)]))]).n→κ2 b=Dd κ h.n b)→ApR κ2 h2 I S→CtX P0 E F K 77 (.ptr I.s 0:: [.ptr h.n 0]) h2
   (fun v h'=> ∃κ' S',ApR κ' h' I S'∧AChX (fun j=>j=h.n) κ2 h2 κ' h'∧(S'=S∧ ∃n,sy S n∧Bk h' h.n [AI ((n:Nat):Int)]))
   (fun v h'=> ∃κ' S' e,v= .ifc 44 (AI e)∧ApR κ' h' I S'∧AChX (fun j=>j=h.n) κ2 h2 κ' h'∧False):=by
  intro κ2 h2 k2 n2 c2 r2
  rw [hn1]at n2 c2
  have hk1:κ2 h.n=200:=(c2 _ (by omega)).trans (Be (Nat.le_refl _))
  refine((s9 L X Y r2 (Ag k2 kc1) (by omega) hsu).mono ?_).X
  rintro v h' ⟨q1,n,q2,q3⟩
  exact⟨ext κ2 h2.n,S,r2.own q1 (fun j _ e=>by subst e;omega) fun b hb=>Af hb,⟨q1.mono fun b e=> .inr e,fun b hb=>Af hb⟩,rfl,n,q2,q3⟩
 refine cal (c:=Ei L X r1 (Ag k1 ka) (fun b e=>by subst e;exact Nat.lt_succ_self _) cl1) (g:=?_)
 rintro v h2 ⟨κ',S',h1,r',a',k',hv⟩
 rw [hn1]at k'
 rcases hv with⟨rfl,u,rfl,n,q0,q1⟩|⟨e,rfl,q⟩
 ·have a2:AChg κ h κ' h2:=a'.own a1 fun b e=>by subst e;exact Nat.le_refl _
  have q1':Bk h2 h.n [AI ((n:Nat):Int)]:=As k' (by omega) q1
  have lq:=q1'.lt
  have hk1:κ' h.n=200:=(a'.col _ (by rw [hn1];omega)).trans (Be (Nat.le_refl _))
  refine wk ?_
  refine ret Y.f28 ?_
  refine⟨κ',n,rfl,q0,r'.out (B:=fun j=>j=h.n) ?_ (fun b _ e=>by subst e;omega),AChg.own (B:=fun j=>j=h.n) a2 ?_ (fun b e=>by subst e;exact Nat.le_refl _) fun _ _=>rfl⟩
  ·exact kps
  ·exact kps
 ·exact q.elim
end
end
end Go.Ev
