/- Part of the proof. -/
import Derived.Test.YtclfgfpebplncaaGreatH09
import Derived.Test.YtclfgfpebplncaaGreatH07
import Derived.Test.YtclfgfpebplncaaGreatH10
import Derived.Test.YtclfgfpebplncaaGreatH11
import Derived.Test.YtclfgfpebplncaaGreatH04
set_option linter.unusedVariables false
set_option linter.unusedSectionVars false
set_option linter.unusedSimpArgs false
set_option maxRecDepth 10000
set_option maxHeartbeats 4000000
namespace Go.Ev
variable {D:Dv}{E:Env}{F:T CFn}{K:T (List AV×AV)}{P0:Program}{S:List Int}{b cap i la lo nx pb:Nat}{h h':H}{v v1 v2:AV}{y:O}{κ:Nat→Nat}
section
variable (L:Lg P0 E F K)(X:Fx F K)
include L X
section
variable {gd:Option (Nat×Bool)}{l:List (Nat×Option AV)}{x:O}{d fn nt n bytes:Nat}{t:T Blk}{lh:List (Nat×Option Blk)}{k:List AItem}{r:List CI}{ds:List ADef}{dfd:Bool}{ro:Option Nat}{cs:List AFr}{Q:Nat→AV→Prop}
omit L X in
theorem RowN.kv {B:Nat→Prop}{D:List Int}(q:RowN h lo v D)(k:Kp B h h')(hs: ∀b n c,v= .slc b 0 n c→ ¬B b):RowN h' lo v D:= ⟨q.ex.imp id fun⟨h2,b,h3,h4,h5⟩=>⟨h2,b,h3,Aq k (hs b _ _ h3) h4,h5⟩⟩
omit L X in
theorem RowN.plain {D:List Int}(q:RowN h lo v D):Bc v=some [v]:=by rcases q.ex with⟨-,rfl⟩|⟨-,b,rfl,-⟩ <;> rfl
omit L X in
structure RowE (h:H)(lo:Nat)(v:AV)(S:List Int):Prop where
 ex:(S= []∧v= .nils)∨ ∃b c,v= .slc b 0 S.length (Aa+1)∧Bk h b c∧c.take S.length=S.map AI∧lo≤b
omit L X
theorem dh: ∀l:List Int,Ar (l.map AI)=true
 | []=>rfl
 |_::l=>dh l
theorem Adf (k:Bk h b (S.map AI)):SlR 1 h (.slc b 0 S.length cap) S.length (S.map AI):=SlR.of k (by simp) (by rw [List.drop_zero,List.take_of_length_le (by simp)])
theorem Aoa {c:List AV}(k:Bk h b c)(e:c.take S.length=S.map AI):SlR 1 h (.slc b 0 S.length cap) S.length (S.map AI):=by have:=congrArg List.length e;rw [List.length_take,List.length_map]at this;exact SlR.of k (by omega) (by rw [List.drop_zero,Nat.mul_one];exact e)
theorem RowE.kz {lo':Nat}(q:RowE h lo v S)(k:K0 h h')(hl:lo'≤lo:=by omega):RowE h' lo' v S:= ⟨q.ex.imp id fun⟨b,c,e,kb,sb,g⟩=>⟨b,c,e,Ag k kb,sb,Nat.le_trans hl g⟩⟩
include L X
theorem Adg {lo2:Nat}{w:AV}{ls new:List Int}(hg:gdO gd l=some true)(e:evO l x=some v)(q:RowE (hp n t lh) lo v ls)(hlo:lo≤n)(e1:evO l y=some w)(q2:RowN (hp n t lh) lo2 w new)(hb:(ls.length+new.length)*(bytes+1)≤1099511627776) (g: ∀v' h',RowE h' lo v' (ls++new)→Kp (fun j=>lo≤j) (hp n t lh) h'→Good P0 E Q ⟨⟨fn,nt,tms ((d,some v')::l),.ops r::k,ds,.run,dfd,ro⟩,cs,hp h'.n h'.t []⟩): Good P0 E Q ⟨⟨fn,nt,tms l,.ops (⟨some d,gd,.append 1 bytes x y⟩::r)::k,ds,.run,dfd,ro⟩,cs,hp n t lh⟩:=by
 rcases q2.ex with⟨rfl,rfl⟩|⟨h2,b2,rfl,k2,-⟩
 ·rw [List.append_nil]at g;rcases q.ex with⟨rfl,rfl⟩|⟨b,c,rfl,kb,sb,hl⟩;·exact Eg L (Aw hg) (Acx e e1).e (g .nils (hp n t lh) ⟨.inl ⟨rfl,rfl⟩⟩ (.refl _))
  ·exact Eg L (Aw hg) (Ajf e e1).e (g _ (hp n t lh) q (.refl _))
 ·have s2:=Adf (cap:=Aa+1) k2;rcases q.ex with⟨rfl,rfl⟩|⟨b,c,rfl,kb,sb,hl⟩;·have kk:Bk (hp (n+1) t ((n,some (cl (new.map AI)))::lh)) n (new.map AI):=lkp;exact Eg L (Aw hg) (Dr e e1 s2 h2 (by simpa using hb)).e (g (.slc n 0 new.length (Aa+1)) (hp (n+1) t ((n,some (cl (new.map AI)))::lh)) ⟨.inr ⟨n,_,rfl,kk,List.take_of_length_le (by simp),hlo⟩⟩ kps)
  ·have kk:Bk (hp (n+1) t ((n,some (cl (ls.map AI++new.map AI)))::(b,none)::lh)) n ((ls++new).map AI):=(by rw [List.map_append];exact lkp);have:=g (.slc n 0 (ls.length+new.length) (Aa+1)) (hp (n+1) t ((n,some (cl (ls.map AI++new.map AI)))::(b,none)::lh)) ⟨.inr ⟨n,_,by rw [List.length_append],kk,List.take_of_length_le (by simp),hlo⟩⟩ kps;exact Eg L (Aw hg) (Dq e e1 (Aoa kb sb) s2 h2 hb (dh _)).e this
end
theorem wv {n:Nat}(hn:n<10000):Ct P0 E F K 183 [.nils,AN n] h fun v h'=>RowE h' h.n v []∧K0 h h':=by
 refine Af L X.f183 fun Q x cs G=>?_;by_cases h0:n=0;·subst h0;refine ret X.f183.1 ?_;exact⟨⟨.inl ⟨rfl,rfl⟩⟩,kps⟩
 ·refine wk ?_;(apply st1 L rfl;exact Acz rfl rfl (by omega) (by omega) (by omega) (by omega);rfl);refine ret X.f183.1 ?_;exact⟨⟨.inr ⟨h.n,_,rfl,lkp,rfl,Nat.le_refl _⟩⟩,kps⟩
theorem Zv {w1 w2:AV}{s1 s2:List Int}(hp1:Bk h pb [w1,w2])(q1:RowN h lo w1 s1)(q2:RowN h lo w2 s2)(hl:s1.length<1000∧s2.length<1000):Ct P0 E F K 129 [.slc pb 0 2 2] h fun v h'=>RowE h' h.n v (s1++s2)∧K0 h h':=by
 have l1:=hp1.lt;have q1':=q1.ex;have q2':=q2.ex;rcases q1' with⟨e1,rfl⟩|⟨p1,b1,rfl,kb1,-⟩ <;> rcases q2' with⟨e2,rfl⟩|⟨p2,b2,rfl,kb2,-⟩
 all_goals
  try have lb1:=kb1.lt
  try have lb2:=kb2.lt
  try subst e1
  try subst e2
  refine Ao L X.f129 fun Q x cs G=>?_;refine wk ?_;refine Bt L ?_;refine wk ?_;refine Bw L ?_;refine wk ?_;refine Bw L ?_;refine cal ?_ (c:=wv L X (by omega));rintro v3 h3 ⟨g3,k3⟩;have n3:=k3.n;simp only [Al]at n3 g3;refine wk ?_;refine Bt L ?_;refine wk ?_;refine Adg L X rfl rfl (lo:=h.n) (g3.kz (by exact kps)) (by omega) rfl (q1.k0 (by exact kps)) (by simp only [List.length_nil];omega) ?_;rintro v4 h4 g4 k4;have n4:=k4.n;simp only [Al]at n4;have k34:K0 h h4:=kps;refine wk ?_;refine Bw L ?_;refine wk ?_;refine Adg L X rfl rfl (lo:=h.n) (g4.kz (by exact kps)) (by omega) rfl (q2.k0 (by exact kps)) (by simp only [List.nil_append];omega) ?_;rintro v5 h5 g5 k5;have n5:=k5.n;simp only [Al]at n5;refine wk ?_;refine Bw L ?_;refine ret X.f129.1 ?_;simp only [List.nil_append,List.append_nil]at g5;(try simp only [List.nil_append,List.append_nil]);exact⟨g5.kz (by exact kps),kps⟩
end
theorem Aol {p:Prop}(h:p:=by
 refine wk ?_
 refine Ej L (Gk.e lkg) G2 ⟨rfl,?_⟩
 refine⟨kps,lkg,(by unfold xg;exact Fy (by omega)),lkp,lkp,lkp,lkp,lkp,_,lkp,.inr ⟨by omega,_,rfl,?_,by omega⟩⟩
 rw [T3];exact lkp):p:=h
section
variable (L:Lg P0 E F K)(X:Fx F K)
include L X
omit L X in
theorem Aom {l:List (Nat×Option AV)}{x:O}{a b:AV}(e1:evO l x=some v1)(e2:evO l y=some v2)(h1:Bc v1=some [v1])(h2:Bc v2=some [v2]):Jn l [(0,1,x),(1,1,y)] [a,b]=some [v1,v2]:=by simp only [Jn,e1,e2,h1,h2];rfl
omit L X in
theorem xf {l:List Int}(h:l[i]?=some (b:Int)):(fun x:Nat=>if((x:Nat):Int)∈l.take (i+1)then 3 else 1)=upd (fun x:Nat=>if((x:Nat):Int)∈l.take i then 3 else 1) b 3:=funext fun x=>by
 unfold upd
 rw [List.take_add_one,h]
 by_cases e:x=b
 ·subst e;simp
 ·rw [if_neg e]
  have:(x:Int)≠(b:Int):=by omega
  simp [this]
def Iw (ev v1 v2:AV)(la nx:Nat):List AV:= [ev,UN la,UN nx,v1,v2]
noncomputable def xg (bx a mk:Nat)(st:LS):Blk:= .loop ⟨st,none,78,cf78.ntmps,tms [(20,some (.fn (.func 180) [] [.ptr a 0])),(5,some (.ptr (bx+3) 0)),(4,some (.ptr (bx+2) 0)),(3,some (.ptr (bx+1) 0)),(2,some (.ptr bx 0))],[21,22],Ajz,Aj0,mk⟩
structure RSt (h hh:H)(fd:List AV)(s a b mk nb:Nat)(er:Nat→Nat)(i:Nat):Prop where
 k:K0 h hh
 dk:Gk hh mk (.dfr (some []))
 lp:Gk hh (mk+1) (xg h.n a mk .ready)
 ka:Bk hh a [.slc b 0 nb (Aa+1)]
 kb:Bk hh b (Hl er nb)
 k2:Bk hh h.n [.ptr s 0]
 k3:Bk hh (h.n+1) fd
 k4:Bk hh (h.n+2) [.bool false]
 ex: ∃w,Bk hh (h.n+3) [w]∧((i=0∧w= .nils)∨(0<i∧ ∃x,w= .slc x 0 i (Aa+1)∧Bk hh x (Hl er i)∧mk+2≤x))
noncomputable def xh (bx a b mk:Nat)(st:LS):Blk:= .loop ⟨st,none,78,cf78.ntmps,tms [(109,some (.fn (.func 188) [] [.ptr a 0,.ptr b 0])),(4,some (.ptr (bx+2) 0)),(2,some (.ptr bx 0))],[110,111],Afy,Afz,mk⟩
def stC (p d:Nat)(nb P sz en m nx la rj rs rw:Nat):List AV:= [.ptr p 0,.ptr d 0,AN nb,AN P,AN sz,AN en,.ptr m 0,UN nx,UN la,AI (-1),AI (-1),.map rj,.map rs,.map rw,.bool false]
def stN (d:Nat)(nb P sz en m nx la rj rs rw:Nat):List AV:= [.nilp,.ptr d 0,AN nb,AN P,AN sz,AN en,.ptr m 0,UN nx,UN la,AI (-1),AI (-1),.map rj,.map rs,.map rw,.bool false]
structure RS2 (h hh:H)(s rj a b lb mk mk1 p pb nb:Nat)(ps er:Nat→Nat)(sc cb:List AV)(f:Int→Bool):Prop where
 k:Kp (fun j=>j=s∨j=rj) h hh
 dk:Gk hh mk (.dfr (some []))
 d1:Gk hh mk1 (.dfr (some []))
 lp:Gk hh (mk+1) (xh h.n a b mk .ready)
 ka:Bk hh a [.slc lb 0 nb (Aa+2)]
 kb:Bk hh b [AN 1]
 kl:Bk hh lb cb
 k2:Bk hh h.n [.ptr s 0]
 k4:Bk hh (h.n+2) [.bool false]
 ks:Bk hh s sc
 po:PoC hh p pb nb ps er cb
 mj:SetR hh rj f
theorem m9 {s d fm bb m rj rs rw nx0 la0:Nat}{cb:List AV}{ev:AV}{es:List Ent}{js ds:List Int}(q:DevC κ h d D fm bb cb)(hnb:2≤D.nb∧D.nb≤12)(hP:2≤D.P∧D.P≤6)(her: ∀i,i<D.nb→(D.bl i).er≤100000) (ks:Bk h s (stN d D.nb D.P D.sz D.en m nx la rj rs rw)) (kj:Mk h rj [] 0) (hne:d≠s∧bb≠s∧fm≠s∧d≠rj∧bb≠rj∧fm≠rj∧s≠rj) (he:EL h lo ev es) (q1:RowN h lo v1 js) (q2:RowN h lo v2 ds) (hlo: ∀v∈[ev,v1,v2],∀b n c,v= .slc b 0 n c→b≠s∧b≠rj) (hel:es.length≤1000) (hnd:(js++ds).Nodup) (h1: ∀z∈js++ds,∃b:Nat,z=((b:Nat):Int)∧b<D.nb) (h3x: ∀e∈es,∃b j:Nat,e.2=((b*D.P+j:Nat):Int)∧j<D.P∧b<D.nb∧((b:Nat):Int)∈js++ds∧((b:Nat):Int)∉js) (h4x: ∀b:Nat,b<D.nb→((b:Nat):Int)∉js++ds→(D.bl b).nx=0): Ct P0 E F K 78 [.ptr s 0,.agg (Iw ev v1 v2 la0 nx0)] h fun v h'=>v= .bool true∧ ∃p pb cb',PoC h' p pb D.nb (fun b:Nat=>if((b:Nat):Int)∈js++ds then 3 else 1) (fun i=>(D.bl i).er) cb'∧Bk h' s (stC p d D.nb D.P D.sz D.en m nx la rj rs rw)∧SetR h' rj (fun k=>decide (k∈js))∧h.n≤p∧h.n≤pb∧Kp (fun j=>j=s∨j=rj) h h':=by
 have ls:=ks.lt;have lrj:rj<h.n:=kj.lt;have kj':Mk h rj (([]:List (Int×AV×Nat)).map (mE AI)) 0:=kj;unfold Iw;unfold stN at ks;refine Af L X.f78 fun Q x cs G=>?_;refine cal ?_ (c:=Abf L X (q.kb (Kp.mono (S:=fun _=>False) (fun _ f=>f.elim) (by exact kps))) (by omega));rintro _ h2 ⟨a,b,rfl,w1,w2,w3,w4,w5⟩;have n5:=w5.n;simp only [Al]at n5 w3 w4;have la1:=w1.lt;have lb1:=w2.lt;refine wk ?_;refine Eh L (tm':=tms [(20,some (.fn (.func 180) [] [.ptr a 0])),(5,some (.ptr (h.n+3) 0)),(4,some (.ptr (h.n+2) 0)),(3,some (.ptr (h.n+1) 0)),(2,some (.ptr h.n 0))]) tsb ?_;refine In L (post:=fun _ h'=>RSt h h' (Iw ev v1 v2 la0 nx0) s a b h2.n D.nb (fun i=>(D.bl i).er) D.nb) rfl rfl rfl ?_ ?_
 ·refine Ct.A ((vx L X (f:=fun i=>(D.bl i).er) hnb.2 (fun i hh=>RSt h hh (Iw ev v1 v2 la0 nx0) s a b h2.n D.nb (fun i=>(D.bl i).er) i) (fun i hh r=>⟨r.ka,r.kb⟩) (fun i hh h' r k=>?_) (fun i hh hi r=>?_) ⟨kps,lkg,(by unfold xg;exact lkg),lkp,lkp,lkp,(by unfold Iw;exact lkp),lkp,.nils,lkp,.inl ⟨rfl,rfl⟩⟩).mono fun v h' p=>p)
  ·exact⟨Kp.tr0 k r.k,Fg k r.dk,Fg k r.lp,Ag k r.ka,Ag k r.kb,Ag k r.k2,Ag k r.k3,Ag k r.k4,by
    obtain⟨w,e1,e2⟩:=r.ex;refine⟨w,Ag k e1,?_⟩;rcases e2 with e2|⟨e2,x,e3,e4,e5⟩;·exact .inl e2
    ·exact .inr ⟨e2,x,e3,Ag k e4,e5⟩⟩
  ·obtain⟨r1,r2,r3,r4,r5,r6,r7,r8,w,r9,r10⟩:=r;have hle:=r3.e;unfold xg at hle;have g1:=r2.lt;have g2:=r3.lt;have g3:=r4.lt;have g4:=r5.lt;have g6:=r6.lt;have g7:=r7.lt;have g8:=r8.lt;have g9:=r9.lt;refine Gu L (l1:= [(22,some (AN ((D.bl i).er))),(21,some (AN i)),(20,some (.fn (.func 180) [] [.ptr a 0])),(5,some (.ptr (h.n+3) 0)),(4,some (.ptr (h.n+2) 0)),(3,some (.ptr (h.n+1) 0)),(2,some (.ptr h.n 0))]) hle rfl ?_;intro Q z2 cs G2;refine wk ?_;refine Fh L (Gk.e lkg) ?_;rcases r10 with⟨rfl,rfl⟩|⟨r10,x,rfl,r11,r12⟩;·refine wk ?_;(apply st1 L rfl;exact Dr (new:= [AN ((D.bl 0).er)]) rfl rfl (SlR.of (c:= [AN ((D.bl 0).er)]) lkp (Nat.le_refl _) rfl) (by omega) (by omega);rfl);exact Aol
   ·have lx:=r11.lt;refine wk ?_;(apply st1 L rfl;exact Dq (old:=Hl (fun i=>(D.bl i).er) i) (new:= [AN ((D.bl i).er)]) rfl rfl (SlR.of (c:=Hl (fun i=>(D.bl i).er) i) lkp (by rw [M8];omega) (by rw [List.drop_zero,List.take_of_length_le (by rw [M8];omega)])) (SlR.of (c:= [AN ((D.bl i).er)]) lkp (Nat.le_refl _) rfl) (by omega) (by omega) rfl;rfl);exact Aol
 ·rintro v h3 ⟨r1,r2,r3,r4,r5,r6,r7,r8,w,r9,r10⟩;have r1x:=r1;have hle:=r3.e;unfold xg at hle;unfold Iw at r7;have g2:=r2.lt;have g3:=r3.lt;have g6:=r6.lt;have g7:=r7.lt;have g8:=r8.lt;have g9:=r9.lt;rcases r10 with⟨e0,-⟩|⟨r10,xb,rfl,r11,r12⟩;·omega
  have lx:=r11.lt;have ks3:=Ag r1 ks;have ls3:=ks3.lt;refine Io L (n:=h3.n) (t:=h3.t) (lh:= []) hle (by intro q;cases q) ?_;refine cal ?_ (c:=Abh L X (eb:=xb) (nb:=D.nb) (pe:=fun i=>(D.bl i).er) (by exact lkp) ⟨by omega,hnb.2⟩ her);rintro _ h4 ⟨p,pb,cb',rfl,po,w6,w7,w8⟩;have n8:=w8.n;simp only [Al]at n8 w6 w7;have lpo:=po.pk.lt;have lpb:=po.bk.lt;have dk4:Gk h4 h2.n (.dfr (some [])):=Fg w8 (by exact lkg);have hbd:=D2 D.nb (js++ds) hnd fun z hz=>let⟨b,e,hb⟩:=h1 z hz;⟨by omega,by omega⟩;have hjl:js.length+ds.length≤12:=by rw [List.length_append]at hbd;omega
  clear r3 hle w1 w2 w5 r4 r5 r2;have k5:Bk h4 (h.n+3) [.slc xb 0 D.nb (Aa+1)]:=lkp;have kx:Bk h4 xb (Hl (fun i=>(D.bl i).er) D.nb):=lkp;clear r11 r9;refine wk ?_;(apply st1 L rfl;exact Wr (Aom rfl rfl q1.plain q2.plain);rfl);have kd4:Kp (fun j=>j=s) h h4:=kps;refine cal ?_ (c:=Zv (lo:=lo) L X (by exact lkp) (q1.kv (B:=fun j=>j=s) (by exact kps) fun b n c e=>(hlo _ (by simp) b n c e).1) (q2.kv (B:=fun j=>j=s) (by exact kps) fun b n c e=>(hlo _ (by simp) b n c e).1) ⟨by omega,by omega⟩);rintro lv h5 ⟨g5,w9⟩;have n9:=w9.n;simp only [Al]at n9 g5;have hel1: ∀i,i<(js++ds).length→ ∃b:Nat,(js++ds)[i]?=some ((b:Nat):Int)∧b<D.nb∧((b:Nat):Int)∉(js++ds).take i:=fun i hi=>by have hx:(js++ds)[i]?=some (js++ds)[i]:=List.getElem?_eq_getElem hi;obtain⟨b,e,hb⟩:=h1 _ (List.getElem_mem hi);rw [e]at hx;refine⟨b,hx,hb,fun hm=>?_⟩;obtain⟨j,hj,ej⟩:=List.mem_take_iff_getElem.1 hm;have:=(List.pairwise_iff_getElem.1 hnd) j i (by omega) hi (by omega);exact this (ej.trans e.symm)
  have kfd:Bk h4 (h.n+1) [ev,UN la0,UN nx0,v1,v2]:=lkp
  have tail: ∀(h8:H) (cb8:List AV) (lq:List (Nat×Option AV)),PoC h8 p pb D.nb (fun b:Nat=>if((b:Nat):Int)∈js++ds then 3 else 1) (fun i=>(D.bl i).er) cb8→SetR h8 rj (fun k=>decide (k∈js))→Bk h8 s (stC p d D.nb D.P D.sz D.en m nx la rj rs rw)→Kp (fun j=>j=rj∨j=p∨j=pb) h5 h8→
    TSub (tms [(108,some (.ptr p 0)),(4,some (.ptr (h.n+2) 0)),(2,some (.ptr h.n 0))]) (tms lq)→Good P0 E Q ⟨⟨78,cf78.ntmps,tms lq,[.ops [Cc 109 132 [.t 108,Cz 1]],.code Af0,.code Af1],[.mark h2.n],.run,false,none⟩,x::cs,hp h8.n h8.t []⟩:=by
   intro h8 cb8 lq po8 sj8 ks8 kp8 ht
   refine Eh L ht ?_
   have n8':=kp8.n
   have lpo8:=po8.pk.lt
   have lpb8:=po8.bk.lt
   have dk8:Gk h8 h2.n (.dfr (some [])):=Lk kp8 (by omega) (Fg w9 (by exact lkg))
   have e2:Bk h8 h.n [.ptr s 0]:=lkp
   have e4:Bk h8 (h.n+2) [.bool false]:=lkp
   have kd8:Kp (fun j=>j=s∨j=rj) h h8:=kps
   have f4:=e2.lt
   have f5:=e4.lt
   have f6:=dk8.lt
   clear kp8 w9 dk4 k5 kx kfd po r6 r7 r8
   refine cal ?_ (c:=Lw L X (s:=1) (po8.k0 (by exact kps)))
   rintro _ h6 ⟨a2,b2,lb2,rfl,v1,v2,v3,v4,v5,v6,v7⟩
   have n7:=v7.n
   simp only [Al]at n7 v4 v5 v6
   have dk6:Gk h6 h2.n (.dfr (some [])):=Fg (by exact kps) dk8
   have po6:=po8.k0 (h':=h6) (by exact kps)
   have e6:Bk h6 s (stC p d D.nb D.P D.sz D.en m nx la rj rs rw):=Ag v7 ks8
   have sj6:=sj8.kp (B:=fun _=>False) (h':=h6) (by exact kps) id
   have e2':Bk h6 h.n [.ptr s 0]:=Ag v7 e2
   have e4':Bk h6 (h.n+2) [.bool false]:=Ag v7 e4
   have kd6:Kp (fun j=>j=s∨j=rj) h h6:=kps
   have f1:=v1.lt
   have f2:=v2.lt
   have f3:=v3.lt
   clear v7
   refine wk ?_
   refine Eh L (tm':=tms [(109,some (.fn (.func 188) [] [.ptr a2 0,.ptr b2 0])),(4,some (.ptr (h.n+2) 0)),(2,some (.ptr h.n 0))]) tsb ?_
   refine In L (post:=fun _ h'=>RS2 h h' s rj a2 b2 lb2 h6.n h2.n p pb D.nb (fun b:Nat=>if((b:Nat):Int)∈js++ds then 3 else 1) (fun i=>(D.bl i).er) (stC p d D.nb D.P D.sz D.en m nx la rj rs rw) cb8 (fun k=>decide (k∈js))) rfl rfl rfl ?_ ?_
   ·refine Ct.A ((J1 L X (ps:=(fun b:Nat=>if((b:Nat):Int)∈js++ds then 3 else 1)) (pe:=(fun i=>(D.bl i).er)) (cb:=cb8) po6.len hnb.2 po6.c0 po6.c1 (fun i hh=>RS2 h hh s rj a2 b2 lb2 h6.n h2.n p pb D.nb (fun b:Nat=>if((b:Nat):Int)∈js++ds then 3 else 1) (fun i=>(D.bl i).er) (stC p d D.nb D.P D.sz D.en m nx la rj rs rw) cb8 (fun k=>decide (k∈js))) (fun i hh r=>⟨r.ka,r.kb,r.kl⟩) (fun i hh h' r k=>?_) (fun i hh hi e r=>?_) (fun i hh hi e r=>r) ⟨kps,lkg,lkg,(by unfold xh;exact lkg),lkp,lkp,lkp,lkp,lkp,lkp,po6.k0 (by exact kps),sj6.kp (B:=fun _=>False) (by exact kps) id⟩).mono fun v h' p=>p)
    ·exact⟨Kp.tr0 k r.k,Fg k r.dk,Fg k r.d1,Fg k r.lp,Ag k r.ka,Ag k r.kb,Ag k r.kl,Ag k r.k2,Ag k r.k4,Ag k r.ks,r.po.k0 k,r.mj.kp k id⟩
    ·obtain⟨r1,r2,r3,r4,r5,r6,r7,r8,r9,r10,r11,r12⟩:=r
     have hle:=r4.e
     unfold xh at hle
     have g1:=r2.lt
     have g2:=r3.lt
     have g3:=r4.lt
     have g4:=r5.lt
     have g5:=r6.lt
     have g7:=r7.lt
     have g8:=r8.lt
     have g9:=r9.lt
     have g10:=r10.lt
     have g11:=r11.pk.lt
     have g12:=r11.bk.lt
     have hd:Bk hh d (dvC D fm bb):=Aq r1 (by omega) q.dk
     have hbb:Bk hh bb cb:=Aq r1 (by omega) q.bk
     have hdl:=hd.lt
     have hbl:=hbb.lt
     have hdo:=q.dk.lt
     have hbo:=q.bk.lt
     obtain⟨pn,c,hrow⟩:=q.rows i hi
     have hc1:=hrow.c1
     have hin:(i:Int)∉js++ds:=fun hm=>by
      have e:(if(i:Int)∈js++ds then 3 else 1)=1:=e
      rw [if_pos hm]at e;cases e
     rw [h4x i hi hin]at hc1
     unfold stC at r10
     refine Gu L (l1:= [(111,some (AN ((D.bl i).er))),(110,some (AN i)),(109,some (.fn (.func 188) [] [.ptr a2 0,.ptr b2 0])),(4,some (.ptr (h.n+2) 0)),(2,some (.ptr h.n 0))]) hle rfl ?_
     intro Q z2 cs G2
     refine wk ?_
     refine Fh L (Gk.e lkg) ?_
     refine cal ?_ (c:=Ir L X (D:=D) (fm:=fm) (bb:=bb) (cb:=cb) (i:=i) (nx:=0) (by exact lkp) (by exact lkp) hi hc1)
     rintro _ rfl
     refine wk ?_
     refine Ej L (Gk.e lkg) G2 ⟨rfl,?_⟩
     refine⟨kps,lkg,lkg,(by unfold xh;exact Fy (by omega)),lkp,lkp,lkp,lkp,lkp,(by unfold stC;exact lkp),r11.kp (S:=fun j=>j=h6.n+1) kps (by omega) (by omega),r12.kp (B:=fun j=>j=h6.n+1) (by exact kps) (by omega)⟩
   ·rintro v h7 ⟨r1,r2,r3,r4,r5,r6,r7,r8,r9,r10,r11,r12⟩
    have hle:=r4.e
    unfold xh at hle
    have g1:=r2.lt
    have g2:=r3.lt
    have g3:=r4.lt
    have g9:=r9.lt
    have g10:=r10.lt
    have g11:=r11.pk.lt
    have g12:=r11.bk.lt
    refine Io L (n:=h7.n) (t:=h7.t) (lh:= []) hle (by intro q;cases q) ?_
    refine wk ?_
    refine Gt L (todo:= []) ?_
    refine Hj L (by intro q;cases q) (Gk.e lkg) ?_
    refine Hj L (by intro q;cases q) (Gk.e lkg) ?_
    refine D7 L X.f78.1 (C4 (b:=h.n+2) rfl (Bk.e lkp) rfl Er) G ⟨rfl,p,pb,cb8,r11.kp (S:=fun j=>j=h6.n+1∨j=h.n+2∨j=h6.n∨j=h2.n) ?_ (by omega) (by omega),lkp,r12.kp (B:=fun j=>j=h6.n+1∨j=h.n+2∨j=h6.n∨j=h2.n) ?_ (by omega),by omega,by omega,kps⟩
    ·exact kps
    ·exact kps
  have main: ∀lq,TSub (tms [(45,some Zi),(44,some (AN ((js++ds).length))),(43,some lv),(8,some (.ptr p 0)),(5,some (.ptr (h.n+3) 0)),(4,some (.ptr (h.n+2) 0)),(3,some (.ptr (h.n+1) 0)),(2,some (.ptr h.n 0))]) (tms lq)→
    Good P0 E Q ⟨⟨78,cf78.ntmps,tms lq,[.code Afw,.inBlock 2,.code Af2],[.mark h2.n],.run,false,none⟩,x::cs,hp h5.n h5.t []⟩:=by
   intro lq ht
   refine Bs L (bd:=Afv) (α:= Unit) (T:=fun i _=> [(45,some (AN i)),(44,some (AN ((js++ds).length))),(43,some lv),(8,some (.ptr p 0)),(5,some (.ptr (h.n+3) 0)),(4,some (.ptr (h.n+2) 0)),(3,some (.ptr (h.n+1) 0)),(2,some (.ptr h.n 0))]) (n:=(js++ds).length)
    (R:=fun i _ hh=>(∃cbi,PoC hh p pb D.nb (fun b:Nat=>if((b:Nat):Int)∈(js++ds).take i then 3 else 1) (fun i=>(D.bl i).er) cbi)∧SetR hh rj (fun k=>decide (k∈js.take i))∧Bk hh s (stC p d D.nb D.P D.sz D.en m nx la rj rs rw)∧Kp (fun j=>j=rj∨j=p∨j=pb) h5 hh) (i0:=0) () ht ⟨⟨cb',by simpa using po.kp (S:=fun j=>j=s) (by exact kps) (by omega) (by omega)⟩,?_,(by unfold stC;exact lkp),Kp.refl _⟩ (Nat.zero_le _) ?_ ?_
   ·exact⟨[],0,by exact lkq,MOk.nil,fun k=>by simp;rfl⟩
   ·rintro i _ hh hi ⟨⟨cbi,r1⟩,r2,r3,r4⟩ ih
    obtain⟨b,e1,e2,e3⟩:=hel1 i hi
    have nh:=r4.n
    have hps:(fun b:Nat=>if((b:Nat):Int)∈(js++ds).take i then 3 else 1) b=1:=if_neg e3
    have lpo':=r1.pk.lt
    have lpb':=r1.bk.lt
    have kbx:(Hl (fun i=>(D.bl i).er) D.nb)[b]?=some (AN ((D.bl b).er)):=by unfold Hl;rw [List.getElem?_map,List.getElem?_range e2];rfl
    have hlv: ∃b5 c5,lv= .slc b5 0 (js++ds).length (Aa+1)∧Bk h5 b5 c5∧c5[i]?=some (AN b)∧h4.n+1≤b5:=by
     rcases g5.ex with⟨e0,-⟩|⟨b5,c5,f1,f2,f3,f4⟩
     ·rw [e0]at hi;exact absurd hi (Nat.not_lt_zero _)
     ·refine⟨b5,c5,f1,f2,?_,f4⟩
      rw [←List.getElem?_take_of_lt hi,f3,List.getElem?_map,e1];rfl
    obtain⟨b5,c5,rfl,kb5,hxv,hb5⟩:=hlv
    have lb5:=kb5.lt
    have kh:=Aq r4 (by omega) kb5
    have up:upd (fun i=>(D.bl i).er) b (D.bl b).er=fun i=>(D.bl i).er:=funext fun x=>by
     unfold upd;split
     ·rename_i e;rw [e]
     ·rfl
    rcases q1.ex with⟨j0,rfl⟩|⟨j0,jb,rfl,j1,j2⟩
    all_goals
     refine cal ?_ (c:=H4 L X (r1.k0 (by exact kps)) e2)
     rintro _ rfl
     rw [if_neg e3]
     refine cal ?_ (c:=Abg (t:=3) L X (r1.k0 (by exact kps)) e2 (by omega) (her b e2))
     rintro _ h7 ⟨rfl,⟨cb7,p7⟩,k7⟩
     rw [←xf e1,up]at p7
     have k7':Kp (fun j=>j=rj∨j=p∨j=pb) h5 h7:=kps
     have r3':=Aq (S:=fun j=>j=p∨j=pb) (h':=h7) (by exact kps) (by omega) r3
     have r2':=r2.kp (B:=fun j=>j=p∨j=pb) (h':=h7) (by exact kps) (by omega)
    ·subst j0
     refine wk ?_
     refine ih () _ _ ⟨⟨cb7,p7⟩,?_,r3',k7'⟩ tsb
     rw [List.take_nil]at r2' ⊢
     exact r2'
    ·by_cases hj:i<js.length
     ·obtain⟨M,ck,m1,m2,m3⟩:=r2'.ex
      have lm:=m1.lt
      unfold stC at r3'
      refine wk ?_
      (apply Lm L rfl;exact Ez (KE.int .i64) m2 rfl rfl rfl lkq;rfl)
      refine wk ?_
      refine ih () _ _ ⟨⟨cb7,p7.kp (S:=fun j=>j=rj) (by exact kps) (by omega) (by omega)⟩,?_,(by unfold stC;exact lkp),by exact kps⟩ tsb
      have e5:js[i]?=some (b:Int):=by rw [←e1,List.getElem?_append_left hj]
      have:(fun k=>decide (k∈js.take (i+1)))=Bh (fun k=>decide (k∈js.take i)) (b:Int) true:=funext fun k=>by
       unfold Bh
       rw [List.take_add_one,e5]
       by_cases e:k=(b:Int)
       ·simp [e]
       ·simp [e]
      rw [this]
      exact SetR.set (k:=(b:Int)) lkq m2 m3
     ·refine wk ?_
      refine ih () _ _ ⟨⟨cb7,p7⟩,?_,r3',k7'⟩ tsb
      rw [List.take_of_length_le (by omega)]at r2' ⊢
      exact r2'
   ·rintro _ hh ⟨⟨cbi,r1⟩,r2,r3,r4⟩
    rw [List.take_length]at r1
    rw [List.take_of_length_le (by rw [List.length_append];omega)]at r2
    have nh:=r4.n
    rcases he.ex with⟨e0,rfl⟩|⟨e0,eb,rfl,ke,hel⟩
    ·refine wk ?_
     refine Bt L ?_
     refine wk ?_
     refine tail _ cbi _ (r1.k0 (by exact kps)) (r2.kp (B:=fun _=>False) (by exact kps) id) (by unfold stC;exact lkp) (by exact kps) ?_
     exact tsb
    ·have leb:=ke.lt
     have hne2:=hlo _ (List.mem_cons_self ..) eb _ _ rfl
     have lpo':=r1.pk.lt
     have lpb':=r1.bk.lt
     have ke5:Bk h5 eb (es.flatMap Az):=by have ke4:Bk h3 eb (es.flatMap Az):=Ag r1x ke;exact lkp
     refine wk ?_
     refine Bs L (bd:=Afx) (α:= Unit) (T:=fun i _=> [(78,some (AN i)),(77,some (AN es.length)),(76,some (.slc eb 0 es.length (Aa+2))),(8,some (.ptr p 0)),(5,some (.ptr (h.n+3) 0)),(4,some (.ptr (h.n+2) 0)),(3,some (.ptr (h.n+1) 0)),(2,some (.ptr h.n 0))]) (n:=es.length) (R:=fun i _ h8=>K0 hh h8) (i0:=0) () tsb (by exact kps) (Nat.zero_le _) ?_ ?_
     ·rintro i _ h8 hi w ih
      have hx:es[i]?=some es[i]:=List.getElem?_eq_getElem hi
      obtain⟨b,j,g1,g2,g3,g4,g5⟩:=h3x _ (List.getElem_mem hi)
      have hdt:=B4 es (Fi es) i _ hx
      generalize es[i]=y at*
      obtain⟨ys,yp⟩:=y
      simp only at g1
      subst g1
      have ke8:=Aq (S:=fun j=>j=rj∨j=p∨j=pb) (h':=h8) (by exact kps) (by omega) ke5
      have kr:=ke8.rk
      clear ke8 ke5
      have q6:Bk h8 h.n [.ptr s 0]:=lkp
      have r1':=r1.k0 w
      have l6:=q6.lt
      have hdt':i*2+2≤(es.flatMap Az).length∧((es.flatMap Az).drop (i*2)).take 2= [AI ys,AN (b*D.P+j)]:=hdt
      have hmul:b*D.P≤12*6:=Nat.mul_le_mul (by omega) (by omega)
      obtain⟨dv,dm⟩:=Pj (b:=b) g2
      obtain⟨M,ck,m1,m2,m3⟩:=(r2.kp (B:=fun _=>False) (h':=h8) (by exact kps) id).ex
      have r3':=Ag w r3
      unfold stC at r3'
      refine wk ?_
      (apply st1 L rfl;exact Bg lkr hdt' rfl;rfl)
      refine wk ?_
      rw [dv]
      refine cal ?_ (c:=H4 L X (r1'.k0 (by exact kps)) g3)
      rintro _ rfl
      rw [if_pos g4]
      refine wk ?_
      (apply st1 L rfl;exact Kv (v:= .bool false) rfl rfl lkq (by rw [m3,if_neg (by simpa using g5)];rfl);rfl)
      refine wk ?_
      refine ih () _ _ (Kp.tr0 (m:=h8) (by exact kps) w) tsb
     ·rintro _ h8 w
      refine wk ?_
      refine tail _ cbi _ (r1.k0 (by exact kps)) (r2.kp (B:=fun _=>False) (by exact kps) id) (by have r3':=Ag w r3;unfold stC at r3' ⊢;exact lkp) (by exact kps) ?_
      exact tsb
  rcases g5.ex with⟨e0,rfl⟩|⟨b5,c5,rfl,kb5,sb5,hb5⟩;·refine wk ?_;refine main _ (by rw [e0];exact tsb)
  ·refine wk ?_;exact main _ tsb
def Ab0 (κ: Nat→Nat)(n:Nat)(I:Ai):Nat→Nat:=fun b=>if b<n then κ b else if b=I.s then 101 else if b=I.p then 102 else if b=I.pb then 103 else if b=I.m then 104 else if b=I.r1 then 105 else if b=I.r2 then 106 else if b=I.vb then 107 else if b=I.rj then 108 else if b=I.rs then 109 else if b=I.rw then 110 else 0
omit L X in
theorem dx {n:Nat}{I:Ai}(h:b<n):Ab0 κ n I b=κ b:=if_pos h
omit L X in
theorem PoC.pe' {h:H}{p pb nb:Nat}{ps pe pe':Nat→Nat}{cb:List AV}(q:PoC h p pb nb ps pe cb)(e: ∀i,i<nb→pe' i=pe i):PoC h p pb nb ps pe' cb:= ⟨q.pk,q.bk,q.ne,q.len,q.nbd,fun i hi=>by rw [e i hi];exact q.c0 i hi,q.c1,q.st,fun i hi=>by rw [e i hi];exact q.er i hi⟩
theorem Xu {d S:Nat}{ev:AV}{es:List Ent}{js ds:List Int}(r:DevR κ h d D)(hS:1≤S∧S≤1000)(hoff:D.off=false)(her: ∀i,i<D.nb→(D.bl i).er≤100000) (he:EL h lo ev es) (q1:RowN h lo v1 js) (q2:RowN h lo v2 ds) (hln:la<nx) (f:Fnd D js ds) (hes:es.length≤150) (hok: ∀j x,es[j]?=some x→okE S (D.nb*D.P) (stA (fun _=>none) es j) x) (h3x: ∀e∈es,∃b j:Nat,e.2=((b*D.P+j:Nat):Int)∧j<D.P∧b<D.nb∧(b:Int)∈js++ds∧(b:Int)∉js): Ct P0 E F K 24 [.ptr d 0,AN S,.agg (Iw ev v1 v2 la nx)] h fun v h'=> ∃ab I κ',v= .tup [.ptr ab 0,Zi]∧Bk h' ab [.ptr I.s 0]∧κ' ab=0∧I.d=d∧ApR κ' h' I (Ap.ini D S (stA (fun _=>none) es es.length) nx la js ds)∧K0 h h'∧(∀b,b<h.n→κ' b=κ b):=by
 have inn: ∀v∈[ev,v1,v2],∀b n c,v= .slc b 0 n c→b<h.n:=fun v hv b n c e=>by
  have row: ∀{v D},RowN h lo v D→v= .slc b 0 n c→b<h.n:=fun q e=>by rcases q.ex with⟨-,e2⟩|⟨-,b',e2,kb,-⟩ <;> rw [e2]at e <;> cases e;exact kb.lt
  rcases List.mem_cons.1 hv with rfl|hv;·rcases he.ex with⟨-,e2⟩|⟨-,b',e2,kb,-⟩ <;> rw [e2]at e <;> cases e;exact kb.lt
  ·rcases List.mem_cons.1 hv with rfl|hv;·exact row q1 e
   ·rw [List.mem_singleton.1 hv]at e;exact row q2 e
 obtain⟨ok,fm,bb,cb,q⟩:=r;have hd:=q.dk;have hnb:=ok.g.nb;have hP:=ok.g.P;have hsz:=ok.g.sz;unfold Iw;refine Bf L X.f24 fun Q x cs G=>?_;refine cal ?_ (c:=Jt L X (D:=D) (fm:=fm) (bb:=bb) (Ag (by exact kps) hd));rintro _ h2 ⟨rfl,k2⟩;have n2:=k2.n;simp only [Al]at n2;refine cal ?_ (c:=cz L X hS hnb hP);rintro _ h3 ⟨m,r1,r2,vb,rfl,mp,k3,l1,l2,l3,l4⟩;have n3:=k3.n;simp only [Al]at n3 l1 l2 l3 l4;have hml:=mp.lt;refine cal ?_ (c:=Ha L X (sz:=D.sz) (by omega));rintro _ rfl;refine cal ?_ (c:=Ob L X (mp.k0 (by exact kps)) (he.k0 (by exact kps)) (by omega) (fun b n c e=>by have:=inn _ (List.mem_cons_self ..) b n c e;omega) hok);rintro _ h4 ⟨rfl,k4,mp4⟩;have n4:=k4.n;simp only [Al]at n4;refine wk ?_;have hm4:=mp4.lt;have hne:=mp4.ne;have ldh:=q.dk.lt;have lbh:=q.bk.lt;have lfh:=q.fk.lt;refine cal ?_ (c:=m9 (κ:= κ) (s:=h4.n+1+1+1) (m:=m) (rj:=h4.n) (rs:=h4.n+1) (rw:=h4.n+1+1) (nx:=nx) (la:=la) L X (q.kb (Kp.mono (S:=fun _=>False) (fun _ f=>f.elim) (by exact kps))) hnb hP her (by unfold stN;exact lkp) (by exact lkq) ⟨by omega,by omega,by omega,by omega,by omega,by omega,by omega⟩ (he.k0 (by exact kps)) (q1.k0 (by exact kps)) (q2.k0 (by exact kps)) (fun v hv b n c e=>by have:=inn v hv b n c e;omega) (by omega) f.nd f.mem h3x (fun b hb hm=>by have:=(not_congr (f.nx b hb)).1 hm;omega));rintro _ h5 ⟨rfl,p,pb,cb',po,ks,sj,l5,l6,k5⟩;have n5:=k5.n;simp only [Al]at n5 l5 l6;have lpo:=po.pk.lt;have lpb:=po.bk.lt;have pne:=po.ne;have hd5:Bk h5 d (dvC D fm bb):=Aq k5 (by omega) (by exact lkp);refine cal ?_ (c:=Lr L X (D:=D) (fm:=fm) (bb:=bb) (by exact lkp));rintro _ rfl;rw [hoff];refine ret X.f24.1 ?_;have kF:Kp (fun j=>j=h4.n+1+1+1∨j=h4.n) h (hp (h5.n+1) h5.t [(h5.n,some (cl [.ptr (h4.n+1+1+1) 0]))]):=kps;have k0F:K0 h (hp (h5.n+1) h5.t [(h5.n,some (cl [.ptr (h4.n+1+1+1) 0]))]):=⟨kF.n,fun b hb hn=>kF.old b hb (by omega)⟩;have mpF:MpR S D.nb D.P (hp (h5.n+1) h5.t [(h5.n,some (cl [.ptr (h4.n+1+1+1) 0]))]) m r1 r2 vb _:=mp4.kp (B:=fun j=>j=h4.n+1+1+1∨j=h4.n) kps (by omega) (by omega) (by omega) (by omega);refine⟨h5.n,⟨h4.n+1+1+1,p,pb,m,r1,r2,vb,h4.n,h4.n+1,h4.n+1+1,d⟩,Ab0 κ h.n ⟨h4.n+1+1+1,p,pb,m,r1,r2,vb,h4.n,h4.n+1,h4.n+1+1,d⟩,rfl,lkp,?_,rfl,?_,k0F,fun b hb=>dx hb⟩;·simp only [Ab0];repeat rw [if_neg (by omega)]
 ·refine⟨?_,⟨cb',(po.k0 kps).pe' fun i hi=>if_pos hi⟩,⟨ok,fm,bb,cb,(q.rc fun b hb=>dx hb).kb (k0F.mono fun _ f=>f.elim)⟩,mpF,sj.kp (B:=fun _=>False) (by exact kps) id,⟨[],0,?_,MOk.nil,fun k=>rfl⟩,⟨[],0,?_,MOk.nil,fun k=>rfl⟩,?_⟩;·show Bk _ _ (stC p d D.nb D.P D.sz D.en m nx la h4.n (h4.n+1) (h4.n+1+1));exact lkp
  ·exact lkq
  ·exact lkq
  ·refine⟨?_,?_,?_,?_,?_,?_,?_,?_,?_,?_⟩ <;> (simp only [Ab0];repeat(first|rw [if_pos trivial]|rw [if_pos (by omega)]|rw [if_neg (by omega)]))
end
theorem Adc {p:Prop}(h:p:=by
 refine Ao L X.f68 fun Q x cs G=>?_
 refine ret X.f68.1 ?_
 exact⟨by rw [e2];rfl,kps⟩):p:=h
section
variable (L:Lg P0 E F K)(X:Fx F K)
include L X
section
theorem E4 {e:Int}:Ct P0 E F K 52 [.bool true,.int .i64 e] h fun v h'=>v= .tup []∧h'=h:=by refine Af L X.f52 fun Q x cs G=>?_;refine ret X.f52.1 ?_;exact⟨rfl,rfl⟩
theorem T1 {x:PgE×Nat}{sz:Nat}:Ct P0 E F K 68 [.agg (peC sz x)] h fun v h'=>v= .bool (Hb x.1)∧K0 h h':=by
 obtain⟨⟨a,s,d⟩,b⟩:=x;show Ct P0 E F K 68 [.agg [.int .u8 (s.kind:Int),.int .i64 s.sec,UN s.seq,UN s.prev,.int .i64 s.idx,.int .i64 s.len,AN a,.slc b 0 sz (Aa+1)]] h _;by_cases e:s.kind=1;·have e2:Hb ⟨a,s,d⟩=true:=decide_eq_true e;exact Adc
 ·have e2:Hb ⟨a,s,d⟩=false:=decide_eq_false e;exact Adc
theorem vr {d j:Nat}(r:DevR κ h d D)(hi:i<D.nb)(hj:j<D.P)(hoff:D.off=false)(he:((D.bl i).pg j).st≠2∧((D.bl i).pg j).st≠3): Ct P0 E F K 108 [.ptr d 0,AN i,AN j] h fun v h'=>(∃e:Nat,v= .tup [.nils,.nils,AN e]∧0<e∧e<1000)∧K0 h h':=by
 obtain⟨ok,fm,bb,cb,q⟩:=r;have hd:=q.dk;have hbk:=q.bk;obtain⟨pn,c,hr⟩:=q.rows i hi;have hst:=((ok.bl i hi).pg j hj).st;have hP:=ok.g.P;have hpk:=hr.row.k;have hc0:=hr.c0;have hc0':cb[i*3+0]?=some (.slc pn 0 D.P D.P):=hc0;have hp1:=(hr.row.pg j hj).st;refine Bf L X.f108 fun Q x cs G=>?_;refine cal ?_ (c:=D4 L X hd);rintro _ rfl;refine cal ?_ (c:=Iq L X hd);rintro _ rfl;rw [decide_eq_true (show(0≤(i:Int)∧(i:Int)<D.nb)∧0≤(j:Int)∧(j:Int)<D.P by omega)];obtain⟨s2,s3⟩:=he;have hp0:=(hr.row.pg j hj).none s2 s3;unfold dvC dvL at hd;rw [hoff]at hd;refine wk ?_;by_cases s1:((D.bl i).pg j).st=1;·refine ret X.f108.1 ?_;exact⟨⟨52,rfl,by omega,by omega⟩,kps⟩
 exact Aqs
omit L X
theorem T2 (D:Dv)(i n:Nat):(M4 D i n).length≤n:=Nat.le_trans (List.length_filterMap_le _ _) (by rw [List.length_range];exact Nat.le_refl _)
theorem ZiQ (D:Dv)(i n:Nat):M4 D i (n+1)=M4 D i n++(Fq D i n).toList:=by
 unfold M4;rw [List.range_succ,List.filterMap_append]
 cases h:Fq D i n <;> simp [h]
theorem M6 (D:Dv)(n:Nat):F8 D (n+1)=F8 D n++M4 D n (D.bl n).nx:=by unfold F8;rw [List.range_succ,List.flatMap_append];simp
theorem Jy {D:Dv}(ok:D.Ok): ∀n,n≤D.nb→(F8 D n).length≤n*6
 |0,_=>Nat.zero_le _
 |n+1,h=>by rw [M6,List.length_append];have h1:=Jy ok n (by omega);have h2:=T2 D n (D.bl n).nx;have h3:=(ok.bl n h).nx;have h4:=ok.g.P;omega
include L X
theorem vt {d:Nat}(T:Tb P0 E F K)(r:DevR κ h d D)(hoff:D.off=false):Ct P0 E F K 54 [.ptr d 0] h fun v h'=>PL h.n h' D.sz v (Ae D)∧K0 h h':=by
 have r0:=r;obtain⟨ok,fm,bb,cb,q⟩:=r;have hd:=q.dk;have hnb:=ok.g.nb;have hP:=ok.g.P;have hsz:=ok.g.sz;refine Ao L X.f54 fun Q x cs G=>?_;refine cal ?_ (c:=Jt L X hd);rintro _ h1 ⟨rfl,k1⟩;have n1:=k1.n;refine wk ?_;refine Bs L (α:= AV) (T:=fun i v=> [(15,some (AN i)),(14,some (AN D.nb)),(3,some (.ptr h1.n 0)),(2,some v),(0,some (.ptr d 0))]) (n:=D.nb) (R:=fun i v h2=>PL (h1.n+1) h2 D.sz v (F8 D i)∧Bk h2 h1.n [AN D.nb,AN D.P,AN D.sz,AN D.en]∧K0 h h2) (i0:=0) .nils tsb ⟨PL.nil _ _ _,lkp,kps⟩ (Nat.zero_le _) ?_ ?_
 ·rintro i v h2 hi ⟨w1,w2,w3⟩ ih;obtain⟨pn,c,hr⟩:=q.rows i hi;have hnx:=(ok.bl i hi).nx;have hp0:=Jy ok i (by omega);refine cal ?_ (c:=Ir L X (Ag (by exact w3) hd) (Ag (by exact w3) q.bk) hi hr.c1);rintro _ rfl;rw [M6]at ih;refine wk ?_;refine Bs L (α:= AV) (T:=fun j v=> [(21,some (AN j)),(20,some (AN ((D.bl i).nx))),(4,some (AN i)),(15,some (AN i)),(14,some (AN D.nb)),(3,some (.ptr h1.n 0)),(2,some v),(0,some (.ptr d 0))]) (n:=(D.bl i).nx) (R:=fun j v h3=>PL (h1.n+1) h3 D.sz v (F8 D i++M4 D i j)∧Bk h3 h1.n [AN D.nb,AN D.P,AN D.sz,AN D.en]∧K0 h h3) (i0:=0) v tsb ⟨by rw [show M4 D i 0= [] from rfl,List.append_nil];exact w1,w2,w3⟩ (Nat.zero_le _) ?_ ?_
  ·clear ih w1 w2 w3;rintro j v h3 hj ⟨w1,w2,w3⟩ ih;have lg:=w2.lt;have n3:=w3.n;rw [ZiQ]at ih;have hrl:=T2 D i j;have hvb: ∀b m c,v= .slc b 0 m c→h1.n+1≤b∧b<h3.n:=fun b m c e=>by obtain⟨l,-,-,⟨-,e2⟩|⟨-,b',e2,kb,kb',-⟩⟩:=w1.ex <;> rw [e2]at e <;> cases e;exact⟨kb',kb.lt⟩
   have mulb:i*D.P≤12*6:=Nat.mul_le_mul (by omega) hP.2;by_cases hs:((D.bl i).pg j).st=2∨((D.bl i).pg j).st=3
   ·refine cal ?_ (c:=W2 L X (r0.k0 (by exact w3)) hi hj hoff hs);rintro _ h4 ⟨b1,b2,rfl,w4,w5,w6,w7,w8⟩;have n4:=w8.n;simp only [Al]at w6 w7;(try simp only [Al]at n4);have hbl:=((ok.bl i hi).pg j (by omega)).full hs;have l1:=w4.lt_n;have hl1:(((D.bl i).pg j).b.take D.sz).length=D.sz:=(by rw [List.length_take];omega);refine cal ?_ (c:=jd L X T w5 w4 (by rw [List.length_drop];omega) hl1 (by omega));rintro _ h5 ⟨⟨e,rfl,he,he1⟩,w9⟩;have n5:=w9.n;(try simp only [Al]at n5);have po:Fq D i j=(Mv (((D.bl i).pg j).b.drop D.sz) (((D.bl i).pg j).b.take D.sz)).map fun s=>⟨i*D.P+j,s,((D.bl i).pg j).b.take D.sz⟩:=by unfold Fq;rw [if_pos hs]
    generalize Mv (((D.bl i).pg j).b.drop D.sz) (((D.bl i).pg j).b.take D.sz)=ds at*;generalize ((D.bl i).pg j).b.take D.sz=data at*;have k35:K0 h3 h5:=Kp.tr0 w9 w8;have w2':=Ag k35 w2
    cases ds with
    |none=>
     have he0:e≠0:=fun e=>by have:=he.1 e;cases this
     refine wk ?_;refine ih v _ _ ⟨by rw [po];simp only [Option.map_none,Option.toList_none,List.append_nil];exact w1.k0 (Kp.tr0 (m:=h5) (by exact kps) k35),(by exact lkp),Kp.tr0 (m:=h5) (by exact kps) (Kp.tr0 k35 w3)⟩ tsb
    |some s=>have he0:e=0:=he.2 rfl;subst he0;obtain⟨sk,ssec,sseq,sprev,sidx,slen⟩:=s;have w4':=w4.k0 w9;simp only [Option.getD_some,spC];refine wk ?_;refine Adb L rfl rfl (lo':=h1.n+1) (z:=⟨i*D.P+j,⟨sk,ssec,sseq,sprev,sidx,slen⟩,data⟩) (db:=b1) ((w1.k0 k35).k0 (by exact kps)) (by omega) rfl (SlR.of (by exact lkp) (Nat.le_refl _) rfl) (by exact lkb) (by omega) hl1 (fun b m c e=>by have:=hvb b m c e;omega) (by rw [List.length_append];omega) ?_;rintro v' h6 q6 k6 - n6;have n6':=k6.n;simp only [Al]at n6';have kg6:Bk h6 h1.n [AN D.nb,AN D.P,AN D.sz,AN D.en]:=Aq k6 (by omega) (by exact lkp);have k06:K0 h h6:=Kp.trS k6 (fun i hi e=>by omega) (Kp.tr0 (m:=h5) (by exact kps) (Kp.tr0 k35 w3));refine wk ?_;refine ih v' _ _ ⟨by rw [po];simpa [List.append_assoc]using q6.k0 (Kp.tr0 (m:=h6) (by exact kps) (Kp.refl _)),(by exact lkp),Kp.tr0 (m:=h6) (by exact kps) k06⟩ tsb
   ·refine cal ?_ (c:=vr L X (r0.k0 (by exact w3)) hi (by omega) hoff (by omega));rintro _ h4 ⟨⟨e,rfl,he0,he1⟩,w8⟩;have n4:=w8.n;(try simp only [Al]at n4);have po:Fq D i j=none:=(by unfold Fq;rw [if_neg hs]);have w2':=Ag w8 w2;refine wk ?_;refine ih v _ _ ⟨by rw [po];simp only [Option.toList_none,List.append_nil];exact w1.k0 (Kp.tr0 (m:=h4) (by exact kps) w8),(by exact lkp),Kp.tr0 (m:=h4) (by exact kps) (Kp.tr0 w8 w3)⟩ tsb
  ·rintro v h3 ⟨w1,w2,w3⟩;refine wk ?_;refine ih v _ _ ⟨w1.k0 (by exact kps),(by exact lkp),Kp.tr0 (m:=h3) (by exact kps) w3⟩ tsb
 ·rintro v h2 ⟨w1,w2,w3⟩;refine ret X.f54.1 ?_;exact⟨(w1.k0 (by exact kps)).mono (by omega),Kp.tr0 (m:=h2) (by exact kps) w3⟩
theorem Ag0 {x:PgE×Nat}{sz:Nat}(k:BS h x.2 0 x.1.data)(hl:x.1.data.length=sz)(hn:12≤sz∧sz<1000):Ct P0 E F K 56 [.agg (peC sz x)] h fun v h'=>v= .bool (isJ x.1)∧K0 h h':=by
 obtain⟨⟨a,s,d⟩,b⟩:=x;have l1:=k.lt_n;show Ct P0 E F K 56 [.agg [.int .u8 (s.kind:Int),.int .i64 s.sec,UN s.seq,UN s.prev,.int .i64 s.idx,.int .i64 s.len,AN a,.slc b 0 sz (Aa+1)]] h _;refine Ao L X.f56 fun Q x cs G=>?_;refine cal ?_ (c:=cx L X (bs:=d) lkb hl hn);rintro _ h2 ⟨⟨u,e,rfl,w1,w2,w3⟩,w4⟩;have n4:=w4.n;simp only [Al]at n4;refine cal ?_ (c:=T1 L X (x:=(⟨a,s,d⟩,b)) (sz:=sz));rintro _ h3 ⟨rfl,w5⟩;have ej:isJ ⟨a,s,d⟩=(!Hb ⟨a,s,d⟩ && (Mw d).isSome):=rfl;by_cases hk:Hb ⟨a,s,d⟩=true;·rw [hk];refine ret X.f56.1 ?_;exact⟨by rw [ej,hk];rfl,kps⟩
 ·have hk:=Bool.eq_false_iff.2 hk;rw [hk];by_cases he:e=0;·subst he;refine ret X.f56.1 ?_;exact⟨by rw [ej,hk,w2.1 rfl];rfl,kps⟩
  ·refine ret X.f56.1 ?_;exact⟨by rw [ej,hk,Bool.eq_false_iff.2 (fun q=>he (w2.2 q))];rfl,kps⟩
theorem Abb {sz:Nat}{LL:List PgE}(q:PL lo h sz v LL)(hL:LL.length≤100)(hn:12≤sz∧sz<1000)(hlo:lo≤h.n):Ct P0 E F K 55 [v,.fn (.func 56) [] []] h fun u h'=>PL lo h' sz u (LL.filter isJ)∧K0 h h':=by
 have q0:=q;obtain⟨l,rfl,q1,q2⟩:=q.ex;have hlen:l.length≤100:=by simpa using hL
 have hf8: ∀x∈l,(peC sz x).length=8:=fun _ _=>rfl;rcases q2 with⟨rfl,rfl⟩|⟨q3,lb,rfl,q4,q5,q6⟩
 ·refine Af L X.f55 fun Q x cs G=>?_;refine wk ?_;refine Bt L ?_;refine ret X.f55.1 ?_;exact⟨PL.nil _ _ _,kps⟩
 have l1:=q4.lt;refine Af L X.f55 fun Q x cs G=>?_;refine wk ?_;refine Bs L (α:= AV) (T:=fun i v=> [(9,some (AN i)),(8,some (AN l.length)),(7,some (.slc lb 0 l.length (Aa+8))),(4,some v),(1,some (.fn (.func 56) [] []))]) (n:=l.length) (R:=fun i v h2=>PL lo h2 sz v (((l.take i).map (·.1)).filter isJ)∧(∀b m c,v= .slc b 0 m c→h.n≤b)∧K0 h h2) (i0:=0) .nils tsb ⟨PL.nil _ _ _,(fun _ _ _ e=>by cases e),kps⟩ (Nat.zero_le _) ?_ ?_
 ·rintro i v h2 hi ⟨w1,wb,w2⟩ ih;have hx:l[i]?=some l[i]:=List.getElem?_eq_getElem hi;have hdt:=B4 l hf8 i _ hx;have hm:=List.getElem_mem hi;obtain⟨r1,r2,r3⟩:=q1 _ hm;have e1:((l.take (i+1)).map (·.1)).filter isJ=((l.take i).map (·.1)).filter isJ++(if isJ l[i].1 then [l[i].1]else []):=by rw [List.take_add_one,hx,List.map_append,List.filter_append];simp only [Option.toList_some,List.map_cons,List.map_nil,List.filter_cons,List.filter_nil]
  rw [e1]at ih;have hlen2:(((l.take i).map (·.1)).filter isJ).length≤100:=by refine Nat.le_trans (List.length_filter_le _ _) ?_;rw [List.length_map,List.length_take];omega
  generalize l[i]=y at*;obtain⟨⟨pa,s,data⟩,db⟩:=y;have hdt':i*8+8≤(l.flatMap (peC sz)).length∧((l.flatMap (peC sz)).drop (i*8)).take 8= [.int .u8 (s.kind:Int),.int .i64 s.sec,UN s.seq,UN s.prev,.int .i64 s.idx,.int .i64 s.len,AN pa,.slc db 0 sz (Aa+1)]:=hdt;have k2:=(Ag w2 q4).rk;have n2:=w2.n;have r1':=r1.k0 w2;have ldb:=r1.lt_n;clear q4;refine wk ?_;(apply st1 L rfl;exact Bg lkr hdt' rfl;rfl);refine cal ?_ (c:=Ag0 L X (x:=(⟨pa,s,data⟩,db)) (by exact lkb) r3 hn);rintro _ h3 ⟨rfl,w3⟩;have n3:=w3.n;simp only [Al]at n3;have k23:K0 h2 h3:=Kp.tr0 w3 kps;by_cases hp:isJ ⟨pa,s,data⟩=true;·have w1':=w1.k0 k23;have r1'':=r1'.k0 k23;have q9:Bk h3 h2.n [.int .u8 (s.kind:Int),.int .i64 s.sec,UN s.seq,UN s.prev,.int .i64 s.idx,.int .i64 s.len,AN pa,.slc db 0 sz (Aa+1)]:=Ag w3 lkp;rw [hp]at ih ⊢;rw [if_pos rfl]at ih;refine wk ?_;refine Adb L rfl rfl (lo':=h.n) (z:=⟨pa,s,data⟩) (db:=db) (w1'.k0 (by exact kps)) (by have:=hlo;omega) rfl (SlR.of (by exact lkp) (Nat.le_refl _) rfl) (r1''.k0 (by exact kps)) r2 r3 (fun b m c e=>by have:=wb b m c e;exact⟨by omega,this⟩) (by omega) ?_;rintro v' h6 q6 k6 hv' n6;have n6':=k6.n;simp only [Al]at n6';have k06:K0 h h6:=Kp.trS k6 (fun i hi e=>by omega) (Kp.tr0 (m:=h3) (by exact kps) (Kp.tr0 k23 w2));refine wk ?_;refine ih v' _ _ ⟨q6.k0 (Kp.tr0 (m:=h6) (by exact kps) (Kp.refl _)),(fun b m c e=>by have:=hv' b m c e;omega),Kp.tr0 (m:=h6) (by exact kps) k06⟩ tsb
  ·rw [Bool.eq_false_iff.2 hp]at ih ⊢;rw [if_neg (by simp),List.append_nil]at ih;refine wk ?_;exact ih v _ _ ⟨w1.k0 (Kp.tr0 (m:=h3) (by exact kps) k23),wb,Kp.tr0 (m:=h3) (by exact kps) (Kp.tr0 k23 w2)⟩ tsb
 ·rintro v h2 ⟨w1,wb,w2⟩;refine ret X.f55.1 ?_;rw [List.take_length]at w1;exact⟨w1.k0 (by exact kps),Kp.tr0 (m:=h2) (by exact kps) w2⟩
end
end
variable {LL:List PgE}{Q:Nat→AV→Prop}{bytes cap2 fm fn lo' mu nt o2 xb:Nat}{cs:List AFr}{dfd:Bool}{e:Ent}{hh:H}{lv:AV}{post:AV→H→Prop}{s z:Int}
theorem Aob {p:Prop}(h:p:=by
 show(match Bm v1 with|true=>(match Bm v2 with|true=>true|false=>false)|false=>false)=true
 rw [a1,a2]):p:=h
section
variable (L:Lg P0 E F K)(X:Fx F K)
include L X
omit L X in
theorem RowN.mono {D:List Int}(q:RowN h lo v D)(k:lo'≤lo):RowN h lo' v D:=by exact Ajq
omit L X in
theorem RowN.kq {S:Nat→Prop}{D:List Int}(q:RowN h lo v D)(k:Kp S h h')(hs: ∀b,lo≤b→ ¬S b):RowN h' lo v D:=by exact Ajp
omit L X in
structure PgL (h:H)(lo:Nat)(v:AV)(l:List (JP×AV)):Prop where
 ex:(l= []∧v= .nils)∨(0<l.length∧ ∃b,v= .slc b 0 l.length (Aa+7)∧PgsR h lo b l)
omit L X in
theorem PgL.k0 {l:List (JP×AV)}(k:K0 h h')(q:PgL h lo v l):PgL h' lo v l:=⟨q.ex.imp id fun⟨a,b,e,p⟩=>⟨a,b,e,⟨Ag k p.k,fun x hx=>(p.el x hx).k0 k,p.lo,p.bd⟩⟩⟩
omit L X in
theorem PgL.blt {l:List (JP×AV)}(q:PgL h lo v l): ∀b n c,v= .slc b 0 n c→b<h.n:=fun b n c e=>by
 rcases q.ex with⟨-,h⟩|⟨-,b',h,p⟩ <;> rw [h]at e <;> cases e
 exact p.k.lt
section
variable {l:List (Nat×Option AV)}{n d:Nat}{t:T Blk}{lh:List (Nat×Option Blk)}{x:O}{gd:Option (Nat×Bool)}{r:List CI}{k:List AItem}{ds:List ADef}{ro:Option Nat}
omit X in
theorem Aoc {lu b2:Nat}{u:AV}{ls:List (JP×AV)}{w:JP}(hg:gdO gd l=some true)(e:evO l x=some v)(q:PgL (hp n t lh) lo v ls)(hlo:lo≤n)(e1:evO l y=some (.slc b2 o2 1 cap2))(k2:SlR 7 (hp n t lh) (.slc b2 o2 1 cap2) 1 (jpC (w,u)))(hu:EL (hp n t lh) lu u w.2)(hl:lo≤lu)(hv: ∀b n c,v= .slc b 0 n c→b<lu)(hb:(ls.length+1)*(bytes+1)≤1099511627776) (g: ∀v' h',PgL h' lo v' (ls++ [(w,u)])→Kp (fun j=>lo≤j) (hp n t lh) h'→Good P0 E Q ⟨⟨fn,nt,tms ((d,some v')::l),.ops r::k,ds,.run,dfd,ro⟩,cs,hp h'.n h'.t []⟩): Good P0 E Q ⟨⟨fn,nt,tms l,.ops (⟨some d,gd,.append 7 bytes x y⟩::r)::k,ds,.run,dfd,ro⟩,cs,hp n t lh⟩:=by
 have hub: ∀c m b',u= .slc b' 0 m c→b'<n:=fun c m b' e=>by rcases hu.ex with⟨-,h⟩|⟨-,b,h,p,-⟩ <;> rw [h]at e <;> cases e;exact p.lt
 have hpl:Ar (jpC (w,u))=true:=by rcases hu.ex with⟨-,rfl⟩|⟨-,b,rfl,-⟩ <;> rfl
 rcases q.ex with⟨rfl,rfl⟩|⟨h1,b,rfl,pr⟩
 ·have kk:Bk (hp (n+1) t ((n,some (cl (jpC (w,u))))::lh)) n (jpC (w,u)):=lkp;have k0:K0 (hp n t lh) (hp (n+1) t ((n,some (cl (jpC (w,u))))::lh)):=kps;refine Eg L (Aw hg) (Dr e e1 k2 (by omega) (by simpa using hb)).e (g (.slc n 0 1 (Aa+7)) (hp (n+1) t ((n,some (cl (jpC (w,u))))::lh)) ⟨.inr ⟨Nat.succ_pos _,n,rfl,⟨by simpa using kk,fun y hy=>?_,hlo,fun y hy c m b' e=>?_⟩⟩⟩ kps);·rw [List.nil_append,List.mem_singleton]at hy;subst hy;exact(hu.mono hl).k0 k0
  ·rw [List.nil_append,List.mem_singleton]at hy;subst hy;exact hub c m b' e
 ·have hlb:=hv b _ _ rfl;have hbn:b<n:=pr.k.lt;have kk:Bk (hp (n+1) t ((n,some (cl (ls.flatMap jpC++jpC (w,u))))::(b,none)::lh)) n (ls.flatMap jpC++jpC (w,u)):=lkp;have kb:Kp (fun j=>j=b) (hp n t lh) (hp (n+1) t ((n,some (cl (ls.flatMap jpC++jpC (w,u))))::(b,none)::lh)):=kps;have hlo':=pr.lo;have el: ∀{lo':Nat} {z:AV} {es:List Ent},EL (hp n t lh) lo' z es→(∀c m b',z= .slc b' 0 m c→b'≠b)→lo≤lo'→EL (hp (n+1) t ((n,some (cl (ls.flatMap jpC++jpC (w,u))))::(b,none)::lh)) lo z es:=fun q hne h=>by
   rcases q.ex with h7|⟨h7,b',h8,h9,h10⟩;·exact⟨.inl h7⟩
   ·exact⟨.inr ⟨h7,b',h8,Aq kb (hne _ _ _ h8) h9,by omega⟩⟩
  have hfl:=C8 ls (Kk ls);refine Eg L (Aw hg) (Dq e e1 (SlR.of (c:=ls.flatMap jpC) pr.k (by omega) (by rw [List.drop_zero,List.take_of_length_le (by omega)])) k2 (by omega) hb hpl).e (g (.slc n 0 (ls.length+1) (Aa+7)) (hp (n+1) t ((n,some (cl (ls.flatMap jpC++jpC (w,u))))::(b,none)::lh)) ⟨.inr ⟨by simp,n,by simp,⟨by rw [List.flatMap_append];simpa using kk,fun y hy=>?_,hlo,fun y hy c m b' e=>?_⟩⟩⟩ (kb.mono fun j e=>by omega))
  ·rcases List.mem_append.1 hy with hy|hy;·exact el (pr.el y hy) (fun c m b' e=>by have:=pr.bd y hy _ _ _ e;omega) (Nat.le_refl _)
   ·rw [List.mem_singleton.1 hy];exact el hu (fun c m b' e=>by
     rcases hu.ex with⟨-,h⟩|⟨-,b9,h,-,p⟩;·have h:u= .nils:=h;rw [h]at e;cases e
     ·have h:u=_:=h;rw [h]at e;cases e;omega) hl
  ·rcases List.mem_append.1 hy with hy|hy;·have:=pr.bd y hy _ _ _ e;omega
   ·rw [List.mem_singleton.1 hy]at e;exact hub c m b' e
end
theorem ww {sz:Nat}(U:SortOk P0 E F 171)(q:PL lo h sz v (LL.filter isJ))(hn:12≤sz∧sz<1000)(hl:(jps LL).length≤100)(hok: ∀p∈jps LL,p.1.Jr∧p.1.seq<9223372036854775808∧p.2.length≤100): Ct P0 E F K 57 [v] h fun u h'=> ∃o ks v1 v2,u= .agg [v1,UN (chL ks),v2]∧StartP (jps LL) o∧RunP (jps LL) o ks∧EL h' h.n v1 (chE (jps LL) ks)∧RowN h' h.n v2 (Dc (nI (chU (jps LL) ks)))∧((chE (jps LL) ks).length≤1000000∧(chU (jps LL) ks).length≤1000000)∧K0 h h':=by
 obtain⟨l,hlm,q1,q2⟩:=q.ex;have hJ: ∀y∈l,isJ y.1=true:=by
  intro y hy;have:y.1∈LL.filter isJ:=by rw [←hlm];exact List.mem_map_of_mem hy
  exact(List.mem_filter.1 this).2
 have hjm:l.map (fun y=>R1 y.1)=jps LL:=by unfold jps;rw [←hlm,List.map_map];rfl
 have hll:l.length≤100:=by rw [←hjm,List.length_map]at hl;exact hl
 have hf8: ∀x∈l,(peC sz x).length=8:=fun _ _=>rfl
 have main: ∀(Q:Nat→AV→Prop) (x:AFr) (cs:List AFr) (h0:H) (lq:List (Nat×Option AV)),(∀u h',(∃o ks v1 v2,u= .agg [v1,UN (chL ks),v2]∧StartP (jps LL) o∧RunP (jps LL) o ks∧EL h' h.n v1 (chE (jps LL) ks)∧RowN h' h.n v2 (Dc (nI (chU (jps LL) ks)))∧((chE (jps LL) ks).length≤1000000∧(chU (jps LL) ks).length≤1000000)∧K0 h h')→GO P0 E Q (finish u cs h' x))→Bk h0 h.n [.nils,Zu,.nils]→K0 h h0→h.n+1≤h0.n→
   TSub (tms [(10,some Zi),(9,some (AN l.length)),(8,some v),(3,some .nils),(2,some (.ptr h.n 0))]) (tms lq)→Good P0 E Q ⟨⟨57,cf57.ntmps,tms lq,[.code Aft,.inBlock 0,.code Afu],[],.run,false,none⟩,x::cs,h0⟩:=by
  intro Q x cs h0 lq G z1 z2 z3 ht
  refine Bs L (bd:=Afs) (α:= AV×List (JP×AV)) (T:=fun i s=> [(10,some (AN i)),(9,some (AN l.length)),(8,some v),(3,some s.1),(2,some (.ptr h.n 0))]) (n:=l.length)
   (R:=fun i s h2=>PgL h2 (h.n+1) s.1 s.2∧s.2.map (·.1)=(l.take i).map (fun y=>R1 y.1)∧Bk h2 h.n [.nils,Zu,.nils]∧K0 h h2∧h.n+1≤h2.n) (i0:=0) (.nils,[]) ht ⟨⟨.inl ⟨rfl,rfl⟩⟩,rfl,z1,z2,z3⟩ (Nat.zero_le _) ?_ ?_
  ·clear z1 z2 z3 ht
   rintro i ⟨va,ll⟩ h2 hi ⟨w1,we,w2,w3,w0⟩ ih
   simp only at w1 we
   rcases q2 with⟨e0,-⟩|⟨q3,lb,rfl,q4,q5,q6⟩
   ·rw [e0]at hi;exact absurd hi (Nat.not_lt_zero _)
   have hx:l[i]?=some l[i]:=List.getElem?_eq_getElem hi
   have hdt:=B4 l hf8 i _ hx
   have hm:=List.getElem_mem hi
   obtain⟨r1,r2,r3⟩:=q1 _ hm
   have hj:=hJ _ hm
   have e1:(l.take (i+1)).map (fun y=>R1 y.1)=(l.take i).map (fun y=>R1 y.1)++ [R1 l[i].1]:=by
    rw [List.take_add_one,hx,List.map_append];rfl
   have hlen2:ll.length≤100:=by
    have:=congrArg List.length we
    rw [List.length_map,List.length_map,List.length_take]at this;omega
   generalize l[i]=y at*
   obtain⟨⟨pa,s,data⟩,db⟩:=y
   have hdt':i*8+8≤(l.flatMap (peC sz)).length∧((l.flatMap (peC sz)).drop (i*8)).take 8= [.int .u8 (s.kind:Int),.int .i64 s.sec,UN s.seq,UN s.prev,.int .i64 s.idx,.int .i64 s.len,AN pa,.slc db 0 sz (Aa+1)]:=hdt
   have k2:=(Ag w3 q4).rk
   have n2:=w3.n
   have r1':=r1.k0 w3
   have ldb:=r1'.lt_n
   have l2:=w2.lt
   have l4:=q4.lt
   have hbd:=w1.blt
   clear q4
   refine wk ?_
   (apply st1 L rfl;exact Bg lkr hdt' rfl;rfl)
   refine cal ?_ (c:=cx L X (bs:=data) (by exact lkb) r3 hn)
   rintro _ h3 ⟨⟨u,e,rfl,x1,x2,x3⟩,x4⟩
   have n3:=x4.n
   simp only [Al]at n3 x1
   obtain rfl:e=0:=x2.2 (by unfold isJ at hj;simp only [Bool.and_eq_true]at hj;exact hj.2)
   have hdj:R1 ⟨pa,s,data⟩=(s,(Mw data).getD []):=rfl
   have q9:Bk h3 h2.n [.int .u8 (s.kind:Int),.int .i64 s.sec,UN s.seq,UN s.prev,.int .i64 s.idx,.int .i64 s.len,AN pa,.slc db 0 sz (Aa+1)]:=Ag x4 lkp
   have l9:=q9.lt
   have k23:K0 h2 h3:=Kp.tr0 x4 kps
   have w1':=w1.k0 k23
   have w2':Bk h3 h.n [.nils,Zu,.nils]:=Ag k23 w2
   refine cal ?_ (c:=E4 L X)
   rintro _ rfl
   refine wk ?_
   rcases x1.len with⟨xe,rfl⟩|⟨-,ub,rfl,-,-⟩
   all_goals
    refine wk ?_
    refine Aoc L rfl rfl (w:=(s,(Mw data).getD [])) (w1'.k0 (by exact kps)) (by omega) rfl (SlR.of (by exact lkp) (Nat.le_refl _) rfl) (x1.k0 (by exact kps)) (by omega) (fun b n c e=>by have:=hbd b n c e;omega) (by omega) ?_
    rintro v9 h9 g9 k9
    have n9:=k9.n
    simp only [Al]at n9
    have k09:K0 h h9:=Kp.trS k9 (fun i hi e=>by omega) (Kp.tr0 (m:=h3) (by exact kps) (Kp.tr0 k23 w3))
    have w2'':Bk h9 h.n [.nils,Zu,.nils]:=Aq k9 (by omega) (by exact lkp)
    refine wk ?_
    refine ih (v9,ll++ [((s,(Mw data).getD []),_)]) _ _ ⟨g9.k0 (Kp.tr0 (m:=h9) (by exact kps) (Kp.refl _)),by rw [List.map_append,we,e1,hdj];rfl,(by exact lkp),Kp.tr0 (m:=h9) (by exact kps) k09,(by show h.n+1≤h9.n;omega)⟩ tsb
  ·rintro⟨va,ll⟩ h2 ⟨w1,we,w2,w3,w0⟩
   simp only at w1 we
   rw [List.take_length,hjm]at we
   have l2:=w2.lt
   have hok': ∀x∈ll,x.1.1.Jr∧x.1.1.seq<9223372036854775808∧x.1.2.length≤100:=fun x hx=>hok _ (by rw [←we];exact List.mem_map_of_mem hx)
   have hl2:ll.length≤100:=by rw [←we,List.length_map]at hl;exact hl
   have hEL: ∀x∈ll,EL h2 (h.n+1) x.2 x.1.2:=fun x hx=>by
    rcases w1.ex with⟨rfl,-⟩|⟨-,b,-,p⟩
    ·cases hx
    ·exact p.el x hx
   have hlv:(ll= []∧va= .nils)∨ ∃lb,va= .slc lb 0 ll.length (Aa+7)∧Bk h2 lb (ll.flatMap jpC):=w1.ex.imp id fun⟨_,b,e,p⟩=>⟨b,e,p.k⟩
   refine cal ?_ (c:=ku L X (l:=ll) (fun x hx=>(hok' x hx).1) hEL hlv hl2 (fun x hx=>(hok' x hx).2.2) (fun x hx=>(hok' x hx).2.1) U)
   rintro _ h3 ⟨o,ks,v1,v2,rfl,y1,y2,y3,y4,y5,y6⟩
   rw [we]at y1 y2 y3 y4 y5
   have n3:=y6.n
   try simp only [Al]at n3
   have a2:Bm v2=true:=by rcases y4.ex with⟨_,rfl⟩|⟨_,b,rfl,_⟩ <;> rfl
   have hpl3:Ar [v1,UN (chL ks),v2]=true:=by
    have a1:=y3.plain.2
    exact Aob
   refine wk ?_
   (apply stS L rfl rfl rfl rfl rfl hpl3;exact lkp;rfl;rfl)
   refine ret X.f57.1 ?_
   exact⟨o,ks,v1,v2,rfl,y1,y2,(y3.kS (S:=fun j=>j=h.n) (by exact kps) (fun b hb f=>by omega)).mono (by omega),(y4.kq (S:=fun j=>j=h.n) (by exact kps) (fun b hb f=>by omega)).mono (by omega),y5,kps⟩
 have hlq:v= .nils∨ ∃lb,v= .slc lb 0 l.length (Aa+8):=q2.imp (·.2) fun⟨_,b,e,_⟩=>⟨b,e⟩;refine Ao L X.f57 fun Q x cs G=>?_;rcases q2 with⟨e0,rfl⟩|⟨q3,lb,rfl,q4,-⟩
 ·refine wk ?_;refine main Q x cs _ _ G lkp kps (Nat.le_refl _) ?_;rw [e0];exact tsb
 ·refine wk ?_;refine main Q x cs _ _ G lkp kps (Nat.le_refl _) tsb
end
theorem Aod {p:Prop}(h:p:=by
 show Ct P0 E F K 117 [.agg [.int .u8 (sp.kind:Int),.int .i64 sp.sec,UN sp.seq,UN sp.prev,.int .i64 sp.idx,.int .i64 sp.len,AN a,.slc b 0 sz (Aa+1)],.ptr xb 0] h _
 refine Af L X.f117 fun Q x cs G=>?_
 refine ret X.f117.1 ?_
 exact⟨rfl,kps⟩):p:=h
section
variable (L:Lg P0 E F K)(X:Fx F K)
include L X
theorem Zw {x:PgE×Nat}{sz:Nat}{p:Int}(k:Bk h xb [AI s,AI p]):Ct P0 E F K 117 [.agg (peC sz x),.ptr xb 0] h fun v h'=>v= .bool (decide ((x.1.at_:Int)=p))∧K0 h h':=by
 obtain⟨⟨a,sp,d⟩,b⟩:=x;have l1:=k.lt;by_cases q:(a:Int)=p;·rw [show decide ((((PgE.mk a sp d,b).1.at_:Nat):Int)=p)=true from decide_eq_true q];exact Aod
 ·rw [show decide ((((PgE.mk a sp d,b).1.at_:Nat):Int)=p)=false from decide_eq_false q];exact Aod
omit L X in
def atP (p:Int)(x:PgE):Bool:=decide ((x.at_:Int)=p)
theorem my {sz:Nat}{p:Int}(q:PL lo h sz lv LL)(k:Bk h xb [AI s,AI p])(hL:LL.length≤100): Ct P0 E F K 116 [lv,.fn (.func 117) [] [.ptr xb 0]] h fun v h'=>v=AI (match LL.findIdx? (atP p)with|some j=>(j:Int)|none=> -1)∧K0 h h':=by
 obtain⟨l,rfl,q1,q2⟩:=q.ex;have hlen:l.length≤100:=by simpa using hL
 have hf8: ∀x∈l,(peC sz x).length=8:=fun _ _=>rfl;have l0:=k.lt;rcases q2 with⟨rfl,rfl⟩|⟨q3,lb,rfl,q4,-,-⟩
 ·refine Af L X.f116 fun Q x cs G=>?_;refine wk ?_;refine Bt L ?_;refine ret X.f116.1 ?_;exact⟨rfl,kps⟩
 have l1:=q4.lt
 have round: ∀(Q:Nat→AV→Prop) (x:AFr) (cs:List AFr) (i:Nat) (y:PgE×Nat) (h2:H),l[i]?=some y→K0 h h2→(∀(h3:H) (lq:List (Nat×Option AV)),atP p y.1=false→K0 h h3→TSub (tms [(8,some (AN (i+1))),(7,some (AN l.length)),(0,some (.slc lb 0 l.length (Aa+8))),(1,some (.fn (.func 117) [] [.ptr xb 0]))]) (tms lq)→Good P0 E Q ⟨⟨116,cf116.ntmps,tms lq,[.inLoop Va,.inBlock 0,.code bp],[],.run,false,none⟩,x::cs,h3⟩)→
   (∀v h',(v=AN i∧K0 h h')→GO P0 E Q (finish v cs h' x))∨atP p y.1=false→
   Good P0 E Q ⟨⟨116,cf116.ntmps,tms [(8,some (AN i)),(7,some (AN l.length)),(0,some (.slc lb 0 l.length (Aa+8))),(1,some (.fn (.func 117) [] [.ptr xb 0]))],[.code Va,.inLoop Va,.inBlock 0,.code bp],[],.run,false,none⟩,x::cs,hp h2.n h2.t []⟩:=by
  intro Q x cs i y h2 hx k2 cont G0
  have hi:i<l.length:=(List.getElem?_eq_some_iff.1 hx).1
  have hdt:=B4 l hf8 i _ hx
  obtain⟨⟨pa,s,data⟩,db⟩:=y
  have hdt':i*8+8≤(l.flatMap (peC sz)).length∧((l.flatMap (peC sz)).drop (i*8)).take 8= [.int .u8 (s.kind:Int),.int .i64 s.sec,UN s.seq,UN s.prev,.int .i64 s.idx,.int .i64 s.len,AN pa,.slc db 0 sz (Aa+1)]:=hdt
  have kr:=(Ag k2 q4).rk
  have kx:=Ag k2 k
  refine wk ?_
  (apply st1 L rfl;exact Bg lkr hdt' rfl;rfl)
  refine wk ?_
  refine Ml L rfl rfl rfl rfl rfl (Zw L X (x:=(⟨pa,s,data⟩,db)) (sz:=sz) (by exact lkp)).A ?_
  rintro _ h3 ⟨rfl,w1⟩
  by_cases hp:atP p ⟨pa,s,data⟩=true
  ·have e1:decide (((((⟨pa,s,data⟩,db):PgE×Nat).1.at_:Nat):Int)=p)=true:=hp
   rw [e1]
   rcases G0 with G|G
   ·refine ret X.f116.1 ?_
    exact⟨rfl,kps⟩
   ·exact absurd (hp.symm.trans G) (by simp)
  ·have e1:decide (((((⟨pa,s,data⟩,db):PgE×Nat).1.at_:Nat):Int)=p)=false:=Bool.eq_false_iff.2 hp
   rw [e1]
   refine wk ?_
   exact cont _ _ (by simpa using hp) (by exact kps) tsb
 refine Af L X.f116 fun Q x cs G=>?_;refine wk ?_
 cases hf:(l.map (·.1)).findIdx? (atP p)with
 |none=>
  rw [hf]at G;rw [List.findIdx?_eq_none_iff]at hf;refine Bs L (α:= Unit) (T:=fun i _=> [(8,some (AN i)),(7,some (AN l.length)),(0,some (.slc lb 0 l.length (Aa+8))),(1,some (.fn (.func 117) [] [.ptr xb 0]))]) (n:=l.length) (R:=fun i _ h2=>K0 h h2) (i0:=0) () tsb kps (Nat.zero_le _) ?_ ?_;·rintro i _ h2 hi w1 ih;refine round Q x cs i l[i] h2 (List.getElem?_eq_getElem hi) w1 (fun h3 lq _ k3 t3=>ih () h3 lq k3 t3) (.inr ?_);exact hf _ (List.mem_map_of_mem (List.getElem_mem hi))
  ·rintro _ h2 w1;refine ret X.f116.1 ?_;exact⟨rfl,kps⟩
 |some j=>
  rw [hf]at G;rw [List.findIdx?_eq_some_iff_getElem]at hf;obtain⟨hj,hp1,hp2⟩:=hf;rw [List.length_map]at hj;refine Bs L (α:= Unit) (T:=fun i _=> [(8,some (AN i)),(7,some (AN l.length)),(0,some (.slc lb 0 l.length (Aa+8))),(1,some (.fn (.func 117) [] [.ptr xb 0]))]) (n:=j) (R:=fun i _ h2=>K0 h h2) (i0:=0) () tsb kps (Nat.zero_le _) ?_ ?_;·rintro i _ h2 hi w1 ih;refine round Q x cs i (l[i]'(by omega)) h2 (List.getElem?_eq_getElem _) w1 (fun h3 lq _ k3 t3=>ih () h3 lq k3 t3) (.inr ?_);have:=hp2 i hi;rw [List.getElem_map]at this;simpa using this
  ·rintro _ h2 w1;refine round Q x cs j l[j] h2 (List.getElem?_eq_getElem hj) w1 (fun h3 lq e k3 t3=>?_) (.inl fun v h' p=>G v h' p);rw [List.getElem_map]at hp1;rw [hp1]at e;cases e
omit L X in
theorem wx {j:Nat}(hf:LL.findIdx? (atP e.2)=some j): ∃x,LL[j]?=some x∧Pf LL e=(Hb x && decide (x.s.sec=e.1)):=by
 unfold Pf;rw [List.findIdx?_eq_some_iff_getElem]at hf;obtain⟨hj,h1,h2⟩:=hf;refine⟨LL[j],List.getElem?_eq_getElem hj,?_⟩;have:LL.find? (fun x=>decide (((x.at_:Nat):Int)=e.2))=some LL[j]:=by rw [List.find?_eq_some_iff_getElem];exact⟨h1,j,hj,rfl,fun i hi=>by have:=h2 i hi;simpa [atP]using this⟩
 rw [this]
omit L X in
theorem Zx (hf:LL.findIdx? (atP e.2)=none):Pf LL e=false:=by
 unfold Pf;rw [List.findIdx?_eq_none_iff]at hf;have:LL.find? (fun x=>decide (((x.at_:Nat):Int)=e.2))=none:=by rw [List.find?_eq_none];intro x hx;have:=hf x hx;unfold atP at this;rw [this];simp
 rw [this]
theorem mz {sz:Nat}{ev:AV}{es:List Ent}(q:PL lo' h sz lv LL)(k:EL h lo ev es)(hL:LL.length≤100)(hE:es.length≤1000000)(hall: ∀e∈es,Pf LL e=true): Ct P0 E F K 60 [lv,ev] h fun v h'=>v= .tup []∧K0 h h':=by
 rcases k.len with⟨rfl,rfl⟩|⟨g1,eb,rfl,g3,g4⟩;·refine Af L X.f60 fun Q x cs G=>?_;refine wk ?_;refine Bt L ?_;refine ret X.f60.1 ?_;exact⟨rfl,kps⟩
 have l1:=g3.lt;refine Af L X.f60 fun Q x cs G=>?_;refine wk ?_;refine Bs L (α:= Unit) (T:=fun i _=> [(9,some (AN i)),(8,some (AN es.length)),(7,some (.slc eb 0 es.length (Aa+2))),(0,some lv)]) (n:=es.length) (R:=fun i _ h2=>K0 h h2) (i0:=0) () tsb kps (Nat.zero_le _) ?_ ?_
 ·rintro i _ h2 hi w1 ih;have hx:es[i]?=some es[i]:=List.getElem?_eq_getElem hi;have hdt:=B4 es (Fi es) i _ hx;have hh:=hall _ (List.getElem_mem hi);generalize es[i]=e at*;obtain⟨s,p⟩:=e;have hdt':i*2+2≤(es.flatMap Az).length∧((es.flatMap Az).drop (i*2)).take 2= [AI s,AI p]:=hdt;have kr:=(Ag w1 g3).rk;have n2:=w1.n;refine wk ?_;(apply st1 L rfl;exact Bg lkr hdt' rfl;rfl);refine cal ?_ (c:=my L X (s:=s) (p:=p) ((q.k0 w1).k0 (by exact kps)) (by exact lkp) hL);rintro _ h3 ⟨rfl,w2⟩;have n3:=w2.n;simp only [Al]at n3
  cases hf:LL.findIdx? (atP p)with
  |none=>rw [Zx (e:=(s,p)) hf]at hh;cases hh
  |some j=>
   obtain⟨x,hxj,e1⟩:=wx (e:=(s,p)) hf;rw [e1]at hh;simp only [Bool.and_eq_true,decide_eq_true_eq]at hh;obtain⟨l,rfl,q1,q2⟩:=q.ex;rw [List.getElem?_map,Option.map_eq_some_iff]at hxj;obtain⟨y,hy,rfl⟩:=hxj;have hj:j<l.length:=(List.getElem?_eq_some_iff.1 hy).1;rcases q2 with⟨rfl,rfl⟩|⟨q3,lb,rfl,q4,-,-⟩;·cases hy
   have hf8: ∀x∈l,(peC sz x).length=8:=fun _ _=>rfl;have hdx:=B4 l hf8 j _ hy;have hsec:(l.flatMap (peC sz))[j*8+0+1]?=some (.int .i64 y.1.s.sec):=(by have:=congrArg (fun r=>r[1]?) hdx.2;simp only [List.getElem?_take_of_lt (show 1<8 by omega),List.getElem?_drop]at this;exact this);obtain⟨⟨pa,sp,data⟩,db⟩:=y;simp only at hh hsec;have hdx':j*8+8≤(l.flatMap (peC sz)).length∧((l.flatMap (peC sz)).drop (j*8)).take 8= [.int .u8 (sp.kind:Int),.int .i64 sp.sec,UN sp.seq,UN sp.prev,.int .i64 sp.idx,.int .i64 sp.len,AN pa,.slc db 0 sz (Aa+1)]:=hdx;have q4':Bk h3 lb (l.flatMap (peC sz)):=Ag w2 (by have:=Ag w1 q4;have:=this.lt;exact lkp);have kr2:=q4'.rk;have hl2:l.length≤100:=(by simpa using hL);refine wk ?_;(apply Ax rfl rfl;exact Bg lkr hdx' rfl);refine cal ?_ (c:=T1 L X (x:=(⟨pa,sp,data⟩,db)) (sz:=sz));rintro _ h4 ⟨rfl,w3⟩;have n4:=w3.n;try simp only [Al]at n4
   rw [show Hb ((⟨pa,sp,data⟩,db):PgE×Nat).1=true from hh.1];have q4'':=Ag w3 q4';refine cal ?_ (c:=E4 L X);rintro _ rfl;refine wk ?_;refine ih () _ _ (by exact kps) tsb
 ·rintro _ h2 w1;refine ret X.f60.1 ?_;exact⟨rfl,kps⟩
omit L X
def jrn (bs:List Nat)(n:Nat):List Int:=((List.range n).filter fun b=>decide (b∈bs)).map fun b=>((b:Nat):Int)
def drt (D:Dv)(bs:List Nat)(n:Nat):List Int:=((List.range n).filter fun b=>!decide (b∈bs) && decide (0<(D.bl b).nx)).map fun b=>((b:Nat):Int)
theorem wy (bs:List Nat)(n:Nat):jrn bs (n+1)=jrn bs n++(if n∈bs then [(n:Int)]else []):=by unfold jrn;rw [List.range_succ,List.filter_append,List.map_append];by_cases e:n∈bs <;> simp [e]
theorem wz (D:Dv)(bs:List Nat)(n:Nat):drt D bs (n+1)=drt D bs n++(if n∉bs∧0<(D.bl n).nx then [(n:Int)]else []):=by unfold drt;rw [List.range_succ,List.filter_append,List.map_append];by_cases e:n∈bs <;> by_cases f:0<(D.bl n).nx <;> simp [e,f]
theorem Abn (D:Dv)(bs:List Nat)(n:Nat):(jrn bs n).length≤n∧(drt D bs n).length≤n:=by unfold jrn drt;rw [List.length_map,List.length_map];exact⟨Nat.le_trans (List.length_filter_le _ _) (by simp),Nat.le_trans (List.length_filter_le _ _) (by simp)⟩
include L X
section
variable {l:List (Nat×Option AV)}{n d:Nat}{t:T Blk}{lh:List (Nat×Option Blk)}{x:O}{gd:Option (Nat×Bool)}{r:List CI}{k:List AItem}{ds:List ADef}{ro:Option Nat}
omit X in
theorem Adh {b2:Nat}{ls:List Int}(hg:gdO gd l=some true)(e:evO l x=some v)(q:RowN (hp n t lh) lo v ls)(hlo:lo≤n)(e1:evO l y=some (.slc b2 o2 1 cap2))(k2:SlR 1 (hp n t lh) (.slc b2 o2 1 cap2) 1 [AI z])(hb:(ls.length+1)*(bytes+1)≤1099511627776) (g: ∀h',RowN h' lo (.slc n 0 (ls.length+1) (Aa+1)) (ls++ [z])→Kp (fun j=> ∃m c,v= .slc j 0 m c) (hp n t lh) h'→h'.n=n+1→Good P0 E Q ⟨⟨fn,nt,tms ((d,some (.slc n 0 (ls.length+1) (Aa+1)))::l),.ops r::k,ds,.run,dfd,ro⟩,cs,hp h'.n h'.t []⟩): Good P0 E Q ⟨⟨fn,nt,tms l,.ops (⟨some d,gd,.append 1 bytes x y⟩::r)::k,ds,.run,dfd,ro⟩,cs,hp n t lh⟩:=by
 rcases q.ex with⟨rfl,rfl⟩|⟨h2,b,rfl,kb,hl⟩;·have kk:Bk (hp (n+1) t ((n,some (cl [AI z]))::lh)) n [AI z]:=lkp;have k0:Kp (fun j=> ∃m c,AV.nils= .slc j 0 m c) (hp n t lh) (hp (n+1) t ((n,some (cl [AI z]))::lh)):=kps;exact Eg L (Aw hg) (Dr e e1 k2 (by omega) (by simpa using hb)).e (g (hp (n+1) t ((n,some (cl [AI z]))::lh)) ⟨.inr ⟨by simp,n,rfl,kk,hlo⟩⟩ k0 rfl)
 ·have kk:Bk (hp (n+1) t ((n,some (cl (ls.map AI++ [AI z])))::(b,none)::lh)) n ((ls++ [z]).map AI):=by rw [List.map_append];exact lkp
  have k0:Kp (fun j=>j=b) (hp n t lh) (hp (n+1) t ((n,some (cl (ls.map AI++ [AI z])))::(b,none)::lh)):=kps;exact Eg L (Aw hg) (Dq e e1 (Adf kb) k2 (by omega) hb rfl).e (g (hp (n+1) t ((n,some (cl (ls.map AI++ [AI z])))::(b,none)::lh)) ⟨.inr ⟨by simp,n,by simp,kk,hlo⟩⟩ (k0.mono fun j e=>⟨ls.length,Aa+1,by rw [e]⟩) rfl)
end
theorem m6 {l:List (Nat×Option AV)}{todo:List AItem}{z:AFr}{b4 b5:Nat}{x0 x1 x2 x3 x4 y0:AV}(t4:look l 4=some (.ptr b4 0))(t5:look l 5=some (.ptr b5 0)) (k4:Bk h b4 [x0,x1,x2,x3,x4]) (k5:Bk h b5 [y0]) (hG: ∀v h',post v h'→GO P0 E Q (finish v cs h' z)) (hp1:post (.tup [.agg [x0,x1,x2,x3,x4],y0]) h): Good P0 E Q ⟨⟨14,nt,tms l,todo,[.call 50 [.ptr b4 0,.ptr b5 0]],.returning,false,none⟩,z::cs,h⟩:=by refine C6 L (by intro q;cases q) X.f50.1 rfl rfl rfl ?_;refine Ea L rfl ?_;refine wk ?_;(apply st1 L rfl;exact Li (k:=true) rfl rfl;rfl);refine wk ?_;refine Im L X.f50.1 rfl ?_;refine D7 L X.f14.1 (E5 t4 (Bk.e lkp) rfl (C4 t5 (Bk.e lkp) rfl Er)) hG hp1
theorem Xo {x:AFr}{d bb:Nat}{cb:List AV}(ok:D.Ok)(dc:DevC κ h d D fm bb cb){ck last next:Nat}{Mu:List (Int×AV×Nat)}{ev:AV}{es:List Ent}{bs:List Nat} (w:K0 h hh) (kf:Bk hh h.n [ev,UN last,UN next,.nils,.nils]) (ke:Bk hh (h.n+1) [Zi]) (km:Mk hh mu (Mu.map (mE AI)) ck) (hlo:h.n+2≤mu) (hev:EL hh (h.n+2) ev es) (hu1: ∀b∈bs,∃z:Int,A5 Mu (b:Int)=some (AI z)∧0<z) (hu2: ∀b:Nat,b∉bs→A5 Mu (b:Int)=none) (G: ∀v h',post v h'→GO P0 E Q (finish v cs h' x)) (hp1: ∀v2 v3 h',RowN h' h.n v2 (jrn bs D.nb)→RowN h' h.n v3 (drt D bs D.nb)→EL h' h.n ev es→K0 h h'→post (.tup [.agg [ev,UN last,UN next,v2,v3],Zi]) h') {lq:List (Nat×Option AV)} (ht:TSub (tms [(105,some Zi),(104,some (AN D.nb)),(14,some (.map mu)),(5,some (.ptr (h.n+1) 0)),(4,some (.ptr h.n 0)),(0,some (.ptr d 0))]) (tms lq)): Good P0 E Q ⟨⟨14,cf14.ntmps,tms lq,[.code Afj,.inBlock 4,.code Afk],[.call 50 [.ptr h.n 0,.ptr (h.n+1) 0]],.run,false,none⟩,x::cs,hh⟩:=by
 have n0:=w.n;have lmu:=km.lt;have lke:=ke.lt;have hnb:=ok.g.nb;refine Bs L (bd:=Afi) (α:= AV×AV) (T:=fun i _=> [(105,some (AN i)),(104,some (AN D.nb)),(14,some (.map mu)),(5,some (.ptr (h.n+1) 0)),(4,some (.ptr h.n 0)),(0,some (.ptr d 0))]) (n:=D.nb) (R:=fun i s h2=>Kp (fun j=>j=h.n) hh h2∧RowN h2 hh.n s.1 (jrn bs i)∧RowN h2 hh.n s.2 (drt D bs i)∧(∀b1 n1 c1 b2 n2 c2,s.1= .slc b1 0 n1 c1→s.2= .slc b2 0 n2 c2→b1≠b2)∧Bk h2 h.n [ev,UN last,UN next,s.1,s.2]) (i0:=0) (.nils,.nils) ht ⟨Kp.refl _,⟨.inl ⟨rfl,rfl⟩⟩,⟨.inl ⟨rfl,rfl⟩⟩,(fun _ _ _ _ _ _ e=>by cases e),kf⟩ (Nat.zero_le _) ?_ ?_
 ·rintro i ⟨v1,v2⟩ h2 hi ⟨w1,wa,wb,wd,w3⟩ ih;simp only at wa wb wd w3;have n2:=w1.n;have l3:=w3.lt;have hbl:=Abn D bs i;have ke2:Bk h2 (h.n+1) [Zi]:=Aq w1 (by omega) ke;have km2:=Me w1 (by omega) km;have kk:K0 h h2:=Kp.trS w1 (fun i hi e=>by omega) w;have bd1:=wa.bd;have bd2:=wb.bd;have blo: ∀{v:AV} {S:List Int},RowN h2 hh.n v S→ ∀b m c,v= .slc b 0 m c→hh.n≤b:=fun q b m c e=>by rcases q.ex with⟨-,e2⟩|⟨-,b',e2,-,g⟩ <;> rw [e2]at e <;> cases e;exact g
  have bl1:=blo wa;have bl2:=blo wb
  have ih2:=fun(v1' v2':AV) (h':H) (l':List (Nat×Option AV)) (a1:Kp (fun j=>j=h.n) hh h') (a2:RowN h' hh.n v1' (jrn bs i++(if i∈bs then [(i:Int)]else []))) (a3:RowN h' hh.n v2' (drt D bs i++(if i∉bs∧0<(D.bl i).nx then [(i:Int)]else []))) (a4: ∀b1 n1 c1 b2 n2 c2,v1'= .slc b1 0 n1 c1→v2'= .slc b2 0 n2 c2→b1≠b2) (a5:Bk h' h.n [ev,UN last,UN next,v1',v2'])
   (t:TSub (tms [(105,some (AN (i+1))),(104,some (AN D.nb)),(14,some (.map mu)),(5,some (.ptr (h.n+1) 0)),(4,some (.ptr h.n 0)),(0,some (.ptr d 0))]) (tms l'))=>ih (v1',v2') h' l' ⟨a1,by rw [wy];exact a2,by rw [wz];exact a3,a4,a5⟩ t
  clear ih;generalize jrn bs i=js at*;generalize drt D bs i=ds at*;by_cases hb:i∈bs
  ·obtain⟨z,hz,hz0⟩:=hu1 i hb;rw [if_pos hb,if_neg (show¬(i∉bs∧0<(D.bl i).nx) from fun q=>q.1 hb),List.append_nil]at ih2;(try refine Bn L 1000 rfl ?_);(repeat(first|(apply st1 L rfl;exact⟨Dy rfl⟩;rfl)|(apply st1 L rfl;exact Hw rfl rfl rfl;rfl)|(apply st1 L rfl;exact Ey rfl rfl (by omega);rfl)|(apply st1 L rfl;exact Cb rfl rfl (by omega);rfl)|(apply st1 L rfl;(apply C5 rfl;exact lkp;first|rfl|assumption);rfl)));(apply st1 L rfl;exact Db (KE.int .i64) (M:=Mu) (k:=(i:Int)) rfl rfl lkq;rfl);rw [hz];refine wk ?_;refine Adh L rfl rfl (wa.kv (B:=fun _=>False) (by exact kps) (fun _ _ _ _ f=>f)) (by omega) rfl (Hk lkp) (by omega) ?_;rintro h4 q4 k4 n4;have w34:Bk h4 h.n [ev,UN last,UN next,v1,v2]:=Aq k4 (by rintro⟨m,c,e⟩;have:=bl1 _ _ _ e;omega) (by exact lkp);have wb4:RowN h4 hh.n v2 ds:=(wb.kv (B:=fun _=>False) (by exact kps) (fun _ _ _ _ f=>f)).kv k4 (by rintro b m c e ⟨m',c',e'⟩;exact wd _ _ _ _ _ _ e' e rfl);have k24:Kp (fun j=>j=h.n) hh h4:=Kp.trS k4 (by rintro j hj ⟨m,c,e⟩;have:=bl1 _ _ _ e;omega) (Kp.tr0 (m:=h2) (by exact kps) w1);refine wk ?_;refine ih2 _ _ _ _ (Kp.trS (S':=fun j=>j=h.n) (m:=h4) (by exact kps) (fun _ _ e=>e) k24) (q4.kq (S:=fun j=>j=h.n) (by exact kps) (fun b hb e=>by omega)) (wb4.kq (S:=fun j=>j=h.n) (by exact kps) (fun b hb e=>by omega)) ?_ (by exact lkp) tsb;intro b1 n1 c1 b2 n2 c2 p1 p2
   cases p1;have:=bd2 _ _ _ p2;omega
  ·rw [if_neg hb,List.append_nil]at ih2;obtain⟨pn,c,hr⟩:=dc.rows i hi;have kd:=Ag kk dc.dk;have kbb:=Ag kk dc.bk;have hnx:=(ok.bl i hi).nx;(try refine Bn L 1000 rfl ?_);(repeat(first|(apply st1 L rfl;exact⟨Dy rfl⟩;rfl)|(apply st1 L rfl;exact Hw rfl rfl rfl;rfl)|(apply st1 L rfl;exact Ey rfl rfl (by omega);rfl)|(apply st1 L rfl;exact Cb rfl rfl (by omega);rfl)|(apply st1 L rfl;(apply C5 rfl;exact lkp;first|rfl|assumption);rfl)));(apply st1 L rfl;exact Db (KE.int .i64) (M:=Mu) (k:=(i:Int)) rfl rfl lkq;rfl);rw [hu2 i hb];refine cal ?_ (c:=Ir L X (by exact lkp) (by exact lkp) hi hr.c1);rintro _ rfl;by_cases hx:0<(D.bl i).nx
   ·rw [if_pos (show i∉bs∧0<(D.bl i).nx from⟨hb,hx⟩)]at ih2;refine wk ?_;refine Adh L rfl rfl (wb.kv (B:=fun _=>False) (by exact kps) (fun _ _ _ _ f=>f)) (by omega) rfl (Hk lkp) (by omega) ?_;rintro h4 q4 k4 n4;have w34:Bk h4 h.n [ev,UN last,UN next,v1,v2]:=Aq k4 (by rintro⟨m,c,e⟩;have:=bl2 _ _ _ e;omega) (by exact lkp);have wa4:RowN h4 hh.n v1 js:=(wa.kv (B:=fun _=>False) (by exact kps) (fun _ _ _ _ f=>f)).kv k4 (by rintro b m c e ⟨m',c',e'⟩;exact wd _ _ _ _ _ _ e e' rfl);have k24:Kp (fun j=>j=h.n) hh h4:=Kp.trS k4 (by rintro j hj ⟨m,c,e⟩;have:=bl2 _ _ _ e;omega) (Kp.tr0 (m:=h2) (by exact kps) w1);refine wk ?_;refine ih2 _ _ _ _ (Kp.trS (S':=fun j=>j=h.n) (m:=h4) (by exact kps) (fun _ _ e=>e) k24) (wa4.kq (S:=fun j=>j=h.n) (by exact kps) (fun b hb e=>by omega)) (q4.kq (S:=fun j=>j=h.n) (by exact kps) (fun b hb e=>by omega)) ?_ (by exact lkp) tsb;intro b1 n1 c1 b2 n2 c2 p1 p2
    cases p2;have:=bd1 _ _ _ p1;omega
   ·rw [if_neg (show¬(i∉bs∧0<(D.bl i).nx) from fun q=>hx q.2),List.append_nil]at ih2;refine wk ?_;refine ih2 _ _ _ _ (Kp.tr0 (m:=h2) (by exact kps) w1) (wa.kv (B:=fun _=>False) (by exact kps) (fun _ _ _ _ f=>f)) (wb.kv (B:=fun _=>False) (by exact kps) (fun _ _ _ _ f=>f)) wd (by exact lkp) tsb
 ·rintro⟨v1,v2⟩ h2 ⟨w1,wa,wb,wd,w3⟩;simp only at wa wb w3;have n2:=w1.n;have ke2:Bk h2 (h.n+1) [Zi]:=Aq w1 (by omega) ke;have kk:K0 h h2:=Kp.trS w1 (fun i hi e=>by omega) w;have l3:=w3.lt;have pl: ∀{v:AV} {S:List Int},RowN h2 hh.n v S→Bm v=true:=fun q=>by rcases q.ex with⟨-,rfl⟩|⟨-,b,rfl,-⟩ <;> rfl
  have hp2:Ar [ev,UN last,UN next,v1,v2]=true:=by have a1:=hev.plain.2;show(match Bm ev with|true=>(match Bm v1 with|true=>(match Bm v2 with|true=>true|false=>false)|false=>false)|false=>false)=true;rw [a1,pl wa,pl wb]
  refine wk ?_;(apply stS L rfl rfl rfl rfl rfl hp2;exact lkp;rfl;rfl);refine wk ?_;refine Gt L (todo:= []) ?_;refine m6 L X rfl rfl lkp lkp G (hp1 _ _ _ ((wa.kq (S:=fun j=>j=h.n∨j=h.n+1) (by exact kps) (fun b hb e=>by omega)).mono (by omega)) ((wb.kq (S:=fun j=>j=h.n∨j=h.n+1) (by exact kps) (fun b hb e=>by omega)).mono (by omega)) ?_ (by exact kps));have:=hev.kS w1 (fun b hb e=>by omega);exact(this.kS (S:=fun j=>j=h.n∨j=h.n+1) (by exact kps) (fun b hb e=>by omega)).mono (by omega)
omit L X in
theorem EL.keep {S:Nat→Prop}{l:List Ent}(q:EL h lo v l)(k:Kp S h h')(hs: ∀b n c,v= .slc b 0 n c→ ¬S b):EL h' lo v l:=by
 rcases q.ex with h1|⟨h2,b,h3,h4,h5⟩;·exact⟨.inl h1⟩
 ·exact⟨.inr ⟨h2,b,h3,Aq k (hs _ _ _ h3) h4,h5⟩⟩
omit L X in
structure UM (Mu:List (Int×AV×Nat))(bs:List Nat)(n:Nat):Prop where
 a: ∀b∈bs,∃z:Int,A5 Mu (b:Int)=some (AI z)∧0<z∧z≤(n:Int)
 b: ∀b:Nat,b∉bs→A5 Mu (b:Int)=none
omit L X in
theorem UM.step {Mu:List (Int×AV×Nat)}{bs:List Nat}{n ck k:Nat}(q:UM Mu bs n)(hz0:0<z)(hz1:z≤((n+1:Nat):Int)):UM (C7 Mu ck (k:Int) (AI z)) (bs++ [k]) (n+1):=by
 refine⟨fun b hb=>?_,fun b hb=>?_⟩
 ·rw [Bz];by_cases e:(b:Int)=(k:Int);·rw [if_pos e];exact⟨z,rfl,hz0,hz1⟩
  ·rw [if_neg e];rcases List.mem_append.1 hb with hb|hb;·obtain⟨z',h1,h2,h3⟩:=q.a b hb;exact⟨z',h1,h2,by omega⟩
   ·rw [List.mem_singleton]at hb;subst hb;exact absurd rfl e
 ·simp only [List.mem_append,List.mem_singleton,not_or]at hb;rw [Bz,if_neg (by omega)];exact q.b b hb.1
theorem T9 {x:AFr}{d bb:Nat}{cb:List AV}(ok:D.Ok)(dc:DevC κ h d D fm bb cb){b6 sz last next:Nat}{ev:AV}{es:List Ent}{zs:List Int} (w:K0 h hh) (kf:Bk hh h.n [ev,UN last,UN next,.nils,.nils]) (ke:Bk hh (h.n+1) [Zi]) (km:Mk hh mu [] 0) (hlo:h.n+2≤mu) (hev:EL hh (h.n+2) ev es) (kg:Bk hh b6 [AN D.nb,AN D.P,AN D.sz,AN D.en]) (h6:h.n+2≤b6) (q:PL lo hh sz lv (LL.filter isJ)) (hv:RowN hh (h.n+2) v2 zs) (hz: ∀z∈zs,∃j:Nat,z=(j:Int)∧j<(LL.filter isJ).length) (hl:zs.length≤1000000) (hL:(LL.filter isJ).length≤100) (hat: ∀y∈LL.filter isJ,y.at_<1000) (G: ∀v h',post v h'→GO P0 E Q (finish v cs h' x)) (hp1: ∀v2 v3 h',RowN h' h.n v2 (jrn (zs.map fun z=>Jx LL D.P z.toNat) D.nb)→RowN h' h.n v3 (drt D (zs.map fun z=>Jx LL D.P z.toNat) D.nb)→EL h' h.n ev es→K0 h h'→post (.tup [.agg [ev,UN last,UN next,v2,v3],Zi]) h') {lq:List (Nat×Option AV)} (ht:TSub (tms [(87,some Zi),(86,some (AN zs.length)),(85,some v2),(14,some (.map mu)),(12,some lv),(6,some (.ptr b6 0)),(5,some (.ptr (h.n+1) 0)),(4,some (.ptr h.n 0)),(0,some (.ptr d 0))]) (tms lq)): Good P0 E Q ⟨⟨14,cf14.ntmps,tms lq,[.code Afh,.inBlock 2,.code Afl],[.call 50 [.ptr h.n 0,.ptr (h.n+1) 0]],.run,false,none⟩,x::cs,hh⟩:=by
 have n0:=w.n;have lmu:=km.lt;have lke:=ke.lt;have lkg:=kg.lt;have lkf:=kf.lt;have hnb:=ok.g.nb;have hP:=ok.g.P;refine Bs L (bd:=Afg) (α:= List (Int×AV×Nat)×Nat) (T:=fun i _=> [(87,some (AN i)),(86,some (AN zs.length)),(85,some v2),(14,some (.map mu)),(12,some lv),(6,some (.ptr b6 0)),(5,some (.ptr (h.n+1) 0)),(4,some (.ptr h.n 0)),(0,some (.ptr d 0))]) (n:=zs.length) (R:=fun i s h2=>Kp (fun j=>j=mu) hh h2∧MOk s.1 s.2∧Mk h2 mu (s.1.map (mE AI)) s.2∧UM s.1 ((zs.take i).map (fun z=>Jx LL D.P z.toNat)) i) (i0:=0) ([],0) ht ⟨Kp.refl _,MOk.nil,km,⟨(fun b hb=>by cases hb),fun b _=>rfl⟩⟩ (Nat.zero_le _) ?_ ?_
 ·rintro i ⟨Mu,ck⟩ h2 hi ⟨w1,w2,w3,w4⟩ ih;simp only at w2 w3 w4;have n2:=w1.n;have l3:=w3.lt;have hx:zs[i]?=some zs[i]:=List.getElem?_eq_getElem hi;obtain⟨j,hj1,hj2⟩:=hz _ (List.getElem_mem hi);have e1:(zs.take (i+1)).map (fun z=>Jx LL D.P z.toNat)=(zs.take i).map (fun z=>Jx LL D.P z.toNat)++ [Jx LL D.P j]:=by rw [List.take_add_one,hx,List.map_append,hj1];rfl
  have hxv:(zs.map AI)[i]?=some (AN j):=by rw [List.getElem?_map,hx,hj1];rfl
  obtain⟨l,hlm,q1,q2⟩:=q.ex;have hjl:j<l.length:=by rw [←hlm,List.length_map]at hj2;exact hj2
  have hl100:l.length≤100:=by rw [←hlm,List.length_map]at hL;exact hL
  have hy:l[j]?=some l[j]:=List.getElem?_eq_getElem hjl;have hbz:Jx LL D.P j=(l[j]).1.at_ / D.P:=by unfold Jx;rw [←hlm,List.getElem?_map,hy];rfl
  have hat':=hat (l[j]).1 (by rw [←hlm];exact List.mem_map_of_mem (List.getElem_mem hjl));have hf8: ∀x∈l,(peC sz x).length=8:=fun _ _=>rfl;have hdx:=B4 l hf8 j _ hy;rcases q2 with⟨rfl,rfl⟩|⟨q3,lb,rfl,q4,-,-⟩
  ·exact absurd hjl (Nat.not_lt_zero _)
  have hatv:(l.flatMap (peC sz))[j*8+6]?=some (AN ((l[j]).1.at_)):=by have:=congrArg (fun r=>r[6]?) hdx.2;simp only [List.getElem?_take_of_lt (show 6<8 by omega),List.getElem?_drop]at this;exact this
  rw [e1,hbz]at ih;generalize (l[j]).1.at_=at9 at*;have q4n:lb≠mu:=by intro e;have:=q4.e;rw [e,km.e]at this;cases this
  have q4':Bk h2 lb (l.flatMap (peC sz)):=Aq w1 q4n q4;have kgn:b6≠mu:=by intro e;have:=kg.e;rw [e,km.e]at this;cases this
  have kg':=Aq w1 kgn kg;rcases hv.ex with⟨rfl,_⟩|⟨_,ub,rfl,hu1,hu2⟩;·exact absurd hi (Nat.not_lt_zero _)
  have hun:ub≠mu:=by intro e;have:=hu1.e;rw [e,km.e]at this;cases this
  have hu':=Aq w1 hun hu1;by_cases hb:at9 / D.P∈(zs.take i).map (fun z=>Jx LL D.P z.toNat);·obtain⟨z,hz1,hz2,hz3⟩:=w4.a _ hb;(try refine Bn L 1000 rfl ?_);(repeat(first|(apply st1 L rfl;exact⟨Dy rfl⟩;rfl)|(apply st1 L rfl;exact Hw rfl rfl rfl;rfl)|(apply st1 L rfl;exact Ey rfl rfl (by omega);rfl)|(apply st1 L rfl;exact Cb rfl rfl (by omega);rfl)|(apply st1 L rfl;(apply C5 rfl;exact lkp;first|rfl|assumption);rfl)));refine Pz L ?_;(repeat(first|(apply Ax rfl rfl;exact⟨Dy rfl⟩)|(apply Ax rfl rfl;exact Lj rfl rfl (by omega))|(apply Ax rfl rfl;exact Rd rfl rfl (by omega))|(apply Ax rfl rfl;(apply C5 rfl;exact lkp;first|rfl|assumption))|(apply Ax rfl rfl;(apply G9 rfl;exact lkp;rfl))|(apply Rh rfl rfl)));(apply Ax rfl rfl;exact Ff rfl rfl (by omega));(repeat(first|(apply Ax rfl rfl;exact⟨Dy rfl⟩)|(apply Ax rfl rfl;exact Lj rfl rfl (by omega))|(apply Ax rfl rfl;exact Rd rfl rfl (by omega))|(apply Ax rfl rfl;(apply C5 rfl;exact lkp;first|rfl|assumption))|(apply Ax rfl rfl;(apply G9 rfl;exact lkp;rfl))|(apply Rh rfl rfl)));(apply Ax rfl rfl;exact sy rfl rfl (by omega) (by omega));(apply Ax rfl rfl;exact Db (KE.int .i64) (M:=Mu) (k:=((at9 / D.P:Nat):Int)) rfl rfl lkq);rw [hz1];(apply Ax rfl rfl;exact Yu (p:=z) (r:=((1:Nat):Int)) rfl rfl (by omega) (by omega));refine wk ?_;(apply Mh L rfl rfl;exact Ez (k:=((at9 / D.P:Nat):Int)) (KE.int .i64) w2 rfl rfl rfl lkq);refine wk ?_;refine ih (C7 Mu ck ((at9 / D.P:Nat):Int) (AI (z+((1:Nat):Int))),mCk Mu ck ((at9 / D.P:Nat):Int)) _ _ ⟨by exact kps,w2.set _ _,by exact lkq,w4.step (by omega) (by omega)⟩ tsb
  ·have hz1:=w4.b _ hb;(try refine Bn L 1000 rfl ?_);(repeat(first|(apply st1 L rfl;exact⟨Dy rfl⟩;rfl)|(apply st1 L rfl;exact Hw rfl rfl rfl;rfl)|(apply st1 L rfl;exact Ey rfl rfl (by omega);rfl)|(apply st1 L rfl;exact Cb rfl rfl (by omega);rfl)|(apply st1 L rfl;(apply C5 rfl;exact lkp;first|rfl|assumption);rfl)));refine Pz L ?_;(repeat(first|(apply Ax rfl rfl;exact⟨Dy rfl⟩)|(apply Ax rfl rfl;exact Lj rfl rfl (by omega))|(apply Ax rfl rfl;exact Rd rfl rfl (by omega))|(apply Ax rfl rfl;(apply C5 rfl;exact lkp;first|rfl|assumption))|(apply Ax rfl rfl;(apply G9 rfl;exact lkp;rfl))|(apply Rh rfl rfl)));(apply Ax rfl rfl;exact Ff rfl rfl (by omega));(repeat(first|(apply Ax rfl rfl;exact⟨Dy rfl⟩)|(apply Ax rfl rfl;exact Lj rfl rfl (by omega))|(apply Ax rfl rfl;exact Rd rfl rfl (by omega))|(apply Ax rfl rfl;(apply C5 rfl;exact lkp;first|rfl|assumption))|(apply Ax rfl rfl;(apply G9 rfl;exact lkp;rfl))|(apply Rh rfl rfl)));(apply Ax rfl rfl;exact sy rfl rfl (by omega) (by omega));(apply Ax rfl rfl;exact Db (KE.int .i64) (M:=Mu) (k:=((at9 / D.P:Nat):Int)) rfl rfl lkq);rw [hz1];(apply Ax rfl rfl;exact Yu (p:=((0:Nat):Int)) (r:=((1:Nat):Int)) rfl rfl (by omega) (by omega));refine wk ?_;(apply Mh L rfl rfl;exact Ez (k:=((at9 / D.P:Nat):Int)) (KE.int .i64) w2 rfl rfl rfl lkq);refine wk ?_;refine ih (C7 Mu ck ((at9 / D.P:Nat):Int) (AI (((0:Nat):Int)+((1:Nat):Int))),mCk Mu ck ((at9 / D.P:Nat):Int)) _ _ ⟨by exact kps,w2.set _ _,by exact lkq,w4.step (by omega) (by omega)⟩ tsb
 ·rintro⟨Mu,ck⟩ h2 ⟨w1,w2,w3,w4⟩;simp only at w2 w3 w4;rw [List.take_length]at w4;have n2:=w1.n;have kk:K0 h h2:=Kp.trS w1 (fun i hi e=>by omega) w;have kg':Bk h2 b6 [AN D.nb,AN D.P,AN D.sz,AN D.en]:=Aq w1 (by intro e;have:=kg.e;rw [e,km.e]at this;cases this) kg;refine wk ?_;refine Xo L X ok dc (mu:=mu) (es:=es) (bs:=zs.map fun z=>Jx LL D.P z.toNat) kk (Aq w1 (by omega) kf) (Aq w1 (by omega) ke) w3 hlo ?_ (fun b hb=>?_) w4.b G hp1 tsb
  ·exact hev.keep w1 (fun b n c e=>by
    intro e2;rcases hev.ex with⟨_,f⟩|⟨_,b',f,f2,_⟩;·rw [f]at e;cases e
    ·rw [f]at e;cases e;have:=f2.e;rw [e2,km.e]at this;cases this)
  ·obtain⟨z,h1,h2,h3⟩:=w4.a b hb;exact⟨z,h1,h2⟩
end
variable {m:Nat}
theorem Aon {p:Prop}(h:p:=by
 exact⟨fun⟨b,⟨h1,h2⟩,e⟩=>⟨b,e.symm,h1,h2⟩,fun⟨b,e,h1,h2⟩=>⟨b,⟨h1,h2⟩,e.symm⟩⟩):p:=h
theorem Adl {p:Prop}(h:p:=by
 exact(d3.kS (S:=fun j=>j=h.n) (by exact kps) (fun b hb e=>by omega)).mono (by omega)):p:=h
section
variable (L:Lg P0 E F K)(X:Fx F K)
include L X
section
variable {S:Ap}{Hs Cs:List Rc}
omit L X
theorem Xr {L:List PgE}{x:PgE}(h:L[i]?=some x):A4 (L.take (i+1))=max (A4 (L.take i)) (x.s.seq+1):=by unfold A4;rw [List.take_add_one,h,List.foldl_append];rfl
theorem Fnd.mk' {bs:List Nat}(hb: ∀b∈bs,b<D.nb∧0<(D.bl b).nx):Fnd D (jrn bs D.nb) (drt D bs D.nb)∧ ∀b:Nat,(b:Int)∈jrn bs D.nb↔b∈bs:=by
 have mj: ∀z,z∈jrn bs D.nb↔ ∃b:Nat,z=(b:Int)∧b<D.nb∧b∈bs:=fun z=>by unfold jrn;simp only [List.mem_map,List.mem_filter,List.mem_range,decide_eq_true_eq];exact Aon
 have md: ∀z,z∈drt D bs D.nb↔ ∃b:Nat,z=(b:Int)∧b<D.nb∧b∉bs∧0<(D.bl b).nx:=fun z=>by unfold drt;simp only [List.mem_map,List.mem_filter,List.mem_range,Bool.and_eq_true,Bool.not_eq_true',decide_eq_false_iff_not,decide_eq_true_eq];exact Aon
 have nd: ∀p:Nat→Bool,(((List.range D.nb).filter p).map fun b=>((b:Nat):Int)).Nodup:=fun p=>List.Pairwise.map _ (fun a b (h:a≠b) e=>h (Int.ofNat.inj e)) (List.nodup_range.filter _);refine⟨⟨List.nodup_append.2 ⟨nd _,nd _,fun a ha b hb' e=>?_⟩,fun z hz=>?_,fun b h=>?_⟩,fun b=>⟨fun h=>?_,fun h=>(mj _).2 ⟨b,rfl,(hb b h).1,h⟩⟩⟩;·subst e;obtain⟨b,e,-,h1⟩:=(mj _).1 ha;obtain⟨b',e',-,h2,-⟩:=(md _).1 hb';rw [e]at e';exact h2 (Int.ofNat.inj e' ▸ h1)
 ·rcases List.mem_append.1 hz with hz|hz;·obtain⟨b,e,h1,-⟩:=(mj _).1 hz;exact⟨b,e,h1⟩
  ·obtain⟨b,e,h1,-⟩:=(md _).1 hz;exact⟨b,e,h1⟩
 ·refine⟨fun h=>?_,fun h2=>?_⟩
  ·rcases List.mem_append.1 h with h|h;·obtain⟨b',e,-,h1⟩:=(mj _).1 h;rw [Int.ofNat.inj e];exact(hb b' h1).2
   ·obtain⟨b',e,-,-,h1⟩:=(md _).1 h;rw [Int.ofNat.inj e];exact h1
  ·by_cases hm:b∈bs;·exact List.mem_append_left _ ((mj _).2 ⟨b,rfl,h,hm⟩)
   ·exact List.mem_append_right _ ((md _).2 ⟨b,rfl,h,hm,h2⟩)
 ·obtain⟨b',e,-,h1⟩:=(mj _).1 h;rw [Int.ofNat.inj e];exact h1
theorem Rc.Ok.jr {z:Nat}{r:Rc}(q:r.Ok m)(hz:12≤z∧z≤30)(hm:m<1000000)(hi:i<r.n z):(r.pg z i).1.Jr∧(r.pg z i).1.seq<9223372036854775808∧(r.pg z i).2.length≤100:=by have h1:=Cf (es:=r.es) hz.1 i;have h2:=q.fit hz hm hi;have h3:=Vo (sz:=z) (n:=r.es.length) (by omega) (by have:=q.len;omega);have h4:=q.n;exact⟨⟨h2.v,h2.ok,q.k⟩,by show r.f+i<_;have:i<cntJ z r.es.length:=hi;omega,by show(D1 z r.es i).length≤100;omega⟩
theorem xj (jq:Jst S Hs Cs)(a:AInv S)(hn:S.next<1000000)(hS:S.S≤10){Dm:List Int}(d:DomA S.A Dm): ∀e∈A8 S.A Dm,Pf (Ae S.D) e=true:=fun e he=>by
 obtain⟨s,hs,rfl⟩:=List.mem_map.1 he
 obtain⟨p,hp⟩:=Option.isSome_iff_exists.1 ((d.mem s).1 hs)
 have:atA S.A s=p:=by unfold atA;rw [hp];rfl
 rw [this];exact jq.hold a hn hS hp
def xm (S:Ap)(Cs:List Rc)(h:H)(v:AV)(h':H):Prop:=
 ∃ev v1 v2 Dm js ds,v= .tup [.agg (Iw ev v1 v2 S.last (A4 (Ae S.D))),Zi]∧DomA S.A Dm∧Dm.length≤1000∧EL h' h.n ev (A8 S.A Dm)∧RowN h' h.n v1 js∧RowN h' h.n v2 ds∧Fnd S.D js ds∧(∀b:Nat,(b:Int)∈js↔ ∃r∈Cs,∃i,i<r.n S.D.sz∧ ∃j,On S b j (r.pg S.D.sz i))∧K0 h h'
include L X
theorem xo {x:AFr}{d bb:Nat}{cb:List AV}(U:SortOk P0 E F 171)(ok:S.D.Ok)(dc:DevC κ h d S.D fm bb cb)(jq:Jst S Hs Cs)(a:AInv S)(hnx:S.next<1000000)(hS:1≤S.S∧S.S≤10){b6 r1 r2 vb:Nat} (w:K0 h hh) (kf:Bk hh h.n [.nils,Zu,UN 1,.nils,.nils]) (ke:Bk hh (h.n+1) [Zi]) (kg:Bk hh b6 [AN S.D.nb,AN S.D.P,AN S.D.sz,AN S.D.en]) (h6:h.n+2≤b6∧b6<r1∧b6<r2∧b6<vb) (mp:MpR S.S S.D.nb S.D.P hh m r1 r2 vb fun _=>none) (hm:h.n+2≤m∧h.n+2≤r1∧h.n+2≤r2∧h.n+2≤vb) (q:PL lo hh S.D.sz lv (Ae S.D)) (hc:h.n<lo∧r1<lo∧r2<lo∧vb<lo∧lo≤hh.n) (hpl:(Ae S.D).length≤100) (G: ∀v h',xm S Cs h v h'→GO P0 E Q (finish v cs h' x)) {lq:List (Nat×Option AV)} (ht:TSub (tms [(45,some Zi),(44,some (AN ((Ae S.D).length))),(43,some lv),(9,some lv),(7,some (.ptr m 0)),(6,some (.ptr b6 0)),(5,some (.ptr (h.n+1) 0)),(4,some (.ptr h.n 0)),(0,some (.ptr d 0))]) (tms lq)): Good P0 E Q ⟨⟨14,cf14.ntmps,tms lq,[.code Aff,.inBlock 0,.code Afm],[.call 50 [.ptr h.n 0,.ptr (h.n+1) 0]],.run,false,none⟩,x::cs,hh⟩:=by
 have n0:=w.n;have lke:=ke.lt;have lkg:=kg.lt;have lkf:=kf.lt;have hz:=a.geo.sz;have mlt:=mp.lt;obtain⟨s1,s2,s3,-⟩:=jq.seq a hnx;have hbn: ∀i,1≤A4 ((Ae S.D).take i)∧A4 ((Ae S.D).take i)≤1001000:=fun i=>by
  obtain⟨g1,g2,-⟩:=Og ((Ae S.D).take i) 1 1001000 (by omega) fun x hx=>by have:=s3 x (List.mem_of_mem_take hx);omega
  exact⟨g2,g1⟩
 refine Bs L (bd:=Afe) (α:= Unit) (T:=fun i _=> [(45,some (AN i)),(44,some (AN ((Ae S.D).length))),(43,some lv),(9,some lv),(7,some (.ptr m 0)),(6,some (.ptr b6 0)),(5,some (.ptr (h.n+1) 0)),(4,some (.ptr h.n 0)),(0,some (.ptr d 0))]) (n:=(Ae S.D).length) (R:=fun i _ h2=>Kp (fun j=>j=h.n) hh h2∧Bk h2 h.n [.nils,Zu,.int .u64 ((A4 ((Ae S.D).take i):Nat):Int),.nils,.nils]) (i0:=0) () ht ⟨Kp.refl _,kf⟩ (Nat.zero_le _) ?_ ?_
 ·rintro i _ h2 hi ⟨w1,w2⟩ ih;have n2:=w1.n;have l3:=w2.lt;have hbi:=hbn i;have hxp:(Ae S.D)[i]?=some (Ae S.D)[i]:=List.getElem?_eq_getElem hi;have e1:=Xr hxp;have hsq:=s3 _ (List.getElem_mem hi);obtain⟨l,hlm,q1,q2⟩:=q.ex;have hil:i<l.length:=by rw [←hlm,List.length_map]at hi;exact hi
  have hll:l.length≤100:=by rw [←hlm,List.length_map]at hpl;exact hpl
  have hx:l[i]?=some l[i]:=List.getElem?_eq_getElem hil;have hy:(l[i]).1=(Ae S.D)[i]:=by have:(l.map (·.1))[i]?=some (l[i]).1:=(by rw [List.getElem?_map,hx];rfl);rw [hlm,hxp]at this;simp only [Option.some.injEq]at this;exact this.symm
  have hf8: ∀x∈l,(peC S.D.sz x).length=8:=fun _ _=>rfl;have hdt:=B4 l hf8 i _ hx;rcases q2 with⟨rfl,rfl⟩|⟨q3,lb,rfl,q4,q5,-⟩
  ·exact absurd hil (Nat.not_lt_zero _)
  rw [←hy]at e1 hsq;rw [e1]at ih;generalize l[i]=y at*;obtain⟨⟨pa,s,data⟩,db⟩:=y;simp only at e1 hsq ih;have hdt':i*8+8≤(l.flatMap (peC S.D.sz)).length∧((l.flatMap (peC S.D.sz)).drop (i*8)).take 8= [.int .u8 (s.kind:Int),.int .i64 s.sec,UN s.seq,UN s.prev,.int .i64 s.idx,.int .i64 s.len,AN pa,.slc db 0 S.D.sz (Aa+1)]:=hdt;have q4':Bk h2 lb (l.flatMap (peC S.D.sz)):=Aq w1 (by omega) q4;have kr:=q4'.rk;have ke2:=Aq w1 (by omega) ke;clear q4 q4';refine wk ?_;(apply st1 L rfl;exact Bg lkr hdt' rfl;rfl);refine cal ?_ (c:=E4 L X);rintro _ rfl;refine wk ?_;(apply st1 L rfl;exact vm rfl rfl rfl (by simp only [pw];omega);rfl);refine wk ?_;refine ih () _ _ ⟨by exact kps,by exact lkp⟩ tsb
 ·rintro _ h2 ⟨w1,w2⟩;rw [List.take_length]at w2;have n2:=w1.n;have l3:=w2.lt;have ke2:=Aq w1 (by omega) ke;have kg2:Bk h2 b6 [AN S.D.nb,AN S.D.P,AN S.D.sz,AN S.D.en]:=Aq w1 (by omega) kg;have mp2:=mp.kp w1 (by omega) (by omega) (by omega) (by omega);have mlt2:=mp2.lt;have q2:=q.kp w1 (fun b hb _ e=>by omega);have hfl:((Ae S.D).filter isJ).length≤100:=Nat.le_trans (List.length_filter_le _ _) hpl;have hjf:(jps (Ae S.D)).length=((Ae S.D).filter isJ).length:=by unfold jps;rw [List.length_map]
  have hjm: ∀p∈jps (Ae S.D),p.1.Jr∧p.1.seq<9223372036854775808∧p.2.length≤100:=fun p hp=>by
   obtain⟨y,hy,rfl⟩:=List.mem_map.1 hp;obtain⟨hy1,hy2⟩:=List.mem_filter.1 hy;obtain⟨b,j,-,-,-,g1,-,-,g|⟨-,r,hr,i,hi,-,e⟩⟩:=jq.toJB.page hz hnx hy1;·unfold isJ at hy2;rw [g.1]at hy2;cases hy2
   ·rw [e];exact(jq.ok r hr).jr hz hnx hi
  refine cal ?_ (c:=Abb L X q2 (by omega) (by omega) (by omega));rintro lg h3 ⟨w5,w6⟩;have n3:=w6.n;try simp only [Al]at n3
  refine cal ?_ (c:=ww L X U w5 (by omega) (by omega) hjm);rintro _ h4 ⟨o,ks,v1,v2,rfl,y1,y2,y3,y4,y6,y5⟩;have n4:=y5.n;try simp only [Al]at n4
  obtain⟨u1,u2⟩:=jq.used a hnx y1 y2;obtain⟨hla,-⟩:=(jq.chn a hnx).lst y1 y2;have hchE:=(jq.chn a hnx).fol hz.1 y1 y2;rw [hla]at*;rw [hchE]at y3 y6;have hus: ∀z∈Dc (nI (chU (jps (Ae S.D)) ks)),∃j:Nat,z=(j:Int)∧j<((Ae S.D).filter isJ).length:=by intro z hz;rw [(Gb _).mem_iff]at hz;obtain⟨j,hj,rfl⟩:=List.mem_map.1 hz;exact⟨j,rfl,u1 j hj⟩
  have hpl3:Ar [v1,UN S.last,v2]=true:=by have a1:=y3.plain.2;have a2:Bm v2=true:=(by rcases y4.ex with⟨_,rfl⟩|⟨_,b,rfl,_⟩ <;> rfl);exact Aob
  refine wk ?_;(apply stS L rfl rfl rfl rfl rfl hpl3;exact lkp;rfl;rfl);refine cal ?_ (c:=Ob L X (mp2.kp (B:=fun j=>False) (by exact kps) id id id id) (y3.k0 (by exact kps)) y6.1 (fun b n c e=>by have:=(e ▸ y3:EL h4 h3.n (.slc b 0 n c) (Cs.flatMap Rc.es)).blt;omega) jq.ap);rintro _ h5 ⟨rfl,w7,a2⟩;have n5:=w7.n;simp only [Al]at n5;refine cal ?_ (c:=E4 L X);rintro _ rfl;rw [Kx,←jq.sem]at a2;refine cal ?_ (c:=Hc L X U a2);rintro ev h7 ⟨Dm,d1,d5,d3,d4⟩;have n7:=d4.n;try simp only [Al]at n7
  have p1:=d3.plain;refine wk ?_;(apply bm L rfl rfl rfl rfl rfl rfl rfl;exact lkp;rfl;intro h9 hs9;(repeat(first|(apply Ax rfl rfl;exact opv)|(apply Rh rfl rfl)));(first|(apply p_0;exact chk)|(refine Yx L ?_ rfl ?_;exact chk));refine Uy L hs9 ?_);(apply ba L rfl rfl rfl rfl p1.1 p1.2;exact lkp;(show 0<5;omega);refine Bn L 1000 rfl ?_);refine wk ?_;have kS: ∀h9,Kp (fun j=>j=h.n∨j=r1∨j=r2∨j=vb) h2 h9→PL lo h9 S.D.sz lv (Ae S.D):=fun h9 k9=>q2.kp k9 (fun b hb _ e=>by omega);have hDl:(A8 S.A Dm).length≤1000000:=by unfold A8;rw [List.length_map];omega
  refine cal ?_ (c:=mz L X (lo:=h5.n) (kS _ (by exact kps)) (d3.kS (S:=fun j=>j=h.n) (by exact kps) (fun b hb e=>by omega)) hpl hDl (xj jq a hnx hS.2 d1));rintro _ h8 ⟨rfl,w9⟩;have n8:=w9.n;try simp only [Al]at n8
  have w5':=fun h9 (k9:Kp (fun j=>j=h.n∨j=r1∨j=r2∨j=vb) h3 h9)=>w5.kp k9 (fun b hb _ e=>by omega);have hul:(Dc (nI (chU (jps (Ae S.D)) ks))).length≤1000000:=by rw [Dk];unfold nI;rw [List.length_map];exact y6.2
  have fin: ∀v2 v3 h',RowN h' h.n v2 (jrn ((Dc (nI (chU (jps (Ae S.D)) ks))).map fun z=>Jx (Ae S.D) S.D.P z.toNat) S.D.nb)→RowN h' h.n v3 (drt S.D ((Dc (nI (chU (jps (Ae S.D)) ks))).map fun z=>Jx (Ae S.D) S.D.P z.toNat) S.D.nb)→EL h' h.n ev (A8 S.A Dm)→K0 h h'→xm S Cs h (.tup [.agg [ev,UN S.last,UN (A4 (Ae S.D)),v2,v3],Zi]) h':=by
   intro v2 v3 h' r2 r3 re k;have hmem: ∀b,b∈((Dc (nI (chU (jps (Ae S.D)) ks))).map fun z=>Jx (Ae S.D) S.D.P z.toNat)↔ ∃r∈Cs,∃i,i<r.n S.D.sz∧ ∃j,On S b j (r.pg S.D.sz i):=fun b=>by rw [←u2 b,((Gb _).map _).mem_iff];unfold nI;rw [List.map_map];rfl
   obtain⟨f1,f2⟩:=Fnd.mk' (D:=S.D) (bs:=(Dc (nI (chU (jps (Ae S.D)) ks))).map fun z=>Jx (Ae S.D) S.D.P z.toNat) fun b hb=>by obtain⟨r,-,i,-,j,o⟩:=(hmem b).1 hb;exact⟨o.1,Nat.lt_of_le_of_lt (Nat.zero_le _) o.2.1⟩
   exact⟨ev,v2,v3,Dm,_,_,rfl,d1,d5,re,r2,r3,f1,fun b=>(f2 b).trans (hmem b),k⟩
  have hats: ∀y∈(Ae S.D).filter isJ,y.at_<1000:=fun y hy=>by obtain⟨b,j,g1,g2,g3,-⟩:=jq.toJB.page hz hnx (List.mem_filter.1 hy).1;have h1:=a.geo.nb;have h2:=a.geo.P;have h3:=a.nxP b g1;have:=Nat.mul_le_mul (show b≤12 by omega) h2.2;omega
  have y4':=y4;rcases y4.ex with⟨ez,rfl⟩|⟨ez,ub,rfl,_,_⟩;·refine wk ?_;refine T9 L X ok dc (last:=S.last) (next:=A4 (Ae S.D)) (zs:=Dc (nI (chU (jps (Ae S.D)) ks))) (LL:=Ae S.D) (sz:=S.D.sz) (es:=A8 S.A Dm) (by exact kps) (by exact lkp) (by exact lkp) (by exact lkq) (by omega) ?_ (by exact lkp) h6.1 (w5' _ (by exact kps)) ⟨.inl ⟨ez,rfl⟩⟩ hus hul hfl hats G fin (by rw [ez];exact tsb);exact Adl
  ·refine wk ?_;refine T9 L X ok dc (last:=S.last) (next:=A4 (Ae S.D)) (zs:=Dc (nI (chU (jps (Ae S.D)) ks))) (LL:=Ae S.D) (sz:=S.D.sz) (es:=A8 S.A Dm) (by exact kps) (by exact lkp) (by exact lkp) (by exact lkq) (by omega) ?_ (by exact lkp) h6.1 (w5' _ (by exact kps)) ?_ hus hul hfl hats G fin tsb;·exact Adl
   ·exact RowN.mono (RowN.kq y4' (S:=fun j=>j=h.n∨j=r1∨j=r2∨j=vb) (by exact kps) (fun b hb e=>by omega)) (by omega)
theorem dp {d:Nat}(T:Tb P0 E F K)(U:SortOk P0 E F 171)(r:DevR κ h d S.D)(jq:Jst S Hs Cs)(a:AInv S)(hoff:S.D.off=false)(hnx:S.next<1000000)(hS:1≤S.S∧S.S≤10):Ct P0 E F K 14 [.ptr d 0,AN S.S] h fun v h'=>xm S Cs h v h':=by
 have ok:=r.ok;have hnb:=a.geo.nb;have hP:=a.geo.P;have hpl:(Ae S.D).length≤100:=by have:=Jy ok S.D.nb (Nat.le_refl _);show(F8 S.D S.D.nb).length≤100;omega
 have r1d:=r;obtain⟨-,fm,bb,cb,dc⟩:=r;have hdk:=dc.dk;have ld:=hdk.lt;refine Af L X.f14 fun Q x cs G=>?_;refine wk ?_;refine Hx L rfl rfl rfl rfl ?_;refine cal ?_ (c:=Jt L X (by exact lkp));rintro _ h2 ⟨rfl,w1⟩;have n2:=w1.n;simp only [Al]at n2;refine cal ?_ (c:=E4 L X);rintro _ rfl;refine cal ?_ (c:=cz L X (S:=S.S) (by omega) (by omega) (by omega));rintro _ h3 ⟨m,r1',r2,vb,rfl,mp,w2,m1,m2,m3,m4⟩;have n3:=w2.n;simp only [Al]at n3 m1 m2 m3 m4;have mlt:=mp.lt;refine cal ?_ (c:=E4 L X);rintro _ rfl;refine cal ?_ (c:=Lr L X (by exact lkp));rintro _ rfl;rw [hoff];refine cal ?_ (c:=E4 L X);rintro _ rfl;refine cal ?_ (c:=vt L X T (r1d.k0 (by exact kps)) hoff);rintro lv h4 ⟨w4,w5⟩;have n4:=w5.n;try simp only [Al]at n4 w4
 have w4x:=w4.ex;obtain⟨l,hlm,q1,q2⟩:=w4x;have hll:(Ae S.D).length=l.length:=by rw [←hlm,List.length_map]
 rcases q2 with⟨rfl,rfl⟩|⟨q3,lb,rfl,q4,q5⟩
 all_goals
  refine wk ?_;refine xo L X U ok dc jq a hnx hS (b6:=h2.n) (m:=m) (r1:=r1') (r2:=r2) (vb:=vb) (by exact kps) (by exact lkp) (by exact lkp) (by exact lkp) (by omega) (mp.kp (B:=fun j=>j=h.n) (by exact kps) (by omega) (by omega) (by omega) (by omega)) (by omega) (w4.kp (B:=fun j=>j=h.n) (by exact kps) (fun b hb _ e=>by omega)) ⟨by omega,by omega,by omega,by omega,by exact n4⟩ hpl G (by rw [hll];exact tsb)
