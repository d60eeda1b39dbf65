import Derived.Test.YtgackjbfibdoiaaGreatH03
set_option linter.all false
set_option maxRecDepth 100000
set_option maxHeartbeats 4000000
namespace Go.Ev
variable {P0:Program}{E:Env}{F:T DY}{K:HK}(L:Lg P0 E F K)[X:Fx F K]
variable {P:Program}{Q:Nat->AV->Prop}{S:Nat->Prop}{args:List AV}{b ck d f fm fn i it m n nt o:Nat}{cs:FM}{AL:Bool}{ds:List HN}{CD:Nat->Bool}{g0:DY}{gd:Option (Nat×Bool)}{h AA:H}{k:DO}{l:CJ}{lh:SA}{op:RY}{p:Prop}{post:OF}{r:List CI}{ro:Option Nat}{seen:List Nat}{sh:Sh}{t:T DV}{u v zero:AV}{x y z:O}
structure Gk (h:H)(b:Nat)(x:DV):Prop where
 e:H.get h b=some x
 lt:b<h.n
section
variable {c:DV}{x:Option DV}
theorem Avs(k:Gk h b c):Gk (hp h.n h.t []) b c:=k
theorem Akb:Gk (hp (n+1) t ((n,some c)::lh)) n c:=⟨H6 _ _ _ _ _,NQ n⟩
theorem Avt(k:Gk (hp n t lh) i c):Gk (hp (n+1) t ((n,x)::lh)) i c:=⟨(H7 _ _ _ _ (Nat.ne_of_lt k.lt)).trans k.e,Nat.lt_succ_of_lt k.lt⟩
theorem D5(h:b<n):Gk (hp n t ((b,some c)::lh)) b c:=⟨H6 _ _ _ _ _,h⟩
theorem Avu(BZ:i≠b)(k:Gk (hp n t lh) i c):Gk (hp n t ((b,x)::lh)) i c:=⟨(H7 _ _ _ _ BZ).trans k.e,k.lt⟩
theorem Jw(q:Kp S h AA)(hs:¬S i)(k:Gk h i c):Gk AA i c:=⟨q.get k.e k.lt hs,IF k.lt q.n⟩
theorem C4(q:K0 h AA)(k:Gk h i c):Gk AA i c:=Jw q (λf=>f) k
end
theorem CS(h:p:=by
 (repeat(first|assumption|exact Akb|(apply Avs;first|assumption|(apply C4;assumption))|apply Avt|(refine D5 ?_;omega)|(apply Avu;first|omega|assumption)))
 (first |done |fail "no")):p:=h
section
variable {q:Bool}
theorem aaa(a:Int):TO a a=true:=by rw[F4];exact CM rfl
end
theorem acr{g:DY}(hf:T.get F f=some g)(hm:cD K f args=some v)(h:H):Ct P E F K f args h λu AA=>u=v/\AA=h:=by intro Q x cs hG;have h1:=hG v h ⟨rfl,rfl⟩;simp only[B6,hf,Xo,hm];exact h1
def gB(P:Program)(E:Env)(f:Nat)(args:List AV)(h:H)(post:OF):Prop:=
 ∀(AC:BF) (w0 w:World) (GP:Array Value),CQ AC args GP.toList->HW E w0 AC h w->
  Calls P f GP w λe AY=>∃v AQ BU AA,e= .returned AQ/\post v AA/\BF.le AC BU/\VR BU v AQ/\HW E w0 BU AA AY
section
theorem Aef{w0:World}{CE:List Frame}{o:Out}{m:Machine}(h:JO P E w0 CE o m)(g:GO P E Q o):∃fn v h fr w AC AQ,Q fn v/\Steps P m (lone fr CE w)/\fr.fn=fn/\fr.leaving P w (.returned AQ)/\VR AC v AQ/\HW E w0 AC h w:=by
 cases o with
 |one c=>obtain⟨GF,s1,s2⟩:=h;obtain⟨fn,v,hh,fr,w,AC,AQ,q,s,r⟩:=g w0 CE GF s2;exact⟨fn,v,hh,fr,w,AC,AQ,q,s1.trans s,r⟩
 |many l=>obtain⟨c,hc,GF,s1,s2⟩:=h;obtain⟨fn,v,hh,fr,w,AC,AQ,q,s,r⟩:=g c hc w0 CE GF s2;exact⟨fn,v,hh,fr,w,AC,AQ,q,s1.trans s,r⟩
 |done fn v hh=>obtain⟨fr,w,AC,AQ,s1,s2,s3,s4,s5⟩:=h;exact⟨fn,v,hh,fr,w,AC,AQ,g,s1,s2,s3,s4,s5⟩
 |fail=>exact g.elim
variable {tm:T AV}
include L in
theorem Aod{dst:Option Nat}(hw:wanted tm gd=some true)(hx:exec op h tm= .call (.func f) args)(hf:T.get F f=some g0)(c:gB P0 E f args h post)(g:∀v AA,post v AA->GO P0 E Q (finish v cs AA ⟨fn,nt,tm,.ops (⟨dst,gd,op⟩::r)::k,ds,.run,AL,ro⟩)):Good P0 E Q ⟨⟨fn,nt,tm,.ops (⟨dst,gd,op⟩::r)::k,ds,.run,AL,ro⟩,cs,h⟩:=by
 intro w0 CE m hA;obtain⟨AC,fr,NG,w,rfl,TG,CK,hr⟩:=hA.ex;have ai7:=TG;obtain⟨f1,tmps,OU,defers,mode,kind,QP⟩:=fr;obtain⟨h1,h2,h3,h4,h5,h6,h7⟩:=TG;simp only at h1 h2 h3 h4 h5 h6 h7 CK hr
 cases h5
 cases h6 with
 |plain ht hi=>
  cases hi with
  | @cons _ FB _ AZ hi hk=>
   obtain⟨ops,td,e1,rfl⟩:=hi.vK
   cases td with
   |nil=>cases e1
   |cons j rest=>
    rw[FU,Yr]at e1;obtain⟨e1,rfl⟩:=e1;rcases Kd E nt ops j with NH|⟨o,ho,q1,q2,q3,q4⟩;.rw[NH]at e1;cases e1;cases hx
    .rw[<-e1]at q1 q3 q4;simp only at q1 q3 q4;subst q1;have RL:=Es (a:=⟨tmps,defers⟩) ht q3 hw;rw[q4]at hx;have HA:∀c,o.op≠ .defer c:=Fz hx bp bu;have hc:=Rr (P:=P0) (w:=w) hr.hr (TR.RO (a:=⟨tmps,defers⟩) ht) hx;have hm:=Ot (P:=P0) (b:=⟨f1,tmps,.inRegion ops (j::rest)::AZ,defers,.run,kind,QP⟩) (a:=⟨tmps,defers⟩) (w:=w) (cs:=NG++CE) (k:=AZ) (rest:=rest) ho RL HA;obtain⟨GP,a1,a2⟩:=hc;obtain⟨fn2,cc,p1,p2,p3,p4⟩:=L.hT.fn f g0 hf;have ID:=hm.1 _ _ _ (a2 fn2 p1 p2 (by rw[p3];rfl));obtain⟨e,AY,sR,⟨v,AQ,BU,AA,rfl,k1,k2,k3,k4⟩,k5,k6,k7⟩:=c AC w0 w GP a1 hr (⟨f1,tmps,.inRegion ops (j::rest)::AZ,defers,.run,kind,QP⟩::(NG++CE));have dW:=L6 (P:=P0) (m:=lone ⟨f1,tmps,.inRegion ops (j::rest)::AZ,defers,.run,kind,QP⟩ (NG++CE) w) k4 (ai7.mono k2) (CK.mono k2) k3 L.hE (.head ID (Steps.trans k5 (.one (step_leave_returned k7))));exact Aef dW (g v AA k1)
end
include L in
theorem jf{a:List O}{va cp:List AV}(hg:HH gd l=some true)(e:AU l x=some (.fn (.func f) [] cp))(ha:Fb l a=some va)(hr:E5 va cp=some args)(hf:T.get F f=some g0)(hc:gB P0 E f args h post)(g:∀v AA,post v AA->Good P0 E Q ⟨⟨fn,nt,AJ ((d,some v)::l),.ops r::k,ds,.run,AL,ro⟩,cs,hp AA.n AA.t []⟩):Good P0 E Q ⟨⟨fn,nt,AJ l,.ops (⟨some d,gd,.LY x a⟩::r)::k,ds,.run,AL,ro⟩,cs,h⟩:=Aod L (Az hg) (Jb e ha hr) hf hc λv AA p=>L9 L Zt (g v AA p)
theorem Aoe{es:List FD}(h:b<n):Mk (hp n t ((b,some (.map es ck))::lh)) b es ck:=⟨H6 _ _ _ _ _,h⟩
theorem CH(h:p:=by
 (repeat(first|assumption|exact afl|(apply yE;first|assumption|(apply Sa;assumption)|(apply Nb;assumption;(first|omega|(dsimp only;omega))))|apply yF|(refine Aoe ?_;omega)|(apply yG;first|omega|assumption)))
 (first |done |fail "no")):p:=h
structure KE {α:Type}[DecidableEq α](sh:Sh)(enc:α->AV):Prop where
 eq:∀a b,eqv 20 sh (enc a) (enc b)=some (decide (a=b))
 ok:∀a,Lz sh (enc a)=true
 keq:∀a,F7 (enc a) (enc a)=true
theorem KE.int(k:IntKind):KE .QB (λa:Int=>AV.int k a):=
 ⟨λa b=>by show(match MW k k with|true=>some (TO a b)|false=>none)=_;rw[Br,F4],λ_=>rfl,λa=>by show(match MW k k with|true=>TO a a|false=>false)=true;rw[Br];exact aaa a⟩
section
variable {α:Type}[DecidableEq α]{enc:α->AV}
def mE(enc:α->AV)(x:α×AV×Nat):FD:=⟨enc x.1,x.2.1,x.2.2⟩
def A9(M:List (α×AV×Nat))(k:α):Option AV:=(M.find? λx=>decide (k=x.1)).map (·.2.1)
def G9(M:List (α×AV×Nat))(k:α)(v:AV):List (α×AV×Nat):=M.map λx=>if k=x.1 then(k,v,x.2.2)else x
def H9(M:List (α×AV×Nat))(k:α):Bool:=M.any λx=>decide (k=x.1)
def Dd(M:List (α×AV×Nat))(ck:Nat)(k:α)(v:AV):List (α×AV×Nat):=if H9 M k then G9 M k v else M++[(k,v,ck)]
def LM(M:List (α×AV×Nat))(ck:Nat)(k:α):Nat:=if H9 M k then ck else ck+1
def Jx(M:List (α×AV×Nat))(k:α):List (α×AV×Nat):=M.filter λx=>decide (k≠x.1)
structure EP (M:List (α×AV×Nat))(ck:Nat):Prop where
 keys:(M.map (·.1)).Nodup
 bH:(M.map (·.2.2)).Nodup
 lt:∀x∈M,x.2.2<ck
theorem EP.nil:EP ([]:List (α×AV×Nat)) 0:=⟨fT,fT,λx hx=>by cases hx⟩
theorem acs(e:KE sh enc)(k:α):∀M:List (α×AV×Nat),G4 (eqv 20 sh) (enc k) (M.map (mE enc))=some ((M.find? λx=>decide (k=x.1)).map (mE enc))
 | []=>rfl
 |x::r=>by
  simp only[FU,G4,ak];show(match eqv 20 sh (enc k) (enc x.1)with|some true=>_|some false=>_|none=>_)=_;rw[e.eq];by_cases h:k=x.1;.rw[CM h];rfl
  .rw[CW h];exact acs e k r
theorem Nc(e:KE sh enc)(k:α)(M:List (α×AV×Nat)):Jq sh (enc k) (M.map (mE enc))=some ((M.find? λx=>decide (k=x.1)).map (mE enc)):=by unfold Jq;rw[e.ok];exact acs e k M
theorem C7(M:List (α×AV×Nat))(k:α):H9 M k=(M.find? λx=>decide (k=x.1)).isSome:=by
 unfold H9;induction M with
 |nil=>rfl
 |cons x r ih=>
  rw[List.any_cons,ak];by_cases h:k=x.1;.rw[CM h];rfl
  .rw[CW h,ih];rfl
theorem eM{M:List (α×AV×Nat)}{k:α}:H9 M k=true↔k∈M.map (·.1):=by
 unfold H9;simp only[List.any_eq_true,LP,DK];constructor;.rintro⟨x,h1,h2⟩;exact⟨x,h1,h2.symm⟩
 .rintro⟨x,h1,h2⟩;exact⟨x,h1,h2.symm⟩
theorem cq(e:KE sh enc)(k:α)(v:AV):∀M:List (α×AV×Nat),(M.map (·.1)).Nodup->H9 M k=true->Vq (eqv 20 sh) (enc k) v (M.map (mE enc))=some ((G9 M k v).map (mE enc))
 | [],_,h=>by cases h
 |x::r,hn,h=>by
  rw[FU,RU]at hn;simp only[FU,Vq];show(match eqv 20 sh (enc k) (enc x.1)with|some true=>_|some false=>_|none=>_)=_;rw[e.eq];by_cases hk:k=x.1
  .rw[CM hk];have h1:G9 r k v=r:=by
    unfold G9;conv=>rhs;rw[<-List.map_id r]
    refine ar λy hy=>?_;have:k≠y.1:=λq=>hn.1 (by rw[<-hk,q];exact RQ hy);rw[AM this];rfl
   show(match F7 (enc k) (enc x.1)with|true=>_|false=>_)=_;rw[<-hk,e.keq];simp only[G9,FU,AP hk];have h2:List.map (λx=>if k=x.1 then(k,v,x.2.2)else x) r=r:=h1;rw[h2];rfl
  .rw[CW hk];have h2:H9 r k=true:=(by unfold H9 at h ⊢;rw[List.any_cons,CW hk]at h;exact h);simp only[cq e k v r hn.2 h2];simp only[G9,FU,AM hk]
theorem afn(e:KE sh enc)(k:α):∀M:List (α×AV×Nat),(M.map (·.1)).Nodup->Z5 (eqv 20 sh) (enc k) (M.map (mE enc))=some ((Jx M k).map (mE enc))
 | [],_=>rfl
 |x::r,hn=>by
  rw[FU,RU]at hn;simp only[FU,Z5];show(match eqv 20 sh (enc k) (enc x.1)with|some true=>_|some false=>_|none=>_)=_;rw[e.eq];by_cases hk:k=x.1;.rw[CM hk];have h1:Jx r k=r:=(by unfold Jx;rw[List.filter_eq_self];intro y hy;have:k≠y.1:=λq=>hn.1 (by rw[<-hk,q];exact RQ hy);exact CM this);simp only[Jx,RT,hk,ne_eq,not_true_eq_false,decide_false,RR,KS];rw[hk]at h1;unfold Jx at h1;rw[h1]
  .rw[CW hk];simp only[afn e k r hn.2];simp only[Jx,RT,CM hk,ne_eq,WN,FU]
theorem EP.put{M:List (α×AV×Nat)}{ck:Nat}(q:EP M ck)(k:α)(v:AV):EP (G9 M k v) ck:=by
 have h1:(G9 M k v).map (·.1)=M.map (·.1):=by
  unfold G9;rw[WL];refine ar λx _=>?_;show(if k=x.1 then(k,v,x.2.2)else x).1=x.1;by_cases h:k=x.1;.rw[AP h];exact h
  .rw[AM h]
 have h2:(G9 M k v).map (·.2.2)=M.map (·.2.2):=by
  unfold G9;rw[WL];refine ar λx _=>?_;show(if k=x.1 then(k,v,x.2.2)else x).2.2=x.2.2;by_cases h:k=x.1;.rw[AP h]
  .rw[AM h]
 refine⟨by rw[h1];exact q.keys,by rw[h2];exact q.bH,λx hx=>?_⟩;have h3:x.2.2∈(G9 M k v).map (·.2.2):=RQ hx;rw[h2]at h3;obtain⟨y,h4,h5⟩:=DK.1 h3;rw[<-h5];exact q.lt y h4
theorem EP.set{M:List (α×AV×Nat)}(q:EP M ck)(k:α)(v:AV):EP (Dd M ck k v) (LM M ck k):=by
 unfold Dd LM;by_cases h:H9 M k=true;.rw[AP h,AP h];exact q.put k v
 .rw[AM h,AM h];refine⟨?_,?_,λx hx=>?_⟩;.rw[IG,fM];refine⟨q.keys,by simp,λa ha b hb e=>h (eM.2 ?_)⟩;simp only[FU,Zb,EV]at hb;rw[<-hb,<-e];exact ha
  .rw[IG,fM];refine⟨q.bH,by simp,λa ha b hb e=>?_⟩;simp only[FU,Zb,EV]at hb;obtain⟨y,h1,h2⟩:=DK.1 ha;have:=q.lt y h1;omega
  .rcases GU.1 hx with hx|hx;.have:=q.lt x hx;omega
   .rw[EV]at hx;subst hx;exact NQ ck
theorem EP.del{M:List (α×AV×Nat)}(q:EP M ck)(k:α):EP (Jx M k) ck:=⟨q.keys.sublist (List.filter_sublist.map _),q.bH.sublist (List.filter_sublist.map _),λx hx=>q.lt x (JZ.1 hx).1⟩
theorem ao5(M:List (α×AV×Nat))(k AZ:α)(v:AV):A9 (G9 M k v) AZ=if AZ=k then(if H9 M k then some v else none)else A9 M AZ:=by
 induction M with
 |nil=>simp[A9,G9,H9]
 |cons x r ih=>
  unfold A9 G9 H9 at ih ⊢;simp only[FU,ak,List.any_cons];by_cases h:k=x.1
  .rw[AP h];by_cases h2:AZ=k;.subst h2;simp[h]
   .have h3:AZ≠x.1:=λq=>h2 (q.trans h.symm);simp only[CW h2,CW h3,AM h2]at ih ⊢;exact ih
  .rw[AM h];by_cases h2:AZ=x.1;.have h3:AZ≠k:=λq=>h (q.symm.trans h2);rw[AM h3];simp only[CM h2]
   .simp only[CW h2,CW h,Bool.false_or]at ih ⊢;exact ih
theorem ao6(M:List (α×AV×Nat))(k AZ:α)(v:AV)(ck:Nat):A9 (M++[(k,v,ck)]) AZ=match A9 M AZ with
 |some u=>some u
 |none=>if AZ=k then some v else none:=by
 unfold A9
 rw[List.find?_append]
 cases M.find? λx=>decide (AZ=x.1)with
 |some x=>rfl
 |none=>
  simp only[Option.none_or,ak,List.find?_nil,aj]
  by_cases h:AZ=k
  .simp[h]
  .simp[h]
theorem qO{M:List (α×AV×Nat)}{k:α}:A9 M k=none↔H9 M k=false:=by unfold A9;rw[C7];cases M.find? λx=>decide (k=x.1)<;>simp
theorem Bu(M:List (α×AV×Nat))(ck:Nat)(k AZ:α)(v:AV):A9 (Dd M ck k v) AZ=if AZ=k then some v else A9 M AZ:=by
 unfold Dd;by_cases h:H9 M k=true;.rw[AP h,ao5];simp[h]
 .rw[AM h,ao6];have h1:A9 M k=none:=qO.2 (by simpa using h);by_cases h2:AZ=k;.subst h2;rw[h1]
  .rw[AM h2];cases A9 M AZ<;>simp[h2]
theorem Kj(M:List (α×AV×Nat))(k AZ:α):A9 (Jx M k) AZ=if AZ=k then none else A9 M AZ:=by
 induction M with
 |nil=>simp[A9,Jx]
 |cons x r ih=>
  unfold A9 Jx at ih ⊢;rw[RT];by_cases h:k=x.1
  .simp only[h,ne_eq,not_true_eq_false,decide_false,RR,KS,ak];rw[h]at ih;simp only[ne_eq]at ih;rw[ih];by_cases h2:AZ=x.1;.rw[AP h2,AP h2]
   .rw[AM h2,AM h2,CW h2]
  .simp only[ne_eq,h,not_false_eq_true,fW,WN,ak];by_cases h2:AZ=x.1;.rw[CM h2];have h3:AZ≠k:=λq=>h (q.symm.trans h2);rw[AM h3]
   .rw[CW h2];simp only[ne_eq]at ih;exact ih
variable {r:Nat}{M:List (α×AV×Nat)}{k:α}
def Avv(zero:AV):Option AV->AV
 |some v=> .BM [v,.bool true]
 |none=> .BM [zero,.bool false]
theorem Ek(e:KE sh enc)(hx:AU l x=some (.map r))(hy:AU l y=some (enc k))(hb:Mk h r (M.map (mE enc)) ck):XV (.lookup sh zero x y true) h l (Avv zero (A9 M k)) h:=by
 refine⟨?_⟩;simp only[exec,Ak,Ac hx,Ac hy,hb.e,Nc e];unfold A9
 cases M.find? λx=>decide (k=x.1)with
 |none=>rfl
 |some x=>rfl
theorem C0(e:KE sh enc)(hx:AU l x=some (.map r))(hy:AU l y=some (enc k))(hb:Mk h r (M.map (mE enc)) ck):XV (.lookup sh zero x y false) h l ((A9 M k).getD zero) h:=by
 refine⟨?_⟩;simp only[exec,Ak,Ac hx,Ac hy,hb.e,Nc e];unfold A9
 cases M.find? λx=>decide (k=x.1)with
 |none=>rfl
 |some x=>rfl
theorem El(e:KE sh enc)(q:EP M ck)(hx:AU l x=some (.map r))(hy:AU l y=some (enc k))(hz:AU l z=some v)(hb:Mk (hp n t lh) r (M.map (mE enc)) ck):XV (.qU sh x y z) (hp n t lh) l .FK (hp n t ((r,some (.map ((Dd M ck k v).map (mE enc)) (LM M ck k)))::lh)):=by
 refine⟨?_⟩;simp only[exec,Ak,Ac hx,Ac hy,Ac hz,hb.e,Nc e];unfold Dd LM;by_cases h:H9 M k=true;.rw[AP h,AP h];have h1:=h;rw[C7]at h1;obtain⟨u,hu⟩:=SV.1 h1;simp only[hu,KR,cq e k v M q.keys h];rfl
 .rw[AM h,AM h];have h1:(M.find? λx=>decide (k=x.1))=none:=by rw[C7]at h;exact Option.not_isSome_iff_eq_none.1 h
  simp only[h1,aj];rw[IG];rfl
theorem Md(e:KE sh enc)(q:EP M ck)(hx:AU l x=some (.map r))(hy:AU l y=some (enc k))(hb:Mk (hp n t lh) r (M.map (mE enc)) ck):XV (.delete sh x y) (hp n t lh) l (.BM []) (hp n t ((r,some (.map ((Jx M k).map (mE enc)) ck))::lh)):=by refine⟨?_⟩;simp only[exec,Ak,Ac hx,Ac hy,hb.e,e.ok,afn e k M q.keys];rfl
theorem Wc(hx:AU l x=some (.map r))(hb:Mk h r (M.map (mE enc)) ck):XV (.mQ x) h l (AN M.length) h:=by refine⟨?_⟩;simp only[exec,Ak,Ac hx,hb.e,DC];rfl
end
theorem yI(h:p:=by
 intro hn a ha b hb e
 rw[FU,RU]at hn
 rcases DD.1 ha with ea|ha
 .rcases DD.1 hb with eb|hb
  .rw[ea,eb]
  .exact absurd (by rw[<-ea,e];exact RQ hb) hn.1
 .rcases DD.1 hb with eb|hb
  .exact absurd (by rw[<-eb,<-e];exact RQ ha) hn.1
  .exact ih hn.2 a ha b hb e):p:=h
section
variable {α:Type}[DecidableEq α]{enc:α->AV}
variable {r:Nat}{M:List (α×AV×Nat)}{k:α}
def aR(M:List (α×AV×Nat))(ck:Nat)(k:α):Nat:=match M.find? λx=>decide (k=x.1)with
 |some x=>x.2.2
 |none=>ck
theorem ao7{M:List (α×AV×Nat)}{k:α}{x:α×AV×Nat}(h:(M.find? λx=>decide (k=x.1))=some x):x∈M/\k=x.1:=⟨List.mem_of_find?_eq_some h,by have:=List.find?_some h;simpa using this⟩
theorem Wd(e:KE sh enc)(q:EP M ck)(hx:AU l x=some (.map r))(hy:AU l y=some (enc k))(hb:Mk (hp n t lh) r (M.map (mE enc)) ck):XV (.qQ sh zero x y) (hp n t lh) l (.BM [(A9 M k).getD zero,AN (aR M ck k)]) (hp n t ((r,some (.map ((Dd M ck k ((A9 M k).getD zero)).map (mE enc)) (LM M ck k)))::lh)):=by
 refine⟨?_⟩;simp only[exec,Ak,Ac hx,Ac hy,hb.e,Nc e];unfold Dd LM A9 aR;by_cases h:H9 M k=true;.rw[AP h,AP h];have h1:=h;rw[C7]at h1;obtain⟨u,hu⟩:=SV.1 h1;simp only[hu,KR,MC];have:(mE enc u).val=u.2.1:=rfl;simp only[this,cq e k u.2.1 M q.keys h];rfl
 .rw[AM h,AM h];have h1:(M.find? λx=>decide (k=x.1))=none:=by rw[C7]at h;exact Option.not_isSome_iff_eq_none.1 h
  simp only[h1,aj,cS];rw[IG];rfl
theorem act(b:Nat)(v:AV):∀(M:List (α×AV×Nat)) (k:α),(M.map (·.2.2)).Nodup->(∀x∈M,k=x.1↔x.2.2=b)->(∃x∈M,x.2.2=b)->I0 b v (M.map (mE enc))=some ((G9 M k v).map (mE enc))
 | [],k,_,_,⟨x,hx,_⟩=>by cases hx
 |y::r,k,hn,hk,hex=>by
  rw[FU,RU]at hn;simp only[FU,I0];show(match Nat.beq y.2.2 b with|true=>_|false=>_)=_;have hky:=hk y (DW ..);by_cases h:y.2.2=b
  .rw[show Nat.beq y.2.2 b=true by rw[Nat.beq_eq];exact h];have h1:G9 r k v=r:=by
    unfold G9;conv=>rhs;rw[<-List.map_id r]
    refine ar λz hz=>?_;have:k≠z.1:=λq=>by have h2:=(hk z (Ck _ hz)).1 q;exact hn.1 (by rw[h,<-h2];exact RQ hz)
    rw[AM this];rfl
   have h3:=hky.2 h;simp only[G9,FU,AP h3];have h2:List.map (λx=>if k=x.1 then(k,v,x.2.2)else x) r=r:=h1;rw[h2];simp only[mE,h3]
  .rw[show Nat.beq y.2.2 b=false from Jd h];have h4:∃x∈r,x.2.2=b:=by
    obtain⟨x,h5,h6⟩:=hex;rcases DD.1 h5 with rfl|h5;.exact absurd h6 h
    .exact⟨x,h5,h6⟩
   have h3:¬k=y.1:=λq=>h (hky.1 q);simp only[act b v r k hn.2 (λx hx=>hk x (Ck _ hx)) h4];simp only[G9,FU,AM h3]
theorem alp(q:EP M ck):(∀x∈Dd M ck k u,k=x.1↔x.2.2=aR M ck k)/\∃x∈Dd M ck k u,x.2.2=aR M ck k:=by
 have q2:=q.set k u;have hex:∃x∈Dd M ck k u,k=x.1/\x.2.2=aR M ck k:=by
  unfold Dd aR;by_cases h:H9 M k=true;.rw[AP h];have h1:=h;rw[C7]at h1;obtain⟨w,hw⟩:=SV.1 h1;obtain⟨h2,h3⟩:=ao7 hw;rw[hw];exact⟨(k,u,w.2.2),DK.2 ⟨w,h2,AP h3⟩,rfl,rfl⟩
  .rw[AM h];have h1:(M.find? λx=>decide (k=x.1))=none:=(by rw[C7]at h;exact Option.not_isSome_iff_eq_none.1 h);rw[h1];exact⟨(k,u,ck),Zf _ (EV.2 rfl),rfl,rfl⟩
 obtain⟨x,h1,h2,h3⟩:=hex;refine⟨λy hy=>?_,x,h1,h3⟩;have aci:∀{β:Type} (f:α×AV×Nat->β) (L:List (α×AV×Nat)),(L.map f).Nodup->∀a∈L,∀b∈L,f a=f b->a=b:=by
  intro β f L;induction L with
  |nil=>intro _ a ha;cases ha
  |cons c L ih=>exact yI
 constructor;.intro e;rw[aci (·.1) _ q2.keys y hy x h1 (by show y.1=x.1;rw[<-e,<-h2])];exact h3
 .intro e;rw[aci (·.2.2) _ q2.bH y hy x h1 (by show y.2.2=x.2.2;rw[e,h3])];exact h2
theorem aoy(u v:AV):G9 (Dd M ck k u) k v=Dd M ck k v:=by
 unfold Dd;by_cases h:H9 M k=true
 .rw[AP h,AP h];unfold G9;rw[WL];refine ar λx _=>?_;show(if k=(if k=x.1 then(k,u,x.2.2)else x).1 then _ else _)=_;by_cases hk:k=x.1;.simp[AP hk]
  .simp[AM hk]
 .rw[AM h,AM h];unfold G9;rw[IG];congr 1
  .conv=>rhs;rw[<-List.map_id M]
   refine ar λx hx=>?_;have:¬k=x.1:=λq=>h (eM.2 (by rw[q];exact RQ hx));rw[AM this];rfl
  .simp
theorem Nd{kk:IntKind}(q:EP M ck)(hx:AU l x=some (.map r))(hy:AU l y=some (.int kk ((aR M ck k:Nat):Int)))(hz:AU l z=some v)(hb:Mk (hp n t lh) r ((Dd M ck k u).map (mE enc)) (LM M ck k)):XV (.qT x y z) (hp n t lh) l .FK (hp n t ((r,some (.map ((Dd M ck k v).map (mE enc)) (LM M ck k)))::lh)):=by refine⟨?_⟩;obtain⟨h1,h2⟩:=alp (k:=k) (u:=u) q;have h3:=act (enc:=enc) (aR M ck k) v _ k (q.set k u).bH h1 h2;rw[aoy]at h3;have NK:DP l y= .int kk (Int.ofNat (aR M ck k)):=Ac hy;simp only[exec,Ak,Ac hx,NK,Ac hz,hb.e,h3];rfl
theorem We(hx:AU l x=some (.map r)){es:List FD}(hb:Mk (hp n t lh) r es ck):XV (.qg x) (hp n t lh) l (.ptr n 0) (hp (n+1) t ((n,some (.MX (some r) ck [] ck))::lh)):=by refine⟨?_⟩;simp only[exec,Ak,Ac hx,hb.e];rfl
theorem aab(b:Nat):∀s:List Nat,Ob b s=decide (b∈s)
 | []=>by simp[Ob]
 |a::s=>by
  simp only[Ob];by_cases h:a=b;.rw[show Nat.beq a b=true by rw[Nat.beq_eq];exact h];simp[h]
  .rw[show Nat.beq a b=false from Jd h];simp only[aab b s,DD];simp[show¬b=a from λq=>h q.symm]
theorem acu(ck:Nat)(seen:List Nat):∀M:List (α×AV×Nat),(∀x∈M,x.2.2<ck)->Pp ck seen (M.map (mE enc))=some ((M.filter λx=>decide (x.2.2∉seen)).map (mE enc))
 | [],_=>rfl
 |x::r,h=>by
  simp only[FU,Pp,acu ck seen r λy hy=>h y (Ck _ hy)];show(match Ob x.2.2 seen with|true=>_|false=>_)=_;rw[aab,RT];by_cases hs:x.2.2∈seen;.simp[hs]
  .have h1:Nat.ble (Nat.succ x.2.2) ck=true:=(by rw[PQ];exact h x (DW ..));simp only[CW hs,hs,not_false_eq_true,fW,WN,FU];show(match Nat.ble (Nat.succ x.2.2) ck with|true=>_|false=>_)=_;rw[h1]
theorem Akd(ck:Nat)(seen:List Nat)(M:List (α×AV×Nat))(h:∀x∈M,x.2.2<ck):Ky ck seen (M.map (mE enc))=true:=by
 unfold Ky;split;.rfl
 .rfl
 .rename_i s es h1 h2
  cases M with
  |nil=>exact absurd rfl h2
  |cons x r=>rw[FU,List.any_cons];have h1:Nat.ble (Nat.succ x.2.2) ck=true:=(by rw[PQ];exact h x (DW ..));show(Nat.ble (Nat.succ x.2.2) ck ||_)=true;rw[h1];rfl
end
section
variable {AT q:CJ}{GA:DO}
variable {nm:List Nat}{pre By:List DI}{ps:List Ph}
include L
theorem Kk(hg:HH gd l=some true)(hx:XV op h l v AA)(ha:HL 1000 (.ops r::k) l=(GA,AT))(g:Good P0 E Q ⟨⟨fn,nt,AJ AT,GA,ds,.run,AL,ro⟩,cs,AA⟩):Good P0 E Q ⟨⟨fn,nt,AJ l,.ops (⟨none,gd,op⟩::r)::k,ds,.run,AL,ro⟩,cs,h⟩:=Et L (Az hg) hx.e (Dl L 1000 ha g)
theorem Nf(ho:Cn l nm=some q)(hg:HH gd q=some true)(hx:XV op h q v AA)(g:Bh P0 E Q pre By ps k fn nt (AJ l) ds AL ro cs AA):Good P0 E Q ⟨⟨fn,nt,AJ l,.drawn ⟨⟨⟨none,gd,op⟩,nm⟩,pre,By⟩ ps::k,ds,.run,AL,ro⟩,cs,h⟩:=ja L (dst:=none) (by rw[B7 ho];exact Az hg) (by rw[B7 ho];exact hx.e) g
variable {α:Type}[DecidableEq α]{enc:α->AV}{M:List (α×AV×Nat)}
theorem Wf(hg:HH gd l=some true)(hx:AU l x=some (.ptr it 0))(hi:Gk (hp n t lh) it (.MX (some m) ck seen ck))(hm:Mk (hp n t lh) m (M.map (mE enc)) ck)(BX:∀y∈M,y.2.2<ck)(done:(∀y∈M,y.2.2∈seen)->Good P0 E Q ⟨⟨fn,nt,AJ ((d,some (.BM [.bool false]))::l),.ops r::k,ds,.run,AL,ro⟩,cs,hp n t lh⟩)(more:∀y∈M,y.2.2∉seen->Good P0 E Q ⟨⟨fn,nt,AJ ((d,some (.BM [.bool true,enc y.1,y.2.1]))::l),.ops r::k,ds,.run,AL,ro⟩,cs,hp n t ((it,some (.MX (some m) ck (seen++[y.2.2]) ck))::lh)⟩):Good P0 E Q ⟨⟨fn,nt,AJ l,.ops (⟨some d,gd,.aV x⟩::r)::k,ds,.run,AL,ro⟩,cs,hp n t lh⟩:=by
 have h1:=acu (enc:=enc) ck seen M BX;have h2:=Akd (enc:=enc) ck seen M BX
 cases hf:M.filter λx=>decide (x.2.2∉seen)with
 |nil=>
  rw[hf]at h1;have bg:exec (.aV x) (hp n t lh) (AJ l)= .val (.BM [.bool false]) (hp n t lh):=by simp only[exec,Ak,Ac hx,hi.e,hm.e,h1,h2];rfl
  refine Et L (Az hg) bg (done λy hy=>?_);have:=List.filter_eq_nil_iff.1 hf y hy;simpa using this
 |cons y0 ys=>
  rw[hf]at h1;have bg:exec (.aV x) (hp n t lh) (AJ l)= .next (List.map (λe=>(.BM [.bool true,e.key,e.val],H.set (hp n t lh) it (.MX (some m) ck (List.append seen [e.born]) ck))) ((y0::ys).map (mE enc))):=by simp only[exec,Ak,Ac hx,hi.e,hm.e,h1,h2];rfl
  refine R2 L (Ajh (Az hg) bg ?_);rintro z hz;rw[WL,DK]at hz;obtain⟨y,hy,rfl⟩:=hz;rw[<-hf,JZ]at hy;exact more y hy.1 (by simpa using hy.2)
omit L
end
section
variable {α:Type}[DecidableEq α]{enc:α->AV}{M:List (α×AV×Nat)}
theorem Us:∀(M:List (α×AV×Nat)) (y:α×AV×Nat),(M.map (·.2.2)).Nodup->y∈M->If y.2.2 (M.map (mE enc))=some (mE enc y)
 | [],_,_,h=>by cases h
 |x::r,y,hn,hy=>by
  rw[FU,RU]at hn;simp only[FU,If];show(match Nat.beq x.2.2 y.2.2 with|true=>_|false=>_)=_;rcases DD.1 hy with rfl|hy;.rw[OE]
  .have:x.2.2≠y.2.2:=λq=>hn.1 (by rw[q];exact RQ hy);rw[Jd this];exact Us r y hn.2 hy
theorem acv{y:α×AV×Nat}(q:EP M ck)(hx:AU l x=some (.ptr it 0))(hi:Gk h it (.MX (some m) ck (seen++[y.2.2]) ck))(hm:Mk h m (M.map (mE enc)) ck)(hy:y∈M):XV (.entry x) h l (.BM [enc y.1,y.2.1]) h:=by
 refine⟨?_⟩;have h1:(seen++[y.2.2]).getLast?=some y.2.2:=by simp
 have h2:Nat.beq ck ck=true:=OE ck;simp only[exec,Ak,Ac hx,hi.e,hm.e,h1,h2,Us (enc:=enc) M y q.bH hy];rfl
end
structure Pg where
 st:Nat
 b:List Nat
structure Bl where
 pg:Nat->Pg
 nx:Nat
 er:Nat
structure Dv where
 nb:Nat
 P:Nat
 sz:Nat
 en:Nat
 bl:Nat->Bl
 n:Nat
 cut:Int
 EC:Nat
 off:Bool
 CD:Nat->Bool
def C8(s:Nat):Nat->Pg:=λ_=>⟨s,[]⟩
def AX{α:Type}(f:Nat->α)(i:Nat)(x:α):Nat->α:=λj=>if j=i then x else f j
theorem Am{α:Type}(f:Nat->α)(i:Nat)(x:α):AX f i x i=x:=AP rfl
theorem CB{α:Type}(f:Nat->α){j:Nat}(x:α)(h:j≠i):AX f i x j=f j:=AM h
def Dv.new(nb P sz en:Nat)(CD:Nat->Bool):Dv:=⟨nb,P,sz,en,λ_=>⟨C8 1,0,0⟩,0,-1,0,false,CD⟩
def Dv.erase(D:Dv)(i:Int):Dv×Nat:=
 if 0<=i/\i<D.nb then
  if D.off=true then(D,50)
  else if D.en<=(D.bl i.toNat).er then(D,56)
  else if(D.n:Int)=D.cut then({D with bl:=AX D.bl i.toNat ⟨C8 5,D.P,(D.bl i.toNat).er+1⟩,n:=D.n+1,off:=true},50)
  else if D.CD D.n=true then({D with bl:=AX D.bl i.toNat ⟨C8 5,D.P,(D.bl i.toNat).er+1⟩,n:=D.n+1},55)
  else({D with bl:=AX D.bl i.toNat ⟨C8 1,0,(D.bl i.toNat).er+1⟩,n:=D.n+1},0)
 else(D,2)
structure Dv.zk (D:Dv):Prop where
 nb:2<=D.nb/\D.nb<=44
 P:2<=D.P/\D.P<=6
 sz:12<=D.sz/\D.sz<=50
 en:1<=D.en/\D.en<=1048576
structure Pg.Ok (sz:Nat)(p:Pg):Prop where
 full:p.st=2\/p.st=3->p.b.length=sz+64
 none:p.st≠2->p.st≠3->p.b=[]
 st:1<=p.st/\p.st<=5
structure Bl.Ok (D:Dv)(x:Bl):Prop where
 nx:x.nx<=D.P
 lo:∀j,j<x.nx->(x.pg j).st≠1
 hi:∀j,x.nx<=j->j<D.P->(x.pg j).st=1
 pg:∀j,j<D.P->(x.pg j).Ok D.sz
 er:x.er<=D.en
structure Dv.Ok (D:Dv):Prop where
 g:D.zk
 n:D.n<900000000
 EC:D.EC<=D.sz+64
 cut: -1<=D.cut/\D.cut<900000000
 bl:∀i,i<D.nb->(D.bl i).Ok D
structure BS (h:H)(b o:Nat)(bs:List Nat):Prop where
 ex:∃c,Bk h b c/\o+bs.length<=c.length/\∀i,i<bs.length->c[o+i]?=some (.int .u8 ((bs.getD i 0:Nat):Int))
 lt:∀i,i<bs.length->bs.getD i 0<256
theorem BS.ET{bs:List Nat}(k:BS h b o bs):b<h.n:=let⟨_,q,_⟩:=k.ex;q.lt
theorem BS.kp{bs:List Nat}(k:BS h b o bs)(q:Kp S h AA)(hs:¬S b):BS AA b o bs:=⟨let⟨c,h1,h2,h3⟩:=k.ex;⟨c,Ao q hs h1,h2,h3⟩,k.lt⟩
theorem BS.k0{bs:List Nat}(k:BS h b o bs)(q:K0 h AA):BS AA b o bs:=k.kp q λf=>f
theorem Wg{bs:List Nat}(k:BS h b o bs)(e:AU l x=some (.ptr b (o+i)))(hi:i<bs.length):XV (.cC x) h l (.int .u8 ((bs.getD i 0:Nat):Int)) h:=
 let⟨_,h1,_,h3⟩:=k.ex;Qu e h1 (h3 i hi)
theorem aac(bs:List Nat)(i:Nat)(hi:i<bs.length):(B5 bs)[i]?=some (.int .u8 ((bs.getD i 0:Nat):Int)):=by simp[B5,MZ,hi]
theorem Ng{bs:List Nat}(k:Bk h b (B5 bs))(lt:∀i,i<bs.length->bs.getD i 0<256):BS h b 0 bs:=⟨⟨_,k,by simp[B5],λi hi=>by rw[MD];exact aac bs i hi⟩,lt⟩
abbrev eI(z:Int):AV:= .int .i64 z
structure VD (h:H)(fm:Nat)(CD:Nat->Bool):Prop where
 ex:∃M ck,Mk h fm (M.map (mE eI)) ck/\∀i:Nat,A9 M (i:Int)=if CD i=true then some (.bool true)else none
theorem VD.lt(q:VD h fm CD):fm<h.n:=let⟨_,_,k,_⟩:=q.ex;k.lt
theorem VD.kp(k:Kp S h AA)(hs:¬S fm)(q:VD h fm CD):VD AA fm CD:=let⟨M,ck,k1,k2⟩:=q.ex;⟨M,ck,Nb k hs k1,k2⟩
theorem VD.k0(k:K0 h AA)(q:VD h fm CD):VD AA fm CD:=q.kp k λf=>f
def T2(nb P sz en fm bb n:Nat)(cut:Int)(EC:Nat)(off:Bool):List AV:=
 [AN nb,AN P,AN sz,AN en,.map fm,.AE bb 0 nb nb,AN n,.int .i64 cut,AN EC,.bool off]
def GJ(D:Dv)(fm bb:Nat):List AV:=T2 D.nb D.P D.sz D.en fm bb D.n D.cut D.EC D.off
structure ft (AD:Nat->Nat)(h:H)(c:List AV)(j:Nat)(p:Pg):Prop where
 st:c[j*2+1]?=some (AN p.st)
 none:p.st≠2->p.st≠3->c[j*2]?=some .AS
 full:p.st=2\/p.st=3->∃b,c[j*2]?=some (.AE b 0 p.b.length (Aa+1))/\AD b=0/\BS h b 0 p.b
structure ni (AD:Nat->Nat)(h:H)(P i:Nat)(x:Bl)(pn:Nat)(c:List AV):Prop where
 k:Bk h pn c
 CA:AD pn=3+i
 len:c.length=P*2
 pg:∀j,j<P->ft AD h c j (x.pg j)
structure aw (AD:Nat->Nat)(h:H)(P i:Nat)(x:Bl)(cb:List AV)(pn:Nat)(c:List AV):Prop where
 c0:cb[i*3]?=some (.AE pn 0 P P)
 c1:cb[i*3+1]?=some (AN x.nx)
 c2:cb[i*3+2]?=some (AN x.er)
 row:ni AD h P i x pn c
structure LV (AD:Nat->Nat)(h:H)(d:Nat)(D:Dv)(fm bb:Nat)(cb:List AV):Prop where
 dk:Bk h d (GJ D fm bb)
 UC:AD d=1
 fk:VD h fm D.CD
 YH:AD fm=0
 bk:Bk h bb cb
 YE:AD bb=2
 Z1:cb.length=D.nb*3
 nb:D.nb<=44
 rows:∀i,i<D.nb->∃pn c,aw AD h D.P i (D.bl i) cb pn c
variable {D:Dv}{a cap bK dn lp pn qj size sn so XX QR:Nat}{bd:CC}{c cp fst lv r0 va vs:List AV}{g:DY}{l0 l1:CJ}{mode:VC}{pd:Option CC}{WB:OF}{ps:List Nat}{st:LS}{tm Yo XZ:T AV}{todo UW:DO}{XW:Bool}{fI:List HN}{XY:Option Nat}{z:EW}{AD AF:Nat->Nat}
structure IK (AD:Nat->Nat)(h:H)(d:Nat)(D:Dv):Prop where
 ok:D.Ok
 ex:∃fm bb cb,LV AD h d D fm bb cb
structure Ch (AD:Nat->Nat)(h:H)(AF:Nat->Nat)(AA:H):Prop where
 k:Kp (λb=>1<=AD b/\AD b<100) h AA
 CA:∀b,b<h.n->AF b=AD b
theorem Ch.refl(AD:Nat->Nat)(h:H):Ch AD h AD h:=⟨.refl _,λ_ _=>rfl⟩
structure Fw (AD:Nat->Nat)(h:H)(AF:Nat->Nat)(AA:H):Prop where
 n:h.n<=AA.n
 old:∀b,b<h.n->AD b=0->H.get AA b=H.get h b
 CA:∀b,b<h.n->AF b=AD b
theorem Ch.fw(q:Ch AD h AF AA):Fw AD h AF AA:=⟨q.k.n,λb hb hc=>q.k.old b hb (by rw[hc];omega),q.CA⟩
theorem Fw.trans{HD BN:Nat->Nat}{h1 h2:H}(a:Fw AD h HD h1)(b:Fw HD h1 BN h2):Fw AD h BN h2:=⟨EM a.n b.n,λx hx hc=>(b.old x (IF hx a.n) ((a.CA x hx).trans hc)).trans (a.old x hx hc),λx hx=>(b.CA x (IF hx a.n)).trans (a.CA x hx)⟩
theorem Kp.fw(k:Kp S h AA)(hs:∀b,b<h.n->S b->AD b≠0):Fw AD h AD AA:=⟨k.n,λb hb hc=>k.old b hb λs=>hs b hb s hc,λ_ _=>rfl⟩
theorem Kp.gO(k:K0 h AA):Fw AD h AD AA:=k.fw λ_ _ f=>f.elim
theorem Fw.bk(f:Fw AD h AF AA)(k:Bk h b c)(hc:AD b=0):Bk AA b c:=⟨(f.old b k.lt hc).trans k.e,IF k.lt f.n⟩
theorem Fw.bs{AD AF:Nat->Nat}{h AA:H}{b o:Nat}{bs:List Nat}(f:Fw AD h AF AA)(k:BS h b o bs)(hc:AD b=0):BS AA b o bs:=⟨let⟨c,h1,h2,h3⟩:=k.ex;⟨c,f.bk h1 hc,h2,h3⟩,k.lt⟩
theorem ft.fw{j:Nat}{p:Pg}(q:ft AD h c j p)(f:Fw AD h AF AA):ft AF AA c j p:=
 ⟨q.st,q.none,λhs=>let⟨b,h1,h2,h3⟩:=q.full hs;⟨b,h1,(f.CA b h3.ET).trans h2,f.bs h3 h2⟩⟩
theorem ni.fw{P:Nat}{x:Bl}(q:ni AD h P i x pn c)(f:Fw AD h AF AA)(hk:H.get AA pn=H.get h pn):ni AF AA P i x pn c:=⟨⟨hk.trans q.k.e,IF q.k.lt f.n⟩,(f.CA pn q.k.lt).trans q.CA,q.len,λj hj=>(q.pg j hj).fw f⟩
theorem aw.fw{P:Nat}{x:Bl}{cb:List AV}(q:aw AD h P i x cb pn c)(f:Fw AD h AF AA)(hk:H.get AA pn=H.get h pn):aw AF AA P i x cb pn c:=⟨q.c0,q.c1,q.c2,q.row.fw f hk⟩
theorem LV.kb{bb:Nat}{cb:List AV}(q:LV AD h d D fm bb cb)(k:Kp (λb=>100<=AD b) h AA):LV AD AA d D fm bb cb:=
 have f:Fw AD h AD AA:=k.fw λb _ h1=>om
 ⟨Ao k (by rw[q.UC];omega) q.dk,q.UC,q.fk.kp k (by rw[q.YH];omega),q.YH,Ao k (by rw[q.YE];omega) q.bk,q.YE,q.Z1,q.nb,
   λi hi=>let⟨pn,c,h1⟩:=q.rows i hi;⟨pn,c,h1.fw f (k.old pn h1.row.k.lt (by rw[h1.row.CA];have:=q.nb;omega))⟩⟩
theorem IK.kb(q:IK AD h d D)(k:Kp (λb=>100<=AD b) h AA):IK AD AA d D:=⟨q.ok,let⟨fm,bb,cb,h1⟩:=q.ex;⟨fm,bb,cb,h1.kb k⟩⟩
theorem IK.k0(q:IK AD h d D)(k:K0 h AA):IK AD AA d D:=q.kb (k.mono λ_ f=>f.elim)
section
variable {z w:O}{len c:Nat}{j k:IntKind}
variable {sl n2 SF o2 b2 bytes:Nat}{old new:List AV}
theorem CG.of{c xs:List AV}(k:Bk h b c)(hk:o+n*size<=c.length)(hx:(c.drop o).take (n*size)=xs):CG size h (.AE b o n cap) n xs:= .AE k.e hk hx k.lt
theorem D7(e:AU l x=some (.AE b o sl (Aa+size)))(e1:AU l y=some (.AE b2 o2 n2 SF))(k1:CG size (hp n t lh) (.AE b o sl (Aa+size)) sl old)(k2:CG size (hp n t lh) (.AE b2 o2 n2 SF) n2 new)(HM:0<n2)(hb:(sl+n2)*(bytes+1)<=1099511627776)(DL:Av new=true):XV (.append size bytes x y) (hp n t lh) l (.AE n 0 (sl+n2) (Aa+size)) (hp (n+1) t ((n,some (cl (old++new)))::(b,none)::lh)):=by
 refine⟨?_⟩;simp only[exec,Ak,Ac e,Ac e1,k2.NX,k2.cells];obtain⟨m,rfl⟩:∃m,n2=m+1:=⟨n2- 1,om⟩;have hold:=k1.cells
 cases k1 with
 | @AE _ _ _ _ c _ UH hk hx BX=>
  have g:Nat.ble (Nat.mul (Nat.add sl (Nat.succ m)) (Nat.succ bytes)) 1099511627776=true:=by rw[PQ];exact hb
  have g1:Nat.ble Aa (Aa+size)=true:=Ba om;have g2:Nat.beq (Aa+size) (Nat.add Aa size)=true:=OE _;have dq:KM (hp n t lh) b o (Nat.mul sl size)=some old:=hold;have sj:H.get (hp n t lh) b=some (.cells false c.length (JI 0 .leaf c)):=UH;simp only[Dx,g,g1,g2,dq,sj,DL];rfl
theorem z9(e:AU l x=some (.AE b o sl sl))(e1:AU l y=some (.AE b2 o2 n2 SF))(k1:CG size (hp n t lh) (.AE b o sl sl) sl old)(k2:CG size (hp n t lh) (.AE b2 o2 n2 SF) n2 new)(HM:0<n2)(ba:sl<Aa)(hb:(sl+n2)*(bytes+1)<=1099511627776):XV (.append size bytes x y) (hp n t lh) l (.AE n 0 (sl+n2) (Aa+size)) (hp (n+1) t ((n,some (cl (old++new)))::lh)):=by
 refine⟨?_⟩;simp only[exec,Ak,Ac e,Ac e1,k2.NX,k2.cells];obtain⟨m,rfl⟩:∃m,n2=m+1:=⟨n2- 1,om⟩;have hold:=k1.cells;have g:Nat.ble (Nat.mul (Nat.add sl (Nat.succ m)) (Nat.succ bytes)) 1099511627776=true:=by rw[PQ];exact hb
 have g1:Nat.ble Aa sl=false:=Jc ba;have g2:Nat.ble (Nat.add sl (Nat.succ m)) sl=false:=Jc (by show sl<sl+(m+1);omega);have dq:KM (hp n t lh) b o (Nat.mul sl size)=some old:=hold;simp only[Dx,g,g1,g2,dq];rfl
theorem rQ(e:AU l x=some (.AE b o 0 0))(e1:AU l y=some (.AE b2 o2 n2 SF))(k2:CG size (hp n t lh) (.AE b2 o2 n2 SF) n2 new)(HM:0<n2)(hb:n2*(bytes+1)<=1099511627776):XV (.append size bytes x y) (hp n t lh) l (.AE n 0 n2 (Aa+size)) (hp (n+1) t ((n,some (cl new))::lh)):=by
 refine⟨?_⟩;simp only[exec,Ak,Ac e,Ac e1,k2.NX,k2.cells];obtain⟨m,rfl⟩:∃m,n2=m+1:=⟨n2- 1,om⟩;have g:Nat.ble (Nat.mul (m+1) (Nat.succ bytes)) 1099511627776=true:=by rw[PQ];exact hb
 have g1:Nat.ble Aa 0=false:=Jc PI;have g2:Nat.ble (m+1) 0=false:=Jc (cU m);have dq:KM (hp n t lh) b o (Nat.mul 0 size)=some []:=by rw[show Nat.mul 0 size=0 from jY size];rfl
 have e9:Nat.add 0 (Nat.succ m)=m+1:=MD _;simp only[Dx,e9,g,g1,g2,dq];rfl
theorem D1(e:AU l x=some .AS)(e1:AU l y=some (.AE b2 o2 n2 SF))(k2:CG size (hp n t lh) (.AE b2 o2 n2 SF) n2 new)(HM:0<n2)(hb:n2*(bytes+1)<=1099511627776):XV (.append size bytes x y) (hp n t lh) l (.AE n 0 n2 (Aa+size)) (hp (n+1) t ((n,some (cl new))::lh)):=by
 refine⟨?_⟩;simp only[exec,Ak,Ac e,Ac e1,k2.NX,k2.cells];obtain⟨m,rfl⟩:∃m,n2=m+1:=⟨n2- 1,om⟩;have g:Nat.ble (Nat.mul (Nat.succ m) (Nat.succ bytes)) 1099511627776=true:=by rw[PQ];exact hb
 simp only[Dx,g];rfl
theorem wR{zero:List AV}(e:AU l x=some .AS)(e1:AU l y=some (.int k (a:Int)))(HM:0<a)(h1:a*bytes<=281474976710656)(h2:a<=281474976710656)(si:a*(bytes+1)<=1099511627776):XV (.gD bytes zero x y) (hp n t lh) l (.AE n 0 a (Aa+zero.length)) (hp (n+1) t ((n,some (cl (rl zero a)))::lh)):=by refine⟨?_⟩;obtain⟨m,rfl⟩:∃m,a=m+1:=⟨a- 1,om⟩;have VK:DP l y= .int k (Int.ofNat (m+1)):=Ac e1;have g1:Nat.ble (Nat.mul (m+1) bytes) 281474976710656=true:=Ba h1;have g2:Nat.ble (m+1) 281474976710656=true:=Ba h2;have g:Nat.ble (Nat.mul (Nat.succ m) (Nat.succ bytes)) 1099511627776=true:=Ba si;simp only[exec,Ak,Ac e,VK,g1,g2,Dx,g];rfl
end
theorem afz{bs:List Nat}(hk:o+bs.length<=c.length)(hv:∀i,i<bs.length->c[o+i]?=some (.int .u8 ((bs.getD i 0:Nat):Int))):(c.drop o).take bs.length=B5 bs:=by
 apply QT;intro i;by_cases hi:i<bs.length;.rw[N0 hi,MN,hv i hi,aac bs i hi]
 .rw[nA om,OW (by simp[B5];omega)]
theorem BS.UT{bs:List Nat}(k:BS h b o bs)(hn:bs.length=n):CG 1 h (.AE b o n cap) n (B5 bs):=by obtain⟨c,h1,h2,h3⟩:=k.ex;subst hn;exact .AE h1.e om (by rw[RW];exact afz h2 h3) h1.lt
theorem Kl(a b:List Nat):B5 a++B5 b=B5 (a++b):=by simp[B5]
theorem Fc:∀bs:List Nat,Av (B5 bs)=true
 | []=>rfl
 |_::r=>Fc r
theorem aad(a b:List Nat)(i:Nat):(a++b).getD i 0=if i<a.length then a.getD i 0 else b.getD (i- a.length) 0:=by
 simp only[MZ];by_cases h:i<a.length;.rw[QC h,AP h]
 .rw[OB om,AM h]
def IA(bs:List Nat):Prop:=∀i,i<bs.length->bs.getD i 0<256
theorem IA.app{a b:List Nat}(ha:IA a)(hb:IA b):IA (a++b):=by
 intro i hi;rw[aad];rw[DX]at hi;split;.exact ha i (by assumption)
 .exact hb _ om
theorem Fm(v a:Nat):rl [.int .u8 (v:Int)] a=B5 (List.replicate a v):=by
 induction a with
 |zero=>rfl
 |succ a ih=>rw[List.replicate_succ];show _::rl _ a=_;rw[ih];rfl
theorem IA.rep{v:Nat}(h:v<256):IA (List.replicate a v):=by intro i hi;rw[VA]at hi;simp[MZ,hi,h]
theorem BS.part{bs:List Nat}(k:BS h b o bs)(hn:a+n<=bs.length):BS h b (o+a) ((bs.drop a).take n):=by
 obtain⟨c,h1,h2,h3⟩:=k.ex;have hl:((bs.drop a).take n).length=n:=by rw[IS,SW];omega
 have hg:∀i,i<n->((bs.drop a).take n).getD i 0=bs.getD (a+i) 0:=λi hi=>by simp only[MZ];rw[N0 hi,MN]
 refine⟨⟨c,h1,by rw[hl];omega,λi hi=>?_⟩,λi hi=>?_⟩;.rw[hl]at hi;rw[hg i hi,show o+a+i=o+(a+i)from om];exact h3 (a+i) om
 .rw[hl]at hi;rw[hg i hi];exact k.lt _ om
theorem BS.all{bs:List Nat}(k:BS h b o bs):IA bs:=k.lt
section
variable {x:Option DV}{bs:List Nat}
theorem yJ(k:BS h b o bs):BS (hp h.n h.t []) b o bs:=k
theorem rR(k:BS (hp n t lh) b o bs):BS (hp (n+1) t ((n,x)::lh)) b o bs:=⟨let⟨c,h1,h2,h3⟩:=k.ex;⟨c,yC h1,h2,h3⟩,k.lt⟩
theorem nT(BZ:b≠i)(k:BS (hp n t lh) b o bs):BS (hp n t ((i,x)::lh)) b o bs:=⟨let⟨c,h1,h2,h3⟩:=k.ex;⟨c,yD BZ h1,h2,h3⟩,k.lt⟩
theorem Ia(ha:IA bs):BS (hp (n+1) t ((n,some (cl (B5 bs)))::lh)) n 0 bs:=Ng afk ha
theorem Lw(q:Kp S h AA)(hs:¬S b)(k:BS h b o bs):BS AA b o bs:=k.kp q hs
theorem Aoh(q:K0 h AA)(k:BS h b o bs):BS AA b o bs:=k.k0 q
end
theorem EN(h:p:=by
 (repeat(first|assumption|(apply Ia;assumption)|(apply yJ;first|assumption|(apply Aoh;assumption)|(apply Lw;assumption;(first|omega|(dsimp only;omega))))|apply rR|(apply nT;first|omega|assumption)))
 (first |done |fail "no")):p:=h
section
variable {z:O}{k j:IntKind}{q:Bool}
theorem Avw(hs:k.signed=false)(e:AU l x=some (.int k (a:Int)))(e1:AU l y=some (.int k (d:Int)))(ha:a<pw k)(hc:d<pw k)(hx:(a |||d)<pw k):XV (.bin .or x y q sh) h l (.int k ((a |||d:Nat):Int)) h:=by
 refine⟨?_⟩;simp only[exec,Ak,Ac e,Ac e1,Hk,E6,Br,vo,M9 ha,M9 hc];have:wr k (Int.ofNat (Nat.lor a d))=((a |||d:Nat):Int):=by show wr k ((a |||d:Nat):Int)=_;rw[V7 hs hx]
 rw[this]
theorem Aoi(hs:k.signed=false){s:Nat}(e:AU l x=some (.int k (a:Int)))(e1:AU l y=some (.int j (s:Int)))(hb:s<=bits k):XV (.bin .shl x y q sh) h l (.int k (((a*2^s)%pw k:Nat):Int)) h:=by
 refine⟨?_⟩;have VK:DP l y= .int j (Int.ofNat s):=Ac e1;simp only[exec,Ak,Ac e,VK,Hk,E6,vo];have h1:Lu s (bits k)=s:=by rw[K1];exact Nat.min_eq_left hb
 have h2:Int.mul (a:Int) (Int.ofNat (Nat.pow 2 s))=((a*2^s:Nat):Int):=by show(a:Int)*((2^s:Nat):Int)=_;rw[<-jR]
 rw[h1,h2,V6 hs]
def u64(p:Int):Nat:=(p%18446744073709551616).toNat
theorem Wh(h:a<18446744073709551616):u64 (a:Int)=a:=by unfold u64;omega
theorem Nh{p:Int}(e:AU l x=some (.int j p)):XV (.conv .u64 x) h l (UN (u64 p)) h:=by refine⟨ae7 (Ac e) ?_⟩;rw[G5];show IntKind.wrap .u64 p=_;unfold IntKind.wrap u64;simp only[IntKind.signed,Bool.false_and,RR,KS,false_and,IntKind.bits];omega
theorem Akg(e:AU l x=some (.AE b o dn bK)){bs:Nat}(e1:AU l y=some (.AE bs so sn qj)){cs:List AV}(k1:CG size (hp n t lh) (.AE bs so sn qj) sn lv)(hb:Bk (hp n t lh) b c)(hle:sn<=dn)(DL:Av lv=true)(hk:o+lv.length<=c.length)(HM:0<lv.length)(hs:Gb lv c o=cs):∃AA,exec (.copy size x y) (hp n t lh) (AJ l)= .val (AN sn) AA/\HSub (hp n t ((b,some (cl cs))::lh)) AA:=by
 obtain⟨AA,q1,q2⟩:=M8 (n:=n) (t:=t) (lh:=lh) DL hb.e hk hs;refine⟨AA,?_,q2⟩;have hm:Lu sn dn=sn:=by rw[K1];exact Nat.min_eq_left hle
 simp only[exec,Ak,Ac e,Ac e1,k1.NX,hm,k1.cells,q1];rfl
theorem wS{bs:List Nat}(e:AU l x=some (.AE b o m cap))(k:BS h b o bs)(hm:bs.length=m):XV (.gF x) h l (.str bs) h:=
 ⟨Ank e (k.UT hm) λv hv=>by
  obtain⟨i,hi,e⟩:=ah hv
  have:=k.all i hi
  rw[MZ,DA hi]at this
  rw[<-e];exact this⟩
abbrev Rk(h:H)(b:Nat)(c:List AV):Prop:=(∃r,H.get h b=some (.cells r c.length (JI 0 .leaf c)))/\b<h.n
theorem Rk.e(k:Rk h b c):∃r,H.get h b=some (.cells r c.length (JI 0 .leaf c)):=k.1
theorem Rk.lt(k:Rk h b c):b<h.n:=k.2
theorem Bk.rk(k:Bk h b c):Rk h b c:=⟨⟨_,k.e⟩,k.lt⟩
theorem Rk.JH(k:Rk h b c)(hn:h.n<=AA.n)(e:H.get AA b=H.get h b):Rk AA b c:=⟨let⟨r,q⟩:=k.e;⟨r,e.trans q⟩,IF k.lt hn⟩
theorem Rk.kp(k:Rk h b c)(q:Kp S h AA)(hs:¬S b):Rk AA b c:=k.JH q.n (q.old b k.lt hs)
theorem Rk.k0(k:Rk h b c)(q:K0 h AA):Rk AA b c:=k.kp q λf=>f
section
variable {x:Option DV}
theorem Avx(q:Kp S h AA)(hs:¬S i)(k:Rk h i c):Rk AA i c:=k.kp q hs
theorem Ni(q:K0 h AA)(k:Rk h i c):Rk AA i c:=k.k0 q
end
theorem Bx(e:AU l x=some (.ptr b o))(hb:Rk h b c)(hv:c[o]?=some v):XV (.cC x) h l v h:=by
 refine⟨?_⟩;have:Nat.ble (Nat.succ o) c.length=true:=by rw[PQ];exact(FE.1 hv).1
 obtain⟨r,q⟩:=hb.e;simp only[exec,Ak,Ac e,q,G8,hv,this];rfl
theorem ahs(hb:Rk h b c)(hk:o+m<=c.length):KM h b o m=some ((c.drop o).take m):=by
 have h1:=Ja (h:=hp (b+1) .leaf [(b,some (cl c))]) (b:=b) (c:=c) (H6 _ _ _ _ _) hk;rw[<-h1]
 cases m with
 |zero=>rfl
 |succ m=>obtain⟨r,q⟩:=hb.e;simp only[KM,q];rw[H6];rfl
end
theorem JY(h:p:=by
 (repeat(first|assumption))
 (first |done |fail "no")):p:=h
theorem yK(h:p:=by
 refine R2 L ?_
 have hx:exec .recover h (AJ l)= .recover:=rfl
 unfold Tw
 simp only[Dr,Az hg,hx]
 exact g):p:=h
noncomputable def Me(x:EW)(c:List (AV×Bool)):EW:=match x with
 |⟨fn,nt,tm,todo,ds,mode,AL,ro⟩=>match todo with
  | .drawn p _::_=>⟨fn,nt,Pt p.By tm,[.gone],ds,raise mode c,AL,ro⟩
  |_=>⟨fn,nt,tm,todo,ds,raise mode c,AL,ro⟩
def Zk(P:Program)(E:Env)(F:T DY)(K:HK)(f:Nat)(args:List AV)(h:H)(post:OF):Prop:=
 ∀(Q:Nat->AV->Prop) (x:EW) (cs:FM),(∀v AA,post v AA->Good P E Q ⟨Me x [(v,false)],cs,AA⟩)->GO P E Q (B6 F K (.func f) args false x cs h)
abbrev CP{P:Program}{E:Env}{F:T DY}{K:HK}(L:Lg P E F K):=Zk P E F K
def SX(P:Program)(E:Env)(F:T DY)(K:HK)(f:OY)(args:List AV)(h:H)(post:OF):Prop:=
 ∀(Q:Nat->AV->Prop) (x:EW) (cs:FM),(∀v AA,post v AA->GO P E Q (finish v cs AA x))->GO P E Q (B6 F K f args false x cs h)
section
variable {AT:CJ}{GA:DO}{d:Option Nat}
variable {BP:List AV}
theorem Ct.A(c:Ct P E F K f args h post):SX P E F K (.func f) args h post:=c
theorem SX.mono{f:OY}(c:SX P E F K f args h WB)(m:∀v AA,WB v AA->post v AA):SX P E F K f args h post:=λQ x cs g=>c Q x cs λv AA p=>g v AA (m v AA p)
theorem Zk.mono(c:Zk P E F K f args h WB)(m:∀v AA,WB v AA->post v AA):Zk P E F K f args h post:=λQ x cs g=>c Q x cs λv AA p=>g v AA (m v AA p)
theorem Qw{f:OY}{a:List O}{r:List AV}(e:AU l x=some (.fn f fst cp))(ha:Fb l a=some va)(h0:E5 va cp=some r0)(hr:E5 fst r0=some r):exec (.LY x a) h (AJ l)= .call f r:=by simp only[exec,Ak,M6,Ac e,Ma ha];have h1:=Gg h0;have h2:=Gg hr;simp only[h1,h2]
include L
theorem Jv{d:Nat}{f:OY}{a:List O}(hg:HH gd l=some true)(e:AU l x=some (.fn f fst cp))(ha:Fb l a=some va)(h0:E5 va cp=some r0)(hr:E5 fst r0=some args)(hc:SX P0 E F K f args h post)(g:∀v AA,post v AA->Good P0 E Q ⟨⟨fn,nt,AJ ((d,some v)::l),.ops r::k,ds,.run,AL,ro⟩,cs,hp AA.n AA.t []⟩):Good P0 E Q ⟨⟨fn,nt,AJ l,.ops (⟨some d,gd,.LY x a⟩::r)::k,ds,.run,AL,ro⟩,cs,h⟩:=R5 L (Az hg) (Qw e ha h0 hr) (hc Q _ cs λv AA p=>L9 L Zt (g v AA p))
theorem Eu{a:List O}(hg:HH gd l=some true)(e:AU l x=some (.fn (.func f) fst cp))(ha:Fb l a=some va)(h0:E5 va cp=some r0)(hr:E5 fst r0=some args)(hc:Zk P0 E F K f args h post)(g:∀v AA,post v AA->Good P0 E Q ⟨⟨fn,nt,AJ l,.ops (⟨d,gd,.LY x a⟩::r)::k,ds,.panicking [(v,false)],AL,ro⟩,cs,AA⟩):Good P0 E Q ⟨⟨fn,nt,AJ l,.ops (⟨d,gd,.LY x a⟩::r)::k,ds,.run,AL,ro⟩,cs,h⟩:=R5 L (Az hg) (Qw e ha h0 hr) (hc Q _ cs λv AA p=>g v AA p)
theorem Km{q:Nat}(hg:HH gd l=some true)(e:AU l x=some (.Cm q v))(g:Good P0 E Q ⟨⟨fn,nt,AJ l,.ops (⟨d,gd,.panic x⟩::r)::k,ds,.panicking [(.Cm q v,false)],AL,ro⟩,cs,h⟩):Good P0 E Q ⟨⟨fn,nt,AJ l,.ops (⟨d,gd,.panic x⟩::r)::k,ds,.run,AL,ro⟩,cs,h⟩:=R2 L (Am3 (Az hg) (by simp only[exec,Ak,Ac e]) g)
theorem Ax{ch:List (AV×Bool)}(hf:T.get F fn=some g)(h1:Good P0 E Q ⟨Me z ch,cs,h⟩):Good P0 E Q ⟨⟨fn,nt,tm,todo,[],.panicking ch,AL,ro⟩,z::cs,h⟩:=by
 obtain⟨XX,QR,XZ,UW,fI,ym,XW,XY⟩:=z;refine A5 L ?_;simp only[Ev.step,Ev.unwind,hf]
 cases UW with
 |nil=>exact h1
 |cons i r=>cases i<;>exact h1
theorem Ha{a:List O}(hg:HH gd l=some true)(e:AU l x=some (.fn (.func f) [] cp))(ha:Fb l a=some va)(hr:E5 va cp=some args)(g:Good P0 E Q ⟨⟨fn,nt,AJ (ins d (.BM []) l),.ops r::k,.call f args::ds,.run,AL,none⟩,cs,h⟩):Good P0 E Q ⟨⟨fn,nt,AJ l,.ops (⟨d,gd,.defer x a⟩::r)::k,ds,.run,AL,none⟩,cs,h⟩:=by
 refine R2 L (Am2 (f:=f) (args:=args) (Az hg) ?_ ?_);.simp only[exec,Ak,M6,Ac e,Ma ha];show R.EQ f (List.append va cp)=_;rw[Gg hr]
 .rw[Ad9];exact g
theorem Fd{todo:DO}(g:Good P0 E Q ⟨⟨fn,nt,AJ l,.code .ret::k,ds,.returning,AL,none⟩,cs,h⟩):Good P0 E Q ⟨⟨fn,nt,AJ l,.code .ret::k,ds,.run,AL,none⟩,cs,h⟩:=A5 L g
theorem Co{td:DO}(hm:mode≠ .run)(hf:T.get F f=some g)(hn:Nat.ble args.length g.ntmps=true)(hl:qo 0 args []=l0)(ha:HL 1000 [.code g.body] l0=(td,l1))(h1:Good P0 E Q ⟨⟨f,g.ntmps,AJ l1,td,[],.run,true,none⟩,⟨fn,nt,tm,todo,ds,mode,AL,ro⟩::cs,hp h.n h.t []⟩):Good P0 E Q ⟨⟨fn,nt,tm,todo,.call f args::ds,mode,AL,ro⟩,cs,h⟩:=by
 have e1:JI 0 .leaf args=AJ l0:=by rw[<-hl];exact Qv args 0 []
 have h2:=Dl L 1000 ha h1;refine A5 L ?_;have:GO P0 E Q (B6 F K (.func f) args true ⟨fn,nt,tm,todo,ds,mode,AL,ro⟩ cs h):=by simp only[B6,hf,Xo,hn,e1];exact h2
 cases mode with
 |run=>exact absurd rfl hm
 |returning=>exact this
 |panicking c=>exact this
theorem Je{ch:List (AV×Bool)}{d:Nat}(hg:HH gd l=some true)(g:Good P0 E Q ⟨⟨fn,nt,AJ ((d,some v)::l),.ops r::k,ds,.run,true,none⟩,⟨XX,QR,XZ,UW,fI,.panicking ((v,true)::ch),XW,XY⟩::cs,h⟩):Good P0 E Q ⟨⟨fn,nt,AJ l,.ops (⟨some d,gd,.recover⟩::r)::k,ds,.run,true,none⟩,⟨XX,QR,XZ,UW,fI,.panicking ((v,false)::ch),XW,XY⟩::cs,h⟩:=by exact yK
theorem Dt{d:Nat}(hg:HH gd l=some true)(g:Good P0 E Q ⟨⟨fn,nt,AJ ((d,some .IX)::l),.ops r::k,ds,.run,true,none⟩,⟨XX,QR,XZ,UW,fI,.returning,XW,XY⟩::cs,h⟩):Good P0 E Q ⟨⟨fn,nt,AJ l,.ops (⟨some d,gd,.recover⟩::r)::k,ds,.run,true,none⟩,⟨XX,QR,XZ,UW,fI,.returning,XW,XY⟩::cs,h⟩:=by exact yK
theorem Hc{ym:VC}(hf:T.get F fn=some g)(hr:results (AJ l) h g.results=some vs)(h1:Good P0 E Q ⟨⟨XX,QR,XZ,UW,fI,settle ym,XW,XY⟩,cs,h⟩):Good P0 E Q ⟨⟨fn,nt,AJ l,[],[],.run,true,none⟩,⟨XX,QR,XZ,UW,fI,ym,XW,XY⟩::cs,h⟩:=by refine A5 L (show Good P0 E Q ⟨⟨fn,nt,AJ l,[],[],.returning,true,none⟩,_::cs,h⟩from ?_);refine A5 L ?_;show GO P0 E Q (match T.get F fn with|none=> .fail|some g=>match results (AJ l) h g.results with|some l=>Ev.doReturn fn true (single l) (_::cs) h|none=> .fail);rw[hf];simp only[hr];exact h1
theorem C1(hf:T.get F fn=some g)(hr:results (AJ l) h g.results=some vs)(hG:∀v AA,post v AA->GO P0 E Q (finish v cs AA z))(p:post (single vs) h):Good P0 E Q ⟨⟨fn,nt,AJ l,todo,[],.returning,false,none⟩,z::cs,h⟩:=R3 L hf hr (hG _ _ p)
theorem Ew{f:OY}{a:CC}(e:AU l x=some (.fn f fst cp))(h0:E5 [.fn (.yield (n+1)) [] []] cp=some r0)(hr:E5 fst r0=some args)(hc:SX P0 E F K f args (hp (n+2) t ((n+1,some (.loop ⟨.ready,none,fn,nt,AJ l,ps,a,bd,n⟩))::(n,some (.EQ (some [])))::lh)) post)(g:∀v AA,post v AA->Good P0 E Q ⟨⟨fn,nt,AJ l,.VL (n+1)::k,.mark n::ds,.run,AL,none⟩,cs,AA⟩):Good P0 E Q ⟨⟨fn,nt,AJ l,.code (.rangeFunc x ps a bd)::k,ds,.run,AL,none⟩,cs,hp n t lh⟩:=by
 refine A5 L ?_;have e1:DP l x= .fn f fst cp:=Ac e;have e2:List.append fst (.fn (.yield (Nat.succ n)) [] []::cp)=args:=by have q0:=Gg h0;have q1:=Gg hr;rw[<-q0]at q1;exact q1
 simp only[Ev.step,B0,Cf,enterLoop,Ak,e1,e2];exact hc Q _ cs λv AA p=>g v AA p
theorem Du{a:CC}{d:Nat}(hl:H.get h lp=some (.loop ⟨st,pd,fn,nt,AJ l0,ps,a,bd,d⟩))(hs:C6 ps args (AJ l0)=some (AJ l1))(body:∀(Q:Nat->AV->Prop) (z:EW) (cs:FM),(∀v AA,post v AA->GO P0 E Q (finish v cs AA z))->Good P0 E Q ⟨⟨fn,nt,AJ l1,[.code a,.beginRound,.code bd],[],.run,false,some lp⟩,z::cs,hp h.n h.t []⟩):SX P0 E F K (.yield lp) args h post:=by intro Q z cs hG;simp only[B6,hl,hs];exact body Q z cs hG
theorem Dh{a:CC}{d:Nat}(hl:H.get (hp n t lh) lp=some (.loop ⟨.ready,pd,f,m,Yo,ps,a,bd,d⟩))(g:Good P0 E Q ⟨⟨fn,nt,tm,k,ds,.run,AL,some lp⟩,cs,hp n t ((lp,some (.loop ⟨.busy,pd,f,m,Yo,ps,a,bd,d⟩))::lh)⟩):Good P0 E Q ⟨⟨fn,nt,tm,.beginRound::k,ds,.run,AL,some lp⟩,cs,hp n t lh⟩:=by refine A5 L ?_;simp only[Ev.step,B0,hl];exact g
theorem D8{a:CC}{d:Nat}(hl:H.get (hp n t lh) lp=some (.loop ⟨st,pd,f,m,Yo,ps,a,bd,d⟩))(hG:∀v AA,post v AA->GO P0 E Q (finish v cs AA z))(p:post (.bool true) (hp n t ((lp,some (.loop ⟨.ready,none,f,m,Yo,ps,a,bd,d⟩))::lh))):Good P0 E Q ⟨⟨fn,nt,tm,[],ds,.run,false,some lp⟩,z::cs,hp n t lh⟩:=by refine A5 L ?_;simp only[Ev.step,leave,hl,Of];exact hG _ _ p
theorem Hv{a:CC}{d:Nat}(hl:H.get (hp n t lh) lp=some (.loop ⟨st,none,f,m,Yo,ps,a,bd,d⟩))(HC:st≠ .busy)(g:Good P0 E Q ⟨⟨fn,nt,tm,k,ds,.run,AL,ro⟩,cs,hp n t ((lp,some (.loop ⟨.exhausted,none,f,m,Yo,ps,a,bd,d⟩))::lh)⟩):Good P0 E Q ⟨⟨fn,nt,tm,.VL lp::k,ds,.run,AL,ro⟩,cs,hp n t lh⟩:=by
 refine A5 L ?_;simp only[Ev.step,B0,hl]
 cases st with
 |busy=>exact absurd rfl HC
 |_=>exact g
theorem Wi{a:CC}{d:Nat}{j:CC}(hl:H.get (hp n t lh) lp=some (.loop ⟨st,some j,f,nt,Yo,ps,a,bd,d⟩))(HC:st≠ .busy)(g:Good P0 E Q ⟨⟨fn,nt,tm,.code j::k,ds,.run,AL,ro⟩,cs,hp n t ((lp,some (.loop ⟨.exhausted,some j,f,nt,Yo,ps,a,bd,d⟩))::lh)⟩):Good P0 E Q ⟨⟨fn,nt,tm,.VL lp::k,ds,.run,AL,ro⟩,cs,hp n t lh⟩:=by
 refine A5 L ?_;have hb:Nat.beq nt nt=true:=OE nt;simp only[Ev.step,B0,hl,hb]
 cases st with
 |busy=>exact absurd rfl HC
 |_=>exact g
theorem Ex(hm:mode≠ .run)(hb:H.get (hp n t lh) b=some (.EQ (some [])))(g:Good P0 E Q ⟨⟨fn,nt,tm,todo,ds,mode,AL,ro⟩,cs,hp n t ((b,some (.EQ none))::lh)⟩):Good P0 E Q ⟨⟨fn,nt,tm,todo,.mark b::ds,mode,AL,ro⟩,cs,hp n t lh⟩:=by
 refine A5 L ?_
 cases mode with
 |run=>exact absurd rfl hm
 |returning=>simp only[Ev.step,Ev.unwind,hb];exact g
 |panicking c=>simp only[Ev.step,Ev.unwind,hb];exact g
theorem Aok(hf:T.get F fn=some g)(hr:results (AJ l) h g.results=some vs)(q:Q fn (single vs)):Good P0 E Q ⟨⟨fn,nt,AJ l,todo,[],.returning,false,none⟩,[],h⟩:=by refine A5 L ?_;show GO P0 E Q (match T.get F fn with|none=> .fail|some g=>match results (AJ l) h g.results with|some l=>Ev.doReturn fn false (single l) [] h|none=> .fail);rw[hf];simp only[hr];exact q
omit L
end
section
variable {q:CJ}
variable {BP:List AV}{nm:List Nat}{pre By:List DI}{ps:List Ph}
include L
theorem Ut(ho:Cn l nm=some q)(hg:HH gd q=some true)(e:AU q x=some (.ptr b o))(e1:AU q y=some v)(hc:A1 v=some lv)(hm:Nat.beq lv.length m=true)(DL:Av lv=true)(hb:Bk (hp n t lh) b c)(hs:Lv lv c o=some BP)(g:∀AA,HSub (hp n t ((b,some (cl BP))::lh)) AA->Bh P0 E Q pre By ps k fn nt (AJ l) ds AL ro cs AA):Good P0 E Q ⟨⟨fn,nt,AJ l,.drawn ⟨⟨⟨none,gd,.store m x y⟩,nm⟩,pre,By⟩ ps::k,ds,.run,AL,ro⟩,cs,hp n t lh⟩:=y9 L ho (Az hg) e e1 hc hm DL hb.e hs g
theorem Ey{td:DO}(hq:Fk F K f g)(body:∀(Q:Nat->AV->Prop) (x:EW) (cs:FM),(∀v AA,post v AA->Good P0 E Q ⟨Me x [(v,false)],cs,AA⟩)->Good P0 E Q ⟨⟨f,g.ntmps,AJ l1,td,[],.run,false,none⟩,x::cs,hp h.n h.t []⟩)(hn:Nat.ble args.length g.ntmps=true:=by exact rfl)(hl:qo 0 args []=l0:=by exact rfl)(ha:HL 1000 [.code g.body] l0=(td,l1):=by exact rfl):Zk P0 E F K f args h post:=by exact yA
omit L
end
def DJ:Nat->Nat->List Nat
 |0,_=>[]
 |n+1,v=>v%256::DJ n (v/256)
theorem Bb:∀(n v:Nat),(DJ n v).length=n
 |0,_=>rfl
 |n+1,v=>by rw[DJ,FX,Bb n]
theorem Wj(n:Nat):256^n=2^(8*n):=by rw[Nat.pow_mul]
theorem aae:∀(n v:Nat),DJ (n+1) v=DJ n v++[(v>>>(8*n))%256]
 |0,v=>by simp[DJ]
 |n+1,v=>by
  rw[DJ,aae n (v/256),DJ,List.cons_append];have:(v/256)>>>(8*n)=v>>>(8*(n+1)):=by rw[fZ,fZ,<-Wj,<-Wj,Nat.div_div_eq_div_mul,Nat.pow_succ,WM 256]
  rw[this]
theorem Fo(n v:Nat):IA (DJ n v):=by
 induction n generalizing v with
 |zero=>intro i hi;exact absurd hi (OD i)
 |succ n ih=>
  intro i hi
  cases i with
  |zero=>show v%256<256;omega
  |succ i=>show(DJ n (v/256)).getD i 0<256;exact ih _ i (by rw[Bb]at hi ⊢;omega)
def EF(f:List Nat):Nat->Nat->Nat
 |_,0=>0
 |a,n+1=>f.getD a 0+256*EF f (a+1) n
theorem Nj(f:List Nat):∀(n a:Nat),EF f a (n+1)=EF f a n+f.getD (a+n) 0*256^n
 |0,a=>by simp[EF]
 |n+1,a=>by
  rw[EF,Nj f n (a+1),EF,show a+1+n=a+(n+1)from om,Nat.pow_succ,SQ];have:256*(f.getD (a+(n+1)) 0*256^n)=f.getD (a+(n+1)) 0*(256^n*256):=by rw[WM 256,Nat.mul_assoc]
  omega
theorem Ez{f:List Nat}(h:IA f)(i:Nat):f.getD i 0<256:=by
 by_cases hi:i<f.length;.exact h i hi
 .rw[MZ,OW om];show 0<256;omega
theorem He{f:List Nat}(h:IA f):∀(n a:Nat),EF f a n<256^n
 |0,a=>by simp[EF]
 |n+1,a=>by have h1:=He h n (a+1);have h2:=Ez h a;rw[EF,Nat.pow_succ];omega
theorem Gh{f:List Nat}(h:IA f):∀(n a:Nat),a+n<=f.length->DJ n (EF f a n)=(f.drop a).take n
 |0,a,_=>by simp[DJ]
 |n+1,a,hn=>by have h2:=Ez h a;rw[EF,DJ,show(f.getD a 0+256*EF f (a+1) n)%256=f.getD a 0 from om,show(f.getD a 0+256*EF f (a+1) n)/256=EF f (a+1) n from om,Gh h n (a+1) om];rw[ST (show a<f.length from om),cP];congr 1;rw[MZ,DA om];rfl
theorem Aaa(p s:List Nat)(x y m:Nat)(hm:m=p.length):(B5 (p++x::s)).set m (.int .u8 (y:Int))=B5 (p++y::s):=by subst hm;simp[B5,List.set_append]
theorem F0(l:List Nat):(B5 l).length=l.length:=by simp[B5]
structure Sp where
 kind:Nat
 sec:Int
 seq:Nat
 prev:Nat
 idx:Int
 len:Int
def NL(s:Sp):List AV:=[.int .u8 (s.kind:Int),.int .i64 s.sec,UN s.seq,UN s.prev,.int .i64 s.idx,.int .i64 s.len]
structure Sp.Ok (s:Sp):Prop where
 kind:s.kind<256
 seq:s.seq<18446744073709551616
 prev:s.prev<18446744073709551616
def sp0:Sp:=⟨0,0,0,0,0,0⟩
def SO(k:Nat):List Nat:=[67,70,84,76,k,0,0,0]
def Bc(s:Sp):List Nat:=SO s.kind++DJ 8 s.seq++DJ 8 s.prev++DJ 4 (u64 s.sec)++DJ 4 (u64 s.idx)++DJ 4 (u64 s.len)++List.replicate 24 0
theorem Cp(s:Sp):(Bc s).length=60:=by simp only[Bc,SO,DX,Bb,VA,FX,VB]
theorem Aeh{k:Nat}(h:k<256):IA (SO k):=by intro i hi;have PX:i<8:=hi;rcases i with _|_|_|_|_|_|_|_|i;all_goals first|(show _<256;simp[SO];done)|(simp[SO];exact h)|omega
theorem aht{s:Sp}(h:s.kind<256):IA (Bc s):=((((((Aeh h).app (Fo _ _)).app (Fo _ _)).app (Fo _ _)).app (Fo _ _)).app (Fo _ _)).app (IA.rep om)
def Sp.Valid(s:Sp):Prop:=1<=s.seq/\1<=s.len/\s.len<=65535/\0<=s.idx/\s.idx<s.len/\((s.kind=1/\0<=s.sec/\s.sec<=4294967294/\s.prev=0/\s.len=1)\/((s.kind=2\/s.kind=3)/\s.sec=0/\s.prev<s.seq/\s.idx.toNat<s.seq- s.prev))
instance (s:Sp):Decidable s.Valid:=by unfold Sp.Valid;infer_instance
section
variable {AT:CJ}{GA:DO}
include L in
theorem Aei{bs:Nat}{NG:List AV}(hg:HH gd l=some true)(e:AU l x=some (.AE b o dn bK))(e1:AU l y=some (.AE bs so sn qj))(k1:CG size (hp n t lh) (.AE bs so sn qj) sn lv)(hb:Bk (hp n t lh) b c)(hle:sn<=dn)(DL:Av lv=true)(hk:o+lv.length<=c.length)(HM:0<lv.length)(hs:Gb lv c o=NG)(ha:HL 1000 (.ops r::k) ((d,some (AN sn))::l)=(GA,AT))(g:Good P0 E Q ⟨⟨fn,nt,AJ AT,GA,ds,.run,AL,ro⟩,cs,hp n t ((b,some (cl NG))::lh)⟩):Good P0 E Q ⟨⟨fn,nt,AJ l,.ops (⟨some d,gd,.copy size x y⟩::r)::k,ds,.run,AL,ro⟩,cs,hp n t lh⟩:=by obtain⟨AA,q1,q2⟩:=Akg e e1 k1 hb hle DL hk HM hs;exact Et L (Az hg) q1 (Tx L q2 (Dl L 1000 ha g))
end
variable {M1 M2:OJ}{P S bb g0 g1 g2 g3 k lo nb r1 r2 vb:Nat}{s EU s0 z:Int}
theorem nU(h:p:=by
 rcases q.ex with h1|⟨h2,b,h3,h4,h5⟩
 .exact⟨.inl h1⟩
 .exact⟨.inr ⟨h2,b,h3,Ab k h4,h5⟩⟩):p:=h
theorem Avy(h:p:=by
 rcases q.ex with h1|h1|⟨b,cap,h1,h2,h3⟩
 .exact .inl h1
 .exact .inr (.inl h1)
 .exact .inr (.inr ⟨b,cap,h1,f.rk h2 h3,(f.CA b h2.lt).trans h3⟩)):p:=h
theorem yL(h:p:=by
 rcases q.ex with h1|⟨h2,b,h3,h4,h5⟩
 .exact⟨.inl h1⟩
 .exact⟨.inr ⟨h2,b,h3,Ao k (hs b h5) h4,h5⟩⟩):p:=h
theorem yM(h:p:=by
 rcases q.ex with h1|⟨h2,b,h3,h4,h5⟩
 .exact⟨.inl h1⟩
 .exact⟨.inr ⟨h2,b,h3,h4,EM k h5⟩⟩):p:=h
abbrev AI(z:Int):AV:= .int .i64 z
theorem B8{α:Type}{f:α->List AV}{k:Nat}:∀(l:List α),(∀x∈l,(f x).length=k)->(l.flatMap f).length=l.length*k
 | [],_=>by simp
 |x::r,h=>by rw[KP,DX,B8 r (λy hy=>h y (Ck _ hy)),h x (DW ..),FX,TX];omega
theorem In{α:Type}{f:α->List AV}{k:Nat}:∀(l:List α),(∀x∈l,(f x).length=k)->∀(i j:Nat) (x:α),l[i]?=some x->j<k->(l.flatMap f)[i*k+j]?=(f x)[j]?
 | [],_,i,j,x,h,_=>by simp at h
 |y::r,hl,i,j,x,h,hj=>by
  have hy:=hl y (DW ..);rw[KP]
  cases i with
  |zero=>simp only[List.getElem?_cons_zero,DB]at h;subst h;rw[jY,MD,QC om]
  |succ i=>rw[fJ]at h;rw[OB (by rw[hy,TX];omega),hy,show(i+1)*k+j- k=i*k+j by rw[TX];omega];exact In r (λz hz=>hl z (Ck _ hz)) i j x h hj
theorem A7{α:Type}{f:α->List AV}(l:List α)(h:∀x∈l,(f x).length=k)(i:Nat)(x:α)(hx:l[i]?=some x):i*k+k<=(l.flatMap f).length/\((l.flatMap f).drop (i*k)).take k=f x:=by
 have hi:=(FE.1 hx).1;have hm:x∈l:=I4 hx;have h1:i*k+k<=(l.flatMap f).length:=by rw[B8 l h];have:(i+1)*k<=l.length*k:=Xt k hi;rw[TX]at this;omega
 refine⟨h1,?_⟩;apply QT;intro j;by_cases hj:j<k;.rw[N0 hj,MN,In l h i j x hx hj]
 .rw[nA om,OW (by rw[h x hm];omega)]
theorem A0(hb:Rk h b c)(h1:o+k<=c.length/\(c.drop o).take k=lv)(e:AU l x=some (.ptr b o)):XV (.QN k x) h l (.agg lv) h:=by refine⟨?_⟩;simp only[exec,Ak,Ac e,ahs hb h1.1,h1.2]
abbrev BI:=Int×Int
def A2(e:BI):List AV:=[.int .i64 e.1,.int .i64 e.2]
theorem Io(l:List BI):∀x∈l,(A2 x).length=2:=λ_ _=>rfl
structure ao8 (AD:Nat->Nat)(h:H)(v:AV)(l:List BI):Prop where
 ex:(l=[]/\v= .AS)\/(l=[]/\∃a,v= .HZ (.slice (some a) 0 0))\/∃b cap,v= .AE b 0 l.length cap/\Rk h b (l.flatMap A2)/\AD b=0
def BI.Ok(e:BI):Prop:=0<=e.1/\e.1<=4294967294/\ -1<=e.2/\e.2<=4294967294
instance (e:BI):Decidable e.Ok:=by unfold BI.Ok;infer_instance
def Jf(e:BI):List Nat:=DJ 4 e.1.toNat++DJ 4 (e.2+1).toNat
def Cg(sz:Nat)(l:List BI):List Nat:=DJ 4 l.length++l.flatMap Jf++List.replicate (sz- 4- 8*l.length) 0
theorem Aab(e:BI):(Jf e).length=8:=by simp[Jf,Bb]
theorem Uu:∀(l:List BI),(l.flatMap Jf).length=8*l.length
 | []=>rfl
 |e::r=>by rw[KP,DX,Aab,Uu r,FX];omega
theorem IA.flat{α:Type}{f:α->List Nat}:∀(l:List α),(∀x,IA (f x))->IA (l.flatMap f)
 | [],_=>by intro i hi;exact absurd hi (OD i)
 |x::r,h=>by rw[KP];exact(h x).app (IA.flat r h)
theorem Aac(sz:Nat)(l:List BI):IA (Cg sz l):=((Fo _ _).app (IA.flat l λe=>(Fo _ _).app (Fo _ _))).app (IA.rep om)
theorem Eb{sz:Nat}{l:List BI}(h:4+8*l.length<=sz):(Cg sz l).length=sz:=by unfold Cg;rw[DX,DX,Bb,Uu,VA];omega
theorem Fw.rk(f:Fw AD h AF AA)(k:Rk h b c)(hc:AD b=0):Rk AA b c:=k.JH f.n (f.old b k.lt hc)
structure EL (h:H)(lo:Nat)(v:AV)(l:List BI):Prop where
 ex:(l=[]/\v= .AS)\/(l≠[]/\∃b,v= .AE b 0 l.length (Aa+2)/\Bk h b (l.flatMap A2)/\lo<=b)
theorem EL.nil(h:H)(lo:Nat):EL h lo .AS []:=⟨.inl ⟨rfl,rfl⟩⟩
theorem EL.k0{l:List BI}(q:EL h lo v l)(k:K0 h AA):EL AA lo v l:=by exact nU
theorem EL.kS{S:Nat->Prop}{l:List BI}(q:EL h lo v l)(k:Kp S h AA)(hs:∀b,lo<=b->¬S b):EL AA lo v l:=by exact yL
theorem EL.mono{QA:Nat}{l:List BI}(q:EL h lo v l)(k:QA<=lo):EL h QA v l:=by exact yM
theorem EL.plain{l:List BI}(q:EL h lo v l):A1 v=some [v]/\A8 v=true:=by rcases q.ex with⟨_,rfl⟩|⟨_,b,rfl,_⟩<;>exact⟨rfl,rfl⟩
theorem EL.len{l:List BI}(q:EL h lo v l):(l=[]/\v= .AS)\/(0<l.length/\∃b,v= .AE b 0 l.length (Aa+2)/\Bk h b (l.flatMap A2)/\lo<=b):=by
 rcases q.ex with h1|⟨h2,h3⟩;.exact .inl h1
 .exact .inr ⟨Yv.2 h2,h3⟩
theorem Bm(l:List BI):(l.flatMap A2).length=l.length*2:=B8 l (Io l)
theorem EL.app{N:Nat}{l:List BI}{e:BI}(hb:Bk h N (l.flatMap A2++A2 e))(HX:lo<=N)(hn:l.length=n):EL h lo (.AE N 0 (n+1) (Aa+2)) (l++[e]):=⟨.inr ⟨by simp,N,by simp[hn],by rw[OX];simpa using hb,HX⟩⟩
theorem Aon{q:Bool}{r:Nat}(e:AU l x=some (.map r))(e1:AU l y=some .OS):XV (.bin .eql x y q .ad7) h l (.bool false) h:=⟨by simp only[exec,Ak,Ac e,Ac e1];rfl⟩
section
variable {P:Program}
variable {q:CJ}{k:DO}{nm:List Nat}{pre By:List DI}{ps:List Ph}{d:Option Nat}
include L in
theorem Jg{a:List O}(ho:Cn l nm=some q)(hg:HH gd q=some true)(e:AU q x=some (.fn (.func f) [] cp))(ha:Fb q a=some va)(hr:E5 va cp=some args)(hc:Zk P0 E F K f args h post)(g:∀v AA,post v AA->Good P0 E Q ⟨⟨fn,nt,Pt By (AJ l),[.gone],ds,.panicking [(v,false)],AL,ro⟩,cs,AA⟩):Good P0 E Q ⟨⟨fn,nt,AJ l,.drawn ⟨⟨⟨d,gd,.LY x a⟩,nm⟩,pre,By⟩ ps::k,ds,.run,AL,ro⟩,cs,h⟩:=oL L ho (Az hg) (Jb e ha hr) (hc Q _ cs λv AA p=>g v AA p)
end
theorem Se{p:Nat}(h:p<nb*P):p/P<nb:=Nat.div_lt_of_lt_mul (by rw[WM];exact h)
section
variable {sl bytes:Nat}{k:IntKind}{old zero:List AV}
theorem aaf{z:List AV}(h:Av z=true):∀a,Av (rl z a)=true
 |0=>rfl
 |a+1=>by
  have:∀u v:List AV,Av u=true->Av v=true->Av (u++v)=true:=by
   intro u;induction u with
   |nil=>intro v _ hv;exact hv
   |cons p r ih=>
    intro v hu hv;simp only[Av]at hu
    cases hp:A8 p with
    |false=>rw[hp]at hu;cases hu
    |true=>rw[hp]at hu;show Av (p::(r++v))=true;simp only[Av,hp];exact ih v hu hv
  exact this z (rl z a) h (aaf h a)
theorem wT(e:AU l x=some (.AE b o sl (Aa+zero.length)))(e1:AU l y=some (.int k (a:Int)))(HM:0<a)(k1:CG zero.length (hp n t lh) (.AE b o sl (Aa+zero.length)) sl old)(hz:Av zero=true)(h1:a*bytes<=281474976710656)(h2:a<=281474976710656)(si:(sl+a)*(bytes+1)<=1099511627776):XV (.gD bytes zero x y) (hp n t lh) l (.AE n 0 (sl+a) (Aa+zero.length)) (hp (n+1) t ((n,some (cl (old++rl zero a)))::(b,none)::lh)):=by
 refine⟨?_⟩;obtain⟨m,rfl⟩:∃m,a=m+1:=⟨a- 1,om⟩;have VK:DP l y= .int k (Int.ofNat (m+1)):=Ac e1;have g1:Nat.ble (Nat.mul (m+1) bytes) 281474976710656=true:=Ba h1;have g2:Nat.ble (m+1) 281474976710656=true:=Ba h2;have g:Nat.ble (Nat.mul (Nat.add sl (Nat.succ m)) (Nat.succ bytes)) 1099511627776=true:=Ba si;have hold:=k1.cells;have DL:=aaf hz (m+1)
 cases k1 with
 | @AE _ _ _ _ c _ UH hk hx BX=>have g3:Nat.ble Aa (Aa+zero.length)=true:=Ba om;have g4:Nat.beq (Aa+zero.length) (Nat.add Aa zero.length)=true:=OE _;have dq:KM (hp n t lh) b o (Nat.mul sl zero.length)=some old:=hold;have sj:H.get (hp n t lh) b=some (.cells false c.length (JI 0 .leaf c)):=UH;simp only[exec,Ak,Ac e,VK,g1,g2,Dx,g,g3,g4,dq,sj,DL];rfl
theorem Aoo(e:AU l x=some (.AE b o sl cap))(e1:AU l y=some (.int k ((0:Nat):Int))):XV (.gD bytes zero x y) h l (.AE b o sl cap) h:=by refine⟨?_⟩;have VK:DP l y= .int k (Int.ofNat 0):=Ac e1;have g1:Nat.ble (Nat.mul 0 bytes) 281474976710656=true:=Ba (by show 0*bytes<=_;omega);have g2:Nat.ble 0 281474976710656=true:=rfl;simp only[exec,Ak,Ac e,VK,g1,g2,Dx]
end
theorem Kp.cut(k:Kp (λj=>lo<=j) h AA)(hl:h.n<=lo):K0 h AA:=⟨k.n,λb hb _=>k.old b hb om⟩
theorem Avz{v:Nat}(h:v<256^n):v>>>(8*n)=0:=by rw[fZ,<-Wj];exact fN h
structure MQ (M1 M2:OJ)(A:DM):Prop where
 a1:∀s,A9 M1 s=(A s).map AI
 a2:∀s p,A s=some p->A9 M2 p=some (AI s)
 a3:∀p u,A9 M2 p=some u->∃s,u=AI s/\A s=some p
theorem MQ.inj{A:DM}(q:MQ M1 M2 A){p:Int}(h:A s=some p)(AA:A EU=some p):s=EU:=by have h1:=q.a2 s p h;rw[q.a2 EU p AA]at h1;simp only[AI,DB,AV.int.injEq,true_and]at h1;exact h1.symm
def Fe(A:DM)(s0:Int):DM:=λs=>if s=s0 then none else A s
def C9(A:DM)(x:BI):DM:=λs=>if s=x.1 then(if 0<=x.2 then some x.2 else none)else A s
theorem alq{A:DM}(h:A s0=none):Fe A s0=A:=by
 funext s;unfold Fe;by_cases e:s=s0;.rw[AP e,e,h]
 .rw[AM e]
theorem aag{A:DM}{x:BI}(h:¬0<=x.2):C9 A x=Fe A x.1:=by funext s;unfold C9 Fe;rw[AM h]
theorem aah(A:DM)(x:BI):C9 (Fe A x.1) x=C9 A x:=by
 funext s;unfold C9 Fe;by_cases e:s=x.1;.rw[AP e,AP e]
 .rw[AM e,AM e,AM e]
theorem MQ.rem{A:DM}(q:MQ M1 M2 A){p:Int}(h:A s0=some p):MQ (Jx M1 s0) (Jx M2 p) (Fe A s0):=by
 refine⟨λs=>?_,λs JW hs=>?_,λJW u hu=>?_⟩
 .rw[Kj,q.a1];unfold Fe;by_cases e:s=s0;.rw[AP e,AP e];rfl
  .rw[AM e,AM e]
 .unfold Fe at hs;by_cases e:s=s0;.rw[AP e]at hs;cases hs
  .rw[AM e]at hs;have hp:JW≠p:=λf=>e (q.inj (by rw[hs,f]) h);rw[Kj,AM hp];exact q.a2 s JW hs
 .rw[Kj]at hu;by_cases e:JW=p;.rw[AP e]at hu;cases hu
  .rw[AM e]at hu;obtain⟨s,h1,h2⟩:=q.a3 JW u hu;refine⟨s,h1,?_⟩;unfold Fe;rw[AM];exact h2;rintro rfl;rw[h]at h2;cases h2;exact e rfl
theorem MQ.ins{A:DM}(q:MQ M1 M2 A){x:BI}{c1 c2:Nat}(hx:0<=x.2)(h:A x.1=none)(hp:∀s,A s≠some x.2):MQ (Dd M1 c1 x.1 (AI x.2)) (Dd M2 c2 x.2 (AI x.1)) (C9 A x):=by
 refine⟨λs=>?_,λs JW hs=>?_,λJW u hu=>?_⟩
 .rw[Bu,q.a1];unfold C9;by_cases e:s=x.1;.rw[AP e,AP e,AP hx];rfl
  .rw[AM e,AM e]
 .unfold C9 at hs;rw[Bu];by_cases e:s=x.1;.rw[AP e,AP hx]at hs;cases hs;rw[AP rfl,e]
  .rw[AM e]at hs;rw[AM λf=>hp s (by rw[<-f];exact hs)];exact q.a2 s JW hs
 .rw[Bu]at hu;by_cases e:JW=x.2;.rw[AP e]at hu;cases hu;exact⟨x.1,rfl,by unfold C9;rw[AP rfl,AP hx,e]⟩
  .rw[AM e]at hu;obtain⟨s,h1,h2⟩:=q.a3 JW u hu;refine⟨s,h1,?_⟩;unfold C9;rw[AM];exact h2;rintro rfl;rw[h]at h2;cases h2
def Sf(S T:Nat)(x:BI):Prop:=0<=x.1/\x.1<S/\ -1<=x.2/\x.2<T
instance (S T:Nat)(x:BI):Decidable (Sf S T x):=by unfold Sf;infer_instance
def wU(A:DM)(x:BI):Prop:=∃s,A s=some x.2/\s≠x.1
noncomputable def Jh(A:DM)(p:Int):Bool:= @decide (∃s,A s=some p) (Classical.propDecidable _)
theorem aC{A:DM}{p:Int}:Jh A p=true↔∃s,A s=some p:=by unfold Jh;exact @decide_eq_true_iff _ (Classical.propDecidable _)
theorem oY{A:DM}{p:Int}:Jh A p=false↔¬∃s,A s=some p:=by rw[<-aC];cases Jh A p<;>simp
def E1(f:Nat->Bool):Nat->Nat
 |0=>0
 |n+1=>E1 f n+if f n=true then 1 else 0
theorem Qx(f:Nat->Bool):∀n,E1 f n<=n
 |0=>BD _
 |n+1=>by have:=Qx f n;simp only[E1];split<;>omega
theorem Wl{f g:Nat->Bool}:∀{n},(∀j,j<n->f j=g j)->E1 f n=E1 g n
 |0,_=>rfl
 |n+1,h=>by simp only[E1,h n (NQ n),Wl (n:=n) λj hj=>h j om]
theorem aai{f g:Nat->Bool}{k:Nat}(hf:f k=false)(hg:g k=true):∀{n},k<n->(∀j,j<n->j≠k->f j=g j)->E1 g n=E1 f n+1
 |n+1,hk,h=>by
  simp only[E1];by_cases e:k=n;.subst e;rw[hf,hg,Wl λj hj=>h j om om];simp
  .rw[h n (NQ n) (λq=>e q.symm),aai hf hg (n:=n) om λj hj=>h j om];omega
noncomputable def GT(A:DM)(P i:Nat):Nat:=E1 (λj=>Jh A ((i*P+j:Nat):Int)) P
theorem Wm(A:DM)(P i:Nat):GT A P i<=P:=Qx _ _
theorem Sg{A:DM}{p:Nat}(hP:0<P)(h:A s0=some (p:Int))(inj:∀s,A s=some (p:Int)->s=s0):GT A P i=GT (Fe A s0) P i+if p/P=i then 1 else 0:=by
 have key:∀q:Nat,q≠p->Jh (Fe A s0) (q:Int)=Jh A (q:Int):=by
  intro q hq
  cases hc:Jh A (q:Int)with
  |true=>obtain⟨s,hs⟩:=aC.1 hc;refine aC.2 ⟨s,?_⟩;unfold Fe;rw[AM];exact hs;rintro rfl;rw[h]at hs;cases hs;exact hq rfl
  |false=>
   refine oY.2 λ⟨s,hs⟩=>oY.1 hc ⟨s,?_⟩;unfold Fe at hs;by_cases e:s=s0;.rw[AP e]at hs;cases hs
   .rw[AM e]at hs;exact hs
 by_cases e:p/P=i
 .rw[AP e];have hp:i*P+p%P=p:=by rw[<-e,WM];exact jT p P
  refine aai (k:=p%P) ?_ ?_ (UX _ hP) λj hj BZ=>key _ om
  .rw[hp];refine oY.2 λ⟨s,hs⟩=>?_;unfold Fe at hs;by_cases e2:s=s0;.rw[AP e2]at hs;cases hs
   .rw[AM e2]at hs;exact e2 (inj s hs)
  .rw[hp];exact aC.2 ⟨s0,h⟩
 .rw[AM e,TV];exact Wl λj hj=>(key _ λq=>e (by rw[<-q];exact(by rw[WM,Nat.mul_add_div om,fN hj,TV]))).symm
theorem Aad{A:DM}{p:Nat}(hP:0<P)(h:A s0=none)(hn:∀s,A s≠some (p:Int)):GT (C9 A (s0,(p:Int))) P i=GT A P i+if p/P=i then 1 else 0:=by
 have h1:C9 A (s0,(p:Int)) s0=some (p:Int):=by unfold C9;rw[AP rfl,AP (by simp only;omega)]
 have h2:Fe (C9 A (s0,(p:Int))) s0=A:=by
  funext s;unfold Fe C9;by_cases e:s=s0;.rw[AP e,e,h]
  .rw[AM e,AM e]
 rw[Sg (A:=C9 A (s0,(p:Int))) hP h1 ?_,h2];intro s hs;unfold C9 at hs;by_cases e:s=s0;.exact e
 .rw[AM e]at hs;exact absurd hs (hn s)
structure zm (S nb P:Nat)(h:H)(m r1 r2 vb:Nat)(A:DM)(M1 M2:OJ)(c1 c2:Nat)(cv:List AV):Prop where
 k1:Mk h r1 (M1.map (mE AI)) c1
 o1:EP M1 c1
 k2:Mk h r2 (M2.map (mE AI)) c2
 o2:EP M2 c2
 kv:Bk h vb cv
 vl:cv.length=nb
 vv:∀i,i<nb->cv[i]?=some (AN (GT A P i))
 mr:MQ M1 M2 A
structure II (S nb P:Nat)(h:H)(m r1 r2 vb:Nat)(A:DM):Prop where
 km:Bk h m [AN S,AN nb,AN P,.map r1,.map r2,.AE vb 0 nb nb]
 ne:r1≠r2/\r1≠m/\r1≠vb/\r2≠m/\r2≠vb/\m≠vb
 rg:∀s p,A s=some p->0<=s/\s<S/\0<=p/\p<((nb*P:Nat):Int)
 nz:0<nb/\nb<=44/\2<=P/\P<=6/\S<=1000
 ex:∃M1 M2 c1 c2 cv,zm S nb P h m r1 r2 vb A M1 M2 c1 c2 cv
theorem II.kp{A:DM}{B:Nat->Prop}(q:II S nb P h m r1 r2 vb A)(k:Kp B h AA)(hm:¬B m)(h1:¬B r1)(h2:¬B r2)(hv:¬B vb):II S nb P AA m r1 r2 vb A:=by obtain⟨M1,M2,c1,c2,cv,q5⟩:=q.ex;exact⟨Ao k hm q.km,q.ne,q.rg,q.nz,M1,M2,c1,c2,cv,⟨Nb k h1 q5.k1,q5.o1,Nb k h2 q5.k2,q5.o2,Ao k hv q5.kv,q5.vl,q5.vv,q5.mr⟩⟩
theorem II.k0{A:DM}(q:II S nb P h m r1 r2 vb A)(k:K0 h AA):II S nb P AA m r1 r2 vb A:=q.kp k id id id id
theorem II.lt{A:DM}(q:II S nb P h m r1 r2 vb A):m<h.n/\r1<h.n/\r2<h.n/\vb<h.n:=by obtain⟨M1,M2,c1,c2,cv,q5⟩:=q.ex;exact⟨q.km.lt,q5.k1.lt,q5.k2.lt,q5.kv.lt⟩
theorem II.inj{A:DM}(q:II S nb P h m r1 r2 vb A){p:Int}(e:A s=some p)(BG:A EU=some p):s=EU:=by obtain⟨M1,M2,c1,c2,cv,q5⟩:=q.ex;exact q5.mr.inj e BG
section
variable {cb:List AV}
theorem Eh(hd:Bk h d (GJ D fm bb)):CL L 58 [.ptr d 0] h λv AA=>v= .bool false/\AA=h:=by refine Aj L X.f58 λQ x cs G=>?_;refine ret X.f58.1 ?_;exact⟨rfl,rfl⟩
theorem de(hd:Bk h d (GJ D fm bb)){i:Int}:CL L 167 [.ptr d 0,.int .i64 i] h λv AA=>v= .bool (decide (0<=i/\i<D.nb))/\AA=h:=by
 refine Ad L X.f167 λQ x cs G=>?_;refine wk ?_;by_cases hi:0<=i
 .refine wk ?_;by_cases hj:i<D.nb;.refine ret X.f167.1 ?_;exact⟨by simp[single,hi,hj],rfl⟩
  .refine ret X.f167.1 ?_;exact⟨by simp[single,hi,hj],rfl⟩
 .refine ret X.f167.1 ?_;exact⟨by simp[single,hi],rfl⟩
theorem Ji(hd:Bk h d (GJ D fm bb)){i p:Int}:CL L 157 [.ptr d 0,.int .i64 i,.int .i64 p] h λv AA=>v= .bool (decide ((0<=i/\i<D.nb)/\0<=p/\p<D.P))/\AA=h:=by
 refine Bj L X.f157 λQ x cs G=>?_;refine AK ?_ (c:=de L hd);rintro _ rfl;by_cases hi:0<=i/\i<D.nb
 .rw[CM hi];refine wk ?_;by_cases h1:0<=p
  .refine wk ?_;by_cases h2:p<D.P;.refine ret X.f157.1 ?_;exact⟨by simp[single,hi,h1,h2],rfl⟩
   .refine ret X.f157.1 ?_;exact⟨by simp[single,h2],rfl⟩
  .refine ret X.f157.1 ?_;exact⟨by simp[single,h1],rfl⟩
 .rw[CW hi];refine ret X.f157.1 ?_;exact⟨by simp[single,hi],rfl⟩
theorem Df(hd:Bk h d (GJ D fm bb)):CL L 43 [.ptr d 0] h λv AA=>v= .agg [AN D.nb,AN D.P,AN D.sz,AN D.en]/\K0 h AA:=by refine Aj L X.f43 λQ x cs G=>?_;refine AK ?_ (c:=Eh L AG);rintro _ rfl;refine ret X.f43.1 ?_;exact⟨rfl,AH⟩
theorem Nk(hd:Bk h d (GJ D fm bb))(hb:Bk h bb cb){nx:Nat}(hi:i<D.nb)(hc:cb[i*3+1]?=some (AN nx)):CL L 138 [.ptr d 0,AN i] h λv AA=>v=AN nx/\AA=h:=by refine Ad L X.f138 λQ x cs G=>?_;refine AK ?_ (c:=Eh L hd);rintro _ rfl;refine AK ?_ (c:=de L hd);rintro _ rfl;rw[CM (show 0<=(i:Int)/\(i:Int)<D.nb from⟨om,om⟩)];refine ret X.f138.1 ?_;exact⟨rfl,rfl⟩
end
theorem yX(h:p:=by
 refine Bi L ?_
 refine wk ?_
 exact aaj L (AD:=AD) (h0:=h) (dv:=h5.n+1+1) (bb:=h5.n+1) (fm:=h5.n) (s2:=h.n) h0 h1 h2 h3 G AG AG ⟨[],0,vB,λi=>by rw[vt];rfl⟩ AG om AH BA):p:=h
theorem xF(h:p:=by
 refine Ad L X.f116 λQ x cs G=>?_
 refine wk ?_
 refine Bi L ?_
 refine ret X.f116.1 ?_
 exact⟨rfl,AH⟩):p:=h
theorem La{v:Nat}(h1:a<=v)(h2:v<=b):CL L 115 [AN v,AN a,AN b] h λu AA=>u= .bool true/\AA=h:=by refine Bj L X.f115 λQ x cs G=>?_;refine ret X.f115.1 ?_;exact⟨rfl,rfl⟩
def C2(g0 g1 g2 g3:Nat):List AV:=[AN g0,AN g1,AN g2,AN g3]
theorem Aaj(h0:2<=g0/\g0<=44)(h1:2<=g1/\g1<=6)(h2:12<=g2/\g2<=50)(h3:1<=g3/\g3<=1048576):CL L 82 [.agg (C2 g0 g1 g2 g3)] h λu AA=>u= .bool true/\K0 h AA:=by refine Aj L X.f82 λQ x cs G=>?_;refine AK ?_ (c:=La L om om);rintro _ rfl;refine AK ?_ (c:=La L om om);rintro _ rfl;refine AK ?_ (c:=La L om om);rintro _ rfl;refine AK ?_ (c:=La L om om);rintro _ rfl;refine ret X.f82.1 ?_;exact⟨rfl,AH⟩
structure OI (AD:Nat->Nat)(h:H)(v:AV)(l:List Int):Prop where
 ex:(l=[]/\v= .AS)\/(l=[]/\∃a,v= .HZ (.slice (some a) 0 0))\/∃b cap,v= .AE b 0 l.length cap/\Rk h b (l.map eI)/\AD b=0
theorem OI.fw{l:List Int}(q:OI AD h v l)(f:Fw AD h AF AA):OI AF AA v l:=by
 refine⟨?_⟩;rcases q.ex with h1|h1|⟨b,cap,h1,h2,h3⟩;.exact .inl h1
 .exact .inr (.inl h1)
 .exact .inr (.inr ⟨b,cap,h1,h2.JH f.n (f.old b h2.lt h3),(f.CA b h2.lt).trans h3⟩)
theorem Afm(hz:0<=z):CL L 84 [eI z] h λu AA=>u= .bool false/\AA=h:=by refine Aj L X.f84 λQ x cs G=>?_;refine ret X.f84.1 ?_;exact⟨rfl,rfl⟩
theorem alr{l:List Int}(q:OI AD h v l)(hlen:l.length<1000)(hf:∀x∈l,∀h2,CL L f [eI x] h2 λu AA=>u= .bool false/\AA=h2):CL L 116 [v,.fn (.func f) [] []] h λu AA=>u= .int .i64 (-1)/\K0 h AA:=by
 rcases q.ex with⟨rfl,rfl⟩|⟨rfl,a,rfl⟩|⟨b,cap,rfl,hb,-⟩;.exact xF
 .exact xF
 .refine Ad L X.f116 λQ x cs G=>?_;refine wk ?_;refine Bt L (α:=Unit) (T:=λi _=>[(8,some (AN i)),(7,some (AN l.length)),(0,some (.AE b 0 l.length cap)),(1,some (.fn (.func f) [] []))]) (n:=l.length) (R:=λi _ h2=>True/\K0 h h2) (i0:=0) () BA ⟨trivial,AH⟩ (CN _) ?_ ?_;.rintro i _ h2 hi ⟨-,k2⟩ ih;have hk:=Ni k2 hb;have hx:(l.map eI)[i]?=some (eI l[i]):=(by rw[GD,DA hi];rfl);refine liq ?_;refine BO L (Bx rfl JY hx) ?_;refine AK ?_ (c:=hf _ (LC hi) _);rintro _ rfl;refine wk ?_;exact ih () _ _ ⟨trivial,AH⟩ BA
  .rintro _ h2 ⟨-,k2⟩;refine ret X.f116.1 ?_;exact⟨rfl,k2⟩
theorem Nl{l:List Int}(q:OI AD h v l)(hlen:l.length<1000)(hf:∀x∈l,∀h2,CL L f [eI x] h2 λu AA=>u= .bool false/\AA=h2):CL L 83 [v,.fn (.func f) [] []] h λu AA=>u= .bool false/\K0 h AA:=by refine Ad L X.f83 λQ x cs G=>?_;refine AK ?_ (c:=alr L q hlen hf);rintro _ h2 ⟨rfl,k2⟩;refine ret X.f83.1 ?_;exact⟨rfl,k2⟩
structure WW (P i:Nat)(s:Nat)(c:List AV):Prop where
 len:c.length=P*2
 nil:∀j,j<P->c[j*2]?=some .AS
 st:∀j,j<P->c[j*2+1]?=some (AN (if j<i then s else 0))
theorem WW.step{s:Nat}(r:WW P i s c)(hi:i<P):WW P (i+1) s (c.set (i*2+1) (AN s)):=by
 refine⟨by rw[LQ];exact r.len,λj hj=>?_,λj hj=>?_⟩;.rw[GH om];exact r.nil j hj
 .by_cases e:j=i;.subst e;rw[QS (by rw[r.len];omega),AP (NQ j)]
  .rw[GH om,r.st j hj];by_cases h1:j<i;.rw[AP h1,AP om]
   .rw[AM h1,AM om]
theorem WW.init(s:Nat):∀P,WW P 0 s (rl [.AS,Zi] P)
 |0=>⟨rfl,λj hj=>om,λj hj=>om⟩
 |P+1=>by
  have ih:=WW.init s P;have e:rl [.AS,Zi] (P+1)= .AS::Zi::rl [.AS,Zi] P:=rfl;rw[e];have hl:=ih.len;refine⟨by rw[FX,FX];omega,λj hj=>?_,λj hj=>?_⟩
  .cases j with
   |zero=>rfl
   |succ j=>rw[show(j+1)*2=j*2+1+1 from om];simpa using ih.nil j om
  .cases j with
   |zero=>rfl
   |succ j=>rw[show(j+1)*2+1=j*2+1+1+1 from om];simpa using ih.st j om
theorem df{q s:Nat}{cb:List AV}(hb:Bk h bb cb)(hq:q+1<cb.length)(hP:P<1000):CL L 85 [.ptr bb q,AN P,AN s] h λv AA=>v= .BM []/\∃pn BP,h.n<=pn/\Bk AA bb ((cb.set q (.AE pn 0 P P)).set (q+1) (AN (if s=1 then 0 else P)))/\Bk AA pn BP/\WW P P s BP/\Kp (λj=>j=bb) h AA:=by
 refine Bj L X.f85 λQ x cs G=>?_;have hq0:q+0<cb.length:=om
 refine wk ?_;have e1:(cb.set (q+0) (.AE h.n 0 P P))[q+0]?=some (.AE h.n 0 P P):=QS hq0;refine wk ?_;refine Bt L (α:=Unit) (T:=λi _=>[(17,some (AN i)),(16,some (AN P)),(0,some (.ptr bb q)),(1,some (AN P)),(2,some (AN s))]) (n:=P) (R:=λi _ h1=>Bk h1 bb (cb.set (q+0) (.AE h.n 0 P P))/\(∃c,Bk h1 h.n c/\WW P i s c)/\Kp (λj=>j=bb) h h1) (i0:=0) () BA ⟨AG,⟨_,AG,WW.init s P⟩,AH⟩ (CN _) ?_ ?_
 .rintro i _ h1 hi ⟨TA,⟨c,hc,hr⟩,hk⟩ ih;have hlen:i*2+1<c.length:=by rw[hr.len];omega
  refine wk ?_;exact ih () _ _ ⟨AG,⟨_,AG,hr.step hi⟩,AH⟩ BA
 .rintro _ h1 ⟨TA,⟨c,hc,hr⟩,hk⟩;have hlen:q+1<(cb.set (q+0) (.AE h.n 0 P P)).length:=by simpa using hq
  refine wk ?_;by_cases hs:s=1;.refine ret X.f85.1 ?_;refine⟨rfl,h.n,c,BD _,?_,AG,hr,AH⟩;rw[AP hs];exact AG
  .have p8:q+1<((cb.set (q+0) (.AE h.n 0 P P)).set (q+1) Zi).length:=(by simpa using hq);refine ret X.f85.1 ?_;refine⟨rfl,h.n,c,BD _,?_,AG,hr,AH⟩;rw[AM hs];exact R9 (List.set_set _) AG
def O2(l:List Int)(n:Nat):Bool:=decide ((n:Int)∈l)
theorem vt(n:Nat):O2 [] n=false:=by simp[O2]
theorem als{l:List Int}(h:l[i]?=some z)(n:Nat):O2 (l.take (i+1)) n=(decide ((n:Int)=z) ||O2 (l.take i) n):=by
 unfold O2;rw[LO,h];by_cases e:(n:Int)=z;.simp[e]
 .simp[e]
include L in
theorem aaj{h0:H}{dv s2:Nat}{fl:List Int}{x:EW}(h0':2<=g0/\g0<=44)(h1:2<=g1/\g1<=6)(h2:12<=g2/\g2<=50)(h3:1<=g3/\g3<=1048576)(G:∀v AA,(∃d AF,v= .BM [.ptr d 0,Zi]/\K0 h0 AA/\IK AF AA d (Dv.new g0 g1 g2 g3 (O2 fl))/\∀b,b<h0.n->AF b=AD b)->GO P0 E Q (finish v cs AA x))(kg:Bk h s2 (C2 g0 g1 g2 g3))(kd:Bk h dv (T2 g0 g1 g2 g3 fm bb 0 (-1) 0 false))(qfm:VD h fm (O2 fl))(kb:Bk h bb (rl [.AS,Zi,Zi] g0))(BZ:dv≠bb/\dv≠fm/\bb≠fm/\s2≠bb/\h0.n<=dv/\h0.n<=bb/\h0.n<=fm)(k0:K0 h0 h){lq:CJ}(ht:FY (AJ [(41,some Zi),(40,some (AN g0)),(6,some (.ptr dv 0)),(2,some (.ptr s2 0))]) (AJ lq)):Good P0 E Q ⟨⟨35,oD.ntmps,AJ lq,[.code (.loop Akp),.inBlock 2,.code Akq],[],.run,false,none⟩,x::cs,h⟩:=by
 refine D0 L ht ?_;have w1:=kd.lt;have w2:=kb.lt;have w3:=qfm.lt;obtain⟨e1,e2,e3,e4,e5,e6,e7⟩:=BZ
 refine Bt L (α:=Nat->Nat) (T:=λi _=>[(41,some (AN i)),(40,some (AN g0)),(6,some (.ptr dv 0)),(2,some (.ptr s2 0))]) (n:=g0)
  (R:=λi AF h5=>Bk h5 s2 (C2 g0 g1 g2 g3)/\Bk h5 (dv) (T2 g0 g1 g2 g3 fm bb 0 (-1) 0 false)/\VD h5 fm (O2 fl)/\
   (∃cb,Bk h5 (bb) cb/\cb.length=g0*3/\(∀j,j<g0->cb[j*3+2]?=some Zi)/\∀j,j<i->∃pn c,aw AF h5 g1 j ⟨C8 1,0,0⟩ cb pn c)/\
   (AF (dv)=1/\AF (bb)=2/\AF fm=0/\∀b,b<h0.n->AF b=AD b)/\K0 h0 h5) (i0:=0)
  (λb=>if b=dv then 1 else if b=bb then 2 else if b=fm then 0 else AD b) BA ⟨AG,AG,(by exact qfm.k0 AH),⟨_,AG,?_,?_,λj hj=>om⟩,⟨?_,?_,?_,λb hb=>?_⟩,AH⟩ (CN _) ?_ ?_
 .rw[Vx];rfl
 .intro j hj;rw[Z8 _ _ _ (by show _<_*3;omega),show(j*3+2)% [AV.AS,Zi,Zi].length=2 by show(j*3+2)%3=2;omega];rfl
 .exact AP rfl
 .rw[AM om,AP rfl]
 .rw[AM om,AM om,AP rfl]
 .rw[AM om,AM om,AM om]
 .rintro i HD h5 hi ⟨q1,q2,q3,⟨cb,q4,q5,q6,q7⟩,⟨q8,q9,vQ,vR⟩,q12⟩ ih;have b1:=q2.lt;have b3:=q3.lt;have b4:=q4.lt;refine AK ?_ (c:=df L (s:=1) AG om om);rintro _ h6 ⟨rfl,pn,BP,r1,r3,r2x,r4,r5⟩;have b2:=r5.n;simp only[Ag]at r1 b2;refine wk ?_;have hw:Fw HD h5 (AX HD pn (3+i)) h6:=⟨b2,λb hb hc=>r5.old b hb λe=>(by rw[e,q9]at hc;omega),λb hb=>CB _ _ om⟩;have KY:i*3+1<cb.length:=by rw[q5];omega
  refine ih (AX HD pn (3+i)) _ _ ⟨AG,AG,q3.kp r5 om,⟨_,AG,?_,?_,?_⟩,⟨?_,?_,?_,?_⟩,AH⟩ BA;.rw[LQ,LQ];exact q5
  .intro j hj;rw[GH om,GH om];exact q6 j hj
  .intro j hj;have YP:j<g0:=om;by_cases hji:j=i
   .subst hji;refine⟨pn,BP,?_,?_,?_,⟨r2x,Am _ _ _,r4.len,λm hm=>⟨?_,λ_ _=>r4.nil m hm,λhs=>?_⟩⟩⟩;.rw[GH om,QS om]
    .rw[QS pv];rfl
    .rw[GH om,GH om];exact q6 j YP
    .rw[r4.st m hm,AP hm];rfl
    .exact absurd hs (by show¬(1=2\/1=3);omega)
   .obtain⟨pm,c,hr⟩:=q7 j om;have h7:pm≠bb:=λe=>by have:=hr.row.CA;rw[e,q9]at this;omega
    have h8:=hr.fw hw (r5.old pm hr.row.k.lt om);refine⟨pm,c,?_,?_,?_,h8.row⟩;.rw[GH om,GH om];exact h8.c0
    .rw[GH om,GH om];exact h8.c1
    .rw[GH om,GH om];exact h8.c2
  .rw[CB _ _ om];exact q8
  .rw[CB _ _ om];exact q9
  .rw[CB _ _ om];exact vQ
  .intro b hb;rw[CB _ _ om];exact vR b hb
 .rintro HD h5 ⟨q1,q2,q3,⟨cb,q4,q5,q6,q7⟩,⟨q8,q9,vQ,vR⟩,q12⟩;refine ret X.f35.1 ?_;have b1:=q2.lt;refine⟨dv,HD,rfl,q12,⟨⟨⟨h0',h1,h2,h3⟩,by show(0:Nat)<900000000;omega,CN _,by show(-1:Int)<= -1/\(-1:Int)<900000000;omega,λi hi=>⟨CN _,λj hj=>absurd hj (OD j),λj _ _=>rfl,λj _=>⟨λhs=>absurd hs (by show¬(1=2\/1=3);omega),λ_ _=>rfl,(by show 1<=1/\1<=5;omega)⟩,CN _⟩⟩,fm,bb,cb,q2,q8,q3,vQ,q4,q9,q5,h0'.2,q7⟩,vR⟩
theorem vu(h0:2<=g0/\g0<=44)(h1:2<=g1/\g1<=6)(h2:12<=g2/\g2<=50)(h3:1<=g3/\g3<=1048576){fl:List Int}(qf:OI AD h v fl)(hf:∀x∈fl,0<=x)(lJ:fl.length<1000):CL L 35 [.agg (C2 g0 g1 g2 g3),v] h λv AA=>∃d AF,v= .BM [.ptr d 0,Zi]/\K0 h AA/\IK AF AA d (Dv.new g0 g1 g2 g3 (O2 fl))/\∀b,b<h.n->AF b=AD b:=by
 rcases qf.ex with⟨rfl,rfl⟩|⟨rfl,a,rfl⟩|⟨b,cap,rfl,hb,-⟩
 all_goals
  refine Ad L X.f35 λQ x cs G=>?_;refine AK ?_ (c:=Aaj L h0 h1 h2 h3);rintro _ h4 ⟨rfl,hk4⟩;have n4:=hk4.n;simp only[Ag]at n4;refine AK ?_ (c:=Nl L (qf.fw (Kp.gO za)) lJ (λx hx h2=>Afm L (hf x hx)));rintro _ h5 ⟨rfl,hk5⟩;have n5:=hk5.n;simp only[Ag]at n5;refine wk ?_
 .exact yX
 .exact yX
 .have lb:=hb.lt
  refine Bt L (α:=Unit) (T:=λi _=>[(26,some (AN i)),(25,some (AN fl.length)),(24,some (.AE b 0 fl.length cap)),(6,some (.ptr (h5.n+1+1) 0)),(2,some (.ptr h.n 0))]) (n:=fl.length)
   (R:=λi _ h6=>Bk h6 h.n (C2 g0 g1 g2 g3)/\Bk h6 (h5.n+1+1) (T2 g0 g1 g2 g3 h5.n (h5.n+1) 0 (-1) 0 false)/\(∃M ck,Mk h6 h5.n (M.map (mE eI)) ck/\EP M ck/\∀j:Nat,A9 M (j:Int)=if O2 (fl.take i) j=true then some (.bool true)else none)/\Bk h6 (h5.n+1) (rl [.AS,Zi,Zi] g0)/\K0 h h6) (i0:=0)
   () BA ⟨AG,AG,⟨[],0,vB,EP.nil,λi=>by rw[nO,vt];rfl⟩,AG,AH⟩ (CN _) ?_ ?_
  .rintro i _ h6 hi ⟨q1,q2,⟨M,ck,q3,q4,q5⟩,q6,q7⟩ ih;have hk:=Ni q7 hb;have hx:(fl.map eI)[i]?=some (eI fl[i]):=(by rw[GD,DA hi];rfl);refine liq ?_;refine BO L (Bx rfl JY hx) ?_;refine wk ?_;(apply Kk L rfl;exact El (KE.int .i64) q4 rfl rfl rfl CH;rfl);refine wk ?_;refine ih () _ _ ⟨AG,AG,⟨_,_,CH,q4.set _ _,λj=>?_⟩,AG,AH⟩ BA;rw[Bu,q5,als (DA hi)];by_cases e:((j:Nat):Int)=fl[i];.rw[AP e,CM e];rfl
   .rw[AM e,CW e];rfl
  .rintro _ h6 ⟨q1,q2,⟨M,ck,q3,q4,q5⟩,q6,q7⟩;refine wk ?_;exact aaj L (AD:=AD) (h0:=h) (dv:=h5.n+1+1) (bb:=h5.n+1) (fm:=h5.n) (s2:=h.n) h0 h1 h2 h3 G AG AG ⟨M,ck,CH,λi=>by rw[q5,NA]⟩ AG om AH BA
theorem yY(h:p:=by
 obtain⟨M,ck,k1,k2⟩:=hf.ex
 have k3:=k2 D.n
 rw[hq]at k3
 refine Sc L X.f284 λQ x cs G=>?_
 refine wk ?_
 refine BO L (C0 (KE.int .i64) rfl rfl CH) ?_
 rw[k3]
 refine AK ?_ (c:=hi _ AG AH)
 rintro u h2 NJ
 refine ret X.f284.1 ?_
 exact⟨rfl,_,u,AG,AH,NJ⟩):p:=h
variable {CV:Dv}{ab b1 b2 c1 c2 er nx o1 o2 s:Nat}{cb:List AV}
section
variable {b3 q:Nat}
theorem Uv(Z9:Bk h b3 [.ptr bb q])(UG:Bk h b2 [.ptr d 0])(hd:Bk h d (GJ D fm bb))(hb:Bk h bb cb)(hq:q+1<cb.length)(hP:D.P<1000):CL L 283 [.ptr b3 0,.ptr b2 0] h λv AA=>∃pn BP,h.n<=pn/\Bk AA bb ((cb.set q (.AE pn 0 D.P D.P)).set (q+1) (AN D.P))/\Bk AA pn BP/\WW D.P D.P 5 BP/\Kp (λj=>j=bb) h AA:=by refine Ad L X.f283 λQ x cs G=>?_;refine AK ?_ (c:=df L (s:=5) AG hq hP);rintro _ h1 ⟨rfl,r⟩;refine ret X.f283.1 ?_;exact r
theorem alt(Z9:Bk h b3 [.ptr bb q])(UG:Bk h b2 [.ptr d 0])(hd:Bk h d (GJ D fm bb))(hb:Bk h bb cb)(hq:q+1<cb.length)(hP:D.P<1000):CL L 285 [.ptr b3 0,.ptr b2 0] h λv AA=>∃pn BP,h.n<=pn/\Bk AA bb ((cb.set q (.AE pn 0 D.P D.P)).set (q+1) Zi)/\Bk AA pn BP/\WW D.P D.P 1 BP/\Kp (λj=>j=bb) h AA:=by refine Ad L X.f285 λQ x cs G=>?_;refine AK ?_ (c:=df L (s:=1) AG hq hP);rintro _ h1 ⟨rfl,r⟩;refine ret X.f285.1 ?_;exact r
section
variable {fi:Nat}{f1 f2:AV}{e:Int}{post:H->OF}
theorem Qb(hd:Bk h d (GJ D fm bb))(hn:D.n<900000000)(hc:(D.n:Int)=D.cut)(hi:∀h1,Bk h1 d (GJ {D with n:=D.n+1,off:=true} fm bb)->Kp (λj=>j=d) h h1->CL L fi cp h1 (post h1)):CL L 284 [.ptr d 0,f1,f2,.fn (.func fi) [] cp,.int .i64 e] h λv AA=>v=AN 50/\∃h1 u,Bk h1 d (GJ {D with n:=D.n+1,off:=true} fm bb)/\Kp (λj=>j=d) h h1/\post h1 u AA:=by refine Sc L X.f284 λQ x cs G=>?_;refine AK ?_ (c:=hi _ AG AH);rintro u h2 NJ;refine ret X.f284.1 ?_;exact⟨rfl,_,u,AG,AH,NJ⟩
theorem Qc(hd:Bk h d (GJ D fm bb))(hf:VD h fm D.CD)(hfd:fm≠d)(hn:D.n<900000000)(hc:(D.n:Int)≠D.cut)(hq:D.CD D.n=false)(hi:∀h1,Bk h1 d (GJ {D with n:=D.n+1} fm bb)->Kp (λj=>j=d) h h1->CL L fi cp h1 (post h1)):CL L 284 [.ptr d 0,.fn (.func fi) [] cp,f1,f2,.int .i64 e] h λv AA=>v=Zi/\∃h1 u,Bk h1 d (GJ {D with n:=D.n+1} fm bb)/\Kp (λj=>j=d) h h1/\post h1 u AA:=by exact yY
theorem Qd(hd:Bk h d (GJ D fm bb))(hf:VD h fm D.CD)(hfd:fm≠d)(hn:D.n<900000000)(hc:(D.n:Int)≠D.cut)(hq:D.CD D.n=true)(hi:∀h1,Bk h1 d (GJ {D with n:=D.n+1} fm bb)->Kp (λj=>j=d) h h1->CL L fi cp h1 (post h1)):CL L 284 [.ptr d 0,f1,.fn (.func fi) [] cp,f2,.int .i64 e] h λv AA=>v= .int .i64 e/\∃h1 u,Bk h1 d (GJ {D with n:=D.n+1} fm bb)/\Kp (λj=>j=d) h h1/\post h1 u AA:=by exact yY
end
end
theorem yZ(h:p:=by
 exact⟨by rw[g2];exact h1.nx,h1.lo,by rw[g2];exact h1.hi,by rw[g2,g3];exact h1.pg,by rw[g4];exact h1.er⟩):p:=h
theorem LV.newRow{BP:List AV}(q:LV AD h d D fm bb cb)(hi:i<D.nb)(FT:CV.nb=D.nb)(hP:CV.P=D.P)(GR:CV.CD=D.CD)(KY:CV.bl=AX D.bl i ⟨C8 s,nx,er⟩)(hs:s≠2/\s≠3)(k:Kp (λj=>j=d\/j=bb) h AA)(dk:Bk AA d (GJ CV fm bb))(bk:Bk AA bb (((cb.set (i*3+2) (AN er)).set (i*3) (.AE pn 0 D.P D.P)).set (i*3+1) (AN nx)))(rk:Bk AA pn BP)(r:WW D.P D.P s BP)(hp:h.n<=pn):∃AF RC,LV AF AA d CV fm bb RC/\Ch AD h AF AA:=by
 have b1:=q.dk.lt;have b2:=q.bk.lt;have b3:=q.fk.lt;have l:=q.Z1;have c1:=q.UC;have c2:=q.YE;have c3:=q.YH;have X7:Ch AD h (AX AD pn (3+i)) AA:=⟨k.mono λj hj=>by rcases hj with e|e<;>subst e<;>omega,λb hb=>CB _ _ om⟩;refine⟨AX AD pn (3+i),_,⟨dk,(CB _ _ om).trans c1,by rw[GR];exact q.fk.kp k (by intro e;rcases e with e|e<;>subst e<;>omega),(CB _ _ om).trans c3,bk,(CB _ _ om).trans c2,?_,by rw[FT];exact q.nb,λj hj=>?_⟩,X7⟩;.rw[LQ,LQ,LQ,FT];exact l
 .rw[FT]at hj;by_cases e:j=i
  .subst e;refine⟨pn,BP,?_,?_,?_,rk,Am _ _ _,by rw[hP];exact r.len,λm hm=>?_⟩;.rw[GH om,QS pv,hP]
   .rw[QS (by rw[LQ,LQ];omega),KY,Am]
   .rw[GH om,GH om,QS om,KY,Am]
   .rw[hP]at hm;rw[KY,Am];refine⟨?_,λ_ _=>r.nil m hm,λh1=>absurd h1 (by show¬(s=2\/s=3);omega)⟩;rw[r.st m hm,AP hm];rfl
  .obtain⟨pm,c,hr⟩:=q.rows j hj;have h7:=hr.row.CA;have h8:=hr.fw X7.fw (k.old pm hr.row.k.lt (by intro e;rcases e with e|e<;>subst e<;>omega));rw[hP,KY,CB _ _ e];refine⟨pm,c,?_,?_,?_,h8.row⟩;.rw[GH om,GH om,GH om];exact h8.c0
   .rw[GH om,GH om,GH om];exact h8.c1
   .rw[GH om,GH om,GH om];exact h8.c2
theorem Dv.Ok.row(q:D.Ok)(hg:CV.nb=D.nb/\CV.P=D.P/\CV.sz=D.sz/\CV.en=D.en)(hn:CV.n<900000000)(hb:CV.EC=D.EC)(hc:CV.cut=D.cut)(KY:CV.bl=AX D.bl i ⟨C8 s,nx,er⟩)(hs:s=1/\nx=0\/s=5/\nx=D.P)(he:er<=D.en):CV.Ok:=by
 obtain⟨g1,g2,g3,g4⟩:=hg;refine⟨⟨by rw[g1];exact q.g.nb,by rw[g2];exact q.g.P,by rw[g3];exact q.g.sz,by rw[g4];exact q.g.en⟩,hn,by rw[hb,g3];exact q.EC,by rw[hc];exact q.cut,λj hj=>?_⟩;rw[g1]at hj;rw[KY];by_cases e:j=i
 .subst e;rw[Am];have TM:∀m,((C8 s) m).Ok CV.sz:=λm=>⟨λh1=>absurd h1 (by show¬(s=2\/s=3);omega),λ_ _=>rfl,(by show 1<=s/\s<=5;omega)⟩;rcases hs with⟨h1,h2⟩|⟨h1,h2⟩<;>subst h1<;>subst h2
  .exact⟨CN _,λm hm=>absurd hm (OD m),λm _ _=>rfl,λm _=>TM m,by rw[g4];exact he⟩
  .exact⟨by rw[g2];exact BD _,λm _=>(by show 5≠1;omega),λm h1 h2=>absurd h2 (by rw[g2];show¬m<D.P;exact Nat.not_lt.2 h1),λm _=>TM m,by rw[g4];exact he⟩
 .rw[CB _ _ e];have h1:=q.bl j hj;exact yZ
theorem Aam(q:LV AD h d D fm bb cb)(ok:D.Ok)(hn:D.n+1<900000000)(hi:i<D.nb)(ED:D.off=false)(he:(D.bl i).er<D.en):CL L 252 [.ptr d 0,.ptr bb (i*3)] h λv AA=>v=AN ((D.erase i).2)/\∃AF,IK AF AA d (D.erase i).1/\Ch AD h AF AA:=by
 obtain⟨pn,c,hr⟩:=q.rows i hi;have VQ:=hr.c2;have b1:=q.dk.lt;have b2:=q.bk.lt;have b3:=q.fk.lt;have l:=q.Z1;have l2:i*3+2<cb.length:=om
 have c1:=q.UC;have c2:=q.YE;have c3:=q.YH;have aE:=q.dk;have UH:=q.bk;have lI:=q.fk;have ID:=ok.g.en;have hgP:=ok.g.P;have ZC:d≠bb:=λe=>by rw[e]at c1;omega
 have dU:fm≠d:=λe=>by rw[e]at c3;omega
 have lA:fm≠bb:=λe=>by rw[e]at c3;omega
 have l3:i*3+1<(cb.set (i*3+2) (AN ((D.bl i).er+1))).length:=by rw[LQ];omega
 have e0:D.erase i=if(D.n:Int)=D.cut then({D with bl:=AX D.bl i ⟨C8 5,D.P,(D.bl i).er+1⟩,n:=D.n+1,off:=true},50)else if D.CD D.n=true then({D with bl:=AX D.bl i ⟨C8 5,D.P,(D.bl i).er+1⟩,n:=D.n+1},55)else({D with bl:=AX D.bl i ⟨C8 1,0,(D.bl i).er+1⟩,n:=D.n+1},0):=by unfold Dv.erase;rw[AP ⟨om,om⟩,ED,AM W0,FL,AM om]
 refine Ad L X.f252 λQ x cs G=>?_;refine wk ?_;by_cases hc:(D.n:Int)=D.cut;.refine AK ?_ (c:=Qb L AG om hc λh2 k1 k2=>Uv L (b3:=h.n+1) (b2:=h.n) AG AG k1 AG l3 (by show D.P<1000;omega));rintro _ h2 ⟨rfl,h1,u,r1,r2,pn',BP,r3,r4,r5,r6,r7⟩;refine ret X.f252.1 ?_;rw[e0,AP hc];refine⟨rfl,?_⟩;have k2:Kp (λj=>j=d\/j=bb) h h2:=Kp.DZ r7 (λ_ _ e=> .inr e) (Kp.DZ r2 (λ_ _ e=> .inl e) (Kp.st (.inr (.inr rfl)) (Kp.nw (Kp.nw (.refl _)))));have n2:=r2.n;simp only[Ag]at n2;obtain⟨AF,RC,w1,w2⟩:=q.newRow (CV:={D with bl:=AX D.bl i ⟨C8 5,D.P,(D.bl i).er+1⟩,n:=D.n+1,off:=true}) hi rfl rfl rfl rfl om k2 (Ao r7 ZC r1) r4 r5 r6 om;exact⟨AF,⟨ok.row (CV:={D with bl:=AX D.bl i ⟨C8 5,D.P,(D.bl i).er+1⟩,n:=D.n+1,off:=true}) ⟨rfl,rfl,rfl,rfl⟩ hn rfl rfl rfl (.inr ⟨rfl,rfl⟩) om,_,_,_,w1⟩,w2⟩
 .cases hq:D.CD D.n with
  |true=>refine AK ?_ (c:=Qd L AG (lI.kp (S:=λj=>j=bb) AH lA) dU om hc hq λh2 k1 k2=>Uv L (b3:=h.n+1) (b2:=h.n) AG AG k1 AG l3 (by show D.P<1000;omega));rintro _ h2 ⟨rfl,h1,u,r1,r2,pn',BP,r3,r4,r5,r6,r7⟩;refine ret X.f252.1 ?_;rw[e0,AM hc,AP hq];refine⟨rfl,?_⟩;have k2:Kp (λj=>j=d\/j=bb) h h2:=Kp.DZ r7 (λ_ _ e=> .inr e) (Kp.DZ r2 (λ_ _ e=> .inl e) (Kp.st (.inr (.inr rfl)) (Kp.nw (Kp.nw (.refl _)))));have n2:=r2.n;simp only[Ag]at n2;obtain⟨AF,RC,w1,w2⟩:=q.newRow (CV:={D with bl:=AX D.bl i ⟨C8 5,D.P,(D.bl i).er+1⟩,n:=D.n+1}) hi rfl rfl rfl rfl om k2 (Ao r7 ZC r1) r4 r5 r6 om;exact⟨AF,⟨ok.row (CV:={D with bl:=AX D.bl i ⟨C8 5,D.P,(D.bl i).er+1⟩,n:=D.n+1}) ⟨rfl,rfl,rfl,rfl⟩ hn rfl rfl rfl (.inr ⟨rfl,rfl⟩) om,_,_,_,w1⟩,w2⟩
  |false=>refine AK ?_ (c:=Qc L AG (lI.kp (S:=λj=>j=bb) AH lA) dU om hc hq λh2 k1 k2=>alt L (b3:=h.n+1) (b2:=h.n) AG AG k1 AG l3 (by show D.P<1000;omega));rintro _ h2 ⟨rfl,h1,u,r1,r2,pn',BP,r3,r4,r5,r6,r7⟩;refine ret X.f252.1 ?_;rw[e0,AM hc,AM (by rw[hq];simp)];refine⟨rfl,?_⟩;have k2:Kp (λj=>j=d\/j=bb) h h2:=Kp.DZ r7 (λ_ _ e=> .inr e) (Kp.DZ r2 (λ_ _ e=> .inl e) (Kp.st (.inr (.inr rfl)) (Kp.nw (Kp.nw (.refl _)))));have n2:=r2.n;simp only[Ag]at n2;obtain⟨AF,RC,w1,w2⟩:=q.newRow (CV:={D with bl:=AX D.bl i ⟨C8 1,0,(D.bl i).er+1⟩,n:=D.n+1}) hi rfl rfl rfl rfl om k2 (Ao r7 ZC r1) r4 r5 r6 om;exact⟨AF,⟨ok.row (CV:={D with bl:=AX D.bl i ⟨C8 1,0,(D.bl i).er+1⟩,n:=D.n+1}) ⟨rfl,rfl,rfl,rfl⟩ hn rfl rfl rfl (.inl ⟨rfl,rfl⟩) om,_,_,_,w1⟩,w2⟩
theorem alu{i:Int}(r:IK AD h d D)(hn:D.n+1<900000000):CL L 220 [.ptr d 0,.int .i64 i] h λv AA=>v=AN ((D.erase i).2)/\∃AF,IK AF AA d (D.erase i).1/\Ch AD h AF AA:=by
 obtain⟨ok,fm,bb,cb,q⟩:=r;have hd:=q.dk;refine Ad L X.f220 λQ x cs G=>?_;refine AK ?_ (c:=Eh L hd);rintro _ rfl;refine AK ?_ (c:=de L hd);rintro _ rfl;by_cases hi:0<=i/\i<D.nb
 .rw[CM hi]
  cases ED:D.off with
  |true=>have e0:D.erase i=(D,50):=(by unfold Dv.erase;rw[AP hi,AP ED]);unfold GJ T2 at hd;rw[ED]at hd;refine ret X.f220.1 ?_;rw[e0];exact⟨rfl,AD,⟨ok,fm,bb,cb,q⟩,.refl _ _⟩
  |false=>
   unfold GJ T2 at hd;rw[ED]at hd;obtain⟨j,rfl⟩:∃j:Nat,i=j:=⟨i.toNat,om⟩;have hj:j<D.nb:=om;obtain⟨pn,c,hr⟩:=q.rows j hj;have VQ:=hr.c2;have UH:=q.bk;have ID:=ok.g.en;have oa:=(ok.bl j hj).er;refine wk ?_;by_cases he:D.en<=(D.bl j).er;.have e0:D.erase j=(D,56):=(by unfold Dv.erase;rw[AP hi,AM (by rw[ED];simp),FL,AP he]);refine ret X.f220.1 ?_;rw[e0];exact⟨rfl,AD,⟨ok,fm,bb,cb,q⟩,.refl _ _⟩
   .refine AK ?_ (c:=Aam L q ok hn hj ED om);rintro _ h1 ⟨rfl,r⟩;refine ret X.f220.1 ?_;exact⟨rfl,r⟩
 .rw[CW hi];have e0:D.erase i=(D,2):=by unfold Dv.erase;rw[AM hi]
  refine ret X.f220.1 ?_;rw[e0];exact⟨rfl,AD,⟨ok,fm,bb,cb,q⟩,.refl _ _⟩
theorem Afn(h0:0<n)(hn:n<10000):CL L 269 [.AS,AN n] h λv AA=>∃b,v= .AE b 0 0 (Aa+1)/\(∃c,Bk AA b c)/\h.n<=b/\K0 h AA:=by refine Ad L X.f269 λQ x cs G=>?_;refine wk ?_;refine BO L (wR rfl rfl om om om om) ?_;refine ret X.f269.1 ?_;exact⟨h.n,rfl,⟨_,AG⟩,BD _,AH⟩
theorem Lb{pb n1 n2:Nat}{YG bI:List Nat}(DL:Bk h pb [.AE b1 o1 n1 c1,.AE b2 o2 n2 c2])(k1:BS h b1 o1 YG)(k2:BS h b2 o2 bI)(e1:YG.length=n1)(e2:bI.length=n2)(h1:0<n1/\n1<1000)(h2:0<n2/\n2<1000):CL L 241 [.AE pb 0 2 2] h λv AA=>∃b,v= .AE b 0 (n1+n2) (Aa+1)/\BS AA b 0 (YG++bI)/\h.n<=b/\K0 h AA:=by
 have l2:=k1.ET;have l3:=k2.ET;have a1:=k1.all;have a2:=k2.all;refine Aj L X.f241 λQ x cs G=>?_;refine wk ?_;refine Bi L ?_;refine wk ?_;refine Bs L ?_;refine wk ?_;refine Bs L ?_;refine AK ?_ (c:=Afn L om om);rintro _ h3 ⟨gb,rfl,⟨c,hc⟩,hg,hk⟩;have hn3:=hk.n;simp only[Ag]at hg hn3;refine wk ?_;refine Bi L ?_;refine wk ?_;have f1:BS (hp h3.n h3.t []) b1 o1 YG:=EN;refine BO L (D7 rfl rfl (CG.of (b:=gb) (o:=0) (n:=0) (c:=c) (xs:=[]) AG om W0) (f1.UT e1) h1.1 om (Fc _)) ?_;refine wk ?_;refine Bs L ?_;refine wk ?_;have f2:BS (hp (h3.n+1) h3.t [(h3.n,some (cl ([]++B5 YG))),(gb,none)]) b2 o2 bI:=EN;have f3:BS (hp (h3.n+1) h3.t [(h3.n,some (cl ([]++B5 YG))),(gb,none)]) h3.n 0 YG:=Ia a1;refine BO L (D7 rfl rfl (f3.UT om) (f2.UT e2) h2.1 om (Fc _)) ?_;refine wk ?_;refine Bs L ?_;refine ret X.f241.1 ?_;refine⟨h3.n+1,by rw[show 0+n1+n2=n1+n2 from om];rfl,?_,om,?_⟩;.rw[Kl];exact Ia (a1.app a2)
 .have TJ:K0 h h3:=Kp.EA hk AH;exact AH
def Qi(EC:Nat)(bs:List Nat):List Nat:=bs.take EC++List.replicate (bs.length- EC) 255
theorem Kn(EC:Nat)(bs:List Nat)(h:EC<=bs.length):(Qi EC bs).length=bs.length:=by unfold Qi;rw[DX,IS,VA];omega
theorem aak(EC:Nat)(bs:List Nat)(h:EC<=bs.length)(i:Nat)(hi:i<bs.length):(Qi EC bs).getD i 0=if EC<=i then 255 else bs.getD i 0:=by
 unfold Qi;rw[aad,IS,Nat.min_eq_left h];by_cases h1:i<EC;.rw[AP h1,AM om];simp only[MZ];rw[N0 h1]
 .rw[AM h1,AP om];simp only[MZ];rw[qv om];rfl
section
variable {a4 a7 QH:Nat}{all:List Nat}
theorem Aan(h7:Bk h a7 [.AE ab 0 n (Aa+1)])(UE:Bk h QH [.ptr pn o])(DL:Bk h pn c)(ho:o+1<c.length):CL L 294 [.ptr a7 0,.ptr QH 0] h λv AA=>Bk AA pn ((c.set o (.AE ab 0 n (Aa+1))).set (o+1) (AN 2))/\Kp (λb=>b=pn) h AA:=by refine Ad L X.f294 λQ x cs G=>?_;refine ret X.f294.1 ?_;exact⟨AG,AH⟩
theorem Aao(UE:Bk h QH [.ptr pn o])(DL:Bk h pn c)(ho:o+1<c.length):CL L 295 [.ptr QH 0] h λv AA=>Bk AA pn ((c.set o .AS).set (o+1) (AN 4))/\Kp (λb=>b=pn) h AA:=by refine Aj L X.f295 λQ x cs G=>?_;refine ret X.f295.1 ?_;exact⟨AG,AH⟩
theorem Aap(h7:Bk h a7 [.AE ab 0 n (Aa+1)])(UE:Bk h QH [.ptr pn o])(h4:Bk h a4 [.ptr d 0])(hd:Bk h d (GJ D fm bb))(DL:Bk h pn c)(ho:o+1<c.length)(hb:BS h ab 0 all)(hn:all.length=n)(JE:n<1000)(hby:D.EC<=n)(BZ:a4≠pn/\a7≠pn/\QH≠pn/\d≠pn/\ab≠pn/\a4≠ab/\a7≠ab/\d≠ab):CL L 296 [.ptr a7 0,.ptr QH 0,.ptr a4 0] h λv AA=>Bk AA pn ((c.set o (.AE ab 0 n (Aa+1))).set (o+1) (AN (if D.EC=n then 2 else 3)))/\BS AA ab 0 (Qi D.EC all)/\Kp (λb=>b=pn\/b=ab) h AA:=by
 obtain⟨n1,n2,n3,n4,n5,n6,n7,n8⟩:=BZ;have l2:=hb.ET;obtain⟨cc,q1,q2,q3⟩:=hb.ex;refine Bj L X.f296 λQ x cs G=>?_;refine wk ?_
 have key:∀h1,Kp (λb=>b=pn\/b=ab) h h1->Bk h1 pn ((c.set o (.AE ab 0 n (Aa+1))).set (o+1) (AN (if D.EC=n then 2 else 3)))->
   (∃c2,Bk h1 ab c2/\n<=c2.length/\∀m,m<n->c2[m]?=some (.int .u8 ((if D.EC<=m/\m<D.EC+(n- D.EC)then 255 else all.getD m 0:Nat):Int)))->
   GO P0 E Q (finish (single []) cs h1 x):=by
  rintro h1 hk NJ ⟨c2,r1,r2,r3⟩
  refine G _ _ ⟨NJ,⟨⟨c2,r1,by rw[Kn _ _ om];omega,λm hm=>?_⟩,λm hm=>?_⟩,hk⟩
  .rw[Kn _ _ om]at hm
   rw[MD,r3 m om,aak _ _ om _ hm]
   by_cases e2:D.EC<=m
   .rw[AP e2,AP om]
   .rw[AM e2,AM om]
  .rw[Kn _ _ om]at hm
   rw[aak _ _ om _ hm]
   split
   .omega
   .exact hb.lt m hm
 have cell:∀(i:Nat) (c2:List AV),i<n- D.EC->n<=c2.length->(∀m,m<n->c2[m]?=some (.int .u8 ((if D.EC<=m/\m<D.EC+i then 255 else all.getD m 0:Nat):Int)))->
   ∀m,m<n->(c2.set (D.EC+i) (.int .u8 ((255:Nat):Int)))[m]?=some (.int .u8 ((if D.EC<=m/\m<D.EC+(i+1)then 255 else all.getD m 0:Nat):Int)):=by
  intro i c2 hi r2 r3 m hm
  by_cases e:m=D.EC+i
  .subst e
   rw[QS om,AP om]
  .rw[GH om,r3 m hm]
   by_cases e2:D.EC<=m/\m<D.EC+i
   .rw[AP e2,AP om]
   .rw[AM e2,AM om]
 have e0:∀m,m<n->cc[m]?=some (.int .u8 ((if D.EC<=m/\m<D.EC+0 then 255 else all.getD m 0:Nat):Int)):=λm hm=>by rw[AM om];simpa using q3 m om
 by_cases hc:D.EC=n
 case' pos=>
  have hlen:o+1<((c.set o (.AE ab 0 n (Aa+1))).set (o+1) (AN 3)).length:=by rw[LQ,LQ];exact ho
  refine wk ?_
 case' neg=>refine wk ?_
 all_goals
  refine Bt L (α:=Unit) (T:=λi _=>[(26,some (AN i)),(25,some (AN (n- D.EC))),(0,some (.ptr a7 0)),(2,some (.ptr a4 0))]) (n:=n- D.EC)
   (R:=λi _ h2=>(∃c2,Bk h2 ab c2/\n<=c2.length/\∀m,m<n->c2[m]?=some (.int .u8 ((if D.EC<=m/\m<D.EC+i then 255 else all.getD m 0:Nat):Int)))/\Bk h2 pn ((c.set o (.AE ab 0 n (Aa+1))).set (o+1) (AN (if D.EC=n then 2 else 3)))/\Kp (λb=>b=pn\/b=ab) h h2) (i0:=0) () BA
   ⟨⟨cc,AG,om,e0⟩,?_,Kp.st (.inr (.inl rfl)) (by first|exact .refl _|exact Kp.st (.inr (.inl rfl)) (.refl _))⟩ (CN _) ?_ ?_
  .first
    |(rw[AP hc];exact R9 (List.set_set _) AG)
    |(rw[AM hc];exact AG)
  .rintro i _ h2 hi ⟨⟨c2,r1,r2,r3⟩,r4,r5⟩ ih;have p8:D.EC+i<c2.length:=om;refine wk ?_;exact ih () _ _ ⟨⟨_,AG,by rw[LQ];exact r2,cell i c2 hi r2 r3⟩,AG,Kp.st (.inr (.inr rfl)) r5⟩ BA
  .rintro _ h2 ⟨r1,r4,r5⟩;refine wk ?_
   first
    |(refine wu L X.f296.1 rfl ?_;exact key _ r5 r4 r1)
end
def ZT(ab:Nat)(p:Pg):AV:=if p.st=4 then .AS else .AE ab 0 p.b.length (Aa+1)
theorem LV.vV{p:Pg}(q:LV AD h d D fm bb cb)(hi:i<D.nb)(hr:aw AD h D.P i (D.bl i) cb pn c)(hj:(D.bl i).nx<D.P)(hs:p.st=2\/p.st=3\/p.st=4)(FT:CV.nb=D.nb)(hP:CV.P=D.P)(GR:CV.CD=D.CD)(KY:CV.bl=AX D.bl i ⟨AX (D.bl i).pg (D.bl i).nx p,(D.bl i).nx+1,(D.bl i).er⟩)(k:Kp (λj=>j=d\/j=bb\/j=pn) h AA)(dk:Bk AA d (GJ CV fm bb))(bk:Bk AA bb (cb.set (i*3+1) (AN ((D.bl i).nx+1))))(rk:Bk AA pn ((c.set ((D.bl i).nx*2) (ZT ab p)).set ((D.bl i).nx*2+1) (AN p.st)))(ag1:BS AA ab 0 p.b)(oV:h.n<=ab):∃AF RC,LV AF AA d CV fm bb RC/\Ch AD h AF AA:=by
 have b1:=q.dk.lt;have b2:=q.bk.lt;have b3:=q.fk.lt;have b4:=hr.row.k.lt;have l:=q.Z1;have lc:=hr.row.len;have c1:=q.UC;have c2:=q.YE;have c3:=q.YH;have c4:=hr.row.CA;have nb:=q.nb;have X7:Ch AD h (AX AD ab 0) AA:=⟨k.mono λj hj=>by rcases hj with e|e|e<;>subst e<;>omega,λb hb=>CB _ _ om⟩;refine⟨AX AD ab 0,_,⟨dk,(CB _ _ om).trans c1,by rw[GR];exact q.fk.kp k (by intro e;rcases e with e|e|e<;>subst e<;>omega),(CB _ _ om).trans c3,bk,(CB _ _ om).trans c2,?_,by rw[FT];exact q.nb,λj hj=>?_⟩,X7⟩;.rw[LQ,FT];exact l
 .rw[FT]at hj;by_cases e:j=i
  .subst e;rw[hP,KY,Am];refine⟨pn,_,?_,?_,?_,rk,(CB _ _ om).trans c4,by rw[LQ,LQ];exact lc,λm hm=>?_⟩;.rw[GH om];exact hr.c0
   .rw[QS om]
   .rw[GH om];exact hr.c2
   .by_cases em:m=(D.bl j).nx
    .subst em;show ft _ _ _ _ (AX (D.bl j).pg (D.bl j).nx p (D.bl j).nx);rw[Am];refine⟨?_,λh1 h2=>?_,λh1=>⟨ab,?_,Am _ _ _,ag1⟩⟩;.rw[QS pv]
     .rw[GH om,QS om];unfold ZT;rw[AP om]
     .rw[GH om,QS om];unfold ZT;rw[AM om]
    .show ft _ _ _ _ (AX (D.bl j).pg (D.bl j).nx p m);rw[CB _ _ em];have h5:=(hr.row.pg m hm).fw X7.fw;refine⟨?_,λh1 h2=>?_,λh1=>?_⟩;.rw[GH om,GH om];exact h5.st
     .rw[GH om,GH om];exact h5.none h1 h2
     .rw[GH om,GH om];exact h5.full h1
  .obtain⟨pm,BP,HY⟩:=q.rows j hj;have h7:=HY.row.CA;have h8:=HY.fw X7.fw (k.old pm HY.row.k.lt (by intro e;rcases e with e|e|e<;>subst e<;>omega));rw[hP,KY,CB _ _ e];refine⟨pm,BP,?_,?_,?_,h8.row⟩;.rw[GH om];exact h8.c0
   .rw[GH om];exact h8.c1
   .rw[GH om];exact h8.c2
theorem Dv.Ok.vV{p:Pg}(q:D.Ok)(hi:i<D.nb)(hj:(D.bl i).nx<D.P)(hs:p.st=2\/p.st=3\/p.st=4)(hl:p.st≠4->p.b.length=D.sz+64)(hl4:p.st=4->p.b=[])(hg:CV.nb=D.nb/\CV.P=D.P/\CV.sz=D.sz/\CV.en=D.en)(hn:CV.n<900000000)(hb:CV.EC=D.EC)(hc:CV.cut=D.cut)(KY:CV.bl=AX D.bl i ⟨AX (D.bl i).pg (D.bl i).nx p,(D.bl i).nx+1,(D.bl i).er⟩):CV.Ok:=by
 obtain⟨g1,g2,g3,g4⟩:=hg;refine⟨⟨by rw[g1];exact q.g.nb,by rw[g2];exact q.g.P,by rw[g3];exact q.g.sz,by rw[g4];exact q.g.en⟩,hn,by rw[hb,g3];exact q.EC,by rw[hc];exact q.cut,λj MU=>?_⟩;rw[g1]at MU;rw[KY];by_cases e:j=i
 .subst e;rw[Am];have h1:=q.bl j MU;refine⟨by rw[g2];exact hj,λm hm=>?_,λm h2 h3=>?_,λm hm=>?_,by rw[g4];exact h1.er⟩
  .show(AX (D.bl j).pg (D.bl j).nx p m).st≠1;by_cases em:m=(D.bl j).nx;.subst em;rw[Am];omega
   .rw[CB _ _ em];exact h1.lo m (by have:m<(D.bl j).nx+1:=hm;omega)
  .have VN:(D.bl j).nx+1<=m:=h2;show(AX (D.bl j).pg (D.bl j).nx p m).st=1;rw[CB _ _ om];exact h1.hi m om (by rw[g2]at h3;exact h3)
  .rw[g2]at hm;show(AX (D.bl j).pg (D.bl j).nx p m).Ok CV.sz;rw[g3];by_cases em:m=(D.bl j).nx;.subst em;rw[Am];exact⟨λh8=>hl om,λa b=>hl4 om,om⟩
   .rw[CB _ _ em];exact h1.pg m hm
 .rw[CB _ _ e];have h1:=q.bl j MU;exact yZ
def Dv.IE(D:Dv)(all:List Nat):Pg:=if(D.n:Int)=D.cut then⟨if D.EC=all.length then 2 else 3,Qi D.EC all⟩else if D.CD D.n=true then⟨4,[]⟩else⟨2,all⟩
def Dv.wr(D:Dv)(i:Nat)(all:List Nat):Dv:=
 {D with bl:=AX D.bl i ⟨AX (D.bl i).pg (D.bl i).nx (D.IE all),(D.bl i).nx+1,(D.bl i).er⟩,n:=D.n+1,off:=D.off ||decide ((D.n:Int)=D.cut)}
def Dv.prog(D:Dv)(i:Int)(all:List Nat):Dv×Nat:=
 if 0<=i/\i<D.nb/\(D.bl i.toNat).nx<D.P then
  if D.off=true then(D,50)
  else(D.wr i.toNat all,if(D.n:Int)=D.cut then 50 else if D.CD D.n=true then 54 else 0)
 else(D,2)
theorem Dv.aeh(D:Dv)(all:List Nat):(D.IE all).st=2\/(D.IE all).st=3\/(D.IE all).st=4:=by
 unfold Dv.IE;split
 .show(if D.EC=all.length then 2 else 3)=2\/(if D.EC=all.length then 2 else 3)=3\/_;split;.exact .inl rfl
  .exact .inr (.inl rfl)
 .split;.exact .inr (.inr rfl)
  .exact .inl rfl
theorem Dv.ak7(D:Dv)(all:List Nat)(h:D.EC<=all.length)(h4:(D.IE all).st≠4):(D.IE all).b.length=all.length:=by
 unfold Dv.IE at*;split;.exact Kn _ _ h
 .rename_i h1;rw[AM h1]at h4;split;.rename_i h2;rw[AP h2]at h4;exact absurd rfl h4
  .rfl
theorem Dv.ak6(D:Dv)(all:List Nat)(h4:(D.IE all).st=4):(D.IE all).b=[]:=by
 unfold Dv.IE at*;split;.rename_i h1;rw[AP h1]at h4;have:(if D.EC=all.length then 2 else 3)=4:=h4;split at this<;>omega
 .rename_i h1;rw[AM h1]at h4;split;.rfl
  .rename_i h2;rw[AM h2]at h4;exact absurd h4 (by show¬2=4;omega)
theorem ahv{all:List Nat}(q:LV AD h d D fm bb cb)(ok:D.Ok)(hn:D.n+1<900000000)(hi:i<D.nb)(hr:aw AD h D.P i (D.bl i) cb pn c)(hj:(D.bl i).nx<D.P)(ED:D.off=false)(hb:BS h ab 0 all)(hl:all.length=n)(hln:n=D.sz+64)(KN:AD ab=0):CL L 265 [.ptr d 0,AN i,AN ((D.bl i).nx),.AE ab 0 n (Aa+1)] h λv AA=>v=AN (if(D.n:Int)=D.cut then 50 else if D.CD D.n=true then 54 else 0)/\Bk AA d (GJ (D.wr i all) fm bb)/\Bk AA bb (cb.set (i*3+1) (AN ((D.bl i).nx+1)))/\Bk AA pn ((c.set ((D.bl i).nx*2) (ZT ab (D.IE all))).set ((D.bl i).nx*2+1) (AN ((D.IE all).st)))/\BS AA ab 0 (D.IE all).b/\Kp (λb=>b=d\/b=bb\/b=pn\/b=ab) h AA:=by
 have b1:=q.dk.lt;have b2:=q.bk.lt;have b3:=q.fk.lt;have b4:=hr.row.k.lt;have b5:=hb.ET;have l:=q.Z1;have lc:=hr.row.len;have c1:=q.UC;have c2:=q.YE;have c3:=q.YH;have c4:=hr.row.CA;have hP:=ok.g.P;have DE:=ok.g.sz;have hby:=ok.EC;have aE:=q.dk;have UH:=q.bk;have lI:=q.fk;have bY:=hr.row.k;have QM:=hr.c0;have KD:=hr.c1;have ZC:d≠bb:=λe=>by rw[e]at c1;omega
 have oh:d≠pn:=λe=>by rw[e]at c1;omega
 have hbp:bb≠pn:=λe=>by rw[e]at c2;omega
 have lF:d≠ab:=λe=>by rw[e]at c1;omega
 have hba:bb≠ab:=λe=>by rw[e]at c2;omega
 have hH:ab≠pn:=λe=>by rw[e]at KN;omega
 have dU:fm≠d:=λe=>by rw[e]at c3;omega
 have lA:fm≠bb:=λe=>by rw[e]at c3;omega
 have l1:i*3+1<cb.length:=om
 have l2:(D.bl i).nx*2+1<c.length:=om
 have abu:(cb.set (i*3+1) (AN ((D.bl i).nx+1)))[i*3+0]?=some (.AE pn 0 D.P D.P):=by rw[GH om];exact QM
 refine Mc L X.f265 λQ x cs G=>?_;refine wk ?_;by_cases hc:(D.n:Int)=D.cut
 .refine AK ?_ (c:=Qb L AG om hc λh2 k1 k2=>Aap L (h:=h2) (a7:=h.n+1) (QH:=h.n+1+1) (a4:=h.n) AG AG AG k1 AG l2 EN hl om (by show D.EC<=n;omega) ⟨om,om,om,oh,hH,om,om,lF⟩);rintro _ h2 ⟨rfl,h1,u,r1,r2,r3,r4,r5⟩;refine ret X.f265.1 ?_;have e1:D.IE all=⟨if D.EC=all.length then 2 else 3,Qi D.EC all⟩:=AP hc;have e2:GJ (D.wr i all) fm bb=GJ {D with n:=D.n+1,off:=true} fm bb:=by unfold GJ Dv.wr;rw[CM hc,Bool.or_true]
  have e3:ZT ab (D.IE all)= .AE ab 0 n (Aa+1):=by unfold ZT;rw[e1,AM (by show¬(if D.EC=all.length then 2 else 3)=4;split<;>omega)];show AV.AE ab 0 (Qi D.EC all).length _=_;rw[Kn _ _ om,hl]
  rw[AP hc,e3,e1,e2,hl];exact⟨rfl,AG,AG,r3,r4,Kp.DZ r5 (λ_ _ e=> .inr (.inr e)) (Kp.DZ r2 (λ_ _ e=> .inl e) AH)⟩
 .have e2:GJ (D.wr i all) fm bb=GJ {D with n:=D.n+1} fm bb:=by unfold GJ Dv.wr;rw[CW hc,jX]
  cases hq:D.CD D.n with
  |true=>refine AK ?_ (c:=Qd L AG (lI.kp (S:=λj=>j=bb) AH lA) dU om hc hq λh2 k1 k2=>Aao L (h:=h2) (QH:=h.n+1+1) AG AG l2);rintro _ h2 ⟨rfl,h1,u,r1,r2,r3,r5⟩;refine ret X.f265.1 ?_;have e1:D.IE all=⟨4,[]⟩:=(by unfold Dv.IE;rw[AM hc,AP hq]);have e3:ZT ab (D.IE all)= .AS:=(by unfold ZT;rw[e1,AP rfl]);obtain⟨cc,q1,q2,q3⟩:=hb.ex;rw[AM hc,AP hq,e3,e1,e2];exact⟨rfl,AG,AG,r3,⟨⟨cc,AG,W0,λi hi=>absurd hi (OD i)⟩,λi hi=>absurd hi (OD i)⟩,Kp.DZ r5 (λ_ _ e=> .inr (.inr (.inl e))) (Kp.DZ r2 (λ_ _ e=> .inl e) AH)⟩
  |false=>refine AK ?_ (c:=Qc L AG (lI.kp (S:=λj=>j=bb) AH lA) dU om hc hq λh2 k1 k2=>Aan L (h:=h2) (a7:=h.n+1) (QH:=h.n+1+1) AG AG AG l2);rintro _ h2 ⟨rfl,h1,u,r1,r2,r3,r5⟩;refine ret X.f265.1 ?_;have e1:D.IE all=⟨2,all⟩:=(by unfold Dv.IE;rw[AM hc,AM (by rw[hq];simp)]);have e3:ZT ab (D.IE all)= .AE ab 0 n (Aa+1):=(by unfold ZT;rw[e1,AM (by show¬2=4;omega),<-hl]);rw[AM hc,AM (by rw[hq];simp),e3,e1,e2];exact⟨rfl,AG,AG,r3,EN,Kp.DZ r5 (λ_ _ e=> .inr (.inr (.inl e))) (Kp.DZ r2 (λ_ _ e=> .inl e) AH)⟩
theorem agm{p:Nat}{i:Int}{data extra:List Nat}(r:IK AD h d D)(hn:D.n+1<900000000)(DL:0<=i/\i<D.nb->p=(D.bl i.toNat).nx)(k1:BS h b1 o1 data)(k2:BS h b2 o2 extra)(e1:data.length=D.sz)(e2:extra.length=64):CL L 238 [.ptr d 0,.int .i64 i,AN p,.AE b1 o1 D.sz c1,.AE b2 o2 64 c2] h λv AA=>v= .int .i64 (((D.prog i (data++extra)).2:Nat):Int)/\∃AF,IK AF AA d (D.prog i (data++extra)).1/\Ch AD h AF AA:=by
 obtain⟨ok,fm,bb,cb,q⟩:=r;have hd:=q.dk;have gsz:=ok.g.sz;refine Sc L X.f238 λQ x cs G=>?_;refine AK ?_ (c:=Eh L hd);rintro _ rfl;refine AK ?_ (c:=Ji L hd);rintro _ rfl;by_cases hi:(0<=i/\i<D.nb)/\0<=(p:Int)/\(p:Int)<D.P
 .rw[CM hi];obtain⟨aG,YO,hi3⟩:=hi;have SH:=DL aG;have gV:0<=i/\i<D.nb/\(D.bl i.toNat).nx<D.P:=⟨aG.1,aG.2,om⟩
  cases ED:D.off with
  |true=>have e0:D.prog i (data++extra)=(D,50):=(by unfold Dv.prog;rw[AP gV,AP ED]);unfold GJ T2 at hd;rw[ED]at hd;refine ret X.f238.1 ?_;rw[e0];exact⟨rfl,AD,⟨ok,fm,bb,cb,q⟩,.refl _ _⟩
  |false=>
   unfold GJ T2 at hd;rw[ED]at hd;obtain⟨j,rfl⟩:∃j:Nat,i=j:=⟨i.toNat,om⟩;rw[FL]at SH gV;have hj:j<D.nb:=om;obtain⟨pn,c,hr⟩:=q.rows j hj;have KD:=hr.c1;have UH:=q.bk;subst SH;have e0:D.prog j (data++extra)=(D.wr j (data++extra),if(D.n:Int)=D.cut then 50 else if D.CD D.n=true then 54 else 0):=(by unfold Dv.prog;rw[FL,AP gV,AM (by rw[ED];simp)]);have l1:=k1.ET;have l2:=k2.ET;refine AK ?_ (c:=Lb L (b1:=b1) (o1:=o1) (n1:=D.sz) (c1:=c1) (b2:=b2) (o2:=o2) (n2:=64) (c2:=c2) (YG:=data) (bI:=extra) AG EN EN e1 e2 om om);rintro _ h1 ⟨ab,rfl,w1,w2,w3⟩;simp only[Ag]at w2;have n1:=w3.n;simp only[Ag]at n1;have qs:K0 h h1:=Kp.EA w3 AH;have X7:Ch AD h (AX AD ab 0) h1:=⟨qs.mono λ_ e=>e.elim,λb hb=>CB _ _ om⟩;have q1:LV (AX AD ab 0) h1 d D fm bb cb:=by
    have hk:Kp (λ_=>False) h h1:=qs
    exact⟨Ab hk q.dk,(CB _ _ (by have:=q.dk.lt;omega)).trans q.UC,q.fk.k0 hk,(CB _ _ (by have:=q.fk.lt;omega)).trans q.YH,Ab hk q.bk,(CB _ _ (by have:=q.bk.lt;omega)).trans q.YE,q.Z1,q.nb,
     λi hi=>let⟨pn,c,h1⟩:=q.rows i hi;⟨pn,c,h1.fw X7.fw (hk.old pn h1.row.k.lt λf=>f)⟩⟩
   have MV:aw (AX AD ab 0) h1 D.P j (D.bl j) cb pn c:=hr.fw X7.fw (qs.old pn hr.row.k.lt λf=>f);refine AK ?_ (c:=ahv L (n:=D.sz+64) q1 ok hn hj MV gV.2.2 ED w1 eF rfl (Am _ _ _));rintro _ h2 ⟨rfl,u1,u2,u3,u4,u5⟩;refine ret X.f238.1 ?_;rw[e0];refine⟨rfl,?_⟩;have VO:(data++extra).length=D.sz+64:=eF;have hby:=ok.EC;have LA:=D.ak7 (data++extra) om;obtain⟨AF,RC,z1,z2⟩:=q.vV (CV:=D.wr j (data++extra)) (p:=D.IE (data++extra)) (ab:=ab) hj hr om (D.aeh _) rfl rfl rfl rfl (k:=Kp.DZ u5 (λi hi e=>by rcases e with e|e|e|e<;>first|exact .inl e|exact .inr (.inl e)|exact .inr (.inr e)|omega) (qs.mono λ_ e=>e.elim)) u1 u2 u3 u4 om;exact⟨AF,⟨ok.vV (CV:=D.wr j (data++extra)) (p:=D.IE (data++extra)) hj om (D.aeh _) (λh8=>by rw[LA h8,VO]) (D.ak6 _) ⟨rfl,rfl,rfl,rfl⟩ hn rfl rfl rfl,_,_,_,z1⟩,z2⟩
 .rw[CW hi];have e0:D.prog i (data++extra)=(D,2):=by unfold Dv.prog;rw[AM];rintro⟨a1,a2,a3⟩;have:=DL ⟨a1,a2⟩;exact hi ⟨⟨a1,a2⟩,om,om⟩
  refine ret X.f238.1 ?_;rw[e0];exact⟨rfl,AD,⟨ok,fm,bb,cb,q⟩,.refl _ _⟩
theorem Axp(h:p:=by
 by_cases s4:((D.bl i).pg j).st=4
 .refine ret X.f125.1 ?_
  exact⟨⟨53,rfl,om,om⟩,AH⟩
 .refine ret X.f125.1 ?_
  exact⟨⟨53,rfl,om,om⟩,AH⟩):p:=h
section
theorem Ip{c:Nat}{bs:List Nat}(k:BS h b o bs)(e:bs.length=n)(h1:0<n/\n<1000):CL L 45 [.AE b o n c] h λv AA=>∃AR,v= .AE AR 0 n (Aa+1)/\BS AA AR 0 bs/\h.n<=AR/\K0 h AA:=by have a1:=k.all;refine Aj L X.f45 λQ x cs G=>?_;refine wk ?_;have f1:BS (hp (h.n+1) h.t [(h.n,some (cl []))]) b o bs:=rR k;refine BO L (z9 (b:=h.n) (o:=0) (sl:=0) (old:=[]) rfl rfl (CG.of (c:=[]) AG W0 rfl) (f1.UT e) h1.1 PI om) ?_;refine ret X.f45.1 ?_;refine⟨h.n+1,by rw[MD];rfl,Ia a1,om,AH⟩
theorem aal{j:Nat}(r:IK AD h d D)(hi:i<D.nb)(hj:j<(D.bl i).nx)(ED:D.off=false)(hs:((D.bl i).pg j).st=2\/((D.bl i).pg j).st=3):CL L 125 [.ptr d 0,AN i,AN j] h λv AA=>∃b1 b2,v= .BM [.AE b1 0 D.sz (Aa+1),.AE b2 0 64 (Aa+1),Zi]/\BS AA b1 0 (((D.bl i).pg j).b.take D.sz)/\BS AA b2 0 (((D.bl i).pg j).b.drop D.sz)/\h.n<=b1/\h.n<=b2/\K0 h AA:=by
 obtain⟨ok,fm,bb,cb,q⟩:=r;have hd:=q.dk;have UH:=q.bk;obtain⟨pn,c,hr⟩:=q.rows i hi;have HB:=(ok.bl i hi).nx;have TM:=(ok.bl i hi).pg j om;have hP:=ok.g.P;have DE:=ok.g.sz;have bY:=hr.row.k;have QM:=hr.c0;have abu:cb[i*3+0]?=some (.AE pn 0 D.P D.P):=QM;have DL:=(hr.row.pg j om).st;obtain⟨ab,dr,KN,oV⟩:=(hr.row.pg j om).full hs;have hl:=TM.full hs;rw[hl]at dr;have l1:=oV.ET;unfold GJ T2 at hd;rw[ED]at hd;refine Bj L X.f125 λQ x cs G=>?_;refine AK ?_ (c:=Eh L (D:={D with off:=false}) hd);rintro _ rfl;refine AK ?_ (c:=Ji L (D:={D with off:=false}) hd);rintro _ rfl;rw[CM (show(0<=(i:Int)/\(i:Int)<D.nb)/\0<=(j:Int)/\(j:Int)<D.P from om)];refine wk ?_;have f1:BS (hp (h.n+1) h.t [(h.n,some (cl [.AE ab 0 (D.sz+64) (Aa+1),.int .i64 ((((D.bl i).pg j).st:Nat):Int)])),(h.n,some (cl [.AS,Zi]))]) ab (0+0) ((((D.bl i).pg j).b.drop 0).take D.sz):=BS.part (k:=by exact EN) om;refine AK ?_ (c:=Ip L f1 (by rw[IS,SW];omega) om);rintro _ h1 ⟨b1,rfl,w1,w2,w3⟩;simp only[Ag]at w2;have n1:=w3.n;simp only[Ag]at n1;refine wk ?_;have f2:BS (hp h1.n h1.t []) ab (0+D.sz) ((((D.bl i).pg j).b.drop D.sz).take 64):=BS.part (k:=by exact EN) om;refine AK ?_ (c:=Ip L f2 (by rw[IS,SW];omega) om);rintro _ h2 ⟨b2,rfl,w4,w5,w6⟩;simp only[Ag]at w5;refine ret X.f125.1 ?_;refine⟨b1,b2,by rw[show D.sz+64- D.sz=64 from om];rfl,?_,?_,om,om,Kp.EA w6 (Kp.EA w3 AH)⟩;.exact w1.k0 w6
 .rwa[LN pt]at w4
