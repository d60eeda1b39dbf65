import Derived.Test.YtgackjbfibdoiaaGreatRows
import Derived.Test.YtgackjbfibdoiaaGreatRFE
import Derived.Test.YtgackjbfibdoiaaGreatH15
import Derived.WalkKit
import Derived.ProofKit
import Derived.OpenShut
import Derived.Below
import Derived.ChangeSame
import Derived.WideKeyArgs
set_option linter.all false
set_option maxRecDepth 1000000
namespace Go.Ev
section
open Go.ChangeShapes
variable {H1:Type}{enc:TypeId×Value->H1}{P:Program}{E:Env}{W:World}{held:Bool}
theorem ahm{F:T DY}(hT:PA P E F){Q:Nat->AV->Prop}{f:Nat}{args:List AV}{g:DY}{h0:H}{AC:BF}(tO:T.get F f=some g)(hn:Nat.ble args.length g.ntmps=true)(hg:Good P E Q ⟨⟨f,g.ntmps,JI 0 .leaf args,[.code g.body],[],.run,false,none⟩,[],h0⟩){GP:Array Value}(ha:CQ AC args GP.toList)(w:World)(hr:HR E w.heap AC h0 w.heap){R:Ending->World->Prop}(hQ:∀fn v h AC AQ (AY:World),Q fn v->VR AC v AQ->HW E w AC h AY->fn=f/\R (.returned AQ) AY):Calls P f GP w R:=by intro cs;have hA:At E w cs ⟨⟨f,g.ntmps,JI 0 .leaf args,[.code g.body],[],.run,false,Option.none⟩,[],h0⟩ (lone (Frame.enter P f GP .normal) cs w):=⟨AC,_,[],w,rfl,Ry (AL:=false) hT tO ha (Al hn),.nil,⟨hr,.refl _⟩⟩;obtain⟨fn,v,h,fr,AY,BU,AQ,q,s1,s2,s3,s4,s5⟩:=hg _ _ _ hA;obtain⟨e,hR⟩:=hQ fn v h BU AQ AY q s4 s5;exact⟨.returned AQ,AY,fr,hR,s1,by rw[s2,e],s3⟩
theorem abo{t:TypeId}(u3:P.underlying 3=some (.int .i64))(c3:P.cellsOf 3=1)(c:P.cellsOf t=4)(hu:∃fs,P.underlying t=some (.struct fs)/\fs.map (λf=>(f.type,f.offset))= #[(3,0),(3,1),(3,2),(3,3)]){n0:Nat}{cs:List Value}{x:DataW H1×List MemPlace}{sp:Nat->Bool}(h:DataW.trod enc P W 0 sp held n0 t cs=some x):∃g0 g1 g2 g3:Int,cs=[.int .i64 g0,.int .i64 g1,.int .i64 g2,.int .i64 g3]:=by
 obtain⟨hl,n,hf⟩:=wF hu h;rw[c]at hl;obtain⟨z0,h0⟩:=hf 0 3 0 rfl;obtain⟨z1,h1⟩:=hf 1 3 1 rfl;obtain⟨z2,h2⟩:=hf 2 3 2 rfl;obtain⟨z3,h3⟩:=hf 3 3 3 rfl;obtain⟨v0,a0,-⟩:=Hi u3 c3 h0;obtain⟨v1,a1,-⟩:=Hi u3 c3 h1;obtain⟨v2,a2,-⟩:=Hi u3 c3 h2;obtain⟨v3,a3,-⟩:=Hi u3 c3 h3;refine⟨v0,v1,v2,v3,List.ext_getElem? λi=>?_⟩;rcases i with _|_|_|_|i;.exact a0
 .exact a1
 .exact a2
 .exact a3
 .rw[List.getElem?_eq_none om];rfl
theorem vX{t e:TypeId}{r:Reach}{base:Nat}{v:Value}(ht:P.underlying t=some (.slice e))(h:Value.okWide P W r base t v):v.cells.toList=[v]/\∀a,v= .slice (some a) 0 0->a.spot=none/\∃cs e fr,W.heap[a.block]?=some (.cells cs e fr):=by
 simp only[Value.okWide,ht,Cell.okWide,Cell.ok]at h
 cases v<;>(try simp only[]at h)<;>first|(exact h.elim)|skip
 rename_i apd len cap;refine⟨rfl,λa e0=>?_⟩
 cases e0;obtain⟨-,-,h3⟩:=h;obtain⟨-,h4,row,cells,h5,-⟩:=h3;refine⟨h4,?_⟩;unfold World.shape? at h5;split at h5;.rename_i c el fr hb;exact⟨_,_,_,hb⟩
 .cases h5
end
end Go.Ev
namespace Go.Proofs.YtgackjbfibdoiaaGreat.ftlHolds
open Go.ChangeShapes Go.WideShapes Go.ChangeAt Go.RowKit Go.Ev Go.Proofs.YtgackjbfibdoiaaGreat.evRun
theorem own:ownKnob Tryz.prog.godebug=none:=by kernel_rfl
theorem laid:laidOutB Tryz.prog=true:=by kernel_rfl
open Go.Sort Go.Shelf
def al3:Ren where
 f:=λx=>match x with
  |189=>208|125=>247|257=>246|128=>280|129=>281|294=>271|295=>272|296=>273|297=>274|298=>275|299=>276|216=>277|300=>278|301=>279|328=>298|329=>299|330=>300|331=>301|332=>302|215=>290|343=>313
  |n=>n
 t:=λx=>match x with
  |28=>26|3=>3|46=>324|0=>0|51=>315|53=>139|4=>4|183=>345|182=>344|131=>150|5=>5|9=>9|218=>365|222=>265|228=>380|229=>61
  |n=>n
 g:=λn=>n
theorem adh:Lays.n189 Tryz.prog al3:=by constructor<;>first|kernel_rfl|(intro w;rfl)
instance xx:Fx FF KW:=by constructor<;>exact⟨by kernel_rfl,by kernel_rfl⟩
theorem lg:Lg Tryz.prog EE FF KW:=⟨hE,hT,hW⟩
theorem amw:qk= .agg Go.Ev.Yn:=by kernel_rfl
theorem aj3:cD KW 308 [.fn (.func 309) [] []]=some qk:=by kernel_rfl
theorem aj4:cD KW 10 []=some (.bool true):=by kernel_rfl
theorem isT:(T.get FF 308).isSome=true:=by kernel_rfl
theorem srt:Yz Tryz.prog EE FF 208:=⟨Option.isSome_iff_exists.1 (by kernel_rfl),λh b zs k h1 h2=>Ak3 (Any.slices_Sort_int adh) k h1 h2,λh=>Aft (Any.slices_Sort_int_none adh)⟩
theorem isW:(T.get FF 10).isSome=true:=by kernel_rfl
theorem tb:Tb Tryz.prog EE FF KW:=⟨λh=>by
 obtain⟨g,hg⟩:=Option.isSome_iff_exists.1 isT
 have:=acr (P:=Tryz.prog) (E:=EE) hg aj3 h
 rw[amw]at this
 exact this⟩
theorem wk:gA Tryz.prog EE FF KW:=⟨λh=>by
 obtain⟨g,hg⟩:=Option.isSome_iff_exists.1 isW
 exact acr hg aj4 h⟩
theorem walk{W:World}{g0 g1 g2 g3 c0 c1 c2 c3 a:Int}{v2 v3 v4:Value}{h0:H}{AC:BF}{a2 a3 a4:AV}{fl:List Int}{bl al:List FA}(iD:VR AC a2 v2)(iE:VR AC a3 v3)(uK:VR AC a4 v4)(hr:HR EE W.heap AC h0 W.heap)(qf:OI (λ_=>0) h0 a2 fl)(qb:RX (λ_=>0) h0 a3 bl)(qa:RX (λ_=>0) h0 a4 al):Calls Tryz.prog 3 #[.agg #[.int .i64 g0,.int .i64 g1,.int .i64 g2,.int .i64 g3],.agg #[.int .i64 c0,.int .i64 c1,.int .i64 c2,.int .i64 c3],v2,v3,v4,.int .i64 a] W λe ry=>e= .returned (.bool true)/\Below W.heap.size W ry:=by refine ahm (args:=[.agg (Lx g0 g1 g2 g3),.agg (Lx c0 c1 c2 c3),a2,a3,a4,.int .i64 a]) (h0:=h0) (AC:=AC) hT xx.f3.1 rfl (Aha (AD:=λ_=>0) (h:=h0) (g0:=g0) (g1:=g1) (g2:=g2) (g3:=g3) (c0:=c0) (c1:=c1) (c2:=c2) (c3:=c3) (a:=a) (fv:=a2) (bv:=a3) (av:=a4) (fl:=fl) (bl:=bl) (al:=al) lg (X:=xx) (aq4:=tb) (U:=srt) wk qf qb qa) (.cons (.agg (.cons (.int _ _) (.cons (.int _ _) (.cons (.int _ _) (.cons (.int _ _) .nil))))) (.cons (.agg (.cons (.int _ _) (.cons (.int _ _) (.cons (.int _ _) (.cons (.int _ _) .nil))))) (.cons iD (.cons iE (.cons uK (.cons (.int _ _) .nil)))))) W hr λfn v h BU AQ AY q dy hw=>?_;obtain⟨rfl,rfl⟩:=q;have:=dy.YF;subst this;exact⟨rfl,rfl,⟨hw.YZ.os,hw.YZ.tape,hw.YZ.output,hw.hr.size,λk hk=>hw.hr.old k hk⟩⟩
theorem ty:jx Tryz.prog where
 u3:=Tryz.underlying3
 c3:=by kernel_rfl
 u5:=Tryz.underlying5
 c5:=by kernel_rfl
 u26:=Tryz.underlying26
 c26:=by kernel_rfl
 u27:=Tryz.underlying27
 u47:=⟨_,Tryz.underlying47,by kernel_rfl⟩
 sA:=by kernel_rfl
theorem lifted(os:Os)(started:os.Started)(H1:Type)(enc:TypeId×Value->H1):ReturnsInHanded {} Tryz.checked os 3 .any (Rows.ftlHoldsSpec.pre6 enc Tryz.prog Tryz.f3 Rows.ftlHoldsRow.domain false) (Rows.ftlHoldsSpec.post enc Tryz.prog Tryz.f3 false true false false):=by
 refine returnsInHanded_of_change (C:=Tryz.checked) own started (by kernel_rfl) Tryz.func3 (ChangeSpec.witness6 (enc:=enc) (C:=Tryz.checked) false ⟨#[],#[.agg #[.int .i64 0,.int .i64 0,.int .i64 0,.int .i64 0],.agg #[.int .i64 0,.int .i64 0,.int .i64 0,.int .i64 0],.slice none 0 0,.slice none 0 0,.slice none 0 0,.int .i64 0],[]⟩ 8 (by kernel_rfl) (by kernel_rfl) (by kernel_rfl) (by kernel_rfl)) ?_;intro W base args ds gs before ace hW apt _;have aK:∀(j:Nat) t v,Tryz.f3.params[j]?=some t->args[j]?=some v->Value.okWide Tryz.prog W .any base t v:=ace;have hW':=hW;obtain⟨p,q,hA0,hV,rfl,hfz,HA⟩:=hW;have hA:DataW.TrodAll enc Tryz.prog W 0 (λ_=>true) true Tryz.f3.params.toList args.toList ds p:=hA0;rw[Tryz.params3]at hA aK;obtain⟨v0,vs0,d0,ds0,p0,q0,oX,rfl,rfl,h0,r0⟩:=trodAll_cons hA;obtain⟨v1,vs1,d1,ds1,p1,q1,rfl,rfl,rfl,h1,r1⟩:=trodAll_cons r0;obtain⟨v2,vs2,d2,ds2,p2,q2,rfl,rfl,rfl,h2,r2⟩:=trodAll_cons r1;obtain⟨v3,vs3,d3,ds3,p3,q3,rfl,rfl,rfl,h3,r3⟩:=trodAll_cons r2;obtain⟨v4,vs4,d4,ds4,p4,q4,rfl,rfl,rfl,h4,r4⟩:=trodAll_cons r3;obtain⟨v5,vs5,d5,ds5,p5,q5,rfl,rfl,rfl,h5,r5⟩:=trodAll_cons r4;obtain⟨rfl,rfl,rfl⟩:=trodAll_nil r5;obtain rfl:args= #[v0,v1,v2,v3,v4,v5]:=by cases args;simp_all
 obtain⟨rfl,rfl⟩:=trodVars_none hV;have uJ:=aK 0 23 v0 rfl rfl;have hv1:=aK 1 25 v1 rfl rfl;have iD:=aK 2 26 v2 rfl rfl;have iE:=aK 3 27 v3 rfl rfl;have uK:=aK 4 27 v4 rfl rfl;have k0:=h0;have k1:=h1;have k2:=h2;have k3:=h3;have k4:=h4;obtain⟨a5,rfl,rfl,rfl,w5⟩:=open_int Tryz.underlying3 (aK 5 3 v5 rfl rfl) h5;clear hA0 ace;obtain⟨n0,t0⟩:=h0;obtain⟨n1,t1⟩:=h1;obtain⟨n2,t2⟩:=h2;obtain⟨n3,t3⟩:=h3;obtain⟨n4,t4⟩:=h4;simp only[Value.okWide,Tryz.underlying23]at uJ;simp only[Value.okWide,Tryz.underlying25]at hv1;obtain⟨c0,rfl,-,-⟩:=uJ;obtain⟨c1,rfl,-,-⟩:=hv1;obtain⟨g0,g1,g2,g3,QM⟩:=abo Tryz.underlying3 ty.c3 (by kernel_rfl) ⟨_,Tryz.underlying23,by kernel_rfl⟩ t0;obtain⟨e0,e1,e2,e3,KD⟩:=abo Tryz.underlying3 ty.c3 (by kernel_rfl) ⟨_,Tryz.underlying25,by kernel_rfl⟩ t1;have QM:c0.toList=[.int .i64 g0,.int .i64 g1,.int .i64 g2,.int .i64 g3]:=QM;have KD:c1.toList=[.int .i64 e0,.int .i64 e1,.int .i64 e2,.int .i64 e3]:=KD;obtain rfl:c0= #[.int .i64 g0,.int .i64 g1,.int .i64 g2,.int .i64 g3]:=by rw[<-Array.toList_inj];exact QM
 obtain rfl:c1= #[.int .i64 e0,.int .i64 e1,.int .i64 e2,.int .i64 e3]:=by rw[<-Array.toList_inj];exact KD
 rw[(vX Tryz.underlying26 iD).1]at t2;rw[(vX Tryz.underlying27 iE).1]at t3;rw[(vX Tryz.underlying27 uK).1]at t4;obtain⟨hh,AC,b2,b3,b4,fl,bl,al,s1,s2,s3,s4,s5,s6,s7⟩:=Ac8 (E:=EE) ty t2 t3 t4;refine(walk s1 s2 s3 s4 s5 s6 s7).mono λe ry ⟨he,hg⟩=>?_;subst he;have BX:∀x∈p0++(p1++(p2++(p3++(p4++([]++[])))))++[],x.block<W.heap.size:=λx hx=>hW'.lt x hx;have key:∀p:List MemPlace,(∀x∈p,x∈p0++(p1++(p2++(p3++(p4++([]++[])))))++[])->(∀x∈p,W.sameAt ry x)/\∀x∈p,(λb=>decide (b<W.heap.size)) x.block=true:=λp h=>⟨λx hx=>hg.same (BX x (h x hx)),λx hx=>by simpa using BX x (h x hx)⟩;have m0:=key p0 λx hx=>by simp[hx]
 have m1:=key p1 λx hx=>by simp[hx]
 have m2:=key p2 λx hx=>by simp[hx]
 have m3:=key p3 λx hx=>by simp[hx]
 have m4:=key p4 λx hx=>by simp[hx]
 refine⟨_,rfl,_,[],_,[],p0++(p1++(p2++(p3++(p4++([]++[]))))),[],hW',trodAll_cons_mk (shut_bool Tryz.underlying4 _) trodAll_mk0,?_,rfl,hg.frame _,λq=>by cases q⟩;exact⟨p0,p1++(p2++(p3++(p4++([]++[])))),WideElems.Trod_stays laid (by kernel_rfl) (of_decide_eq_true (by kernel_rfl)) k0 m0.1 m0.2,⟨p1,p2++(p3++(p4++([]++[]))),WideElems.Trod_stays laid (by kernel_rfl) (of_decide_eq_true (by kernel_rfl)) k1 m1.1 m1.2,⟨p2,p3++(p4++([]++[])),WideElems.Trod_stays laid (by kernel_rfl) (of_decide_eq_true (by kernel_rfl)) k2 m2.1 m2.2,⟨p3,p4++([]++[]),WideElems.Trod_stays laid (by kernel_rfl) (of_decide_eq_true (by kernel_rfl)) k3 m3.1 m3.2,⟨p4,[]++[],WideElems.Trod_stays laid (by kernel_rfl) (of_decide_eq_true (by kernel_rfl)) k4 m4.1 m4.2,⟨[],[],shut_int Tryz.underlying3 w5,rfl,rfl⟩,rfl⟩,rfl⟩,rfl⟩,rfl⟩,rfl⟩
