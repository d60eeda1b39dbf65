/-
  For every geometry, every number of sectors, every list of faults and every list of calls, RecoveryHolds returns true and leaves its arguments alone.
  Its conditions: none beyond the row's own. The layer's examples (works) are run by the abstract machine; the law's own road is walked for all inputs by a logic over that machine.
-/
import Derived.Test.YtclfgfpebplncaaGreatRows
import Derived.Test.YtclfgfpebplncaaGreatRHE
import Derived.Test.YtclfgfpebplncaaGreatH13
import Derived.WalkKit
import Derived.ProofKit
import Derived.OpenShut
import Derived.Below
import Derived.ChangeSame
import Derived.WideKeyArgs
set_option linter.unusedVariables false
set_option maxRecDepth 1000000
namespace Go.Ev
section
open Go.ChangeShapes
variable {H1:Type}{enc:TypeId×Value→H1}{P:Program}{E:Env}{W:World}{held:Bool}
theorem calls_from {F:T CFn}(hT:TabOk P E F){Q:Nat→AV→Prop}{f:Nat}{args:List AV}{g:CFn}{h0:H}{φ: Phi}(hgf:T.get F f=some g)(hn:Nat.ble args.length g.ntmps=true)(hg:Good P E Q ⟨⟨f,g.ntmps,ofL 0 .leaf args,[.code g.body],[],.run,false,none⟩,[],h0⟩) {args':Array Value} (ha:VRs φ args args'.toList) (w:World) (hr:HR E w.heap φ h0 w.heap) {R:Ending→World→Prop} (hQ: ∀fn v h φ v' (w':World),Q fn v→VR φ v v'→HW E w φ h w'→fn=f∧R (.returned v') w'):Calls P f args' w R:=by intro cs;have hA:At E w cs ⟨⟨f,g.ntmps,ofL 0 .leaf args,[.code g.body],[],.run,false,Option.none⟩,[],h0⟩ (lone (Frame.enter P f args' .normal) cs w):= ⟨φ,_,[],w,rfl,Q0 (dfd:=false) hT hgf ha (Ak hn),.nil,⟨hr,.refl _⟩⟩;obtain⟨fn,v,h,fr,w',φ',v',q,s1,s2,s3,s4,s5⟩:=hg _ _ _ hA;obtain⟨e,hR⟩:=hQ fn v h φ' v' w' q s4 s5;exact⟨.returned v',w',fr,hR,s1,by rw [s2,e],s3⟩
theorem geo_open (u3:P.underlying 3=some (.int .i64))(c3:P.cellsOf 3=1)(c:P.cellsOf 23=4)(hu: ∃fs,P.underlying 23=some (.struct fs)∧fs.map (fun f=>(f.type,f.offset))= #[(3,0),(3,1),(3,2),(3,3)]){n0:Nat}{cs:List Value}{x:DataW H1×List MemPlace}{sp:Nat→Bool} (h:DataW.trod enc P W 0 sp held n0 23 cs=some x): ∃g0 g1 g2 g3:Int,cs= [.int .i64 g0,.int .i64 g1,.int .i64 g2,.int .i64 g3]:=by
 obtain⟨hl,n,hf⟩:=yc hu h;rw [c]at hl;obtain⟨z0,h0⟩:=hf 0 3 0 rfl;obtain⟨z1,h1⟩:=hf 1 3 1 rfl;obtain⟨z2,h2⟩:=hf 2 3 2 rfl;obtain⟨z3,h3⟩:=hf 3 3 3 rfl;obtain⟨v0,a0,-⟩:=J6 u3 c3 h0;obtain⟨v1,a1,-⟩:=J6 u3 c3 h1;obtain⟨v2,a2,-⟩:=J6 u3 c3 h2;obtain⟨v3,a3,-⟩:=J6 u3 c3 h3;refine⟨v0,v1,v2,v3,List.ext_getElem? fun i=>?_⟩;rcases i with _|_|_|_|i;·exact a0
 ·exact a1
 ·exact a2
 ·exact a3
 ·rw [List.getElem?_eq_none (by omega)];rfl
theorem slice_form {t e:TypeId}{r:Reach}{base:Nat}{v:Value}(ht:P.underlying t=some (.slice e))(h:Value.okWide P W r base t v):v.cells.toList= [v]∧ ∀a,v= .slice (some a) 0 0→a.spot=none∧ ∃cs e fr,W.heap[a.block]?=some (.cells cs e fr):=by
 simp only [Value.okWide,ht,Cell.okWide,Cell.ok]at h
 cases v <;> (try simp only []at h) <;> first|(exact h.elim)|skip
 rename_i ad len cap;refine⟨rfl,fun a e0=>?_⟩
 cases e0;obtain⟨-,-,h3⟩:=h;obtain⟨-,h4,row,cells,h5,-⟩:=h3;refine⟨h4,?_⟩;unfold World.shape? at h5;split at h5;·rename_i c el fr hb;exact⟨_,_,_,hb⟩
 ·cases h5
end
end Go.Ev
namespace Go.Proofs.YtclfgfpebplncaaGreat.recoveryHolds
open Go.ChangeShapes Go.WideShapes Go.ChangeAt Go.RowKit Go.Ev Go.Proofs.YtclfgfpebplncaaGreat.evRun
theorem own:ownKnob Tryz.prog.godebug=none:=by kernel_rfl
theorem laid:laidOutB Tryz.prog=true:=by kernel_rfl
open Go.Sort Go.Shelf
def renS:Ren where
 f:=fun x=>match x with
  |189=>171|125=>207|257=>206|128=>235|129=>236|294=>226|295=>227|296=>228|297=>229|298=>230|299=>231|216=>232|300=>233|301=>234|328=>244|329=>245|330=>246|331=>247|332=>248|215=>249|343=>259
  |n=>n
 t:=fun x=>match x with
  |28=>28|3=>3|46=>179|0=>0|51=>218|53=>42|4=>4|183=>329|182=>328|131=>181|5=>5|9=>9|218=>345|222=>253|228=>360|229=>361
  |n=>n
 g:=fun n=>n
theorem laysS:Lays.n189 Tryz.prog renS:=by constructor <;> first|kernel_rfl|(intro w;rfl)
theorem xx:Fx FF KW:=by constructor <;> exact⟨by kernel_rfl,by kernel_rfl⟩
theorem lg:Lg Tryz.prog EE FF KW:=⟨hE,hT,hW⟩
theorem tabEq:tabV= .agg Go.Ev.tabA:=by kernel_rfl
theorem memT:memo KW 254 [.fn (.func 255) [] []]=some tabV:=by kernel_rfl
theorem memW:memo KW 7 []=some (.bool true):=by kernel_rfl
theorem isT:(T.get FF 254).isSome=true:=by kernel_rfl
theorem srt:SortOk Tryz.prog EE FF 171:= ⟨Option.isSome_iff_exists.1 (by kernel_rfl),fun h b zs k h1 h2=>Agm (Any.slices_Sort_int laysS) k h1 h2,fun h=>Aa7 (Any.slices_Sort_int_none laysS)⟩
theorem isW:(T.get FF 7).isSome=true:=by kernel_rfl
theorem tb:Tb Tryz.prog EE FF KW:=⟨fun h=>by
 obtain⟨g,hg⟩:=Option.isSome_iff_exists.1 isT
 have:=be (P:=Tryz.prog) (E:=EE) hg memT h
 rw [tabEq]at this
 exact this⟩
theorem wk:Wk Tryz.prog EE FF KW:=⟨fun h=>by
 obtain⟨g,hg⟩:=Option.isSome_iff_exists.1 isW
 exact be hg memW h⟩
theorem walk {W:World}{g0 g1 g2 g3 S:Int}{v2 v3:Value}{h0:H}{φ: Phi}{a2 a3:AV}{fl:List Int}{al:List Go.Ev.Act}(hv2:VR φ a2 v2)(hv3:VR φ a3 v3)(hr:HR EE W.heap φ h0 W.heap)(qf:IntsR (fun _=>0) h0 a2 fl)(ql:AcR (fun _=>0) h0 a3 al): Calls Tryz.prog 5 #[.agg #[.int .i64 g0,.int .i64 g1,.int .i64 g2,.int .i64 g3],.int .i64 S,v2,v3] W fun e W'=>e= .returned (.bool true)∧Below W.heap.size W W':=by refine calls_from (args:= [.agg (Abv g0 g1 g2 g3),.int .i64 S,a2,a3]) (h0:=h0) (φ:= φ) hT xx.f5.1 rfl (nr (κ:= fun _=>0) (h:=h0) (g0:=g0) (g1:=g1) (g2:=g2) (g3:=g3) (S:=S) (fv:=a2) (lv:=a3) (fl:=fl) (al:=al) lg xx tb srt wk qf ql) (.cons (.agg (.cons (.int _ _) (.cons (.int _ _) (.cons (.int _ _) (.cons (.int _ _) .nil))))) (.cons (.int _ _) (.cons hv2 (.cons hv3 .nil)))) W hr fun fn v h φ' v' w' q hv' hw=>?_;obtain⟨rfl,rfl⟩:=q;have:=hv'.bool_inv;subst this;exact⟨rfl,rfl,⟨hw.like.os,hw.like.tape,hw.like.output,hw.hr.size,fun k hk=>hw.hr.old k hk⟩⟩
theorem ty:TyA Tryz.prog where
 u3:=Tryz.underlying3
 c3:=by kernel_rfl
 u28:=Tryz.underlying28
 c28:=by kernel_rfl
 u67:=Tryz.underlying67
 u79:=⟨_,Tryz.underlying79,by kernel_rfl⟩
 c79:=by kernel_rfl
theorem lifted (os:Os)(started:os.Started)(H1:Type)(enc:TypeId×Value→H1): ReturnsInHanded {} Tryz.checked os 5 .any (Rows.recoveryHoldsSpec.pre6 enc Tryz.prog Tryz.f5 Rows.recoveryHoldsRow.domain false) (Rows.recoveryHoldsSpec.post enc Tryz.prog Tryz.f5 false true false false):=by
 refine returnsInHanded_of_change (C:=Tryz.checked) own started (by kernel_rfl) Tryz.func5 (ChangeSpec.witness6 (enc:=enc) (C:=Tryz.checked) false ⟨#[],#[.agg #[.int .i64 0,.int .i64 0,.int .i64 0,.int .i64 0],.int .i64 0,.slice none 0 0,.slice none 0 0],[]⟩ 8 (by kernel_rfl) (by kernel_rfl) (by kernel_rfl) (by kernel_rfl)) ?_;intro W base args ds gs before hval0 hW hcnd _;have hval: ∀(j:Nat) t v,Tryz.f5.params[j]?=some t→args[j]?=some v→Value.okWide Tryz.prog W .any base t v:=hval0;have hW':=hW;obtain⟨p,q,hA0,hV,rfl,hfz,hnd⟩:=hW;have hA:DataW.TrodAll enc Tryz.prog W 0 (fun _=>true) true Tryz.f5.params.toList args.toList ds p:=hA0;rw [Tryz.params5]at hA hval;obtain⟨v0,vs0,d0,ds0,p0,q0,hargs,rfl,rfl,h0,r0⟩:=trodAll_cons hA;obtain⟨v1,vs1,d1,ds1,p1,q1,rfl,rfl,rfl,h1,r1⟩:=trodAll_cons r0;obtain⟨v2,vs2,d2,ds2,p2,q2,rfl,rfl,rfl,h2,r2⟩:=trodAll_cons r1;obtain⟨v3,vs3,d3,ds3,p3,q3,rfl,rfl,rfl,h3,r3⟩:=trodAll_cons r2;obtain⟨rfl,rfl,rfl⟩:=trodAll_nil r3;obtain rfl:args= #[v0,v1,v2,v3]:=by cases args;simp_all
 obtain⟨rfl,rfl⟩:=trodVars_none hV;have hv0:=hval 0 23 v0 rfl rfl;have hv2:=hval 2 28 v2 rfl rfl;have hv3:=hval 3 67 v3 rfl rfl;have k0:=h0;have k2:=h2;have k3:=h3;obtain⟨a1,rfl,rfl,rfl,w1⟩:=open_int Tryz.underlying3 (hval 1 3 v1 rfl rfl) h1;clear hA0 hval0;obtain⟨n0,t0⟩:=h0;obtain⟨n2,t2⟩:=h2;obtain⟨n3,t3⟩:=h3;simp only [Value.okWide,Tryz.underlying23]at hv0;obtain⟨c0,rfl,-,-⟩:=hv0;obtain⟨g0,g1,g2,g3,hc0⟩:=geo_open Tryz.underlying3 ty.c3 (by kernel_rfl) ⟨_,Tryz.underlying23,by kernel_rfl⟩ t0;have hc0:c0.toList= [.int .i64 g0,.int .i64 g1,.int .i64 g2,.int .i64 g3]:=hc0;obtain rfl:c0= #[.int .i64 g0,.int .i64 g1,.int .i64 g2,.int .i64 g3]:=by rw [←Array.toList_inj];exact hc0
 rw [(slice_form Tryz.underlying28 hv2).1]at t2;rw [(slice_form Tryz.underlying67 hv3).1]at t3;obtain⟨hh,φ,b2,b3,fl,al,s1,s2,s3,s4,s5⟩:=Z6 (E:=EE) ty t2 t3;refine(walk s1 s2 s3 s4 s5).mono fun e W' ⟨he,hg⟩=>?_;subst he;have hlt: ∀x∈p0++([]++(p2++(p3++ [])))++ [],x.block<W.heap.size:=fun x hx=>hW'.lt x hx;have same0: ∀x∈p0,W.sameAt W' x:=fun x hx=>hg.same (hlt x (by simp [hx]));have same2: ∀x∈p2,W.sameAt W' x:=fun x hx=>hg.same (hlt x (by simp [hx]));have same3: ∀x∈p3,W.sameAt W' x:=fun x hx=>hg.same (hlt x (by simp [hx]));have in0: ∀x∈p0,(fun b=>decide (b<W.heap.size)) x.block=true:=fun x hx=>by simpa using hlt x (by simp [hx])
 have in2: ∀x∈p2,(fun b=>decide (b<W.heap.size)) x.block=true:=fun x hx=>by simpa using hlt x (by simp [hx])
 have in3: ∀x∈p3,(fun b=>decide (b<W.heap.size)) x.block=true:=fun x hx=>by simpa using hlt x (by simp [hx])
 refine⟨_,rfl,_,[],_,[],p0++([]++(p2++(p3++ []))),[],hW',trodAll_cons_mk (shut_bool Tryz.underlying4 _) trodAll_mk0,?_,rfl,hg.frame _,fun q=>by cases q⟩;exact⟨p0,[]++(p2++(p3++ [])),WideElems.Trod_stays laid (by kernel_rfl) (of_decide_eq_true (by kernel_rfl)) k0 same0 in0, ⟨[],p2++(p3++ []),shut_int Tryz.underlying3 w1, ⟨p2,p3++ [],WideElems.Trod_stays laid (by kernel_rfl) (of_decide_eq_true (by kernel_rfl)) k2 same2 in2, ⟨p3,[],WideElems.Trod_stays laid (by kernel_rfl) (of_decide_eq_true (by kernel_rfl)) k3 same3 in3,rfl,rfl⟩,rfl⟩,rfl⟩,rfl⟩
theorem over:Rows.recoveryHoldsRow.holds Tryz.pinned (OpenSpec.ofChange Rows.recoveryHoldsSpec):= OpenClaim.holds_of_wide 5 Tryz.f5 rfl rfl rfl rfl rfl rfl rfl ⟨rfl,rfl,rfl,rfl,rfl⟩ rfl rfl rfl rfl rfl (by kernel_rfl) Tryz.func5 (by kernel_rfl) (of_decide_eq_true (by kernel_rfl)) (by unfold Func.isWrapper;first|(rw [if_pos (by decide +kernel)];kernel_rfl)|(rw [if_neg (by decide +kernel)];exact⟨rfl,rfl⟩)) (fun os started H enc _=>lifted os started H enc)
theorem proved:Rows.RecoveryHoldsSaid:= over
#print axioms proved
