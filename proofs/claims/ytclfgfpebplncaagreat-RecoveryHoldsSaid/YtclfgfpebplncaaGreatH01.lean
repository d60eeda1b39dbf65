/- Part of the proof. -/
import Derived.Test.YtclfgfpebplncaaGreatH00
import Derived.Orders
import Derived.AtR
import Derived.Defers
import Derived.RangeFuncIn
import Derived.Below
import Derived.RangeFuncLeaves
import Derived.Test.YtclfgfpebplncaaGreatProg
set_option linter.unusedVariables false
set_option linter.unusedSimpArgs false
set_option linter.unusedSectionVars false
set_option maxRecDepth 1000000
namespace Go.Ev
variable {P:Program}{a n r s since:Nat}{args z:List AV}{c:COp}{e t:TypeId}{f:AFn}{h h':H}{it x:Operand}{l:Loc}{m:Option Nat}{o:Oper}{seen:List Nat}{tm:T AV}{v:AV}{w:World}{w0:Array Obj}{ρ:Operand→Value}{φ:Phi}
section
variable {E:Env}
theorem ac {since:Nat}{seen:List Nat}: ∀{es:List AEnt} {es':List MapEntry} {l:List AEnt},Ol since seen es=some l→ERs φ es es'→ ERs φ l (es'.filter fun e=>!seen.contains e.born)∧(∀e∈l,e.born<since)
 | [],es',l,h,hes=>by cases hes;simp only [Ol,Option.some.injEq]at h;subst h;exact⟨.nil,by simp⟩
 |a::es,es',l,h,hes=>by
  cases hes with
  | @cons _ a' _ es' ha hes=>
   simp only [Ol]at h;split at h;·cases h
   ·rename_i l1 h1;obtain⟨g1,g2⟩:=ac h1 hes;split at h;·rename_i hm;simp only [Option.some.injEq]at h;subst h;have hc:(!seen.contains a'.born)=false:=(by rw [←ha.born];simp;exact(Hq _ _).1 hm);rw [List.filter_cons,hc];exact⟨g1,g2⟩
    ·rename_i hm;split at h
     ·rename_i hlt;simp only [Option.some.injEq]at h;subst h;have hc:(!seen.contains a'.born)=true:=(by rw [←ha.born];simp;intro hin;rw [(Hq _ _).2 hin]at hm;cases hm);rw [List.filter_cons,hc];refine⟨.cons ha g1,fun e he=>?_⟩;rcases List.mem_cons.1 he with rfl|he;·exact Ak hlt
      ·exact g2 e he
     ·cases h
theorem ERs.mem {l:List AEnt}{l':List MapEntry}(h:ERs φ l l'): ∀e'∈l',∃e∈l,ER φ e e':=by
 induction h with
 |nil=>simp
 |cons he _ ih=>
  intro x hx;rcases List.mem_cons.1 hx with rfl|hx;·exact⟨_,List.mem_cons_self ..,he⟩
  ·obtain⟨e,h1,h2⟩:=ih x hx;exact⟨e,List.mem_cons_of_mem _ h1,h2⟩
theorem fz {stepped:Nat}{es:List AEnt}{es':Array MapEntry}(h:J8 stepped seen es=true)(hes:ERs φ es es'.toList): (!seen.toArray.isEmpty && !es'.isEmpty && es'.all (·.born ≥ stepped))=false:=by
 unfold J8 at h
 cases seen with
 |nil=>simp
 |cons s seen=>
  cases es with
  |nil=>have:=hes.length;have:es'= #[]:=Array.eq_empty_of_size_eq_zero (by simpa using this.symm);subst this;simp
  |cons e es=>simp only at h;rw [List.any_eq_true]at h;obtain⟨x,h1,h2⟩:=h;have h2:=Ak h2;obtain⟨i,hi⟩:=List.getElem?_of_mem h1;obtain⟨x',q1,q2⟩:=hes.get hi;have hall:es'.all (·.born ≥ stepped)=false:=(by rw [←Array.all_toList,List.all_eq_false];exact⟨x',List.mem_of_getElem? q1,by rw [←q2.born];simp;omega⟩);rw [hall];simp
variable (hr:HR E w0 φ h w.heap)(hρ: RhoR φ tm ρ)
include hr hρ
theorem Yj (hE:EnvOk P E){a b:TypeId}(hu:und E t=some (.map a b))(ho:o.op= .range t x)(hx:exec (.rangeM (opd x)) h tm= .val v h'):Sim1 E w0 φ w h ((execOp ρ o).run P w) v h':=by
 simp only [exec]at hx
 have new: ∀(m m':Option Nat) (c:Nat),OptR φ m m'→(execOp ρ o).run P w= .ok (.value (.pointer (some ⟨w.heap.size,0,none⟩))) (w.alloc (.mapIter m' c #[] c))→
   Sim1 E w0 φ w h ((execOp ρ o).run P w) (.ptr h.n 0) (H.new h (.miter m c [] c)):=by
  intro m m' c hm e
  have hle:Phi.le φ (φ.upd h.n ⟨w.heap.size,0,0⟩):=Phi.le_upd _ hr.fresh
  refine⟨_,_,_,⟨hle,fun _ hb=>Phi.upd_ne _ _ hb⟩,.inl e,.ptr (Phi.upd_same _ _ _),?_,⟨rfl,rfl,rfl⟩⟩
  exact hr.new rfl (.miter rfl (hm.mono hle)) rfl
 split at hx;·rename_i hb;have ea:=VR.nilm_inv (hb ▸ hρ x);simp only [Ev.R.val.injEq]at hx;obtain⟨rfl,rfl⟩:=hx;exact new none none 0 .none (by simp [execOp,ho,Instr.range,Ad hE hu,ea])
 ·rename_i m hb;obtain⟨l,hφ,ea⟩:=VR.map_inv (hb ▸ hρ x);split at hx;·rename_i es c hg;obtain⟨es',h1,h2⟩:=HR.map_at hr hφ hg;simp only [Ev.R.val.injEq]at hx;obtain⟨rfl,rfl⟩:=hx;exact new (some m) (some l.cb) c (.some hφ) (by simp [execOp,ho,Instr.range,Ad hE hu,ea,Ci h1])
  ·cases hx
 ·cases hx
omit hρ in
theorem HR.iter_at {st:Nat}(hφ: φ r=some l)(hb:H.get h r=some (.miter m since seen st)): ∃m':Option Nat,w.heap[l.cb]?=some (.mapIter m' since seen.toArray st)∧OptR φ m m'∧l.base=0:=by
 obtain⟨o,h1,h2⟩:=hr.blk _ _ _ hφ hb
 cases h2 with
 |miter h0 h=>exact⟨_,h1,h,h0⟩
omit hr hρ in
theorem Jh {c:Nat}{b:Array Nat}(hb:w.heap[r]?=some (.mapIter m a b c)):(getObj r).run P w= .ok (.mapIter m a b c) w:=by simp [getObj,Sem.run,hb]
omit hr hρ in
theorem Wb {c:Nat}{b:Array Nat}(ob':Obj)(hb:w.heap[r]?=some (.mapIter m a b c)):(setObj r ob').run P w= .ok () (Gm w r ob'):=by simp [setObj,Sem.run,hb,Gm]
theorem f0 (ho:o.op= .entry it)(hx:exec (.entry (opd it)) h tm= .val v h'):Sim1 E w0 φ w h ((execOp ρ o).run P w) v h':=by
 simp only [exec]at hx;split at hx
 ·rename_i r hb;obtain⟨l,hφ,ea⟩:=VR.ptr_inv (hb ▸ hρ it);split at hx
  ·rename_i m since seen st hg;obtain⟨m',h1,h2,h3⟩:=HR.iter_at hr hφ hg
   cases h2 with
   | @some _ lm hm=>
   rw [h3,Nat.zero_add]at ea;split at hx
   ·rename_i es c s hgm hs;obtain⟨es',g1,g2⟩:=HR.map_at hr hm hgm;split at hx
    ·rename_i e hc hf;simp only [Ev.R.val.injEq]at hx;obtain⟨rfl,rfl⟩:=hx;have hc:c=st:=Am hc;subst hc;have hfind: ∃e',es'.find? (·.born == s)=some e'∧ER φ e e':=by
      rw [←Array.find?_toList];clear hgm g1;generalize es'.toList=l' at g2;induction g2 with
      |nil=>simp [Hn]at hf
      | @cons a a' _ _ ha _ ih=>
       simp only [Hn]at hf;split at hf;·rename_i hh;simp only [Option.some.injEq]at hf;subst hf;have:=Am hh;exact⟨a',by rw [List.find?_cons,←ha.born,this];simp,ha⟩
       ·rename_i hh;have:=D8 hh;obtain⟨e',p1,p2⟩:=ih hf;exact⟨e',by rw [List.find?_cons,←ha.born,beq_false_of_ne this];exact p1,p2⟩
     obtain⟨e',p1,p2⟩:=hfind;have hback:seen.toArray.back?=some s:=(by rw [List.back?_toArray];exact hs);refine .same (v':= .tuple #[e'.key,e'.val]) hr ?_ (.tup (.cons p2.key (.cons p2.val .nil)));simp only [execOp,ho,Instr.entry,ea,Sem.run_bind,Jh h1,Result.andThen_ok,hback,Ci g1];simp [p1]
    ·cases hx
   ·cases hx
  ·cases hx
 ·cases hx
theorem Wc (ho:o.op= .next it false){lm:Loc}{st:Nat}{es:List AEnt}{es':Array MapEntry}{c:Nat}{left:List AEnt}
  (ea:ρ it= .pointer (some ⟨l.cb,0,none⟩)) (h1:w.heap[l.cb]?=some (.mapIter (some lm.cb) since seen.toArray st)) (g1:w.heap[lm.cb]?=some (.map es' c)) (hes:ERs φ es es'.toList)
  (hc:J8 st seen es=true) (hl:Ol since seen es=some left):
  (left= []→ ∃w',(execOp ρ o).run P w= .ok (.value (.tuple #[.bool false])) w'∧w'.heap=w.heap∧Like w w')∧
  (left≠[]→ ∃e e' w',e∈left∧ER φ e e'∧(w'.heap=w.heap∧Like w w')∧(execOp ρ o).run P w= .ok (.value (.tuple #[.bool true,e'.key,e'.val])) (Gm w' l.cb (.mapIter (some lm.cb) since (seen.toArray.push e'.born) c))):=by
 obtain⟨q1,q2⟩:=ac hl hes
 have hchk:=fz hc hes
 have hnew: ∀e'∈es'.toList.filter (fun e=>!seen.contains e.born),e'.born<since:=by
  intro e' he'
  obtain⟨e,p1,p2⟩:=q1.mem e' he'
  rw [←p2.born];exact q2 e p1
 have hleft:(es'.filter fun e=>!seen.toArray.contains e.born)=(es'.toList.filter fun e=>!seen.contains e.born).toArray:=by
  apply Array.ext';simp
 generalize hlc:(es'.toList.filter fun e=>!seen.contains e.born)=lc at q1 hnew hleft
 have hold:(lc.toArray.filter fun e=>decide (e.born<since))=lc.toArray:=by
  apply Array.ext';simp only [List.filter_toArray]
  exact List.filter_eq_self.2 fun e he=>by simpa using hnew e he
 have hnone:(lc.toArray.filter fun e=>decide (e.born ≥ since))= #[]:=by
  apply Array.ext';simp only [List.filter_toArray]
  exact List.filter_eq_nil_iff.2 fun e he=>by have:=hnew e he;simp;omega
 have hrun:(execOp ρ o).run P w=(((choose (.mapNext ((if lc.toArray.isEmpty then #[none]else #[])++lc.toArray.map some).size)).run P w).andThen fun k w=>
   (
       match(((if lc.toArray.isEmpty then #[none]else #[])++lc.toArray.map some)[k]?:Option (Option MapEntry))with
       |some (some e)=>(do
     setObj l.cb (.mapIter (some lm.cb) since (seen.toArray.push e.born) c)
     pure (.tuple #[.bool true,e.key,e.val]):Sem Value)
       |some none=>pure (.tuple #[.bool false])
       | none => stuck "Next: no such candidate").run P w).andThen fun a w' => Sem.run P (pure (Next.value a)) w' := by
  simp only [execOp,ho,Instr.next,ea,Sem.run_bind,Jh h1,Result.andThen_ok,Ci g1,hchk,Bool.false_eq_true,if_false,hleft,hold,hnone,Array.append_empty]
  rfl
 have hsz:(lc.toArray.map (some:MapEntry→Option MapEntry)).size=lc.length:=by simp
 refine⟨fun hl0=>?_,fun hl0=>?_⟩
 ·subst hl0
  have hlc0:lc= []:=by cases q1;rfl
  subst hlc0
  rw [hrun]
  refine⟨w,?_,rfl,.refl _⟩
  simp [Question.forced]
 ·have hne:lc≠[]:=by intro e;subst e;cases q1;exact hl0 rfl
  have hemp:lc.toArray.isEmpty=false:=by cases lc with|nil=>exact absurd rfl hne|cons _ _=>rfl
  have hpos:0<lc.length:=List.length_pos_iff.2 hne
  have hk: ∃k w',(choose (.mapNext lc.length)).run P w= .ok k w'∧(w'.heap=w.heap∧Like w w')∧k<lc.length:=by
   rw [run_choose]
   split
   ·exact⟨0,w,rfl,⟨rfl,.refl _⟩,hpos⟩
   ·exact⟨_,_,rfl,⟨rfl,⟨rfl,rfl,rfl⟩⟩,Nat.mod_lt _ hpos⟩
  obtain⟨k,w',k1,k2,k3⟩:=hk
  obtain⟨e,p1,p2⟩:=q1.mem lc[k] (List.getElem_mem k3)
  refine⟨e,lc[k],w',p1,p2,k2,?_⟩
  rw [hrun]
  simp only [hemp,Bool.false_eq_true,if_false,Array.empty_append,hsz,k1,Result.andThen_ok]
  have:(lc.toArray.map (some:MapEntry→Option MapEntry))[k]?=some (some lc[k]):=by simp [k3]
  simp only [this,Sem.run_bind,Wb _ (show w'.heap[l.cb]?=_ by rw [k2.1];exact h1),Result.andThen_ok,Sem.run_pure]
theorem ga (ho:o.op= .next it false)(hx:exec (.nextM (opd it)) h tm= .val v h'):Sim1 E w0 φ w h ((execOp ρ o).run P w) v h':=by
 simp only [exec]at hx;split at hx
 ·rename_i r hb;obtain⟨l,hφ,ea⟩:=VR.ptr_inv (hb ▸ hρ it);split at hx
  ·rename_i since seen st hg;obtain⟨m',h1,h2,h3⟩:=HR.iter_at hr hφ hg
   cases h2 with
   |none=>
   rw [h3,Nat.zero_add]at ea;simp only [Ev.R.val.injEq]at hx;obtain⟨rfl,rfl⟩:=hx;exact .same (v':= .tuple #[.bool false]) hr (by simp [execOp,ho,Instr.next,ea,Jh h1]) (.tup (.cons (.bool _) .nil))
  ·rename_i m since seen st hg;obtain⟨m',h1,h2,h3⟩:=HR.iter_at hr hφ hg
   cases h2 with
   | @some _ lm hm=>
   rw [h3,Nat.zero_add]at ea;split at hx
   ·rename_i es c hgm;obtain⟨es',g1,g2⟩:=HR.map_at hr hm hgm;split at hx;·rename_i hl hc;simp only [Ev.R.val.injEq]at hx;obtain⟨rfl,rfl⟩:=hx;obtain⟨w',p1,p2,p3⟩:=(Wc hr hρ ho ea h1 g1 g2 hc hl).1 rfl;exact⟨φ,_,w',.refl _ _,.inl p1,.tup (.cons (.bool _) .nil),by rw [p2];exact hr,p3⟩
    ·cases hx
    ·cases hx
   ·cases hx
  ·cases hx
 ·cases hx
theorem gf {ws:List (AV×H)}(ho:o.op= .next it false)(hx:exec (.nextM (opd it)) h tm= .next ws): ∃x∈ws,Sim1 E w0 φ w h ((execOp ρ o).run P w) x.1 x.2:=by
 simp only [exec]at hx;split at hx
 ·rename_i r hb;obtain⟨l,hφ,ea⟩:=VR.ptr_inv (hb ▸ hρ it);split at hx;·cases hx
  ·rename_i m since seen st hg;obtain⟨m',h1,h2,h3⟩:=HR.iter_at hr hφ hg
   cases h2 with
   | @some _ lm hm=>
   have ea':=ea;rw [h3,Nat.zero_add]at ea';split at hx
   ·rename_i es c hgm;obtain⟨es',g1,g2⟩:=HR.map_at hr hm hgm;split at hx;·cases hx
    ·rename_i e1 l1 hl hc;simp only [Ev.R.next.injEq]at hx;subst hx;obtain⟨e,e',w',p1,p2,p3,p4⟩:=(Wc hr hρ ho ea' h1 g1 g2 hc hl).2 (by simp);refine⟨_,List.mem_map.2 ⟨e,p1,rfl⟩,φ,.tuple #[.bool true,e'.key,e'.val],Gm w' l.cb (.mapIter (some lm.cb) since (seen.toArray.push e'.born) c),.refl _ _,.inl p4,.tup (.cons (.bool _) (.cons p2.key (.cons p2.val .nil))),?_,⟨p3.2.os,p3.2.tape,p3.2.output⟩⟩;show HR E w0 φ _ (w'.heap.setIfInBounds l.cb _);rw [p3.1];refine hr.over hφ hg rfl ?_ rfl;have:(seen.toArray.push e'.born)=(List.append seen [e.born]).toArray:=(by rw [←p2.born];apply Array.ext';simp);rw [this];exact .miter h3 (.some hm)
    ·cases hx
   ·cases hx
  ·cases hx
 ·cases hx
end
section
variable {E:Env}
variable (hr:HR E w0 φ h w.heap)(hρ: RhoR φ tm ρ)
include hr hρ
omit hr hρ in
theorem no {p:Prop}(hx:exec .bad h tm= .val v h'):p:=by simp [exec]at hx
theorem Wd (hE:EnvOk P E){c:Call}{b:Builtin}(ho:o.op= .call c)(hc:c.callee= .builtin b)(hx:exec (L0 E b c.args.toList c.argTypes.toList) h tm= .val v h'):Sim1 E w0 φ w h ((execOp ρ o).run P w) v h':=by
 unfold L0 at hx;split at hx
 ·split at hx
  ·rename_i s x st xt ha ht;split at hx
   ·rename_i e hu;split at hx
    ·rename_i n z hs hz;split at hx
     ·rename_i t;split at hx;·rename_i k hk;exact V9 hr hρ hE ho hc ha ht hu hk hs hz hx
      ·rename_i e' hk;exact Qm hr hρ hE ho hc ha ht hu hk (.inr ⟨_,rfl⟩) hs hz hx
      ·rename_i hk;exact Qm hr hρ hE ho hc ha ht hu hk (.inl rfl) hs hz hx
      ·exact no hx
     ·exact no hx
    ·exact no hx
   ·exact no hx
  ·exact no hx
 ·split at hx
  ·rename_i d s dt r ha ht;split at hx
   ·rename_i e hu;split at hx;·rename_i n hs;exact ph hr hρ hE ho hc ha ht hu hs hx
    ·exact no hx
   ·exact no hx
  ·exact no hx
 ·split at hx
  ·rename_i x t ha ht;split at hx;·rename_i hu;exact o6 hr hρ hE ho hc ha ht hu hx
   ·rename_i e hu;exact o0 hr hρ hE ho hc ha ht hu hx
   ·rename_i a b hu;exact o8 hr hρ hE ho hc ha ht hu hx
   ·rename_i n e hu;exact V8 hr hρ hE ho hc ha ht (.inl hu) hx
   ·rename_i a hu;split at hx;·rename_i n e hu';exact V8 hr hρ hE ho hc ha ht (.inr ⟨a,hu,hu'⟩) hx
    ·exact no hx
   ·exact no hx
  ·exact no hx
 ·split at hx
  ·rename_i x t ha ht;split at hx;·rename_i e hu;exact o7 hr hρ hE ho hc ha ht hu hx
   ·exact no hx
  ·exact no hx
 ·split at hx;·rename_i a b ha;exact yx hr hρ ho hc ha hx
  ·exact no hx
 ·split at hx;·rename_i a b ha;exact yz hr hρ ho hc ha hx
  ·exact no hx
 ·split at hx
  ·rename_i m k mt r ha ht;split at hx
   ·rename_i kt e hu;split at hx;·rename_i sh hs;exact Yi hr hρ hE ho hc ha ht hu hs hx
    ·exact no hx
   ·exact no hx
  ·exact no hx
 ·split at hx;·simp [exec]at hx
  ·exact no hx
 ·split at hx;·simp only [exec]at hx;split at hx <;> cases hx
  ·exact no hx
 ·exact no hx
theorem Pu (hE:EnvOk P E)(hx:exec (An E o.op) h tm= .val v h'):Sim1 E w0 φ w h ((execOp ρ o).run P w) v h':=by
 cases ho:o.op with
 |move x=>rw [ho]at hx;exact og hr hρ (by simp only [execOp,ho]) hx
 |assign x=>rw [ho]at hx;exact og hr hρ (by simp only [execOp,ho]) hx
 |pick c a b=>rw [ho]at hx;exact oh hr hρ ho hx
 |alloc e=>
  rw [ho]at hx;simp only [An]at hx;split at hx;·rename_i z hz;exact ep hr hρ hE hz ho hx
  ·exact no hx
 |box e x=>rw [ho]at hx;exact yo hr hρ ho hx
 |build t parts=>
  rw [ho]at hx;simp only [An]at hx;split at hx;·rename_i z ps hz hp ha;exact eu hr hρ hE hz hp ho hx
  ·exact no hx
 |buildSlice t n parts=>
  rw [ho]at hx;simp only [An]at hx;split at hx
  ·rename_i e hu;split at hx;·rename_i s z hs hz hb;exact X3 hr hρ hE hu hs hz (Ak hb) ho hx
   ·exact no hx
  ·exact no hx
 |load t a=>
  rw [ho]at hx;simp only [An]at hx;split at hx
  ·rename_i i hi;split at hx;·rename_i ha;exact fe hr hρ hE hi ha ho hx
   ·rename_i ha;exact fc hr hρ hE ha ho hx
   ·exact no hx
  ·exact no hx
 |store t a x=>
  rw [ho]at hx;simp only [An]at hx;split at hx;·rename_i i hi;exact ff hr hρ hE hi ho hx
  ·exact no hx
 |nilCheck x=>rw [ho]at hx;exact om hr hρ ho hx
 |binOp op t x y yt=>rw [ho]at hx;exact yr hr hρ hE ho hx
 |unOp op t x=>rw [ho]at hx;exact Ady hr hρ ho hx
 |convert s d x=>
  rw [ho]at hx;simp only [An]at hx;split at hx
  ·rename_i k hs;split at hx;·rename_i j hd;exact ou hr hρ hE hs hd ho hx
   ·exact no hx
  ·rename_i e hs;split at hx
   ·rename_i hd;split at hx;·rename_i he;exact yu hr hρ hE hs hd he ho hx
    ·exact no hx
   ·rename_i e' hd;split at hx;·rename_i hsd he;have:=Am hsd;subst this;exact Yd hr hρ hE hs hd he ho hx
    ·exact no hx
   ·exact no hx
  ·exact no hx
 |makeInterface t x=>
  rw [ho]at hx;simp only [An]at hx;split at hx;·exact no hx
  ·rename_i d hd hu;exact oq hr hρ hE hu (fun ms e=>hd ms (by rw [←e])) ho hx
  ·exact no hx
 |makeFunc fn a c=>
  rw [ho]at hx;simp only [An]at hx
  cases fn with
  |func f=>exact ot hr hρ ho hx
  |_=>exact no hx
 |makeMap t r=>
  rw [ho]at hx;simp only [An]at hx
  cases r with
  |none=>exact fg hr hρ ho hx
  |some _=>exact no hx
 |makeSlice t l c=>
  rw [ho]at hx;simp only [An]at hx;split at hx
  ·rename_i e hu;split at hx;·rename_i s z hs hz;exact V6 hr hρ hE hu hs hz ho hx
   ·exact no hx
  ·exact no hx
 |slice t x lo hi mx=>
  rw [ho]at hx;simp only [An]at hx;split at hx
  ·rename_i n e hu;split at hx;·rename_i s hs;exact Qg hr hρ hE (.inl hu) hs ho hx
   ·exact no hx
  ·rename_i e hu;split at hx;·rename_i s hs;exact Ye hr hρ hE hu hs ho hx
   ·exact no hx
  ·rename_i a hu;split at hx
   ·rename_i n e hu';split at hx;·rename_i s hs;exact Qg hr hρ hE (.inr ⟨_,hu,hu'⟩) hs ho hx
    ·exact no hx
   ·exact no hx
  ·exact no hx
 |fieldAddr s x f=>
  rw [ho]at hx;simp only [An]at hx;split at hx
  ·rename_i fs hu;split at hx
   ·rename_i fd hf;split at hx;·rename_i n hs;exact fh hr hρ hE hu hf hs ho hx
    ·exact no hx
   ·exact no hx
  ·exact no hx
 |field t x f=>
  rw [ho]at hx;simp only [An]at hx;split at hx
  ·rename_i fs hu;split at hx
   ·rename_i fd hf;split at hx;·rename_i i hi ha;exact X5 hr hρ hE hu hf ha hi ho hx
    ·rename_i i hi ha;exact X4 hr hρ hE hu hf ha ho hx
    ·exact no hx
   ·exact no hx
  ·exact no hx
 |indexAddr t x ix=>
  rw [ho]at hx;simp only [An]at hx;split at hx
  ·rename_i n e hu;split at hx;·rename_i s hs;exact X6 hr hρ hE hu hs ho hx
   ·exact no hx
  ·rename_i e hu;split at hx;·rename_i s hs;exact X7 hr hρ hE hu hs ho hx
   ·exact no hx
  ·exact no hx
 |index t x ix=>
  rw [ho]at hx;simp only [An]at hx;split at hx
  ·rename_i n e hu;split at hx;·rename_i i hi ha;exact Ya hr hρ hE hu hi ha ho hx
   ·rename_i i hi ha;split at hx;·rename_i h1;exact X8 hr hρ hE hu hi (Am h1) ha ho hx
    ·exact no hx
   ·exact no hx
  ·rename_i hu;exact X9 hr hρ hE hu ho hx
  ·exact no hx
 |lookup t m k ok=>
  rw [ho]at hx;simp only [An]at hx;split at hx
  ·rename_i kt e hu;split at hx;·rename_i sh z hs hz;exact Yg hr hρ hE hu hs hz ho hx
   ·exact no hx
  ·exact no hx
 |mapUpdate t m k x=>
  rw [ho]at hx;simp only [An]at hx;split at hx
  ·rename_i kt e hu;split at hx;·rename_i sh hs;exact pi hr hρ hE hu hs ho hx
   ·exact no hx
  ·exact no hx
 |mapEntry t m k=>
  rw [ho]at hx;simp only [An]at hx;split at hx
  ·rename_i kt e hu;split at hx;·rename_i sh z hs hz;exact pj hr hρ hE hu hs hz ho hx
   ·exact no hx
  ·exact no hx
 |entryStore t m s x=>rw [ho]at hx;exact Yh hr hρ ho hx
 |range t x=>
  rw [ho]at hx;simp only [An]at hx;split at hx;·rename_i a b hu;exact Yj hr hρ hE hu ho hx
  ·exact no hx
 |next it s=>
  rw [ho]at hx;simp only [An]at hx
  cases s with
  |false=>exact ga hr hρ ho hx
  |true=>exact no hx
 |entry it=>rw [ho]at hx;exact f0 hr hρ ho hx
 |typeAssert x xt t ok=>
  rw [ho]at hx;simp only [An]at hx;split at hx;·exact no hx
  ·rename_i d hd hu;split at hx;·rename_i z hz;exact V2 hr hρ hE hu (fun ms e=>hd ms (by rw [←e])) hz ho hx
   ·exact no hx
  ·exact no hx
 |extract x i=>rw [ho]at hx;exact V1 hr hρ ho hx
 |call c=>
  rw [ho]at hx;simp only [An]at hx;split at hx;·simp only [exec]at hx;split at hx <;> cases hx
  ·exact no hx
  ·rename_i b hb;exact Wd hr hρ hE ho hb hx
 |defer c=>
  rw [ho]at hx;simp only [An]at hx;split at hx;·simp only [exec]at hx;split at hx <;> cases hx
  ·exact no hx
 |panic x=>rw [ho]at hx;simp only [An,exec]at hx;split at hx <;> cases hx
 |_=>rw [ho]at hx;exact no hx
omit hr hρ
def VF (r:R):Prop:=(∃v h',r= .val v h')∨r= .fail
theorem VF.vo (h:H)(o:Option AV):VF (Ev.vo h o):=by cases o with|none=>exact .inr rfl|some v=>exact .inl ⟨_,_,rfl⟩
theorem VF.app (size bytes:Nat)(h:H)(s:AV)(new:List AV)(n:Nat):VF (Dn size bytes h s new n):=by
 unfold Dn;repeat' split
 all_goals first|exact .inr rfl|exact .inl ⟨_,_,rfl⟩
include hr hρ
def O0 (c:COp):Bool:=
 match c with
 | .nextM _=>true
 | .callv _ _=>true
 | .defer _ _=>true
 | .panic _=>true
 | .recover=>true
 |_=>false
omit hr hρ in
theorem y8 (c:COp)(hc:O0 c=false):VF (exec c h tm):=by
 cases c <;> simp only [O0,Bool.true_eq_false]at hc <;> simp only [exec] <;>
  repeat' first|exact .inr rfl|exact .inl ⟨_,_,rfl⟩|exact VF.vo _ _|exact VF.app _ _ _ _ _ _|split
omit hr hρ in
theorem L6 (hx: ¬VF (exec c h tm)):O0 c=true:=by
 cases hc:O0 c with
 |true=>rfl
 |false=>exact absurd (y8 c hc) hx
end
theorem Ahu {p:Prop}(h:p:=by
 simp only [e1,Deferred.ofValue,Sem.run_bind,Sem.run_pure,Result.andThen_ok,invoke]
 exact L7 q1 q2 q3 _):p:=h
structure TabOk (P:Program)(E:Env)(F:T CFn):Prop where
 fn : ∀ f g, T.get F f = some g → ∃ fn c, P.funcs[f]? = some fn ∧ (fn.name == "runtime.NumGoroutine") = false ∧ fn.body = some c ∧ g = Vy E fn c
section
variable {E:Env}
inductive Acts (E:Env)(op:Op):Prop where
 |next (it:Operand) (h:op= .next it false) (hc:An E op= .nextM (opd it))
 |call (c:Call) (f:Operand) (h:op= .call c) (hf:c.callee= .value f) (hc:An E op= .callv (opd f) (c.args.toList.map opd))
 |defer (c:Call) (f:Operand) (h:op= .defer c) (hf:c.callee= .value f) (hc:An E op= .defer (opd f) (c.args.toList.map opd))
 |panic (x:Operand) (h:op= .panic x) (hc:An E op= .panic (opd x))
 |panicB (c:Call) (x:Operand) (h:op= .call c) (hf:c.callee= .builtin .panic) (ha:c.args.toList= [x]) (hc:An E op= .panic (opd x))
 |recover (c:Call) (h:op= .call c) (hf:c.callee= .builtin .recover) (hc:An E op= .recover)
theorem Gn {op:Op}(h:O0 (An E op)=true):Acts E op:=by
 cases hop:op with
 |next it s=>
  subst hop
  cases s with
  |false=>exact .next it rfl rfl
  |true=>simp [An,O0]at h
 |panic x=>exact .panic x rfl rfl
 |defer c=>
  subst hop
  cases hf:c.callee with
  |value f=>exact .defer c f rfl hf (by simp [An,hf])
  |_=>simp [An,hf,O0]at h
 |call c=>
  subst hop
  cases hf:c.callee with
  |value f=>exact .call c f rfl hf (by simp [An,hf])
  |invoke _ _=>simp [An,hf,O0]at h
  |builtin b=>
   simp only [An,hf]at h
   cases b with
   |recover=>
    simp only [L0]at h;split at h;·rename_i ha;exact .recover c rfl hf (by simp [An,hf,L0,ha])
    ·cases h
   |panic=>
    simp only [L0]at h;split at h;·rename_i x ha;exact .panicB c x rfl hf ha (by simp [An,hf,L0,ha])
    ·cases h
   |_=>
             exfalso;revert h;simp only [L0];repeat' split
             all_goals(intro h;cases h)
 |_=>subst hop;exfalso;revert h;simp only [An];(repeat' split) <;> (intro h;cases h)
variable (hr:HR E w0 φ h w.heap)(hρ: RhoR φ tm ρ)
include hr hρ
theorem pp {ws:List (AV×H)}(hx:exec (An E o.op) h tm= .next ws): ∃x∈ws,Sim1 E w0 φ w h ((execOp ρ o).run P w) x.1 x.2:=by
 cases Gn (L6 (h:=h) (tm:=tm) (by rw [hx];rintro(⟨_,_,e⟩|e) <;> cases e))with
 |next it ho hc=>rw [hc]at hx;exact gf hr hρ ho hx
 |call c f ho hf hc=>rw [hc]at hx;simp only [exec]at hx;split at hx <;> cases hx
 |defer c f ho hf hc=>rw [hc]at hx;simp only [exec]at hx;split at hx <;> cases hx
 |panic x ho hc=>rw [hc]at hx;simp only [exec]at hx;split at hx <;> cases hx
 |panicB c x ho hf ha hc=>rw [hc]at hx;simp only [exec]at hx;split at hx <;> cases hx
 |recover c ho hf hc=>rw [hc]at hx;simp only [exec]at hx;cases hx
def Up (P:Program)(E:Env)(φ: Phi)(f:AFn)(args:List AV)(s:Result Next)(w:World):Prop:=
 match f with
 | .func g => ∃ args' : Array Value, VRs φ args args'.toList ∧ (∀ fn, P.funcs[g]? = some fn → (fn.name == "runtime.NumGoroutine") = false → fn.body.isSome = true → s = .ok (.enter g args') w)
 | .yield r=> ∃(l:Loc) (args':Array Value),φ r=some l∧VRs φ args args'.toList∧s=(Instr.yield l.cb args').run P w
omit hr hρ in
theorem L7 {g : FuncId} {fn : Func} (h1 : P.funcs[g]? = some fn) (h2 : (fn.name == "runtime.NumGoroutine") = false) (h3 : fn.body.isSome = true) (args : Array Value) : (callFunc g args).run P w= .ok (.enter g args) w:=by
 have h4:fn.body.isNone=false:=by cases hb:fn.body with|none=>rw [hb]at h3;cases h3|some _=>rfl
 simp only [callFunc,Sem.run_bind,run_program,Result.andThen_ok,h1,h2,h4,Bool.false_eq_true,if_false,Sem.run_pure]
omit hr hρ in
theorem Qs (aqs:Array Operand):(aqs.map ρ).toList=aqs.toList.map ρ:= by simp
omit hr in
theorem Yk {first cap:List AV}(hv:VR φ (.fn f first cap) (ρ x))(aqs:Array Operand):
  Up P E φ f (List.append first (List.append (evs tm (aqs.toList.map opd)) cap)) ((do let d←Deferred.ofValue (ρ x) (aqs.map ρ);invoke d.target d.args:Sem Next).run P w) w:=by
 have has:=hρ.list aqs.toList
 cases f with
 |func g=>
  obtain⟨a',c',e1,h1,h2⟩:=hv.fnF_inv
  refine⟨a'++aqs.map ρ++ c',?_,fun fn q1 q2 q3=>?_⟩
  ·simp only [Array.toList_append,Qs,List.append_assoc]
   exact h1.append (has.append h2)
  ·exact Ahu
 |yield r=>
  generalize ρ x=xv at hv
  cases hv with
  | @fnY _ l hφ=>
   refine⟨l,#[]++aqs.map ρ,hφ,?_,?_⟩
   ·simp only [Array.toList_append,Qs]
    show VRs φ ([]++(evs tm (aqs.toList.map opd)++ [])) _
    simpa using has
   ·simp only [Deferred.ofValue,Sem.run_bind,Sem.run_pure,Result.andThen_ok,invoke]
theorem Qt (hx:exec (An E o.op) h tm= .call f args):Up P E φ f args ((execOp ρ o).run P w) w:=by
 cases Gn (L6 (h:=h) (tm:=tm) (by rw [hx];rintro(⟨_,_,e⟩|e) <;> cases e))with
 |next it ho hc=>
  rw [hc]at hx;simp only [exec]at hx;repeat' split at hx
  all_goals cases hx
 |call c f ho hf hc=>
  rw [hc]at hx;simp only [exec]at hx;split at hx
  ·rename_i g first cap hb
   simp only [Ev.R.call.injEq]at hx;obtain⟨rfl,rfl⟩:=hx;have:=Yk (P:=P) (E:=E) (w:=w) hρ (x:=f) (hb ▸ hρ f) c.args;simpa only [execOp,ho,resolve,hf]using this
  ·cases hx
 |defer c f ho hf hc=>rw [hc]at hx;simp only [exec]at hx;split at hx <;> cases hx
 |panic x ho hc=>rw [hc]at hx;simp only [exec]at hx;split at hx <;> cases hx
 |panicB c x ho hf ha hc=>rw [hc]at hx;simp only [exec]at hx;split at hx <;> cases hx
 |recover c ho hf hc=>rw [hc]at hx;simp only [exec]at hx;cases hx
theorem y9 {f:Nat}(hx:exec (An E o.op) h tm= .dfr f args): ∃d c,o.op= .defer c∧(execOp ρ o).run P w= .ok (.defer d) w∧DR φ (.call f args) d:=by
 cases Gn (L6 (h:=h) (tm:=tm) (by rw [hx];rintro(⟨_,_,e⟩|e) <;> cases e))with
 |next it ho hc=>
  rw [hc]at hx;simp only [exec]at hx;repeat' split at hx
  all_goals cases hx
 |defer c f ho hf hc=>
  rw [hc]at hx;simp only [exec]at hx;split at hx
  ·rename_i g first cap hb
   simp only [Ev.R.dfr.injEq]at hx;obtain⟨rfl,rfl⟩:=hx;obtain⟨a',c',e1,h1,h2⟩:=VR.fnF_inv (hb ▸ hρ f);refine⟨{target:= .fn (.func g) c',args:=a'++c.args.map ρ},c,ho,?_,?_⟩;·simp [execOp,ho,resolve,hf,e1,Deferred.ofValue]
   ·refine .call ?_;simp only [Array.toList_append,Qs,List.append_assoc];exact h1.append ((hρ.list c.args.toList).append h2)
  ·cases hx
 |call c f ho hf hc=>rw [hc]at hx;simp only [exec]at hx;split at hx <;> cases hx
 |panic x ho hc=>rw [hc]at hx;simp only [exec]at hx;split at hx <;> cases hx
 |panicB c x ho hf ha hc=>rw [hc]at hx;simp only [exec]at hx;split at hx <;> cases hx
 |recover c ho hf hc=>rw [hc]at hx;simp only [exec]at hx;cases hx
omit hr in
theorem Ta {t:Nat}{u:AV}(hb:ev tm (opd x)= .ifc t u): ∃v',(Instr.panic (ρ x)).run P w= .halt (.panic v') w∧VR φ (.ifc t u) v':=by have hv:=hb ▸ hρ x;obtain⟨y,e1,_⟩:=hv.ifc_inv;rw [e1]at hv;exact⟨_,by rw [e1];simp [Instr.panic],hv⟩
theorem za (hx:exec (An E o.op) h tm= .pan v): ∃v',(execOp ρ o).run P w= .halt (.panic v') w∧VR φ v v':=by
 cases Gn (L6 (h:=h) (tm:=tm) (by rw [hx];rintro(⟨_,_,e⟩|e) <;> cases e))with
 |next it ho hc=>
  rw [hc]at hx;simp only [exec]at hx;repeat' split at hx
  all_goals cases hx
 |call c f ho hf hc=>rw [hc]at hx;simp only [exec]at hx;split at hx <;> cases hx
 |defer c f ho hf hc=>rw [hc]at hx;simp only [exec]at hx;split at hx <;> cases hx
 |panic x ho hc=>
  rw [hc]at hx;simp only [exec]at hx;split at hx;·rename_i t u hb;simp only [Ev.R.pan.injEq]at hx;subst hx;obtain⟨v',h1,h2⟩:=Ta (P:=P) (w:=w) hρ hb;exact⟨v',by simp only [execOp,ho,Sem.run_bind,h1];rfl,h2⟩
  ·cases hx
 |panicB c x ho hf ha hc=>
  rw [hc]at hx;simp only [exec]at hx;split at hx;·rename_i t u hb;simp only [Ev.R.pan.injEq]at hx;subst hx;obtain⟨v',h1,h2⟩:=Ta (P:=P) (w:=w) hρ hb;refine⟨v',?_,h2⟩;rw [A9 ho hf,Qi ha];have:(#[ρ x]:Array Value).getD 0 .nilIface=ρ x:=rfl;simp only [builtin,this,Sem.run_bind,h1];rfl
  ·cases hx
 |recover c ho hf hc=>rw [hc]at hx;simp only [exec]at hx;cases hx
theorem zb (hx:exec (An E o.op) h tm= .recover):(execOp ρ o).run P w= .ok .recover w∧ ∃c,o.op= .call c:=by
 cases Gn (L6 (h:=h) (tm:=tm) (by rw [hx];rintro(⟨_,_,e⟩|e) <;> cases e))with
 |next it ho hc=>
  rw [hc]at hx;simp only [exec]at hx;repeat' split at hx
  all_goals cases hx
 |call c f ho hf hc=>rw [hc]at hx;simp only [exec]at hx;split at hx <;> cases hx
 |defer c f ho hf hc=>rw [hc]at hx;simp only [exec]at hx;split at hx <;> cases hx
 |panic x ho hc=>rw [hc]at hx;simp only [exec]at hx;split at hx <;> cases hx
 |panicB c x ho hf ha hc=>rw [hc]at hx;simp only [exec]at hx;split at hx <;> cases hx
 |recover c ho hf hc=>exact⟨by rw [A9 ho hf];rfl,c,ho⟩
end
def SimMk (E:Env)(φ: Phi)(w:World)(r:Result Next)(v:AV)(h h1:H):Prop:=
 ∃v' ob l blk,r= .ok (.value v') (w.alloc ob)∧h1=H.new h blk∧l.cb=w.heap.size∧roB blk=false∧ ∀φ',Phi.le φ φ'→φ' h.n=some l→VR φ' v v'∧BR E φ' l blk ob
section
variable {E:Env}
theorem SimMk.cells {r:Result Next}{v':Value}{xs:List AV}{cs:Array Value}(hv: ∀φ',Phi.le φ φ'→φ' h.n=some ⟨w.heap.size,0,cs.size⟩→VR φ' v v')(hx:VRs φ xs cs.toList) (hr:r= .ok (.value v') (w.alloc (.cells cs e))):SimMk E φ w r v h (newCells h xs):= ⟨v',_,⟨w.heap.size,0,cs.size⟩,_,hr,rfl,rfl,rfl,fun φ' hl hb=>⟨hv φ' hl hb,BR.cells_new rfl rfl (hx.mono hl)⟩⟩
variable (hρ: RhoR φ tm ρ)
include hρ
theorem Adz (ho:o.op= .box e x)(hx:exec (.box n (opd x)) h tm= .val v h'):SimMk E φ w ((execOp ρ o).run P w) v h h':=by
 simp only [exec]at hx;split at hx
 ·rename_i l hl;split at hx;·simp only [R.val.injEq]at hx;obtain⟨rfl,rfl⟩:=hx;refine .cells (v':= .pointer (some ⟨w.heap.size,0,none⟩)) (cs:=(ρ x).cells) (e:=e) (fun φ' _ hb=>by simpa using VR.ptr (o:=0) hb) (Ib (hρ x) hl) ?_;simp [execOp,ho,Instr.box,Ic]
  ·cases hx
 ·cases hx
theorem pq (hE:EnvOk P E)(hz:Fa E e=some z)(ho:o.op= .alloc e)(hx:exec (.alloc z) h tm= .val v h'):SimMk E φ w ((execOp ρ o).run P w) v h h':=by simp only [exec,R.val.injEq]at hx;obtain⟨rfl,rfl⟩:=hx;obtain⟨u,i,h1,h2,h3,h4,h5⟩:=Do hE hz w;refine .cells (v':= .pointer (some ⟨w.heap.size,0,none⟩)) (cs:=u.cells) (e:=e) (fun φ' _ hb=>by simpa using VR.ptr (o:=0) hb) (h5 φ) ?_;simp [execOp,ho,Instr.alloc,h2,Ic]
theorem Ad0 (ho:o.op= .makeMap t none)(hx:exec .mkmap h tm= .val v h'):SimMk E φ w ((execOp ρ o).run P w) v h h':=by simp only [exec,R.val.injEq]at hx;obtain⟨rfl,rfl⟩:=hx;refine⟨.map (some w.heap.size),.map #[] 0,⟨w.heap.size,0,0⟩,_,?_,rfl,rfl,rfl,fun φ' _ hb=>⟨.map (l:=⟨w.heap.size,0,0⟩) hb,.map (by simpa using ERs.nil)⟩⟩;simp [execOp,ho,Instr.makeMap]
theorem gg (hE:EnvOk P E){parts:Array (Nat×Operand)}(hu:und E t=some (.slice e))(hs:Cl E e=some s)(hz:Fa E e=some z) (hb:n*szD E e≤16777216) (ho:o.op= .buildSlice t n parts) (hx:exec (.bslice n (rl z n) (parts.toList.map fun p=>(p.1*s,s,opd p.2))) h tm= .val v h'): SimMk E φ w ((execOp ρ o).run P w) v h h':=by
 simp only [exec]at hx;split at hx
 ·rename_i l hl;simp only [R.val.injEq]at hx;obtain⟨rfl,rfl⟩:=hx;obtain⟨u,i,h1,h2,h3,h4,h5⟩:=Do hE hz w;obtain⟨h6,h7⟩:=B3 hE hs w;have hi:i.size=s:=by exact Ab8
  have hsz:szD E e=s:=by unfold szD;rw [h1];exact hi
  obtain⟨cs',h8,h9⟩:=Jd (hρ:= hρ) (fun(i:Nat)=>some (i*s,s)) parts.toList _ _ ((Array.range (n*s)).map fun i=>u.cells[i % u.cells.size]!) l (by simp) (oj (h5 φ) n (n*s) (by rw [h3,hi])) hl;have hpt:(parts.map fun(x:Nat×Operand)=>(x.1,ρ x.2)).toList=parts.toList.map fun p=>(p.1,ρ p.2):=by simp
  have hlim: ¬(n*s>2 ^ 24):=by rw [hsz]at hb;omega
  refine .cells (v':= .slice (some ⟨w.heap.size,0,none⟩) n n) (cs:=cs') (e:=e) (fun φ' _ hb=>?_) h9 ?_;·have hb':n<Aa:=(by have:n≤n*s:=Nat.le_mul_of_pos_right n (Nat.pos_of_ne_zero h7);unfold Aa;omega);have:=VR.slcX (b:=h.n) (o:=0) (n:=n) (c:=n) (off:=0) hb hb' (Nat.le_refl _) (fun _=>rfl);simpa using this
  ·exact Ahi
 ·cases hx
theorem pt (hE:EnvOk P E){lo c:Operand}(hu:und E t=some (.slice e))(hs:Cl E e=some s)(hz:Fa E e=some z)(ho:o.op= .makeSlice t lo c) (hx:exec (.mkslice (Dg E e) z (opd lo) (opd c)) h tm= .val v h'):SimMk E φ w ((execOp ρ o).run P w) v h h':=by
 simp only [exec]at hx;split at hx
 ·rename_i k1 ln hl;have el:=VR.int_inv (hl ▸ hρ lo);split at hx
  ·rename_i k2 cn hc;have ec:=VR.int_inv (hc ▸ hρ c);split at hx
   ·rename_i h1 h2 h3;have h1:ln≤cn:=Ak h1;have h2:cn*Dg E e≤281474976710656:=Ak h2;have h3:cn≤281474976710656:=Ak h3;simp only [R.val.injEq]at hx;obtain⟨rfl,rfl⟩:=hx;obtain⟨u,i,z1,z2,z3,z4,z5⟩:=Do hE hz w;obtain⟨s1,s2⟩:=B3 hE hs w;have hi:i.size=s:=(by exact Aca);have hbt:Dg E e=i.bytes:=(by unfold Dg;rw [z1]);rw [hbt]at h2;have hwr: ∀n:Nat,n≤281474976710656→IntKind.i64.wrap (n:Int)=n:=(by intro n hn;exact zq7);refine .cells (v':= .slice (some ⟨w.heap.size,0,none⟩) ln cn) (cs:=(Array.range (cn*s)).map fun i=>u.cells[i % u.cells.size]!) (e:=e) (fun φ' _ hb=>?_) (oj (z5 φ) cn (cn*s) (by rw [z3,hi])) ?_;·have hb':cn<Aa:=(by unfold Aa;omega);have:=VR.slcX (b:=h.n) (o:=0) (n:=ln) (c:=cn) (off:=0) hb hb' h1 (fun _=>rfl);simpa using this
    ·exact zq3
   ·cases hx
  ·cases hx
 ·cases hx
theorem Ad1 (hE:EnvOk P E)(hc:cls (An E o.op)=2)(hx:exec (An E o.op) h tm= .val v h'):SimMk E φ w ((execOp ρ o).run P w) v h h':=by
 cases ho:o.op with
 |alloc e=>
  rw [ho]at hx;simp only [An]at hx;split at hx;·rename_i z hz;exact pq hρ hE hz ho hx
  ·exact no hx
 |box e x=>rw [ho]at hx;exact Adz hρ ho hx
 |buildSlice t n parts=>
  rw [ho]at hx;simp only [An]at hx;split at hx
  ·rename_i e hu;split at hx;·rename_i s z hs hz hb;exact gg hρ hE hu hs hz (Ak hb) ho hx
   ·exact no hx
  ·exact no hx
 |makeMap t r=>
  rw [ho]at hx;simp only [An]at hx
  cases r with
  |none=>exact Ad0 hρ ho hx
  |some _=>exact no hx
 |makeSlice t l c=>
  rw [ho]at hx;simp only [An]at hx;split at hx
  ·rename_i e hu;split at hx;·rename_i s z hs hz;exact pt hρ hE hu hs hz ho hx
   ·exact no hx
  ·exact no hx
 |call c=>
  exfalso;rw [ho]at hc;revert hc;simp only [An];split;·simp [cls]
  ·simp [cls]
  ·rename_i b hb
   cases b <;> simp only [L0] <;> (repeat' split) <;> simp [cls]
 |_=>exfalso;rw [ho]at hc;revert hc;simp only [An];(repeat' split) <;> simp [cls]
omit hρ in
theorem pu {x:Option AV}(hx:vo h x= .val v h'):x=some v∧h'=h:=by
 cases x with
 |none=>cases hx
 |some u=>cases hx;exact⟨rfl,rfl⟩
omit hρ in
theorem Lb (hc:cls c=0∨cls c=1)(hx:exec c h tm= .val v h'):h'=h:=by
 cases c with
 |_=>
  first
   |(exfalso;rcases hc with hc|hc <;> cases hc;done)
   |(revert hx;simp only [exec];(repeat' split) <;> intro hx <;> first|(cases hx;done)|exact(pu hx).2|(cases hx;rfl))
omit hρ in
theorem gh (hc:cls c=0)(hx:exec c h tm= .val v h')(h2:H):exec c h2 tm= .val v h2:=by
 cases c with
 |_=>
  first
   |(exfalso;cases hc;done)
   |(revert hx;simp only [exec];(repeat' split) <;> intro hx <;> first|(cases hx;done)|(rw [(pu hx).1];rfl)|(cases hx;rfl))
omit hρ in
theorem zc (hc:cls c=2)(hx:exec c h tm= .val v h'): ∃blk,h'=H.new h blk:=by
 cases c with
 |_=>
  first
   |(exfalso;cases hc;done)
   |(revert hx;simp only [exec,newCells];(repeat' split) <;> intro hx <;> first|(cases hx;done)|(cases hx;exact⟨_,rfl⟩))
end
variable {D td:List Nat}{b:Nat→Nat}{e r:Row}{i j k m:Nat}{ops:Array Oper}{tmps:Array Value}
theorem ae (m n:Nat):tb m n=m.testBit n:=by
 have h:Nat.land (Nat.shiftRight m n) 1=(m >>> n) % 2:=Nat.and_one_is_mod _;unfold tb;rw [h,Nat.testBit_eq_decide_div_mod_eq,Nat.shiftRight_eq_div_pow]
 cases hb:Nat.beq (m / 2 ^ n % 2) 1 with
 |true=>exact(decide_eq_true (Nat.eq_of_beq_eq_true hb)).symm
 |false=>exact(decide_eq_false (Nat.ne_of_beq_eq_false hb)).symm
theorem af (n:Nat):tb 0 n=false:=by rw [ae];simp
theorem ag (a b n:Nat):tb (a ||| b) n=(tb a n || tb b n):=by simp [ae,Nat.testBit_or]
theorem pv (a n:Nat):tb (2 ^ a) n=decide (a=n):=by rw [ae,Nat.testBit_two_pow]
theorem Ahv (h:m<2 ^ j)(hb:tb m i=true):i<j:=by
 rw [ae]at hb
 cases Nat.lt_or_ge i j with
 |inl h=>exact h
 |inr hge=>have:m<2 ^ i:=Nat.lt_of_lt_of_le h (Nat.pow_le_pow_right (by omega) hge);rw [Nat.testBit_lt_two_pow this]at hb;cases hb
noncomputable section
variable (E:Env)(nt:Nat)(R:Reg)
def rw' (j:Nat):Row:=Ab5 E nt R.ops R.bits j
def bb (j:Nat):Nat:=R.bits j
def es':List Row:=Cr (A1 E nt R)
def ne':List Row:=Du (A1 E nt R)
def cn' (j:Nat):Nat:=cnt (es' E nt R) (rw' E nt R j)
def ci' (j:Nat):CI:=B5 E nt R.ops j
def nm' (j:Nat):List Nat:=Pq R.ops j
def cl' (j:Nat):Nat:=cls (B5 E nt R.ops j).op
end
section
variable {E:Env}{nt:Nat}{R:Reg}
theorem mem_rows:r∈A1 E nt R↔ ∃j,j<R.ops.size∧r=rw' E nt R j:=by
 unfold A1 rw';simp only [List.mem_map,List.mem_range];constructor;·rintro⟨j,h,e⟩;exact⟨j,h,e.symm⟩
 ·rintro⟨j,h,e⟩;exact⟨j,h,e.symm⟩
theorem Nq (j:Nat):Su (rw' E nt R j)=true↔cl' E nt R j=3:=by
 unfold Su Nj;constructor;·intro h;exact Am h
 ·intro h;have:cls (rw' E nt R j).d.ci.op=3:=h;rw [this];rfl
theorem mem_es:r∈es' E nt R↔ ∃j,j<R.ops.size∧r=rw' E nt R j∧cl' E nt R j=3:=by
 unfold es' Cr;rw [List.mem_filter,mem_rows];constructor;·rintro⟨⟨j,h,rfl⟩,h2⟩;exact⟨j,h,rfl,(Nq j).1 h2⟩
 ·rintro⟨j,h,rfl,h2⟩;exact⟨⟨j,h,rfl⟩,(Nq j).2 h2⟩
theorem mem_ne:r∈ne' E nt R↔ ∃j,j<R.ops.size∧r=rw' E nt R j∧cl' E nt R j≠3:=by
 unfold ne' Du;rw [List.mem_filter,mem_rows];have key: ∀j,(!Su (rw' E nt R j))=true↔cl' E nt R j≠3:=fun j=>by
  have:=Nq (E:=E) (nt:=nt) (R:=R) j
  cases hb:Su (rw' E nt R j)with
  |true=>simp [this.1 hb]
  |false=>simp;intro hc;rw [this.2 hc]at hb;cases hb
 constructor;·rintro⟨⟨j,h,rfl⟩,h2⟩;exact⟨j,h,rfl,(key j).1 h2⟩
 ·rintro⟨j,h,rfl,h2⟩;exact⟨⟨j,h,rfl⟩,(key j).2 h2⟩
theorem Ad2 (c:COp):cls c≤3:=by unfold cls;split <;> omega
theorem Kf (h:Fu (A1 E nt R)=true): (∀r∈A1 E nt R,tb r.bits r.j=false)∧(∀i∈ne' E nt R,X0 (A1 E nt R) (es' E nt R) i=true)∧L3 (es' E nt R)=true∧(∀i∈ne' E nt R,oa (ne' E nt R) (es' E nt R) i=true):=by unfold Fu at h;simp only [Bool.and_eq_true,List.all_eq_true]at h;exact⟨fun r hr=>by have:=h.1.1.1 r hr;simpa using this,h.1.2,h.2,h.1.1.2⟩
theorem zd (h:Fu (A1 E nt R)=true)(hj:j<R.ops.size):tb (bb R j) j=false:= (Kf h).1 _ (mem_rows.2 ⟨j,hj,rfl⟩)
theorem Ad3 (h:Fu (A1 E nt R)=true)(hi:i<R.ops.size)(hci:cl' E nt R i≠3)(hj:j<R.ops.size)(hcj:cl' E nt R j≠3)(hcn:cn' E nt R j=cn' E nt R i)(hb:tb (bb R j) i=true):i<j:=by
 have:=(Kf h).2.2.2 _ (mem_ne.2 ⟨j,hj,rfl,hcj⟩);unfold oa at this;rw [List.all_eq_true]at this;have h1:=this _ (mem_ne.2 ⟨i,hi,rfl,hci⟩);have e:tb (rw' E nt R j).bits (rw' E nt R i).j=true:=hb;have e2:Nat.beq (cnt (es' E nt R) (rw' E nt R j)) (cnt (es' E nt R) (rw' E nt R i))=true:=by have:cnt (es' E nt R) (rw' E nt R j)=cnt (es' E nt R) (rw' E nt R i):=hcn;rw [this];exact Nat.beq_refl _
 rw [e,e2]at h1;have h2:Nat.ble (Nat.succ i) j=true:=by
  cases hq:Nat.ble (Nat.succ i) j with
  |true=>rfl
  |false=>have:(!true || !true || Nat.ble (Nat.succ i) j)=true:=h1;rw [hq]at this;cases this
 exact Ak h2
theorem Qu (h:Fu (A1 E nt R)=true)(hi:i<R.ops.size)(hc:cl' E nt R i≠3): (∀r∈A1 E nt R,Ul (rw' E nt R i) r=true)∧(∀e∈(es' E nt R).take (cn' E nt R i),tb (bb R i) e.j=true)∧ (cl' E nt R i=2→ ∀e∈(es' E nt R).drop (cn' E nt R i),tb e.bits i=true):=by
 have:=(Kf h).2.1 _ (mem_ne.2 ⟨i,hi,rfl,hc⟩);unfold X0 at this;simp only [Bool.and_eq_true,List.all_eq_true,Bool.or_eq_true]at this;refine⟨this.1.1,this.1.2,fun h2=>?_⟩;rcases this.2 with h3|h3;·have:Nj (rw' E nt R i)=2:=h2;rw [this]at h3;cases h3
 ·exact h3
theorem Hu (h:Fu (A1 E nt R)=true){d:Nat}(hi:i<R.ops.size)(hj:j<R.ops.size)(hc:cl' E nt R i≠3)(hd:(ci' E nt R i).dst=some d): (j=i→d∉nm' R i)∧(j≠i→(ci' E nt R j).dst≠some d∧(d∈nm' R j→tb (bb R j) i=true)):=by
 have:=(Qu h hi hc).1 _ (mem_rows.2 ⟨j,hj,rfl⟩);unfold Ul at this;have hd':(rw' E nt R i).d.ci.dst=some d:=hd;rw [hd']at this;simp only at this;have hmem: ∀{l:List Nat},(!Ni d l)=true→d∉l:=by intro l hl hm;rw [(Hq d l).2 hm]at hl;cases hl
 constructor;·intro e;subst e;have hb:Nat.beq (rw' E nt R j).j (rw' E nt R j).j=true:=Nat.beq_refl _;rw [hb]at this;exact hmem this
 ·intro e;have hb:Nat.beq (rw' E nt R j).j (rw' E nt R i).j=false:=by
   cases hb:Nat.beq (rw' E nt R j).j (rw' E nt R i).j with
   |false=>rfl
   |true=>exact absurd (Am hb) e
  rw [hb]at this;simp only [Bool.and_eq_true,Bool.or_eq_true]at this;refine⟨fun e2=>?_,fun hm=>?_⟩;·have h1:=this.1;have e2':(rw' E nt R j).d.ci.dst=some d:=e2;rw [e2']at h1;simp [Ab6]at h1
  ·rcases this.2 with h1|h1;·exact absurd hm (hmem h1)
   ·exact h1
theorem Qv (h:Fu (A1 E nt R)=true)(hi:i<R.ops.size)(hc:cl' E nt R i≠3)(hm:m<cn' E nt R i)(he:(es' E nt R)[m]?=some e):tb (bb R i) e.j=true:= (Qu h hi hc).2.1 e (List.mem_iff_getElem?.2 ⟨m,by rw [List.getElem?_take_of_lt hm];exact he⟩)
theorem Ie (he:(es' E nt R)[m]?=some e):e.j<R.ops.size∧e=rw' E nt R e.j∧cl' E nt R e.j=3∧e.bits=bb R e.j:=by obtain⟨j,h1,rfl,h3⟩:=mem_es.1 (List.mem_of_getElem? he);exact⟨h1,rfl,h3,rfl⟩
theorem Tc (h:Fu (A1 E nt R)=true)(hi:i<R.ops.size)(hc:cl' E nt R i=2)(hm:cn' E nt R i≤m)(he:(es' E nt R)[m]?=some e):tb (bb R e.j) i=true:=by have:=(Qu h hi (by omega)).2.2 hc e (List.mem_iff_getElem?.2 ⟨m - cn' E nt R i,by rw [List.getElem?_drop,Nat.add_sub_cancel' hm];exact he⟩);rw [(Ie he).2.2.2]at this;exact this
theorem Td: ∀{l:List Row},L3 l=true→ ∀{m n:Nat} {e f:Row},m<n→l[m]?=some e→l[n]?=some f→tb f.bits e.j=true
 | [],_,m,n,e,f,_,he,_=>by simp at he
 |x::l,h,m,n,e,f,hm,he,hf=>by
  simp only [L3,Bool.and_eq_true,List.all_eq_true]at h
  cases n with
  |zero=>omega
  |succ n=>
   simp only [List.getElem?_cons_succ]at hf
   cases m with
   |zero=>simp only [List.getElem?_cons_zero,Option.some.injEq]at he;subst he;exact h.1 f (List.mem_of_getElem? hf)
   |succ m=>simp only [List.getElem?_cons_succ]at he;exact Td h.2 (by omega) he hf
theorem Te (h:Fu (A1 E nt R)=true){f:Row}(hm:m<n)(he:(es' E nt R)[m]?=some e)(hf:(es' E nt R)[n]?=some f):tb (bb R f.j) e.j=true:=by have:=Td (Kf h).2.2.1 hm he hf;rw [(Ie hf).2.2.2]at this;exact this
theorem Ahw (i:Nat):cn' E nt R i≤(es' E nt R).length:=List.length_filter_le _ _
end
theorem Ahx {p:Prop}(h:p:=by
 rcases G6 hk with h1|⟨h1|h1,_⟩
 ·exact hbj k h1
 ·exact absurd h1 ei
 ·exact absurd (hbj i h1) hi):p:=h
inductive Ext (n:Nat)(b:Nat→Nat):List Nat→List Nat→Prop where
 |nil {D:List Nat} (h: ∀j,j<n→j∈D):Ext n b D []
 |cons {D td:List Nat} {j:Nat} (hj:j<n) (hn:j∉D) (hb: ∀i,tb (b j) i=true→i∈D) (hs:Ext n b (j::D) td):Ext n b D (j::td)
theorem Ext.all (h:Ext n b D td): ∀j,j<n→j∈D∨j∈td:=by
 induction h with
 |nil h=>exact fun j hj=> .inl (h j hj)
 |cons hj hn hb hs ih=>
  intro k hk;rcases ih k hk with h|h
  ·rcases List.mem_cons.1 h with h|h;·exact .inr (h ▸ List.mem_cons_self ..)
   ·exact .inl h
  ·exact .inr (List.mem_cons_of_mem _ h)
theorem Ext.apart (h:Ext n b D td): ∀j,j∈td→j∉D∧j<n:=by
 induction h with
 |nil h=>exact fun j hj=>by cases hj
 | @cons D td j hj hn hb hs ih=>
  intro k hk;rcases List.mem_cons.1 hk with e|h;·exact⟨e ▸ hn,e ▸ hj⟩
  ·exact⟨fun hd=>(ih k h).1 (List.mem_cons_of_mem _ hd),(ih k h).2⟩
abbrev b0 (ops:Array Oper):Nat→Nat:=P7 (Region.before ops)
def O1 (acc:Nat→Nat)(o:Oper):Nat:=o.after.foldl (fun s e=>if Region.binds .any e then s ||| 2 ^ e.on ||| acc e.on else s) 0
theorem Acc (acc:Nat→Nat)(k:Nat): ∀(l:List Edge) (s:Nat),tb (l.foldl (fun s e=>if Region.binds .any e then s ||| 2 ^ e.on ||| acc e.on else s) s) k=true↔ tb s k=true∨ ∃e∈l,Region.binds .any e=true∧(e.on=k∨tb (acc e.on) k=true)
 | [],s=>by simp
 |e::l,s=>by
  rw [List.foldl_cons,Acc acc k l];by_cases hb:Region.binds .any e=true
  ·rw [if_pos hb,ag,ag,pv];simp only [Bool.or_eq_true,decide_eq_true_eq,List.mem_cons,exists_eq_or_imp,hb,true_and];constructor
   ·rintro(((h|h)|h)|h);·exact .inl h
    ·exact .inr (.inl (.inl h))
    ·exact .inr (.inl (.inr h))
    ·exact .inr (.inr h)
   ·rintro(h|(h|h)|h);·exact .inl (.inl (.inl h))
    ·exact .inl (.inl (.inr h))
    ·exact .inl (.inr h)
    ·exact .inr h
  ·rw [if_neg hb];simp only [List.mem_cons,exists_eq_or_imp,hb,false_and,false_or];constructor
   ·rintro(h|h);·exact .inl h
    ·exact .inr (.inr h)
   ·rintro(h|h|h);·exact .inl h
    ·exact absurd h.1 (by simp)
    ·exact .inr h
theorem Tf (acc:Nat→Nat)(o:Oper)(k:Nat):tb (O1 acc o) k=true↔ ∃e∈o.after.toList,Region.binds .any e=true∧(e.on=k∨tb (acc e.on) k=true):=by unfold O1;rw [←Array.foldl_toList,Acc,af];simp
def L8 (l:List Oper):Array Nat:=l.foldl (fun acc o=>acc.push (O1 (fun i=>acc.getD i 0) o)) #[]
theorem Nr (l:List Oper)(o:Oper):L8 (l++ [o])=(L8 l).push (O1 (fun i=>(L8 l).getD i 0) o):=by simp [L8]
theorem Ns (l:List Oper):(L8 l).size=l.length:=by
 rw [←List.reverse_reverse l];induction l.reverse with
 |nil=>rfl
 |cons o l ih=>rw [List.reverse_cons,Nr];simp [ih]
theorem O2 (l:List Oper)(m:List Oper)(i:Nat)(hi:i<l.length):(L8 (l++m)).getD i 0=(L8 l).getD i 0:=by
 rw [←List.reverse_reverse m];induction m.reverse with
 |nil=>simp
 |cons o m ih=>rw [List.reverse_cons,←List.append_assoc,Nr];simp only [Array.getD_eq_getD_getElem?]at ih ⊢;rw [Array.getElem?_push_lt (by rw [Ns];simp;omega),←ih,Array.getElem?_eq_getElem]
theorem Tg (ops:Array Oper):Region.before ops=L8 ops.toList:=by unfold Region.before L8 O1;rw [←Array.foldl_toList]
theorem aj (ops:Array Oper)(ho:ops[j]?=some o): ∃f:Nat→Nat,(∀i k,tb (f i) k=true→tb (b0 ops i) k=true)∧b0 ops j=O1 f o:=by
 have hl:ops.toList[j]?=some o:=by simpa using ho
 obtain⟨hj,he⟩:=List.getElem?_eq_some_iff.1 hl;have hsplit:ops.toList=ops.toList.take j++ [o]++ops.toList.drop (j+1):=by rw [←he,List.append_assoc,List.singleton_append,←List.drop_eq_getElem_cons hj,List.take_append_drop]
 have hlen:(ops.toList.take j).length=j:=by rw [List.length_take];omega
 refine⟨fun i=>(L8 (ops.toList.take j)).getD i 0,?_,?_⟩
 ·intro i k hb;by_cases hi:i<j;·unfold b0 P7;rw [Tg,hsplit,List.append_assoc,O2 _ _ _ (by omega)];exact hb
  ·simp only [Array.getD_eq_getD_getElem?]at hb;rw [Array.getElem?_eq_none (by rw [Ns];omega)]at hb;simp [af]at hb
 ·unfold b0 P7;rw [Tg];conv=>lhs;rw [hsplit]
  rw [O2 _ _ _ (by rw [List.length_append,hlen];exact Nat.lt_succ_self j),Nr];simp only [Array.getD_eq_getD_getElem?];have:j=(L8 (ops.toList.take j)).size:=by rw [Ns];omega
  conv=>lhs;rw [show((L8 (ops.toList.take j)).push (O1 (fun i=>(L8 (ops.toList.take j))[i]?.getD 0) o))[j]?=some (O1 (fun i=>(L8 (ops.toList.take j))[i]?.getD 0) o) from by rw [Array.getElem?_push];rw [if_pos this]]
  rfl
theorem am (ho:ops[j]?=some o){e:Edge}(he:e∈o.after.toList)(hb:Region.binds .any e=true):tb (b0 ops j) e.on=true:=by obtain⟨f,_,h2⟩:=aj ops ho;rw [h2,Tf];exact⟨e,he,hb,.inl rfl⟩
theorem ze (ho:ops[j]?=some o)(hk:tb (b0 ops j) k=true): ∃e∈o.after.toList,Region.binds .any e=true∧(e.on=k∨tb (b0 ops e.on) k=true):=by obtain⟨f,h1,h2⟩:=aj ops ho;rw [h2,Tf]at hk;obtain⟨e,g1,g2,g3⟩:=hk;exact⟨e,g1,g2,g3.imp id (h1 _ _)⟩
theorem O3 {p q:Nat→Bool}{i:Nat}(hq: ∀k,k≠i→q k=p k)(hi:q i=false)(hp:p i=true): ∀l:List Nat,l.Nodup→i∈l→l.countP q+1=l.countP p
 | [],_,h=>by cases h
 |a::l,hn,h=>by
  obtain⟨hn1,hn2⟩:=List.nodup_cons.1 hn;by_cases e:a=i;·subst e;rw [List.countP_cons_of_pos hp,List.countP_cons_of_neg (by simp [hi])];congr 1;exact List.countP_congr fun k hk=>by rw [hq k (fun e=>hn1 (e ▸ hk))]
  ·have hm:i∈l:=(by rcases List.mem_cons.1 h with h|h;exact absurd h.symm e;exact h);have ih:=O3 hq hi hp l hn2 hm;have hqa:=hq a e;by_cases hpa:p a=true;·rw [List.countP_cons_of_pos hpa,List.countP_cons_of_pos (by rw [hqa];exact hpa)];omega
   ·rw [List.countP_cons_of_neg hpa,List.countP_cons_of_neg (by rw [hqa];exact hpa)];exact ih
section
variable {E:Env}{nt:Nat}
theorem px (h:P8 ops=true)(hj:j<ops.size)(hb:tb (b0 ops j) i=true):i<j:=by unfold P8 at h;rw [List.all_eq_true]at h;exact Ahv (Ak (h j (List.mem_range.2 hj))) hb
theorem gi (hreg:P8 ops=true){listed:Array Bool}(hs:listed.size=ops.size)(hr:Region.ready .any ops listed= []): ∀j,j<ops.size→listed.getD j true=true:=by
 intro j;induction j using Nat.strongRecOn with
 |_ j ih=>
  intro hj
  cases hl:listed.getD j true with
  |true=>rfl
  |false=>
   exfalso;have:j∈Region.ready .any ops listed:=by
    unfold Region.ready;rw [List.mem_filter];refine⟨List.mem_range.2 hj,?_⟩;rw [hl,Array.getElem?_eq_getElem hj];simp only [Bool.not_false,Option.map_some,Option.getD_some,Bool.true_and,Array.all_eq_true_iff_forall_mem];intro e he;by_cases hb:Region.binds .any e=true;·rw [hb];have hbit:=am (ops:=ops) (j:=j) (o:=ops[j]) (Array.getElem?_eq_getElem hj) (by simpa using he) hb;have hlt:=px hreg hj hbit;have:=ih e.on hlt (by omega);rw [Array.getD_eq_getD_getElem?,Array.getElem?_eq_getElem (by omega)]at this ⊢;simpa using this
    ·simp [hb]
   rw [hr]at this;cases this
theorem Ad4 (hreg:P8 ops=true): ∀(fuel t:Nat) (listed:Array Bool) (D:List Nat),listed.size=ops.size→(∀j,j<ops.size→(listed.getD j true=true↔j∈D))→ (∀j∈D,∀i,tb (b0 ops j) i=true→i∈D)→(List.range ops.size).countP (fun j=>!listed.getD j true)≤fuel→Ext ops.size (b0 ops) D (Region.linearise.go .any ops fuel t listed []):=by
 intro fuel;induction fuel with
 |zero=>
  intro t listed D hs hl hc hf;simp only [Region.linearise.go,List.reverse_nil];refine .nil fun j hj=>(hl j hj).1 ?_;have:(List.range ops.size).countP (fun j=>!listed.getD j true)=0:=by omega
  have:=List.countP_eq_zero.1 this j (List.mem_range.2 hj);simpa using this
 |succ fuel ih=>
  intro t listed D hs hl hc hf;simp only [Region.linearise.go];change Ext _ _ _ (match(Region.ready .any ops listed)[t % (Region.ready .any ops listed).length]? with
   |some i=>Region.linearise.go .any ops fuel (t / (Region.ready .any ops listed).length) (listed.setIfInBounds i true) [i]
   |none=> [].reverse)
  cases hi:(Region.ready .any ops listed)[t % (Region.ready .any ops listed).length]? with
  |none=>
   have hnil:Region.ready .any ops listed= []:=by
    cases hr:Region.ready .any ops listed with
    |nil=>rfl
    |cons x xs=>rw [hr]at hi;have hlt:t % (x::xs).length<(x::xs).length:=Nat.mod_lt _ (by simp);have:=List.getElem?_eq_none_iff.1 hi;omega
   simp only [List.reverse_nil];exact .nil fun j hj=>(hl j hj).1 (gi hreg hs hnil j hj)
  |some i=>
   simp only [];rw [linearise_go_acc,List.reverse_singleton,List.singleton_append];have hmem:=List.mem_of_getElem? hi;unfold Region.ready at hmem;rw [List.mem_filter,List.mem_range]at hmem;obtain⟨hin,hrd⟩:=hmem;rw [Bool.and_eq_true]at hrd;obtain⟨hun,hdep⟩:=hrd;have hun':listed.getD i true=false:=(by simpa using hun);rw [Array.getElem?_eq_getElem hin]at hdep;simp only [Option.map_some,Option.getD_some,Array.all_eq_true_iff_forall_mem]at hdep;have hget: ∀k,k≠i→(listed.setIfInBounds i true).getD k true=listed.getD k true:=fun k hk=>by simp only [Array.getD_eq_getD_getElem?,Array.getElem?_setIfInBounds];rw [if_neg (Ne.symm hk)]
   have hgi:(listed.setIfInBounds i true).getD i true=true:=(by simp only [Array.getD_eq_getD_getElem?,Array.getElem?_setIfInBounds];simp [hs,hin]);have hb: ∀k,tb (b0 ops i) k=true→k∈D:=by
    intro k hk;obtain⟨e,g1,g2,g3⟩:=ze (ops:=ops) (Array.getElem?_eq_getElem hin) hk;have hd:=hdep e (by simpa using g1);rw [g2]at hd;simp only [Bool.not_true,Bool.false_or]at hd;have hlt:=px hreg hin (am (Array.getElem?_eq_getElem hin) g1 g2);have hon:e.on∈D:=(hl e.on (by omega)).1 (by rw [Array.getD_eq_getD_getElem?,Array.getElem?_eq_getElem (by omega)]at hd ⊢;simpa using hd);rcases g3 with rfl|g3;·exact hon
    ·exact hc _ hon _ g3
   refine .cons hin (fun hd=>by rw [(hl i hin).2 hd]at hun';cases hun') hb (ih _ _ (i::D) (by simpa using hs) ?_ ?_ ?_)
   ·intro k hk;by_cases e:k=i;·subst e;rw [hgi];simp
    ·rw [hget k e,hl k hk];simp [e]
   ·intro k hk m hm;rcases List.mem_cons.1 hk with e|hk;·exact List.mem_cons_of_mem _ (hb m (e ▸ hm))
    ·exact List.mem_cons_of_mem _ (hc k hk m hm)
   ·have:=O3 (p:=fun j=>!listed.getD j true) (q:=fun j=>!(listed.setIfInBounds i true).getD j true) (i:=i) (fun k hk=>by rw [hget k hk]) (by rw [hgi];rfl) (by rw [hun'];rfl) (List.range ops.size) List.nodup_range (List.mem_range.2 hin);omega
theorem gj (hreg:P8 ops=true)(t:Nat):Ext ops.size (b0 ops) [] (Region.schedule true ops t):=by
 unfold Region.schedule Region.linearise;simp only [Bool.true_or,if_true];refine Ad4 hreg _ _ _ [] (by simp) (fun j hj=>?_) (fun j hj=>by cases hj) ?_;·simp [Array.getD_eq_getD_getElem?,hj]
 ·have:=List.countP_le_length (p:=fun j=>!(Array.replicate ops.size false).getD j true) (l:=List.range ops.size);simpa using this
end
theorem G6 {e:Nat}(h:tb (K9 b i e j) k=true):tb (b j) k=true∨((j=e∨tb (b j) e=true)∧(k=i∨tb (b i) k=true)):=by
 unfold K9 at h
 cases hc:(Nat.beq j e || tb (b j) e)with
 |false=>rw [hc]at h;exact .inl h
 |true=>
  rw [hc]at h;have h':tb ((b j ||| 2 ^ i) ||| b i) k=true:=h;rw [ag,ag,pv]at h';simp only [Bool.or_eq_true,decide_eq_true_eq]at h' hc;have hc':j=e∨tb (b j) e=true:=hc.imp (fun h=>Nat.eq_of_beq_eq_true h) id;rcases h' with(h1|h1)|h1;·exact .inl h1
  ·exact .inr ⟨hc',.inl h1.symm⟩
  ·exact .inr ⟨hc',.inr h1⟩
theorem Ext.given {e:Nat}(h:Ext n b D td)(hi:i∈D)(hb: ∀k,tb (b i) k=true→k∈D):Ext n (K9 b i e) D td:=by
 induction h with
 |nil h=>exact .nil h
 | @cons D td j hj hn hbj hs ih=>
  refine .cons hj hn (fun k hk=>?_) (ih (List.mem_cons_of_mem _ hi) fun k hk=>List.mem_cons_of_mem _ (hb k hk));rcases G6 hk with h1|⟨_,h2|h2⟩;·exact hbj k h1
  ·exact h2 ▸ hi
  ·exact hb k h2
theorem Ext.either {e:Nat}(h:Ext n b D td)(hi:i∉D)(he:e∉D)(hin:i<n)(hen:e<n)(hne:i≠e):Ext n (K9 b i e) D td∨Ext n (K9 b e i) D td:=by
 induction h with
 |nil h=>exact absurd (h i hin) hi
 | @cons D td j hj hn hbj hs ih=>
  by_cases ei:j=i
  ·subst ei;refine .inl (.cons hj hn (fun k hk=>?_) (hs.given (List.mem_cons_self ..) fun k hk=>List.mem_cons_of_mem _ (hbj k hk)));rcases G6 hk with h1|⟨h1|h1,_⟩;·exact hbj k h1
   ·exact absurd h1 hne
   ·exact absurd (hbj e h1) he
  ·by_cases ee:j=e;·subst ee;refine .inr (.cons hj hn (fun k hk=>?_) (hs.given (List.mem_cons_self ..) fun k hk=>List.mem_cons_of_mem _ (hbj k hk)));exact Ahx
   ·have hi':i∉j::D:=fun h=>by rcases List.mem_cons.1 h with h|h;exact ei h.symm;exact hi h
    have he':e∉j::D:=fun h=>by rcases List.mem_cons.1 h with h|h;exact ee h.symm;exact he h
    rcases ih hi' he' with g|g
    ·refine .inl (.cons hj hn (fun k hk=>?_) g);rcases G6 hk with h1|⟨h1|h1,_⟩;·exact hbj k h1
     ·exact absurd h1 ee
     ·exact absurd (hbj e h1) he
    ·refine .inr (.cons hj hn (fun k hk=>?_) g);exact Ahx
theorem If {E:Env}{nt:Nat}{ops:Array Oper}{td:List Nat}: ∀(f:Nat) (b:Nat→Nat),Ext ops.size b [] td→ ∃v∈Fb E nt ops f b,Ext ops.size v [] td
 |0,b,h=>⟨b,by simp [Fb],h⟩
 |f+1,b,h=>by
  simp only [Fb]
  cases Ab7 (A1 E nt ⟨ops,b⟩)with
  |none=>exact⟨b,by simp,h⟩
  |some p=>
   obtain⟨i,e⟩:=p;simp only
   cases hc:(Nat.ble (Nat.succ i) ops.size && Nat.ble (Nat.succ e) ops.size && !(Nat.beq i e))with
   |false=>exact⟨b,by simp,h⟩
   |true=>
    simp only [Bool.and_eq_true]at hc;obtain⟨⟨h1,h2⟩,h3⟩:=hc;have hne:i≠e:=(by intro e';subst e';rw [Nat.beq_refl]at h3;cases h3);rcases h.either (i:=i) (e:=e) (by simp) (by simp) (Ak h1) (Ak h2) hne with g|g;·obtain⟨v,q1,q2⟩:=If f _ g;exact⟨v,List.mem_append_left _ q1,q2⟩
    ·obtain⟨v,q1,q2⟩:=If f _ g;exact⟨v,List.mem_append_right _ q1,q2⟩
theorem Ahy {p:Prop}(h:p:=by
 intro i hi m hm
 rcases List.mem_cons.1 hi with e|hi
 ·exact List.mem_cons_of_mem _ (h3 m (e ▸ hm))
 ·exact List.mem_cons_of_mem _ (hs.cl i hi m hm)):p:=h
theorem L9 (tm:T AV)(t:Nat): ∀l:List Nat,T.get (only tm l) t=if t∈l then T.get tm t else none
 | []=>by simp [only,T.get_leaf]
 |x::l=>by
  simp only [only]
  cases hx:T.get tm x with
  |none=>
   simp only [];rw [L9 tm t l];by_cases e:t=x;·subst e;simp [hx]
   ·simp [e]
  |some v=>
   simp only [];rw [T.get_set,L9 tm t l];by_cases e:t=x;·subst e;simp [hx]
   ·simp [e]
theorem Qw {tm tm':T AV}: ∀{l:List Nat},(∀t∈l,T.get tm t=T.get tm' t)→only tm l=only tm' l
 | [],_=>rfl
 |x::l,h=>by simp only [only];rw [h x (List.mem_cons_self ..),Qw (l:=l) fun t ht=>h t (List.mem_cons_of_mem _ ht)]
theorem an {nt:Nat}{l:List Nat}(hs:tmps.size=nt)(h: ∀t∈l,∀v,T.get tm t=some v→VR φ v (tmps.getD t undef)):TR φ nt (only tm l) tmps:=by
 refine⟨hs,fun t v hv=>?_⟩;rw [L9]at hv;by_cases e:t∈l;·rw [if_pos e]at hv;exact h t e v hv
 ·rw [if_neg e]at hv;cases hv
theorem zf {g:AFn}(h:yk f g=true):f=g:=by cases f <;> cases g <;> simp [yk]at h;subst h;rfl
theorem Ji {f:AV→AV→Bool}(hf: ∀x y,f x y=true→x=y): ∀{l l':List AV},Hp f l l'=true→l=l'
 | [],[],_=>rfl
 | [],_::_,h=>by simp [Hp]at h
 |_::_,[],h=>by simp [Hp]at h
 |a::l,b::l',h=>by
  simp only [Hp]at h;split at h;·rename_i hb;rw [hf _ _ hb,Ji hf h]
  ·cases h
theorem Ad5 {u w:Value}(h:vEq u w=true):u=w:=by
 unfold vEq at h;split at h
 ·rename_i a n c;split at h
  ·rename_i a' n' c';split at h
   ·rename_i h1 h2 h3 h4;obtain⟨b,o,s⟩:=a;obtain⟨b',o',s'⟩:=a';simp only at h h1 h2;rw [Am h1,Am h2,Am h3,Am h4]
    cases s with
    |none=>cases s' with
     |none=>rfl
     |some _=>cases h
    |some t=>cases s' with
     |none=>cases h
     |some t'=>rw [Am h]
   ·cases h
  ·cases h
 ·cases h
theorem Pv: ∀(d:Nat) (x y:AV),F3 d x y=true→x=y
 |0,_,_,h=>by simp [F3]at h
 |d+1,x,y,h=>by
  have ih:=Pv d
  cases x <;> cases y <;> simp only [F3]at h <;> first
   |(cases h;done)
   |rfl
   |(rw [X1]at h;rw [of_decide_eq_true h])
   |(split at h;{rename_i hk;rw [Ew]at h;rw [Bi hk,of_decide_eq_true h]};{cases h})
   |(rw [Kb]at h;rw [of_decide_eq_true h])
   |(split at h;{rename_i hk;rw [Am hk,Am h]};{cases h})
   |(split at h;{rename_i h1 h2 h3 h4;rw [Am h1,Am h2,Am h3,Am h4]};{cases h})
   |(rw [Am h])
   |(split at h;{rename_i h1 h2 h3;rw [zf h1,Ji ih h2,Ji ih h3]};{cases h})
   |(split at h;{rename_i h1;rw [Am h1,ih _ _ h]};{cases h})
   |(rw [Ji ih h])
   |(rw [Ad5 h])
def Ig (tm:T AV)(d:Option Nat)(v:AV):Prop:= ∀t,d=some t→T.get tm t=some v
theorem aq {d:Option Nat}(h:holds tm d v=true):Ig tm d v:=by
 intro t e;subst e;simp only [holds]at h;split at h;·rename_i u hu;rw [hu,Pv _ _ _ h]
 ·cases h
section
variable {E:Env}{nt:Nat}{Rg:Reg}
def PF (E:Env)(nt:Nat)(Rg:Reg)(tm:T AV)(h:H)(j:Nat):Prop:=
 (wanted (only tm (nm' Rg j)) (ci' E nt Rg j).guard=some false∧Ig tm (ci' E nt Rg j).dst (.tup []))∨
 (wanted (only tm (nm' Rg j)) (ci' E nt Rg j).guard=some true∧ ∃v h1,exec (ci' E nt Rg j).op h (only tm (nm' Rg j))= .val v h1∧Ig tm (ci' E nt Rg j).dst v)
def PM (E:Env)(nt:Nat)(Rg:Reg)(tm:T AV)(h:H)(o:Option Nat)(j:Nat):Prop:=
 (o=none∧wanted (only tm (nm' Rg j)) (ci' E nt Rg j).guard=some false∧Ig tm (ci' E nt Rg j).dst (.tup []))∨
 (∃b blk h0 v,o=some b∧wanted (only tm (nm' Rg j)) (ci' E nt Rg j).guard=some true∧exec (ci' E nt Rg j).op h0 (only tm (nm' Rg j))= .val v (H.new h0 blk)∧h0.n=b∧
  Ig tm (ci' E nt Rg j).dst v∧H.get h b=some blk)
theorem We (hc:check (Ho (rw' E nt Rg j)) tm h=true):PF E nt Rg tm h j:=by
 unfold check at hc;change (match wanted (only tm (nm' Rg j)) (ci' E nt Rg j).guard with
  |some false=>holds tm (ci' E nt Rg j).dst (.tup [])
  |none=>false
  |some true=>match exec (ci' E nt Rg j).op h (only tm (nm' Rg j))with
   | .val v _=>holds tm (ci' E nt Rg j).dst v
   |_=>false)=true at hc
 split at hc;·rename_i hw;exact .inl ⟨hw,aq hc⟩
 ·cases hc
 ·rename_i hw;split at hc;·rename_i v h1 hx;exact .inr ⟨hw,v,h1,hx,aq hc⟩
  ·cases hc
theorem Lc {tm:T AV}{h:H}: ∀{l:List DI},checks l tm h=true→ ∀i∈l,check i tm h=true
 | [],_,i,hi=>by cases hi
 |a::l,hc,i,hi=>by
  simp only [checks]at hc;split at hc
  ·rename_i ha;rcases List.mem_cons.1 hi with e|hi;·subst e;exact ha
   ·exact Lc hc i hi
  ·cases hc
structure Ran (E:Env)(nt:Nat)(Rg:Reg)(js:List Nat)(tm:T AV)(h:H)(tm':T AV)(h':H)(bn:Nat→Option Nat):Prop where
 tm: ∀t,(∀j∈js,(ci' E nt Rg j).dst≠some t)→T.get tm' t=T.get tm t
 n:h.n≤h'.n
 blk: ∀b,b<h.n→H.get h' b=H.get h b
 same:(∀j∈js,cl' E nt Rg j≠2)→h'=h
 rng: ∀j b,bn j=some b→h.n≤b∧b<h'.n
 inj: ∀i j b,bn i=some b→bn j=some b→i=j
 mem: ∀j b,bn j=some b→j∈js
 mks: ∀j∈js,cl' E nt Rg j=2→PM E nt Rg tm' h' (bn j) j
 pf: ∀j∈js,cl' E nt Rg j≠2→(cl' E nt Rg j=0∨ ∀i∈js,cl' E nt Rg i≠2)→PF E nt Rg tm' h' j
theorem Nt (h:cls c≠3):cls c=0∨cls c=1∨cls c=2:=by have:=Ad2 c;omega
theorem Pw (tm:T AV)(d:Option Nat)(v:AV)(t:Nat):T.get (put tm d v) t=if d=some t then some v else T.get tm t:=by
 cases d with
 |none=>simp [put]
 |some d=>
  simp only [put,T.get_set,Option.some.injEq];by_cases e:t=d;·subst e;simp
  ·rw [if_neg e,if_neg (fun h=>e h.symm)]
theorem Th (hreg:Fu (A1 E nt Rg)=true){q:Nat}: ∀(js:List Nat) (tm:T AV) (h:H) (tm':T AV) (h':H),G4 (js.map fun j=>Ho (rw' E nt Rg j)) tm h=some (tm',h')→ js.Pairwise (· < ·)→(∀j∈js,j<Rg.ops.size∧cl' E nt Rg j≠3∧cn' E nt Rg j=q)→ ∃bn,Ran E nt Rg js tm h tm' h' bn
 | [],tm,h,tm',h',hx,_,_=>by simp only [List.map_nil,G4,Option.some.injEq,Prod.mk.injEq]at hx;obtain⟨rfl,rfl⟩:=hx;exact⟨fun _=>none,fun _ _=>rfl,Nat.le_refl _,fun _ _=>rfl,fun _=>rfl,fun _ _ h=>(by cases h),fun _ _ _ h=>(by cases h),fun _ _ h=>(by cases h),fun j hj=>(by cases hj),fun j hj=>(by cases hj)⟩
 |j::js,tm,h,tm',h',hx,hp,hjs=>by
  obtain⟨hp1,hp2⟩:=List.pairwise_cons.1 hp;obtain⟨hj,hcj,hqj⟩:=hjs j (List.mem_cons_self ..);have hjs': ∀i∈js,i<Rg.ops.size∧cl' E nt Rg i≠3∧cn' E nt Rg i=q:=fun i hi=>hjs i (List.mem_cons_of_mem _ hi);rw [List.map_cons]at hx;simp only [G4]at hx;change (match wanted (only tm (nm' Rg j)) (ci' E nt Rg j).guard with
   |some true=>match exec (ci' E nt Rg j).op h (only tm (nm' Rg j))with
    | .val v h1=>G4 (js.map fun j=>Ho (rw' E nt Rg j)) (put tm (ci' E nt Rg j).dst v) h1
    |_=>none
   |some false=>G4 (js.map fun j=>Ho (rw' E nt Rg j)) (put tm (ci' E nt Rg j).dst (.tup [])) h
   |none=>none)=some (tm',h')at hx
  have key: ∀(v:AV) (h1:H),G4 (js.map fun j=>Ho (rw' E nt Rg j)) (put tm (ci' E nt Rg j).dst v) h1=some (tm',h')→
    ∃bn,Ran E nt Rg js (put tm (ci' E nt Rg j).dst v) h1 tm' h' bn∧only tm' (nm' Rg j)=only tm (nm' Rg j)∧Ig tm' (ci' E nt Rg j).dst v∧(∀b,bn j≠some b)∧
     (∀t,(∀i∈j::js,(ci' E nt Rg i).dst≠some t)→T.get tm' t=T.get tm t):=by
   intro v h1 hx
   obtain⟨bn,R⟩:=Th hreg js _ h1 tm' h' hx hp2 hjs'
   refine⟨bn,R,Qw fun t ht=>?_,fun t ht=>?_,fun b hb=>?_,fun t ht=>?_⟩
   ·rw [R.tm t,Pw,if_neg]
    ·intro hd;exact(Hu hreg hj hj hcj hd).1 rfl ht
    ·intro i hi hd
     obtain⟨hi1,hi2,hiq⟩:=hjs' i hi
     have hlt:=hp1 i hi
     have:=((Hu hreg hi1 hj hi2 hd).2 (by omega)).2 ht
     have:=Ad3 hreg hi1 hi2 hj hcj (hqj.trans hiq.symm) this
     omega
   ·rw [R.tm t,Pw,if_pos ht]
    intro i hi hd
    obtain⟨hi1,hi2,hiq⟩:=hjs' i hi
    have hlt:=hp1 i hi
    exact((Hu hreg hj hi1 hcj ht).2 (by omega)).1 hd
   ·have:=hp1 j (R.mem _ _ hb);omega
   ·rw [R.tm t fun i hi=>ht i (List.mem_cons_of_mem _ hi),Pw,if_neg (ht j (List.mem_cons_self ..))]
  split at hx
  ·rename_i hw;split at hx
   ·rename_i v h1 hex;obtain⟨bn,R,e1,e2,e3,e4⟩:=key v h1 hx;rcases Nt hcj with h0|h0|h0
    ·
     have hk:=Lb (.inl h0) hex
     subst hk
     refine⟨bn,e4,R.n,R.blk,fun hn=>R.same fun i hi=>hn i (List.mem_cons_of_mem _ hi),R.rng,R.inj,fun i b hb=>List.mem_cons_of_mem _ (R.mem i b hb),?_,?_⟩
     ·intro i hi h2
      rcases List.mem_cons.1 hi with e|hi
      ·subst e;have:cl' E nt Rg i=0:=h0;omega
      ·exact R.mks i hi h2
     ·intro i hi h2 h3
      rcases List.mem_cons.1 hi with e|hi
      ·subst e
       exact .inr ⟨by rw [e1];exact hw,v,h',by rw [e1];exact gh h0 hex h',e2⟩
      ·exact R.pf i hi h2 (h3.imp id fun h3 i hi=>h3 i (List.mem_cons_of_mem _ hi))
    ·have hk:=Lb (.inr h0) hex;subst hk;refine⟨bn,e4,R.n,R.blk,fun hn=>R.same fun i hi=>hn i (List.mem_cons_of_mem _ hi),R.rng,R.inj,fun i b hb=>List.mem_cons_of_mem _ (R.mem i b hb),?_,?_⟩
     ·intro i hi h2;rcases List.mem_cons.1 hi with e|hi;·subst e;have:cl' E nt Rg i=1:=h0;omega
      ·exact R.mks i hi h2
     ·intro i hi h2 h3;rcases List.mem_cons.1 hi with e|hi
      ·subst e;rcases h3 with h3|h3;·have:cl' E nt Rg i=1:=h0;omega
       ·have hs:=R.same fun i hi=>h3 i (List.mem_cons_of_mem _ hi);subst hs;exact .inr ⟨by rw [e1];exact hw,v,_,by rw [e1];exact hex,e2⟩
      ·exact R.pf i hi h2 (h3.imp id fun h3 i hi=>h3 i (List.mem_cons_of_mem _ hi))
    ·obtain⟨blk,hk⟩:=zc h0 hex;subst hk;have hn1:(H.new h blk).n=h.n+1:=rfl;have hRn:=R.n;refine⟨fun i=>if i=j then some h.n else bn i,e4,by omega,?_,?_,?_,?_,?_,?_,?_⟩;·intro b hb;rw [R.blk b (by omega),H.get_new,if_neg (by omega)]
     ·intro hn;exact absurd h0 (hn j (List.mem_cons_self ..))
     ·intro i b hb;by_cases e:i=j;·simp only [e,if_true,Option.some.injEq]at hb;omega
      ·simp only [e,if_false]at hb;have:=R.rng i b hb;omega
     ·intro i i' b hb hb';by_cases e:i=j
      ·by_cases e':i'=j;·rw [e,e']
       ·simp only [e,if_true,Option.some.injEq]at hb;simp only [e',if_false]at hb';have:=R.rng i' b hb';omega
      ·by_cases e':i'=j;·simp only [e',if_true,Option.some.injEq]at hb';simp only [e,if_false]at hb;have:=R.rng i b hb;omega
       ·simp only [e,if_false]at hb;simp only [e',if_false]at hb';exact R.inj i i' b hb hb'
     ·intro i b hb;by_cases e:i=j;·subst e;exact List.mem_cons_self ..
      ·simp only [e,if_false]at hb;exact List.mem_cons_of_mem _ (R.mem i b hb)
     ·intro i hi h2;rcases List.mem_cons.1 hi with e|hi;·subst e;refine .inr ⟨h.n,blk,h,v,by simp,by rw [e1];exact hw,by rw [e1];exact hex,rfl,e2,?_⟩;rw [R.blk h.n (by omega),H.get_new,if_pos rfl]
      ·have hne:i≠j:=(by have:=hp1 i hi;omega);simp only [hne,if_false];exact R.mks i hi h2
     ·intro i hi h2 h3;rcases List.mem_cons.1 hi with e|hi;·subst e;exact absurd h0 h2
      ·exact R.pf i hi h2 (h3.imp id fun h3 i hi=>h3 i (List.mem_cons_of_mem _ hi))
   ·cases hx
  ·rename_i hw;obtain⟨bn,R,e1,e2,e3,e4⟩:=key (.tup []) h hx;refine⟨bn,e4,R.n,R.blk,?_,R.rng,R.inj,fun i b hb=>List.mem_cons_of_mem _ (R.mem i b hb),?_,?_⟩;·intro hn;exact R.same fun i hi=>hn i (List.mem_cons_of_mem _ hi)
   ·intro i hi h2;rcases List.mem_cons.1 hi with e|hi
    ·subst e;refine .inl ⟨?_,by rw [e1];exact hw,e2⟩
     cases hb:bn i with
     |none=>rfl
     |some b=>exact absurd hb (e3 b)
    ·exact R.mks i hi h2
   ·intro i hi h2 h3;rcases List.mem_cons.1 hi with e|hi;·subst e;exact .inl ⟨by rw [e1];exact hw,e2⟩
    ·exact R.pf i hi h2 (h3.imp id fun h3 i hi=>h3 i (List.mem_cons_of_mem _ hi))
  ·cases hx
def zg (E:Env)(nt:Nat)(Rg:Reg)(k j:Nat):Prop:=cl' E nt Rg j≠3∧cn' E nt Rg j≤k
structure DS (E:Env)(nt:Nat)(Rg:Reg)(k:Nat)(D td:List Nat):Prop where
 reg:Fu (A1 E nt Rg)=true
 ext:Ext Rg.ops.size (bb Rg) D td
 cl: ∀j∈D,∀i,tb (bb Rg j) i=true→i∈D
 lo: ∀m e,m<k→(es' E nt Rg)[m]?=some e→e.j∈D
 hi: ∀m e,k≤m→(es' E nt Rg)[m]?=some e→e.j∉D
structure TRd (E:Env)(φ: Phi)(nt:Nat)(Rg:Reg)(k:Nat)(td:List Nat)(tm:T AV)(tmps:Array Value):Prop where
 size:tmps.size=nt
 val: ∀t v,T.get tm t=some v→(∀j∈td,zg E nt Rg k j→(ci' E nt Rg j).dst≠some t)→VR φ v (tmps.getD t undef)
theorem TRd.mono {φ':Phi}(hp:Phi.le φ φ')(h:TRd E φ nt Rg k td tm tmps):TRd E φ' nt Rg k td tm tmps:= ⟨h.size,fun t v ht hj=>(h.val t v ht hj).mono hp⟩
theorem DS.head (hs:DS E nt Rg k D (j::td)):j<Rg.ops.size∧j∉D∧(∀i,tb (bb Rg j) i=true→i∈D)∧Ext Rg.ops.size (bb Rg) (j::D) td:=by
 cases hs.ext with
 |cons h1 h2 h3 h4=>exact⟨h1,h2,h3,h4⟩
theorem DS.pend (hs:DS E nt Rg k D (j::td))(hc:cl' E nt Rg j≠3):zg E nt Rg k j:=by
 obtain⟨h1,h2,h3,h4⟩:=hs.head;refine⟨hc,?_⟩
 cases Nat.lt_or_ge k (cn' E nt Rg j)with
 |inr h=>exact h
 |inl h=>exfalso;have hlt:k<(es' E nt Rg).length:=Nat.lt_of_lt_of_le h (Ahw j);have he:(es' E nt Rg)[k]?=some ((es' E nt Rg)[k]):=List.getElem?_eq_getElem hlt;exact hs.hi k _ (Nat.le_refl _) he (h3 _ (Qv hs.reg h1 hc h he))
theorem DS.eff (hs:DS E nt Rg k D (j::td))(hc:cl' E nt Rg j=3): ∃e,(es' E nt Rg)[k]?=some e∧e.j=j:=by
 obtain⟨h1,h2,h3,h4⟩:=hs.head;have hm:rw' E nt Rg j∈es' E nt Rg:=mem_es.2 ⟨j,h1,rfl,hc⟩;obtain⟨m,hm⟩:=List.mem_iff_getElem?.1 hm;have hkm:m=k:=by
  rcases Nat.lt_trichotomy m k with h|h|h;·exact absurd (hs.lo m _ h hm) h2
  ·exact h
  ·exfalso;have hlt:k<(es' E nt Rg).length:=Nat.lt_trans h (List.getElem?_eq_some_iff.1 hm).1;have he:(es' E nt Rg)[k]?=some ((es' E nt Rg)[k]):=List.getElem?_eq_getElem hlt;exact hs.hi k _ (Nat.le_refl _) he (h3 _ (Te hs.reg h he hm))
 subst hkm;exact⟨_,hm,rfl⟩
theorem DS.next (hs:DS E nt Rg k D (j::td))(hc:cl' E nt Rg j≠3):DS E nt Rg k (j::D) td:=by
 obtain⟨h1,h2,h3,h4⟩:=hs.head;refine⟨hs.reg,h4,?_,?_,?_⟩;·exact Ahy
 ·intro m e hm he;exact List.mem_cons_of_mem _ (hs.lo m e hm he)
 ·intro m e hm he hd;rcases List.mem_cons.1 hd with e'|hd;·exact hc (e' ▸ (Ie he).2.2.1)
  ·exact hs.hi m e hm he hd
theorem DS.nextE (hs:DS E nt Rg k D (j::td))(hc:cl' E nt Rg j=3):DS E nt Rg (k+1) (j::D) td:=by
 obtain⟨h1,h2,h3,h4⟩:=hs.head;obtain⟨e,he,hej⟩:=hs.eff hc;refine⟨hs.reg,h4,?_,?_,?_⟩;·exact Ahy
 ·intro m f hm hf;by_cases e':m=k;·subst e';rw [he]at hf;cases hf;rw [hej];exact List.mem_cons_self ..
  ·exact List.mem_cons_of_mem _ (hs.lo m f (by omega) hf)
 ·intro m f hm hf hd;rcases List.mem_cons.1 hd with e'|hd;·have hb:=Te hs.reg (by omega:k<m) he hf;have:=zd hs.reg (Ie hf).1;rw [e',←hej]at hb;rw [e',←hej]at this;rw [this]at hb;cases hb
  ·exact hs.hi m f (by omega) hf hd
theorem DS.fin (hs:DS E nt Rg k D []):(es' E nt Rg).length≤k:=by
 cases Nat.lt_or_ge k (es' E nt Rg).length with
 |inr h=>exact h
 |inl h=>
  exfalso;have he:(es' E nt Rg)[k]?=some ((es' E nt Rg)[k]):=List.getElem?_eq_getElem h;have:=hs.hi k _ (Nat.le_refl _) he
  cases hs.ext with
  |nil hall=>exact this (hall _ (Ie he).1)
theorem DS.names (hs:DS E nt Rg k D (j::td))(ht:TRd E φ nt Rg k (j::td) tm tmps): ∀t∈nm' Rg j,∀v,T.get tm t=some v→VR φ v (tmps.getD t undef):=by
 obtain⟨h1,h2,h3,h4⟩:=hs.head;intro t ht' v hv;refine ht.val t v hv fun i hi hp hd=>?_;by_cases e:i=j;·subst e;exact(Hu hs.reg h1 h1 hp.1 hd).1 rfl ht'
 ·have hi':i∈td:=by rcases List.mem_cons.1 hi with h|h;exact absurd h e;exact h
  obtain⟨g1,g2⟩:=h4.apart i hi';have:=((Hu hs.reg g2 h1 hp.1 hd).2 (fun e'=>e e'.symm)).2 ht';exact g1 (List.mem_cons_of_mem _ (h3 _ this))
end
variable {E:Env}{Rg:Reg}{a:Act}{b:Frame}{cs:List Frame}{dfd:Bool}{fn nt:Nat}{k' todo':List Item}{todo:List AItem}{v':Value}{w' w0:World}{φ':Phi}
inductive CR (φ: Phi):List (AV×Bool)→List PanicEntry→Prop where
 |nil:CR φ [] []
 |cons {v:AV} {v':Value} {b:Bool} {l:List (AV×Bool)} {l':List PanicEntry} (h:VR φ v v') (hs:CR φ l l'):CR φ ((v,b)::l) ({v:=v',recovered:=b}::l')
theorem CR.mono (hp:Phi.le φ φ'){l:List (AV×Bool)}{l':List PanicEntry}(h:CR φ l l'):CR φ' l l':=by
 induction h with
 |nil=>exact .nil
 |cons h _ ih=>exact .cons (h.mono hp) ih
theorem CR.append {a b:List (AV×Bool)}{a' b':List PanicEntry}(h:CR φ a a')(k:CR φ b b'):CR φ (a++b) (a'++b'):=by
 induction h with
 |nil=>exact k
 |cons h _ ih=>exact .cons h ih
inductive MR (φ: Phi):AMode→FrameMode→Prop where
 |run:MR φ .run .run
 |returning:MR φ .returning .returning
 |panicking {l:List (AV×Bool)} {l':List PanicEntry} (h:CR φ l l'):MR φ (.panicking l) (.panicking l')
theorem MR.mono (hp:Phi.le φ φ'){m:AMode}{m':FrameMode}(h:MR φ m m'):MR φ' m m':=by
 cases h with
 |run=>exact .run
 |returning=>exact .returning
 |panicking h=>exact .panicking (h.mono hp)
inductive IR (E:Env)(φ: Phi)(nt:Nat):AItem→Item→Prop where
 |code (c:Code):IR E φ nt (.code (Be E nt c)) (.code c)
 |inBlock (id:Nat):IR E φ nt (.inBlock id) (.inBlock id)
 |inLoop (c:Code):IR E φ nt (.inLoop (Be E nt c)) (.inLoop c)
 |inScope (c:Code):IR E φ nt (.inScope (Be E nt c)) (.inScope c)
 |ops (ops:Array Oper) (td:List Nat):IR E φ nt (.ops (td.map (B5 E nt ops))) (.inRegion ops td)
 |inRF {l:Nat} {lo:Loc} (h:φ l=some lo):IR E φ nt (.inRF l) (.inRangeFunc lo.cb)
 |endRF {l:Nat} {lo:Loc} (h:φ l=some lo):IR E φ nt (.endRF l) (.endRangeFunc lo.cb)
 |beginRound:IR E φ nt .beginRound .beginRound
inductive IRs (E:Env)(φ: Phi)(nt:Nat):List AItem→List Item→Prop where
 |nil:IRs E φ nt [] []
 |cons {i:AItem} {i':Item} {l:List AItem} {l':List Item} (h:IR E φ nt i i') (hs:IRs E φ nt l l'):IRs E φ nt (i::l) (i'::l')
theorem IR.mono (hp:Phi.le φ φ'){i:AItem}{i':Item}(h:IR E φ nt i i'):IR E φ' nt i i':=by
 cases h with
 |code c=>exact .code c
 |inBlock id=>exact .inBlock id
 |inLoop c=>exact .inLoop c
 |inScope c=>exact .inScope c
 |ops o td=>exact .ops o td
 |inRF h=>exact .inRF (hp _ _ h)
 |endRF h=>exact .endRF (hp _ _ h)
 |beginRound=>exact .beginRound
theorem IRs.mono (hp:Phi.le φ φ'){i:List AItem}{i':List Item}(h:IRs E φ nt i i'):IRs E φ' nt i i':=by
 induction h with
 |nil=>exact .nil
 |cons h _ ih=>exact .cons (h.mono hp) ih
inductive TD (E:Env)(φ: Phi)(nt:Nat)(tm:T AV):List AItem→Array Value→List Item→Prop where
 |plain {todo:List AItem} {tmps:Array Value} {todo':List Item} (ht:TR φ nt tm tmps) (hi:IRs E φ nt todo todo'):TD E φ nt tm todo tmps todo'
 |gone {tmps:Array Value} {todo':List Item} (ht:TR φ nt tm tmps):TD E φ nt tm [.gone] tmps todo'
 |drawn {Rg:Reg} {k:Nat} {D td:List Nat} {e:Row} {p:Ph} {l:List Ph} {todo:List AItem} {tmps:Array Value} {todo':List Item} (hs:DS E nt Rg k D (e.j::td)) (he:(es' E nt Rg)[k]?=some e)
   (hp:Bp (ne' E nt Rg) (es' E nt Rg) ((es' E nt Rg).drop k) k=p::l) (ht:TRd E φ nt Rg k (e.j::td) tm tmps) (hi:IRs E φ nt todo todo'):TD E φ nt tm (.drawn p l::todo) tmps (.inRegion Rg.ops (e.j::td)::todo')
theorem TD.mono (hp:Phi.le φ φ')(h:TD E φ nt tm todo tmps todo'):TD E φ' nt tm todo tmps todo':=by
 cases h with
 |plain ht hi=>exact .plain (ht.mono hp) (hi.mono hp)
 |drawn hs he hq ht hi=>exact .drawn hs he hq (ht.mono hp) (hi.mono hp)
 |gone ht=>exact .gone (ht.mono hp)
def isD (l:List AItem):Bool:=match l with| .drawn _ _::_=>true|_=>false
theorem IRs.noD {i:List AItem}{i':List Item}(h:IRs E φ nt i i'):isD i=false:=by
 cases h with
 |nil=>rfl
 |cons h _=>cases h <;> rfl
def Dt (d:Bool):CallKind:=match d with|true=> .deferred|false=> .normal
structure FR (E:Env)(φ: Phi)(x:AFr)(fr:Frame):Prop where
 fn:fr.fn=x.fn
 kind:fr.kind=Dt x.dfd
 ro:OptR φ x.ro fr.roundOf
 defers:DRs φ x.defers fr.defers
 mode:MR φ x.mode fr.mode
 body:TD E φ x.nt x.tm x.todo fr.tmps fr.todo
 dr:isD x.todo=true→x.mode= .run
theorem FR.mono (hp:Phi.le φ φ'){x:AFr}{fr:Frame}(h:FR E φ x fr):FR E φ' x fr:= ⟨h.fn,h.kind,h.ro.mono hp,h.defers.mono hp,h.mode.mono hp,h.body.mono hp,h.dr⟩
inductive FRs (E:Env)(φ: Phi):List AFr→List Frame→Prop where
 |nil:FRs E φ [] []
 |cons {x:AFr} {fr:Frame} {l:List AFr} {l':List Frame} (h:FR E φ x fr) (hs:FRs E φ l l'):FRs E φ (x::l) (fr::l')
theorem FRs.mono (hp:Phi.le φ φ'){l:List AFr}{l':List Frame}(h:FRs E φ l l'):FRs E φ' l l':=by
 induction h with
 |nil=>exact .nil
 |cons h _ ih=>exact .cons (h.mono hp) ih
structure HW (E:Env)(w0:World)(φ: Phi)(h:H)(w:World):Prop where
 hr:HR E w0.heap φ h w.heap
 like:Like w0 w
theorem HW.to (k:HW E w0 φ h w)(hr:HR E w0.heap φ' h' w'.heap)(hl:Like w w'):HW E w0 φ' h' w':=⟨hr,k.like.trans hl⟩
structure At (E:Env)(w0:World)(cs0:List Frame)(c:Conf)(m:Machine):Prop where
 ex: ∃φ fr cs w,m=lone fr (cs++cs0) w∧FR E φ c.fr fr∧FRs E φ c.cs cs∧HW E w0 φ c.h w
def Goes (P:Program)(E:Env)(w0:World)(cs0:List Frame)(o:Out)(m:Machine):Prop:=
 match o with
 | .one c=> ∃m',Steps P m m'∧At E w0 cs0 c m'
 | .many l=> ∃c∈l,∃m',Steps P m m'∧At E w0 cs0 c m'
 | .done fn v h=> ∃fr w φ v',Steps P m (lone fr cs0 w)∧fr.fn=fn∧fr.leaving P w (.returned v')∧VR φ v v'∧HW E w0 φ h w
 | .fail=>True
theorem Jj (E:Env)(nt:Nat)(l:Nat): ∀(c:Code),Ev.findLabel (Be E nt c) l=(Go.findLabel c l).map (Be E nt)
 | .seq a b=>by
  simp only [Be,Ev.findLabel,Go.findLabel];rw [Jj E nt l a,Jj E nt l b]
  cases Go.findLabel a l with
  |some r=>rfl
  |none=>rfl
 | .label l'=>by
  simp only [Be,Ev.findLabel,Go.findLabel];by_cases h:l'=l;·subst h;have:Nat.beq l' l'=true:=Nat.beq_refl l';rw [this];simp [Be]
  ·have:Nat.beq l' l=false:=(by cases hb:Nat.beq l' l with|false=>rfl|true=>exact absurd (Am hb) h);rw [this];simp [h]
 | .region id ops d=>by
  simp only [Be,Et,Go.findLabel,Option.map_none];repeat' split
  all_goals rfl
 | .rangeFunc f ps a b=>by
  simp only [Be,Go.findLabel,Option.map_none];repeat' split
  all_goals rfl
 | .skip=>rfl
 | .cond _ _ _=>rfl
 | .block _ _=>rfl
 | .loop _=>rfl
 | .exit _=>rfl
 | .scope _=>rfl
 | .goto _=>rfl
 | .ret=>rfl
 | .refuse _=>rfl
theorem py {id:Nat}{k:List AItem}(h:IRs E φ nt k k'): (Ev.exitTo id k=none→Go.exitTo id k'=none)∧(∀r,Ev.exitTo id k=some r→ ∃r',Go.exitTo id k'=some r'∧IRs E φ nt r r'):=by
 induction h with
 |nil=>exact⟨fun _=>rfl,fun r h=>by simp [Ev.exitTo]at h⟩
 |cons h hs ih=>
  cases h with
  |inBlock id'=>
   simp only [Ev.exitTo,Go.exitTo];by_cases he:id'=id;·subst he;have:Nat.beq id' id'=true:=Nat.beq_refl id';rw [this];exact⟨fun h=>(by cases h),fun r h=>by simp only [Option.some.injEq]at h;subst h;exact⟨_,by simp,hs⟩⟩
   ·have hb:Nat.beq id' id=false:=(by cases hb:Nat.beq id' id with|false=>rfl|true=>exact absurd (Am hb) he);rw [hb];have:(id' == id)=false:=(by simp [he]);simp only [this,Bool.false_eq_true,if_false];exact ih
  |_=>exact ih
theorem pz {l:Nat}{k:List AItem}(h:IRs E φ nt k k'): (Ev.gotoIn l k=none→Go.gotoIn l k'=none)∧(∀r,Ev.gotoIn l k=some r→ ∃r',Go.gotoIn l k'=some r'∧IRs E φ nt r r'):=by
 induction h with
 |nil=>exact⟨fun _=>rfl,fun r h=>by simp [Ev.gotoIn]at h⟩
 |cons h hs ih=>
  cases h with
  |inScope c=>
   simp only [Ev.gotoIn,Go.gotoIn,Jj]
   cases Go.findLabel c l with
   |none=>simpa using ih
   |some r=>simp only [Option.map_some];exact⟨fun h=>(by cases h),fun q h=>by simp only [Option.some.injEq]at h;subst h;exact⟨_,rfl,.cons (.code _) (.cons (.inScope _) hs)⟩⟩
  |_=>exact ih
section
theorem TR.put' (h:TR φ nt tm a.tmps){d:Option Nat}(hd:Oo nt d=true)(hv:VR φ v v'):TR φ nt (Ev.put tm d v) (a.put d v').tmps:=by
 have:=h.put hd hv
 cases d with
 |none=>exact this
 |some d=>exact this
theorem Ef (h:TR φ nt tm a.tmps){g:Option (Nat×Bool)}(hg:L1 ops o.guard=some g){q:Bool}(hw:Ev.wanted tm g=some q): Region.wanted o (yielded ops a.tmps)=q:=by
 unfold L1 at hg;unfold Region.wanted
 cases hgd:o.guard with
 |none=>rw [hgd]at hg;simp only [Option.some.injEq]at hg;subst hg;simp only [Ev.wanted,Option.some.injEq]at hw;exact hw
 |some p=>
  obtain⟨j,b⟩:=p;rw [hgd]at hg;simp only at hg ⊢;split at hg
  ·rename_i d hd;simp only [Option.some.injEq]at hg;subst hg;simp only [Ev.wanted]at hw;have hy:yielded ops a.tmps j=match a.tmps[d]? with|some (.bool c)=>some c|_=>none:=by unfold yielded;rw [hd];rfl
   rw [hy];split at hw
   ·rename_i c hc;simp only [Option.some.injEq]at hw;subst hw;have:=(h.val d _ hc).bool_inv;rw [Array.getD_eq_getD_getElem?]at this
    cases ht:a.tmps[d]? with
    |none=>rw [ht]at this;simp [undef]at this
    |some u=>
     rw [ht]at this;simp at this;subst this
     cases b <;> cases c <;> rfl
   ·rename_i hc;simp only [Option.some.injEq]at hw;subst hw;obtain⟨c,e1,_⟩:=(h.val d _ hc).tup_inv;rw [Array.getD_eq_getD_getElem?]at e1
    cases ht:a.tmps[d]? with
    |none=>rfl
    |some u=>rw [ht]at e1;simp at e1;subst e1;rfl
   ·cases hw
  ·cases hg
theorem Jk (E:Env)(nt:Nat)(ops:Array Oper)(j:Nat): (B5 E nt ops j=⟨none,none,.bad⟩)∨(∃o,ops[j]?=some o∧(B5 E nt ops j).dst=o.dst∧Oo nt o.dst=true∧L1 ops o.guard=some (B5 E nt ops j).guard∧(B5 E nt ops j).op=An E o.op):=by
 unfold B5
 cases ho:ops[j]? with
 |none=>exact .inl rfl
 |some o=>
  simp only;unfold L2
  cases h1:Oo nt o.dst with
  |false=>exact .inl rfl
  |true=>
   cases h2:L1 ops o.guard with
   |none=>exact .inl rfl
   |some g=>exact .inr ⟨o,rfl,rfl,h1,h2,rfl⟩
variable {k:List Item}
theorem Hv {rest:List Nat}{v:Value}(ho:ops[j]?=some o)(hw:Region.wanted o (yielded ops a.tmps)=true)(hd: ∀c,o.op≠ .defer c) (hx:(execOp a.eval o).run P w= .ok (.value v) w'∨((execOp a.eval o).run P w= .ok .skip w'∧v=undef)): Go.step P (lone (b.atR a (.inRegion ops (j::rest)::k)) cs w)= .next (lone (b.atR (a.put o.dst v) (.inRegion ops rest::k)) cs w'):=by
 have hf:=Frame.finish_atR b a ops j rest k v;rw [ho]at hf;simp only [Option.bind_some]at hf;rw [←hf];apply step_lone_go;rw [stepGR_op ho hw,Oper.semAt_eq _ _ _ hd];rcases hx with hx|⟨hx,rfl⟩;·simp [stepG.apply,Sem.runT_eq,hx]
 ·simp [stepG.apply,Sem.runT_eq,hx]
def Ur (E:Env)(nt:Nat)(ops:Array Oper)(w0:World)(r:OR)(φ: Phi)(a:Act)(td:List Nat)(w:World):Prop:=
 match r with
 | .fin tm h=>td= []∧TR φ nt tm a.tmps∧HW E w0 φ h w
 | .at_ i l tm h x=> ∃j rest o,td=j::rest∧ops[j]?=some o∧i=B5 E nt ops j∧l=rest.map (B5 E nt ops)∧i.dst=o.dst∧Oo nt o.dst=true∧
   Region.wanted o (yielded ops a.tmps)=true∧exec (An E o.op) h tm=x∧(¬VF x)∧TR φ nt tm a.tmps∧HW E w0 φ h w
 | .fail=>True
theorem Px (hE:EnvOk P E): ∀(td:List Nat) (tm:T AV) (h:H) (φ: Phi) (a:Act) (w:World),TR φ nt tm a.tmps→HW E w0 φ h w→ ∃φ' a' td' w',Phi.le φ φ'∧a'.defers=a.defers∧ (Dh (td.map (B5 E nt ops)) tm h≠ .fail→Steps P (lone (b.atR a (.inRegion ops td::k)) cs w) (lone (b.atR a' (.inRegion ops td'::k)) cs w'))∧ Ur E nt ops w0 (Dh (td.map (B5 E nt ops)) tm h) φ' a' td' w'
 | [],tm,h,φ,a,w,ht,hr=>⟨φ,a,[],w,.refl _,rfl,fun _=> .refl _ _,rfl,ht,hr⟩
 |j::td,tm,h,φ,a,w,ht,hr=>by
  rw [List.map_cons];generalize hi:B5 E nt ops j=i
  have hfail: ∀{r:OR},Dh (i::td.map (B5 E nt ops)) tm h= .fail→ ∃φ' a' td' w',Phi.le φ φ'∧a'.defers=a.defers∧
   (Dh (i::td.map (B5 E nt ops)) tm h≠ .fail→Steps P (lone (b.atR a (.inRegion ops (j::td)::k)) cs w) (lone (b.atR a' (.inRegion ops td'::k)) cs w'))∧
   Ur E nt ops w0 (Dh (i::td.map (B5 E nt ops)) tm h) φ' a' td' w':=by
   intro r e
   exact⟨φ,a,[],w,.refl _,rfl,fun hn=>absurd e hn,by rw [e];trivial⟩
  rcases Jk E nt ops j with hbad|⟨o,ho,h1,h2,h3,h4⟩;·rw [hi]at hbad;exact hfail (r:= .fail) (by rw [hbad];rfl)
  rw [hi]at h1 h3 h4
  cases hw:Ev.wanted tm i.guard with
  |none=>exact hfail (r:= .fail) (by simp only [Dh,hw])
  |some q=>
   have hwc:=Ef ht h3 hw
   cases q with
   |false=>have e:Dh (i::td.map (B5 E nt ops)) tm h=Dh (td.map (B5 E nt ops)) (Ev.put tm i.dst (.tup [])) h:=(by simp only [Dh,hw]);have hstep:=stepR_op_skip (P:=P) (b:=b) (a:=a) (k:=k) (cs:=cs) (w:=w) (ops:=ops) (i:=j) (rest:=td) (by rw [ho];simpa using hwc);rw [ho]at hstep;simp only [Option.bind_some]at hstep;obtain⟨φ',a',td',w',g1,g2,g3,g4⟩:=Px hE td (Ev.put tm i.dst (.tup [])) h φ (a.put o.dst undef) w (by rw [h1];exact ht.put' h2 (.tup .nil)) hr;exact⟨φ',a',td',w',g1,by rw [g2];cases o.dst <;> rfl,fun hn=> .head hstep (g3 (by rw [e]at hn;exact hn)),by rw [e];exact g4⟩
   |true=>
    have hat: ∀x,exec i.op h tm=x→ ¬VF x→ ∃φ' a' td' w',Phi.le φ φ'∧a'.defers=a.defers∧
      (OR.at_ i (td.map (B5 E nt ops)) tm h x≠ .fail→Steps P (lone (b.atR a (.inRegion ops (j::td)::k)) cs w) (lone (b.atR a' (.inRegion ops td'::k)) cs w'))∧
      Ur E nt ops w0 (OR.at_ i (td.map (B5 E nt ops)) tm h x) φ' a' td' w':=by
     intro x hx hv
     exact⟨φ,a,j::td,w,.refl _,rfl,fun _=> .refl _ _,j,td,o,rfl,ho,hi.symm,rfl,h1,h2,hwc,by rw [←h4];exact hx,hv,ht,hr⟩
    cases hx:exec i.op h tm with
    |fail=>exact hfail (r:= .fail) (by simp only [Dh,hw,hx])
    |val v h'=>
     rw [h4]at hx;have hsim:=Pu hr.hr ht.rho hE hx;obtain⟨φ1,v',w1,⟨s1,_⟩,s2,s3,s4,s5⟩:=hsim;have s4:=hr.to s4 s5;have hnd: ∀c,o.op≠ .defer c:=by
      intro c e;rw [e]at hx;simp only [An]at hx;split at hx;·simp only [exec]at hx;split at hx <;> cases hx
      ·simp [exec]at hx
     have hstep:=Hv (b:=b) (cs:=cs) (k:=k) (rest:=td) ho hwc hnd s2;have e:Dh (i::td.map (B5 E nt ops)) tm h=Dh (td.map (B5 E nt ops)) (Ev.put tm i.dst v) h':=(by rw [←h4]at hx;simp only [Dh,hw,hx]);obtain⟨φ',a',td',w',g1,g2,g3,g4⟩:=Px hE td (Ev.put tm i.dst v) h' φ1 (a.put o.dst v') w1 (by rw [h1];exact(ht.mono s1).put' h2 s3) s4;exact⟨φ',a',td',w',s1.trans g1,by rw [g2];cases o.dst <;> rfl,fun hn=> .head hstep (g3 (by rw [e]at hn;exact hn)),by rw [e];exact g4⟩
    |call f args=>have e:Dh (i::td.map (B5 E nt ops)) tm h= .at_ i (td.map (B5 E nt ops)) tm h (.call f args):=(by simp only [Dh,hw,hx]);rw [e];exact hat _ hx (by rintro(⟨_,_,e⟩|e) <;> cases e)
    |dfr f args=>have e:Dh (i::td.map (B5 E nt ops)) tm h= .at_ i (td.map (B5 E nt ops)) tm h (.dfr f args):=(by simp only [Dh,hw,hx]);rw [e];exact hat _ hx (by rintro(⟨_,_,e⟩|e) <;> cases e)
    |pan v=>have e:Dh (i::td.map (B5 E nt ops)) tm h= .at_ i (td.map (B5 E nt ops)) tm h (.pan v):=(by simp only [Dh,hw,hx]);rw [e];exact hat _ hx (by rintro(⟨_,_,e⟩|e) <;> cases e)
    |recover=>have e:Dh (i::td.map (B5 E nt ops)) tm h= .at_ i (td.map (B5 E nt ops)) tm h .recover:=(by simp only [Dh,hw,hx]);rw [e];exact hat _ hx (by rintro(⟨_,_,e⟩|e) <;> cases e)
    |next ws=>have e:Dh (i::td.map (B5 E nt ops)) tm h= .at_ i (td.map (B5 E nt ops)) tm h (.next ws):=(by simp only [Dh,hw,hx]);rw [e];exact hat _ hx (by rintro(⟨_,_,e⟩|e) <;> cases e)
end
theorem p9 {p:Prop}(h:p:=by
 rw [List.drop_eq_getElem_cons hlt]
 have:=(List.getElem?_eq_some_iff.1 he).2
 rw [this]):p:=h
section
variable {F:T CFn}{cs0:List Frame}
theorem Goes.steps {o:Out}{m m1:Machine}(hs:Steps P m m1)(hg:Goes P E w0 cs0 o m1):Goes P E w0 cs0 o m:=by
 cases o with
 |one c=>obtain⟨m',a,b⟩:=hg;exact⟨m',hs.trans a,b⟩
 |many l=>obtain⟨c,hc,m',a,b⟩:=hg;exact⟨c,hc,m',hs.trans a,b⟩
 |done fn v h=>obtain⟨fr,w,φ,v',a,b⟩:=hg;exact⟨fr,w,φ,v',hs.trans a,b⟩
 |fail=>trivial
structure BR' (φ: Phi)(fn:Nat)(dfd:Bool)(ro:Option Nat)(b:Frame):Prop where
 fn:b.fn=fn
 kind:b.kind=Dt dfd
 ro:OptR φ ro b.roundOf
theorem BR'.mono (hp:Phi.le φ φ'){ro:Option Nat}(h:BR' φ fn dfd ro b):BR' φ' fn dfd ro b:=⟨h.fn,h.kind,h.ro.mono hp⟩
theorem BR'.FR {ro:Option Nat}(h:BR' φ fn dfd ro b){ds:List ADef} (ht:TR φ nt tm a.tmps) (hd:DRs φ ds a.defers) (hi:IRs E φ nt todo todo'):Ev.FR E φ ⟨fn,nt,tm,todo,ds,.run,dfd,ro⟩ (b.atR a todo'):= ⟨h.fn,h.kind,h.ro,hd,.run,.plain ht hi,fun h=>absurd (hi.noD.symm.trans h) (by decide)⟩
end
theorem HR.grow {w0:Array Obj}{m:Array Obj}(hr:HR E w0 φ h m)(hn:h.n≤h'.n)(hb: ∀b,b<h.n→H.get h' b=H.get h b):HR E w0 φ h' m:=by
 have ex: ∀{b:Nat} {l:Loc} {x:Blk},φ b=some l→H.get h' b=some x→H.get h b=some x:=fun hφ hx=>by rw [hb _ (hr.bound _ _ hφ)]at hx;exact hx
 exact⟨fun b l hφ=> Nat.lt_of_lt_of_le (hr.bound b l hφ) hn,hr.cbound,fun b l x hφ hx=>hr.blk b l x hφ (ex hφ hx),fun b b' l l' x x' h1 h2 h3 h4=>hr.inj b b' l l' x x' h1 h2 (ex h1 h3) (ex h2 h4), fun b l x hφ hx=>hr.own b l x hφ (ex hφ hx),hr.old,hr.size⟩
section
variable {bn:Nat→Option Nat}
structure Pd (E:Env)(w0:World)(nt:Nat)(Rg:Reg)(k:Nat)(φ: Phi)(tm:T AV)(h:H)(bn:Nat→Option Nat)(D td:List Nat)(tmps:Array Value)(m:World):Prop where
 hr:HW E w0 φ h m
 ds:DS E nt Rg k D td
 tr:TRd E φ nt Rg k td tm tmps
 pf: ∀j∈td,zg E nt Rg k j→cl' E nt Rg j≠2→PF E nt Rg tm h j
 pm: ∀j∈td,zg E nt Rg k j→cl' E nt Rg j=2→PM E nt Rg tm h (bn j) j∧ ∀b,bn j=some b→φ b=none∧b<h.n
 inj: ∀i j b,bn i=some b→bn j=some b→i=j
theorem TRd.step (ht:TRd E φ nt Rg k (j::td) tm a.tmps){d:Option Nat}(hd:Oo nt d=true)(hj:(ci' E nt Rg j).dst=d){u:AV}(hh:Ig tm d u)(hv:VR φ u v'): TRd E φ nt Rg k td tm (a.put d v').tmps:=by
 have hsz:(a.put d v').tmps.size=a.tmps.size:=by cases d <;> simp [Act.put]
 refine⟨by rw [hsz];exact ht.size,fun t v hg hp=>?_⟩;by_cases e:d=some t
 ·subst e;have hlt:t<a.tmps.size:=by rw [ht.size];exact Ak hd
  rw [hh t rfl]at hg;cases hg;show VR φ _ ((a.tmps.setIfInBounds t v').getD t undef);rw [Jc _ _ _ _ _ hlt,if_pos rfl];exact hv
 ·have hold:(a.put d v').tmps.getD t undef=a.tmps.getD t undef:=by
   cases d with
   |none=>rfl
   |some d=>have hlt:d<a.tmps.size:=(by rw [ht.size];exact Ak hd);show((a.tmps.setIfInBounds d v').getD t undef)=_;rw [Jc _ _ _ _ _ hlt,if_neg (fun e'=>e (by rw [e']))]
  rw [hold];refine ht.val t v hg fun i hi hpi=>?_;rcases List.mem_cons.1 hi with e'|hi
  ·subst e';rw [hj];exact e
  ·exact hp i hi hpi
theorem Yl (hE:EnvOk P E)(hp:Pd E w0 nt Rg k φ tm h bn D (j::td) a.tmps w)(hc:cl' E nt Rg j≠3): ∃φ' a' w',Go.step P (lone (b.atR a (.inRegion Rg.ops (j::td)::k')) cs w)= .next (lone (b.atR a' (.inRegion Rg.ops td::k')) cs w')∧Phi.le φ φ'∧a'.defers=a.defers∧ Pd E w0 nt Rg k φ' tm h bn (j::D) td a'.tmps w':=by
 obtain⟨g1,g2,g3,g4⟩:=hp.ds.head;have hpe:=hp.ds.pend hc;have hT:TR φ nt (only tm (nm' Rg j)) a.tmps:=an hp.tr.size (hp.ds.names hp.tr);rcases Jk E nt Rg.ops j with hbad|⟨o,ho,h1,h2,h3,h4⟩;·exfalso;apply hc;unfold cl';rw [hbad];rfl
 have hds:=hp.ds.next hc;have hnt: ∀i∈td,i≠j:=fun i hi e=>(g4.apart i hi).1 (e ▸ List.mem_cons_self ..);have hdef: ∀v,(a.put o.dst v).defers=a.defers:=by intro v;cases o.dst <;> rfl
 have fin: ∀(φ':Phi) (u:AV) (v':Value) (w':World),Phi.le φ φ'→HW E w0 φ' h w'→Ig tm (ci' E nt Rg j).dst u→VR φ' u v'→(∀i∈td,∀b,bn i=some b→φ b=none→b<h.n→φ' b=none)→
   Go.step P (lone (b.atR a (.inRegion Rg.ops (j::td)::k')) cs w)= .next (lone (b.atR (a.put o.dst v') (.inRegion Rg.ops td::k')) cs w')→
   ∃φ' a' w',Go.step P (lone (b.atR a (.inRegion Rg.ops (j::td)::k')) cs w)= .next (lone (b.atR a' (.inRegion Rg.ops td::k')) cs w')∧Phi.le φ φ'∧a'.defers=a.defers∧
    Pd E w0 nt Rg k φ' tm h bn (j::D) td a'.tmps w':=by
  intro φ' u v' w' hle hr' hh hv hno hstep
  refine⟨φ',a.put o.dst v',w',hstep,hle,hdef v',hr',hds,(hp.tr.mono hle).step h2 h1 (by rw [←h1];exact hh) hv,?_,?_,hp.inj⟩
  ·exact fun i hi=>hp.pf i (List.mem_cons_of_mem _ hi)
  ·intro i hi hpi h2
   obtain⟨q1,q2⟩:=hp.pm i (List.mem_cons_of_mem _ hi) hpi h2
   exact⟨q1,fun b hb=>⟨hno i hi b hb (q2 b hb).1 (q2 b hb).2,(q2 b hb).2⟩⟩
 have hnd: ∀c,o.op≠ .defer c:=by intro c e;apply hc;unfold cl';rw [h4,e];simp only [An];split <;> rfl
 have skip:wanted (only tm (nm' Rg j)) (ci' E nt Rg j).guard=some false→Ig tm (ci' E nt Rg j).dst (.tup [])→
   ∃φ' a' w',Go.step P (lone (b.atR a (.inRegion Rg.ops (j::td)::k')) cs w)= .next (lone (b.atR a' (.inRegion Rg.ops td::k')) cs w')∧Phi.le φ φ'∧a'.defers=a.defers∧
    Pd E w0 nt Rg k φ' tm h bn (j::D) td a'.tmps w':=by
  intro hw hh
  have hwc:=Ef hT h3 hw
  have hstep:=stepR_op_skip (P:=P) (b:=b) (a:=a) (k:=k') (cs:=cs) (w:=w) (ops:=Rg.ops) (i:=j) (rest:=td) (by rw [ho];simpa using hwc)
  rw [ho]at hstep
  simp only [Option.bind_some]at hstep
  exact fin φ (.tup []) undef w (.refl _) hp.hr hh (.tup .nil) (fun _ _ _ _ h _=>h) hstep
 by_cases hm:cl' E nt Rg j=2
 ·obtain⟨q1,q2⟩:=hp.pm j (List.mem_cons_self ..) hpe hm;rcases q1 with⟨_,hw,hh⟩|⟨bk,blk,h0,v,e1,hw,hx,e2,hh,hg⟩;·exact skip hw hh
  ·have hwc:=Ef hT h3 hw;have hx':exec (An E o.op) h0 (only tm (nm' Rg j))= .val v (H.new h0 blk):=(by rw [←h4];exact hx);have hcl:cls (An E o.op)=2:=(by rw [←h4];exact hm);obtain⟨v',ob,l,blk',s1,s2,s3,s4,s5⟩:=Ad1 (w:=w) hT.rho hE hcl hx';have hbk:blk'=blk:=by
    have:H.get (H.new h0 blk) h0.n=H.get (H.new h0 blk') h0.n:=(by rw [s2]);rw [H.get_new,if_pos rfl,H.get_new,if_pos rfl]at this
    cases this;rfl
   subst hbk;subst e2;obtain⟨q3,q4⟩:=q2 _ e1;obtain⟨s6,s7⟩:=s5 _ (Phi.le_upd l q3) (Phi.upd_same _ _ _);have hr':=hp.hr.hr.alloc (l:=l) s3 q3 (Nat.le_refl _) q4 hg (fun _ _ _=>rfl) s7 s4;have hstep:=Hv (b:=b) (cs:=cs) (k:=k') (rest:=td) (P:=P) ho hwc hnd (.inl s1);refine fin (φ.upd h0.n l) v v' (w.alloc ob) (Phi.le_upd l q3) (hp.hr.to (w':=w.alloc ob) hr' ⟨rfl,rfl,rfl⟩) hh s6 ?_ hstep;intro i hi bi hbi hni _;rw [Phi.upd_ne _ _ (fun e=>hnt i hi (hp.inj i j bi hbi (by rw [e1,e])))];exact hni
 ·have hpf:=hp.pf j (List.mem_cons_self ..) hpe hm;rcases hpf with⟨hw,hh⟩|⟨hw,v,h1',hx,hh⟩;·exact skip hw hh
  ·have hwc:=Ef hT h3 hw;have hc01:cls (ci' E nt Rg j).op=0∨cls (ci' E nt Rg j).op=1:=by
    rcases Nt hc with h|h|h;·exact .inl h
    ·exact .inr h
    ·exact absurd h hm
   have hk:=Lb hc01 hx;subst hk;have hx':exec (An E o.op) h1' (only tm (nm' Rg j))= .val v h1':=(by rw [←h4];exact hx);have hsim:=Pu hp.hr.hr hT.rho hE hx';obtain⟨φ1,v',w1,⟨s1,s1'⟩,s2,s3,s4,s5⟩:=hsim;have hstep:=Hv (b:=b) (cs:=cs) (k:=k') (rest:=td) ho hwc hnd s2;refine fin φ1 v v' w1 s1 (hp.hr.to s4 s5) hh s3 ?_ hstep;intro i hi bi hbi hni hlt;rw [s1' bi (by omega)];exact hni
theorem Wf (hE:EnvOk P E): ∀(td D:List Nat) (φ: Phi) (a:Act) (w:World),Pd E w0 nt Rg k φ tm h bn D td a.tmps w→ ∃φ' a' w' D' td',Steps P (lone (b.atR a (.inRegion Rg.ops td::k')) cs w) (lone (b.atR a' (.inRegion Rg.ops td'::k')) cs w')∧Phi.le φ φ'∧a'.defers=a.defers∧Pd E w0 nt Rg k φ' tm h bn D' td' a'.tmps w'∧ (td'= []∨ ∃j r,td'=j::r∧cl' E nt Rg j=3)
 | [],D,φ,a,w,hp=>⟨φ,a,w,D,[],.refl _ _,.refl _,rfl,hp,.inl rfl⟩
 |j::td,D,φ,a,w,hp=>by
  by_cases hc:cl' E nt Rg j=3;·exact⟨φ,a,w,D,j::td,.refl _ _,.refl _,rfl,hp,.inr ⟨j,td,rfl,hc⟩⟩
  ·obtain⟨φ1,a1,w1,s1,s2,s3,s4⟩:=Yl (b:=b) (cs:=cs) (k':=k') hE hp hc;obtain⟨φ',a',w',D',td',g1,g2,g3,g4,g5⟩:=Wf hE td (j::D) φ1 a1 w1 s4;exact⟨φ',a',w',D',td',.head s1 g1,s2.trans g2,by rw [g3,s3],g4,g5⟩
end
section
variable {cs0:List Frame}
variable {ro:Option Nat}{ds:List ADef}{kk:List AItem}{kk':List Item}{xs:List AFr}
theorem Ad6 (k:Nat):(Ft (ne' E nt Rg) (es' E nt Rg) k).map Ho=((List.range Rg.ops.size).filter fun j=>!(Nat.beq (cl' E nt Rg j) 3) && Nat.beq (cn' E nt Rg j) k).map fun j=>Ho (rw' E nt Rg j):=by unfold Ft ne' Du A1;rw [List.filter_map,List.filter_map,List.map_map,List.filter_filter];congr 1;refine List.filter_congr fun j _=>?_;simp only [Function.comp];rw [Bool.and_comm];rfl
theorem mem_pre:j∈((List.range Rg.ops.size).filter fun j=>!(Nat.beq (cl' E nt Rg j) 3) && Nat.beq (cn' E nt Rg j) k)↔j<Rg.ops.size∧cl' E nt Rg j≠3∧cn' E nt Rg j=k:=by
 rw [List.mem_filter,List.mem_range,Bool.and_eq_true];constructor;·rintro⟨h1,h2,h3⟩;refine⟨h1,fun e=>?_,Am h3⟩;rw [e]at h2;simp at h2
 ·rintro⟨h1,h2,h3⟩;refine⟨h1,?_,by rw [h3];exact Nat.beq_refl _⟩
  cases hb:Nat.beq (cl' E nt Rg j) 3 with
  |false=>rfl
  |true=>exact absurd (Am hb) h2
theorem gm (hm:Oq (Ft (ne' E nt Rg) (es' E nt Rg) k)=false)(hj:j<Rg.ops.size)(hc:cl' E nt Rg j≠3)(hk:cn' E nt Rg j=k):cl' E nt Rg j≠2:=by
 intro h2;unfold Oq at hm;rw [List.any_eq_false]at hm;have:rw' E nt Rg j∈Ft (ne' E nt Rg) (es' E nt Rg) k:=by unfold Ft;rw [List.mem_filter];refine⟨mem_ne.2 ⟨j,hj,rfl,hc⟩,?_⟩;show Nat.beq (cn' E nt Rg j) k=true;rw [hk];exact Nat.beq_refl _
 have h3:=hm _ this;apply h3;show Nat.beq (cl' E nt Rg j) 2=true;rw [h2];rfl
theorem Qx (hE:EnvOk P E){pre chk:List DI}{l:List Ph}(hr:HW E w0 φ h w)(hb:BR' φ fn dfd ro b)(hd:DRs φ ds a.defers)(hk:IRs E φ nt kk kk')(hfs:FRs E φ xs cs) (hs:DS E nt Rg k D td) (hsz:a.tmps.size=nt) (ht: ∀t v,T.get tm t=some v→(∀j∈td,cl' E nt Rg j≠3→cn' E nt Rg j<k→(ci' E nt Rg j).dst≠some t)→VR φ v (a.tmps.getD t undef)) (hnew: ∀j,j<Rg.ops.size→cl' E nt Rg j≠3→cn' E nt Rg j=k→j∉D) (hmk: ∀j∈td,cl' E nt Rg j=2→ ¬(cn' E nt Rg j<k)) (hpre:pre=(Ft (ne' E nt Rg) (es' E nt Rg) k).map Ho) (hchk: ∀j∈td,cl' E nt Rg j≠3→cl' E nt Rg j≠2→(cn' E nt Rg j<k∨(cn' E nt Rg j=k∧cl' E nt Rg j=1∧Oq (Ft (ne' E nt Rg) (es' E nt Rg) k)=true))→Ho (rw' E nt Rg j)∈chk) (hl:l=Bp (ne' E nt Rg) (es' E nt Rg) ((es' E nt Rg).drop k) k): Goes P E w0 cs0 (Da pre chk l kk fn nt tm ds dfd ro xs h) (lone (b.atR a (.inRegion Rg.ops td::kk')) (cs++cs0) w):=by
 unfold Da
 cases hpu:G4 pre tm h with
 |none=>exact trivial
 |some q=>
  obtain⟨tm',h'⟩:=q;simp only
  cases hck:checks chk tm' h' with
  |false=>exact trivial
  |true=>
   simp only;rw [hpre,Ad6]at hpu;obtain⟨bn,R⟩:=Th hs.reg _ _ _ _ _ hpu (List.Pairwise.filter _ List.pairwise_lt_range) (fun j hj=>⟨(mem_pre.1 hj).1,(mem_pre.1 hj).2.1,(mem_pre.1 hj).2.2⟩);have htd: ∀j,j<Rg.ops.size→cl' E nt Rg j≠3→cn' E nt Rg j=k→j∈td:=fun j h1 h2 h3=>(hs.ext.all j h1).resolve_left (hnew j h1 h2 h3);have hP:Pd E w0 nt Rg k φ tm' h' bn D td a.tmps w:=by
    refine⟨⟨hr.hr.grow R.n R.blk,hr.like⟩,hs,⟨hsz,fun t v hg hp=>?_⟩,?_,?_,R.inj⟩
    ·have e:T.get tm' t=T.get tm t:=R.tm t fun j hj=>by obtain⟨q1,q2,q3⟩:=mem_pre.1 hj;exact hp j (htd j q1 q2 q3) ⟨q2,by omega⟩
     exact ht t v (e ▸ hg) fun j hj h1 h2=>hp j hj ⟨h1,by omega⟩
    ·intro j hj hpj h2;obtain⟨p1,p2⟩:=hpj;have hjs:=(hs.ext.apart j hj).2;by_cases hlt:cn' E nt Rg j<k;·exact We (Lc hck _ (hchk j hj p1 h2 (.inl hlt)))
     ·have hkj:cn' E nt Rg j=k:=(by omega);have hmem:=mem_pre.2 ⟨hjs,p1,hkj⟩;rcases Nt p1 with h0|h0|h0;·exact R.pf j hmem h2 (.inl h0)
      ·cases hm:Oq (Ft (ne' E nt Rg) (es' E nt Rg) k)with
       |true=>exact We (Lc hck _ (hchk j hj p1 h2 (.inr ⟨hkj,h0,hm⟩)))
       |false=>refine R.pf j hmem h2 (.inr fun i hi=>?_);obtain⟨q1,q2,q3⟩:=mem_pre.1 hi;exact gm hm q1 q2 q3
      ·exact absurd h0 h2
    ·intro j hj hpj h2;obtain⟨p1,p2⟩:=hpj;have hjs:=(hs.ext.apart j hj).2;have hkj:cn' E nt Rg j=k:=(by have:=hmk j hj h2;omega);refine⟨R.mks j (mem_pre.2 ⟨hjs,p1,hkj⟩) h2,fun b hb=>?_⟩;obtain⟨r1,r2⟩:=R.rng j b hb;refine⟨?_,r2⟩
     cases hφ: φ b with
     |none=>rfl
     |some lo=>have:=hr.hr.bound b lo hφ;omega
   obtain⟨φ',a',w',D',td',g1,g2,g3,g4,g5⟩:=Wf (b:=b) (cs:=cs++cs0) (k':=kk') hE td D φ a w hP;refine .steps g1 ?_;have hd':DRs φ' ds a'.defers:=(by rw [g3];exact hd.mono g2);rcases g5 with rfl|⟨j,r,rfl,hcj⟩;·have hlen:=g4.ds.fin;rw [List.drop_eq_nil_of_le hlen]at hl;simp only [Bp]at hl;subst hl;have hT:TR φ' nt tm' a'.tmps:=⟨g4.tr.size,fun t v hg=>g4.tr.val t v hg fun j hj=>by cases hj⟩;exact⟨_,.one stepR_region_end,φ',_,cs,w',rfl,(hb.mono g2).FR hT hd' (hk.mono g2),hfs.mono g2,g4.hr⟩
   ·obtain⟨e,he,hej⟩:=g4.ds.eff hcj;have hlt:k<(es' E nt Rg).length:=(List.getElem?_eq_some_iff.1 he).1;have hdrop:(es' E nt Rg).drop k=e::(es' E nt Rg).drop (k+1):=(by exact p9);rw [hdrop]at hl;simp only [Bp]at hl;subst hl;subst hej;refine⟨_,.refl _ _,φ',_,cs,w',rfl,?_,hfs.mono g2,g4.hr⟩;refine⟨(hb.mono g2).fn,(hb.mono g2).kind,(hb.mono g2).ro,hd',.run,?_,fun _=>rfl⟩;refine .drawn g4.ds he ?_ g4.tr (hk.mono g2);rw [hdrop];rfl
theorem ar (hj:j<Rg.ops.size)(hc:cl' E nt Rg j≠3)(h2:cl' E nt Rg j≠2) (h:(cn' E nt Rg j≤k∧tb e.bits j=false)∨(cn' E nt Rg j=k+1∧cl' E nt Rg j=1∧Oq (Ft (ne' E nt Rg) (es' E nt Rg) (k+1))=true)): Ho (rw' E nt Rg j)∈(Z7 (ne' E nt Rg) (es' E nt Rg) e k).map Ho:=by
 refine List.mem_map.2 ⟨_,?_,rfl⟩;unfold Z7;rw [List.mem_filter];refine⟨mem_ne.2 ⟨j,hj,rfl,hc⟩,?_⟩;have hb:Nat.beq (Nj (rw' E nt Rg j)) 2=false:=by
  cases hb:Nat.beq (Nj (rw' E nt Rg j)) 2 with
  |false=>rfl
  |true=>exact absurd (Am hb) h2
 rw [hb];simp only;have hcn:cnt (es' E nt Rg) (rw' E nt Rg j)=cn' E nt Rg j:=rfl;rw [hcn];rcases h with⟨h1,h3⟩|⟨h1,h3,h4⟩
 ·have:Nat.ble (cn' E nt Rg j) k=true:=by rw [Nat.ble_eq];exact h1
  rw [this];simp only;show(!tb e.bits j)=true;rw [h3];rfl
 ·have:Nat.ble (cn' E nt Rg j) k=false:=by
   cases hb:Nat.ble (cn' E nt Rg j) k with
   |false=>rfl
   |true=>have:=Ak hb;omega
  rw [this];have hcl:Nj (rw' E nt Rg j)=1:=h3;simp only [h1,hcl,Nat.succ_eq_add_one,h4,Bool.and_true];rw [show Nat.beq (k+1) (k+1)=true from Nat.beq_refl _];rfl
theorem Qy (hE:EnvOk P E){p:Ph}{l:List Ph}(hr:HW E w0 φ h w)(hb:BR' φ fn dfd ro b)(hd:DRs φ ds a.defers)(hk:IRs E φ nt kk kk')(hfs:FRs E φ xs cs) (hs:DS E nt Rg k D (e.j::td)) (he:(es' E nt Rg)[k]?=some e) (hp:Bp (ne' E nt Rg) (es' E nt Rg) ((es' E nt Rg).drop k) k=p::l) (ht:TRd E φ nt Rg k (e.j::td) tm a.tmps) (h1:(B5 E nt Rg.ops e.j).dst=o.dst) (h2:Oo nt o.dst=true) (hv:VR φ v v'): Goes P E w0 cs0 (Da p.pre p.chk l kk fn nt (put tm o.dst v) ds dfd ro xs h) (lone (b.atR (a.put o.dst v') (.inRegion Rg.ops td::kk')) (cs++cs0) w):=by
 obtain⟨e1,e2,e3,e4⟩:=Ie he;obtain⟨g1,g2,g3,g4⟩:=hs.head;have hlt:k<(es' E nt Rg).length:=(List.getElem?_eq_some_iff.1 he).1;have hdrop:(es' E nt Rg).drop k=e::(es' E nt Rg).drop (k+1):=by exact p9
 rw [hdrop]at hp;simp only [Bp,List.cons.injEq]at hp;obtain⟨rfl,rfl⟩:=hp;have hdf:(a.put o.dst v').defers=a.defers:=by cases o.dst <;> rfl
 have hsz:(a.put o.dst v').tmps.size=a.tmps.size:=by cases o.dst <;> simp [Act.put]
 refine Qx (a:=a.put o.dst v') (k:=k+1) hE hr hb (by rw [hdf];exact hd) hk hfs (hs.nextE e3) (by rw [hsz];exact ht.size) ?_ ?_ ?_ rfl ?_ rfl
 ·intro t u hg hpd;rw [Pw]at hg;by_cases e':o.dst=some t;·rw [if_pos e']at hg;cases hg;rw [e']at h2 ⊢;have hlt:t<a.tmps.size:=(by rw [ht.size];exact Ak h2);show VR φ v ((a.tmps.setIfInBounds t v').getD t undef);rw [Jc _ _ _ _ _ hlt,if_pos rfl];exact hv
  ·rw [if_neg e']at hg;have hold:(a.put o.dst v').tmps.getD t undef=a.tmps.getD t undef:=by
    cases hdst:o.dst with
    |none=>rfl
    |some d=>rw [hdst]at h2 e';have hlt:d<a.tmps.size:=(by rw [ht.size];exact Ak h2);show((a.tmps.setIfInBounds d v').getD t undef)=_;rw [Jc _ _ _ _ _ hlt,if_neg (fun e''=>e' (by rw [e'']))]
   rw [hold];refine ht.val t u hg fun j hj hpj=>?_;rcases List.mem_cons.1 hj with e''|hj
   ·rw [e'']at hpj;exact absurd e3 hpj.1
   ·exact hpd j hj hpj.1 (by have:=hpj.2;omega)
 ·intro j hj hc hcn hd;rcases List.mem_cons.1 hd with e'|hd;·rw [e']at hc;exact hc e3
  ·exact g2 (hs.cl j hd _ (Qv hs.reg hj hc (by omega:k<cn' E nt Rg j) he))
 ·intro j hj hc hcn;obtain⟨q1,q2⟩:=g4.apart j hj;exact q1 (List.mem_cons_of_mem _ (g3 j (Tc hs.reg q2 hc (by omega) he)))
 ·intro j hj hc hc2 hor;obtain⟨q1,q2⟩:=g4.apart j hj;refine ar q2 hc hc2 ?_;rcases hor with h3|h3
  ·refine .inl ⟨by omega,?_⟩
   cases hb:tb e.bits j with
   |false=>rfl
   |true=>rw [e4]at hb;exact absurd (List.mem_cons_of_mem _ (g3 j hb)) q1
  ·exact .inr h3
end
variable {args':Array Value}{cs0:List Frame}{ds:List ADef}{f l r:Nat}{fr:Frame}{m:Machine}{p:Prop}{x:AFr}{xs:List AFr}
section
variable {F:T CFn}
def F4 (c:Frame):Frame:=
 match c.mode with
 | .panicking ({recovered:=true,..}::older)=>
  match older.dropWhile (!·.goexit)with
  | []=> {c with mode:= .returning}
  |rest=> {c with mode:= .panicking rest}
 |_=>c
theorem CR.noExit {l:List (AV×Bool)}{l':List PanicEntry}(h:CR φ l l'):l'.dropWhile (!·.goexit)= []:=by
 induction h with
 |nil=>rfl
 |cons _ _ ih=>rw [List.dropWhile_cons];simpa using ih
theorem gq (hf:FR E φ x fr):FR E φ {x with mode:=Ev.settle x.mode} (F4 fr):=by
 obtain⟨fn,tmps,todo,defers,mode,kind,ro⟩:=fr;obtain⟨xfn,xnt,xtm,xtodo,xdefers,xmode,xdfd,xro⟩:=x;obtain⟨h1,h2,h3,h4,h5,h6,h7⟩:=hf;simp only at h1 h2 h3 h4 h5 h6 h7
 cases h5 with
 |run=>exact⟨h1,h2,h3,h4,.run,h6,fun _=>rfl⟩
 |returning=>exact⟨h1,h2,h3,h4,.returning,h6,h7⟩
 |panicking hc=>
  cases hc with
  |nil=>exact⟨h1,h2,h3,h4,.panicking .nil,h6,h7⟩
  | @cons v v' b l l' hv hs=>
   cases b with
   |false=>exact⟨h1,h2,h3,h4,.panicking (.cons hv hs),h6,h7⟩
   |true=>have:=hs.noExit;refine⟨?_,?_,?_,?_,?_,?_,fun h=>(by cases h7 h)⟩ <;> simp only [F4,this,Ev.settle] <;> first|assumption|exact .returning
theorem Ld (hr:HW E w0 φ h w)(hf:FR E φ x fr)(hfs:FRs E φ xs cs)(hv:VR φ v v') (hE:EnvOk P E) (hm:Steps P m (lone (fr.finish v') (cs++cs0) w)):Goes P E w0 cs0 (finish v xs h x) m:=by
 obtain⟨fn,tmps,todo,defers,mode,kind,ro⟩:=fr;obtain⟨xfn,xnt,xtm,xtodo,xdefers,xmode,xdfd,xro⟩:=x;obtain⟨h1,h2,h3,h4,h5,h6,h7⟩:=hf;simp only at h1 h2 h3 h4 h5 h6 h7
 cases h5 with
 |returning=>exact trivial
 |panicking _=>exact trivial
 |run=>
  cases h6 with
  |plain ht hi=>
   cases hi with
   |nil=>exact trivial
   | @cons _ _ kx kx' hi hk=>
    cases hi with
    |ops ops td=>
     cases td with
     |nil=>exact trivial
     |cons j rest=>
      simp only [finish,List.map_cons];rcases Jk E xnt ops j with hbad|⟨o,ho,q1,q2,q3,q4⟩;·rw [hbad];exact trivial
      ·generalize hci:B5 E xnt ops j=i at q1 q3 q4;obtain⟨dst,g,op⟩:=i;simp only at q1;subst q1;have hgo:Goes P E w0 cs0 (.one ⟨⟨xfn,xnt,Ev.put xtm o.dst v,.ops (rest.map (B5 E xnt ops))::kx,xdefers,.run,xdfd,xro⟩,xs,h⟩) m:=by
        refine⟨_,hm,φ,_,cs,w,rfl,⟨?_,?_,?_,?_,?_,?_,?_⟩,hfs,hr⟩;·exact h1
        ·exact h2
        ·exact h3
        ·exact h4
        ·exact .run
        ·simp only [Frame.finish,ho,Option.bind_some];have hp:=TR.put' (a:=⟨tmps,defers⟩) ht q2 hv;refine .plain ?_ (.cons (.ops ops rest) hk)
         cases hdst:o.dst with
         |none=>rw [hdst]at hp;exact hp
         |some d=>rw [hdst]at hp;exact hp
        ·exact fun h=>by cases h
       cases op <;> first|exact trivial|exact hgo
    |inRF hl=>refine⟨_,hm,φ,_,cs,w,rfl,⟨h1,h2,h3,h4,.run,?_,fun h=>by cases h⟩,hfs,hr⟩;exact .plain ht (.cons (.endRF hl) hk)
    |_=>exact trivial
  |gone ht=>exact trivial
  | @drawn Rg k D td e p l kx _ kx' hs he hp ht hi=>
   obtain⟨⟨⟨dst,g,op⟩,nms⟩,pre,chk⟩:=p;simp only [finish];have hp0:=hp;have hlt:k<(es' E xnt Rg).length:=(List.getElem?_eq_some_iff.1 he).1;have hdrop:(es' E xnt Rg).drop k=e::(es' E xnt Rg).drop (k+1):=(by exact p9);rw [hdrop]at hp;simp only [Bp,List.cons.injEq,Ph.mk.injEq]at hp;obtain⟨⟨hed,hpre,hchk⟩,hl⟩:=hp;have hci:B5 E xnt Rg.ops e.j=⟨dst,g,op⟩:=(by have h1:e.d=⟨B5 E xnt Rg.ops e.j,Pq Rg.ops e.j⟩:=(by have:=(Ie he).2.1;rw [this];rfl);rw [h1]at hed;exact congrArg DI.ci hed);rcases Jk E xnt Rg.ops e.j with hbad|⟨o,ho,q1,q2,q3,q4⟩;·rw [hci]at hbad;cases hbad;exact trivial
   ·have hdo:dst=o.dst:=(by rw [hci]at q1;exact q1);subst hdo;have hgo:Goes P E w0 cs0 (Da pre chk l kx xfn xnt (put xtm o.dst v) xdefers xdfd xro xs h) m:=by
     refine .steps hm ?_;have hb:BR' φ xfn xdfd xro (⟨fn,tmps,.inRegion Rg.ops (e.j::td)::kx',defers,.run,kind,ro⟩:Frame):=⟨h1,h2,h3⟩;have:=Qy (a:=⟨tmps,defers⟩) (b:=⟨fn,tmps,.inRegion Rg.ops (e.j::td)::kx',defers,.run,kind,ro⟩) (P:=P) (cs0:=cs0) hE hr hb h4 hi hfs hs he hp0 ht (o:=o) (by rw [hci]) q2 hv;have hf:((⟨fn,tmps,.inRegion Rg.ops (e.j::td)::kx',defers,.run,kind,ro⟩:Frame).finish v')=(⟨fn,tmps,.inRegion Rg.ops (e.j::td)::kx',defers,.run,kind,ro⟩:Frame).atR ((⟨tmps,defers⟩:Act).put o.dst v') (.inRegion Rg.ops td::kx'):=by
      simp only [Frame.finish,ho,Option.bind_some]
      cases o.dst <;> rfl
     rw [hf];exact this
    cases op <;> first|exact trivial|exact hgo
def K6 (dfd:Bool)(v:Value)(c:Frame):Frame:=match dfd with|true=>F4 c|false=>c.finish v
theorem Qz (hE:EnvOk P E)(hr:HW E w0 φ h w)(hfs:FRs E φ xs cs)(hv:VR φ v v') (hm: ∀c rest,cs++cs0=c::rest→Go.step P m= .next (lone (K6 dfd v' c) rest w)):Goes P E w0 cs0 (P9 dfd v xs h) m:=by
 cases hfs with
 |nil=>exact trivial
 | @cons x fr xs cs hf hfs=>
  have hm:=hm fr (cs++cs0) rfl
  cases dfd with
  |true=>have:=gq hf;exact⟨_,.one hm,φ,_,cs,w,rfl,this,hfs,hr⟩
  |false=>exact Ld hr hf hfs hv hE (.one hm)
theorem qa (ha:VRs φ args args'.toList)(hn:args.length≤n): TR φ n (ofL 0 .leaf args) (args'++Array.replicate (n - args'.size) undef):=by
 have hlen:=ha.length;simp only [Array.length_toList]at hlen;refine⟨by simp;omega,fun t v ht=>?_⟩;rw [Kc]at ht;by_cases hlt:t<args.length;·rw [if_pos (by omega),Nat.sub_zero]at ht;obtain⟨v',h1,h2⟩:=ha.get ht;rw [Array.getElem?_toList]at h1;rw [Array.getD_eq_getD_getElem?,Array.getElem?_append_left (by omega),h1];exact h2
 ·rw [if_neg (by omega)]at ht
  cases ht
theorem Q0 (hT:TabOk P E F){g:CFn}(hg:T.get F f=some g)(ha:VRs φ args args'.toList)(hn:args.length≤g.ntmps): FR E φ ⟨f,g.ntmps,ofL 0 .leaf args,[.code g.body],[],.run,dfd,none⟩ (Frame.enter P f args' (Dt dfd)):=by obtain⟨fn,c,h1,h2,h3,rfl⟩:=hT.fn f g hg;refine⟨rfl,rfl,.none,.nil,.run,?_,fun h=>(by cases h)⟩;simp only [Frame.enter,h1,Option.map_some,Option.getD_some,Option.bind_some,h3];exact .plain (qa ha hn) (.cons (.code c) .nil)
theorem O4 {n:Nat}: ∀{ps:List Nat} {args:List AV} {args':List Value} {tm tm':T AV} {tmps:Array Value},Cu ps args tm=some tm'→VRs φ args args'→TR φ n tm tmps→(∀p∈ps,p<n)→ ps.length=args'.length∧TR φ n tm' ((ps.zip args').foldl (fun(tmps:Array Value) (x:Nat×Value)=>tmps.setIfInBounds x.1 x.2) tmps)
 | [],[],_,tm,tm',tmps,h,ha,ht,_=>by cases ha;simp only [Cu,Option.some.injEq]at h;subst h;exact⟨rfl,ht⟩
 |p::ps,a::aqs,_,tm,tm',tmps,h,ha,ht,hp=>by
  cases ha with
  |cons hv hs=>simp only [Cu]at h;have:=ht.put (d:=some p) (by show Nat.ble (p+1) n=true;rw [Nat.ble_eq];exact hp p (List.mem_cons_self ..)) hv;obtain⟨q1,q2⟩:=O4 h hs this (fun q hq=>hp q (List.mem_cons_of_mem _ hq));exact⟨by simp [q1],by simpa using q2⟩
 | [],_::_,_,tm,tm',tmps,h,ha,ht,_=>by simp [Cu]at h
 |_::_,[],_,tm,tm',tmps,h,ha,ht,_=>by simp [Cu]at h
theorem HW.loop_at (hr:HW E w0 φ h w){l:Loc}{x:ALoop}(hφ: φ r=some l)(hb:H.get h r=some (.loop x)): ∃x',w.heap[l.cb]?=some (.loop x')∧LR E φ x x':=by
 obtain⟨o,h1,h2⟩:=hr.hr.blk _ _ _ hφ hb
 cases h2 with
 |loop h=>exact⟨_,h1,h⟩
theorem Fd {x:Loop}(hb:w.heap[l]?=some (.loop x)):(Instr.getLoop l).run P w= .ok x w:=by simp [Instr.getLoop,getObj,Sem.run,hb]
theorem qd {l:Loc}{x:ALoop}{x':Loop}(hφ: φ r=some l)(hl:LR E φ x x')(ha:VRs φ args args'.toList)(hs:Cu x.params args x.tmps=some tm): args'.size=x'.params.size∧FR E φ ⟨x.fn,x.nt,tm,[.code x.assign,.beginRound,.code x.body],[],.run,dfd,some r⟩ (Frame.round l.cb x'.fn ((x'.params.zip args').foldl (fun tmps (t,a)=>tmps.setIfInBounds t a) x'.tmps) x'.assign x'.body (Dt dfd)):=by
 obtain⟨q1,q2⟩:=O4 hs ha hl.tmps hl.plt;rw [hl.params]at q1 q2;refine⟨by simpa using q1.symm,hl.fn,rfl,.some hφ,.nil,.run,.plain ?_ ?_,fun h=>(by cases h)⟩
 ·have e:((x'.params.zip args').foldl (fun(tmps:Array Value) (x:Nat×Value)=>tmps.setIfInBounds x.1 x.2) x'.tmps)=((x'.params.toList.zip args'.toList).foldl (fun(tmps:Array Value) (x:Nat×Value)=>tmps.setIfInBounds x.1 x.2) x'.tmps):=by rw [←Array.foldl_toList,Array.toList_zip]
  show TR φ x.nt tm ((x'.params.zip args').foldl (fun(tmps:Array Value) (x:Nat×Value)=>tmps.setIfInBounds x.1 x.2) x'.tmps);rw [e];exact q2
 ·rw [hl.assign,hl.body];exact .cons (.code _) (.cons .beginRound (.cons (.code _) .nil))
def Ma (P:Program)(dfd:Bool)(r:Result Next)(fr:Frame)(cs:List Frame)(m:Machine):Prop:=
 (∀f args w',r= .ok (.enter f args) w'→Go.step P m= .next (lone (Frame.enter P f args (Dt dfd)) (fr::cs) w'))∧
 (∀l f tmps assign body w',r= .ok (.round l f tmps assign body) w'→Go.step P m= .next (lone (Frame.round l f tmps assign body (Dt dfd)) (fr::cs) w'))
structure MemOk (P:Program)(K:T (List AV×AV)):Prop where
 ok: ∀f args v,T.get K f=some (args,v)→ ∀(φ: Phi) (args':Array Value) (w:World),VRs φ args args'.toList→
  Calls P f args' w fun e w'=> ∃v',e= .returned v'∧(∀φ,VR φ v v')∧RowKit.Below w.heap.size w w'
theorem HW.ext (hw:HW E w0 φ h w)(hb:RowKit.Below w.heap.size w w'):HW E w0 φ h w':=by
 have hr:=hw.hr;have hs:=hb.size;have he:=hb.block;refine hw.to ?_ ⟨hb.os,hb.tape,hb.output⟩;refine⟨hr.bound,fun b l hφ=> Nat.lt_of_lt_of_le (hr.cbound b l hφ) hs,fun b l x hφ hx=>?_,hr.inj,hr.own,fun c hc=>?_,Nat.le_trans hr.size hs⟩;·obtain⟨o,h1,h2⟩:=hr.blk b l x hφ hx;exact⟨o,by rw [he _ (hr.cbound b l hφ)];exact h1,h2⟩
 ·rw [he c (Nat.lt_of_lt_of_le hc hr.size)];exact hr.old c hc
theorem qe {K:T (List AV×AV)}(h:memo K f args=some v):T.get K f=some (args,v):=by
 unfold memo at h;split at h;·cases h
 ·rename_i p hp;split at h
  ·rename_i ha
   cases h;have:=Ji (Pv 20) ha;rw [hp,←this]
  ·cases h
theorem Ih {K:T (List AV×AV)}(hE:EnvOk P E)(hT:TabOk P E F)(hK:MemOk P K){f:AFn}{r:Result Next} (hr:HW E w0 φ h w) (hf:FR E φ x fr) (hfs:FRs E φ xs cs) (hc:Up P E φ f args r w) (hm:Ma P dfd r fr (cs++cs0) m): Goes P E w0 cs0 (B8 F K f args dfd x xs h) m:=by
 cases f with
 |func f=>
  simp only [B8]
  cases hg:T.get F f with
  |none=>exact trivial
  |some g=>
   simp only;obtain⟨args',h1,h2⟩:=hc;obtain⟨fn,c,q1,q2,q3,q4⟩:=hT.fn f g hg;have hen:=hm.1 _ _ _ (h2 fn q1 q2 (by rw [q3];rfl))
   cases hmm:Vz dfd K f args with
   |some v=>
    simp only
    cases dfd with
    |true=>cases hmm
    |false=>obtain⟨e,w',fr',⟨v',rfl,k1,k2⟩,k4,k5,k6⟩:=hK.ok _ _ _ (qe hmm) φ args' w h1 (fr::(cs++cs0));exact Ld (hr.ext k2) hf hfs (k1 φ) hE (.head hen (Steps.trans k4 (.one (step_leave_returned k6))))
   |none=>
    simp only
    cases hn:Nat.ble args.length g.ntmps with
    |false=>exact trivial
    |true=>exact⟨_,.one hen,φ,_,fr::cs,w,rfl,Q0 hT hg h1 (Ak hn),.cons hf hfs,hr⟩
 |yield l=>
  simp only [B8]
  cases hg:H.get h l with
  |none=>exact trivial
  |some bl=>
   cases bl with
   |loop y=>
    simp only
    cases hs:Cu y.params args y.tmps with
    |none=>exact trivial
    |some tm=>obtain⟨lo,args',h1,h2,h3⟩:=hc;obtain⟨y',g1,g2⟩:=hr.loop_at h1 hg;obtain⟨q1,q2⟩:=qd (dfd:=dfd) h1 g2 h2 hs;have hrun:r= .ok (.round lo.cb y'.fn ((y'.params.zip args').foldl (fun tmps (t,a)=>tmps.setIfInBounds t a) y'.tmps) y'.assign y'.body) w:=(by rw [h3];simp only [Instr.yield,Sem.run_bind,Fd g1,Result.andThen_ok,q1,ne_eq,not_true_eq_false,if_false];rfl);have:=hm.2 _ _ _ _ _ _ hrun;exact⟨_,.one this,φ,_,fr::cs,w,rfl,q2,.cons hf hfs,hr⟩
   |_=>exact trivial
end
theorem Acd (h:p:=by
 apply step_lone_go
 rw [stepGR_op ho hw,Oper.semAt_eq _ _ _ hd]
 simp [stepG.apply,Sem.runT_eq,hx,Frame.atR,Dt]):p:=h
section
variable {F:T CFn}{K:T (List AV×AV)}
theorem Nu {rest:List Nat}{k:List Item}(ho:ops[j]?=some o)(hw:Region.wanted o (yielded ops a.tmps)=true)(hd: ∀c,o.op≠ .defer c): Ma P false ((execOp a.eval o).run P w) (b.atR a (.inRegion ops (j::rest)::k)) cs (lone (b.atR a (.inRegion ops (j::rest)::k)) cs w):=by
 refine⟨fun f args w' hx=>?_,fun l f tmps assign body w' hx=>?_⟩;·exact Acd
 ·exact Acd
theorem Fe {c:Op}{x:R}(hx:exec (An E c) h tm=x)(h1: ∀f args,x≠ .dfr f args)(h2:x≠ .fail): ∀cl,c≠ .defer cl:=by
 intro cl e;subst e;simp only [An]at hx;split at hx
 ·simp only [exec]at hx;split at hx;·exact h1 _ _ hx.symm
  ·exact h2 hx.symm
 ·simp only [exec]at hx;exact h2 hx.symm
theorem gt (hE:EnvOk P E)(hT:TabOk P E F)(hK:MemOk P K){r:OR}{ro:Option Nat}{k:List AItem} (he:Ur E nt ops w0 r φ a td w) (hb:BR' φ fn dfd ro b) (hd:DRs φ ds a.defers) (hk:IRs E φ nt k k') (hfs:FRs E φ xs cs): Goes P E w0 cs0 (V0 F K r k fn nt ds dfd ro xs) (lone (b.atR a (.inRegion ops td::k')) (cs++cs0) w):=by
 cases r with
 |fail=>exact trivial
 |fin tm h=>obtain⟨rfl,ht,hr⟩:=he;exact⟨_,.one stepR_region_end,φ,_,cs,w,rfl,hb.FR ht hd hk,hfs,hr⟩
 |at_ i l tm h x=>
  obtain⟨j,rest,o,rfl,ho,hi,rfl,hdst,hdok,hw,hx,hvf,ht,hr⟩:=he
  cases x with
  |val v h'=>exact trivial
  |fail=>exact trivial
  |call f args=>have hnd:=Fe hx (by intro _ _ e;cases e) (by intro e;cases e);have hc:=Qt (P:=P) (w:=w) hr.hr ht.rho hx;have hfr:FR E φ ⟨fn,nt,tm,.ops (i::rest.map (B5 E nt ops))::k,ds,.run,dfd,ro⟩ (b.atR a (.inRegion ops (j::rest)::k')):=(by rw [hi];exact hb.FR ht hd (.cons (.ops ops (j::rest)) hk));exact Ih hE hT hK hr hfr hfs hc (Nu ho hw hnd)
  |next ws=>obtain⟨y,hy,φ',v',w',s1,s2,s3,s4,s5⟩:=pp hr.hr ht.rho hx;have s4:=hr.to s4 s5;have hnd:=Fe hx (by intro _ _ e;cases e) (by intro e;cases e);have hstep:=Hv (b:=b) (cs:=cs++cs0) (k:=k') (rest:=rest) ho hw hnd s2;refine⟨_,List.mem_map.2 ⟨y,hy,rfl⟩,_,.one hstep,φ',_,cs,w',rfl,?_,hfs.mono s1.1,s4⟩;have hd':DRs φ' ds (a.put o.dst v').defers:=(by have:(a.put o.dst v').defers=a.defers:=(by cases o.dst <;> rfl);rw [this];exact hd.mono s1.1);rw [hdst];exact(hb.mono s1.1).FR ((ht.mono s1.1).put' hdok s3) hd' (.cons (.ops ops rest) (hk.mono s1.1))
  |pan v=>obtain⟨v',s1,s2⟩:=za (P:=P) (w:=w) hr.hr ht.rho hx;have hnd:=Fe hx (by intro _ _ e;cases e) (by intro e;cases e);have hstep:Go.step P (lone (b.atR a (.inRegion ops (j::rest)::k')) (cs++cs0) w)= .next (lone ((b.atR a (.inRegion ops (j::rest)::k')).raise [{v:=v',recovered:=false}]) (cs++cs0) w):=(by apply step_lone_go;rw [stepGR_op ho hw,Oper.semAt_eq _ _ _ hnd];simp [stepG.apply,Sem.runT_eq,s1]);refine⟨_,.one hstep,φ,_,cs,w,rfl,?_,hfs,hr⟩;rw [Frame.raise_atR,hi];have:=hb.FR ht hd (.cons (.ops ops (j::rest)) hk);exact⟨this.fn,this.kind,this.ro,this.defers,.panicking (.cons s2 .nil),this.body,fun h=>(by cases h)⟩
  |dfr f args=>
   cases ro with
   |some l=>exact trivial
   |none=>obtain⟨d,c,hop,s1,s2⟩:=y9 (P:=P) (w:=w) hr.hr ht.rho hx;have hro:b.roundOf=none:=(by have:=hb.ro;cases hbr:b.roundOf with|none=>rfl|some _=>rw [hbr]at this;cases this);have hstep:Go.step P (lone (b.atR a (.inRegion ops (j::rest)::k')) (cs++cs0) w)= .next (lone (b.atR ({a with defers:=d::a.defers}.put o.dst undef) (.inRegion ops rest::k')) (cs++cs0) w):=(by have hf:=Frame.finish_atR b {a with defers:=d::a.defers} ops j rest k' undef;rw [ho]at hf;simp only [Option.bind_some]at hf;rw [←hf];apply step_lone_go;rw [stepGR_op ho hw,hro,Oper.semAt_none];simp [stepG.apply,Sem.runT_eq,s1,Frame.atR]);refine⟨_,.one hstep,φ,_,cs,w,rfl,?_,hfs,hr⟩;have hd':DRs φ (.call f args::ds) ({a with defers:=d::a.defers}.put o.dst undef:Act).defers:=(by have:({a with defers:=d::a.defers}.put o.dst undef:Act).defers=d::a.defers:=(by cases o.dst <;> rfl);rw [this];exact .cons s2 hd);rw [hdst];exact hb.FR (TR.put' (a:= {a with defers:=d::a.defers}) ht hdok (.tup .nil)) hd' (.cons (.ops ops rest) hk)
  |recover=>
   cases ro with
   |some l=>exact trivial
   |none=>
    obtain⟨s1,c,hop⟩:=zb (P:=P) (w:=w) hr.hr ht.rho hx;have hnd:=Fe hx (by intro _ _ e;cases e) (by intro e;cases e);have hro:b.roundOf=none:=(by have:=hb.ro;cases hbr:b.roundOf with|none=>rfl|some _=>rw [hbr]at this;cases this);have hf:=fun v=>Frame.finish_atR b a ops j rest k' v;rw [ho]at hf;simp only [Option.bind_some]at hf;have hdp: ∀v,(a.put o.dst v).defers=a.defers:=(by intro v;cases o.dst <;> rfl)
    have stepN: ∀callers,tryRecover (b.atR a (.inRegion ops (j::rest)::k')) callers=none→
      Go.step P (lone (b.atR a (.inRegion ops (j::rest)::k')) callers w)= .next (lone (b.atR (a.put o.dst .nilIface) (.inRegion ops rest::k')) callers w):=by
     intro callers hn
     rw [←hf]
     apply step_lone_go
     rw [stepGR_op ho hw,Oper.semAt_eq _ _ _ hnd]
     have hr2:(b.atR a (.inRegion ops (j::rest)::k')).roundOf=none:=hro
     simp [stepG.apply,Sem.runT_eq,s1,hr2,hn]
    have nil: ∀(ys:List AFr) (fs:List Frame),FRs E φ ys fs→tryRecover (b.atR a (.inRegion ops (j::rest)::k')) (fs++cs0)=none→
      Goes P E w0 cs0 (.one ⟨⟨fn,nt,Ev.put tm i.dst .nili,.ops (rest.map (B5 E nt ops))::k,ds,.run,dfd,none⟩,ys,h⟩) (lone (b.atR a (.inRegion ops (j::rest)::k')) (fs++cs0) w):=by
     intro ys fs hys hn
     refine⟨_,.one (stepN _ hn),φ,_,fs,w,rfl,?_,hys,hr⟩
     rw [hdst]
     exact hb.FR (ht.put' hdok .nili) (by rw [hdp];exact hd) (.cons (.ops ops rest) hk)
    have hkind:(b.atR a (.inRegion ops (j::rest)::k')).kind=Dt dfd:=hb.kind
    cases dfd with
    |false=>refine nil xs cs hfs ?_;unfold tryRecover;rw [hkind];rfl
    |true=>
     cases hfs with
     |nil=>exact trivial
     | @cons x fr xs cs hfr hfs=>
      obtain⟨ffn,ftmps,ftodo,fdefers,fmode,fkind,fro⟩:=fr;obtain⟨xfn,xnt,xtm,xtodo,xdefers,xmode,xdfd,xro⟩:=x;obtain⟨h1,h2,h3,h4,h5,h6,h7⟩:=hfr;simp only at h1 h2 h3 h4 h5 h6 h7
      cases h5 with
      |run=>exact nil _ _ (.cons ⟨h1,h2,h3,h4,.run,h6,h7⟩ hfs) (by show tryRecover _ (_::(cs++cs0))=none;unfold tryRecover;rw [hkind];rfl)
      |returning=>exact nil _ _ (.cons ⟨h1,h2,h3,h4,.returning,h6,h7⟩ hfs) (by show tryRecover _ (_::(cs++cs0))=none;unfold tryRecover;rw [hkind];rfl)
      |panicking hc=>
       cases hc with
       |nil=>exact nil _ _ (.cons ⟨h1,h2,h3,h4,.panicking .nil,h6,h7⟩ hfs) (by show tryRecover _ (_::(cs++cs0))=none;unfold tryRecover;rw [hkind];rfl)
       | @cons v v' q l l' hv hs=>
        cases q with
        |true=>exact nil _ _ (.cons ⟨h1,h2,h3,h4,.panicking (.cons hv hs),h6,fun h=>(by cases h7 h)⟩ hfs) (by show tryRecover _ (_::(cs++cs0))=none;unfold tryRecover;rw [hkind];rfl)
        |false=>
         have hstep:Go.step P (lone (b.atR a (.inRegion ops (j::rest)::k')) (⟨ffn,ftmps,ftodo,fdefers,.panicking ({v:=v',recovered:=false}::l'),fkind,fro⟩::(cs++cs0)) w)=
           .next (lone (b.atR (a.put o.dst v') (.inRegion ops rest::k')) (⟨ffn,ftmps,ftodo,fdefers,.panicking ({v:=v',recovered:=true}::l'),fkind,fro⟩::(cs++cs0)) w):=by
          have htr:tryRecover (b.atR a (.inRegion ops (j::rest)::k')) (⟨ffn,ftmps,ftodo,fdefers,.panicking ({v:=v',recovered:=false}::l'),fkind,fro⟩::(cs++cs0))=
            some (v',⟨ffn,ftmps,ftodo,fdefers,.panicking ({v:=v',recovered:=true}::l'),fkind,fro⟩::(cs++cs0)):=by
           unfold tryRecover;rw [hkind];rfl
          rw [←hf]
          apply step_lone_go
          rw [stepGR_op ho hw,Oper.semAt_eq _ _ _ hnd]
          have hr2:(b.atR a (.inRegion ops (j::rest)::k')).roundOf=none:=hro
          simp [stepG.apply,Sem.runT_eq,s1,hr2,htr]
         refine⟨_,.one hstep,φ,_,⟨ffn,ftmps,ftodo,fdefers,.panicking ({v:=v',recovered:=true}::l'),fkind,fro⟩::cs,w,rfl,?_,.cons ⟨h1,h2,h3,h4,.panicking (.cons hv hs),h6,fun h=>(by cases h7 h)⟩ hfs,hr⟩;rw [hdst];exact hb.FR (ht.put' hdok hv) (by rw [hdp];exact hd) (.cons (.ops ops rest) hk)
end
section
variable {F:T CFn}
variable {c:Frame}{k:List Item}{rest:List Frame}{v:Value}
theorem gu (hb:b.roundOf=some l)(hk:b.kind=Dt dfd)(hr:(Instr.endRound l none).run P w= .ok v w'): Go.step P (lone (b.atR a []) (c::rest) w)= .next (lone (K6 dfd v c) rest w'):= step_lone_go (by cases dfd <;> simp [stepG,stepG.exec,Frame.atR,hb,hk,Dt,Sem.runT_eq,hr,Go.doReturn,K6,F4] <;> rfl)
theorem gw (hb:b.roundOf=some l)(hk:b.kind=Dt dfd)(hr:(Instr.endRound l (some .ret)).run P w= .ok v w'): Go.step P (lone (b.atR a (.code .ret::k)) (c::rest) w)= .next (lone (K6 dfd v c) rest w'):= step_lone_go (by cases dfd <;> simp [stepG,stepG.exec,Frame.atR,hb,hk,Dt,Sem.runT_eq,hr,Go.doReturn,K6,F4] <;> rfl)
theorem Ym {id:Nat}(hx:Go.exitTo id k=none)(hb:b.roundOf=some l)(hk:b.kind=Dt dfd)(hr:(Instr.endRound l (some (.exit id))).run P w= .ok v w'): Go.step P (lone (b.atR a (.code (.exit id)::k)) (c::rest) w)= .next (lone (K6 dfd v c) rest w'):= step_lone_go (by cases dfd <;> simp [stepG,stepG.exec,Frame.atR,hb,hk,hx,Dt,Sem.runT_eq,hr,Go.doReturn,K6,F4] <;> rfl)
theorem Yn {t:Nat}(hx:Go.gotoIn t k=none)(hb:b.roundOf=some l)(hk:b.kind=Dt dfd)(hr:(Instr.endRound l (some (.goto t))).run P w= .ok v w'): Go.step P (lone (b.atR a (.code (.goto t)::k)) (c::rest) w)= .next (lone (K6 dfd v c) rest w'):= step_lone_go (by cases dfd <;> simp [stepG,stepG.exec,Frame.atR,hb,hk,hx,Dt,Sem.runT_eq,hr,Go.doReturn,K6,F4] <;> rfl)
theorem Jl {x:Loop}(ob:Obj)(hb:w.heap[l]?=some (.loop x)):(setObj l ob).run P w= .ok () (Gm w l ob):=by simp [setObj,Sem.run,hb,Gm]
theorem Us {x:Loop}(hb:w.heap[l]?=some (.loop x))(j:Option Code): (Instr.endRound l j).run P w= .ok (.bool j.isNone) (Gm w l (.loop {x with state:=if j.isNone then .ready else .done,pending:=j})):=by simp only [Instr.endRound,Sem.run_bind,Fd hb,Result.andThen_ok,Jl _ hb,Sem.run_pure]
theorem HW.loopOver (hr:HW E w0 φ h w){lo:Loc}{x y:ALoop}{y':Loop}(hφ: φ r=some lo)(hb:H.get h r=some (.loop x))(hl:LR E φ y y'): HW E w0 φ (H.set h r (.loop y)) (Gm w lo.cb (.loop y')):=hr.to (w':=Gm w lo.cb (.loop y')) (hr.hr.over hφ hb rfl (.loop hl) rfl) ⟨rfl,rfl,rfl⟩
theorem G7 (hE:EnvOk P E){jump:Option Code} (hr:HW E w0 φ h w) (hro:OptR φ (some r) b.roundOf) (hfs:FRs E φ xs cs) (hm: ∀l v w' c rest,b.roundOf=some l→(Instr.endRound l jump).run P w= .ok v w'→cs++cs0=c::rest→Go.step P m= .next (lone (K6 dfd v c) rest w')): Goes P E w0 cs0 (leave (jump.map (Be E nt)) fn nt tm todo ds dfd (some r) xs h) m:=by
 simp only [leave]
 cases hg:H.get h r with
 |none=>exact trivial
 |some bl=>
  cases bl with
  |loop x=>
   obtain⟨st,pd,f,n,t,ps,aqs,bd,d⟩:=x;generalize hbr:b.roundOf=br at hro hm
   cases hro with
   | @some _ lo hφ=>
    obtain⟨x',g1,g2⟩:=hr.loop_at hφ hg;have hrun:=fun j=>Us (P:=P) g1 j
    cases jump with
    |none=>simp only [Option.map_none];have hr':=hr.loopOver (y:=⟨.ready,none,f,n,t,ps,aqs,bd,d⟩) (y':= {x' with state:= .ready,pending:=none}) hφ hg ⟨rfl,rfl,g2.fn,g2.tmps,g2.params,g2.plt,g2.assign,g2.body,g2.defers⟩;exact Qz hE (v':= .bool true) hr' hfs (.bool true) fun c rest e=>hm _ _ _ c rest rfl (hrun none) e
    |some j=>
     simp only [Option.map_some]
     cases hb:Nat.beq n nt with
     |false=>exact trivial
     |true=>
     have hn:n=nt:=Am hb;subst hn;have hr':=hr.loopOver (y:=⟨.done,some (Be E n j),f,n,t,ps,aqs,bd,d⟩) (y':= {x' with state:= .done,pending:=some j}) hφ hg ⟨rfl,rfl,g2.fn,g2.tmps,g2.params,g2.plt,g2.assign,g2.body,g2.defers⟩;exact Qz hE (v':= .bool false) hr' hfs (.bool false) fun c rest e=>hm _ _ _ c rest rfl (hrun (some j)) e
  |_=>exact trivial
end
theorem Ahz (h:p:=by
 apply List.ext_getElem?
 intro i
 simp only [List.getElem?_map,Array.getElem?_toList]
 by_cases hi:i<ops.size
 ·rw [List.getElem?_range hi,Array.getElem?_eq_getElem hi];simp [B5,hi]
 ·rw [Array.getElem?_eq_none (by omega),List.getElem?_eq_none (by simpa using hi)];rfl):p:=h
theorem Ace (h:p:=by
 exact .steps (g3 hf) (gt hE hT hK g4 (hb.mono g1) (by rw [g2];exact hd.mono g1) (hk.mono g1) (hfs.mono g1))):p:=h
section
variable {F:T CFn}{K:T (List AV×AV)}
variable {ro:Option Nat}{k:List AItem}
theorem Wg {c:Code}:Go.step P (lone (b.atR a (.code (.scope c)::k')) cs w)= .next (lone (b.atR a (.code c:: .inScope c::k')) cs w):= step_lone_go (by simp [stepG,stepG.exec,Frame.atR])
theorem Sg {c:Code}:Go.step P (lone (b.atR a (.inScope c::k')) cs w)= .next (lone (b.atR a k') cs w):= step_lone_go (by simp [stepG,stepG.exec,Frame.atR])
theorem Ut {o:Option Nat}(h:OptR φ Option.none o):o=Option.none:=by cases h;rfl
theorem Dp (hr:HW E w0 φ h w)(hb:BR' φ fn dfd ro b)(ht:TR φ nt tm a.tmps)(hd:DRs φ ds a.defers)(hi:IRs E φ nt todo todo')(hfs:FRs E φ xs cs) (hm:Go.step P m= .next (lone (b.atR a todo') (cs++cs0) w)):Goes P E w0 cs0 (.one ⟨⟨fn,nt,tm,todo,ds,.run,dfd,ro⟩,xs,h⟩) m:= ⟨_,.one hm,φ,_,cs,w,rfl,hb.FR ht hd hi,hfs,hr⟩
theorem qg (hE:EnvOk P E)(hT:TabOk P E F)(hK:MemOk P K)(hr:HW E w0 φ h w)(hb:BR' φ fn dfd ro b)(ht:TR φ nt tm a.tmps)(hd:DRs φ ds a.defers)(hk:IRs E φ nt k k')(hfs:FRs E φ xs cs)(c:Code) (hnd: ∀id ops,c≠ .region id ops true) (hrf: ∀f ps x y,c≠ .rangeFunc f ps x y): Goes P E w0 cs0 (Cg F K (Be E nt c) k fn nt tm ds dfd ro xs h) (lone (b.atR a (.code c::k')) (cs++cs0) w):=by
 cases c with
 |skip=>exact Dp hr hb ht hd hk hfs stepR_skip
 |label l=>exact Dp hr hb ht hd hk hfs stepR_label
 |seq x y=>exact Dp hr hb ht hd (.cons (.code x) (.cons (.code y) hk)) hfs stepR_seq
 |block id x=>exact Dp hr hb ht hd (.cons (.code x) (.cons (.inBlock id) hk)) hfs stepR_block
 |loop x=>exact Dp hr hb ht hd (.cons (.code x) (.cons (.inLoop x) hk)) hfs stepR_loop
 |scope x=>exact Dp hr hb ht hd (.cons (.code x) (.cons (.inScope x) hk)) hfs Wg
 |refuse s=>exact trivial
 |cond x y z=>
  simp only [Be,Cg];split;·rename_i hc;have:=VR.bool_inv (hc ▸ ht.rho x);exact Dp hr hb ht hd (.cons (.code y) hk) hfs (stepR_cond (t:=true) this)
  ·rename_i hc;have:=VR.bool_inv (hc ▸ ht.rho x);exact Dp hr hb ht hd (.cons (.code z) hk) hfs (stepR_cond (t:=false) this)
  ·exact trivial
 |region id ops d=>
  cases d with
  |true=>exact absurd rfl (hnd id ops)
  |false=>
   have hl:ops.toList.map (L2 E nt ops)=(List.range ops.size).map (B5 E nt ops):=(by exact Ahz);simp only [Be,Et,Cg,hl];refine .steps (.one stepR_region) ?_;obtain⟨φ',a',td',w',g1,g2,g3,g4⟩:=Px (P:=P) (b:=b) (k:=k') (cs:=cs++cs0) (ops:=ops) hE (List.range ops.size) tm h φ a w ht hr;by_cases hf:Dh ((List.range ops.size).map (B5 E nt ops)) tm h= .fail;·rw [hf];exact trivial
   ·exact Ace
 |rangeFunc f ps x y=>exact absurd rfl (hrf f ps x y)
 |ret=>
  simp only [Be,Cg]
  cases ro with
  |none=>simp only [leave];have hro:=Ut hb.ro;refine⟨_,.one (stepR_ret hro),φ,_,cs,w,rfl,?_,hfs,hr⟩;have:=hb.FR ht hd (.cons (.code .ret) hk);exact⟨this.fn,this.kind,this.ro,this.defers,.returning,this.body,fun h=>(by cases h)⟩
  |some r=>exact G7 hE (jump:=some .ret) hr hb.ro hfs fun l v w' c rest e1 e2 e3=>by rw [e3];exact gw e1 hb.kind e2
 |exit id=>
  simp only [Be,Cg];obtain⟨x1,x2⟩:=py (id:=id) hk;split;·rename_i r hx;obtain⟨r',q1,q2⟩:=x2 _ hx;exact Dp hr hb ht hd q2 hfs (stepR_exit q1)
  ·rename_i hx
   cases ro with
   |none=>exact trivial
   |some r=>exact G7 hE (jump:=some (.exit id)) hr hb.ro hfs fun l v w' c rest e1 e2 e3=>by rw [e3];exact Ym (x1 hx) e1 hb.kind e2
 |goto l=>
  simp only [Be,Cg];obtain⟨x1,x2⟩:=pz (l:=l) hk;split;·rename_i r hx;obtain⟨r',q1,q2⟩:=x2 _ hx;exact Dp hr hb ht hd q2 hfs (stepR_goto q1)
  ·rename_i hx
   cases ro with
   |none=>exact trivial
   |some r=>exact G7 hE (jump:=some (.goto l)) hr hb.ro hfs fun l v w' c rest e1 e2 e3=>by rw [e3];exact Yn (x1 hx) e1 hb.kind e2
theorem Q1 {x:Loop}(hb:w.heap[l]?=some (.loop x))(hs:x.state= .ready):(Instr.beginRound l).run P w= .ok () (Gm w l (.loop {x with state:= .busy})):=by simp only [Instr.beginRound,Sem.run_bind,Fd hb,Result.andThen_ok,Jl _ hb,hs,Sem.run_pure]
theorem O5 {x:Loop}(hb:w.heap[l]?=some (.loop x))(hs:(x.state == .busy)=false):(Instr.endLoop l).run P w= .ok x.pending (Gm w l (.loop {x with state:= .exhausted})):=by simp only [Instr.endLoop,Sem.run_bind,Fd hb,Result.andThen_ok,hs,Bool.false_eq_true,if_false,Jl _ hb,Sem.run_pure]
theorem qh (hE:EnvOk P E)(hT:TabOk P E F)(hK:MemOk P K)(hr:HW E w0 φ h w)(hb:BR' φ fn dfd ro b)(ht:TR φ nt tm a.tmps)(hd:DRs φ ds a.defers)(hk:IRs E φ nt k k')(hfs:FRs E φ xs cs){i:AItem}{i':Item}(hi:IR E φ nt i i') (hnd: ∀id ops,i'≠ .code (.region id ops true)) (hrf: ∀f ps x y,i'≠ .code (.rangeFunc f ps x y)): Goes P E w0 cs0 (Bu F K i k fn nt tm ds dfd ro xs h) (lone (b.atR a (i'::k')) (cs++cs0) w):=by
 cases hi with
 |code c=>exact qg hE hT hK hr hb ht hd hk hfs c (fun id ops e=>hnd id ops (by rw [e])) (fun f ps x y e=>hrf f ps x y (by rw [e]))
 |inBlock id=>exact Dp hr hb ht hd hk hfs stepR_inBlock
 |inScope c=>exact Dp hr hb ht hd hk hfs Sg
 |inLoop c=>exact Dp hr hb ht hd (.cons (.code c) (.cons (.inLoop c) hk)) hfs stepR_inLoop
 |ops ops td=>
  simp only [Bu];obtain⟨φ',a',td',w',g1,g2,g3,g4⟩:=Px (P:=P) (b:=b) (k:=k') (cs:=cs++cs0) (ops:=ops) hE td tm h φ a w ht hr;by_cases hf:Dh (td.map (B5 E nt ops)) tm h= .fail;·rw [hf];exact trivial
  ·exact Ace
 |inRF _=>exact trivial
 |beginRound=>
  simp only [Bu]
  cases ro with
  |none=>exact trivial
  |some r=>
   simp only
   cases hg:H.get h r with
   |none=>exact trivial
   |some bl=>
    cases bl with
    |loop x=>
     obtain⟨st,pd,f,n,t,ps,aqs,bd,d⟩:=x
     cases st with
     |ready=>
      have hro:=hb.ro;generalize hbr:b.roundOf=br at hro
      cases hro with
      | @some _ lo hφ=>obtain⟨x',g1,g2⟩:=hr.loop_at hφ hg;have hrun:=Q1 (P:=P) g1 g2.state;have hr':=hr.loopOver (y:=⟨.busy,pd,f,n,t,ps,aqs,bd,d⟩) (y':= {x' with state:= .busy}) hφ hg ⟨rfl,g2.pending,g2.fn,g2.tmps,g2.params,g2.plt,g2.assign,g2.body,g2.defers⟩;exact⟨_,.one (stepR_beginRound hbr hrun),φ,_,cs,_,rfl,hb.FR ht hd hk,hfs,hr'⟩
     |_=>exact trivial
    |_=>exact trivial
 |endRF hφ=>
  rename_i r lo;simp only [Bu]
  cases hg:H.get h r with
  |none=>exact trivial
  |some bl=>
   cases bl with
   |loop x=>
    obtain⟨st,pd,f,n,t,ps,aqs,bd,d⟩:=x;obtain⟨x',g1,g2⟩:=hr.loop_at hφ hg;have hr':=hr.loopOver (y:=⟨.exhausted,pd,f,n,t,ps,aqs,bd,d⟩) (y':= {x' with state:= .exhausted}) hφ hg ⟨rfl,g2.pending,g2.fn,g2.tmps,g2.params,g2.plt,g2.assign,g2.body,g2.defers⟩;have hpd:pd=x'.pending.map (Be E n):=g2.pending;have hst:x'.state=lsR st:=g2.state;have keyN:(x'.state == .busy)=false→pd=none→Goes P E w0 cs0 (.one ⟨⟨fn,nt,tm,k,ds,.run,dfd,ro⟩,xs,H.set h r (.loop ⟨.exhausted,pd,f,n,t,ps,aqs,bd,d⟩)⟩) (lone (b.atR a (.endRangeFunc lo.cb::k')) (cs++cs0) w):=by
     intro hs hp;have hstep:=stepR_endRangeFunc (b:=b) (a:=a) (k:=k') (cs:=cs++cs0) (O5 (P:=P) g1 hs)
     cases hpx:x'.pending with
     |none=>rw [hpx]at hstep hr';exact⟨_,.one hstep,φ,_,cs,_,rfl,hb.FR ht hd hk,hfs,hr'⟩
     |some j=>rw [hpx,hp]at hpd;cases hpd
    have keyS:(x'.state == .busy)=false→ ∀j,pd=some j→n=nt→Goes P E w0 cs0 (.one ⟨⟨fn,nt,tm,.code j::k,ds,.run,dfd,ro⟩,xs,H.set h r (.loop ⟨.exhausted,pd,f,n,t,ps,aqs,bd,d⟩)⟩) (lone (b.atR a (.endRangeFunc lo.cb::k')) (cs++cs0) w):=by
     intro hs j hp hn;have hstep:=stepR_endRangeFunc (b:=b) (a:=a) (k:=k') (cs:=cs++cs0) (O5 (P:=P) g1 hs)
     cases hpx:x'.pending with
     |none=>rw [hpx,hp]at hpd;cases hpd
     |some c=>rw [hpx]at hstep hr';rw [hpx,hp]at hpd;simp only [Option.map_some,Option.some.injEq]at hpd;subst hn;rw [hpd];exact⟨_,.one hstep,φ,_,cs,_,rfl,hb.FR ht hd (.cons (.code c) hk),hfs,hr'⟩
    have pick: ∀q,(x'.state == .busy)=false→pd=q→Goes P E w0 cs0 (match q with
      |some j=>(match Nat.beq n nt with
       |true=> .one ⟨⟨fn,nt,tm,.code j::k,ds,.run,dfd,ro⟩,xs,H.set h r (.loop ⟨.exhausted,pd,f,n,t,ps,aqs,bd,d⟩)⟩
       |false=> .fail)
      |none=> .one ⟨⟨fn,nt,tm,k,ds,.run,dfd,ro⟩,xs,H.set h r (.loop ⟨.exhausted,pd,f,n,t,ps,aqs,bd,d⟩)⟩) (lone (b.atR a (.endRangeFunc lo.cb::k')) (cs++cs0) w):=by
     intro q hs hq
     cases q with
     |none=>exact keyN hs hq
     |some j=>
      cases hn:Nat.beq n nt with
      |false=>simp only [hn];exact trivial
      |true=>simp only [hn];exact keyS hs j hq (Am hn)
    have key:=fun hs=>pick pd hs rfl
    cases st with
    |busy=>exact trivial
    |ready=>exact key (by rw [hst];rfl)
    |done=>exact key (by rw [hst];rfl)
    |exhausted=>exact key (by rw [hst];rfl)
   |_=>exact trivial
end
variable {Q:Nat→AV→Prop}{c:Conf}{k:List AItem}
section
variable {F:T CFn}
variable {ro:Option Nat}
theorem Sj (hw:HW E w0 φ h w)(hb:BR' φ fn dfd ro b)(ht:TR φ nt tm a.tmps){ps:Array Tmp}{x y:Code}(hps: ∀p∈ps.toList,p<nt){mark:List ADef} (he:Ev.enterLoop fn nt tm ps.toList (Be E nt x) (Be E nt y) ro h=some (l,mark,h')): ∃φ' lo mark' w',Phi.le φ φ'∧(Instr.enterLoop b.fn a.tmps ps x y b.roundOf).run P w= .ok (lo.cb,mark') w'∧φ' l=some lo∧DRs φ' mark mark'∧HW E w0 φ' h' w':=by
 have hro:=hb.ro;have hr:=hw.hr
 cases ro with
 |none=>
  have hrn:=Ut hro;simp only [Ev.enterLoop,Option.some.injEq,Prod.mk.injEq]at he;obtain⟨rfl,rfl,rfl⟩:=he;have hle1:Phi.le φ (φ.upd h.n ⟨w.heap.size,0,0⟩):=Phi.le_upd _ hr.fresh;have hr1:HR E w0.heap (φ.upd h.n ⟨w.heap.size,0,0⟩) (H.new h (.dfr (some []))) (w.alloc (.deferred (some []))).heap:=hr.new rfl (.dfrS .nil) rfl;have hfr2:=hr1.fresh;have hle2:Phi.le (φ.upd h.n ⟨w.heap.size,0,0⟩) ((φ.upd h.n ⟨w.heap.size,0,0⟩).upd (H.new h (.dfr (some []))).n ⟨w.heap.size+1,0,0⟩):=Phi.le_upd _ hfr2;refine⟨_,⟨w.heap.size+1,0,0⟩,[{target:= .collected w.heap.size,args:= #[]}],(w.alloc (.deferred (some []))).alloc (.loop {state:= .ready,pending:=none,fn:=b.fn,tmps:=a.tmps,params:=ps,assign:=x,body:=y,defers:=w.heap.size}),hle1.trans hle2,?_,?_,?_,?_⟩;·simp [Instr.enterLoop,hrn]
  ·exact Phi.upd_same _ _ _
  ·exact .cons (.mark (hle2 _ _ (Phi.upd_same φ h.n ⟨w.heap.size,0,0⟩))) .nil
  ·refine hw.to ?_ ⟨rfl,rfl,rfl⟩;refine hr1.new (l:=⟨w.heap.size+1,0,0⟩) (by simp) (.loop ⟨rfl,rfl,hb.fn,ht.mono (hle1.trans hle2),rfl,hps,rfl,rfl,⟨w.heap.size,0,0⟩,?_,rfl⟩) rfl;exact hle2 _ _ (Phi.upd_same φ h.n ⟨w.heap.size,0,0⟩)
 |some r=>
  simp only [Ev.enterLoop]at he
  cases hg:H.get h r with
  |none=>rw [hg]at he;cases he
  |some bl=>
   rw [hg]at he
   cases bl with
   |loop z=>
    simp only [Option.some.injEq,Prod.mk.injEq]at he;obtain⟨rfl,rfl,rfl⟩:=he;generalize hbr:b.roundOf=br at hro
    cases hro with
    | @some _ lo hφ=>
     obtain⟨z',g1,g2⟩:=hw.loop_at hφ hg;obtain⟨d,d1,d2⟩:=g2.defers;have hle:Phi.le φ (φ.upd h.n ⟨w.heap.size,0,0⟩):=Phi.le_upd _ hr.fresh;refine⟨_,⟨w.heap.size,0,0⟩,[],w.alloc (.loop {state:= .ready,pending:=none,fn:=b.fn,tmps:=a.tmps,params:=ps,assign:=x,body:=y,defers:=z'.defers}),hle,?_,Phi.upd_same _ _ _,.nil,?_⟩;·simp [Instr.enterLoop,Fd g1]
     ·refine hw.to ?_ ⟨rfl,rfl,rfl⟩;exact hr.new (l:=⟨w.heap.size,0,0⟩) rfl (.loop ⟨rfl,rfl,hb.fn,ht.mono hle,rfl,hps,rfl,rfl,d,hle _ _ d1,d2⟩) rfl
   |_=>cases he
end
theorem Ah0 (h:p:=by
 apply step_lone_go
 rw [Sem.run_bind]at hx
 simp [stepG,stepG.exec,Frame.atR,Sem.runT_eq,he,GStep.bare_after,stepG.apply,hev,Sem.run_bind,hre,hx,Dt]):p:=h
section
variable {F:T CFn}{K:T (List AV×AV)}
variable {ro:Option Nat}
theorem Wh {f:AFn}{first cap aqs:List AV}{xv:Value}{as':Array Value}(hv:VR φ (.fn f first cap) xv)(has:VRs φ aqs as'.toList):
  Up P E φ f (List.append first (List.append aqs cap)) ((do let d←Deferred.ofValue xv as';invoke d.target d.args:Sem Next).run P w) w:=by
 cases f with
 |func g=>
  obtain⟨a',c',e1,h1,h2⟩:=hv.fnF_inv
  refine⟨a'++as'++c',?_,fun fn q1 q2 q3=>?_⟩
  ·simp only [Array.toList_append,List.append_assoc]
   exact h1.append (has.append h2)
  ·exact Ahu
 |yield r=>
  cases hv with
  | @fnY _ l hφ=>
   refine⟨l,#[]++as',hφ,?_,?_⟩
   ·simp only [Array.toList_append]
    show VRs φ ([]++(aqs++ [])) _
    simpa using has
   ·simp only [Deferred.ofValue,Sem.run_bind,Sem.run_pure,Result.andThen_ok,invoke]
theorem zh {g:Operand}{ps:Array Tmp}{x y:Code}{mark:List Deferred}{w1:World}
  (he:(Instr.enterLoop b.fn a.tmps ps x y b.roundOf).run P w= .ok (l,mark) w1):
  Ma P false ((do let d←Deferred.ofValue (a.eval g) #[.func (.yield l) #[] #[]];invoke d.target d.args:Sem Next).run P w1)
   (b.atR {a with defers:=mark++a.defers} (.inRangeFunc l::k')) cs (lone (b.atR a (.code (.rangeFunc g ps x y)::k')) cs w):=by
 have hev:=Frame.eval_atR b {a with defers:=mark++a.defers} (.inRangeFunc l::k')
 simp only [Frame.atR]at hev
 have hre:resolve ({tmps:=a.tmps,defers:=mark++a.defers}:Act).eval {callee:= .value g,args:= #[.const (.func (.yield l) #[] #[])],argTypes:= #[]} 0=Deferred.ofValue (a.eval g) #[.func (.yield l) #[] #[]]:=by
  simp only [resolve]
  have:({tmps:=a.tmps,defers:=mark++a.defers}:Act).eval g=a.eval g:=by cases g <;> rfl
  rw [this];simp [Act.eval]
 refine⟨fun f args w' hx=>?_,fun l' f tmps assign body w' hx=>?_⟩
 ·exact Ah0
 ·exact Ah0
theorem Ad7 (hE:EnvOk P E)(hT:TabOk P E F)(hK:MemOk P K)(hr:HW E w0 φ h w)(hb:BR' φ fn dfd ro b)(ht:TR φ nt tm a.tmps)(hd:DRs φ ds a.defers)(hk:IRs E φ nt k k')(hfs:FRs E φ xs cs)(g:Operand)(ps:Array Tmp)(x y:Code): Goes P E w0 cs0 (Cg F K (Be E nt (.rangeFunc g ps x y)) k fn nt tm ds dfd ro xs h) (lone (b.atR a (.code (.rangeFunc g ps x y)::k')) (cs++cs0) w):=by
 simp only [Be]
 cases hps:ps.toList.all (fun p=>Nat.ble (Nat.succ p) nt)with
 |false=>exact trivial
 |true=>
  simp only [Cg];have hps': ∀p∈ps.toList,p<nt:=fun p hp=>Ak (List.all_eq_true.1 hps p hp)
  cases he:Ev.enterLoop fn nt tm ps.toList (Be E nt x) (Be E nt y) ro h with
  |none=>exact trivial
  |some q=>
   obtain⟨l,mark,h'⟩:=q;obtain⟨φ',lo,mark',w',e1,e2,e3,e4,e5⟩:=Sj hr hb ht hps' he;simp only;split
   ·rename_i f first cap hv
    have hv:=hv ▸ (ht.rho g).mono e1;have hc:=Wh (P:=P) (E:=E) (w:=w') (aqs:= [.fn (.yield l) [] []]) (as':= #[.func (.yield lo.cb) #[] #[]]) hv (.cons (.fnY e3) .nil);have hfr:FR E φ' ⟨fn,nt,tm,.inRF l::k,List.append mark ds,.run,dfd,ro⟩ (b.atR {a with defers:=mark'++a.defers} (.inRangeFunc lo.cb::k')):= (hb.mono e1).FR (a:= {a with defers:=mark'++a.defers}) (ht.mono e1) (e4.append (hd.mono e1)) (.cons (.inRF e3) (hk.mono e1));exact Ih hE hT hK e5 hfr (hfs.mono e1) hc (zh e2)
   ·exact trivial
end
section
variable {F:T CFn}
theorem Ti (hE:EnvOk P E)(hr:HW E w0 φ h w){nt:Nat}{tm:T AV}{tmps:Array Value}(ht:TR φ nt tm tmps): ∀(rs:List ResultVar) (l:List AV),results tm h (rs.map (Pr E))=some l→
  ∃vs:List Value,VRs φ l vs∧(rs.mapM (fun| .tmp t=>pure (tmps.getD t undef)| .cell a t=>do loadVar t (←asAddr (tmps.getD a undef)):ResultVar→Sem Value)).run P w= .ok vs w
 | [],l,hx=>by simp only [List.map_nil,results,Option.some.injEq]at hx;subst hx;exact⟨[],.nil,rfl⟩
 |r::rs,l,hx=>by
  rw [List.map_cons]at hx
  simp only [results]at hx
  split at hx
  ·cases hx
  ·rename_i l1 h1
   obtain⟨vs,v1,v2⟩:=Ti hE hr ht rs l1 h1
   have key: ∀(u:AV) (v':Value),l=u::l1→VR φ u v'→((match r with| .tmp t=>pure (tmps.getD t undef)| .cell a t=>do loadVar t (←asAddr (tmps.getD a undef))):Sem Value).run P w= .ok v' w→
     ∃vs:List Value,VRs φ l vs∧((r::rs).mapM (fun| .tmp t=>pure (tmps.getD t undef)| .cell a t=>do loadVar t (←asAddr (tmps.getD a undef)):ResultVar→Sem Value)).run P w= .ok vs w:=by
    intro u v' e hv hrun
    refine⟨v'::vs,by rw [e];exact .cons hv v1,?_⟩
    rw [List.mapM_cons,Sem.run_bind]
    cases r with
    |tmp t=>simp only at hrun ⊢;rw [hrun];simp only [Result.andThen_ok,Sem.run_bind,v2,Sem.run_pure]
    |cell a t=>simp only at hrun ⊢;rw [hrun];simp only [Result.andThen_ok,Sem.run_bind,v2,Sem.run_pure]
   cases r with
   |tmp t=>
    simp only [Pr,Option.some.injEq]at hx
    exact key _ _ hx.symm (by
     have:=ht.rho (a:=⟨tmps,[]⟩) (.tmp t)
     exact this) rfl
   |cell a t=>
    simp only [Pr]at hx
    cases hi:Ev.inf E t with
    |none=>rw [hi]at hx;simp at hx
    |some i=>
     rw [hi]at hx
     simp only at hx
     cases hag:Jb E t with
     |none=>rw [hag]at hx;simp at hx
     |some q=>
      rw [hag]at hx
      have hrho:=ht.rho (a:=⟨tmps,[]⟩) (.tmp a)
      have hev:ev tm (.t a)=ev tm (opd (.tmp a)):=rfl
      cases q with
      |true=>
       simp only at hx
       split at hx
       ·rename_i b o hb
        obtain⟨lo,hφ,ea⟩:=VR.ptr_inv (hb ▸ hrho)
        split at hx
        ·rename_i xs hc
         simp only [Option.some.injEq]at hx
         obtain⟨us,u1,u2,u3⟩:=hr.hr.cellsAt hφ hc (lo.base+o) (fun _=>rfl)
         have hl:=Ex P (w:=w) u3
         rw [u1]at hl
         refine key _ (.agg us.toArray) hx.symm (.agg (by simpa using u2)) ?_
         have ea':tmps.getD a undef= .pointer (some ⟨lo.cb,lo.base+o,none⟩):=ea
         simp only [ea',asAddr,Sem.run_bind,Sem.run_pure,Result.andThen_ok,loadVar,Ed hE hag,if_true,Bv hE hi,hl]
        ·cases hx
       ·cases hx
      |false=>
       simp only at hx
       split at hx
       ·rename_i b o hb
        obtain⟨lo,hφ,ea⟩:=VR.ptr_inv (hb ▸ hrho)
        split at hx
        ·rename_i rb n c hg
         split at hx
         ·rename_i v hle hgc
          simp only [Option.some.injEq]at hx
          obtain⟨cs,e,_,c1,c2,c3,c4⟩:=hr.hr.cellsOf_blk hφ hg
          obtain⟨v',g1,g2⟩:=c4 o v (Ak hle) hgc
          refine key _ v' hx.symm g2 ?_
          have ea':tmps.getD a undef= .pointer (some ⟨lo.cb,lo.base+o,none⟩):=ea
          have hcell:w.cell? ⟨lo.cb,lo.base+o,none⟩=some v':=by rw [Kd c1];exact g1
          simp [ea',asAddr,loadVar,Ed hE hag,hcell]
         ·cases hx
        ·cases hx
       ·cases hx
theorem HW.dfr_at (hr:HW E w0 φ h w){l:Loc}{x:List ADef}(hφ: φ r=some l)(hb:H.get h r=some (.dfr (some x))): ∃x',w.heap[l.cb]?=some (.deferred (some x'))∧DRs φ x x':=by
 obtain⟨o,h1,h2⟩:=hr.hr.blk _ _ _ hφ hb
 cases h2 with
 |dfrS h=>exact⟨_,h1,h⟩
theorem qi {l:List (AV×Bool)}{l':List PanicEntry}(hf:FR E φ x fr)(hd:isD x.todo=false)(hc:CR φ l l'):FR E φ {x with mode:=Ev.raise x.mode l} (fr.raise l'):=by
 obtain⟨fn,tmps,todo,defers,mode,kind,ro⟩:=fr;obtain⟨xfn,xnt,xtm,xtodo,xdefers,xmode,xdfd,xro⟩:=x;obtain⟨h1,h2,h3,h4,h5,h6,h7⟩:=hf;simp only at h1 h2 h3 h4 h5 h6 h7 hd;have hno:isD xtodo=true→ ∀{p:Prop},p:=fun h=>by rw [hd]at h;cases h
 cases h5 with
 |run=>exact⟨h1,h2,h3,h4,.panicking hc,h6,fun h=>hno h⟩
 |returning=>exact⟨h1,h2,h3,h4,.panicking hc,h6,fun h=>hno h⟩
 |panicking hc'=>exact⟨h1,h2,h3,h4,.panicking (hc.append hc'),h6,fun h=>hno h⟩
theorem qj {l:List AV}{vs:List Value}(h:VRs φ l vs):VR φ (single l) (if h:vs.toArray.size=1 then vs.toArray[0]else .tuple vs.toArray):=by
 cases h with
 |nil=>exact .tup .nil
 |cons hv hs=>
  cases hs with
  |nil=>exact hv
  |cons hv' hs=>simp [single];exact .tup (.cons hv (.cons hv' hs))
theorem Wi (hE:EnvOk P E)(hr:HW E w0 φ h w)(ht:TR φ nt tm tmps){fn:Func}{c:Code}{l:List AV}(hx:results tm h (Vy E fn c).results=some l): ∃v,(Go.results fn tmps).run P w= .ok v w∧VR φ (single l) v:=by obtain⟨vs,v1,v2⟩:=Ti hE hr ht fn.results.toList l hx;refine⟨_,?_,qj v1⟩;unfold Go.results;rw [Sem.run_bind,Array.mapM_eq_mapM_toList,Sem.run_map];erw [v2];rfl
theorem qk {ds:List Deferred}(hb:w.heap[r]?=some (.deferred (some ds))):(Instr.takeDeferred r).run P w= .ok ds (Gm w r (.deferred none)):=by simp [Instr.takeDeferred,getObj,setObj,Sem.run,hb,Gm]
end
theorem Ah1 (h:p:=by
 have:=Yr (cs0:=cs0) hE hT hK hr hf hfs (by rw [hmd];intro e;cases e)
 obtain⟨xfn,xnt,xtm,xtodo,xdefers,xmode,xdfd,xro⟩:=x
 simp only at hmd;subst hmd;exact this):p:=h
section
variable {F:T CFn}{K:T (List AV×AV)}
variable {ro:Option Nat}
theorem au (hE:EnvOk P E)(hr:HW E w0 φ h w)(hb:BR' φ fn dfd ro b)(ht:TR φ nt tm a.tmps)(hd:DRs φ ds a.defers)(hk:IRs E φ nt k k')(hfs:FRs E φ xs cs)(Rg:Reg)(hreg:Fu (A1 E nt Rg)=true) (hext:Ext Rg.ops.size Rg.bits [] td): Goes P E w0 cs0 (Da ((Ft (Du (A1 E nt Rg)) (Cr (A1 E nt Rg)) 0).map Ho) ((Uk (Du (A1 E nt Rg)) (Cr (A1 E nt Rg))).map Ho) (Bp (Du (A1 E nt Rg)) (Cr (A1 E nt Rg)) (Cr (A1 E nt Rg)) 0) k fn nt tm ds dfd ro xs h) (lone (b.atR a (.inRegion Rg.ops td::k')) (cs++cs0) {w with drawn:=w.drawn+1}):=by
 have hs:DS E nt Rg 0 [] td:= ⟨hreg,hext,fun j hj=>(by cases hj),fun m e hm=>absurd hm (Nat.not_lt_zero m),fun m e _ _ hd=>(by cases hd)⟩;refine Qx (k:=0) (w:= {w with drawn:=w.drawn+1}) hE (hr.to (w':= {w with drawn:=w.drawn+1}) hr.hr ⟨rfl,rfl,rfl⟩) hb hd hk hfs hs ht.size (fun t v hg _=>ht.val t v hg) (fun j _ _ _ hd=>(by cases hd)) (fun j _ _ hlt=>absurd hlt (Nat.not_lt_zero _)) rfl ?_ rfl;intro j hj hc hc2 hor;rcases hor with h1|⟨h1,h2,h3⟩;·exact absurd h1 (Nat.not_lt_zero _)
 ·refine List.mem_map.2 ⟨_,?_,rfl⟩;unfold Uk;rw [List.mem_filter];refine⟨mem_ne.2 ⟨j,(hext.apart j hj).2,rfl,hc⟩,?_⟩;have e1:cnt (Cr (A1 E nt Rg)) (rw' E nt Rg j)=0:=h1;have e2:Nj (rw' E nt Rg j)=1:=h2;have e3:Oq (Ft (Du (A1 E nt Rg)) (Cr (A1 E nt Rg)) 0)=true:=h3;rw [e1,e2,e3];rfl
theorem Yo (pre chk:List DI)(l:List Ph)(k:List AItem)(fn nt:Nat)(tm:T AV)(ds:List ADef)(dfd:Bool)(ro:Option Nat)(cs:List AFr)(h:H): Da pre chk l k fn nt tm ds dfd ro cs h= .fail∨ ∃c,Da pre chk l k fn nt tm ds dfd ro cs h= .one c:=by
 unfold Da
 cases G4 pre tm h with
 |none=>exact .inl rfl
 |some q=>
  obtain⟨tm',h'⟩:=q;simp only
  cases checks chk tm' h' with
  |false=>exact .inl rfl
  |true=>cases l <;> exact .inr ⟨_,rfl⟩
theorem Kg: ∀{l:List Out} {r:Out},Iz l=r→r= .fail∨ ∃cs,r= .many cs∧ ∀o∈l,∃c∈cs,o= .one c
 | [],r,h=> .inr ⟨[],h.symm,fun o ho=>by cases ho⟩
 |o::l,r,h=>by
  simp only [Iz]at h
  cases o with
  |one c=>
   simp only at h;rcases Kg (l:=l) rfl with h1|⟨cs,h1,h2⟩;·rw [h1]at h;exact .inl h.symm
   ·rw [h1]at h;refine .inr ⟨c::cs,h.symm,fun o ho=>?_⟩;rcases List.mem_cons.1 ho with e|ho;·exact⟨c,List.mem_cons_self ..,e⟩
    ·obtain⟨c',q1,q2⟩:=h2 o ho;exact⟨c',List.mem_cons_of_mem _ q1,q2⟩
  |_=>exact .inl h.symm
theorem gx {l:List Out}{o:Out}(ho:o∈l)(h:Goes P E w0 cs0 o m):Goes P E w0 cs0 (Iz l) m:=by
 rcases Kg (l:=l) rfl with h1|⟨cs,h1,h2⟩;·rw [h1];exact trivial
 ·rw [h1];obtain⟨c,q1,rfl⟩:=h2 o ho;exact⟨c,q1,h⟩
theorem qm (hE:EnvOk P E)(hr:HW E w0 φ h w)(hb:BR' φ fn dfd ro b)(ht:TR φ nt tm a.tmps)(hd:DRs φ ds a.defers)(hk:IRs E φ nt k k')(hfs:FRs E φ xs cs)(id:Nat)(ops:Array Oper): Goes P E w0 cs0 (Cg F K (Be E nt (.region id ops true)) k fn nt tm ds dfd ro xs h) (lone (b.atR a (.code (.region id ops true)::k')) (cs++cs0) w):=by
 simp only [Be,Et]
 cases hbef:P8 ops with
 |false=>exact trivial
 |true=>
  simp only;have hstep: ∀{o:Out},Goes P E w0 cs0 o (lone (b.atR a (.inRegion ops (Region.schedule true ops (w.tape w.drawn (.order b.fn id)))::k')) (cs++cs0) {w with drawn:=w.drawn+1})→Goes P E w0 cs0 o (lone (b.atR a (.code (.region id ops true)::k')) (cs++cs0) w):=by intro o g;refine .steps (.one stepR_region_draw) ?_;rw [hE.mixed];exact g
  have hext:=gj hbef (w.tape w.drawn (.order b.fn id))
  cases hreg:Fu (A1 E nt (Nk ops))with
  |true=>exact hstep (au hE hr hb ht hd hk hfs (Nk ops) hreg hext)
  |false=>
   simp only
   cases hall:(Fb E nt ops 8 (Nk ops).bits).all fun b=>Fu (A1 E nt ⟨ops,b⟩)with
   |false=>exact trivial
   |true=>obtain⟨v,q1,q2⟩:=If (E:=E) (nt:=nt) 8 _ hext;rw [List.all_eq_true]at hall;simp only [Cg,List.map_map];refine hstep (gx (List.mem_map.2 ⟨v,q1,rfl⟩) ?_);exact au hE hr hb ht hd hk hfs ⟨ops,v⟩ (hall v q1) q2
theorem zi (hE:EnvOk P E)(hT:TabOk P E F)(hK:MemOk P K)(hr:HW E w0 φ h w)(hb:BR' φ fn dfd ro b)(hd:DRs φ ds a.defers)(hk:IRs E φ nt k k')(hfs:FRs E φ xs cs)  {q:Nat}   {p:Ph} {l:List Ph} (hs:DS E nt Rg q D (e.j::td)) (he:(es' E nt Rg)[q]?=some e) (hp:Bp (ne' E nt Rg) (es' E nt Rg) ((es' E nt Rg).drop q) q=p::l) (ht:TRd E φ nt Rg q (e.j::td) tm a.tmps): Goes P E w0 cs0 (Bu F K (.drawn p l) k fn nt tm ds dfd ro xs h) (lone (b.atR a (.inRegion Rg.ops (e.j::td)::k')) (cs++cs0) w):=by
 simp only [Bu];have hlt:q<(es' E nt Rg).length:=(List.getElem?_eq_some_iff.1 he).1;have hdrop:(es' E nt Rg).drop q=e::(es' E nt Rg).drop (q+1):=by exact p9
 have hpe:p.eff=⟨B5 E nt Rg.ops e.j,Pq Rg.ops e.j⟩:=by have hp':=hp;rw [hdrop]at hp';simp only [Bp,List.cons.injEq]at hp';rw [←hp'.1];have:=(Ie he).2.1;show e.d=_;rw [this];rfl
 have hT':TR φ nt (only tm (nm' Rg e.j)) a.tmps:=an ht.size (hs.names ht);have hnm:p.eff.names=nm' Rg e.j:=by rw [hpe];rfl
 have hci:p.eff.ci=B5 E nt Rg.ops e.j:=by rw [hpe]
 rw [hnm,hci];rcases Jk E nt Rg.ops e.j with hbad|⟨o,ho,h1,h2,h3,h4⟩;·rw [hbad];exact trivial
 ·rw [h1,h4];split;·exact trivial
  ·rename_i hw;have hwc:=Ef hT' h3 hw;have hstep:=stepR_op_skip (P:=P) (b:=b) (a:=a) (k:=k') (cs:=cs++cs0) (w:=w) (ops:=Rg.ops) (i:=e.j) (rest:=td) (by rw [ho];simpa using hwc);rw [ho]at hstep;simp only [Option.bind_some]at hstep;exact .steps (.one hstep) (Qy hE hr hb hd hk hfs hs he hp ht h1 h2 (.tup .nil))
  ·rename_i hw;have hwc:=Ef hT' h3 hw;split;·rename_i v h' hx;obtain⟨φ1,v',w1,⟨s1,s1'⟩,s2,s3,s4,s5⟩:=Pu hr.hr hT'.rho hE hx;have s4:=hr.to s4 s5;have hnd: ∀c,o.op≠ .defer c:=Fe hx (by intro _ _ e;cases e) (by intro e;cases e);have hstep:=Hv (b:=b) (cs:=cs++cs0) (k:=k') (rest:=td) ho hwc hnd s2;exact .steps (.one hstep) (Qy hE s4 (hb.mono s1) (hd.mono s1) (hk.mono s1) (hfs.mono s1) hs he hp (ht.mono s1) h1 h2 s3)
   ·rename_i f args hx;have hnd: ∀c,o.op≠ .defer c:=Fe hx (by intro _ _ e;cases e) (by intro e;cases e);have hc:=Qt (P:=P) (w:=w) hr.hr hT'.rho hx;have hfr:FR E φ ⟨fn,nt,tm,.drawn p l::k,ds,.run,dfd,ro⟩ (b.atR a (.inRegion Rg.ops (e.j::td)::k')):= ⟨hb.fn,hb.kind,hb.ro,hd,.run,.drawn hs he hp ht hk,fun _=>rfl⟩;exact Ih hE hT hK hr hfr hfs hc (Nu ho hwc hnd)
   ·exact trivial
theorem Yp (c:Frame):({c with mode:=Go.settle c.mode}:Frame)=F4 c:=by
 obtain⟨fn,tmps,todo,defers,mode,kind,ro⟩:=c;unfold F4 Go.settle
 cases mode with
 |run=>rfl
 |returning=>rfl
 |panicking l=>
  cases l with
  |nil=>rfl
  |cons e l=>
   obtain⟨v,rec,g⟩:=e
   cases rec with
   |false=>rfl
   |true=>simp only;cases l.dropWhile (!·.goexit) <;> rfl
theorem qo {d:Deferred}{ds':List Deferred}{c:Array Value}(hm:fr.mode≠ .run)(hd:fr.defers=d::ds')(ht:d.target= .fn (.func f) c): Ma P true ((invoke d.target d.args).run P w) {fr with defers:=ds'} cs (lone fr cs w):=by
 obtain⟨t,aqs⟩:=d;simp only at ht;subst ht;refine⟨fun f args w' hx=>?_,fun l f tmps assign body w' hx=>?_⟩
 ·simp only at hx;refine step_lone_go ?_
  cases hmode:fr.mode with
  |run=>exact absurd hmode hm
  |returning=>simp [stepG,Go.unwind,callDeferred,hmode,hd,hx,Dt]
  |panicking chain=>simp [stepG,Go.unwind,callDeferred,hmode,hd,hx,Dt]
 ·simp only at hx;refine step_lone_go ?_
  cases hmode:fr.mode with
  |run=>exact absurd hmode hm
  |returning=>simp [stepG,Go.unwind,callDeferred,hmode,hd,hx,Dt]
  |panicking chain=>simp [stepG,Go.unwind,callDeferred,hmode,hd,hx,Dt]
theorem Tj (t:Nat): ∀(l:List DI) (tm:T AV) (v:AV),T.get (Ot l tm) t=some v→T.get tm t=some v∧ ∀i∈l,i.ci.dst≠some t
 | [],tm,v,h=>⟨h,fun i hi=>by cases hi⟩
 |a::l,tm,v,h=>by
  simp only [Ot]at h;obtain⟨h1,h2⟩:=Tj t l _ v h
  cases hd:a.ci.dst with
  |none=>
   rw [hd]at h1;refine⟨h1,fun i hi=>?_⟩;rcases List.mem_cons.1 hi with e|hi;·rw [e,hd];intro e;cases e
   ·exact h2 i hi
  |some d=>
   rw [hd]at h1;simp only [T.get_set]at h1;by_cases e:t=d;·rw [if_pos e]at h1;cases h1
   ·rw [if_neg e]at h1;refine⟨h1,fun i hi=>?_⟩;rcases List.mem_cons.1 hi with e'|hi;·rw [e',hd];intro e'';cases e'';exact e rfl
    ·exact h2 i hi
theorem Yq {yfn ynt:Nat}{ytm:T AV}{p:Ph}{lp:List Ph}{r:List AItem}{yd:List ADef}{ym:AMode}{ydfd:Bool}{yro:Option Nat}{l:List (AV×Bool)}{l':List PanicEntry} (hf:FR E φ ⟨yfn,ynt,ytm,.drawn p lp::r,yd,ym,ydfd,yro⟩ fr) (hc:CR φ l l'):FR E φ ⟨yfn,ynt,Ot p.chk ytm,[.gone],yd,Ev.raise ym l,ydfd,yro⟩ (fr.raise l'):=by
 obtain⟨fn,tmps,todo,defers,mode,kind,ro⟩:=fr;obtain⟨h1,h2,h3,h4,h5,h6,h7⟩:=hf;simp only at h1 h2 h3 h4 h5 h6 h7;have hr:=h7 rfl;subst hr
 cases h5;refine⟨h1,h2,h3,h4,.panicking hc,?_,fun h=>by cases h⟩
 cases h6 with
 |plain _ hi=>have:=hi.noD;cases this
 | @drawn Rg q D td e _ _ _ _ _ hs he hp ht hi=>
  refine .gone ⟨ht.size,fun t v hv=>?_⟩;obtain⟨g1,g2⟩:=Tj t _ _ _ hv;refine ht.val t v g1 fun j hj hpj hd=>?_;obtain⟨e1,e2,e3,e4⟩:=Ie he;obtain⟨s1,s2,s3,s4⟩:=hs.head;have hlt:q<(es' E ynt Rg).length:=(List.getElem?_eq_some_iff.1 he).1;have hdrop:(es' E ynt Rg).drop q=e::(es' E ynt Rg).drop (q+1):=by exact p9
  rw [hdrop]at hp;simp only [Bp,List.cons.injEq]at hp;have hpc:p.chk=(Z7 (ne' E ynt Rg) (es' E ynt Rg) e q).map Ho:=by rw [←hp.1]
  rcases List.mem_cons.1 hj with e'|hj;·rw [e']at hpj;exact hpj.1 e3
  ·obtain⟨q1,q2⟩:=s4.apart j hj;have hbit:tb e.bits j=false:=by
    cases hb:tb e.bits j with
    |false=>rfl
    |true=>rw [e4]at hb;exact absurd (List.mem_cons_of_mem _ (s3 j hb)) q1
   have h2:cl' E ynt Rg j≠2:=(by intro h2;have:=Tc hs.reg q2 h2 hpj.2 he;rw [←e4,hbit]at this;cases this);have:=ar (k:=q) (e:=e) q2 hpj.1 h2 (.inl ⟨hpj.2,hbit⟩);exact g2 _ (hpc ▸ this) hd
theorem Yr (hE:EnvOk P E)(hT:TabOk P E F)(hK:MemOk P K)(hr:HW E w0 φ h w)(hf:FR E φ x fr)(hfs:FRs E φ xs cs)(hm:x.mode≠ .run): Goes P E w0 cs0 (Ev.unwind F K x.fn x.nt x.tm x.todo x.mode x.dfd x.ro xs h x.defers) (lone fr (cs++cs0) w):=by
 obtain⟨fn,tmps,todo,defers,mode,kind,ro⟩:=fr;obtain⟨xfn,xnt,xtm,xtodo,xdefers,xmode,xdfd,xro⟩:=x;obtain⟨h1,h2,h3,h4,h5,h6,h7⟩:=hf;simp only at h1 h2 h3 h4 h5 h6 h7 hm;have hmr:mode≠ .run:=by intro e;subst e;cases h5;exact hm rfl
 unfold Ev.unwind
 cases h4 with
 | @cons d d' dl dl' hd hds=>
  cases hd with
  | @mark bk l hφ=>
   simp only;split;·rename_i dd hg;obtain⟨x',g1,g2⟩:=hr.dfr_at hφ hg;have hstep:=step_collected (P:=P) (fr:=⟨fn,tmps,todo,⟨.collected l.cb,#[]⟩::dl',mode,kind,ro⟩) (cs:=cs++cs0) hmr rfl rfl (qk (P:=P) g1);refine⟨_,.one hstep,φ,_,cs,_,rfl,⟨h1,h2,h3,g2.append hds,h5,h6,h7⟩,hfs,?_⟩;exact hr.to (w':=Gm w l.cb (.deferred none)) (hr.hr.over hφ hg rfl .dfrN rfl) ⟨rfl,rfl,rfl⟩
   ·exact trivial
  | @call f args c aqs ha=>simp only;have hfr:FR E φ ⟨xfn,xnt,xtm,xtodo,dl,xmode,xdfd,xro⟩ (⟨fn,tmps,todo,dl',mode,kind,ro⟩:Frame):=⟨h1,h2,h3,hds,h5,h6,h7⟩;refine Ih hE hT hK (r:=(invoke (.fn (.func f) c) aqs).run P w) hr hfr hfs ?_ (qo (fr:=⟨fn,tmps,todo,⟨.fn (.func f) c,aqs⟩::dl',mode,kind,ro⟩) (d:=⟨.fn (.func f) c,aqs⟩) hmr rfl rfl);refine⟨aqs++c,by simpa using ha,fun fn q1 q2 q3=>?_⟩;simp only [invoke];exact L7 q1 q2 q3 _
 |nil=>
  simp only
  cases h5 with
  |run=>exact absurd rfl hm
  |panicking hc=>
   rename_i l l';simp only
   cases hg:T.get F xfn with
   |none=>exact trivial
   |some g=>
    simp only;obtain⟨fn',c',q1,q2,q3,q4⟩:=hT.fn _ _ hg
    cases hfs with
    |nil=>exact trivial
    | @cons y fy ys cs hy hys=>
     simp only;have hstep:=step_going_panicked (P:=P) (fr:=⟨fn,tmps,todo,[],.panicking l',kind,ro⟩) (c:=fy) (cs:=cs++cs0) (w:=w) (chain:=l') ⟨rfl,rfl,fn',by rw [h1];exact q1⟩;rw [←Frame.raise_mode]at hstep;obtain⟨yfn,ynt,ytm,ytodo,ydefers,ymode,ydfd,yro⟩:=y;have key:isD ytodo=false→Goes P E w0 cs0 (.one ⟨⟨yfn,ynt,ytm,ytodo,ydefers,Ev.raise ymode l,ydfd,yro⟩,ys,h⟩) (lone (⟨fn,tmps,todo,[],.panicking l',kind,ro⟩:Frame) (fy::(cs++cs0)) w):= fun hd=>⟨_,.one hstep,φ,_,cs,w,rfl,qi hy hd hc,hys,hr⟩
     cases hd:isD ytodo with
     |true=>
      cases ytodo with
      |nil=>cases hd
      |cons i r=>
       cases i with
       |drawn p lp=>exact⟨_,.one hstep,φ,_,cs,w,rfl,Yq hy hc,hys,hr⟩
       |_=>cases hd
     |false=>
      have:=key hd
      cases ytodo with
      |nil=>exact this
      |cons i r=>cases i <;> first|(cases hd;done)|exact this
  |returning=>
   simp only
   cases hg:T.get F xfn with
   |none=>exact trivial
   |some g=>
    simp only;obtain⟨fn',c',q1,q2,q3,rfl⟩:=hT.fn _ _ hg;have hpl:TR φ xnt xtm tmps:=by
     cases h6 with
     |plain ht _=>exact ht
     |gone ht=>exact ht
     |drawn=>exact absurd (h7 rfl) hm
    split
    ·rename_i l hres;obtain⟨v,r1,r2⟩:=Wi (w:=w) hE hr hpl hres;have hff:P.funcs[fn]?=some fn':=(by rw [h1];exact q1);subst h2
     cases hfs with
     |nil=>
      cases xdfd with
      |true=>exact trivial
      |false=>exact⟨_,w,φ,v,.refl _ _,h1,⟨rfl,rfl,rfl,fn',hff,r1⟩,r2,hr⟩
     | @cons y fy ys cs hy hys=>
      simp only [Ev.doReturn];refine Qz (v':=v) hE hr (.cons hy hys) r2 fun c rest e=>?_;rw [e]
      cases xdfd with
      |false=>exact step_leave_returned ⟨rfl,rfl,rfl,fn',hff,r1⟩
      |true=>have:=step_going_returned (P:=P) (fr:=⟨fn,tmps,todo,[],.returning,Dt true,ro⟩) (c:=c) (cs:=rest) (w:=w) (v:=v) rfl ⟨rfl,rfl,fn',hff,r1⟩;rw [Yp]at this;exact this
    ·exact trivial
theorem qp (hE:EnvOk P E)(hT:TabOk P E F)(hK:MemOk P K)(hA:At E w0 cs0 c m):Goes P E w0 cs0 (Ev.step F K c) m:=by
 obtain⟨φ,fr,cs,w,rfl,hf,hfs,hr⟩:=hA.ex;obtain⟨x,xs,h⟩:=c;simp only at hf hfs hr
 cases hmd:x.mode with
 |returning=>exact Ah1
 |panicking l=>exact Ah1
 |run=>
  obtain⟨fn,tmps,todo,defers,mode,kind,ro⟩:=fr;obtain⟨xfn,xnt,xtm,xtodo,xdefers,xmode,xdfd,xro⟩:=x;simp only at hmd;subst hmd;obtain⟨h1,h2,h3,h4,h5,h6,h7⟩:=hf;simp only at h1 h2 h3 h4 h5 h6 h7
  cases h5;have hb:BR' φ xfn xdfd xro (⟨fn,tmps,todo,defers,.run,kind,ro⟩:Frame):=⟨h1,h2,h3⟩;simp only [Ev.step]
  cases h6 with
  |gone ht=>exact trivial
  | @drawn Rg q D td e p l kx _ kx' hs he hp ht hi=>exact zi (a:=⟨tmps,defers⟩) (b:=⟨fn,tmps,.inRegion Rg.ops (e.j::td)::kx',defers,.run,kind,ro⟩) hE hT hK hr hb h4 hi hfs hs he hp ht
  |plain ht hi=>
   cases hi with
   |nil=>
    simp only
    cases xro with
    |none=>simp only [leave];have hro:ro=none:=Ut h3;subst hro;refine⟨_,.one (stepR_end (b:=⟨fn,tmps,[],defers,.run,kind,none⟩) (a:=⟨tmps,defers⟩) rfl),φ,_,cs,w,rfl,⟨h1,h2,.none,h4,.returning,.plain ht .nil,fun h=>by cases h⟩,hfs,hr⟩
    |some r=>exact G7 (jump:=none) (nt:=xnt) (dfd:=xdfd) (b:=⟨fn,tmps,[],defers,.run,kind,ro⟩) hE hr h3 hfs fun l v w' c rest e1 e2 e3=>by rw [e3];exact gu (b:=⟨fn,tmps,[],defers,.run,kind,ro⟩) (a:=⟨tmps,defers⟩) e1 hb.kind e2
   | @cons i i' kx kx' hi hk=>
    simp only
    have hitem:(∀id ops,i'≠ .code (.region id ops true))→(∀f ps x y,i'≠ .code (.rangeFunc f ps x y))→
      Goes P E w0 cs0 (Bu F K i kx xfn xnt xtm xdefers xdfd xro xs h) (lone (⟨fn,tmps,i'::kx',defers,.run,kind,ro⟩:Frame) (cs++cs0) w):=fun n1 n2=>
     qh (a:=⟨tmps,defers⟩) (b:=⟨fn,tmps,i'::kx',defers,.run,kind,ro⟩) hE hT hK hr hb ht h4 hk hfs hi n1 n2
    cases hi with
    |code c=>
     cases c with
     |region id ops d=>
      cases d with
      |true=>exact qm (a:=⟨tmps,defers⟩) (b:=⟨fn,tmps,.code (.region id ops true)::kx',defers,.run,kind,ro⟩) hE hr hb ht h4 hk hfs id ops
      |false=>exact hitem (fun _ _ e=>by cases e) (fun _ _ _ _ e=>by cases e)
     |rangeFunc f ps x y=>exact Ad7 (a:=⟨tmps,defers⟩) (b:=⟨fn,tmps,.code (.rangeFunc f ps x y)::kx',defers,.run,kind,ro⟩) hE hT hK hr hb ht h4 hk hfs f ps x y
     |_=>exact hitem (fun _ _ e=>by cases e) (fun _ _ _ _ e=>by cases e)
    |_=>exact hitem (fun _ _ e=>by cases e) (fun _ _ _ _ e=>by cases e)
end
theorem Acf (h:p:=by
 rw [Ny]at hx
 by_cases e:b∈bs
 ·rw [if_pos e]at hx;exact hx
 ·rw [if_neg e]at hx;cases hx):p:=h
theorem Acg (h:p:=by
 rw [L9]at hv
 by_cases e:t∈ts
 ·rw [if_pos e]at hv;exact hv
 ·rw [if_neg e]at hv;cases hv):p:=h
section
variable (F:T CFn)(K:T (List AV×AV))
noncomputable def Sk (q:Nat→AV→Bool):Nat→Conf→Bool
 |0=>fun _=>false
 |Nat.succ n=>fun c=>match step F K c with
  | .one c=>Sk q n c
  | .many l=>List.foldr (fun c (b:Bool)=>match Sk q n c with|true=>b|false=>false) true l
  | .done fn v _=>q fn v
  | .fail=>false
noncomputable def Wj (s:Conf→Bool):Nat→Conf→Option (List Conf)
 |0=>fun _=>none
 |Nat.succ n=>fun c=>match s c with
  |true=>some [c]
  |false=>match step F K c with
   | .one c=>Wj s n c
   | .many l=>List.foldr (fun c (b:Option (List Conf))=>match Wj s n c with|some x=>(match b with|some y=>some (List.append x y)|none=>none)|none=>none) (some []) l
   | .done _ _ _=>none
   | .fail=>none
end
noncomputable def K7 (t:T Blk):List Nat→T Blk
 | []=> .leaf
 |b::r=>match T.get t b with
  |some x=>T.set (K7 t r) b (some x)
  |none=>K7 t r
noncomputable def trim (ts bs:List Nat)(n:Nat)(c:Conf):Option Conf:=
 match c with
 |⟨⟨fn,nt,tm,todo,ds,mode,dfd,ro⟩,cs,h⟩=>match Nat.ble h.n n with
  |true=>some ⟨⟨fn,nt,only tm ts,todo,ds,mode,dfd,ro⟩,cs,⟨n,K7 h.t bs⟩⟩
  |false=>none
noncomputable def start (F:T CFn)(f:Nat)(args:List AV):Option Conf:=match T.get F f with
 |some g=>(match Nat.ble args.length g.ntmps with
  |true=>some ⟨⟨f,g.ntmps,ofL 0 .leaf args,[.code g.body],[],.run,false,none⟩,[],⟨0,.leaf⟩⟩
  |false=>none)
 |none=>none
section
variable {F:T CFn}{K:T (List AV×AV)}
def Good (P:Program)(E:Env)(Q:Nat→AV→Prop)(c:Conf):Prop:=
 ∀(w0:World) (cs0:List Frame) (m:Machine),At E w0 cs0 c m→ ∃fn v h fr w φ v',Q fn v∧Steps P m (lone fr cs0 w)∧fr.fn=fn∧fr.leaving P w (.returned v')∧VR φ v v'∧HW E w0 φ h w
theorem Nv (hE:EnvOk P E)(hT:TabOk P E F)(hK:MemOk P K)(h:match step F K c with | .one c'=>Good P E Q c'| .many l=> ∀c'∈l,Good P E Q c'| .done fn v _=>Q fn v| .fail=>False):Good P E Q c:=by
 intro w0 cs0 m hA;have:=qp (w0:=w0) (cs0:=cs0) hE hT hK hA
 cases hs:step F K c with
 |one c'=>rw [hs]at this h;obtain⟨m',s1,s2⟩:=this;obtain⟨fn,v,h,fr,w,φ,v',q,s,r⟩:=h w0 cs0 m' s2;exact⟨fn,v,h,fr,w,φ,v',q,s1.trans s,r⟩
 |many l=>rw [hs]at this h;obtain⟨c',hc,m',s1,s2⟩:=this;obtain⟨fn,v,h,fr,w,φ,v',q,s,r⟩:=h c' hc w0 cs0 m' s2;exact⟨fn,v,h,fr,w,φ,v',q,s1.trans s,r⟩
 |done fn v h'=>rw [hs]at this h;obtain⟨fr,w,φ,v',s1,s2,s3,s4,s5⟩:=this;exact⟨fn,v,h',fr,w,φ,v',h,s1,s2,s3,s4,s5⟩
 |fail=>rw [hs]at h;exact h.elim
theorem Nw (hE:EnvOk P E)(hT:TabOk P E F)(hK:MemOk P K){q:Nat→AV→Bool}: ∀(n:Nat) (c:Conf),Sk F K q n c=true→Good P E (fun fn v=>q fn v=true) c
 |0,c,h=>by simp [Sk]at h
 |n+1,c,h=>by
  simp only [Sk]at h;refine Nv hE hT hK ?_
  cases hs:step F K c with
  |one c'=>rw [hs]at h;exact Nw hE hT hK n c' h
  |many l=>
   rw [hs]at h;simp only at h ⊢;have key: ∀l:List Conf,List.foldr (fun c (b:Bool)=>match Sk F K q n c with|true=>b|false=>false) true l=true→ ∀c∈l,Sk F K q n c=true:=by
    intro l;induction l with
    |nil=>intro _ c hc;cases hc
    |cons a l ih=>
     intro h c hc;simp only [List.foldr]at h;split at h
     ·rename_i ha;rcases List.mem_cons.1 hc with e|hc;·rw [e];exact ha
      ·exact ih h c hc
     ·cases h
   exact fun c' hc=>Nw hE hT hK n c' (key l h c' hc)
  |done fn v h'=>rw [hs]at h;exact h
  |fail=>rw [hs]at h;cases h
theorem Nx (hE:EnvOk P E)(hT:TabOk P E F)(hK:MemOk P K){Q:Nat→AV→Prop}{s:Conf→Bool}: ∀(n:Nat) (c:Conf) (l:List Conf),Wj F K s n c=some l→(∀c'∈l,Good P E Q c')→Good P E Q c
 |0,c,l,h,_=>by simp [Wj]at h
 |n+1,c,l,h,hl=>by
  simp only [Wj]at h;split at h;·simp only [Option.some.injEq]at h;subst h;exact hl c (List.mem_cons_self ..)
  ·refine Nv hE hT hK ?_
   cases hs:step F K c with
   |one c'=>rw [hs]at h;exact Nx hE hT hK n c' l h hl
   |many cs=>
    rw [hs]at h;simp only at h ⊢
    have key: ∀(cs:List Conf) (l:List Conf),List.foldr (fun c (b:Option (List Conf))=>match Wj F K s n c with|some x=>(match b with|some y=>some (List.append x y)|none=>none)|none=>none) (some []) cs=some l→
      ∀c∈cs,∃x,Wj F K s n c=some x∧ ∀y∈x,y∈l:=by
     intro cs
     induction cs with
     |nil=>intro l _ c hc;cases hc
     |cons a cs ih=>
      intro l h c hc
      simp only [List.foldr]at h
      split at h
      ·rename_i x hx
       split at h
       ·rename_i y hy
        simp only [Option.some.injEq]at h;subst h
        rcases List.mem_cons.1 hc with e|hc
        ·rw [e];exact⟨x,hx,fun z hz=>List.mem_append_left _ hz⟩
        ·obtain⟨x',g1,g2⟩:=ih y hy c hc
         exact⟨x',g1,fun z hz=>List.mem_append_right _ (g2 z hz)⟩
       ·cases h
      ·cases h
    intro c' hc;obtain⟨x,g1,g2⟩:=key cs l h c' hc;exact Nx hE hT hK n c' x g1 fun y hy=>hl y (g2 y hy)
   |done fn v h'=>rw [hs]at h;cases h
   |fail=>rw [hs]at h;cases h
theorem Ny (t:T Blk)(b:Nat): ∀l:List Nat,T.get (K7 t l) b=if b∈l then T.get t b else none
 | []=>by simp [K7,T.get_leaf]
 |x::l=>by
  simp only [K7]
  cases hx:T.get t x with
  |none=>
   simp only [];rw [Ny t b l];by_cases e:b=x;·subst e;simp [hx]
   ·simp [e]
  |some v=>
   simp only [];rw [T.get_set,Ny t b l];by_cases e:b=x;·subst e;simp [hx]
   ·simp [e]
theorem At.trim {w0:World}{cs0:List Frame}{ts bs:List Nat}{n:Nat}{c c':Conf}{m:Machine}(hA:At E w0 cs0 c m)(ht:Ev.trim ts bs n c=some c'):At E w0 cs0 c' m:=by
 obtain⟨φ,fr,cs,w,rfl,hf,hfs,hr⟩:=hA.ex;obtain⟨⟨fn,nt,tm,todo,ds,mode,dfd,ro⟩,xs,h⟩:=c;simp only [Ev.trim]at ht;split at ht
 ·rename_i hn;simp only [Option.some.injEq]at ht;subst ht;have hn:=Ak hn;have ex: ∀{b:Nat} {x:Blk},H.get ⟨n,K7 h.t bs⟩ b=some x→H.get h b=some x:=by intro b x hx;have hx:T.get (K7 h.t bs) b=some x:=hx;exact Acf
  have ext: ∀{t:Nat} {v:AV},T.get (only tm ts) t=some v→T.get tm t=some v:=by intro t v hv;exact Acg
  refine⟨φ,fr,cs,w,rfl,⟨hf.fn,hf.kind,hf.ro,hf.defers,hf.mode,?_,hf.dr⟩,hfs,?_⟩
  ·have hb:=hf.body;simp only at hb;generalize fr.tmps=q1 at hb ⊢;generalize fr.todo=q2 at hb ⊢
   cases hb with
   |plain ht hi=>exact .plain ⟨ht.size,fun t v hv=>ht.val t v (ext hv)⟩ hi
   |gone ht=>exact .gone ⟨ht.size,fun t v hv=>ht.val t v (ext hv)⟩
   |drawn hs he hp ht hi=>exact .drawn hs he hp ⟨ht.size,fun t v hv=>ht.val t v (ext hv)⟩ hi
  ·have hw:=hr;have hr:=hw.hr;refine⟨?_,hw.like⟩;exact⟨fun b l hb=>Nat.lt_of_lt_of_le (hr.bound b l hb) hn,hr.cbound,fun b l x hb hx=>hr.blk b l x hb (ex hx),fun b b' l l' x x' h1 h2 h3 h4=>hr.inj b b' l l' x x' h1 h2 (ex h3) (ex h4), fun b l x hb hx=>hr.own b l x hb (ex hx),hr.old,hr.size⟩
 ·cases ht
theorem HR.none (m:Array Obj):HR E m (fun _=>Option.none) ⟨0,.leaf⟩ m:= ⟨fun _ _ h=>(by cases h),fun _ _ h=>(by cases h),fun _ _ _ h=>(by cases h),fun _ _ _ _ _ _ h=>(by cases h),fun _ _ _ h=>(by cases h),fun _ _=>rfl,Nat.le_refl _⟩
theorem Sl (hT:TabOk P E F)(hs:start F f args=some c)(hg:Good P E Q c)(ha:VRs (fun _=>none) args args'.toList)(w:World) {R:Ending→World→Prop} (hQ: ∀fn v h φ v' (w':World),Q fn v→VR φ v v'→HW E w φ h w'→fn=f∧R (.returned v') w'):Calls P f args' w R:=by
 intro cs;unfold start at hs;split at hs
 ·rename_i g hgf;split at hs;·rename_i hn;simp only [Option.some.injEq]at hs;subst hs;have hA:At E w cs ⟨⟨f,g.ntmps,ofL 0 .leaf args,[.code g.body],[],.run,false,Option.none⟩,[],⟨0,.leaf⟩⟩ (lone (Frame.enter P f args' .normal) cs w):= ⟨_,_,[],w,rfl,Q0 (dfd:=false) hT hgf ha (Ak hn),.nil,⟨.none _,.refl _⟩⟩;obtain⟨fn,v,h,fr,w',φ,v',q,s1,s2,s3,s4,s5⟩:=hg _ _ _ hA;obtain⟨e,hR⟩:=hQ fn v h φ v' w' q s4 s5;exact⟨.returned v',w',fr,hR,s1,by rw [s2,e],s3⟩
  ·cases hs
 ·cases hs
def D9:Nat→AV→Bool
 |0,_=>false
 |d+1,v=>match v with
  | .bool _=>true
  | .int _ _=>true
  | .str _=>true
  | .nilp=>true
  | .nils=>true
  | .nilm=>true
  | .nilf=>true
  | .nili=>true
  | .fn (.func _) a c=>a.all (D9 d) && c.all (D9 d)
  | .ifc _ v=>D9 d v
  | .agg l=>l.all (D9 d)
  | .tup l=>l.all (D9 d)
  |_=>false
theorem Py: ∀(d:Nat) (v:AV),D9 d v=true→ ∀{φ φ':Phi} {v':Value},VR φ v v'→VR φ' v v'
 |0,v,h,φ,φ',v',_=>by simp [D9]at h
 |d+1,v,h,φ,φ',v',hv=>by
  have hl: ∀(l:List AV) (l':List Value),l.all (D9 d)=true→VRs φ l l'→VRs φ' l l':=by
   intro l;induction l with
   |nil=>intro l' _ h;cases h;exact .nil
   |cons a l ih=>
    intro l' ha h;simp only [List.all_cons,Bool.and_eq_true]at ha
    cases h with|cons h1 h2=>exact .cons (Py d a ha.1 h1) (ih _ ha.2 h2)
  cases hv with
  |bool b=>exact .bool b
  |int k n=>exact .int k n
  |str hs=>exact .str hs
  |nilp=>exact .nilp
  |nils=>exact .nils
  |nilm=>exact .nilm
  |nilf=>exact .nilf
  |nili=>exact .nili
  |ptr _=>simp [D9]at h
  |slcX _ _ _ _=>simp [D9]at h
  |slcU _ _ _ _=>simp [D9]at h
  |map _=>simp [D9]at h
  |fnF ha hc=>simp only [D9,Bool.and_eq_true]at h;exact .fnF (hl _ _ h.1 ha) (hl _ _ h.2 hc)
  |fnY _=>simp [D9]at h
  |ifc hv=>simp only [D9]at h;exact .ifc (Py d _ h hv)
  |agg ha=>simp only [D9]at h;exact .agg (hl _ _ h ha)
  |tup ha=>simp only [D9]at h;exact .tup (hl _ _ h ha)
  |opq _=>exact .opq _
  |unk _=>exact .unk _
theorem Wl {d:Nat}: ∀{l:List AV} {l':List Value},l.all (D9 d)=true→ ∀{φ φ':Phi},VRs φ l l'→VRs φ' l l'
 | [],_,_,φ,φ',h=>by cases h;exact .nil
 |a::l,_,ha,φ,φ',h=>by
  simp only [List.all_cons,Bool.and_eq_true]at ha
  cases h with|cons h1 h2=>exact .cons (Py d a ha.1 h1) (Wl ha.2 h2)
theorem MemOk.add (hK:MemOk P K)(hT:TabOk P E F)(hs:start F f args=some c)(hg:Good P E (fun fn u=>fn=f∧u=v) c)(ha:args.all (D9 20)=true)(hv:D9 20 v=true): MemOk P (T.set K f (some (args,v))):=by
 refine⟨fun f' args' v' hk φ vs w hvs=>?_⟩;rw [T.get_set]at hk;by_cases e:f'=f
 ·subst e;rw [if_pos rfl]at hk
  cases hk;refine Sl hT hs hg (Wl ha hvs) w fun fn u h φ' u' w' q hu hr=>?_;obtain⟨rfl,rfl⟩:=q;exact⟨rfl,u',rfl,fun φ=> Py 20 _ hv hu,⟨hr.like.os,hr.like.tape,hr.like.output,hr.hr.size,fun k hk=>hr.hr.old k hk⟩⟩
 ·rw [if_neg e]at hk;exact hK.ok _ _ _ hk φ vs w hvs
theorem MemOk.leaf:MemOk P .leaf:=⟨fun f args v h=>by rw [T.get_leaf]at h;cases h⟩
end
variable {u:AV}
theorem O6: ∀(l:List TypeInfo) (n:Nat) (t:T TypeInfo) (i:Nat),T.get (J9 n l t) i=if n≤i∧i<n+l.length then l[i - n]? else T.get t i
 | [],n,t,i=>by simp [J9];omega
 |a::l,n,t,i=>by
  rw [J9,O6 l (n+1),T.get_set];by_cases h1:n+1≤i∧i<n+1+l.length;·rw [if_pos h1,if_pos (by simp;omega)];obtain⟨k,rfl⟩: ∃k,i=n+1+k:=⟨i - (n+1),by omega⟩;rw [show n+1+k - (n+1)=k by omega,show n+1+k - n=k+1 by omega];simp
  ·rw [if_neg h1];by_cases h2:i=n;·subst h2;rw [if_pos rfl,if_pos (by simp)];simp
   ·rw [if_neg h2,if_neg (by simp;omega)]
noncomputable def Ach (P:Program)(S:List Nat):Env:=⟨J9 0 P.types.toList .leaf,S⟩
noncomputable def tabOf (P:Program)(E:Env):T CFn:=Ps E 0 P.funcs.toList .leaf
theorem Ah2 (P:Program)(S:List Nat)(hs:S.all (fun t=>!(P.stoodInHeld t) && !(P.eqGuardType P.depth t))=true)(hm:P.follows .mixedOrders=true):EnvOk P (Ach P S):=by
 refine⟨fun t i h=>?_,fun t ht=>?_,hm⟩
 ·have h:T.get (J9 0 P.types.toList .leaf) t=some i:=h;rw [O6]at h;split at h;·rw [Nat.sub_zero]at h;have h:P.types[t]?=some i:=(by simpa using h);have hlt:t<P.types.size:=(Array.getElem?_eq_some_iff.1 h).1;unfold Tables.info?;rw [if_pos hlt];exact h
  ·rw [T.get_leaf]at h;cases h
 ·have:=List.all_eq_true.1 hs t ht;simpa using this
theorem Jm (E:Env): ∀(l:List Func) (n:Nat) (t:T CFn) (i:Nat) (g:CFn),(∀i g,n≤i→T.get t i=some g→False)→T.get (Ps E n l t) i=some g→T.get t i=some g∨ ∃fn c,n≤i∧l[i - n]?=some fn∧fn.body=some c∧g=Vy E fn c
 | [],n,t,i,g,_,h=> .inl h
 |a::l,n,t,i,g,ht,h=>by
  rw [Ps]at h
  cases hb:a.body with
  |none=>
   rw [hb]at h;rcases Jm E l (n+1) t i g (fun i g hi=>ht i g (by omega)) h with h|⟨fn,c,h1,h2,h3,h4⟩;·exact .inl h
   ·refine .inr ⟨fn,c,by omega,?_,h3,h4⟩;rw [show i - n=(i - (n+1))+1 by omega];simpa using h2
  |some c=>
   rw [hb]at h;simp only at h;rcases Jm E l (n+1) _ i g (fun i g hi hg=>by rw [T.get_set,if_neg (by omega)]at hg;exact ht i g (by omega) hg) h with h|⟨fn,c',h1,h2,h3,h4⟩
   ·rw [T.get_set]at h;by_cases e:i=n;·rw [if_pos e]at h;cases h;exact .inr ⟨a,c,by omega,by rw [e,Nat.sub_self];rfl,hb,rfl⟩
    ·rw [if_neg e]at h;exact .inl h
   ·refine .inr ⟨fn,c',by omega,?_,h3,h4⟩;rw [show i - n=(i - (n+1))+1 by omega];simpa using h2
theorem tabOk (P : Program) (E : Env) (hn : P.funcs.toList.all (fun f => !(f.name == "runtime.NumGoroutine")) = true) : TabOk P E (tabOf P E) := by
 refine⟨fun f g h=>?_⟩
 rcases Jm E P.funcs.toList 0 .leaf f g (fun _ _ _ h=>by rw [T.get_leaf]at h;cases h) h with h|⟨fn,c,h1,h2,h3,h4⟩
 ·rw [T.get_leaf]at h;cases h
 ·rw [Nat.sub_zero]at h2
  refine⟨fn,c,by simpa using h2,?_,h3,h4⟩
  have:=List.all_eq_true.1 hn fn (List.mem_of_getElem? h2)
  simpa using this
def nav:CC→List Nat→CC
 |c,[]=>c
 |c,0::r=>match c with
  | .seq a _=>nav a r
  | .cond _ a _=>nav a r
  | .block _ b=>nav b r
  | .loop b=>nav b r
  | .scope b=>nav b r
  | .rangeFunc _ _ a _=>nav a r
  |_=> .bad
 |c,_::r=>match c with
  | .seq _ b=>nav b r
  | .cond _ _ b=>nav b r
  | .rangeFunc _ _ _ b=>nav b r
  |_=> .bad
noncomputable def As (F:T CFn)(f:Nat):CC:=match T.get F f with
 |some g=>g.body
 |none=> .bad
def qq {α: Type}(l:List α):Nat→List α
 |0=>l
 |Nat.succ n=>match l with
  | []=> []
  |_::r=>qq r n
def Fv (c:CC)(n:Nat):List CI:=match c with
 | .ops l=>qq l n
 |_=> []
def zj (c:CC)(n:Nat):AItem:=match c with
 | .drawn _ _ l=>(match qq l n with
  |p::r=> .drawn p r
  | []=> .gone)
 |_=> .gone
noncomputable def ofP {α: Type}(t:T α):List (Nat×α)→T α
 | []=>t
 |p::r=>T.set (ofP t r) p.1 (some p.2)
noncomputable def Ac (l:List AV):Blk:= .cells false l.length (ofL 0 .leaf l)
noncomputable def Nz (l:List AV):Blk:= .cells true l.length (ofL 0 .leaf l)
def Aci {α: Type}:Nat→List α→Bool
 |0,[]=>true
 |Nat.succ n,_::r=>Aci n r
 |_,_=>false
noncomputable def Ah3 (n d N:Nat)(c:Conf):Bool:=
 match c with
 |⟨⟨_,_,tm,_,_,_,_,_⟩,cs,h⟩=>match Aci n cs with
  |true=>(match Nat.ble N h.n with
   |true=>(match T.get tm d with|some _=>true|none=>false)
   |false=>false)
  |false=>false
theorem Good.mono {Q':Nat→AV→Prop}(hg:Good P E Q c)(h: ∀fn v,Q fn v→Q' fn v):Good P E Q' c:= fun w0 cs0 m hA=>let⟨fn,v,hh,fr,w,φ,v',q,r⟩:=hg w0 cs0 m hA;⟨fn,v,hh,fr,w,φ,v',h fn v q,r⟩
def qIs (f:Nat)(u:AV)(fn:Nat)(v:AV):Bool:=match Nat.beq fn f with
 |true=>F3 20 v u
 |false=>false
theorem Ad8 (h:qIs f u fn v=true):fn=f∧v=u:=by
 unfold qIs at h;split at h;·rename_i hb;exact⟨Am hb,Pv _ _ _ h⟩
 ·cases h
noncomputable def Ys (o:Option Conf):Conf:=match o with
 |some c=>c
 |none=>⟨⟨0,0,.leaf,[],[],.run,false,none⟩,[],⟨0,.leaf⟩⟩
def Uu (o:Option Conf):Bool:=match o with
 |some _=>true
 |none=>false
theorem Tk {o:Option Conf}(h:Uu o=true):o=some (Ys o):=by
 cases o with
 |none=>cases h
 |some c=>rfl
theorem Wm {F:T CFn}{K:T (List AV×AV)}(hE:EnvOk P E)(hT:TabOk P E F)(hK:MemOk P K)(h:Sk F K (qIs f u) n c=true): Good P E (fun fn v=>fn=f∧v=u) c:= (Nw hE hT hK n c h).mono fun _ _=>Ad8
open Go.Proofs
noncomputable def SS:List Nat:= [7,8,22,23,30,31,43,44,61,62,64,65,75,76,78,79,90,91,94,95,96,97,108,109,112,113,127,128,131,132,137,138,144,145,162,163,166,167,169,170,177,178,190,191,198,199,200,201,223,224,225,226,258,259,262,263,277,278,279,280,281,282,300,301,302,303,320,321,338,339]
noncomputable def EE:Env:=Ach Tryz.prog SS
end Go.Ev
namespace Go.Ev
variable {E:Env}{F:T CFn}{K:T (List AV×AV)}{P:Program}{Q:Nat→AV→Prop}{a:Int}{args c vs:List AV}{b:CC}{cap fn i id k len n nt o off q size:Nat}{chk pre:List DI}{ci:CI}{cs:List AFr}{dfd t:Bool}{ds:List ADef}{dst:Option Nat}{f:AFn}{fr:Frame}{g:CFn}{gd:Option (Nat×Bool)}{h h':H}{l:List Ph}{mode:AMode}{nm:List Nat}{op:COp}{r:List CI}{tm tm':T AV}{todo:List AItem}{v:AV}{w0:World}{x:AFr}{x':Blk}{y z:O}{φ:Phi}
inductive BSub:Blk→Blk→Prop where
 |cells {ro:Bool} {n' n:Nat} {c' c:T AV} (hn:n'≤n) (h: ∀i v,i<n'→T.get c' i=some v→T.get c i=some v):BSub (.cells ro n' c') (.cells ro n c)
 |same (x:Blk):BSub x x
theorem BSub.ro {x:Blk}(h:BSub x' x):roB x'=roB x:=by cases h <;> rfl
def TSub (tm' tm:T AV):Prop:= ∀t v,T.get tm' t=some v→T.get tm t=some v
structure HSub (h' h:H):Prop where
 n:h.n≤h'.n
 blk: ∀b x',H.get h' b=some x'→ ∃x,H.get h b=some x∧BSub x' x
theorem HSub.refl (h:H):HSub h h:=⟨Nat.le_refl _,fun b x hx=>⟨x,hx,.same x⟩⟩
theorem TSub.refl (t:T AV):TSub t t:=fun _ _ h=>h
theorem BR.sub {l:Loc}{x:Blk}{o:Obj}(hb:BSub x' x)(h:BR E φ l x o):BR E φ l x' o:=by
 cases hb with
 |same=>exact h
 |cells h1 h2=>cases h with
  |cells hf hs hn hc=>exact .cells hf hs (by omega) fun i v hi hv=>hc i v (by omega) (h2 i v hi hv)
theorem HW.sub {w:World}(hs:HSub h' h)(k:HW E w0 φ h w):HW E w0 φ h' w:=by
 refine⟨?_,k.like⟩;have hr:=k.hr;refine⟨fun b l hb=>Nat.lt_of_lt_of_le (hr.bound b l hb) hs.n,hr.cbound,fun b l x hb hx=>?_,fun b b' l l' x x' h1 h2 h3 h4 h5 h6=>?_,fun b l x hb hx h5=>?_,hr.old,hr.size⟩;·obtain⟨y,g1,g2⟩:=hs.blk b x hx;obtain⟨o,g3,g4⟩:=hr.blk b l y hb g1;exact⟨o,g3,g4.sub g2⟩
 ·obtain⟨y,g1,g2⟩:=hs.blk b x h3;obtain⟨y',g3,g4⟩:=hs.blk b' x' h4;exact hr.inj b b' l l' y y' h1 h2 g1 g3 (by rw [←g2.ro];exact h5) h6
 ·obtain⟨y,g1,g2⟩:=hs.blk b x hx;exact hr.own b l y hb g1 (by rw [←g2.ro];exact h5)
theorem FR.subT {ro:Option Nat}(ht:TSub tm' tm)(h:FR E φ ⟨fn,nt,tm,todo,ds,mode,dfd,ro⟩ fr):FR E φ ⟨fn,nt,tm',todo,ds,mode,dfd,ro⟩ fr:=by
 refine⟨h.fn,h.kind,h.ro,h.defers,h.mode,?_,h.dr⟩;have hb:=h.body;simp only at hb ⊢;generalize fr.tmps=q1 at hb ⊢;generalize fr.todo=q2 at hb ⊢
 cases hb with
 |plain h1 hi=>exact .plain ⟨h1.size,fun t v hv=>h1.val t v (ht t v hv)⟩ hi
 |gone h1=>exact .gone ⟨h1.size,fun t v hv=>h1.val t v (ht t v hv)⟩
 |drawn hs he hp h1 hi=>exact .drawn hs he hp ⟨h1.size,fun t v hv=>h1.val t v (ht t v hv)⟩ hi
section
theorem Q2 {ro:Option Nat}(ht:TSub tm' tm)(hh:HSub h' h) (hg:Good P E Q ⟨⟨fn,nt,tm',todo,ds,mode,dfd,ro⟩,cs,h'⟩):Good P E Q ⟨⟨fn,nt,tm,todo,ds,mode,dfd,ro⟩,cs,h⟩:=by intro w0 cs0 m hA;obtain⟨φ,fr,cs1,w,rfl,hf,hfs,hr⟩:=hA.ex;exact hg w0 cs0 _ ⟨φ,fr,cs1,w,rfl,hf.subT ht,hfs,hr.sub hh⟩
def GO (P:Program)(E:Env)(Q:Nat→AV→Prop)(o:Out):Prop:=match o with
 | .one c=>Good P E Q c
 | .many l=> ∀c∈l,Good P E Q c
 | .done fn v _=>Q fn v
 | .fail=>False
abbrev Fk (F:T CFn)(K:T (List AV×AV))(n:Nat)(c:CFn):Prop:=T.get F n=some c∧T.get K n=none
structure Lg (P:Program)(E:Env)(F:T CFn)(K:T (List AV×AV)):Prop where
 hE:EnvOk P E
 hT:TabOk P E F
 hK:MemOk P K
variable (L:Lg P E F K)
include L
theorem A7 {c:Conf}(h:GO P E Q (step F K c)):Good P E Q c:=by
 refine Nv L.hE L.hT L.hK ?_
 cases hs:step F K c <;> rw [hs]at h <;> exact h
end
noncomputable def ov {α: Type}(t:T α):List (Nat×Option α)→T α
 | []=>t
 |p::r=>T.set (ov t r) p.1 p.2
theorem Uv {α: Type}(t:T α)(k:Nat)(x:Option α)(r:List (Nat×Option α))(i:Nat):T.get (ov t ((k,x)::r)) i=if i=k then x else T.get (ov t r) i:=T.get_set _ _ _ _
theorem Ah4 {α: Type}(t:T α)(k:Nat)(x:Option α)(r:List (Nat×Option α)):T.get (ov t ((k,x)::r)) k=x:=by rw [Uv,if_pos rfl]
theorem Ah5 {α: Type}(t:T α)(x:Option α)(r:List (Nat×Option α))(h:i≠k):T.get (ov t ((k,x)::r)) i=T.get (ov t r) i:=by rw [Uv,if_neg h]
def look {α: Type}:List (Nat×Option α)→Nat→Option α
 | [],_=>none
 |p::r,i=>match Nat.beq i p.1 with
  |true=>p.2
  |false=>look r i
theorem G8 {α: Type}(i:Nat): ∀r:List (Nat×Option α),T.get (ov (.leaf:T α) r) i=look r i
 | []=>T.get_leaf i
 |p::r=>by
  obtain⟨k,x⟩:=p;rw [Uv,G8 i r];simp only [look]
  cases hb:Nat.beq i k with
  |true=>rw [if_pos (Am hb)]
  |false=>rw [if_neg (D8 hb)]
noncomputable abbrev tms (l:List (Nat×Option AV)):T AV:=ov .leaf l
def evL (l:List (Nat×Option AV))(o:O):AV:=match o with
 | .t i=>(match look l i with|some v=>v|none=> .unk)
 | .c v=>v
theorem Ah (l:List (Nat×Option AV))(o:O):ev (tms l) o=evL l o:=by
 cases o with
 |t i=>simp only [ev,evL,G8];cases look l i <;> rfl
 |c v=>rfl
noncomputable abbrev hp (n:Nat)(t:T Blk)(l:List (Nat×Option Blk)):H:=⟨n,ov t l⟩
noncomputable def cl (l:List AV):Blk:= .cells false l.length (ofL 0 .leaf l)
theorem Ii (l:List AV)(i:Nat):T.get (ofL 0 (.leaf:T AV) l) i=l[i]?:=by
 rw [Kc];by_cases h:i<l.length;·rw [if_pos (by omega),Nat.sub_zero]
 ·rw [if_neg (by omega),T.get_leaf,List.getElem?_eq_none (by omega)]
theorem Hg (n:Nat)(t:T Blk)(b:Nat)(x:Option Blk)(r:List (Nat×Option Blk)):H.get (hp n t ((b,x)::r)) b=x:=Ah4 _ _ _ _
theorem Fm (n:Nat)(t:T Blk){b:Nat}(x:Option Blk)(r:List (Nat×Option Blk))(h:i≠b):H.get (hp n t ((b,x)::r)) i=H.get (hp n t r) i:=Ah5 _ _ _ h
noncomputable def trF (ts:List Nat)(x:AFr):AFr:=match x with
 |⟨fn,nt,tm,todo,ds,mode,dfd,ro⟩=>⟨fn,nt,only tm ts,todo,ds,mode,dfd,ro⟩
noncomputable def trL:List (List Nat)→List AFr→List AFr
 | [],l=>l
 |ts::r,l=>match l with
  | []=> []
  |x::l=>trF ts x::trL r l
noncomputable def yi (tss:List (List Nat))(bs:List Nat)(n:Nat)(c:Conf):Option Conf:=
 match c with
 |⟨fr,cs,h⟩=>match Nat.ble h.n n with
  |true=>(match tss with
   |ts::r=>some ⟨trF ts fr,trL r cs,⟨n,K7 h.t bs⟩⟩
   | []=>none)
  |false=>none
noncomputable def Xx (F:T CFn)(K:T (List AV×AV))(dep d N:Nat)(tss:List (List Nat))(bs:List Nat)(n fuel:Nat)(c:Conf):Option (List (Option Conf)):=
 match Wj F K (Ah3 dep d N) fuel c with
 |some l=>some (l.map (yi tss bs n))
 |none=>none
theorem yj (tm:T AV)(ts:List Nat):TSub (only tm ts) tm:=fun t v hv=>by
 exact Acg
theorem FR.trF (ts:List Nat)(h:FR E φ x fr):FR E φ (Ev.trF ts x) fr:=by obtain⟨fn,nt,tm,todo,ds,mode,dfd,ro⟩:=x;exact h.subT (yj tm ts)
theorem FRs.trL: ∀(tss:List (List Nat)) {l:List AFr} {l':List Frame},FRs E φ l l'→FRs E φ (Ev.trL tss l) l'
 | [],_,_,h=>h
 |ts::r,_,_,.nil=> .nil
 |ts::r,_,_,.cons h hs=> .cons (h.trF ts) (FRs.trL r hs)
theorem Gd (hE:EnvOk P E)(hT:TabOk P E F)(hK:MemOk P K){dep d N:Nat}{tss:List (List Nat)}{bs:List Nat}{fuel:Nat}{c c':Conf} (h:Xx F K dep d N tss bs n fuel c=some (List.replicate k (some c'))) (hg:Good P E Q c'):Good P E Q c:=by
 unfold Xx at h;split at h
 ·rename_i l hl;simp only [Option.some.injEq]at h;refine Nx hE hT hK fuel c l hl fun x hx=>?_;have h1:yi tss bs n x∈List.replicate k (some c'):=by rw [←h];exact List.mem_map.2 ⟨x,hx,rfl⟩
  have h1:=List.eq_of_mem_replicate h1;obtain⟨fr,cs,h9⟩:=x;simp only [yi]at h1;split at h1
  ·rename_i hn;split at h1;·cases h1;intro w0 cs0 m hA;obtain⟨φ,fr,cs1,w,rfl,hf,hfs,hr⟩:=hA.ex;refine hg w0 cs0 _ ⟨φ,fr,cs1,w,rfl,hf.trF _,hfs.trL _,hr.sub ⟨Ak hn,fun b x hx=>⟨x,?_,.same x⟩⟩⟩;have hx:T.get (K7 h9.t bs) b=some x:=hx;exact Acf
   ·cases h1
  ·cases h1
 ·cases h
section
variable (L:Lg P E F K)
variable {k:List AItem}{ro:Option Nat}
include L
theorem Ad9 (g:Good P E Q ⟨⟨fn,nt,tm,k,ds,.run,dfd,ro⟩,cs,h⟩):Good P E Q ⟨⟨fn,nt,tm,.code .skip::k,ds,.run,dfd,ro⟩,cs,h⟩:=A7 L g
theorem zl {l:Nat}(g:Good P E Q ⟨⟨fn,nt,tm,k,ds,.run,dfd,ro⟩,cs,h⟩):Good P E Q ⟨⟨fn,nt,tm,.code (.label l)::k,ds,.run,dfd,ro⟩,cs,h⟩:=A7 L g
theorem Ah6 {a:CC}(g:Good P E Q ⟨⟨fn,nt,tm,.code a:: .code b::k,ds,.run,dfd,ro⟩,cs,h⟩):Good P E Q ⟨⟨fn,nt,tm,.code (.seq a b)::k,ds,.run,dfd,ro⟩,cs,h⟩:=A7 L g
theorem zm (g:Good P E Q ⟨⟨fn,nt,tm,.code b:: .inBlock id::k,ds,.run,dfd,ro⟩,cs,h⟩):Good P E Q ⟨⟨fn,nt,tm,.code (.block id b)::k,ds,.run,dfd,ro⟩,cs,h⟩:=A7 L g
theorem Bt (g:Good P E Q ⟨⟨fn,nt,tm,.code b:: .inLoop b::k,ds,.run,dfd,ro⟩,cs,h⟩):Good P E Q ⟨⟨fn,nt,tm,.code (.loop b)::k,ds,.run,dfd,ro⟩,cs,h⟩:=A7 L g
theorem Bw (g:Good P E Q ⟨⟨fn,nt,tm,.code b:: .inLoop b::k,ds,.run,dfd,ro⟩,cs,h⟩):Good P E Q ⟨⟨fn,nt,tm,.inLoop b::k,ds,.run,dfd,ro⟩,cs,h⟩:=A7 L g
theorem zn (g:Good P E Q ⟨⟨fn,nt,tm,.code b:: .inScope b::k,ds,.run,dfd,ro⟩,cs,h⟩):Good P E Q ⟨⟨fn,nt,tm,.code (.scope b)::k,ds,.run,dfd,ro⟩,cs,h⟩:=A7 L g
theorem gy (g:Good P E Q ⟨⟨fn,nt,tm,k,ds,.run,dfd,ro⟩,cs,h⟩):Good P E Q ⟨⟨fn,nt,tm,.inBlock id::k,ds,.run,dfd,ro⟩,cs,h⟩:=A7 L g
theorem gz (g:Good P E Q ⟨⟨fn,nt,tm,k,ds,.run,dfd,ro⟩,cs,h⟩):Good P E Q ⟨⟨fn,nt,tm,.inScope b::k,ds,.run,dfd,ro⟩,cs,h⟩:=A7 L g
theorem Aea {k':List AItem}(e:Ev.exitTo id k=some k')(g:Good P E Q ⟨⟨fn,nt,tm,k',ds,.run,dfd,ro⟩,cs,h⟩):Good P E Q ⟨⟨fn,nt,tm,.code (.exit id)::k,ds,.run,dfd,ro⟩,cs,h⟩:=by refine A7 L ?_;simp only [Ev.step,Bu,Cg,e];exact g
theorem Aeb {l:Nat}{k':List AItem}(e:Ev.gotoIn l k=some k')(g:Good P E Q ⟨⟨fn,nt,tm,k',ds,.run,dfd,ro⟩,cs,h⟩):Good P E Q ⟨⟨fn,nt,tm,.code (.goto l)::k,ds,.run,dfd,ro⟩,cs,h⟩:=by refine A7 L ?_;simp only [Ev.step,Bu,Cg,e];exact g
theorem Aec {x:O}{a:CC}(e:ev tm x= .bool t)(g1:t=true→Good P E Q ⟨⟨fn,nt,tm,.code a::k,ds,.run,dfd,ro⟩,cs,h⟩)(g2:t=false→Good P E Q ⟨⟨fn,nt,tm,.code b::k,ds,.run,dfd,ro⟩,cs,h⟩): Good P E Q ⟨⟨fn,nt,tm,.code (.cond x a b)::k,ds,.run,dfd,ro⟩,cs,h⟩:=by
 refine A7 L ?_;show GO P E Q (match ev tm x with| .bool true=> .one ⟨⟨fn,nt,tm,.code a::k,ds,.run,dfd,ro⟩,cs,h⟩| .bool false=> .one ⟨⟨fn,nt,tm,.code b::k,ds,.run,dfd,ro⟩,cs,h⟩|_=> .fail);rw [e]
 cases t with
 |true=>exact g1 rfl
 |false=>exact g2 rfl
omit L in
def Sn (P:Program)(E:Env)(F:T CFn)(K:T (List AV×AV))(Q:Nat→AV→Prop)(l:List CI)(k:List AItem)(fn nt:Nat)(tm:T AV)(ds:List ADef)(dfd:Bool)(ro:Option Nat)(cs:List AFr)(h:H):Prop:=
 GO P E Q (V0 F K (Dh l tm h) k fn nt ds dfd ro cs)
theorem Q3 {l:List CI}(g:Sn P E F K Q l k fn nt tm ds dfd ro cs h):Good P E Q ⟨⟨fn,nt,tm,.ops l::k,ds,.run,dfd,ro⟩,cs,h⟩:=A7 L g
omit L
theorem Aed (hw:wanted tm gd=some true)(hx:exec op h tm= .call f args) (g:GO P E Q (B8 F K f args false ⟨fn,nt,tm,.ops (⟨dst,gd,op⟩::r)::k,ds,.run,dfd,ro⟩ cs h)): Sn P E F K Q (⟨dst,gd,op⟩::r) k fn nt tm ds dfd ro cs h:=by unfold Sn;simp only [Dh,hw,hx];exact g
theorem Ah7 {f:Nat}(hw:wanted tm gd=some true)(hx:exec op h tm= .dfr f args) (g:Good P E Q ⟨⟨fn,nt,put tm dst (.tup []),.ops r::k,.call f args::ds,.run,dfd,none⟩,cs,h⟩): Sn P E F K Q (⟨dst,gd,op⟩::r) k fn nt tm ds dfd none cs h:=by unfold Sn;simp only [Dh,hw,hx];exact g
theorem Ah8 (hw:wanted tm gd=some true)(hx:exec op h tm= .pan v) (g:Good P E Q ⟨⟨fn,nt,tm,.ops (⟨dst,gd,op⟩::r)::k,ds,.panicking [(v,false)],dfd,ro⟩,cs,h⟩): Sn P E F K Q (⟨dst,gd,op⟩::r) k fn nt tm ds dfd ro cs h:=by unfold Sn;simp only [Dh,hw,hx];exact g
theorem Aee {l:List (AV×H)}(hw:wanted tm gd=some true)(hx:exec op h tm= .next l) (g: ∀x∈l,Good P E Q ⟨⟨fn,nt,put tm dst x.1,.ops r::k,ds,.run,dfd,ro⟩,cs,x.2⟩): Sn P E F K Q (⟨dst,gd,op⟩::r) k fn nt tm ds dfd ro cs h:=by unfold Sn;simp only [Dh,hw,hx,V0,GO];intro c hc;obtain⟨x,h1,rfl⟩:=List.mem_map.1 hc;exact g x h1
include L
theorem zo {f:Nat}(hf:T.get F f=some g)(hm:memo K f args=none)(hn:Nat.ble args.length g.ntmps=true) (h1:Good P E Q ⟨⟨f,g.ntmps,ofL 0 .leaf args,[.code g.body],[],.run,false,none⟩,x::cs,h⟩):GO P E Q (B8 F K (.func f) args false x cs h):=by simp only [B8,hf,Vz,hm,hn];exact h1
theorem Q4 {l:List AV}(hf:T.get F fn=some g)(hr:results tm h g.results=some l)(h1:GO P E Q (finish (single l) cs h x)): Good P E Q ⟨⟨fn,nt,tm,todo,[],.returning,false,none⟩,x::cs,h⟩:=by refine A7 L ?_;show GO P E Q (match T.get F fn with|none=> .fail|some g=>match results tm h g.results with|some l=>Ev.doReturn fn false (single l) (x::cs) h|none=> .fail);rw [hf];simp only [hr];exact h1
theorem Ah9 {l:List AV}(hf:T.get F fn=some g)(hr:results tm h g.results=some l)(h1:GO P E Q (finish (single l) cs h x)): Good P E Q ⟨⟨fn,nt,tm,.code .ret::k,[],.run,false,none⟩,x::cs,h⟩:= A7 L (show Good P E Q ⟨⟨fn,nt,tm,.code .ret::k,[],.returning,false,none⟩,x::cs,h⟩ from Q4 L hf hr h1)
theorem Acj {l:List AV}(hf:T.get F fn=some g)(hr:results tm h g.results=some l)(h1:GO P E Q (finish (single l) cs h x)): Good P E Q ⟨⟨fn,nt,tm,[],[],.run,false,none⟩,x::cs,h⟩:= A7 L (show Good P E Q ⟨⟨fn,nt,tm,[],[],.returning,false,none⟩,x::cs,h⟩ from Q4 L hf hr h1)
omit L
def Bo (P:Program)(E:Env)(Q:Nat→AV→Prop)(pre chk:List DI)(l:List Ph)(k:List AItem)(fn nt:Nat)(tm:T AV)(ds:List ADef)(dfd:Bool)(ro:Option Nat)(cs:List AFr)(h:H):Prop:=
 GO P E Q (Da pre chk l k fn nt tm ds dfd ro cs h)
theorem Aia (hw:wanted (only tm nm) ci.guard=some true)(hx:exec ci.op h (only tm nm)= .val v h') (g:Bo P E Q pre chk l k fn nt (put tm ci.dst v) ds dfd ro cs h'):Bo P E Q (⟨ci,nm⟩::pre) chk l k fn nt tm ds dfd ro cs h:=by unfold Bo Da at g ⊢;simp only [G4,hw,hx];exact g
theorem Aef (hw:wanted (only tm nm) ci.guard=some false) (g:Bo P E Q pre chk l k fn nt (put tm ci.dst (.tup [])) ds dfd ro cs h):Bo P E Q (⟨ci,nm⟩::pre) chk l k fn nt tm ds dfd ro cs h:=by unfold Bo Da at g ⊢;simp only [G4,hw];exact g
theorem Ack (hc:checks chk tm h=true)(g:Good P E Q ⟨⟨fn,nt,tm,(match l with| []=>k|p::r=> .drawn p r::k),ds,.run,dfd,ro⟩,cs,h⟩): Bo P E Q [] chk l k fn nt tm ds dfd ro cs h:=by
 unfold Bo Da;simp only [G4,hc]
 cases l <;> exact g
include L
theorem Pz (g:Bo P E Q pre chk l k fn nt tm ds dfd ro cs h):Good P E Q ⟨⟨fn,nt,tm,.code (.drawn pre chk l)::k,ds,.run,dfd,ro⟩,cs,h⟩:=A7 L g
omit L in
theorem Aeg {l:List Out}(h1: ∀o∈l,(∃c,o= .one c))(h2: ∀o∈l,GO P E Q o):GO P E Q (Iz l):=by
 rcases Kg (l:=l) rfl with e|⟨xs,e,g⟩
 ·exfalso;have: ∀l:List Out,(∀o∈l,∃c,o= .one c)→Iz l≠ .fail:=by
   intro l;induction l with
   |nil=>intro _ h;cases h
   |cons o l ih=>
    intro h h';obtain⟨c,rfl⟩:=h o (List.mem_cons_self ..);simp only [Iz]at h';rcases Kg (l:=l) rfl with e|⟨xs,e,_⟩;·exact ih (fun o ho=>h o (List.mem_cons_of_mem _ ho)) e
    ·rw [e]at h';cases h'
  exact this l h1 e
 ·rw [e];have: ∀(l:List Out) (xs:List Conf),Iz l= .many xs→(∀o∈l,GO P E Q o)→ ∀c∈xs,Good P E Q c:=by
   intro l;induction l with
   |nil=>intro xs h _ c hc;cases h;cases hc
   |cons o l ih=>
    intro xs h hg c hc;simp only [Iz]at h
    cases o with
    |one d=>
     simp only at h
     cases hl:Iz l with
     |many ys=>
      rw [hl]at h
      cases h;rcases List.mem_cons.1 hc with e|hc;·subst e;exact hg _ (List.mem_cons_self ..)
      ·exact ih ys hl (fun o ho=>hg o (List.mem_cons_of_mem _ ho)) c hc
     |_=>rw [hl]at h;cases h
    |_=>cases h
  exact fun c hc=>this l xs e h2 c hc
theorem Aeh {l:List Alt}(g: ∀a∈l,Bo P E Q a.pre a.chk a.l k fn nt tm ds dfd ro cs h):Good P E Q ⟨⟨fn,nt,tm,.code (.alts l)::k,ds,.run,dfd,ro⟩,cs,h⟩:=by
 refine A7 L (show GO P E Q (Iz (l.map fun a=>Da a.pre a.chk a.l k fn nt tm ds dfd ro cs h)) from ?_);refine Aeg (fun o ho=>?_) (fun o ho=>?_)
 ·obtain⟨a,ha,rfl⟩:=List.mem_map.1 ho;rcases Yo a.pre a.chk a.l k fn nt tm ds dfd ro cs h with e|e;·have:=g a ha;unfold Bo at this;rw [e]at this;exact this.elim
  ·exact e
 ·obtain⟨a,ha,rfl⟩:=List.mem_map.1 ho;exact g a ha
theorem av (hw:wanted (only tm nm) gd=some true)(hx:exec op h (only tm nm)= .val v h') (g:Bo P E Q pre chk l k fn nt (put tm dst v) ds dfd ro cs h'):Good P E Q ⟨⟨fn,nt,tm,.drawn ⟨⟨⟨dst,gd,op⟩,nm⟩,pre,chk⟩ l::k,ds,.run,dfd,ro⟩,cs,h⟩:=by refine A7 L ?_;simp only [Ev.step,Bu,hw,hx];exact g
theorem Aei (hw:wanted (only tm nm) gd=some false) (g:Bo P E Q pre chk l k fn nt (put tm dst (.tup [])) ds dfd ro cs h):Good P E Q ⟨⟨fn,nt,tm,.drawn ⟨⟨⟨dst,gd,op⟩,nm⟩,pre,chk⟩ l::k,ds,.run,dfd,ro⟩,cs,h⟩:=by refine A7 L ?_;simp only [Ev.step,Bu,hw];exact g
theorem Aej (hw:wanted (only tm nm) gd=some true)(hx:exec op h (only tm nm)= .call f args) (g:GO P E Q (B8 F K f args false ⟨fn,nt,tm,.drawn ⟨⟨⟨dst,gd,op⟩,nm⟩,pre,chk⟩ l::k,ds,.run,dfd,ro⟩ cs h)):Good P E Q ⟨⟨fn,nt,tm,.drawn ⟨⟨⟨dst,gd,op⟩,nm⟩,pre,chk⟩ l::k,ds,.run,dfd,ro⟩,cs,h⟩:=by refine A7 L ?_;simp only [Ev.step,Bu,hw,hx];exact g
omit L in
theorem ia (hb:op≠ .bad)(g:Bo P E Q pre chk l k fn nt (put tm dst v) ds dfd ro cs h): GO P E Q (finish v cs h ⟨fn,nt,tm,.drawn ⟨⟨⟨dst,gd,op⟩,nm⟩,pre,chk⟩ l::k,ds,.run,dfd,ro⟩):=by cases op <;> first|exact absurd rfl hb|exact g
end
theorem Aib {p:Prop}(h:p:=by
 have:Nat.ble (Nat.succ i) len=true:=by rw [Nat.ble_eq];exact hi
 have e1':evL l y= .int k (Int.ofNat i):=e1
 simp only [exec,Ah,e,e1',this,hq]):p:=h
theorem Aic (k:IntKind)(h1:k.min≤a)(h2:a≤k.max):wr k a=a:=by
 rw [Gj]
 cases k <;> simp only [IntKind.min,IntKind.max,IntKind.signed,IntKind.bits,IntKind.wrap]at* <;> simp at* <;> (try split) <;> omega
theorem Lf (h1: -9223372036854775808≤a)(h2:a≤9223372036854775807):wr .i64 a=a:=Aic .i64 (by simpa [IntKind.min,IntKind.signed,IntKind.bits]using h1) (by simpa [IntKind.max,IntKind.signed,IntKind.bits]using h2)
section
variable {l:List (Nat×Option AV)}{x:O}{b:Nat}
theorem Aow (e:evL l x=v):exec (.mv x) h (tms l)= .val v h:=by simp only [exec,Ah,e]
theorem Aek (e:evL l x= .ptr b o):exec (.nilc x) h (tms l)= .val (.ptr b o) h:=by simp only [exec,Ah,e]
theorem zp (e:evL l x= .ptr b o)(hq:Nat.add o off=q):exec (.faddr x off) h (tms l)= .val (.ptr b q) h:=by simp only [exec,Ah,e,hq]
theorem zq (e:evL l x= .ptr b o)(hb:H.get h b=some (cl c))(hv:c[o]?=some v):exec (.load1 x) h (tms l)= .val v h:=by
 have hlt:o<c.length:=(List.getElem?_eq_some_iff.1 hv).1;have:Nat.ble (Nat.succ o) c.length=true:=by rw [Nat.ble_eq];exact hlt
 simp only [exec,Ah,e,hb,cl,this,vo,Ii,hv]
theorem Q5 {k:IntKind}(e:evL l x= .slc b o len cap)(e1:evL l y= .int k (i:Nat))(hi:i<len)(hq:Nat.add o (Nat.mul i size)=q):exec (.iaddrS size x y) h (tms l)= .val (.ptr b q) h:=by exact Aib
theorem Ael (e:evL l x= .slc b o len cap):exec (.lenS x) h (tms l)= .val (.int .i64 (len:Nat)) h:=by simp only [exec,Ah,e];rfl
theorem zt (e:evL l x= .nils):exec (.lenS x) h (tms l)= .val (.int .i64 0) h:=by simp only [exec,Ah,e];rfl
theorem Aid (e:evL l x= .bool t):exec (.un .not x) h (tms l)= .val (.bool (!t)) h:=by simp only [exec,Ah,e]
theorem ib (e:evL l x= .tup vs)(hv:vs[i]?=some v):exec (.extract x i) h (tms l)= .val v h:=by simp only [exec,Ah,e,hv,vo]
theorem qt {k j:IntKind}{r:Int}(e:evL l x= .int j a)(hr:wr k a=r):exec (.conv k x) h (tms l)= .val (.int k r) h:=by simp only [exec,Ah,e,hr]
section
variable {k:IntKind}{c r:Int}{sh:Sh}{q:Bool}
theorem qu (e:evL l x= .int k a)(e1:evL l y= .int k c)(hr:wr k (a+c)=r):exec (.bin .add x y q sh) h (tms l)= .val (.int k r) h:=by simp only [exec,Ah,e,e1,F0,Ec,Bb];show vo h (some (.int k (wr k (a+c))))=_;rw [hr];rfl
theorem qv (e:evL l x= .int k a)(e1:evL l y= .int k c)(hr:wr k (a - c)=r):exec (.bin .sub x y q sh) h (tms l)= .val (.int k r) h:=by simp only [exec,Ah,e,e1,F0,Ec,Bb];show vo h (some (.int k (wr k (a - c))))=_;rw [hr];rfl
theorem Aie (e:evL l x= .int k a)(e1:evL l y= .int k c)(hr:wr k (a*c)=r):exec (.bin .mul x y q sh) h (tms l)= .val (.int k r) h:=by simp only [exec,Ah,e,e1,F0,Ec,Bb];show vo h (some (.int k (wr k (a*c))))=_;rw [hr];rfl
theorem Acl (e:evL l x= .int k a)(e1:evL l y= .int k c)(ht:decide (a<c)=t):exec (.bin .lss x y q sh) h (tms l)= .val (.bool t) h:=by simp only [exec,Ah,e,e1,F0,Ec,Bb,Hf,vo,ht]
theorem Acm (e:evL l x= .int k a)(e1:evL l y= .int k c)(ht:decide (a≤c)=t):exec (.bin .leq x y q sh) h (tms l)= .val (.bool t) h:=by
 simp only [exec,Ah,e,e1,F0,Ec,Bb,Hf,vo];rw [←ht];congr 2;by_cases hc:a≤c;·rw [decide_eq_true hc,decide_eq_false (by omega)];rfl
 ·rw [decide_eq_false hc,decide_eq_true (by omega)];rfl
theorem Acn (e:evL l x= .int k a)(e1:evL l y= .int k c)(ht:decide (c<a)=t):exec (.bin .gtr x y q sh) h (tms l)= .val (.bool t) h:=by simp only [exec,Ah,e,e1,F0,Ec,Bb,Hf,vo,ht]
theorem Aco (e:evL l x= .int k a)(e1:evL l y= .int k c)(ht:decide (c≤a)=t):exec (.bin .geq x y q sh) h (tms l)= .val (.bool t) h:=by
 simp only [exec,Ah,e,e1,F0,Ec,Bb,Hf,vo];rw [←ht];congr 2;by_cases hc:c≤a;·rw [decide_eq_true hc,decide_eq_false (by omega)];rfl
 ·rw [decide_eq_false hc,decide_eq_true (by omega)];rfl
theorem Acp (e:evL l x= .int k a)(e1:evL l y= .int k c)(ht:decide (a=c)=t):exec (.bin .eql x y q sh) h (tms l)= .val (.bool t) h:=by simp only [exec,Ah,e,e1,F0,Ec,Bb,Ew,vo,ht]
theorem Acq (e:evL l x= .int k a)(e1:evL l y= .int k c)(ht:decide (a≠c)=t):exec (.bin .neq x y q sh) h (tms l)= .val (.bool t) h:=by
 simp only [exec,Ah,e,e1,F0,Ec,Bb,Ew,vo];rw [←ht];congr 2;by_cases hc:a=c;·rw [decide_eq_true hc,decide_eq_false (by omega)];rfl
 ·rw [decide_eq_false hc,decide_eq_true hc];rfl
end
end
section
variable {l:List (Nat×Option AV)}{k:List AItem}{ro:Option Nat}
variable (L:Lg P E F K)
include L
theorem Aif {f:Nat}{l0:List (Nat×Option AV)}(hf:T.get F f=some g)(hm:T.get K f=none)(hn:Nat.ble args.length g.ntmps=true)(hl:ofL 0 .leaf args=tms l0) (h1:Good P E Q ⟨⟨f,g.ntmps,tms l0,[.code g.body],[],.run,false,none⟩,x::cs,h⟩):GO P E Q (B8 F K (.func f) args false x cs h):= zo L hf (by simp only [memo,hm]) hn (hl ▸ h1)
end
theorem Aem {p:Prop}(h:p:=by
 obtain⟨fn',u,hh,fr',w',φ',u',q,s,t⟩:=g w0 cs0 _ hA'
 exact⟨fn',u,hh,fr',w',φ',u',q,.head hstep s,t⟩):p:=h
theorem IR.ops_inv {l:List CI}{i':Item}(h:IR E φ nt (.ops l) i'): ∃ops td,l=td.map (B5 E nt ops)∧i'= .inRegion ops td:=by cases h;exact⟨_,_,rfl,rfl⟩
section
variable (L:Lg P E F K)
variable {k:List AItem}{ro:Option Nat}
include L
theorem Eg (hw:wanted tm gd=some true)(hx:exec op h tm= .val v h') (g:Good P E Q ⟨⟨fn,nt,put tm dst v,.ops r::k,ds,.run,dfd,ro⟩,cs,h'⟩):Good P E Q ⟨⟨fn,nt,tm,.ops (⟨dst,gd,op⟩::r)::k,ds,.run,dfd,ro⟩,cs,h⟩:=by
 intro w0 cs0 m hA;obtain⟨φ,fr,cs1,w,rfl,hf,hfs,hr⟩:=hA.ex;obtain⟨f1,tmps,todo',defers,mode,kind,ro'⟩:=fr;obtain⟨h1,h2,h3,h4,h5,h6,h7⟩:=hf;simp only at h1 h2 h3 h4 h5 h6 h7 hfs hr
 cases h5
 cases h6 with
 |plain ht hi=>
  cases hi with
  | @cons _ i' _ k' hi hk=>
   obtain⟨ops,td,e1,rfl⟩:=hi.ops_inv
   cases td with
   |nil=>cases e1
   |cons j rest=>
    rw [List.map_cons,List.cons.injEq]at e1;obtain⟨e1,rfl⟩:=e1;rcases Jk E nt ops j with hbad|⟨o,ho,q1,q2,q3,q4⟩;·rw [hbad]at e1;cases e1;cases hx
    ·rw [←e1]at q1 q3 q4;simp only at q1 q3 q4;subst q1;have hb:BR' φ fn dfd ro (⟨f1,tmps,.inRegion ops (j::rest)::k',defers,.run,kind,ro'⟩:Frame):=⟨h1,h2,h3⟩;have hwc:=Ef (a:=⟨tmps,defers⟩) ht q3 hw;rw [q4]at hx;have hnd: ∀c,o.op≠ .defer c:=Fe hx (by intro _ _ e;cases e) (by intro e;cases e);have hsim:=Pu hr.hr (TR.rho (a:=⟨tmps,defers⟩) ht) L.hE hx;obtain⟨φ1,v',w1,⟨s1,_⟩,s2,s3,s4,s5⟩:=hsim;have hstep:=Hv (b:=⟨f1,tmps,.inRegion ops (j::rest)::k',defers,.run,kind,ro'⟩) (a:=⟨tmps,defers⟩) (cs:=cs1++cs0) (k:=k') (rest:=rest) ho hwc hnd s2;have hd':DRs φ1 ds ((⟨tmps,defers⟩:Act).put o.dst v').defers:=(by have:((⟨tmps,defers⟩:Act).put o.dst v').defers=defers:=(by cases o.dst <;> rfl);rw [this];exact h4.mono s1);have hA':At E w0 cs0 ⟨⟨fn,nt,put tm o.dst v,.ops (rest.map (B5 E nt ops))::k,ds,.run,dfd,ro⟩,cs,h'⟩ (lone ((⟨f1,tmps,.inRegion ops (j::rest)::k',defers,.run,kind,ro'⟩:Frame).atR ((⟨tmps,defers⟩:Act).put o.dst v') (.inRegion ops rest::k')) (cs1++cs0) w1):= ⟨φ1,_,cs1,w1,rfl,(hb.mono s1).FR ((ht.mono s1).put' (a:=⟨tmps,defers⟩) q2 s3) hd' (.cons (.ops ops rest) (hk.mono s1)),hfs.mono s1,hr.to s4 s5⟩;exact Aem
theorem Lh (hw:wanted tm gd=some false) (g:Good P E Q ⟨⟨fn,nt,put tm dst (.tup []),.ops r::k,ds,.run,dfd,ro⟩,cs,h⟩):Good P E Q ⟨⟨fn,nt,tm,.ops (⟨dst,gd,op⟩::r)::k,ds,.run,dfd,ro⟩,cs,h⟩:=by
 intro w0 cs0 m hA;obtain⟨φ,fr,cs1,w,rfl,hf,hfs,hr⟩:=hA.ex;obtain⟨f1,tmps,todo',defers,mode,kind,ro'⟩:=fr;obtain⟨h1,h2,h3,h4,h5,h6,h7⟩:=hf;simp only at h1 h2 h3 h4 h5 h6 h7 hfs hr
 cases h5
 cases h6 with
 |plain ht hi=>
  cases hi with
  | @cons _ i' _ k' hi hk=>
   obtain⟨ops,td,e1,rfl⟩:=hi.ops_inv
   cases td with
   |nil=>cases e1
   |cons j rest=>
    rw [List.map_cons,List.cons.injEq]at e1;obtain⟨e1,rfl⟩:=e1;have hb:BR' φ fn dfd ro (⟨f1,tmps,.inRegion ops (j::rest)::k',defers,.run,kind,ro'⟩:Frame):=⟨h1,h2,h3⟩;rcases Jk E nt ops j with hbad|⟨o,ho,q1,q2,q3,q4⟩;·rw [hbad]at e1;cases e1;cases hw
    ·rw [←e1]at q1 q3 q4;simp only at q1 q3 q4;subst q1;have hwc:=Ef (a:=⟨tmps,defers⟩) ht q3 hw;have hstep:=stepR_op_skip (P:=P) (b:=⟨f1,tmps,.inRegion ops (j::rest)::k',defers,.run,kind,ro'⟩) (a:=⟨tmps,defers⟩) (k:=k') (cs:=cs1++cs0) (w:=w) (ops:=ops) (i:=j) (rest:=rest) (by rw [ho];simpa using hwc);rw [ho]at hstep;simp only [Option.bind_some]at hstep;have hd':DRs φ ds ((⟨tmps,defers⟩:Act).put o.dst undef).defers:=(by have:((⟨tmps,defers⟩:Act).put o.dst undef).defers=defers:=(by cases o.dst <;> rfl);rw [this];exact h4);have hA':At E w0 cs0 ⟨⟨fn,nt,put tm o.dst (.tup []),.ops (rest.map (B5 E nt ops))::k,ds,.run,dfd,ro⟩,cs,h⟩ (lone ((⟨f1,tmps,.inRegion ops (j::rest)::k',defers,.run,kind,ro'⟩:Frame).atR ((⟨tmps,defers⟩:Act).put o.dst undef) (.inRegion ops rest::k')) (cs1++cs0) w):= ⟨φ,_,cs1,w,rfl,hb.FR (ht.put' (a:=⟨tmps,defers⟩) q2 (.tup .nil)) hd' (.cons (.ops ops rest) hk),hfs,hr⟩;exact Aem
theorem Aen {l:List CI}(g:Good P E Q ⟨⟨fn,nt,tm,.ops l::k,ds,.run,dfd,ro⟩,cs,h⟩):Good P E Q ⟨⟨fn,nt,tm,.code (.ops l)::k,ds,.run,dfd,ro⟩,cs,h⟩:=by
 intro w0 cs0 m hA;obtain⟨φ,fr,cs1,w,rfl,hf,hfs,hr⟩:=hA.ex;obtain⟨f1,tmps,todo',defers,mode,kind,ro'⟩:=fr;obtain⟨h1,h2,h3,h4,h5,h6,h7⟩:=hf;simp only at h1 h2 h3 h4 h5 h6 h7 hfs hr
 cases h5
 cases h6 with
 |plain ht hi=>
  cases hi with
  | @cons _ i' _ k' hi hk=>
   have hinv: ∀{x:AItem},IR E φ nt x i'→x= .code (.ops l)→ ∃id ops,i'= .code (.region id ops false)∧l=(List.range ops.size).map (B5 E nt ops):=by
    intro x hx ex
    cases hx with
    |code c=>
     simp only [AItem.code.injEq]at ex
     cases c with
     |region id ops d=>
      cases d with
      |false=>simp only [Be,Et,CC.ops.injEq]at ex;refine⟨id,ops,rfl,?_⟩;rw [←ex];exact Ahz
      |true=>
       simp only [Be,Et]at ex;repeat' split at ex
       all_goals cases ex
     |rangeFunc f ps a b=>simp only [Be]at ex;split at ex <;> cases ex
     |_=>cases ex
    |_=>cases ex
   obtain⟨id,ops,rfl,rfl⟩:=hinv hi rfl;have hb:BR' φ fn dfd ro (⟨f1,tmps,.code (.region id ops false)::k',defers,.run,kind,ro'⟩:Frame):=⟨h1,h2,h3⟩;have hstep:=stepR_region (P:=P) (b:=⟨f1,tmps,.code (.region id ops false)::k',defers,.run,kind,ro'⟩) (a:=⟨tmps,defers⟩) (k:=k') (cs:=cs1++cs0) (w:=w) (ops:=ops) (id:=id);have hA':At E w0 cs0 ⟨⟨fn,nt,tm,.ops ((List.range ops.size).map (B5 E nt ops))::k,ds,.run,dfd,ro⟩,cs,h⟩ (lone ((⟨f1,tmps,.code (.region id ops false)::k',defers,.run,kind,ro'⟩:Frame).atR (⟨tmps,defers⟩:Act) (.inRegion ops (List.range ops.size)::k')) (cs1++cs0) w):= ⟨φ,_,cs1,w,rfl,hb.FR (a:=⟨tmps,defers⟩) ht h4 (.cons (.ops ops (List.range ops.size)) hk),hfs,hr⟩;exact Aem
theorem Aeo (g:Good P E Q ⟨⟨fn,nt,tm,k,ds,.run,dfd,ro⟩,cs,h⟩):Good P E Q ⟨⟨fn,nt,tm,.ops []::k,ds,.run,dfd,ro⟩,cs,h⟩:=A7 L g
theorem Tl (hw:wanted tm gd=some true)(hx:exec op h tm= .call f args) (g:GO P E Q (B8 F K f args false ⟨fn,nt,tm,.ops (⟨dst,gd,op⟩::r)::k,ds,.run,dfd,ro⟩ cs h)):Good P E Q ⟨⟨fn,nt,tm,.ops (⟨dst,gd,op⟩::r)::k,ds,.run,dfd,ro⟩,cs,h⟩:= Q3 L (Aed hw hx g)
theorem N0 (hb:op≠ .bad)(g:Good P E Q ⟨⟨fn,nt,put tm dst v,.ops r::k,ds,.run,dfd,ro⟩,cs,h⟩): GO P E Q (finish v cs h ⟨fn,nt,tm,.ops (⟨dst,gd,op⟩::r)::k,ds,.run,dfd,ro⟩):=by cases op <;> first|exact absurd rfl hb|exact g
end
def Uw (l:List (Nat×Option AV)):List O→List AV
 | []=> []
 |x::r=>evL l x::Uw l r
theorem Mb (l:List (Nat×Option AV)): ∀xs:List O,evs (tms l) xs=Uw l xs
 | []=>rfl
 |x::r=>by simp only [evs,Uw,Ah,Mb l r]
def O7 (l:List (Nat×Option AV)):List (Nat×Nat×O)→List AV→Option (List AV)
 | [],cells=>some cells
 |p::r,cells=>
  match Bc (evL l p.2.2)with
  |some x=>(match Nat.beq x.length p.2.1,Nat.ble (Nat.add p.1 p.2.1) cells.length with
   |true,true=>O7 l r (F1 x cells p.1)
   |_,_=>none)
  |none=>none
theorem Q6 (l:List (Nat×Option AV)): ∀(ps:List (Nat×Nat×O)) (cells:List AV),fill (tms l) ps cells=O7 l ps cells
 | [],cells=>rfl
 |p::r,cells=>by
  simp only [fill,O7,Ah]
  cases Bc (evL l p.2.2)with
  |none=>rfl
  |some x=>
   simp only [Q6 l r];generalize Nat.beq x.length p.2.1=q1;generalize Nat.ble (Nat.add p.1 p.2.1) cells.length=q2
   cases q1 <;> cases q2 <;> rfl
section
variable {l:List (Nat×Option AV)}{lh:List (Nat×Option Blk)}{t:T Blk}{x:O}{b:Nat}{lv:List AV}
theorem Wn {c:List AV}: ∀{k o:Nat},o+k≤c.length→loadN (ofL 0 (.leaf:T AV) c) k o=some ((c.drop o).take k)
 |0,o,h=>by simp [loadN]
 |k+1,o,h=>by
  have hlt:o<c.length:=by omega
  simp only [loadN,Ii,List.getElem?_eq_getElem hlt];rw [show Nat.succ o=o+1 from rfl,Wn (k:=k) (o:=o+1) (by omega)];simp only [Option.some.injEq];rw [List.drop_eq_getElem_cons hlt,List.take_succ_cons]
theorem Ij (hb:H.get h b=some (cl c))(hk:o+k≤c.length):cellsAt h b o k=some ((c.drop o).take k):=by
 cases k with
 |zero=>simp [cellsAt]
 |succ k=>
  have:Nat.ble (Nat.add o (k+1)) c.length=true:=by rw [Nat.ble_eq];exact hk
  simp only [cellsAt,hb,cl,this];exact Wn hk
theorem ay (e:evL l x= .ptr b o)(hb:H.get h b=some (cl c))(hk:o+k≤c.length)(hv:(c.drop o).take k=lv):exec (.loadN k x) h (tms l)= .val (.agg lv) h:=by simp only [exec,Ah,e,Ij hb hk,hv]
theorem zu:exec (.alloc c) (hp n t lh) (tms l)= .val (.ptr n 0) (hp (n+1) t ((n,some (cl c))::lh)):=rfl
theorem Aig (e:evL l x=v)(hc:Bc v=some lv)(hk:Nat.beq lv.length k=true):exec (.box k x) (hp n t lh) (tms l)= .val (.ptr n 0) (hp (n+1) t ((n,some (cl lv))::lh)):=by simp only [exec,Ah,e,hc,hk];rfl
theorem zw {ps:List (Nat×Nat×O)}(hf:O7 l ps c=some lv):exec (.build c ps) h (tms l)= .val (.agg lv) h:=by simp only [exec,Q6,hf]
theorem qw {ps:List (Nat×Nat×O)}(hf:O7 l ps c=some lv):exec (.bslice k c ps) (hp n t lh) (tms l)= .val (.slc n 0 k k) (hp (n+1) t ((n,some (cl lv))::lh)):=by simp only [exec,Q6,hf];rfl
theorem Aep {a cp:List O}{va vc:List AV}(ha:Uw l a=va)(hc:Uw l cp=vc):exec (.mkfn f a cp) h (tms l)= .val (.fn f va vc) h:=by simp only [exec,Mb,ha,hc]
theorem Aeq {a:List O}{va first cp r:List AV}(e:evL l x= .fn f first cp)(ha:Uw l a=va)(hr:List.append first (List.append va cp)=r):exec (.callv x a) h (tms l)= .call f r:=by simp only [exec,Ah,e,Mb,ha,hr]
theorem Aer (e:evL l x=v):exec (.mkif k x) h (tms l)= .val (.ifc k v) h:=by simp only [exec,Ah,e]
theorem ic {z:AV}(e:evL l x= .ifc k v):exec (.tassert x k z false) h (tms l)= .val v h:=by have:Nat.beq k k=true:=Nat.beq_refl k;simp only [exec,Ah,e,this]
theorem qx (e:evL l x= .agg vs)(hv:vs[off]?=some v):exec (.field1 x off) h (tms l)= .val v h:=by simp only [exec,Ah,e,hv,vo]
theorem qy (e:evL l x= .agg vs)(hv:(vs.drop off).take k=lv):exec (.fieldN x off k) h (tms l)= .val (.agg lv) h:=by simp only [exec,Ah,e,hv]
theorem Wo {k:IntKind}(e:evL l x= .ptr b o)(e1:evL l y= .int k (i:Nat))(hi:i<len)(hq:Nat.add o (Nat.mul i size)=q):exec (.iaddrA len size x y) h (tms l)= .val (.ptr b q) h:=by exact Aib
theorem ie {k j:IntKind}{ln cn bytes:Nat}(e:evL l x= .int k (ln:Nat))(e1:evL l y= .int j (cn:Nat))(h1:ln≤cn)(h2:cn*bytes≤281474976710656)(h3:cn≤281474976710656)(hv:rl c cn=lv): exec (.mkslice bytes c x y) (hp n t lh) (tms l)= .val (.slc n 0 ln cn) (hp (n+1) t ((n,some (cl lv))::lh)):=by
 have e':evL l x= .int k (Int.ofNat ln):=e;have e1':evL l y= .int j (Int.ofNat cn):=e1;have g1:Nat.ble ln cn=true:=by rw [Nat.ble_eq];exact h1
 have g2:Nat.ble (Nat.mul cn bytes) 281474976710656=true:=by rw [Nat.ble_eq];exact h2
 have g3:Nat.ble cn 281474976710656=true:=by rw [Nat.ble_eq];exact h3
 simp only [exec,Ah,e',e1',g1,g2,g3,hv];rfl
theorem zx:exec .mkmap (hp n t lh) (tms l)= .val (.map n) (hp (n+1) t ((n,some (.map [] 0))::lh)):=rfl
theorem Acr {k:IntKind}{d r:Int}{mx:Bool}(e:evL l x= .int k a)(e1:evL l y= .int k d)(hr:(match mx with|true=>max a d|false=>min a d)=r):exec (.maxmin mx x y) h (tms l)= .val (.int k r) h:=by
 simp only [exec,Ah,e,e1,F2,Bb,vo,Hf];subst hr
 cases mx with
 |true=>
  by_cases hc:a<d;·simp only [decide_eq_true hc];rw [Int.max_eq_right (by omega)]
  ·simp only [decide_eq_false hc];rw [Int.max_eq_left (by omega)]
 |false=>
  by_cases hc:d<a;·simp only [decide_eq_true hc];rw [Int.min_eq_right (by omega)]
  ·simp only [decide_eq_false hc];rw [Int.min_eq_left (by omega)]
end
variable {S:Nat→Prop}{a b d m:Nat}{c' lv xs:List AV}{l:List (Nat×Option AV)}{lh:List (Nat×Option Blk)}{ps:List (Nat×Nat×O)}{q:Bool}{s u:AV}{sh:Sh}{t:T Blk}{x:O}
theorem Yt (c lv:List AV)(o:Nat)(hk:o+lv.length≤c.length)(i:Nat):T.get (K8 o (ofL 0 .leaf c) lv) i=(F1 lv c o)[i]?:=by rw [La,Ii];exact(Fc lv c o i hk).symm
theorem Wp: ∀(xs l:List AV) (o:Nat),o+xs.length≤l.length→(F1 xs l o).length=l.length
 |xs,l,0,h=>by
  have:F1 xs l 0=xs++l.drop xs.length:=by cases l <;> rfl
  rw [this];simp;omega
 |xs,[],o+1,h=>by simp at h
 |xs,a::l,o+1,h=>by simp only [F1,List.length_cons]at h ⊢;rw [Wp xs l o (by omega)]
theorem Wq (c:List AV)(v:AV): ∀(o:Nat),o<c.length→F1 [v] c o=c.set o v:=by
 intro o ho;apply List.ext_getElem?;intro i;rw [Fc [v] c o i (by simp;omega),List.getElem?_set];by_cases hi:o=i;·subst hi;simp [ho]
 ·rw [if_neg hi,if_neg (by simp;omega)]
theorem Mc (hp1:Ar lv=true)(hb:H.get (hp n t lh) b=some (cl c))(hk:o+lv.length≤c.length)(hs:F1 lv c o=c'): ∃h',putBlk (hp n t lh) b o lv=some h'∧HSub (hp n t ((b,some (cl c'))::lh)) h':=by
 cases lv with
 |nil=>
  refine⟨_,rfl,Nat.le_refl _,fun i z hz=>?_⟩;have hcc:c'=c:=by rw [←hs];apply List.ext_getElem?;intro i;rw [Fc [] c o i (by simpa using hk)];simp;omega
  subst hcc;by_cases e:i=b;·subst e;rw [Hg]at hz;cases hz;exact⟨_,hb,.same _⟩
  ·rw [Fm _ _ _ _ e]at hz;exact⟨z,hz,.same z⟩
 |cons a lv=>
  have g1:Nat.ble (Nat.add o (a::lv).length) c.length=true:=by rw [Nat.ble_eq];exact hk
  refine⟨H.set (hp n t lh) b (.cells false c.length (K8 o (ofL 0 .leaf c) (a::lv))),?_,Nat.le_refl _,fun i z hz=>?_⟩;·simp only [putBlk,hb,cl,g1,hp1]
  ·by_cases e:i=b;·subst e;rw [Hg]at hz;cases hz;refine⟨_,by rw [H.get_set,if_pos rfl],?_⟩;unfold cl;refine .cells (by rw [←hs,Wp _ _ _ hk];exact Nat.le_refl _) fun j u hj hu=>?_;rw [Ii]at hu;rw [Yt _ _ _ hk,hs];exact hu
   ·rw [Fm _ _ _ _ e]at hz;exact⟨z,by rw [H.get_set,if_neg e];exact hz,.same z⟩
section
variable (L:Lg P E F K)
variable {k:List AItem}{ro:Option Nat}
include L
theorem Ux (hw:wanted (tms l) gd=some true)(e:evL l x= .ptr b o)(e1:evL l y=v)(hc:Bc v=some lv)(hm:Nat.beq lv.length m=true)(hp1:Ar lv=true) (hb:H.get (hp n t lh) b=some (cl c)) (hk:o+lv.length≤c.length) (hs:F1 lv c o=c') (g:Good P E Q ⟨⟨fn,nt,tms l,.ops r::k,ds,.run,dfd,ro⟩,cs,hp n t ((b,some (cl c'))::lh)⟩): Good P E Q ⟨⟨fn,nt,tms l,.ops (⟨none,gd,.store m x y⟩::r)::k,ds,.run,dfd,ro⟩,cs,hp n t lh⟩:=by
 have hput:=Mc (n:=n) (t:=t) (lh:=lh) hp1 hb hk hs;obtain⟨h',q1,q2⟩:=hput;have hx:exec (.store m x y) (hp n t lh) (tms l)= .val .unk h':=by simp only [exec,Ah,e,e1,hc,hm,q1]
 exact Eg L (dst:=none) hw hx (Q2 (.refl _) q2 g)
theorem Eh (ht:TSub tm' tm)(g:Good P E Q ⟨⟨fn,nt,tm',todo,ds,mode,dfd,ro⟩,cs,h⟩):Good P E Q ⟨⟨fn,nt,tm,todo,ds,mode,dfd,ro⟩,cs,h⟩:=Q2 ht (.refl _) g
theorem Uy (hh:HSub h' h)(g:Good P E Q ⟨⟨fn,nt,tm,todo,ds,mode,dfd,ro⟩,cs,h'⟩):Good P E Q ⟨⟨fn,nt,tm,todo,ds,mode,dfd,ro⟩,cs,h⟩:=Q2 (.refl _) hh g
theorem o1 (hw:wanted (tms l) gd=some true)(hx:exec op h (tms l)= .val v h')(g:Good P E Q ⟨⟨fn,nt,tms ((d,some v)::l),.ops r::k,ds,.run,dfd,ro⟩,cs,h'⟩): Good P E Q ⟨⟨fn,nt,tms l,.ops (⟨some d,gd,op⟩::r)::k,ds,.run,dfd,ro⟩,cs,h⟩:=Eg L hw hx g
theorem os (hw:wanted (tms l) gd=some false)(g:Good P E Q ⟨⟨fn,nt,tms ((d,some (.tup []))::l),.ops r::k,ds,.run,dfd,ro⟩,cs,h⟩): Good P E Q ⟨⟨fn,nt,tms l,.ops (⟨some d,gd,op⟩::r)::k,ds,.run,dfd,ro⟩,cs,h⟩:=Lh L hw g
end
theorem qz:TSub (tms []) tm:=fun t v h=>by rw [G8]at h;cases h
theorem ig {l':List (Nat×Option AV)}(h:look l k=some v)(hs:TSub (tms l') (tms l)):TSub (tms ((k,some v)::l')) (tms l):=by
 intro t u hu;rw [Uv]at hu;by_cases e:t=k;·subst e;rw [if_pos rfl]at hu;cases hu;rw [G8];exact h
 ·rw [if_neg e]at hu;exact hs t u hu
section
variable (L:Lg P E F K)
variable {k:List AItem}{ro:Option Nat}{a b:CC}{t:Bool}
include L
theorem gc (e:evL l x= .bool t)(g1:t=true→Good P E Q ⟨⟨fn,nt,tms l,.code a::k,ds,.run,dfd,ro⟩,cs,h⟩)(g2:t=false→Good P E Q ⟨⟨fn,nt,tms l,.code b::k,ds,.run,dfd,ro⟩,cs,h⟩): Good P E Q ⟨⟨fn,nt,tms l,.code (.cond x a b)::k,ds,.run,dfd,ro⟩,cs,h⟩:=Aec L ((Ah l x).trans e) g1 g2
theorem gcT (e:evL l x= .bool true)(g1:Good P E Q ⟨⟨fn,nt,tms l,.code a::k,ds,.run,dfd,ro⟩,cs,h⟩): Good P E Q ⟨⟨fn,nt,tms l,.code (.cond x a b)::k,ds,.run,dfd,ro⟩,cs,h⟩:=gc L e (fun _=>g1) (fun h=>by cases h)
theorem gcF (e:evL l x= .bool false)(g1:Good P E Q ⟨⟨fn,nt,tms l,.code b::k,ds,.run,dfd,ro⟩,cs,h⟩): Good P E Q ⟨⟨fn,nt,tms l,.code (.cond x a b)::k,ds,.run,dfd,ro⟩,cs,h⟩:=gc L e (fun h=>by cases h) (fun _=>g1)
end
theorem cvb {f:O}{a:List O}:COp.callv f a≠ .bad:=by intro h;cases h
theorem Uz {k:IntKind}(hs:k.signed=false)(a:Nat):wr k (a:Nat)=((a % pw k:Nat):Int):=by
 rw [Gj,oc];unfold IntKind.wrap;have:(a:Int) % (2 ^ k.bits:Int)=((a % 2 ^ k.bits:Nat):Int):=by rw [Int.natCast_emod];congr 1
 rw [this];simp only [hs,Bool.false_and,Bool.false_eq_true,if_false,false_and]
theorem Md {k:IntKind}(h:a<pw k):toU k (a:Nat)=a:=by show Nat.mod a (pw k)=a;exact Nat.mod_eq_of_lt h
theorem U0 {k:IntKind}(hs:k.signed=false)(h:a<pw k):wr k (a:Nat)=(a:Nat):=by rw [Uz hs,Nat.mod_eq_of_lt h]
section
variable {k:IntKind}{c r:Nat}
theorem Aih (hs:k.signed=false)(e:evL l x= .int k (a:Nat))(e1:evL l y= .int k (c:Nat))(ha:a<pw k)(hc:c<pw k)(hx:(a ^^^ c)<pw k)(hr:a ^^^ c=r):exec (.bin .xor x y q sh) h (tms l)= .val (.int k (r:Nat)) h:=by
 simp only [exec,Ah,e,e1,F0,Ec,Bb,vo,Md ha,Md hc];have:wr k (Int.ofNat (Nat.xor a c))=(r:Nat):=by show wr k ((a ^^^ c:Nat):Int)=_;rw [U0 hs hx,hr]
 rw [this]
theorem Aii {j:IntKind}{s:Nat}(e:evL l x= .int k (a:Nat))(e1:evL l y= .int j (s:Nat))(hs:s≤bits k)(hr:a >>> s=r):exec (.bin .shr x y q sh) h (tms l)= .val (.int k (r:Nat)) h:=by
 have e1':evL l y= .int j (Int.ofNat s):=e1;simp only [exec,Ah,e,e1',F0,Ec,vo];have h1:K2 s (bits k)=s:=by rw [Ka];exact Nat.min_eq_left hs
 have h2:Int.fdiv (a:Nat) (Int.ofNat (Nat.pow 2 s))=((a >>> s:Nat):Int):=by rw [Nat.shiftRight_eq_div_pow,Int.fdiv_eq_ediv_of_nonneg _ (by exact Int.natCast_nonneg _)];rfl
 rw [h1,h2,hr]
theorem az {j:IntKind}{k':IntKind}(hs:k'.signed=false)(e:evL l x= .int j (a:Nat))(hr:a % pw k'=r):exec (.conv k' x) h (tms l)= .val (.int k' (r:Nat)) h:=by simp only [exec,Ah,e,Uz hs,hr]
theorem Aes (hs:k.signed=false)(e:evL l x= .int k (a:Nat))(ha:a<pw k)(hr:pw k - 1 - a=r):exec (.un .xor x) h (tms l)= .val (.int k (r:Nat)) h:=by
 simp only [exec,Ah,e,Md ha];have:wr k (Int.ofNat (Nat.sub (Nat.sub (pw k) 1) a))=(r:Nat):=by show wr k ((pw k - 1 - a:Nat):Int)=_;have hp:0<pw k:=Nat.lt_of_le_of_lt (Nat.zero_le _) ha;rw [U0 hs (by omega),hr]
 rw [this]
end
def evO (l:List (Nat×Option AV))(o:O):Option AV:=match o with
 | .t i=>look l i
 | .c v=>some v
theorem Ab (e:evO l x=some v):evL l x=v:=by
 cases x with
 |t i=>simp only [evO]at e;simp only [evL,e]
 |c u=>simp only [evO,Option.some.injEq]at e;simp only [evL,e]
def Fo (l:List (Nat×Option AV)):List O→Option (List AV)
 | []=>some []
 |x::r=>match evO l x,Fo l r with
  |some v,some vs=>some (v::vs)
  |_,_=>none
theorem N1 {l:List (Nat×Option AV)}: ∀{xs:List O} {vs:List AV},Fo l xs=some vs→Uw l xs=vs
 | [],vs,h=>by simp only [Fo,Option.some.injEq]at h;simp only [Uw,h]
 |x::r,vs,h=>by
  simp only [Fo]at h
  cases e1:evO l x with
  |none=>rw [e1]at h;cases h
  |some v=>
   cases e2:Fo l r with
   |none=>rw [e1,e2]at h;cases h
   |some us=>rw [e1,e2]at h;simp only [Option.some.injEq]at h;simp only [Uw,Ab e1,N1 e2,h]
def Eo:List AV→List AV→Option (List AV)
 | [],c=>some c
 |v::r,c=>match Eo r c with
  |some x=>some (v::x)
  |none=>none
theorem F5: ∀{a c r:List AV},Eo a c=some r→List.append a c=r
 | [],c,r,h=>by simp only [Eo,Option.some.injEq]at h;exact h
 |v::a,c,r,h=>by
  simp only [Eo]at h
  cases e:Eo a c with
  |none=>rw [e]at h;cases h
  |some x=>rw [e]at h;simp only [Option.some.injEq]at h;rw [←h,←F5 e];rfl
def ovO:List AV→List AV→Option (List AV)
 | [],c=>some c
 |_::_,[]=>none
 |v::r,_::c=>match ovO r c with
  |some x=>some (v::x)
  |none=>none
def Q7 (lv:List AV):List AV→Nat→Option (List AV)
 |c,0=>ovO lv c
 | [],_+1=>none
 |a::c,o+1=>match Q7 lv c o with
  |some x=>some (a::x)
  |none=>none
theorem rh: ∀{lv c r:List AV},ovO lv c=some r→lv.length≤c.length∧lv++c.drop lv.length=r
 | [],c,r,h=>by simp only [ovO,Option.some.injEq]at h;simp [h]
 |_::_,[],r,h=>by cases h
 |v::lv,_::c,r,h=>by
  simp only [ovO]at h
  cases e:ovO lv c with
  |none=>rw [e]at h;cases h
  |some x=>rw [e]at h;simp only [Option.some.injEq]at h;obtain⟨h1,h2⟩:=rh e;refine⟨by simp only [List.length_cons];omega,?_⟩;rw [←h,←h2];simp
theorem Kh {lv:List AV}: ∀{c:List AV} {o:Nat} {r:List AV},Q7 lv c o=some r→o+lv.length≤c.length∧F1 lv c o=r
 |c,0,r,h=>by
  have h':ovO lv c=some r:=by cases c <;> exact h
  obtain⟨h1,h2⟩:=rh h';refine⟨by omega,?_⟩;have:F1 lv c 0=lv++c.drop lv.length:=by cases c <;> rfl
  rw [this,h2]
 | [],o+1,r,h=>by cases h
 |a::c,o+1,r,h=>by
  simp only [Q7]at h
  cases e:Q7 lv c o with
  |none=>rw [e]at h;cases h
  |some x=>rw [e]at h;simp only [Option.some.injEq]at h;obtain⟨h1,h2⟩:=Kh e;refine⟨by simp only [List.length_cons];omega,?_⟩;rw [←h,←h2];rfl
def tkO:List AV→Nat→Option (List AV)
 |_,0=>some []
 | [],_+1=>none
 |v::c,k+1=>match tkO c k with
  |some x=>some (v::x)
  |none=>none
def dtO:List AV→Nat→Nat→Option (List AV)
 |c,0,k=>tkO c k
 | [],_+1,_=>none
 |_::c,o+1,k=>dtO c o k
theorem rm: ∀{c:List AV} {k:Nat} {r:List AV},tkO c k=some r→k≤c.length∧c.take k=r
 |c,0,r,h=>by cases c <;> (simp only [tkO,Option.some.injEq]at h;simp [←h])
 | [],k+1,r,h=>by cases h
 |v::c,k+1,r,h=>by
  simp only [tkO]at h
  cases e:tkO c k with
  |none=>rw [e]at h;cases h
  |some x=>rw [e]at h;simp only [Option.some.injEq]at h;obtain⟨h1,h2⟩:=rm e;exact⟨by simp only [List.length_cons];omega,by rw [←h,←h2];rfl⟩
theorem N2: ∀{c:List AV} {o k:Nat} {r:List AV},dtO c o k=some r→o+k≤c.length∧(c.drop o).take k=r
 |c,0,k,r,h=>by
  have h':tkO c k=some r:=by cases c <;> exact h
  obtain⟨h1,h2⟩:=rm h';exact⟨by omega,by simpa using h2⟩
 | [],o+1,k,r,h=>by cases h
 |_::c,o+1,k,r,h=>by obtain⟨h1,h2⟩:=N2 (c:=c) (o:=o) h;exact⟨by simp only [List.length_cons];omega,by simpa using h2⟩
def Jn (l:List (Nat×Option AV)):List (Nat×Nat×O)→List AV→Option (List AV)
 | [],c=>some c
 |p::r,c=>match evO l p.2.2 with
  |none=>none
  |some v=>match Bc v with
   |none=>none
   |some x=>match Nat.beq x.length p.2.1 with
    |false=>none
    |true=>match Q7 x c p.1 with
     |none=>none
     |some d=>Jn l r d
theorem U1 {l:List (Nat×Option AV)}: ∀{ps:List (Nat×Nat×O)} {c r:List AV},Jn l ps c=some r→O7 l ps c=some r
 | [],c,r,h=>by simp only [Jn]at h;simp only [O7,h]
 |p::ps,c,r,h=>by
  simp only [Jn]at h
  cases e1:evO l p.2.2 with
  |none=>rw [e1]at h;cases h
  |some v=>
   cases e2:Bc v with
   |none=>rw [e1]at h;simp only [e2]at h;cases h
   |some x=>
    cases e3:Nat.beq x.length p.2.1 with
    |false=>rw [e1]at h;simp only [e2,e3]at h;cases h
    |true=>
     cases e4:Q7 x c p.1 with
     |none=>rw [e1]at h;simp only [e2,e3,e4]at h;cases h
     |some d=>rw [e1]at h;simp only [e2,e3,e4]at h;obtain⟨h1,h2⟩:=Kh e4;have h3:=Nat.eq_of_beq_eq_true e3;have g1:Nat.ble (Nat.add p.1 p.2.1) c.length=true:=(by rw [Nat.ble_eq];show p.1+p.2.1≤c.length;omega);simp only [O7,Ab e1,e2,e3,g1,h2];exact U1 h
theorem Aox (e:evO l x=some v):exec (.mv x) h (tms l)= .val v h:=Aow (Ab e)
theorem zy (e:evO l x=some (.bool true))(e1:evO l y=some v):exec (.pick x y z) h (tms l)= .val v h:=by simp only [exec,Ah,Ab e,Ab e1]
theorem zz (e:evO l x=some (.bool false))(e1:evO l z=some v):exec (.pick x y z) h (tms l)= .val v h:=by simp only [exec,Ah,Ab e,Ab e1]
theorem Aij (e:evO l x=some v)(hc:Bc v=some lv)(hk:Nat.beq lv.length k=true):exec (.box k x) (hp n t lh) (tms l)= .val (.ptr n 0) (hp (n+1) t ((n,some (cl lv))::lh)):=Aig (Ab e) hc hk
theorem z6 (hf:Jn l ps c=some lv):exec (.build c ps) h (tms l)= .val (.agg lv) h:=zw (U1 hf)
theorem rn (hf:Jn l ps c=some lv):exec (.bslice k c ps) (hp n t lh) (tms l)= .val (.slc n 0 k k) (hp (n+1) t ((n,some (cl lv))::lh)):=qw (U1 hf)
theorem Aet {a cp:List O}{va vc:List AV}(ha:Fo l a=some va)(hc:Fo l cp=some vc):exec (.mkfn f a cp) h (tms l)= .val (.fn f va vc) h:=Aep (N1 ha) (N1 hc)
theorem Ik {a:List O}{va cp r:List AV}(e:evO l x=some (.fn f [] cp))(ha:Fo l a=some va)(hr:Eo va cp=some r):exec (.callv x a) h (tms l)= .call f r:= Aeq (Ab e) (N1 ha) (by show List.append va cp=r;exact F5 hr)
theorem Aeu (e:evO l x=some v):exec (.mkif k x) h (tms l)= .val (.ifc k v) h:=Aer (Ab e)
theorem z7 (e:evO l x=some (.ptr b o))(hb:H.get h b=some (cl c))(hv:dtO c o k=some lv):exec (.loadN k x) h (tms l)= .val (.agg lv) h:= ay (Ab e) hb (N2 hv).1 (N2 hv).2
theorem rp (e:evO l x=some (.agg vs))(hv:dtO vs off k=some lv):exec (.fieldN x off k) h (tms l)= .val (.agg lv) h:=qy (Ab e) (N2 hv).2
section
variable {k:IntKind}{r:Nat}
theorem Aik (e:evO l x=some (.int .i64 (a:Nat)))(e1:evO l y=some (.int .i64 (d:Nat)))(hr:a+d<9223372036854775808):exec (.bin .add x y q sh) h (tms l)= .val (.int .i64 ((a+d:Nat):Int)) h:= qu (Ab e) (Ab e1) (by rw [Lf (by omega) (by omega)];omega)
theorem Ail (e:evO l x=some (.int .i64 (a:Nat)))(e1:evO l y=some (.int .i64 (d:Nat)))(hr:d≤a)(h1:a<9223372036854775808):exec (.bin .sub x y q sh) h (tms l)= .val (.int .i64 ((a - d:Nat):Int)) h:= qv (Ab e) (Ab e1) (by rw [Lf (by omega) (by omega)];omega)
theorem Aim (e:evO l x=some (.int .i64 (a:Nat)))(e1:evO l y=some (.int .i64 (d:Nat)))(hr:a*d<9223372036854775808):exec (.bin .mul x y q sh) h (tms l)= .val (.int .i64 ((a*d:Nat):Int)) h:= Aie (Ab e) (Ab e1) (by rw [Lf (by have:=Int.mul_nonneg (Int.natCast_nonneg a) (Int.natCast_nonneg d);omega) (by rw [←Int.natCast_mul];omega)];exact(Int.natCast_mul a d).symm)
end
section
variable {lw:List AV}{rs:List CRes}
theorem Er:results (tms l) h []=some []:=rfl
theorem Tm (e:evO l (.t i)=some v)(r:results (tms l) h rs=some lv):results (tms l) h (.tmp i::rs)=some (v::lv):=by simp only [results,r,Ah,Ab e]
theorem C4 (e:evO l (.t i)=some (.ptr b o))(hb:H.get h b=some (cl c))(hv:c[o]?=some v)(r:results (tms l) h rs=some lv):results (tms l) h (.cell1 i::rs)=some (v::lv):=by
 have hlt:o<c.length:=(List.getElem?_eq_some_iff.1 hv).1;have:Nat.ble (Nat.succ o) c.length=true:=by rw [Nat.ble_eq];exact hlt
 simp only [results,r,Ah,Ab e,hb,cl,this,Ii,hv]
theorem E5 (e:evO l (.t i)=some (.ptr b o))(hb:H.get h b=some (cl c))(hv:dtO c o k=some lw)(r:results (tms l) h rs=some lv):results (tms l) h (.cellN i k::rs)=some (.agg lw::lv):=by simp only [results,r,Ah,Ab e,Ij hb (N2 hv).1,(N2 hv).2]
end
section
variable (L:Lg P E F K)
variable {k:List AItem}{ro:Option Nat}
include L
theorem z8 (hw:wanted (tms l) gd=some true)(e:evO l x=some (.ptr b o))(e1:evO l y=some v)(hc:Bc v=some lv)(hm:Nat.beq lv.length m=true)(hp1:Ar lv=true) (hb:H.get (hp n t lh) b=some (cl c)) (hs:Q7 lv c o=some c') (g:Good P E Q ⟨⟨fn,nt,tms l,.ops r::k,ds,.run,dfd,ro⟩,cs,hp n t ((b,some (cl c'))::lh)⟩): Good P E Q ⟨⟨fn,nt,tms l,.ops (⟨none,gd,.store m x y⟩::r)::k,ds,.run,dfd,ro⟩,cs,hp n t lh⟩:= Ux L hw (Ab e) (Ab e1) hc hm hp1 hb (Kh hs).1 (Kh hs).2 g
section
variable {f:Nat}{x:AFr}{a0 a1 a2 a3 a4 a5 a6 a7:AV}(hf:T.get F f=some g)(hm:T.get K f=none)
include hf hm
end
end
structure Kp (S:Nat→Prop)(h h':H):Prop where
 n:h.n≤h'.n
 old: ∀b,b<h.n→ ¬S b→H.get h' b=H.get h b
theorem Kp.refl (h:H):Kp S h h:=⟨Nat.le_refl _,fun _ _ _=>rfl⟩
theorem Kp.trans {a b c:H}(h:Kp S a b)(k:Kp S b c):Kp S a c:= ⟨Nat.le_trans h.n k.n,fun i hi hs=>(k.old i (Nat.lt_of_lt_of_le hi h.n) hs).trans (h.old i hi hs)⟩
theorem Kp.mono {S':Nat→Prop}{a b:H}(hs: ∀i,S i→S' i)(h:Kp S a b):Kp S' a b:=⟨h.n,fun i hi hn=>h.old i hi fun k=>hn (hs i k)⟩
abbrev K0 (h h':H):Prop:=Kp (fun _=>False) h h'
theorem Kp.get {x:Option Blk}(k:Kp S h h')(hx:H.get h b=x)(hb:b<h.n)(hs: ¬S b):H.get h' b=x:=(k.old b hb hs).trans hx
theorem Kp.nw {x:Option Blk}(k:Kp S h (hp n t lh)):Kp S h (hp (n+1) t ((n,x)::lh)):=by refine⟨Nat.le_succ_of_le k.n,fun b hb hs=>?_⟩;have hlt:b<n:=Nat.lt_of_lt_of_le hb k.n;refine Eq.trans ?_ (k.old b hb hs);exact Fm _ _ _ _ (by omega)
theorem Kp.st {x:Option Blk}(hb:h.n≤b∨S b)(k:Kp S h (hp n t lh)):Kp S h (hp n t ((b,x)::lh)):=by
 refine⟨k.n,fun i hi hs=>?_⟩;refine Eq.trans ?_ (k.old i hi hs);have hne:i≠b:=by
  intro e;subst e;rcases hb with h1|h1;·omega
  ·exact hs h1
 exact Fm _ _ _ _ hne
def Co (l:List (Nat×Option AV)):List Nat→Option (List (Nat×Option AV))
 | []=>some []
 |t::r=>match look l t,Co l r with
  |some v,some q=>some ((t,some v)::q)
  |_,_=>none
theorem Bx {l:List (Nat×Option AV)}: ∀{nm:List Nat} {q:List (Nat×Option AV)},Co l nm=some q→only (tms l) nm=tms q
 | [],q,h=>by simp only [Co,Option.some.injEq]at h;subst h;rfl
 |t::r,q,h=>by
  simp only [Co]at h
  cases e1:look l t with
  |none=>rw [e1]at h;cases h
  |some v=>
   cases e2:Co l r with
   |none=>rw [e1,e2]at h;cases h
   |some q'=>rw [e1,e2]at h;simp only [Option.some.injEq]at h;subst h;simp only [only,G8,e1,Bx e2];rfl
def K3 (d:Nat):AV→Bool:=
 match d with
 |0=>fun _=>false
 |Nat.succ d=>fun x=>match x with
  | .fn f a c=>a.all (K3 d) && c.all (K3 d) && (match f with| .func _=>true| .yield _=>false)
  | .ifc _ v=>K3 d v
  | .agg l=>l.all (K3 d)
  | .tup l=>l.all (K3 d)
  | .opq u=>(match u with| .slice (some _) _ _=>true|_=>false)
  | .unk=>false
  |_=>true
theorem Q8 {f:AV→AV→Bool}: ∀{l:List AV},(∀x∈l,f x x=true)→Hp f l l=true
 | [],_=>rfl
 |a::l,h=>by simp only [Hp,h a (List.mem_cons_self ..)];exact Q8 fun x hx=>h x (List.mem_cons_of_mem _ hx)
theorem N3: ∀(d:Nat) (v:AV),K3 d v=true→F3 d v v=true
 |0,_,h=>by cases h
 |d+1,v,h=>by
  have ih:=N3 d;have hl: ∀{l:List AV},l.all (K3 d)=true→Hp (F3 d) l l=true:=fun {l} hl=>by rw [List.all_eq_true]at hl;exact Q8 fun x hx=>ih x (hl x hx)
  cases v with
  |bool a=>simp only [F3,X1,decide_true]
  |int k a=>simp only [F3,Bb,Ew,decide_true]
  |str a=>simp only [F3,Kb,decide_true]
  |ptr b o=>simp only [F3,Nat.beq_refl]
  |slc b o n c=>simp only [F3,Nat.beq_refl]
  |map r=>simp only [F3,Nat.beq_refl]
  |fn f a c=>
   simp only [K3,Bool.and_eq_true]at h;obtain⟨⟨h1,h2⟩,h3⟩:=h
   cases f with
   |func n=>simp only [F3,hl h1,hl h2,yk,Nat.beq_refl]
   |yield n=>cases h3
  |ifc t v=>simp only [K3]at h;simp only [F3,Nat.beq_refl,ih v h]
  |agg l=>simp only [K3]at h;simp only [F3,hl h]
  |tup l=>simp only [K3]at h;simp only [F3,hl h]
  |opq u=>
   simp only [K3]at h;split at h
   ·rename_i a n c;obtain⟨b,o,s⟩:=a
    cases s <;> simp only [F3,vEq,Nat.beq_refl]
   ·cases h
  |unk=>cases h
  |_=>rfl
section
variable {q:List (Nat×Option AV)}{k:List AItem}{ro:Option Nat}{ps:List Ph}
theorem p_v (ho:Co l nm=some q)(hw:wanted (tms q) gd=some true)(hx:exec op h (tms q)= .val v h') (g:Bo P E Q pre chk ps k fn nt (tms ((d,some v)::l)) ds dfd ro cs h'):Bo P E Q (⟨⟨some d,gd,op⟩,nm⟩::pre) chk ps k fn nt (tms l) ds dfd ro cs h:=by refine Aia (v:=v) (h':=h') ?_ ?_ g <;> (simp only [Bx ho];assumption)
theorem p_s (ho:Co l nm=some q)(hw:wanted (tms q) gd=some false) (g:Bo P E Q pre chk ps k fn nt (tms ((d,some (.tup []))::l)) ds dfd ro cs h):Bo P E Q (⟨⟨some d,gd,op⟩,nm⟩::pre) chk ps k fn nt (tms l) ds dfd ro cs h:=by refine Aef ?_ g;simp only [Bx ho];assumption
theorem p_0 {p:Ph}{r:List Ph}(hc:checks chk (tms l) h=true)(g:Good P E Q ⟨⟨fn,nt,tms l,.drawn p r::k,ds,.run,dfd,ro⟩,cs,h⟩):Bo P E Q [] chk (p::r) k fn nt (tms l) ds dfd ro cs h:=Ack hc g
theorem p_e (hc:checks chk (tms l) h=true)(g:Good P E Q ⟨⟨fn,nt,tms l,k,ds,.run,dfd,ro⟩,cs,h⟩):Bo P E Q [] chk [] k fn nt (tms l) ds dfd ro cs h:=Ack hc g
theorem Q9:checks [] tm h=true:=rfl
theorem k_v (ho:Co l nm=some q)(hw:wanted (tms q) gd=some true)(hx:exec op h (tms q)= .val v h')(hl:look l d=some v)(ha:K3 20 v=true)(g:checks chk (tms l) h=true): checks (⟨⟨some d,gd,op⟩,nm⟩::chk) (tms l) h=true:=by
 have:check ⟨⟨some d,gd,op⟩,nm⟩ (tms l) h=true:=by unfold check;simp only [Bx ho,hw,hx,holds,G8,hl];exact N3 _ _ ha
 simp only [checks,this,g]
theorem k_s (ho:Co l nm=some q)(hw:wanted (tms q) gd=some false)(hl:look l d=some (.tup []))(g:checks chk (tms l) h=true): checks (⟨⟨some d,gd,op⟩,nm⟩::chk) (tms l) h=true:=by
 have:check ⟨⟨some d,gd,op⟩,nm⟩ (tms l) h=true:=by unfold check;simp only [Bx ho,hw,holds,G8,hl];exact N3 _ _ rfl
 simp only [checks,this,g]
variable (L:Lg P E F K)
include L
theorem e_v (ho:Co l nm=some q)(hw:wanted (tms q) gd=some true)(hx:exec op h (tms q)= .val v h') (g:Bo P E Q pre chk ps k fn nt (tms ((d,some v)::l)) ds dfd ro cs h'):Good P E Q ⟨⟨fn,nt,tms l,.drawn ⟨⟨⟨some d,gd,op⟩,nm⟩,pre,chk⟩ ps::k,ds,.run,dfd,ro⟩,cs,h⟩:= av L (v:=v) (h':=h') (by rw [Bx ho];exact hw) (by rw [Bx ho];exact hx) g
theorem e_s (ho:Co l nm=some q)(hw:wanted (tms q) gd=some false) (g:Bo P E Q pre chk ps k fn nt (tms ((d,some (.tup []))::l)) ds dfd ro cs h):Good P E Q ⟨⟨fn,nt,tms l,.drawn ⟨⟨⟨some d,gd,op⟩,nm⟩,pre,chk⟩ ps::k,ds,.run,dfd,ro⟩,cs,h⟩:= Aei L (by rw [Bx ho];exact hw) g
theorem e_c (ho:Co l nm=some q)(hw:wanted (tms q) gd=some true)(hx:exec op h (tms q)= .call f args) (g:GO P E Q (B8 F K f args false ⟨fn,nt,tms l,.drawn ⟨⟨⟨dst,gd,op⟩,nm⟩,pre,chk⟩ ps::k,ds,.run,dfd,ro⟩ cs h)):Good P E Q ⟨⟨fn,nt,tms l,.drawn ⟨⟨⟨dst,gd,op⟩,nm⟩,pre,chk⟩ ps::k,ds,.run,dfd,ro⟩,cs,h⟩:= Aej L (by rw [Bx ho];exact hw) (by rw [Bx ho];exact hx) g
omit L in
theorem fd (hb:op≠ .bad)(g:Bo P E Q pre chk ps k fn nt (tms ((d,some v)::l)) ds dfd ro cs h): GO P E Q (finish v cs h ⟨fn,nt,tms l,.drawn ⟨⟨⟨some d,gd,op⟩,nm⟩,pre,chk⟩ ps::k,ds,.run,dfd,ro⟩):=ia hb g
theorem Ain (ho:Co l nm=some q)(hw:wanted (tms q) gd=some true)(e:evO q x=some (.ptr b o))(e1:evO q y=some v)(hc:Bc v=some lv)(hm:Nat.beq lv.length m=true)(hp1:Ar lv=true) (hb:H.get (hp n t lh) b=some (cl c)) (hs:Q7 lv c o=some c') (g: ∀h',HSub (hp n t ((b,some (cl c'))::lh)) h'→Bo P E Q pre chk ps k fn nt (tms l) ds dfd ro cs h'): Good P E Q ⟨⟨fn,nt,tms l,.drawn ⟨⟨⟨none,gd,.store m x y⟩,nm⟩,pre,chk⟩ ps::k,ds,.run,dfd,ro⟩,cs,hp n t lh⟩:=by
 obtain⟨h',q1,q2⟩:=Mc (n:=n) (t:=t) (lh:=lh) hp1 hb (Kh hs).1 (Kh hs).2;have hx:exec (.store m x y) (hp n t lh) (tms q)= .val .unk h':=by simp only [exec,Ah,Ab e,Ab e1,hc,hm,q1]
 exact av L (dst:=none) (by rw [Bx ho];exact hw) (by rw [Bx ho];exact hx) (g h' q2)
end
inductive SlR (size:Nat)(h:H):AV→Nat→List AV→Prop where
 |nils:SlR size h .nils 0 []
 |slc {b o n cap:Nat} {c xs:List AV} (hb:H.get h b=some (cl c)) (hk:o+n*size≤c.length) (hx:(c.drop o).take (n*size)=xs) (hlt:b<h.n):SlR size h (.slc b o n cap) n xs
def own (v:AV)(i:Nat):Prop:= ∃o n c,v= .slc i o n c
theorem SlR.cells (s:SlR size h v n xs):cellsOf size n h v=some xs:=by
 cases s with
 |nils=>rfl
 | @slc b o _ cap c _ hb hk hx hlt=>show cellsAt h b o (Nat.mul n size)=some xs;have:=Ij hb hk;rw [hx]at this;exact this
theorem SlR.lenV {size n:Nat}{h:H}{v:AV}{xs:List AV}(s:SlR size h v n xs):lenV v=some n:=by cases s <;> rfl
section
variable {bytes sl:Nat}{old new:List AV}
end
inductive BndR (l:List (Nat×Option AV)):Option O→Option Nat→Prop where
 |no:BndR l none none
 | att {x:O} {k:IntKind} {a:Nat} (e:evO l x=some (.int k (a:Nat))):BndR l (some x) (some a)
theorem BndR.opt {o:Option O}{a:Option Nat}(b:BndR l o a):C3 (tms l) o=some a:=by
 cases b with
 |no=>rfl
 | @att x k a e=>have e':evO l x=some (.int k (Int.ofNat a)):=e;simp only [C3,Ah,Ab e']
section
variable {lo hi:Option O}{la lb:Option Nat}
theorem Gq (h:b<a):Nat.ble a b=false:=by
 cases hq:Nat.ble a b with
 |false=>rfl
 |true=>have:=Ak hq;omega
def B7 (bs:List Nat):List AV:=bs.map fun v=> .int .u8 (v:Nat)
theorem O8: ∀{bs:List Nat},(∀v∈bs,v<256)→I8 (B7 bs)=some bs
 | [],_=>rfl
 |v::r,h=>by
  have h1:Nat.ble v 255=true:=by rw [Nat.ble_eq];have:=h v (List.mem_cons_self ..);omega
  have h2:=O8 (bs:=r) fun v hv=>h v (List.mem_cons_of_mem _ hv);show I8 (.int .u8 (Int.ofNat v)::B7 r)=_;simp only [I8,h1,h2]
theorem Aio {bs:List Nat}(e:evO l x=some s)(hs:SlR 1 h s n (B7 bs))(hb: ∀v∈bs,v<256):exec (.b2s x) h (tms l)= .val (.str bs) h:=by
 have hc:=hs.cells;simp only [exec,Ah,Ab e];generalize hxs:B7 bs=xs at hs hc
 cases hs with
 |nils=>
  cases bs with
  |nil=>rfl
  |cons v r=>cases hxs
 | @slc b o _ cap c _ hbk hk hx hlt=>
  have:cellsAt h b o n=some xs:=by have e:Nat.mul n 1=n:=Nat.mul_one n;show cellsAt h b o n=some xs;rw [←e];exact hc
  simp only [this,←hxs,O8 hb]
theorem Aip {a b:List Nat}{t:Bool}(e:evO l x=some (.str a))(e1:evO l y=some (.str b))(ht:decide (a≠b)=t):exec (.bin .neq x y q .pstr) h (tms l)= .val (.bool t) h:=by
 simp only [exec,Ah,Ab e,Ab e1,F0,Ss,Kb];rw [←ht];by_cases hab:a=b;·subst hab;simp [vo]
 ·simp [hab,vo]
end
section
variable {q:List (Nat×Option AV)}{k:List AItem}{ro:Option Nat}{ps:List Ph}
variable (L:Lg P E F K)
include L
end
section
variable {zero:AV}
end
theorem Al (n:Nat)(t:T Blk)(l:List (Nat×Option Blk)):(hp n t l).n=n:=rfl
structure XV (op:COp)(h:H)(l:List (Nat×Option AV))(v:AV)(h':H):Prop where
 e:exec op h (tms l)= .val v h'
structure WT (l:List (Nat×Option AV))(g:Option (Nat×Bool))(b:Bool):Prop where
 e:wanted (tms l) g=some b
structure HB (h:H)(b:Nat)(c:List AV):Prop where
 e:H.get h b=some (cl c)
section
variable {x:Option Blk}
end
theorem Ff {k:IntKind}(e:evO l x=some (.slc b 0 len cap))(e1:evO l y=some (.int k (i:Nat)))(hi:i<len):XV (.iaddrS size x y) h l (.ptr b (i*size)) h:=⟨Q5 (Ab e) (Ab e1) hi (Nat.zero_add _)⟩
theorem rq:XV (.alloc c) (hp n t lh) l (.ptr n 0) (hp (n+1) t ((n,some (cl c))::lh)):=⟨zu⟩
theorem Hw (e:evO l x=some v)(hc:Bc v=some lv)(hk:Nat.beq lv.length k=true):XV (.box k x) (hp n t lh) l (.ptr n 0) (hp (n+1) t ((n,some (cl lv))::lh)):=⟨Aij e hc hk⟩
theorem Wr (hf:Jn l ps c=some lv):XV (.bslice k c ps) (hp n t lh) l (.slc n 0 k k) (hp (n+1) t ((n,some (cl lv))::lh)):=⟨rn hf⟩
section
variable {p r:Int}{k:IntKind}
theorem Aiq (e:evO l x=some (.int .i64 (a:Nat)))(e1:evO l y=some (.int .i64 (d:Nat)))(hr:a+d<9223372036854775808):XV (.bin .add x y q sh) h l (.int .i64 ((a+d:Nat):Int)) h:=⟨Aik e e1 hr⟩
theorem Air (e:evO l x=some (.int .i64 (a:Nat)))(e1:evO l y=some (.int .i64 (d:Nat)))(hr:d≤a)(h1:a<9223372036854775808):XV (.bin .sub x y q sh) h l (.int .i64 ((a - d:Nat):Int)) h:=⟨Ail e e1 hr h1⟩
theorem Ais (e:evO l x=some (.int .i64 (a:Nat)))(e1:evO l y=some (.int .i64 (d:Nat)))(hr:a*d<9223372036854775808):XV (.bin .mul x y q sh) h l (.int .i64 ((a*d:Nat):Int)) h:=⟨Aim e e1 hr⟩
theorem rt (e:evO l x=some (.int k p))(e1:evO l y=some (.int k r))(ht:p<r):XV (.bin .lss x y q sh) h l (.bool true) h:=⟨Acl (Ab e) (Ab e1) (decide_eq_true ht)⟩
theorem ru (e:evO l x=some (.int k p))(e1:evO l y=some (.int k r))(ht: ¬p<r):XV (.bin .lss x y q sh) h l (.bool false) h:=⟨Acl (Ab e) (Ab e1) (decide_eq_false ht)⟩
theorem rv (e:evO l x=some (.int k p))(e1:evO l y=some (.int k r))(ht:p≤r):XV (.bin .leq x y q sh) h l (.bool true) h:=⟨Acm (Ab e) (Ab e1) (decide_eq_true ht)⟩
theorem rx (e:evO l x=some (.int k p))(e1:evO l y=some (.int k r))(ht: ¬p≤r):XV (.bin .leq x y q sh) h l (.bool false) h:=⟨Acm (Ab e) (Ab e1) (decide_eq_false ht)⟩
theorem ry (e:evO l x=some (.int k p))(e1:evO l y=some (.int k r))(ht:r<p):XV (.bin .gtr x y q sh) h l (.bool true) h:=⟨Acn (Ab e) (Ab e1) (decide_eq_true ht)⟩
theorem sd (e:evO l x=some (.int k p))(e1:evO l y=some (.int k r))(ht: ¬r<p):XV (.bin .gtr x y q sh) h l (.bool false) h:=⟨Acn (Ab e) (Ab e1) (decide_eq_false ht)⟩
theorem se (e:evO l x=some (.int k p))(e1:evO l y=some (.int k r))(ht:r≤p):XV (.bin .geq x y q sh) h l (.bool true) h:=⟨Aco (Ab e) (Ab e1) (decide_eq_true ht)⟩
theorem sf (e:evO l x=some (.int k p))(e1:evO l y=some (.int k r))(ht: ¬r≤p):XV (.bin .geq x y q sh) h l (.bool false) h:=⟨Aco (Ab e) (Ab e1) (decide_eq_false ht)⟩
theorem Acs (e:evO l x=some (.int k p))(e1:evO l y=some (.int k r))(ht:p=r):XV (.bin .eql x y q .pint) h l (.bool true) h:=⟨Acp (Ab e) (Ab e1) (decide_eq_true ht)⟩
theorem Acu (e:evO l x=some (.int k p))(e1:evO l y=some (.int k r))(ht: ¬p=r):XV (.bin .eql x y q .pint) h l (.bool false) h:=⟨Acp (Ab e) (Ab e1) (decide_eq_false ht)⟩
theorem sg (e:evO l x=some (.int k p))(e1:evO l y=some (.int k r))(ht:p≠r):XV (.bin .neq x y q .pint) h l (.bool true) h:=⟨Acq (Ab e) (Ab e1) (decide_eq_true ht)⟩
theorem si (e:evO l x=some (.int k p))(e1:evO l y=some (.int k r))(ht: ¬p≠r):XV (.bin .neq x y q .pint) h l (.bool false) h:=⟨Acq (Ab e) (Ab e1) (decide_eq_false ht)⟩
end
section
variable {q:List (Nat×Option AV)}{k:List AItem}{ro:Option Nat}{ps:List Ph}
variable (L:Lg P E F K)
include L
theorem ez (ho:Co l nm=some q)(hw:WT q gd true)(hx:XV op h q v h') (g:Bo P E Q pre chk ps k fn nt (tms ((d,some v)::l)) ds dfd ro cs h'):Good P E Q ⟨⟨fn,nt,tms l,.drawn ⟨⟨⟨some d,gd,op⟩,nm⟩,pre,chk⟩ ps::k,ds,.run,dfd,ro⟩,cs,h⟩:=e_v L ho hw.e hx.e g
theorem esz (ho:Co l nm=some q)(hw:WT q gd false) (g:Bo P E Q pre chk ps k fn nt (tms ((d,some (.tup []))::l)) ds dfd ro cs h):Good P E Q ⟨⟨fn,nt,tms l,.drawn ⟨⟨⟨some d,gd,op⟩,nm⟩,pre,chk⟩ ps::k,ds,.run,dfd,ro⟩,cs,h⟩:=e_s L ho hw.e g
end
section
variable {k:List AItem}{ro:Option Nat}
variable (L:Lg P E F K)
include L
theorem Aoy (hw:WT l gd true)(e:evO l x=some (.ptr b o))(e1:evO l y=some v)(hc:Bc v=some [v])(hp1:Bm v=true)(hb:HB (hp n t lh) b c)(ho:o<c.length) (g:Good P E Q ⟨⟨fn,nt,tms l,.ops r::k,ds,.run,dfd,ro⟩,cs,hp n t ((b,some (cl (c.set o v)))::lh)⟩): Good P E Q ⟨⟨fn,nt,tms l,.ops (⟨none,gd,.store 1 x y⟩::r)::k,ds,.run,dfd,ro⟩,cs,hp n t lh⟩:= Ux L hw.e (Ab e) (Ab e1) hc rfl (by simp only [Ar,hp1]) hb.e ho (Wq c v o ho) g
