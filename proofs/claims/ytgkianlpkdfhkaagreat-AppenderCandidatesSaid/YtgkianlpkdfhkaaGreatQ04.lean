/- Part of the proof. -/
import Derived.Test.YtgkianlpkdfhkaaGreatQ03
import Derived.Orders
set_option linter.unusedVariables false
set_option linter.unusedSimpArgs false
set_option linter.unusedSectionVars false
namespace Go.Ev
section
variable {P:Program}{E:Env}{w0:Array Obj}{φ: Phi}{h h':H}{w:World}{tm:T AV}{ρ: Operand→Value}{o:Oper}{v:AV}
theorem Xb {since:Nat}{seen:List Nat}: ∀{es:List AEnt} {es':List MapEntry} {l:List AEnt},Ma since seen es=some l→ERs φ es es'→
  ERs φ l (es'.filter fun e=>!seen.contains e.born)∧(∀e∈l,e.born<since)
 | [],es',l,h,hes=>by cases hes;simp only [Ma,Option.some.injEq]at h;subst h;exact⟨.nil,by simp⟩
 |a::es,es',l,h,hes=>by
  cases hes with
  | @cons _ a' _ es' ha hes=>
   simp only [Ma]at h
   split at h
   ·cases h
   ·rename_i l1 h1
    obtain⟨g1,g2⟩:=Xb h1 hes
    split at h
    ·rename_i hm
     simp only [Option.some.injEq]at h;subst h
     have hc:(!seen.contains a'.born)=false:=by
      rw [←ha.born];simp;exact(Gu _ _).1 hm
     rw [List.filter_cons,hc]
     exact⟨g1,g2⟩
    ·rename_i hm
     split at h
     ·rename_i hlt
      simp only [Option.some.injEq]at h;subst h
      have hc:(!seen.contains a'.born)=true:=by
       rw [←ha.born];simp
       intro hin
       rw [(Gu _ _).2 hin]at hm;cases hm
      rw [List.filter_cons,hc]
      refine⟨.cons ha g1,fun e he=>?_⟩
      rcases List.mem_cons.1 he with rfl|he
      ·exact Ah hlt
      ·exact g2 e he
     ·cases h
theorem ERs.mem {l:List AEnt}{l':List MapEntry}(h:ERs φ l l'): ∀e'∈l',∃e∈l,ER φ e e':=by
 induction h with
 |nil=>simp
 |cons he _ ih=>
  intro x hx
  rcases List.mem_cons.1 hx with rfl|hx
  ·exact⟨_,List.mem_cons_self ..,he⟩
  ·obtain⟨e,h1,h2⟩:=ih x hx;exact⟨e,List.mem_cons_of_mem _ h1,h2⟩
theorem Y3 {stepped:Nat}{seen:List Nat}{es:List AEnt}{es':Array MapEntry}(h:I0 stepped seen es=true)(hes:ERs φ es es'.toList):
  (!seen.toArray.isEmpty && !es'.isEmpty && es'.all (·.born ≥ stepped))=false:=by
 unfold I0 at h
 cases seen with
 |nil=>simp
 |cons s seen=>
  cases es with
  |nil=>
   have:=hes.length
   have:es'= #[]:=Array.eq_empty_of_size_eq_zero (by simpa using this.symm)
   subst this;simp
  |cons e es=>
   simp only at h
   rw [List.any_eq_true]at h
   obtain⟨x,h1,h2⟩:=h
   have h2:=Ah h2
   obtain⟨i,hi⟩:=List.getElem?_of_mem h1
   obtain⟨x',q1,q2⟩:=hes.get hi
   have hall:es'.all (·.born ≥ stepped)=false:=by
    rw [←Array.all_toList,List.all_eq_false]
    exact⟨x',List.mem_of_getElem? q1,by rw [←q2.born];simp;omega⟩
   rw [hall];simp
variable (hr:HR E w0 φ h w.heap)(hρ: RhoR φ tm ρ)
include hr hρ
theorem Vl (hE:EnvOk P E){t a b:TypeId}{x:Operand}(hu:und E t=some (.map a b))(ho:o.op= .range t x)(hx:exec (.rangeM (opd x)) h tm= .val v h'):Sim1 E w0 φ w h ((execOp ρ o).run P w) v h':=by
 simp only [exec]at hx
 have new: ∀(m m':Option Nat) (c:Nat),OptR φ m m'→(execOp ρ o).run P w= .ok (.value (.pointer (some ⟨w.heap.size,0,none⟩))) (w.alloc (.mapIter m' c #[] c))→
   Sim1 E w0 φ w h ((execOp ρ o).run P w) (.ptr h.n 0) (H.new h (.miter m c [] c)):=by
  intro m m' c hm e
  have hle:Phi.le φ (φ.upd h.n ⟨w.heap.size,0,0⟩):=Phi.le_upd _ hr.fresh
  refine⟨_,_,_,⟨hle,fun _ hb=>Phi.upd_ne _ _ hb⟩,.inl e,.ptr (Phi.upd_same _ _ _),?_,⟨rfl,rfl,rfl⟩⟩
  exact hr.new rfl (.miter rfl (hm.mono hle)) rfl
 split at hx
 ·rename_i hb
  have ea:=VR.nilm_inv (hb ▸ hρ x)
  simp only [Ev.R.val.injEq]at hx;obtain⟨rfl,rfl⟩:=hx
  exact new none none 0 .none (by simp [execOp,ho,Instr.range,Ac hE hu,ea])
 ·rename_i m hb
  obtain⟨l,hφ,ea⟩:=VR.map_inv (hb ▸ hρ x)
  split at hx
  ·rename_i es c hg
   obtain⟨es',h1,h2⟩:=HR.map_at hr hφ hg
   simp only [Ev.R.val.injEq]at hx;obtain⟨rfl,rfl⟩:=hx
   exact new (some m) (some l.cb) c (.some hφ) (by simp [execOp,ho,Instr.range,Ac hE hu,ea,Bw h1])
  ·cases hx
 ·cases hx
omit hρ in
theorem HR.iter_at {r:Nat}{l:Loc}{m:Option Nat}{since st:Nat}{seen:List Nat}(hφ: φ r=some l)(hb:H.get h r=some (.miter m since seen st)):
  ∃m':Option Nat,w.heap[l.cb]?=some (.mapIter m' since seen.toArray st)∧OptR φ m m'∧l.base=0:=by
 obtain⟨o,h1,h2⟩:=hr.blk _ _ _ hφ hb
 cases h2 with
 |miter h0 h=>exact⟨_,h1,h,h0⟩
omit hr hρ in
theorem Ic {r:Nat}{m:Option Nat}{a c:Nat}{b:Array Nat}(hb:w.heap[r]?=some (.mapIter m a b c)):(getObj r).run P w= .ok (.mapIter m a b c) w:=by simp [getObj,Sem.run,hb]
omit hr hρ in
theorem Tl {r:Nat}{m:Option Nat}{a c:Nat}{b:Array Nat}(ob':Obj)(hb:w.heap[r]?=some (.mapIter m a b c)):(setObj r ob').run P w= .ok () (Fu w r ob'):=by simp [setObj,Sem.run,hb,Fu]
theorem Y4 {it:Operand}(ho:o.op= .entry it)(hx:exec (.entry (opd it)) h tm= .val v h'):Sim1 E w0 φ w h ((execOp ρ o).run P w) v h':=by
 simp only [exec]at hx
 split at hx
 ·rename_i r hb
  obtain⟨l,hφ,ea⟩:=VR.ptr_inv (hb ▸ hρ it)
  split at hx
  ·rename_i m since seen st hg
   obtain⟨m',h1,h2,h3⟩:=HR.iter_at hr hφ hg
   cases h2 with
   | @some _ lm hm=>
   rw [h3,Nat.zero_add]at ea
   split at hx
   ·rename_i es c s hgm hs
    obtain⟨es',g1,g2⟩:=HR.map_at hr hm hgm
    split at hx
    ·rename_i e hc hf
     simp only [Ev.R.val.injEq]at hx;obtain⟨rfl,rfl⟩:=hx
     have hc:c=st:=Aj hc
     subst hc
     have hfind: ∃e',es'.find? (·.born == s)=some e'∧ER φ e e':=by
      rw [←Array.find?_toList]
      clear hgm g1
      generalize es'.toList=l' at g2
      induction g2 with
      |nil=>simp [Gq]at hf
      | @cons a a' _ _ ha _ ih=>
       simp only [Gq]at hf
       split at hf
       ·rename_i hh
        simp only [Option.some.injEq]at hf;subst hf
        have:=Aj hh
        exact⟨a',by rw [List.find?_cons,←ha.born,this];simp,ha⟩
       ·rename_i hh
        have:=Dm hh
        obtain⟨e',p1,p2⟩:=ih hf
        exact⟨e',by rw [List.find?_cons,←ha.born,beq_false_of_ne this];exact p1,p2⟩
     obtain⟨e',p1,p2⟩:=hfind
     have hback:seen.toArray.back?=some s:=by rw [List.back?_toArray];exact hs
     refine .same (v':= .tuple #[e'.key,e'.val]) hr ?_ (.tup (.cons p2.key (.cons p2.val .nil)))
     simp only [execOp,ho,Instr.entry,ea,Sem.run_bind,Ic h1,Result.andThen_ok,hback,Bw g1]
     simp [p1]
    ·cases hx
   ·cases hx
  ·cases hx
 ·cases hx
theorem Tm {it:Operand}(ho:o.op= .next it false){l lm:Loc}{since st:Nat}{seen:List Nat}{es:List AEnt}{es':Array MapEntry}{c:Nat}{left:List AEnt}
  (ea:ρ it= .pointer (some ⟨l.cb,0,none⟩)) (h1:w.heap[l.cb]?=some (.mapIter (some lm.cb) since seen.toArray st)) (g1:w.heap[lm.cb]?=some (.map es' c)) (hes:ERs φ es es'.toList)
  (hc:I0 st seen es=true) (hl:Ma since seen es=some left):
  (left= []→ ∃w',(execOp ρ o).run P w= .ok (.value (.tuple #[.bool false])) w'∧w'.heap=w.heap∧Like w w')∧
  (left≠[]→ ∃e e' w',e∈left∧ER φ e e'∧(w'.heap=w.heap∧Like w w')∧(execOp ρ o).run P w= .ok (.value (.tuple #[.bool true,e'.key,e'.val])) (Fu w' l.cb (.mapIter (some lm.cb) since (seen.toArray.push e'.born) c))):=by
 obtain⟨q1,q2⟩:=Xb hl hes
 have hchk:=Y3 hc hes
 have hnew: ∀e'∈es'.toList.filter (fun e=>!seen.contains e.born),e'.born<since:=by
  intro e' he'
  obtain⟨e,p1,p2⟩:=q1.mem e' he'
  rw [←p2.born];exact q2 e p1
 have hleft:(es'.filter fun e=>!seen.toArray.contains e.born)=(es'.toList.filter fun e=>!seen.contains e.born).toArray:=by
  apply Array.ext';simp
 generalize hlc:(es'.toList.filter fun e=>!seen.contains e.born)=lc at q1 hnew hleft
 have hold:(lc.toArray.filter fun e=>decide (e.born<since))=lc.toArray:=by
  apply Array.ext';simp only [List.filter_toArray]
  exact List.filter_eq_self.2 fun e he=>by simpa using hnew e he
 have hnone:(lc.toArray.filter fun e=>decide (e.born ≥ since))= #[]:=by
  apply Array.ext';simp only [List.filter_toArray]
  exact List.filter_eq_nil_iff.2 fun e he=>by have:=hnew e he;simp;omega
 have hrun:(execOp ρ o).run P w=(((choose (.mapNext ((if lc.toArray.isEmpty then #[none]else #[])++lc.toArray.map some).size)).run P w).andThen fun k w=>
   (
       match(((if lc.toArray.isEmpty then #[none]else #[])++lc.toArray.map some)[k]?:Option (Option MapEntry))with
       |some (some e)=>(do
     setObj l.cb (.mapIter (some lm.cb) since (seen.toArray.push e.born) c)
     pure (.tuple #[.bool true,e.key,e.val]):Sem Value)
       |some none=>pure (.tuple #[.bool false])
       | none => stuck "Next: no such candidate").run P w).andThen fun a w' => Sem.run P (pure (Next.value a)) w' := by
  simp only [execOp,ho,Instr.next,ea,Sem.run_bind,Ic h1,Result.andThen_ok,Bw g1,hchk,Bool.false_eq_true,if_false,hleft,hold,hnone,Array.append_empty]
  rfl
 have hsz:(lc.toArray.map (some:MapEntry→Option MapEntry)).size=lc.length:=by simp
 refine⟨fun hl0=>?_,fun hl0=>?_⟩
 ·subst hl0
  have hlc0:lc= []:=by cases q1;rfl
  subst hlc0
  rw [hrun]
  refine⟨w,?_,rfl,.refl _⟩
  simp [Question.forced]
 ·have hne:lc≠[]:=by intro e;subst e;cases q1;exact hl0 rfl
  have hemp:lc.toArray.isEmpty=false:=by cases lc with|nil=>exact absurd rfl hne|cons _ _=>rfl
  have hpos:0<lc.length:=List.length_pos_iff.2 hne
  have hk: ∃k w',(choose (.mapNext lc.length)).run P w= .ok k w'∧(w'.heap=w.heap∧Like w w')∧k<lc.length:=by
   rw [run_choose]
   split
   ·exact⟨0,w,rfl,⟨rfl,.refl _⟩,hpos⟩
   ·exact⟨_,_,rfl,⟨rfl,⟨rfl,rfl,rfl⟩⟩,Nat.mod_lt _ hpos⟩
  obtain⟨k,w',k1,k2,k3⟩:=hk
  obtain⟨e,p1,p2⟩:=q1.mem lc[k] (List.getElem_mem k3)
  refine⟨e,lc[k],w',p1,p2,k2,?_⟩
  rw [hrun]
  simp only [hemp,Bool.false_eq_true,if_false,Array.empty_append,hsz,k1,Result.andThen_ok]
  have:(lc.toArray.map (some:MapEntry→Option MapEntry))[k]?=some (some lc[k]):=by simp [k3]
  simp only [this,Sem.run_bind,Tl _ (show w'.heap[l.cb]?=_ by rw [k2.1];exact h1),Result.andThen_ok,Sem.run_pure]
theorem Y5 {it:Operand}(ho:o.op= .next it false)(hx:exec (.nextM (opd it)) h tm= .val v h'):Sim1 E w0 φ w h ((execOp ρ o).run P w) v h':=by
 simp only [exec]at hx
 split at hx
 ·rename_i r hb
  obtain⟨l,hφ,ea⟩:=VR.ptr_inv (hb ▸ hρ it)
  split at hx
  ·rename_i since seen st hg
   obtain⟨m',h1,h2,h3⟩:=HR.iter_at hr hφ hg
   cases h2 with
   |none=>
   rw [h3,Nat.zero_add]at ea
   simp only [Ev.R.val.injEq]at hx;obtain⟨rfl,rfl⟩:=hx
   exact .same (v':= .tuple #[.bool false]) hr (by simp [execOp,ho,Instr.next,ea,Ic h1]) (.tup (.cons (.bool _) .nil))
  ·rename_i m since seen st hg
   obtain⟨m',h1,h2,h3⟩:=HR.iter_at hr hφ hg
   cases h2 with
   | @some _ lm hm=>
   rw [h3,Nat.zero_add]at ea
   split at hx
   ·rename_i es c hgm
    obtain⟨es',g1,g2⟩:=HR.map_at hr hm hgm
    split at hx
    ·rename_i hl hc
     simp only [Ev.R.val.injEq]at hx;obtain⟨rfl,rfl⟩:=hx
     obtain⟨w',p1,p2,p3⟩:=(Tm hr hρ ho ea h1 g1 g2 hc hl).1 rfl
     exact⟨φ,_,w',.refl _ _,.inl p1,.tup (.cons (.bool _) .nil),by rw [p2];exact hr,p3⟩
    ·cases hx
    ·cases hx
   ·cases hx
  ·cases hx
 ·cases hx
theorem Y6 {it:Operand}{ws:List (AV×H)}(ho:o.op= .next it false)(hx:exec (.nextM (opd it)) h tm= .next ws): ∃x∈ws,Sim1 E w0 φ w h ((execOp ρ o).run P w) x.1 x.2:=by
 simp only [exec]at hx
 split at hx
 ·rename_i r hb
  obtain⟨l,hφ,ea⟩:=VR.ptr_inv (hb ▸ hρ it)
  split at hx
  ·cases hx
  ·rename_i m since seen st hg
   obtain⟨m',h1,h2,h3⟩:=HR.iter_at hr hφ hg
   cases h2 with
   | @some _ lm hm=>
   have ea':=ea
   rw [h3,Nat.zero_add]at ea'
   split at hx
   ·rename_i es c hgm
    obtain⟨es',g1,g2⟩:=HR.map_at hr hm hgm
    split at hx
    ·cases hx
    ·rename_i e1 l1 hl hc
     simp only [Ev.R.next.injEq]at hx;subst hx
     obtain⟨e,e',w',p1,p2,p3,p4⟩:=(Tm hr hρ ho ea' h1 g1 g2 hc hl).2 (by simp)
     refine⟨_,List.mem_map.2 ⟨e,p1,rfl⟩,φ,.tuple #[.bool true,e'.key,e'.val],Fu w' l.cb (.mapIter (some lm.cb) since (seen.toArray.push e'.born) c),.refl _ _,.inl p4,.tup (.cons (.bool _) (.cons p2.key (.cons p2.val .nil))),?_,⟨p3.2.os,p3.2.tape,p3.2.output⟩⟩
     show HR E w0 φ _ (w'.heap.setIfInBounds l.cb _)
     rw [p3.1]
     refine hr.over hφ hg rfl ?_ rfl
     have:(seen.toArray.push e'.born)=(List.append seen [e.born]).toArray:=by rw [←p2.born];apply Array.ext';simp
     rw [this]
     exact .miter h3 (.some hm)
    ·cases hx
   ·cases hx
  ·cases hx
 ·cases hx
end
section
variable {P:Program}{E:Env}{w0:Array Obj}{φ: Phi}{h h':H}{w:World}{tm:T AV}{ρ: Operand→Value}{o:Oper}{v:AV}
variable (hr:HR E w0 φ h w.heap)(hρ: RhoR φ tm ρ)
include hr hρ
omit hr hρ in
theorem no {p:Prop}(hx:exec .bad h tm= .val v h'):p:=by simp [exec]at hx
theorem Tn (hE:EnvOk P E){c:Call}{b:Builtin}(ho:o.op= .call c)(hc:c.callee= .builtin b)(hx:exec (J7 E b c.args.toList c.argTypes.toList) h tm= .val v h'):Sim1 E w0 φ w h ((execOp ρ o).run P w) v h':=by
 unfold J7 at hx
 split at hx
 ·split at hx
  ·rename_i s x st xt ha ht
   split at hx
   ·rename_i e hu
    split at hx
    ·rename_i n z hs hz
     split at hx
     ·rename_i t
      split at hx
      ·rename_i k hk;exact Tj hr hρ hE ho hc ha ht hu hk hs hz hx
      ·rename_i e' hk;exact Oc hr hρ hE ho hc ha ht hu hk (.inr ⟨_,rfl⟩) hs hz hx
      ·rename_i hk;exact Oc hr hρ hE ho hc ha ht hu hk (.inl rfl) hs hz hx
      ·exact no hx
     ·exact no hx
    ·exact no hx
   ·exact no hx
  ·exact no hx
 ·split at hx
  ·rename_i d s dt r ha ht
   split at hx
   ·rename_i e hu
    split at hx
    ·rename_i n hs;exact ep hr hρ hE ho hc ha ht hu hs hx
    ·exact no hx
   ·exact no hx
  ·exact no hx
 ·split at hx
  ·rename_i x t ha ht
   split at hx
   ·rename_i hu;exact d7 hr hρ hE ho hc ha ht hu hx
   ·rename_i e hu;exact d6 hr hρ hE ho hc ha ht hu hx
   ·rename_i a b hu;exact d9 hr hρ hE ho hc ha ht hu hx
   ·rename_i n e hu;exact Ti hr hρ hE ho hc ha ht (.inl hu) hx
   ·rename_i a hu
    split at hx
    ·rename_i n e hu';exact Ti hr hρ hE ho hc ha ht (.inr ⟨a,hu,hu'⟩) hx
    ·exact no hx
   ·exact no hx
  ·exact no hx
 ·split at hx
  ·rename_i x t ha ht
   split at hx
   ·rename_i e hu;exact d8 hr hρ hE ho hc ha ht hu hx
   ·exact no hx
  ·exact no hx
 ·split at hx
  ·rename_i a b ha;exact ow hr hρ ho hc ha hx
  ·exact no hx
 ·split at hx
  ·rename_i a b ha;exact ox hr hρ ho hc ha hx
  ·exact no hx
 ·split at hx
  ·rename_i m k mt r ha ht
   split at hx
   ·rename_i kt e hu
    split at hx
    ·rename_i sh hs;exact Vk hr hρ hE ho hc ha ht hu hs hx
    ·exact no hx
   ·exact no hx
  ·exact no hx
 ·split at hx
  ·simp [exec]at hx
  ·exact no hx
 ·split at hx
  ·simp only [exec]at hx;split at hx <;> cases hx
  ·exact no hx
 ·exact no hx
theorem Nh (hE:EnvOk P E)(hx:exec (Ak E o.op) h tm= .val v h'):Sim1 E w0 φ w h ((execOp ρ o).run P w) v h':=by
 cases ho:o.op with
 |move x=>rw [ho]at hx;exact dj hr hρ (by simp only [execOp,ho]) hx
 |assign x=>rw [ho]at hx;exact dj hr hρ (by simp only [execOp,ho]) hx
 |pick c a b=>rw [ho]at hx;exact dm hr hρ ho hx
 |alloc e=>
  rw [ho]at hx;simp only [Ak]at hx
  split at hx
  ·rename_i z hz;exact Yr hr hρ hE hz ho hx
  ·exact no hx
 |box e x=>rw [ho]at hx;exact om hr hρ ho hx
 |build t parts=>
  rw [ho]at hx;simp only [Ak]at hx
  split at hx
  ·rename_i z ps hz hp ha;exact Ys hr hρ hE hz hp ho hx
  ·exact no hx
 |buildSlice t n parts=>
  rw [ho]at hx;simp only [Ak]at hx
  split at hx
  ·rename_i e hu
   split at hx
   ·rename_i s z hs hz hb;exact U5 hr hρ hE hu hs hz (Ah hb) ho hx
   ·exact no hx
  ·exact no hx
 |load t a=>
  rw [ho]at hx;simp only [Ak]at hx
  split at hx
  ·rename_i i hi
   split at hx
   ·rename_i ha;exact Yu hr hρ hE hi ha ho hx
   ·rename_i ha;exact Yt hr hρ hE ha ho hx
   ·exact no hx
  ·exact no hx
 |store t a x=>
  rw [ho]at hx;simp only [Ak]at hx
  split at hx
  ·rename_i i hi;exact Yv hr hρ hE hi ho hx
  ·exact no hx
 |nilCheck x=>rw [ho]at hx;exact dq hr hρ ho hx
 |binOp op t x y yt=>rw [ho]at hx;exact ot hr hρ hE ho hx
 |unOp op t x=>rw [ho]at hx;exact uu hr hρ ho hx
 |convert s d x=>
  rw [ho]at hx;simp only [Ak]at hx
  split at hx
  ·rename_i k hs
   split at hx
   ·rename_i j hd;exact dx hr hρ hE hs hd ho hx
   ·exact no hx
  ·rename_i e hs
   split at hx
   ·rename_i hd
    split at hx
    ·rename_i he;exact ou hr hρ hE hs hd he ho hx
    ·exact no hx
   ·rename_i e' hd
    split at hx
    ·rename_i hsd he
     have:=Aj hsd;subst this
     exact Vf hr hρ hE hs hd he ho hx
    ·exact no hx
   ·exact no hx
  ·exact no hx
 |makeInterface t x=>
  rw [ho]at hx;simp only [Ak]at hx
  split at hx
  ·exact no hx
  ·rename_i d hd hu;exact du hr hρ hE hu (fun ms e=>hd ms (by rw [←e])) ho hx
  ·exact no hx
 |makeFunc fn a c=>
  rw [ho]at hx;simp only [Ak]at hx
  cases fn with
  |func f=>exact dw hr hρ ho hx
  |_=>exact no hx
 |makeMap t r=>
  rw [ho]at hx;simp only [Ak]at hx
  cases r with
  |none=>exact Yw hr hρ ho hx
  |some _=>exact no hx
 |makeSlice t l c=>
  rw [ho]at hx;simp only [Ak]at hx
  split at hx
  ·rename_i e hu
   split at hx
   ·rename_i s z hs hz;exact Tg hr hρ hE hu hs hz ho hx
   ·exact no hx
  ·exact no hx
 |slice t x lo hi mx=>
  rw [ho]at hx;simp only [Ak]at hx
  split at hx
  ·rename_i n e hu
   split at hx
   ·rename_i s hs;exact N7 hr hρ hE (.inl hu) hs ho hx
   ·exact no hx
  ·rename_i e hu
   split at hx
   ·rename_i s hs;exact Vg hr hρ hE hu hs ho hx
   ·exact no hx
  ·rename_i a hu
   split at hx
   ·rename_i n e hu'
    split at hx
    ·rename_i s hs;exact N7 hr hρ hE (.inr ⟨_,hu,hu'⟩) hs ho hx
    ·exact no hx
   ·exact no hx
  ·exact no hx
 |fieldAddr s x f=>
  rw [ho]at hx;simp only [Ak]at hx
  split at hx
  ·rename_i fs hu
   split at hx
   ·rename_i fd hf
    split at hx
    ·rename_i n hs;exact Yx hr hρ hE hu hf hs ho hx
    ·exact no hx
   ·exact no hx
  ·exact no hx
 |field t x f=>
  rw [ho]at hx;simp only [Ak]at hx
  split at hx
  ·rename_i fs hu
   split at hx
   ·rename_i fd hf
    split at hx
    ·rename_i i hi ha;exact U7 hr hρ hE hu hf ha hi ho hx
    ·rename_i i hi ha;exact U6 hr hρ hE hu hf ha ho hx
    ·exact no hx
   ·exact no hx
  ·exact no hx
 |indexAddr t x ix=>
  rw [ho]at hx;simp only [Ak]at hx
  split at hx
  ·rename_i n e hu
   split at hx
   ·rename_i s hs;exact U8 hr hρ hE hu hs ho hx
   ·exact no hx
  ·rename_i e hu
   split at hx
   ·rename_i s hs;exact U9 hr hρ hE hu hs ho hx
   ·exact no hx
  ·exact no hx
 |index t x ix=>
  rw [ho]at hx;simp only [Ak]at hx
  split at hx
  ·rename_i n e hu
   split at hx
   ·rename_i i hi ha;exact Vc hr hρ hE hu hi ha ho hx
   ·rename_i i hi ha
    split at hx
    ·rename_i h1;exact Va hr hρ hE hu hi (Aj h1) ha ho hx
    ·exact no hx
   ·exact no hx
  ·rename_i hu;exact Vb hr hρ hE hu ho hx
  ·exact no hx
 |lookup t m k ok=>
  rw [ho]at hx;simp only [Ak]at hx
  split at hx
  ·rename_i kt e hu
   split at hx
   ·rename_i sh z hs hz;exact Vi hr hρ hE hu hs hz ho hx
   ·exact no hx
  ·exact no hx
 |mapUpdate t m k x=>
  rw [ho]at hx;simp only [Ak]at hx
  split at hx
  ·rename_i kt e hu
   split at hx
   ·rename_i sh hs;exact eu hr hρ hE hu hs ho hx
   ·exact no hx
  ·exact no hx
 |mapEntry t m k=>
  rw [ho]at hx;simp only [Ak]at hx
  split at hx
  ·rename_i kt e hu
   split at hx
   ·rename_i sh z hs hz;exact ez hr hρ hE hu hs hz ho hx
   ·exact no hx
  ·exact no hx
 |entryStore t m s x=>rw [ho]at hx;exact Vj hr hρ ho hx
 |range t x=>
  rw [ho]at hx;simp only [Ak]at hx
  split at hx
  ·rename_i a b hu;exact Vl hr hρ hE hu ho hx
  ·exact no hx
 |next it s=>
  rw [ho]at hx;simp only [Ak]at hx
  cases s with
  |false=>exact Y5 hr hρ ho hx
  |true=>exact no hx
 |entry it=>rw [ho]at hx;exact Y4 hr hρ ho hx
 |typeAssert x xt t ok=>
  rw [ho]at hx;simp only [Ak]at hx
  split at hx
  ·exact no hx
  ·rename_i d hd hu
   split at hx
   ·rename_i z hz;exact Tc hr hρ hE hu (fun ms e=>hd ms (by rw [←e])) hz ho hx
   ·exact no hx
  ·exact no hx
 |extract x i=>rw [ho]at hx;exact Ta hr hρ ho hx
 |call c=>
  rw [ho]at hx;simp only [Ak]at hx
  split at hx
  ·simp only [exec]at hx;split at hx <;> cases hx
  ·exact no hx
  ·rename_i b hb;exact Tn hr hρ hE ho hb hx
 |defer c=>
  rw [ho]at hx;simp only [Ak]at hx
  split at hx
  ·simp only [exec]at hx;split at hx <;> cases hx
  ·exact no hx
 |panic x=>rw [ho]at hx;simp only [Ak,exec]at hx;split at hx <;> cases hx
 |_=>rw [ho]at hx;exact no hx
omit hr hρ in
def VF (r:R):Prop:=(∃v h',r= .val v h')∨r= .fail
omit hr hρ in
theorem VF.vo (h:H)(o:Option AV):VF (Ev.vo h o):=by cases o with|none=>exact .inr rfl|some v=>exact .inl ⟨_,_,rfl⟩
omit hr hρ in
theorem VF.app (size bytes:Nat)(h:H)(s:AV)(new:List AV)(n:Nat):VF (De size bytes h s new n):=by
 unfold De
 repeat' split
 all_goals first|exact .inr rfl|exact .inl ⟨_,_,rfl⟩
def Mn (c:COp):Bool:=
 match c with
 | .nextM _=>true
 | .callv _ _=>true
 | .defer _ _=>true
 | .panic _=>true
 | .recover=>true
 |_=>false
omit hr hρ in
theorem oz (c:COp)(hc:Mn c=false):VF (exec c h tm):=by
 cases c <;> simp only [Mn,Bool.true_eq_false]at hc <;> simp only [exec] <;>
  repeat' first|exact .inr rfl|exact .inl ⟨_,_,rfl⟩|exact VF.vo _ _|exact VF.app _ _ _ _ _ _|split
omit hr hρ in
theorem Ke {c:COp}(hx: ¬VF (exec c h tm)):Mn c=true:=by
 cases hc:Mn c with
 |true=>rfl
 |false=>exact absurd (oz c hc) hx
end
structure TabOk (P:Program)(E:Env)(F:T CFn):Prop where
 fn : ∀ f g, T.get F f = some g → ∃ fn c, P.funcs[f]? = some fn ∧ (fn.name == "runtime.NumGoroutine") = false ∧ fn.body = some c ∧ g = W8 E fn c
section
variable {P:Program}{E:Env}{w0:Array Obj}{φ: Phi}{h h':H}{w:World}{tm:T AV}{ρ: Operand→Value}{o:Oper}{v:AV}
inductive Acts (E:Env)(op:Op):Prop where
 |next (it:Operand) (h:op= .next it false) (hc:Ak E op= .nextM (opd it))
 |call (c:Call) (f:Operand) (h:op= .call c) (hf:c.callee= .value f) (hc:Ak E op= .callv (opd f) (c.args.toList.map opd))
 |defer (c:Call) (f:Operand) (h:op= .defer c) (hf:c.callee= .value f) (hc:Ak E op= .defer (opd f) (c.args.toList.map opd))
 |panic (x:Operand) (h:op= .panic x) (hc:Ak E op= .panic (opd x))
 |panicB (c:Call) (x:Operand) (h:op= .call c) (hf:c.callee= .builtin .panic) (ha:c.args.toList= [x]) (hc:Ak E op= .panic (opd x))
 |recover (c:Call) (h:op= .call c) (hf:c.callee= .builtin .recover) (hc:Ak E op= .recover)
theorem Fv {op:Op}(h:Mn (Ak E op)=true):Acts E op:=by
 cases hop:op with
 |next it s=>
  subst hop
  cases s with
  |false=>exact .next it rfl rfl
  |true=>simp [Ak,Mn]at h
 |panic x=>exact .panic x rfl rfl
 |defer c=>
  subst hop
  cases hf:c.callee with
  |value f=>exact .defer c f rfl hf (by simp [Ak,hf])
  |_=>simp [Ak,hf,Mn]at h
 |call c=>
  subst hop
  cases hf:c.callee with
  |value f=>exact .call c f rfl hf (by simp [Ak,hf])
  |invoke _ _=>simp [Ak,hf,Mn]at h
  |builtin b=>
   simp only [Ak,hf]at h
   cases b with
   |recover=>
    simp only [J7]at h
    split at h
    ·rename_i ha;exact .recover c rfl hf (by simp [Ak,hf,J7,ha])
    ·cases h
   |panic=>
    simp only [J7]at h
    split at h
    ·rename_i x ha;exact .panicB c x rfl hf ha (by simp [Ak,hf,J7,ha])
    ·cases h
   |_=>
             exfalso;revert h;simp only [J7];repeat' split
             all_goals(intro h;cases h)
 |_=>subst hop;exfalso;revert h;simp only [Ak];(repeat' split) <;> (intro h;cases h)
variable (hr:HR E w0 φ h w.heap)(hρ: RhoR φ tm ρ)
include hr hρ
theorem fc {ws:List (AV×H)}(hx:exec (Ak E o.op) h tm= .next ws): ∃x∈ws,Sim1 E w0 φ w h ((execOp ρ o).run P w) x.1 x.2:=by
 cases Fv (Ke (h:=h) (tm:=tm) (by rw [hx];rintro(⟨_,_,e⟩|e) <;> cases e))with
 |next it ho hc=>rw [hc]at hx;exact Y6 hr hρ ho hx
 |call c f ho hf hc=>rw [hc]at hx;simp only [exec]at hx;split at hx <;> cases hx
 |defer c f ho hf hc=>rw [hc]at hx;simp only [exec]at hx;split at hx <;> cases hx
 |panic x ho hc=>rw [hc]at hx;simp only [exec]at hx;split at hx <;> cases hx
 |panicB c x ho hf ha hc=>rw [hc]at hx;simp only [exec]at hx;split at hx <;> cases hx
 |recover c ho hf hc=>rw [hc]at hx;simp only [exec]at hx;cases hx
def R1 (P:Program)(E:Env)(φ: Phi)(f:AFn)(args:List AV)(s:Result Next)(w:World):Prop:=
 match f with
 | .func g => ∃ args' : Array Value, VRs φ args args'.toList ∧ (∀ fn, P.funcs[g]? = some fn → (fn.name == "runtime.NumGoroutine") = false → fn.body.isSome = true → s = .ok (.enter g args') w)
 | .yield r=> ∃(l:Loc) (args':Array Value),φ r=some l∧VRs φ args args'.toList∧s=(Instr.yield l.cb args').run P w
omit hr hρ in
theorem He {g : FuncId} {fn : Func} (h1 : P.funcs[g]? = some fn) (h2 : (fn.name == "runtime.NumGoroutine") = false) (h3 : fn.body.isSome = true) (args : Array Value) :
  (callFunc g args).run P w= .ok (.enter g args) w:=by
 have h4:fn.body.isNone=false:=by cases hb:fn.body with|none=>rw [hb]at h3;cases h3|some _=>rfl
 simp only [callFunc,Sem.run_bind,run_program,Result.andThen_ok,h1,h2,h4,Bool.false_eq_true,if_false,Sem.run_pure]
omit hr hρ in
theorem Oi (as:Array Operand):(as.map ρ).toList=as.toList.map ρ:= by simp
omit hr in
theorem Vm {x:Operand}{f:AFn}{first cap:List AV}(hv:VR φ (.fn f first cap) (ρ x))(as:Array Operand):
  R1 P E φ f (List.append first (List.append (evs tm (as.toList.map opd)) cap)) ((do let d←Deferred.ofValue (ρ x) (as.map ρ);invoke d.target d.args:Sem Next).run P w) w:=by
 have has:=hρ.list as.toList
 cases f with
 |func g=>
  obtain⟨a',c',e1,h1,h2⟩:=hv.fnF_inv
  refine⟨a'++as.map ρ++ c',?_,fun fn q1 q2 q3=>?_⟩
  ·simp only [Array.toList_append,Oi,List.append_assoc]
   exact h1.append (has.append h2)
  ·simp only [e1,Deferred.ofValue,Sem.run_bind,Sem.run_pure,Result.andThen_ok,invoke]
   exact He q1 q2 q3 _
 |yield r=>
  generalize ρ x=xv at hv
  cases hv with
  | @fnY _ l hφ=>
   refine⟨l,#[]++as.map ρ,hφ,?_,?_⟩
   ·simp only [Array.toList_append,Oi]
    show VRs φ ([]++(evs tm (as.toList.map opd)++ [])) _
    simpa using has
   ·simp only [Deferred.ofValue,Sem.run_bind,Sem.run_pure,Result.andThen_ok,invoke]
theorem Oj {f:AFn}{args:List AV}(hx:exec (Ak E o.op) h tm= .call f args):R1 P E φ f args ((execOp ρ o).run P w) w:=by
 cases Fv (Ke (h:=h) (tm:=tm) (by rw [hx];rintro(⟨_,_,e⟩|e) <;> cases e))with
 |next it ho hc=>
  rw [hc]at hx;simp only [exec]at hx
  repeat' split at hx
  all_goals cases hx
 |call c f ho hf hc=>
  rw [hc]at hx;simp only [exec]at hx
  split at hx
  ·rename_i g first cap hb
   simp only [Ev.R.call.injEq]at hx;obtain⟨rfl,rfl⟩:=hx
   have:=Vm (P:=P) (E:=E) (w:=w) hρ (x:=f) (hb ▸ hρ f) c.args
   simpa only [execOp,ho,resolve,hf]using this
  ·cases hx
 |defer c f ho hf hc=>rw [hc]at hx;simp only [exec]at hx;split at hx <;> cases hx
 |panic x ho hc=>rw [hc]at hx;simp only [exec]at hx;split at hx <;> cases hx
 |panicB c x ho hf ha hc=>rw [hc]at hx;simp only [exec]at hx;split at hx <;> cases hx
 |recover c ho hf hc=>rw [hc]at hx;simp only [exec]at hx;cases hx
theorem o0 {f:Nat}{args:List AV}(hx:exec (Ak E o.op) h tm= .dfr f args): ∃d c,o.op= .defer c∧(execOp ρ o).run P w= .ok (.defer d) w∧DR φ (.call f args) d:=by
 cases Fv (Ke (h:=h) (tm:=tm) (by rw [hx];rintro(⟨_,_,e⟩|e) <;> cases e))with
 |next it ho hc=>
  rw [hc]at hx;simp only [exec]at hx
  repeat' split at hx
  all_goals cases hx
 |defer c f ho hf hc=>
  rw [hc]at hx;simp only [exec]at hx
  split at hx
  ·rename_i g first cap hb
   simp only [Ev.R.dfr.injEq]at hx;obtain⟨rfl,rfl⟩:=hx
   obtain⟨a',c',e1,h1,h2⟩:=VR.fnF_inv (hb ▸ hρ f)
   refine⟨{target:= .fn (.func g) c',args:=a'++c.args.map ρ},c,ho,?_,?_⟩
   ·simp [execOp,ho,resolve,hf,e1,Deferred.ofValue]
   ·refine .call ?_
    simp only [Array.toList_append,Oi,List.append_assoc]
    exact h1.append ((hρ.list c.args.toList).append h2)
  ·cases hx
 |call c f ho hf hc=>rw [hc]at hx;simp only [exec]at hx;split at hx <;> cases hx
 |panic x ho hc=>rw [hc]at hx;simp only [exec]at hx;split at hx <;> cases hx
 |panicB c x ho hf ha hc=>rw [hc]at hx;simp only [exec]at hx;split at hx <;> cases hx
 |recover c ho hf hc=>rw [hc]at hx;simp only [exec]at hx;cases hx
omit hr in
theorem Qo {x:Operand}{t:Nat}{u:AV}(hb:ev tm (opd x)= .ifc t u): ∃v',(Instr.panic (ρ x)).run P w= .halt (.panic v') w∧VR φ (.ifc t u) v':=by
 have hv:=hb ▸ hρ x
 obtain⟨y,e1,_⟩:=hv.ifc_inv
 rw [e1]at hv
 exact⟨_,by rw [e1];simp [Instr.panic],hv⟩
theorem o4 (hx:exec (Ak E o.op) h tm= .pan v): ∃v',(execOp ρ o).run P w= .halt (.panic v') w∧VR φ v v':=by
 cases Fv (Ke (h:=h) (tm:=tm) (by rw [hx];rintro(⟨_,_,e⟩|e) <;> cases e))with
 |next it ho hc=>
  rw [hc]at hx;simp only [exec]at hx
  repeat' split at hx
  all_goals cases hx
 |call c f ho hf hc=>rw [hc]at hx;simp only [exec]at hx;split at hx <;> cases hx
 |defer c f ho hf hc=>rw [hc]at hx;simp only [exec]at hx;split at hx <;> cases hx
 |panic x ho hc=>
  rw [hc]at hx;simp only [exec]at hx
  split at hx
  ·rename_i t u hb
   simp only [Ev.R.pan.injEq]at hx;subst hx
   obtain⟨v',h1,h2⟩:=Qo (P:=P) (w:=w) hρ hb
   exact⟨v',by simp only [execOp,ho,Sem.run_bind,h1];rfl,h2⟩
  ·cases hx
 |panicB c x ho hf ha hc=>
  rw [hc]at hx;simp only [exec]at hx
  split at hx
  ·rename_i t u hb
   simp only [Ev.R.pan.injEq]at hx;subst hx
   obtain⟨v',h1,h2⟩:=Qo (P:=P) (w:=w) hρ hb
   refine⟨v',?_,h2⟩
   rw [Ay ho hf,N8 ha]
   have:(#[ρ x]:Array Value).getD 0 .nilIface=ρ x:=rfl
   simp only [builtin,this,Sem.run_bind,h1];rfl
  ·cases hx
 |recover c ho hf hc=>rw [hc]at hx;simp only [exec]at hx;cases hx
theorem o5 (hx:exec (Ak E o.op) h tm= .recover):(execOp ρ o).run P w= .ok .recover w∧ ∃c,o.op= .call c:=by
 cases Fv (Ke (h:=h) (tm:=tm) (by rw [hx];rintro(⟨_,_,e⟩|e) <;> cases e))with
 |next it ho hc=>
  rw [hc]at hx;simp only [exec]at hx
  repeat' split at hx
  all_goals cases hx
 |call c f ho hf hc=>rw [hc]at hx;simp only [exec]at hx;split at hx <;> cases hx
 |defer c f ho hf hc=>rw [hc]at hx;simp only [exec]at hx;split at hx <;> cases hx
 |panic x ho hc=>rw [hc]at hx;simp only [exec]at hx;split at hx <;> cases hx
 |panicB c x ho hf ha hc=>rw [hc]at hx;simp only [exec]at hx;split at hx <;> cases hx
 |recover c ho hf hc=>exact⟨by rw [Ay ho hf];rfl,c,ho⟩
end
def SimMk (E:Env)(φ: Phi)(w:World)(r:Result Next)(v:AV)(h h1:H):Prop:=
 ∃v' ob l blk,r= .ok (.value v') (w.alloc ob)∧h1=H.new h blk∧l.cb=w.heap.size∧roB blk=false∧ ∀φ',Phi.le φ φ'→φ' h.n=some l→VR φ' v v'∧BR E φ' l blk ob
section
variable {P:Program}{E:Env}{φ: Phi}{h h':H}{w:World}{tm:T AV}{ρ: Operand→Value}{o:Oper}{v:AV}
theorem SimMk.cells {r:Result Next}{v':Value}{xs:List AV}{cs:Array Value}{e:TypeId}(hv: ∀φ',Phi.le φ φ'→φ' h.n=some ⟨w.heap.size,0,cs.size⟩→VR φ' v v')(hx:VRs φ xs cs.toList)
  (hr:r= .ok (.value v') (w.alloc (.cells cs e))):SimMk E φ w r v h (newCells h xs):=
 ⟨v',_,⟨w.heap.size,0,cs.size⟩,_,hr,rfl,rfl,rfl,fun φ' hl hb=>⟨hv φ' hl hb,BR.cells_new rfl rfl (hx.mono hl)⟩⟩
variable (hρ: RhoR φ tm ρ)
include hρ
theorem uv {e:TypeId}{n:Nat}{x:Operand}(ho:o.op= .box e x)(hx:exec (.box n (opd x)) h tm= .val v h'):SimMk E φ w ((execOp ρ o).run P w) v h h':=by
 simp only [exec]at hx
 split at hx
 ·rename_i l hl
  split at hx
  ·simp only [R.val.injEq]at hx;obtain⟨rfl,rfl⟩:=hx
   refine .cells (v':= .pointer (some ⟨w.heap.size,0,none⟩)) (cs:=(ρ x).cells) (e:=e) (fun φ' _ hb=>by simpa using VR.ptr (o:=0) hb) (Hc (hρ x) hl) ?_
   simp [execOp,ho,Instr.box,Hd]
  ·cases hx
 ·cases hx
theorem fe (hE:EnvOk P E){e:TypeId}{z:List AV}(hz:Em E e=some z)(ho:o.op= .alloc e)(hx:exec (.alloc z) h tm= .val v h'):SimMk E φ w ((execOp ρ o).run P w) v h h':=by
 simp only [exec,R.val.injEq]at hx
 obtain⟨rfl,rfl⟩:=hx
 obtain⟨u,i,h1,h2,h3,h4,h5⟩:=Df hE hz w
 refine .cells (v':= .pointer (some ⟨w.heap.size,0,none⟩)) (cs:=u.cells) (e:=e) (fun φ' _ hb=>by simpa using VR.ptr (o:=0) hb) (h5 φ) ?_
 simp [execOp,ho,Instr.alloc,h2,Hd]
theorem uw {t:TypeId}(ho:o.op= .makeMap t none)(hx:exec .mkmap h tm= .val v h'):SimMk E φ w ((execOp ρ o).run P w) v h h':=by
 simp only [exec,R.val.injEq]at hx;obtain⟨rfl,rfl⟩:=hx
 refine⟨.map (some w.heap.size),.map #[] 0,⟨w.heap.size,0,0⟩,_,?_,rfl,rfl,rfl,fun φ' _ hb=>⟨.map (l:=⟨w.heap.size,0,0⟩) hb,.map (by simpa using ERs.nil)⟩⟩
 simp [execOp,ho,Instr.makeMap]
theorem Y7 (hE:EnvOk P E){t e:TypeId}{n s:Nat}{parts:Array (Nat×Operand)}{z:List AV}(hu:und E t=some (.slice e))(hs:Bu E e=some s)(hz:Em E e=some z)
  (hb:n*szD E e≤16777216) (ho:o.op= .buildSlice t n parts) (hx:exec (.bslice n (rl z n) (parts.toList.map fun p=>(p.1*s,s,opd p.2))) h tm= .val v h'):
  SimMk E φ w ((execOp ρ o).run P w) v h h':=by
 simp only [exec]at hx
 split at hx
 ·rename_i l hl
  simp only [R.val.injEq]at hx;obtain⟨rfl,rfl⟩:=hx
  obtain⟨u,i,h1,h2,h3,h4,h5⟩:=Df hE hz w
  obtain⟨h6,h7⟩:=Bm hE hs w
  have hi:i.size=s:=by
   unfold Bu at hs;rw [h1]at hs;simp only at hs
   split at hs
   ·simp at hs
   ·simpa using hs
  have hsz:szD E e=s:=by unfold szD;rw [h1];exact hi
  obtain⟨cs',h8,h9⟩:=H8 (hρ:= hρ) (fun(i:Nat)=>some (i*s,s)) parts.toList _ _ ((Array.range (n*s)).map fun i=>u.cells[i % u.cells.size]!) l (by simp)
   (dp (h5 φ) n (n*s) (by rw [h3,hi])) hl
  have hpt:(parts.map fun(x:Nat×Operand)=>(x.1,ρ x.2)).toList=parts.toList.map fun p=>(p.1,ρ p.2):=by simp
  have hlim: ¬(n*s>2 ^ 24):=by rw [hsz]at hb;omega
  refine .cells (v':= .slice (some ⟨w.heap.size,0,none⟩) n n) (cs:=cs') (e:=e) (fun φ' _ hb=>?_) h9 ?_
  ·have hb':n<Aa:=by
    have:n≤n*s:=Nat.le_mul_of_pos_right n (Nat.pos_of_ne_zero h7)
    unfold Aa;omega
   have:=VR.slcX (b:=h.n) (o:=0) (n:=n) (c:=n) (off:=0) hb hb' (Nat.le_refl _) (fun _=>rfl)
   simpa using this
  ·simp only [execOp,ho,Instr.buildSlice,Sem.run_bind,Ac hE hu,Result.andThen_ok,h6,hlim,if_false,Sem.run_pure]
   by_cases h0:n*s=0
   ·have hn:n=0:=by rcases Nat.mul_eq_zero.1 h0 with h|h;exact h;exact absurd h h7
    rw [if_pos h0]
    simp only [Sem.run_bind,Sem.run_pure,Result.andThen_ok]
    rw [h0]at h8 ⊢
    rw [hpt]
    have:((Array.range 0).map fun i=>(#[]:Array Value)[i % (#[]:Array Value).size]!)=((Array.range 0).map fun i=>u.cells[i % u.cells.size]!):=by simp
    rw [this,h8]
    simp [newRow]
   ·rw [if_neg h0]
    simp only [Sem.run_bind,h2,Result.andThen_ok,Sem.run_pure]
    rw [hpt,h8]
    simp [newRow]
 ·cases hx
theorem ff (hE:EnvOk P E){t e:TypeId}{s:Nat}{z:List AV}{lo c:Operand}(hu:und E t=some (.slice e))(hs:Bu E e=some s)(hz:Em E e=some z)(ho:o.op= .makeSlice t lo c)
  (hx:exec (.mkslice (C9 E e) z (opd lo) (opd c)) h tm= .val v h'):SimMk E φ w ((execOp ρ o).run P w) v h h':=by
 simp only [exec]at hx
 split at hx
 ·rename_i k1 ln hl
  have el:=VR.int_inv (hl ▸ hρ lo)
  split at hx
  ·rename_i k2 cn hc
   have ec:=VR.int_inv (hc ▸ hρ c)
   split at hx
   ·rename_i h1 h2 h3
    have h1:ln≤cn:=Ah h1
    have h2:cn*C9 E e≤281474976710656:=Ah h2
    have h3:cn≤281474976710656:=Ah h3
    simp only [R.val.injEq]at hx;obtain⟨rfl,rfl⟩:=hx
    obtain⟨u,i,z1,z2,z3,z4,z5⟩:=Df hE hz w
    obtain⟨s1,s2⟩:=Bm hE hs w
    have hi:i.size=s:=by
     unfold Bu at hs;rw [z1]at hs;simp only at hs
     split at hs
     ·simp at hs
     ·simpa using hs
    have hbt:C9 E e=i.bytes:=by unfold C9;rw [z1]
    rw [hbt]at h2
    have hwr: ∀n:Nat,n≤281474976710656→IntKind.i64.wrap (n:Int)=n:=by
     intro n hn
     have h:(n:Int) % (2 ^ IntKind.i64.bits:Int)=n:=Int.emod_eq_of_lt (by omega) (by simp [IntKind.bits];omega)
     unfold IntKind.wrap
     rw [h]
     have: ¬((n:Int) ≥ 2 ^ (IntKind.i64.bits - 1)):=by simp [IntKind.bits];omega
     simp [IntKind.signed,this]
    refine .cells (v':= .slice (some ⟨w.heap.size,0,none⟩) ln cn) (cs:=(Array.range (cn*s)).map fun i=>u.cells[i % u.cells.size]!) (e:=e) (fun φ' _ hb=>?_) (dp (z5 φ) cn (cn*s) (by rw [z3,hi])) ?_
    ·have hb':cn<Aa:=by unfold Aa;omega
     have:=VR.slcX (b:=h.n) (o:=0) (n:=ln) (c:=cn) (off:=0) hb hb' h1 (fun _=>rfl)
     simpa using this
    ·have t1: ¬((cn:Int)<0):=by omega
     have t2: ¬((i.bytes:Int)*(cn:Int)>2 ^ 48):=by
      have:((cn*i.bytes:Nat):Int)≤281474976710656:=by omega
      rw [Int.natCast_mul,Int.mul_comm]at this
      omega
     have t3: ¬((ln:Int)<0):=by omega
     have t4: ¬((ln:Int)>(cn:Int)):=by omega
     simp only [execOp,ho,Instr.makeSlice,Sem.run_bind,Ac hE hu,Result.andThen_ok,el,ec,asInt,asIntOf,Sem.run_pure,B7 hE z1,hwr ln (by omega),hwr cn h3]
     have hc1:IntKind.i64.wrap (Int.ofNat cn)=(cn:Int):=hwr cn h3
     have hl1:IntKind.i64.wrap (Int.ofNat ln)=(ln:Int):=hwr ln (by omega)
     have hcond:(decide ((cn:Int)<0) || decide ((i.bytes:Int)*(cn:Int)>2 ^ 48) || decide ((ln:Int)<0) || decide ((ln:Int)>(cn:Int)))=false:=by
      simp only [decide_eq_false t1,decide_eq_false t2,decide_eq_false t3,decide_eq_false t4,Bool.or_false]
     simp only [hc1,hl1,hcond,Bool.false_eq_true,if_false,Sem.run_bind,run_askRoom,s1,Result.andThen_ok,Int.toNat_natCast]
     by_cases h0:cn*s=0
     ·have hn:cn=0:=by rcases Nat.mul_eq_zero.1 h0 with h|h;exact h;exact absurd h s2
      rw [if_pos h0]
      simp only [Sem.run_bind,Sem.run_pure,Result.andThen_ok]
      have hm:((Array.range (cn*s)).map fun i=>(#[]:Array Value)[i % (#[]:Array Value).size]!)=((Array.range (cn*s)).map fun i=>u.cells[i % u.cells.size]!):=by simp [h0]
      rw [hm]
      simp [newRow]
     ·rw [if_neg h0]
      simp only [Sem.run_bind,z2,Result.andThen_ok,Sem.run_pure]
      simp [newRow]
   ·cases hx
  ·cases hx
 ·cases hx
theorem ux (hE:EnvOk P E)(hc:cls (Ak E o.op)=2)(hx:exec (Ak E o.op) h tm= .val v h'):SimMk E φ w ((execOp ρ o).run P w) v h h':=by
 cases ho:o.op with
 |alloc e=>
  rw [ho]at hx;simp only [Ak]at hx
  split at hx
  ·rename_i z hz;exact fe hρ hE hz ho hx
  ·exact no hx
 |box e x=>rw [ho]at hx;exact uv hρ ho hx
 |buildSlice t n parts=>
  rw [ho]at hx;simp only [Ak]at hx
  split at hx
  ·rename_i e hu
   split at hx
   ·rename_i s z hs hz hb;exact Y7 hρ hE hu hs hz (Ah hb) ho hx
   ·exact no hx
  ·exact no hx
 |makeMap t r=>
  rw [ho]at hx;simp only [Ak]at hx
  cases r with
  |none=>exact uw hρ ho hx
  |some _=>exact no hx
 |makeSlice t l c=>
  rw [ho]at hx;simp only [Ak]at hx
  split at hx
  ·rename_i e hu
   split at hx
   ·rename_i s z hs hz;exact ff hρ hE hu hs hz ho hx
   ·exact no hx
  ·exact no hx
 |call c=>
  exfalso;rw [ho]at hc;revert hc
  simp only [Ak]
  split
  ·simp [cls]
  ·simp [cls]
  ·rename_i b hb
   cases b <;> simp only [J7] <;> (repeat' split) <;> simp [cls]
 |_=>exfalso;rw [ho]at hc;revert hc;simp only [Ak];(repeat' split) <;> simp [cls]
omit hρ in
theorem fg {x:Option AV}(hx:vo h x= .val v h'):x=some v∧h'=h:=by
 cases x with
 |none=>cases hx
 |some u=>cases hx;exact⟨rfl,rfl⟩
omit hρ in
theorem Js {c:COp}(hc:cls c=0∨cls c=1)(hx:exec c h tm= .val v h'):h'=h:=by
 cases c with
 |_=>
  first
   |(exfalso;rcases hc with hc|hc <;> cases hc;done)
   |(revert hx;simp only [exec];(repeat' split) <;> intro hx <;> first|(cases hx;done)|exact(fg hx).2|(cases hx;rfl))
omit hρ in
theorem Y8 {c:COp}(hc:cls c=0)(hx:exec c h tm= .val v h')(h2:H):exec c h2 tm= .val v h2:=by
 cases c with
 |_=>
  first
   |(exfalso;cases hc;done)
   |(revert hx;simp only [exec];(repeat' split) <;> intro hx <;> first|(cases hx;done)|(rw [(fg hx).1];rfl)|(cases hx;rfl))
omit hρ in
theorem o6 {c:COp}(hc:cls c=2)(hx:exec c h tm= .val v h'): ∃blk,h'=H.new h blk:=by
 cases c with
 |_=>
  first
   |(exfalso;cases hc;done)
   |(revert hx;simp only [exec,newCells];(repeat' split) <;> intro hx <;> first|(cases hx;done)|(cases hx;exact⟨_,rfl⟩))
end
theorem Xc (m n:Nat):tb m n=m.testBit n:=by
 have h:Nat.land (Nat.shiftRight m n) 1=(m >>> n) % 2:=Nat.and_one_is_mod _
 unfold tb
 rw [h,Nat.testBit_eq_decide_div_mod_eq,Nat.shiftRight_eq_div_pow]
 cases hb:Nat.beq (m / 2 ^ n % 2) 1 with
 |true=>exact(decide_eq_true (Nat.eq_of_beq_eq_true hb)).symm
 |false=>exact(decide_eq_false (Nat.ne_of_beq_eq_false hb)).symm
theorem Xd (n:Nat):tb 0 n=false:=by rw [Xc];simp
theorem Xe (a b n:Nat):tb (a ||| b) n=(tb a n || tb b n):=by simp [Xc,Nat.testBit_or]
theorem fh (a n:Nat):tb (2 ^ a) n=decide (a=n):=by
 rw [Xc,Nat.testBit_two_pow]
theorem yx {m j i:Nat}(h:m<2 ^ j)(hb:tb m i=true):i<j:=by
 rw [Xc]at hb
 cases Nat.lt_or_ge i j with
 |inl h=>exact h
 |inr hge=>
  have:m<2 ^ i:=Nat.lt_of_lt_of_le h (Nat.pow_le_pow_right (by omega) hge)
  rw [Nat.testBit_lt_two_pow this]at hb;cases hb
noncomputable section
variable (E:Env)(nt:Nat)(R:Reg)
def rw' (j:Nat):Row:=tl E nt R.ops R.bits j
def bb (j:Nat):Nat:=R.bits j
def es':List Row:=Cq (Au E nt R)
def ne':List Row:=Dh (Au E nt R)
def cn' (j:Nat):Nat:=cnt (es' E nt R) (rw' E nt R j)
def ci' (j:Nat):CI:=Bj E nt R.ops j
def nm' (j:Nat):List Nat:=Nb R.ops j
def cl' (j:Nat):Nat:=cls (Bj E nt R.ops j).op
end
section
variable {E:Env}{nt:Nat}{R:Reg}
theorem mem_rows {r:Row}:r∈Au E nt R↔ ∃j,j<R.ops.size∧r=rw' E nt R j:=by
 unfold Au rw'
 simp only [List.mem_map,List.mem_range]
 constructor
 ·rintro⟨j,h,e⟩;exact⟨j,h,e.symm⟩
 ·rintro⟨j,h,e⟩;exact⟨j,h,e.symm⟩
theorem Lk (j:Nat):Qd (rw' E nt R j)=true↔cl' E nt R j=3:=by
 unfold Qd Lb
 constructor
 ·intro h;exact Aj h
 ·intro h
  have:cls (rw' E nt R j).d.ci.op=3:=h
  rw [this];rfl
theorem mem_es {r:Row}:r∈es' E nt R↔ ∃j,j<R.ops.size∧r=rw' E nt R j∧cl' E nt R j=3:=by
 unfold es' Cq
 rw [List.mem_filter,mem_rows]
 constructor
 ·rintro⟨⟨j,h,rfl⟩,h2⟩;exact⟨j,h,rfl,(Lk j).1 h2⟩
 ·rintro⟨j,h,rfl,h2⟩;exact⟨⟨j,h,rfl⟩,(Lk j).2 h2⟩
theorem mem_ne {r:Row}:r∈ne' E nt R↔ ∃j,j<R.ops.size∧r=rw' E nt R j∧cl' E nt R j≠3:=by
 unfold ne' Dh
 rw [List.mem_filter,mem_rows]
 have key: ∀j,(!Qd (rw' E nt R j))=true↔cl' E nt R j≠3:=fun j=>by
  have:=Lk (E:=E) (nt:=nt) (R:=R) j
  cases hb:Qd (rw' E nt R j)with
  |true=>simp [this.1 hb]
  |false=>simp;intro hc;rw [this.2 hc]at hb;cases hb
 constructor
 ·rintro⟨⟨j,h,rfl⟩,h2⟩;exact⟨j,h,rfl,(key j).1 h2⟩
 ·rintro⟨j,h,rfl,h2⟩;exact⟨⟨j,h,rfl⟩,(key j).2 h2⟩
theorem uy (c:COp):cls c≤3:=by unfold cls;split <;> omega
theorem I6 (h:E4 (Au E nt R)=true):
  (∀r∈Au E nt R,tb r.bits r.j=false)∧(∀i∈ne' E nt R,U2 (Au E nt R) (es' E nt R) i=true)∧Ka (es' E nt R)=true∧(∀i∈ne' E nt R,de (ne' E nt R) (es' E nt R) i=true):=by
 unfold E4 at h
 simp only [Bool.and_eq_true,List.all_eq_true]at h
 exact⟨fun r hr=>by have:=h.1.1.1 r hr;simpa using this,h.1.2,h.2,h.1.1.2⟩
theorem o7 (h:E4 (Au E nt R)=true){j:Nat}(hj:j<R.ops.size):tb (bb R j) j=false:=
 (I6 h).1 _ (mem_rows.2 ⟨j,hj,rfl⟩)
theorem uz (h:E4 (Au E nt R)=true){i j:Nat}(hi:i<R.ops.size)(hci:cl' E nt R i≠3)(hj:j<R.ops.size)(hcj:cl' E nt R j≠3)(hcn:cn' E nt R j=cn' E nt R i)(hb:tb (bb R j) i=true):i<j:=by
 have:=(I6 h).2.2.2 _ (mem_ne.2 ⟨j,hj,rfl,hcj⟩)
 unfold de at this
 rw [List.all_eq_true]at this
 have h1:=this _ (mem_ne.2 ⟨i,hi,rfl,hci⟩)
 have e:tb (rw' E nt R j).bits (rw' E nt R i).j=true:=hb
 have e2:Nat.beq (cnt (es' E nt R) (rw' E nt R j)) (cnt (es' E nt R) (rw' E nt R i))=true:=by
  have:cnt (es' E nt R) (rw' E nt R j)=cnt (es' E nt R) (rw' E nt R i):=hcn
  rw [this];exact Nat.beq_refl _
 rw [e,e2]at h1
 have h2:Nat.ble (Nat.succ i) j=true:=by
  cases hq:Nat.ble (Nat.succ i) j with
  |true=>rfl
  |false=>
   have:(!true || !true || Nat.ble (Nat.succ i) j)=true:=h1
   rw [hq]at this;cases this
 exact Ah h2
theorem Ol (h:E4 (Au E nt R)=true){i:Nat}(hi:i<R.ops.size)(hc:cl' E nt R i≠3):
  (∀r∈Au E nt R,Rx (rw' E nt R i) r=true)∧(∀e∈(es' E nt R).take (cn' E nt R i),tb (bb R i) e.j=true)∧
  (cl' E nt R i=2→ ∀e∈(es' E nt R).drop (cn' E nt R i),tb e.bits i=true):=by
 have:=(I6 h).2.1 _ (mem_ne.2 ⟨i,hi,rfl,hc⟩)
 unfold U2 at this
 simp only [Bool.and_eq_true,List.all_eq_true,Bool.or_eq_true]at this
 refine⟨this.1.1,this.1.2,fun h2=>?_⟩
 rcases this.2 with h3|h3
 ·have:Lb (rw' E nt R i)=2:=h2
  rw [this]at h3;cases h3
 ·exact h3
theorem Gx (h:E4 (Au E nt R)=true){i j d:Nat}(hi:i<R.ops.size)(hj:j<R.ops.size)(hc:cl' E nt R i≠3)(hd:(ci' E nt R i).dst=some d):
  (j=i→d∉nm' R i)∧(j≠i→(ci' E nt R j).dst≠some d∧(d∈nm' R j→tb (bb R j) i=true)):=by
 have:=(Ol h hi hc).1 _ (mem_rows.2 ⟨j,hj,rfl⟩)
 unfold Rx at this
 have hd':(rw' E nt R i).d.ci.dst=some d:=hd
 rw [hd']at this
 simp only at this
 have hmem: ∀{l:List Nat},(!La d l)=true→d∉l:=by
  intro l hl hm
  rw [(Gu d l).2 hm]at hl;cases hl
 constructor
 ·intro e
  subst e
  have hb:Nat.beq (rw' E nt R j).j (rw' E nt R j).j=true:=Nat.beq_refl _
  rw [hb]at this
  exact hmem this
 ·intro e
  have hb:Nat.beq (rw' E nt R j).j (rw' E nt R i).j=false:=by
   cases hb:Nat.beq (rw' E nt R j).j (rw' E nt R i).j with
   |false=>rfl
   |true=>exact absurd (Aj hb) e
  rw [hb]at this
  simp only [Bool.and_eq_true,Bool.or_eq_true]at this
  refine⟨fun e2=>?_,fun hm=>?_⟩
  ·have h1:=this.1
   have e2':(rw' E nt R j).d.ci.dst=some d:=e2
   rw [e2']at h1
   simp [tn]at h1
  ·rcases this.2 with h1|h1
   ·exact absurd hm (hmem h1)
   ·exact h1
theorem Om (h:E4 (Au E nt R)=true){i m:Nat}{e:Row}(hi:i<R.ops.size)(hc:cl' E nt R i≠3)(hm:m<cn' E nt R i)(he:(es' E nt R)[m]?=some e):tb (bb R i) e.j=true:=
 (Ol h hi hc).2.1 e (List.mem_iff_getElem?.2 ⟨m,by rw [List.getElem?_take_of_lt hm];exact he⟩)
theorem Hf {m:Nat}{e:Row}(he:(es' E nt R)[m]?=some e):e.j<R.ops.size∧e=rw' E nt R e.j∧cl' E nt R e.j=3∧e.bits=bb R e.j:=by
 obtain⟨j,h1,rfl,h3⟩:=mem_es.1 (List.mem_of_getElem? he)
 exact⟨h1,rfl,h3,rfl⟩
theorem Qp (h:E4 (Au E nt R)=true){i m:Nat}{e:Row}(hi:i<R.ops.size)(hc:cl' E nt R i=2)(hm:cn' E nt R i≤m)(he:(es' E nt R)[m]?=some e):tb (bb R e.j) i=true:=by
 have:=(Ol h hi (by omega)).2.2 hc e (List.mem_iff_getElem?.2 ⟨m - cn' E nt R i,by rw [List.getElem?_drop,Nat.add_sub_cancel' hm];exact he⟩)
 rw [(Hf he).2.2.2]at this;exact this
theorem Qq: ∀{l:List Row},Ka l=true→ ∀{m n:Nat} {e f:Row},m<n→l[m]?=some e→l[n]?=some f→tb f.bits e.j=true
 | [],_,m,n,e,f,_,he,_=>by simp at he
 |x::l,h,m,n,e,f,hm,he,hf=>by
  simp only [Ka,Bool.and_eq_true,List.all_eq_true]at h
  cases n with
  |zero=>omega
  |succ n=>
   simp only [List.getElem?_cons_succ]at hf
   cases m with
   |zero=>simp only [List.getElem?_cons_zero,Option.some.injEq]at he;subst he;exact h.1 f (List.mem_of_getElem? hf)
   |succ m=>simp only [List.getElem?_cons_succ]at he;exact Qq h.2 (by omega) he hf
theorem Qr (h:E4 (Au E nt R)=true){m n:Nat}{e f:Row}(hm:m<n)(he:(es' E nt R)[m]?=some e)(hf:(es' E nt R)[n]?=some f):tb (bb R f.j) e.j=true:=by
 have:=Qq (I6 h).2.2.1 hm he hf
 rw [(Hf hf).2.2.2]at this;exact this
theorem yz (i:Nat):cn' E nt R i≤(es' E nt R).length:=List.length_filter_le _ _
end
inductive Ext (n:Nat)(b:Nat→Nat):List Nat→List Nat→Prop where
 |nil {D:List Nat} (h: ∀j,j<n→j∈D):Ext n b D []
 |cons {D td:List Nat} {j:Nat} (hj:j<n) (hn:j∉D) (hb: ∀i,tb (b j) i=true→i∈D) (hs:Ext n b (j::D) td):Ext n b D (j::td)
theorem Ext.all {n:Nat}{b:Nat→Nat}{D td:List Nat}(h:Ext n b D td): ∀j,j<n→j∈D∨j∈td:=by
 induction h with
 |nil h=>exact fun j hj=> .inl (h j hj)
 |cons hj hn hb hs ih=>
  intro k hk
  rcases ih k hk with h|h
  ·rcases List.mem_cons.1 h with h|h
   ·exact .inr (h ▸ List.mem_cons_self ..)
   ·exact .inl h
  ·exact .inr (List.mem_cons_of_mem _ h)
theorem Ext.apart {n:Nat}{b:Nat→Nat}{D td:List Nat}(h:Ext n b D td): ∀j,j∈td→j∉D∧j<n:=by
 induction h with
 |nil h=>exact fun j hj=>by cases hj
 | @cons D td j hj hn hb hs ih=>
  intro k hk
  rcases List.mem_cons.1 hk with e|h
  ·exact⟨e ▸ hn,e ▸ hj⟩
  ·exact⟨fun hd=>(ih k h).1 (List.mem_cons_of_mem _ hd),(ih k h).2⟩
abbrev b0 (ops:Array Oper):Nat→Nat:=Ny (Region.before ops)
def Mo (acc:Nat→Nat)(o:Oper):Nat:=o.after.foldl (fun s e=>if Region.binds .any e then s ||| 2 ^ e.on ||| acc e.on else s) 0
theorem tt (acc:Nat→Nat)(k:Nat): ∀(l:List Edge) (s:Nat),tb (l.foldl (fun s e=>if Region.binds .any e then s ||| 2 ^ e.on ||| acc e.on else s) s) k=true↔
  tb s k=true∨ ∃e∈l,Region.binds .any e=true∧(e.on=k∨tb (acc e.on) k=true)
 | [],s=>by simp
 |e::l,s=>by
  rw [List.foldl_cons,tt acc k l]
  by_cases hb:Region.binds .any e=true
  ·rw [if_pos hb,Xe,Xe,fh]
   simp only [Bool.or_eq_true,decide_eq_true_eq,List.mem_cons,exists_eq_or_imp,hb,true_and]
   constructor
   ·rintro(((h|h)|h)|h)
    ·exact .inl h
    ·exact .inr (.inl (.inl h))
    ·exact .inr (.inl (.inr h))
    ·exact .inr (.inr h)
   ·rintro(h|(h|h)|h)
    ·exact .inl (.inl (.inl h))
    ·exact .inl (.inl (.inr h))
    ·exact .inl (.inr h)
    ·exact .inr h
  ·rw [if_neg hb]
   simp only [List.mem_cons,exists_eq_or_imp,hb,false_and,false_or]
   constructor
   ·rintro(h|h)
    ·exact .inl h
    ·exact .inr (.inr h)
   ·rintro(h|h|h)
    ·exact .inl h
    ·exact absurd h.1 (by simp)
    ·exact .inr h
theorem Qs (acc:Nat→Nat)(o:Oper)(k:Nat):tb (Mo acc o) k=true↔ ∃e∈o.after.toList,Region.binds .any e=true∧(e.on=k∨tb (acc e.on) k=true):=by
 unfold Mo
 rw [←Array.foldl_toList,tt,Xd]
 simp
def Kf (l:List Oper):Array Nat:=l.foldl (fun acc o=>acc.push (Mo (fun i=>acc.getD i 0) o)) #[]
theorem Ll (l:List Oper)(o:Oper):Kf (l++ [o])=(Kf l).push (Mo (fun i=>(Kf l).getD i 0) o):=by simp [Kf]
theorem Lm (l:List Oper):(Kf l).size=l.length:=by
 rw [←List.reverse_reverse l]
 induction l.reverse with
 |nil=>rfl
 |cons o l ih=>rw [List.reverse_cons,Ll];simp [ih]
theorem Mp (l:List Oper)(m:List Oper)(i:Nat)(hi:i<l.length):(Kf (l++m)).getD i 0=(Kf l).getD i 0:=by
 rw [←List.reverse_reverse m]
 induction m.reverse with
 |nil=>simp
 |cons o m ih=>
  rw [List.reverse_cons,←List.append_assoc,Ll]
  simp only [Array.getD_eq_getD_getElem?]at ih ⊢
  rw [Array.getElem?_push_lt (by rw [Lm];simp;omega),←ih,Array.getElem?_eq_getElem]
theorem Qt (ops:Array Oper):Region.before ops=Kf ops.toList:=by
 unfold Region.before Kf Mo
 rw [←Array.foldl_toList]
theorem Xf (ops:Array Oper){j:Nat}{o:Oper}(ho:ops[j]?=some o): ∃f:Nat→Nat,(∀i k,tb (f i) k=true→tb (b0 ops i) k=true)∧b0 ops j=Mo f o:=by
 have hl:ops.toList[j]?=some o:=by simpa using ho
 obtain⟨hj,he⟩:=List.getElem?_eq_some_iff.1 hl
 have hsplit:ops.toList=ops.toList.take j++ [o]++ops.toList.drop (j+1):=by
  rw [←he,List.append_assoc,List.singleton_append,←List.drop_eq_getElem_cons hj,List.take_append_drop]
 have hlen:(ops.toList.take j).length=j:=by rw [List.length_take];omega
 refine⟨fun i=>(Kf (ops.toList.take j)).getD i 0,?_,?_⟩
 ·intro i k hb
  by_cases hi:i<j
  ·unfold b0 Ny
   rw [Qt,hsplit,List.append_assoc,Mp _ _ _ (by omega)];exact hb
  ·simp only [Array.getD_eq_getD_getElem?]at hb
   rw [Array.getElem?_eq_none (by rw [Lm];omega)]at hb
   simp [Xd]at hb
 ·unfold b0 Ny
  rw [Qt]
  conv=>lhs;rw [hsplit]
  rw [Mp _ _ _ (by rw [List.length_append,hlen];exact Nat.lt_succ_self j),Ll]
  simp only [Array.getD_eq_getD_getElem?]
  have:j=(Kf (ops.toList.take j)).size:=by rw [Lm];omega
  conv=>lhs;rw [show((Kf (ops.toList.take j)).push (Mo (fun i=>(Kf (ops.toList.take j))[i]?.getD 0) o))[j]?=some (Mo (fun i=>(Kf (ops.toList.take j))[i]?.getD 0) o) from by rw [Array.getElem?_push];rw [if_pos this]]
  rfl
theorem Xg {ops:Array Oper}{j:Nat}{o:Oper}(ho:ops[j]?=some o){e:Edge}(he:e∈o.after.toList)(hb:Region.binds .any e=true):tb (b0 ops j) e.on=true:=by
 obtain⟨f,_,h2⟩:=Xf ops ho
 rw [h2,Qs];exact⟨e,he,hb,.inl rfl⟩
theorem o8 {ops:Array Oper}{j:Nat}{o:Oper}(ho:ops[j]?=some o){k:Nat}(hk:tb (b0 ops j) k=true): ∃e∈o.after.toList,Region.binds .any e=true∧(e.on=k∨tb (b0 ops e.on) k=true):=by
 obtain⟨f,h1,h2⟩:=Xf ops ho
 rw [h2,Qs]at hk
 obtain⟨e,g1,g2,g3⟩:=hk
 exact⟨e,g1,g2,g3.imp id (h1 _ _)⟩
theorem Mq {p q:Nat→Bool}{i:Nat}(hq: ∀k,k≠i→q k=p k)(hi:q i=false)(hp:p i=true): ∀l:List Nat,l.Nodup→i∈l→l.countP q+1=l.countP p
 | [],_,h=>by cases h
 |a::l,hn,h=>by
  obtain⟨hn1,hn2⟩:=List.nodup_cons.1 hn
  by_cases e:a=i
  ·subst e
   rw [List.countP_cons_of_pos hp,List.countP_cons_of_neg (by simp [hi])]
   congr 1
   exact List.countP_congr fun k hk=>by rw [hq k (fun e=>hn1 (e ▸ hk))]
  ·have hm:i∈l:=by rcases List.mem_cons.1 h with h|h;exact absurd h.symm e;exact h
   have ih:=Mq hq hi hp l hn2 hm
   have hqa:=hq a e
   by_cases hpa:p a=true
   ·rw [List.countP_cons_of_pos hpa,List.countP_cons_of_pos (by rw [hqa];exact hpa)];omega
   ·rw [List.countP_cons_of_neg hpa,List.countP_cons_of_neg (by rw [hqa];exact hpa)];exact ih
section
variable {E:Env}{nt:Nat}{ops:Array Oper}
theorem fj (h:Nz ops=true){i j:Nat}(hj:j<ops.size)(hb:tb (b0 ops j) i=true):i<j:=by
 unfold Nz at h
 rw [List.all_eq_true]at h
 exact yx (Ah (h j (List.mem_range.2 hj))) hb
theorem Y9 (hreg:Nz ops=true){listed:Array Bool}(hs:listed.size=ops.size)(hr:Region.ready .any ops listed= []): ∀j,j<ops.size→listed.getD j true=true:=by
 intro j
 induction j using Nat.strongRecOn with
 |_ j ih=>
  intro hj
  cases hl:listed.getD j true with
  |true=>rfl
  |false=>
   exfalso
   have:j∈Region.ready .any ops listed:=by
    unfold Region.ready
    rw [List.mem_filter]
    refine⟨List.mem_range.2 hj,?_⟩
    rw [hl,Array.getElem?_eq_getElem hj]
    simp only [Bool.not_false,Option.map_some,Option.getD_some,Bool.true_and,Array.all_eq_true_iff_forall_mem]
    intro e he
    by_cases hb:Region.binds .any e=true
    ·rw [hb]
     have hbit:=Xg (ops:=ops) (j:=j) (o:=ops[j]) (Array.getElem?_eq_getElem hj) (by simpa using he) hb
     have hlt:=fj hreg hj hbit
     have:=ih e.on hlt (by omega)
     rw [Array.getD_eq_getD_getElem?,Array.getElem?_eq_getElem (by omega)]at this ⊢
     simpa using this
    ·simp [hb]
   rw [hr]at this;cases this
theorem vd (hreg:Nz ops=true): ∀(fuel t:Nat) (listed:Array Bool) (D:List Nat),listed.size=ops.size→(∀j,j<ops.size→(listed.getD j true=true↔j∈D))→
  (∀j∈D,∀i,tb (b0 ops j) i=true→i∈D)→(List.range ops.size).countP (fun j=>!listed.getD j true)≤fuel→Ext ops.size (b0 ops) D (Region.linearise.go .any ops fuel t listed []):=by
 intro fuel
 induction fuel with
 |zero=>
  intro t listed D hs hl hc hf
  simp only [Region.linearise.go,List.reverse_nil]
  refine .nil fun j hj=>(hl j hj).1 ?_
  have:(List.range ops.size).countP (fun j=>!listed.getD j true)=0:=by omega
  have:=List.countP_eq_zero.1 this j (List.mem_range.2 hj)
  simpa using this
 |succ fuel ih=>
  intro t listed D hs hl hc hf
  simp only [Region.linearise.go]
  change Ext _ _ _ (match(Region.ready .any ops listed)[t % (Region.ready .any ops listed).length]? with
   |some i=>Region.linearise.go .any ops fuel (t / (Region.ready .any ops listed).length) (listed.setIfInBounds i true) [i]
   |none=> [].reverse)
  cases hi:(Region.ready .any ops listed)[t % (Region.ready .any ops listed).length]? with
  |none=>
   have hnil:Region.ready .any ops listed= []:=by
    cases hr:Region.ready .any ops listed with
    |nil=>rfl
    |cons x xs=>
     rw [hr]at hi
     have hlt:t % (x::xs).length<(x::xs).length:=Nat.mod_lt _ (by simp)
     have:=List.getElem?_eq_none_iff.1 hi
     omega
   simp only [List.reverse_nil]
   exact .nil fun j hj=>(hl j hj).1 (Y9 hreg hs hnil j hj)
  |some i=>
   simp only []
   rw [linearise_go_acc,List.reverse_singleton,List.singleton_append]
   have hmem:=List.mem_of_getElem? hi
   unfold Region.ready at hmem
   rw [List.mem_filter,List.mem_range]at hmem
   obtain⟨hin,hrd⟩:=hmem
   rw [Bool.and_eq_true]at hrd
   obtain⟨hun,hdep⟩:=hrd
   have hun':listed.getD i true=false:=by simpa using hun
   rw [Array.getElem?_eq_getElem hin]at hdep
   simp only [Option.map_some,Option.getD_some,Array.all_eq_true_iff_forall_mem]at hdep
   have hget: ∀k,k≠i→(listed.setIfInBounds i true).getD k true=listed.getD k true:=fun k hk=>by
    simp only [Array.getD_eq_getD_getElem?,Array.getElem?_setIfInBounds];rw [if_neg (Ne.symm hk)]
   have hgi:(listed.setIfInBounds i true).getD i true=true:=by
    simp only [Array.getD_eq_getD_getElem?,Array.getElem?_setIfInBounds];simp [hs,hin]
   have hb: ∀k,tb (b0 ops i) k=true→k∈D:=by
    intro k hk
    obtain⟨e,g1,g2,g3⟩:=o8 (ops:=ops) (Array.getElem?_eq_getElem hin) hk
    have hd:=hdep e (by simpa using g1)
    rw [g2]at hd
    simp only [Bool.not_true,Bool.false_or]at hd
    have hlt:=fj hreg hin (Xg (Array.getElem?_eq_getElem hin) g1 g2)
    have hon:e.on∈D:=(hl e.on (by omega)).1 (by
     rw [Array.getD_eq_getD_getElem?,Array.getElem?_eq_getElem (by omega)]at hd ⊢
     simpa using hd)
    rcases g3 with rfl|g3
    ·exact hon
    ·exact hc _ hon _ g3
   refine .cons hin (fun hd=>by rw [(hl i hin).2 hd]at hun';cases hun') hb (ih _ _ (i::D) (by simpa using hs) ?_ ?_ ?_)
   ·intro k hk
    by_cases e:k=i
    ·subst e;rw [hgi];simp
    ·rw [hget k e,hl k hk];simp [e]
   ·intro k hk m hm
    rcases List.mem_cons.1 hk with e|hk
    ·exact List.mem_cons_of_mem _ (hb m (e ▸ hm))
    ·exact List.mem_cons_of_mem _ (hc k hk m hm)
   ·have:=Mq (p:=fun j=>!listed.getD j true) (q:=fun j=>!(listed.setIfInBounds i true).getD j true) (i:=i) (fun k hk=>by rw [hget k hk]) (by rw [hgi];rfl) (by rw [hun'];rfl) (List.range ops.size) List.nodup_range (List.mem_range.2 hin)
    omega
theorem Za (hreg:Nz ops=true)(t:Nat):Ext ops.size (b0 ops) [] (Region.schedule true ops t):=by
 unfold Region.schedule Region.linearise
 simp only [Bool.true_or,if_true]
 refine vd hreg _ _ _ [] (by simp) (fun j hj=>?_) (fun j hj=>by cases hj) ?_
 ·simp [Array.getD_eq_getD_getElem?,hj]
 ·have:=List.countP_le_length (p:=fun j=>!(Array.replicate ops.size false).getD j true) (l:=List.range ops.size)
  simpa using this
end
theorem Ep {b:Nat→Nat}{i e j k:Nat}(h:tb (Jq b i e j) k=true):tb (b j) k=true∨((j=e∨tb (b j) e=true)∧(k=i∨tb (b i) k=true)):=by
 unfold Jq at h
 cases hc:(Nat.beq j e || tb (b j) e)with
 |false=>rw [hc]at h;exact .inl h
 |true=>
  rw [hc]at h
  have h':tb ((b j ||| 2 ^ i) ||| b i) k=true:=h
  rw [Xe,Xe,fh]at h'
  simp only [Bool.or_eq_true,decide_eq_true_eq]at h' hc
  have hc':j=e∨tb (b j) e=true:=hc.imp (fun h=>Nat.eq_of_beq_eq_true h) id
  rcases h' with(h1|h1)|h1
  ·exact .inl h1
  ·exact .inr ⟨hc',.inl h1.symm⟩
  ·exact .inr ⟨hc',.inr h1⟩
theorem Ext.given {n:Nat}{b:Nat→Nat}{i e:Nat}{D td:List Nat}(h:Ext n b D td)(hi:i∈D)(hb: ∀k,tb (b i) k=true→k∈D):Ext n (Jq b i e) D td:=by
 induction h with
 |nil h=>exact .nil h
 | @cons D td j hj hn hbj hs ih=>
  refine .cons hj hn (fun k hk=>?_) (ih (List.mem_cons_of_mem _ hi) fun k hk=>List.mem_cons_of_mem _ (hb k hk))
  rcases Ep hk with h1|⟨_,h2|h2⟩
  ·exact hbj k h1
  ·exact h2 ▸ hi
  ·exact hb k h2
theorem Ext.either {n:Nat}{b:Nat→Nat}{i e:Nat}{D td:List Nat}(h:Ext n b D td)(hi:i∉D)(he:e∉D)(hin:i<n)(hen:e<n)(hne:i≠e):Ext n (Jq b i e) D td∨Ext n (Jq b e i) D td:=by
 induction h with
 |nil h=>exact absurd (h i hin) hi
 | @cons D td j hj hn hbj hs ih=>
  by_cases ei:j=i
  ·subst ei
   refine .inl (.cons hj hn (fun k hk=>?_) (hs.given (List.mem_cons_self ..) fun k hk=>List.mem_cons_of_mem _ (hbj k hk)))
   rcases Ep hk with h1|⟨h1|h1,_⟩
   ·exact hbj k h1
   ·exact absurd h1 hne
   ·exact absurd (hbj e h1) he
  ·by_cases ee:j=e
   ·subst ee
    refine .inr (.cons hj hn (fun k hk=>?_) (hs.given (List.mem_cons_self ..) fun k hk=>List.mem_cons_of_mem _ (hbj k hk)))
    rcases Ep hk with h1|⟨h1|h1,_⟩
    ·exact hbj k h1
    ·exact absurd h1 ei
    ·exact absurd (hbj i h1) hi
   ·have hi':i∉j::D:=fun h=>by rcases List.mem_cons.1 h with h|h;exact ei h.symm;exact hi h
    have he':e∉j::D:=fun h=>by rcases List.mem_cons.1 h with h|h;exact ee h.symm;exact he h
    rcases ih hi' he' with g|g
    ·refine .inl (.cons hj hn (fun k hk=>?_) g)
     rcases Ep hk with h1|⟨h1|h1,_⟩
     ·exact hbj k h1
     ·exact absurd h1 ee
     ·exact absurd (hbj e h1) he
    ·refine .inr (.cons hj hn (fun k hk=>?_) g)
     rcases Ep hk with h1|⟨h1|h1,_⟩
     ·exact hbj k h1
     ·exact absurd h1 ei
     ·exact absurd (hbj i h1) hi
theorem Hg {E:Env}{nt:Nat}{ops:Array Oper}{td:List Nat}: ∀(f:Nat) (b:Nat→Nat),Ext ops.size b [] td→ ∃v∈En E nt ops f b,Ext ops.size v [] td
 |0,b,h=>⟨b,by simp [En],h⟩
 |f+1,b,h=>by
  simp only [En]
  cases tp (Au E nt ⟨ops,b⟩)with
  |none=>exact⟨b,by simp,h⟩
  |some p=>
   obtain⟨i,e⟩:=p
   simp only
   cases hc:(Nat.ble (Nat.succ i) ops.size && Nat.ble (Nat.succ e) ops.size && !(Nat.beq i e))with
   |false=>exact⟨b,by simp,h⟩
   |true=>
    simp only [Bool.and_eq_true]at hc
    obtain⟨⟨h1,h2⟩,h3⟩:=hc
    have hne:i≠e:=by
     intro e';subst e'
     rw [Nat.beq_refl]at h3;cases h3
    rcases h.either (i:=i) (e:=e) (by simp) (by simp) (Ah h1) (Ah h2) hne with g|g
    ·obtain⟨v,q1,q2⟩:=Hg f _ g
     exact⟨v,List.mem_append_left _ q1,q2⟩
    ·obtain⟨v,q1,q2⟩:=Hg f _ g
     exact⟨v,List.mem_append_right _ q1,q2⟩
end Go.Ev
