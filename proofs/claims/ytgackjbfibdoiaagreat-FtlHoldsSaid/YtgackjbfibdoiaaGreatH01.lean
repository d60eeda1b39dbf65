import Derived.Test.YtgackjbfibdoiaaGreatH00
import Derived.Orders
import Derived.AtR
import Derived.Defers
import Derived.RangeFuncIn
import Derived.Below
import Derived.RangeFuncLeaves
import Derived.Test.YtgackjbfibdoiaaGreatProg
set_option linter.all false
set_option maxRecDepth 1000000
noncomputable section
namespace Go.Ev
abbrev CJ:=List (Nat×Option AV)
abbrev VE:=List (List (Int×Option (List Nat)))
abbrev GV:=List (Int×Option (List Nat))
abbrev SA:=List (Nat×Option DV)
abbrev HJ:=List (List Nat)
abbrev ru:=Option (List Nat)
abbrev DM:=Int->Option Int
abbrev OJ:=List (Int×AV×Nat)
abbrev DO:=List PS
abbrev OF:=AV->H->Prop
abbrev HK:=T (List AV×AV)
abbrev FM:=List EW
variable {P:Program}{a r s since:Nat}{args z:List AV}{c:RY}{e t:TypeId}{f:OY}{h AA:H}{it x:Operand}{l:Loc}{m:Option Nat}{o:Oper}{seen:List Nat}{tm:T AV}{v:AV}{w:World}{w0:Array Obj}{BQ:Operand->Value}{AC:BF}
section
variable {E:Env}
theorem io{since:Nat}{seen:List Nat}:∀{es:List FD} {BL:List MapEntry} {l:List FD},Pp since seen es=some l->GZ AC es BL->GZ AC l (BL.filter λe=>!seen.contains e.born)/\(∀e∈l,e.born<since)
 | [],BL,l,h,EJ=>by cases EJ;simp only[Pp,DB]at h;subst h;exact⟨.nil,by simp⟩
 |a::es,BL,l,h,EJ=>by
  cases EJ with
  | @cons _ BC _ BL ha EJ=>
   simp only[Pp]at h;split at h;.cases h
   .rename_i l1 h1;obtain⟨g1,g2⟩:=io h1 EJ;split at h;.rename_i hm;cases h;have hc:(!seen.contains BC.born)=false:=(by rw[<-ha.born];simp;exact(Ii _ _).1 hm);rw[RT,hc];exact⟨g1,g2⟩
    .rename_i hm;split at h
     .rename_i BX;cases h;have hc:(!seen.contains BC.born)=true:=(by rw[<-ha.born];simp;intro FO;rw[(Ii _ _).2 FO]at hm;cases hm);rw[RT,hc];refine⟨.cons ha g1,λe he=>?_⟩;rcases DD.1 he with rfl|he;.exact Al BX
      .exact g2 e he
     .cases h
theorem GZ.mem{l:List FD}{AT:List MapEntry}(h:GZ AC l AT):∀BG∈AT,∃e∈l,ER AC e BG:=by
 induction h with
 |nil=>simp
 |cons he _ ih=>
  intro x hx;rcases DD.1 hx with rfl|hx;.exact⟨_,DW ..,he⟩
  .obtain⟨e,h1,h2⟩:=ih x hx;exact⟨e,Ck _ h1,h2⟩
theorem akj{ZX:Nat}{es:List FD}{BL:Array MapEntry}(h:Ky ZX seen es=true)(EJ:GZ AC es BL.toList):(!seen.toArray.isEmpty&&!BL.isEmpty&&BL.all (·.born≥ZX))=false:=by
 unfold Ky at h
 cases seen with
 |nil=>simp
 |cons s seen=>
  cases es with
  |nil=>have:=EJ.length;have:BL= #[]:=Array.eq_empty_of_size_eq_zero (by simpa using this.symm);subst this;simp
  |cons e es=>simp only at h;rw[List.any_eq_true]at h;obtain⟨x,h1,h2⟩:=h;have h2:=Al h2;obtain⟨i,hi⟩:=List.getElem?_of_mem h1;obtain⟨Cb,q1,q2⟩:=EJ.get hi;have JF:BL.all (·.born≥ZX)=false:=(by rw[<-Array.all_toList,List.all_eq_false];exact⟨Cb,I4 q1,by rw[<-q2.born];simp;omega⟩);rw[JF];simp
variable (hr:HR E w0 AC h w.heap)(AW:R0 AC tm BQ)
include hr AW
theorem aha(hE:DG P E){a b:TypeId}(hu:DU E t=some (.map a b))(ho:o.op= .range t x)(hx:exec (.qg (BK x)) h tm= .val v AA):GE E w0 AC w h ((execOp BQ o).run P w) v AA:=by
 simp only[exec]at hx
 have new:∀(m GF:Option Nat) (c:Nat),WV AC m GF->(execOp BQ o).run P w= .ok (.value (.pointer (some ⟨w.heap.size,0,none⟩))) (w.alloc (.mapIter GF c #[] c))->
   GE E w0 AC w h ((execOp BQ o).run P w) (.ptr h.n 0) (H.new h (.MX m c [] c)):=by
  intro m GF c hm e
  have hle:BF.le AC (AC.AX h.n ⟨w.heap.size,0,0⟩):=BF.YY _ hr.fresh
  refine⟨_,_,_,⟨hle,λ_ hb=>BF.CB _ _ hb⟩,.inl e,.ptr (BF.NM _ _ _),?_,⟨rfl,rfl,rfl⟩⟩
  exact hr.new rfl (.MX rfl (hm.mono hle)) rfl
 split at hx;.rename_i hb;have ea:=VR.iZ (hb ▸ AW x);cases hx;exact new none none 0 .none (by simp[execOp,ho,Instr.range,Ah hE hu,ea])
 .rename_i m hb;obtain⟨l,BY,ea⟩:=VR.aS (hb ▸ AW x);split at hx;.rename_i es c hg;obtain⟨BL,h1,h2⟩:=HR.ZO hr BY hg;cases hx;exact new (some m) (some l.cb) c (.some BY) (by simp[execOp,ho,Instr.range,Ah hE hu,ea,Cl h1])
  .cases hx
 .cases hx
omit AW in
theorem HR.pT{st:Nat}(BY:AC r=some l)(hb:H.get h r=some (.MX m since seen st)):∃GF:Option Nat,w.heap[l.cb]?=some (.mapIter GF since seen.toArray st)/\WV AC m GF/\l.base=0:=by
 obtain⟨o,h1,h2⟩:=hr.FH _ _ _ BY hb
 cases h2 with
 |MX h0 h=>exact⟨_,h1,h,h0⟩
omit hr AW in
theorem Ka{c:Nat}{b:Array Nat}(hb:w.heap[r]?=some (.mapIter m a b c)):(getObj r).run P w= .ok (.mapIter m a b c) w:=by simp[getObj,Sem.run,hb]
omit hr AW in
theorem aga{c:Nat}{b:Array Nat}(ob':Obj)(hb:w.heap[r]?=some (.mapIter m a b c)):(setObj r ob').run P w= .ok () (G6 w r ob'):=by simp[setObj,Sem.run,hb,G6]
theorem akk(ho:o.op= .entry it)(hx:exec (.entry (BK it)) h tm= .val v AA):GE E w0 AC w h ((execOp BQ o).run P w) v AA:=by
 simp only[exec]at hx;split at hx
 .rename_i r hb;obtain⟨l,BY,ea⟩:=VR.US (hb ▸ AW it);split at hx
  .rename_i m since seen st hg;obtain⟨GF,h1,h2,h3⟩:=HR.pT hr BY hg
   cases h2 with
   | @some _ lm hm=>
   rw[h3,MD]at ea;split at hx
   .rename_i es c s dZ hs;obtain⟨BL,g1,g2⟩:=HR.ZO hr hm dZ;split at hx
    .rename_i e hc hf;cases hx;have hc:c=st:=As hc;subst hc;have tL:∃BG,BL.find? (·.born==s)=some BG/\ER AC e BG:=by
      rw[<-Array.find?_toList];clear dZ g1;generalize BL.toList=AT at g2;induction g2 with
      |nil=>simp[If]at hf
      | @cons a BC _ _ ha _ ih=>
       simp only[If]at hf;split at hf;.rename_i hh;cases hf;have:=As hh;exact⟨BC,by rw[ak,<-ha.born,this];simp,ha⟩
       .rename_i hh;have:=Em hh;obtain⟨BG,p1,p2⟩:=ih hf;exact⟨BG,by rw[ak,<-ha.born,beq_false_of_ne this];exact p1,p2⟩
     obtain⟨BG,p1,p2⟩:=tL;have aip:seen.toArray.back?=some s:=(by rw[List.back?_toArray];exact hs);refine .same (AQ:= .tuple #[BG.key,BG.val]) hr ?_ (.BM (.cons p2.key (.cons p2.val .nil)));simp only[execOp,ho,Instr.entry,ea,EH,Ka h1,EO,aip,Cl g1];simp[p1]
    .cases hx
   .cases hx
  .cases hx
 .cases hx
theorem X1(ho:o.op= .next it false){lm:Loc}{st:Nat}{es:List FD}{BL:Array MapEntry}{c:Nat}{left:List FD}
  (ea:BQ it= .pointer (some ⟨l.cb,0,none⟩))(h1:w.heap[l.cb]?=some (.mapIter (some lm.cb) since seen.toArray st))(g1:w.heap[lm.cb]?=some (.map BL c))(EJ:GZ AC es BL.toList)
  (hc:Ky st seen es=true)(hl:Pp since seen es=some left):
  (left=[]->∃AY,(execOp BQ o).run P w= .ok (.value (.tuple #[.bool false])) AY/\AY.heap=w.heap/\QG w AY)/\
  (left≠[]->∃e BG AY,e∈left/\ER AC e BG/\(AY.heap=w.heap/\QG w AY)/\(execOp BQ o).run P w= .ok (.value (.tuple #[.bool true,BG.key,BG.val])) (G6 AY l.cb (.mapIter (some lm.cb) since (seen.toArray.push BG.born) c))):=by
 obtain⟨q1,q2⟩:=io hl EJ
 have VS:=akj hc EJ
 have PG:∀BG∈BL.toList.filter (λe=>!seen.contains e.born),BG.born<since:=by
  intro BG tB
  obtain⟨e,p1,p2⟩:=q1.mem BG tB
  rw[<-p2.born];exact q2 e p1
 have ab2:(BL.filter λe=>!seen.toArray.contains e.born)=(BL.toList.filter λe=>!seen.contains e.born).toArray:=by
  apply fX;simp
 generalize hlc:(BL.toList.filter λe=>!seen.contains e.born)=lc at q1 PG ab2
 have hold:(lc.toArray.filter λe=>decide (e.born<since))=lc.toArray:=by
  apply fX;simp only[List.filter_toArray]
  exact List.filter_eq_self.2 λe he=>by simpa using PG e he
 have tn:(lc.toArray.filter λe=>decide (e.born≥since))= #[]:=by
  apply fX;simp only[List.filter_toArray]
  exact List.filter_eq_nil_iff.2 λe he=>by have:=PG e he;simp;omega
 have PZ:(execOp BQ o).run P w=(((choose (.mapNext ((if lc.toArray.isEmpty then #[none]else #[])++lc.toArray.map some).size)).run P w).andThen λk w=>
   (
       match(((if lc.toArray.isEmpty then #[none]else #[])++lc.toArray.map some)[k]?:Option (Option MapEntry))with
       |some (some e)=>(do
     setObj l.cb (.mapIter (some lm.cb) since (seen.toArray.push e.born) c)
     pure (.tuple #[.bool true,e.key,e.val]):Sem Value)
       |some none=>pure (.tuple #[.bool false])
       |none=>stuck "Next: no such candidate").run P w).andThen λa AY=>Sem.run P (pure (Next.value a)) AY:=by
  simp only[execOp,ho,Instr.next,ea,EH,Ka h1,EO,Cl g1,VS,RR,KS,ab2,hold,tn,Array.append_empty]
  rfl
 have DE:(lc.toArray.map (some:MapEntry->Option MapEntry)).size=lc.length:=by simp
 refine⟨λdg=>?_,λdg=>?_⟩
 .subst dg
  have aje:lc=[]:=by cases q1;rfl
  subst aje
  rw[PZ]
  refine⟨w,?_,rfl,.refl _⟩
  simp[Question.forced]
 .have BZ:lc≠[]:=by intro e;subst e;cases q1;exact dg rfl
  have tF:lc.toArray.isEmpty=false:=by cases lc with|nil=>exact absurd rfl BZ|cons _ _=>rfl
  have HM:0<lc.length:=Yv.2 BZ
  have hk:∃k AY,(choose (.mapNext lc.length)).run P w= .ok k AY/\(AY.heap=w.heap/\QG w AY)/\k<lc.length:=by
   rw[run_choose]
   split
   .exact⟨0,w,rfl,⟨rfl,.refl _⟩,HM⟩
   .exact⟨_,_,rfl,⟨rfl,⟨rfl,rfl,rfl⟩⟩,UX _ HM⟩
  obtain⟨k,AY,k1,k2,k3⟩:=hk
  obtain⟨e,p1,p2⟩:=q1.mem lc[k] (LC k3)
  refine⟨e,lc[k],AY,p1,p2,k2,?_⟩
  rw[PZ]
  simp only[tF,RR,KS,Array.empty_append,DE,k1,EO]
  have:(lc.toArray.map (some:MapEntry->Option MapEntry))[k]?=some (some lc[k]):=by simp[k3]
  simp only[this,EH,aga _ (show AY.heap[l.cb]?=_ by rw[k2.1];exact h1),EO,IH]
theorem ak4(ho:o.op= .next it false)(hx:exec (.aV (BK it)) h tm= .val v AA):GE E w0 AC w h ((execOp BQ o).run P w) v AA:=by
 simp only[exec]at hx;split at hx
 .rename_i r hb;obtain⟨l,BY,ea⟩:=VR.US (hb ▸ AW it);split at hx
  .rename_i since seen st hg;obtain⟨GF,h1,h2,h3⟩:=HR.pT hr BY hg
   cases h2 with
   |none=>
   rw[h3,MD]at ea;cases hx;exact .same (AQ:= .tuple #[.bool false]) hr (by simp[execOp,ho,Instr.next,ea,Ka h1]) (.BM (.cons (.bool _) .nil))
  .rename_i m since seen st hg;obtain⟨GF,h1,h2,h3⟩:=HR.pT hr BY hg
   cases h2 with
   | @some _ lm hm=>
   rw[h3,MD]at ea;split at hx
   .rename_i es c dZ;obtain⟨BL,g1,g2⟩:=HR.ZO hr hm dZ;split at hx;.rename_i hl hc;cases hx;obtain⟨AY,p1,p2,p3⟩:=(X1 hr AW ho ea h1 g1 g2 hc hl).1 rfl;exact⟨AC,_,AY,.refl _ _,.inl p1,.BM (.cons (.bool _) .nil),by rw[p2];exact hr,p3⟩
    .cases hx
    .cases hx
   .cases hx
  .cases hx
 .cases hx
theorem ak8{ws:List (AV×H)}(ho:o.op= .next it false)(hx:exec (.aV (BK it)) h tm= .next ws):∃x∈ws,GE E w0 AC w h ((execOp BQ o).run P w) x.1 x.2:=by
 simp only[exec]at hx;split at hx
 .rename_i r hb;obtain⟨l,BY,ea⟩:=VR.US (hb ▸ AW it);split at hx;.cases hx
  .rename_i m since seen st hg;obtain⟨GF,h1,h2,h3⟩:=HR.pT hr BY hg
   cases h2 with
   | @some _ lm hm=>
   have gL:=ea;rw[h3,MD]at gL;split at hx
   .rename_i es c dZ;obtain⟨BL,g1,g2⟩:=HR.ZO hr hm dZ;split at hx;.cases hx
    .rename_i e1 l1 hl hc;simp only[Ev.R.next.injEq]at hx;subst hx;obtain⟨e,BG,AY,p1,p2,p3,p4⟩:=(X1 hr AW ho gL h1 g1 g2 hc hl).2 W0;refine⟨_,DK.2 ⟨e,p1,rfl⟩,AC,.tuple #[.bool true,BG.key,BG.val],G6 AY l.cb (.mapIter (some lm.cb) since (seen.toArray.push BG.born) c),.refl _ _,.inl p4,.BM (.cons (.bool _) (.cons p2.key (.cons p2.val .nil))),?_,⟨p3.2.os,p3.2.tape,p3.2.output⟩⟩;show HR E w0 AC _ (AY.heap.setIfInBounds l.cb _);rw[p3.1];refine hr.cJ BY hg rfl ?_ rfl;have:(seen.toArray.push BG.born)=(List.append seen [e.born]).toArray:=(by rw[<-p2.born];apply fX;simp);rw[this];exact .MX h3 (.some hm)
    .cases hx
   .cases hx
  .cases hx
 .cases hx
end
section
variable {E:Env}
variable (hr:HR E w0 AC h w.heap)(AW:R0 AC tm BQ)
include hr AW
omit hr AW in
theorem no{p:Prop}(hx:exec .bad h tm= .val v AA):p:=by simp[exec]at hx
theorem agb(hE:DG P E){c:Call}{b:Builtin}(ho:o.op= .call c)(hc:c.callee= .builtin b)(hx:exec (Mr E b c.args.toList c.argTypes.toList) h tm= .val v AA):GE E w0 AC w h ((execOp BQ o).run P w) v AA:=by
 unfold Mr at hx;split at hx
 .split at hx
  .rename_i s x st xt ha ht;split at hx
   .rename_i e hu;split at hx
    .rename_i n z hs hz;split at hx
     .rename_i t;split at hx;.rename_i k hk;exact agl hr AW hE ho hc ha ht hu hk hs hz hx
      .rename_i BG hk;exact Rj hr AW hE ho hc ha ht hu hk (.inr ⟨_,rfl⟩) hs hz hx
      .rename_i hk;exact Rj hr AW hE ho hc ha ht hu hk (.inl rfl) hs hz hx
      .exact no hx
     .exact no hx
    .exact no hx
   .exact no hx
  .exact no hx
 .split at hx
  .rename_i d s dt r ha ht;split at hx
   .rename_i e hu;split at hx;.rename_i n hs;exact an9 hr AW hE ho hc ha ht hu hs hx
    .exact no hx
   .exact no hx
  .exact no hx
 .split at hx
  .rename_i x t ha ht;split at hx;.rename_i e hu;exact an5 hr AW hE ho hc ha ht hu hx
   .rename_i a b hu;exact ww hr AW hE ho hc ha ht hu hx
   .exact no hx
  .exact no hx
 .split at hx
  .rename_i x t ha ht;split at hx;.rename_i e hu;exact an6 hr AW hE ho hc ha ht hu hx
   .exact no hx
  .exact no hx
 .split at hx;.rename_i a b ha;exact Adg hr AW ho hc ha hx
  .exact no hx
 .split at hx;.rename_i a b ha;exact Adh hr AW ho hc ha hx
  .exact no hx
 .split at hx
  .rename_i m k mt r ha ht;split at hx
   .rename_i kt e hu;split at hx;.rename_i sh hs;exact ag9 hr AW hE ho hc ha ht hu hs hx
    .exact no hx
   .exact no hx
  .exact no hx
 .split at hx;.simp[exec]at hx
  .exact no hx
 .split at hx;.simp only[exec]at hx;split at hx<;>cases hx
  .exact no hx
 .exact no hx
theorem Qo(hE:DG P E)(hx:exec (Ar E o.op) h tm= .val v AA):GE E w0 AC w h ((execOp BQ o).run P w) v AA:=by
 cases ho:o.op with
 |move x=>rw[ho]at hx;exact aew hr AW (by simp only[execOp,ho]) hx
 |assign x=>rw[ho]at hx;exact aew hr AW (by simp only[execOp,ho]) hx
 |pick c a b=>rw[ho]at hx;exact an0 hr AW ho hx
 |alloc e=>
  rw[ho]at hx;simp only[Ar]at hx;split at hx;.rename_i z hz;exact akn hr AW hE hz ho hx
  .exact no hx
 |box e x=>rw[ho]at hx;exact Adc hr AW ho hx
 |build t parts=>
  rw[ho]at hx;simp only[Ar]at hx;split at hx;.rename_i z ps hz hp ha;exact ako hr AW hE hz hp ho hx
  .exact no hx
 |buildSlice t n parts=>
  rw[ho]at hx;simp only[Ar]at hx;split at hx
  .rename_i e hu;split at hx;.rename_i s z hs hz hb;exact agq hr AW hE hu hs hz (Al hb) ho hx
   .exact no hx
  .exact no hx
 |load t a=>
  rw[ho]at hx;simp only[Ar]at hx;split at hx
  .rename_i i hi;split at hx;.rename_i ha;exact akq hr AW hE hi ha ho hx
   .rename_i ha;exact akp hr AW hE ha ho hx
   .exact no hx
  .exact no hx
 |store t a x=>
  rw[ho]at hx;simp only[Ar]at hx;split at hx;.rename_i i hi;exact aku hr AW hE hi ho hx
  .exact no hx
 |nilCheck x=>rw[ho]at hx;exact an1 hr AW ho hx
 |binOp op t x y ae9=>rw[ho]at hx;exact Ade hr AW hE ho hx
 |unOp op t x=>rw[ho]at hx;exact Ai1 hr AW ho hx
 |convert s d x=>
  rw[ho]at hx;simp only[Ar]at hx;split at hx
  .rename_i k hs;split at hx;.rename_i j hd;exact wl hr AW hE hs hd ho hx
   .exact no hx
  .rename_i e hs;split at hx
   .rename_i hd;split at hx;.rename_i he;exact Adf hr AW hE hs hd he ho hx
    .exact no hx
   .exact no hx
  .exact no hx
 |makeInterface t x=>
  rw[ho]at hx;simp only[Ar]at hx;split at hx;.exact no hx
  .rename_i d hd hu;exact an2 hr AW hE hu (λms e=>hd ms (by rw[<-e])) ho hx
  .exact no hx
 |makeFunc fn a c=>
  rw[ho]at hx;simp only[Ar]at hx
  cases fn with
  |func f=>exact an3 hr AW ho hx
  |_=>exact no hx
 |makeMap t r=>
  rw[ho]at hx;simp only[Ar]at hx
  cases r with
  |none=>exact akv hr AW ho hx
  |some _=>exact no hx
 |makeSlice t l c=>
  rw[ho]at hx;simp only[Ar]at hx;split at hx
  .rename_i e hu;split at hx;.rename_i s z hs hz;exact agk hr AW hE hu hs hz ho hx
   .exact no hx
  .exact no hx
 |slice t x lo hi mx=>
  rw[ho]at hx;simp only[Ar]at hx;split at hx
  .rename_i e hu;split at hx;.rename_i s hs;exact ag3 hr AW hE hu hs ho hx
   .exact no hx
  .exact no hx
 |fieldAddr s x f=>
  rw[ho]at hx;simp only[Ar]at hx;split at hx
  .rename_i fs hu;split at hx
   .rename_i fd hf;split at hx;.rename_i n hs;exact akw hr AW hE hu hf hs ho hx
    .exact no hx
   .exact no hx
  .exact no hx
 |field t x f=>
  rw[ho]at hx;simp only[Ar]at hx;split at hx
  .rename_i fs hu;split at hx
   .rename_i fd hf;split at hx;.rename_i i hi ha;exact ac hr AW hE hu hf ha ho hx
    .exact no hx
   .exact no hx
  .exact no hx
 |indexAddr t x ix=>
  rw[ho]at hx;simp only[Ar]at hx;split at hx
  .rename_i n e hu;split at hx;.rename_i s hs;exact agx hr AW hE hu hs ho hx
   .exact no hx
  .rename_i e hu;split at hx;.rename_i s hs;exact agy hr AW hE hu hs ho hx
   .exact no hx
  .exact no hx
 |index t x ix=>
  rw[ho]at hx;simp only[Ar]at hx;split at hx;.rename_i hu;exact ag0 hr AW hE hu ho hx
  .exact no hx
 |lookup t m k ok=>
  rw[ho]at hx;simp only[Ar]at hx;split at hx
  .rename_i kt e hu;split at hx;.rename_i sh z hs hz;exact ag7 hr AW hE hu hs hz ho hx
   .exact no hx
  .exact no hx
 |mapUpdate t m k x=>
  rw[ho]at hx;simp only[Ar]at hx;split at hx
  .rename_i kt e hu;split at hx;.rename_i sh hs;exact aoe hr AW hE hu hs ho hx
   .exact no hx
  .exact no hx
 |mapEntry t m k=>
  rw[ho]at hx;simp only[Ar]at hx;split at hx
  .rename_i kt e hu;split at hx;.rename_i sh z hs hz;exact aof hr AW hE hu hs hz ho hx
   .exact no hx
  .exact no hx
 |entryStore t m s x=>rw[ho]at hx;exact ag8 hr AW ho hx
 |range t x=>
  rw[ho]at hx;simp only[Ar]at hx;split at hx;.rename_i a b hu;exact aha hr AW hE hu ho hx
  .exact no hx
 |next it s=>
  rw[ho]at hx;simp only[Ar]at hx
  cases s with
  |false=>exact ak4 hr AW ho hx
  |true=>exact no hx
 |entry it=>rw[ho]at hx;exact akk hr AW ho hx
 |typeAssert x xt t ok=>
  rw[ho]at hx;simp only[Ar]at hx;split at hx;.exact no hx
  .rename_i d hd hu;split at hx;.rename_i z hz;exact agh hr AW hE hu (λms e=>hd ms (by rw[<-e])) hz ho hx
   .exact no hx
  .exact no hx
 |extract x i=>rw[ho]at hx;exact agf hr AW ho hx
 |call c=>
  rw[ho]at hx;simp only[Ar]at hx;split at hx;.simp only[exec]at hx;split at hx<;>cases hx
  .exact no hx
  .rename_i b hb;exact agb hr AW hE ho hb hx
 |defer c=>
  rw[ho]at hx;simp only[Ar]at hx;split at hx;.simp only[exec]at hx;split at hx<;>cases hx
  .exact no hx
 |panic x=>rw[ho]at hx;simp only[Ar,exec]at hx;split at hx<;>cases hx
 |_=>rw[ho]at hx;exact no hx
omit hr AW
def VF(r:R):Prop:=(∃v AA,r= .val v AA)\/r= .fail
theorem VF.vo(h:H)(o:Option AV):VF (Ev.vo h o):=by cases o with|none=>exact .inr rfl|some v=>exact .inl ⟨_,_,rfl⟩
theorem VF.app(size bytes:Nat)(h:H)(s:AV)(new:List AV)(n:Nat):VF (Dx size bytes h s new n):=by
 unfold Dx;repeat' split
 all_goals first|exact .inr rfl|exact .inl ⟨_,_,rfl⟩
include hr AW
def P1(c:RY):Bool:=
 match c with
 | .aV _=>true
 | .LY _ _=>true
 | .defer _ _=>true
 | .panic _=>true
 | .recover=>true
 |_=>false
omit hr AW in
theorem Adj(c:RY)(hc:P1 c=false):VF (exec c h tm):=by
 cases c<;>simp only[P1,Bool.true_eq_false]at hc<;>simp only[exec]<;>
  repeat' first|exact .inr rfl|exact .inl ⟨_,_,rfl⟩|exact VF.vo _ _|exact VF.app _ _ _ _ _ _|split
omit hr AW in
theorem My(hx:¬VF (exec c h tm)):P1 c=true:=by
 cases hc:P1 c with
 |true=>rfl
 |false=>exact absurd (Adj c hc) hx
end
theorem xo{p:Prop}(h:p:=by
 simp only[e1,Deferred.ofValue,EH,IH,EO,invoke]
 exact Mz q1 q2 q3 _):p:=h
structure PA (P:Program)(E:Env)(F:T DY):Prop where
 fn:∀f g,T.get F f=some g->∃fn c,P.funcs[f]?=some fn/\(fn.name== "runtime.NumGoroutine")=false/\fn.body=some c/\g=Xn E fn c
section
variable {E:Env}
inductive afo (E:Env)(op:Op):Prop where
 |next (it:Operand) (h:op= .next it false) (hc:Ar E op= .aV (BK it))
 |call (c:Call) (f:Operand) (h:op= .call c) (hf:c.callee= .value f) (hc:Ar E op= .LY (BK f) (c.args.toList.map BK))
 |defer (c:Call) (f:Operand) (h:op= .defer c) (hf:c.callee= .value f) (hc:Ar E op= .defer (BK f) (c.args.toList.map BK))
 |panic (x:Operand) (h:op= .panic x) (hc:Ar E op= .panic (BK x))
 |ie (c:Call) (x:Operand) (h:op= .call c) (hf:c.callee= .builtin .panic) (ha:c.args.toList=[x]) (hc:Ar E op= .panic (BK x))
 |recover (c:Call) (h:op= .call c) (hf:c.callee= .builtin .recover) (hc:Ar E op= .recover)
theorem G7{op:Op}(h:P1 (Ar E op)=true):afo E op:=by
 cases gz:op with
 |next it s=>
  subst gz
  cases s with
  |false=>exact .next it rfl rfl
  |true=>simp[Ar,P1]at h
 |panic x=>exact .panic x rfl rfl
 |defer c=>
  subst gz
  cases hf:c.callee with
  |value f=>exact .defer c f rfl hf (by simp[Ar,hf])
  |_=>simp[Ar,hf,P1]at h
 |call c=>
  subst gz
  cases hf:c.callee with
  |value f=>exact .call c f rfl hf (by simp[Ar,hf])
  |invoke _ _=>simp[Ar,hf,P1]at h
  |builtin b=>
   simp only[Ar,hf]at h
   cases b with
   |recover=>
    simp only[Mr]at h;split at h;.rename_i ha;exact .recover c rfl hf (by simp[Ar,hf,Mr,ha])
    .cases h
   |panic=>
    simp only[Mr]at h;split at h;.rename_i x ha;exact .ie c x rfl hf ha (by simp[Ar,hf,Mr,ha])
    .cases h
   |_=>
             exfalso;revert h;simp only[Mr];repeat' split
             all_goals(intro h;cases h)
 |_=>subst gz;exfalso;revert h;simp only[Ar];(repeat' split)<;>(intro h;cases h)
variable (hr:HR E w0 AC h w.heap)(AW:R0 AC tm BQ)
include hr AW
theorem aog{ws:List (AV×H)}(hx:exec (Ar E o.op) h tm= .next ws):∃x∈ws,GE E w0 AC w h ((execOp BQ o).run P w) x.1 x.2:=by
 cases G7 (My (h:=h) (tm:=tm) m8)with
 |next it ho hc=>rw[hc]at hx;exact ak8 hr AW ho hx
 |call c f ho hf hc=>rw[hc]at hx;simp only[exec]at hx;split at hx<;>cases hx
 |defer c f ho hf hc=>rw[hc]at hx;simp only[exec]at hx;split at hx<;>cases hx
 |panic x ho hc=>rw[hc]at hx;simp only[exec]at hx;split at hx<;>cases hx
 |ie c x ho hf ha hc=>rw[hc]at hx;simp only[exec]at hx;split at hx<;>cases hx
 |recover c ho hf hc=>rw[hc]at hx;simp only[exec]at hx;cases hx
def Vy(P:Program)(E:Env)(AC:BF)(f:OY)(args:List AV)(s:Result Next)(w:World):Prop:=
 match f with
 | .func g=>∃GP:Array Value,CQ AC args GP.toList/\(∀fn,P.funcs[g]?=some fn->(fn.name== "runtime.NumGoroutine")=false->fn.body.isSome=true->s= .ok (.enter g GP) w)
 | .yield r=>∃(l:Loc) (GP:Array Value),AC r=some l/\CQ AC args GP.toList/\s=(Instr.yield l.cb GP).run P w
omit hr AW in
theorem Mz{g:FuncId}{fn:Func}(h1:P.funcs[g]?=some fn)(h2:(fn.name== "runtime.NumGoroutine")=false)(h3:fn.body.isSome=true)(args:Array Value):(callFunc g args).run P w= .ok (.enter g args) w:=by
 have h4:fn.body.isNone=false:=by cases hb:fn.body with|none=>rw[hb]at h3;cases h3|some _=>rfl
 simp only[callFunc,EH,run_program,EO,h1,h2,h4,RR,KS,IH]
omit hr AW in
theorem Rq(JQ:Array Operand):(JQ.map BQ).toList=JQ.toList.map BQ:=by simp
omit hr in
theorem ahc{first cap:List AV}(hv:VR AC (.fn f first cap) (BQ x))(JQ:Array Operand):
  Vy P E AC f (List.append first (List.append (Z3 tm (JQ.toList.map BK)) cap)) ((do let d<-Deferred.ofValue (BQ x) (JQ.map BQ);invoke d.target d.args:Sem Next).run P w) w:=by
 have has:=AW.list JQ.toList
 cases f with
 |func g=>
  obtain⟨BC,BP,e1,h1,h2⟩:=hv.gM
  refine⟨BC++JQ.map BQ++BP,?_,λfn q1 q2 q3=>?_⟩
  .simp only[jM,Rq,NP]
   exact h1.append (has.append h2)
  .exact xo
 |yield r=>
  generalize BQ x=xv at hv
  cases hv with
  | @gN _ l BY=>
   refine⟨l,#[]++JQ.map BQ,BY,?_,?_⟩
   .simp only[jM,Rq]
    show CQ AC ([]++(Z3 tm (JQ.toList.map BK)++[])) _
    simpa using has
   .simp only[Deferred.ofValue,EH,IH,EO,invoke]
theorem Rr(hx:exec (Ar E o.op) h tm= .call f args):Vy P E AC f args ((execOp BQ o).run P w) w:=by
 cases G7 (My (h:=h) (tm:=tm) m8)with
 |next it ho hc=>
  rw[hc]at hx;simp only[exec]at hx;repeat' split at hx
  all_goals cases hx
 |call c f ho hf hc=>
  rw[hc]at hx;simp only[exec]at hx;split at hx
  .rename_i g first cap hb
   simp only[Ev.R.call.injEq]at hx;obtain⟨rfl,rfl⟩:=hx;have:=ahc (P:=P) (E:=E) (w:=w) AW (x:=f) (hb ▸ AW f) c.args;simpa only[execOp,ho,resolve,hf]using this
  .cases hx
 |defer c f ho hf hc=>rw[hc]at hx;simp only[exec]at hx;split at hx<;>cases hx
 |panic x ho hc=>rw[hc]at hx;simp only[exec]at hx;split at hx<;>cases hx
 |ie c x ho hf ha hc=>rw[hc]at hx;simp only[exec]at hx;split at hx<;>cases hx
 |recover c ho hf hc=>rw[hc]at hx;simp only[exec]at hx;cases hx
theorem Adk{f:Nat}(hx:exec (Ar E o.op) h tm= .EQ f args):∃d c,o.op= .defer c/\(execOp BQ o).run P w= .ok (.defer d) w/\DR AC (.call f args) d:=by
 cases G7 (My (h:=h) (tm:=tm) m8)with
 |next it ho hc=>
  rw[hc]at hx;simp only[exec]at hx;repeat' split at hx
  all_goals cases hx
 |defer c f ho hf hc=>
  rw[hc]at hx;simp only[exec]at hx;split at hx
  .rename_i g first cap hb
   simp only[Ev.R.EQ.injEq]at hx;obtain⟨rfl,rfl⟩:=hx;obtain⟨BC,BP,e1,h1,h2⟩:=VR.gM (hb ▸ AW f);refine⟨{target:= .fn (.func g) BP,args:=BC++c.args.map BQ},c,ho,?_,?_⟩;.simp[execOp,ho,resolve,hf,e1,Deferred.ofValue]
   .refine .call ?_;simp only[jM,Rq,NP];exact h1.append ((AW.list c.args.toList).append h2)
  .cases hx
 |call c f ho hf hc=>rw[hc]at hx;simp only[exec]at hx;split at hx<;>cases hx
 |panic x ho hc=>rw[hc]at hx;simp only[exec]at hx;split at hx<;>cases hx
 |ie c x ho hf ha hc=>rw[hc]at hx;simp only[exec]at hx;split at hx<;>cases hx
 |recover c ho hf hc=>rw[hc]at hx;simp only[exec]at hx;cases hx
omit hr in
theorem Uf{t:Nat}{u:AV}(hb:ev tm (BK x)= .Cm t u):∃AQ,(Instr.panic (BQ x)).run P w= .halt (.panic AQ) w/\VR AC (.Cm t u) AQ:=by have hv:=hb ▸ AW x;obtain⟨y,e1,_⟩:=hv.lr;rw[e1]at hv;exact⟨_,by rw[e1];simp[Instr.panic],hv⟩
theorem Adl(hx:exec (Ar E o.op) h tm= .G0 v):∃AQ,(execOp BQ o).run P w= .halt (.panic AQ) w/\VR AC v AQ:=by
 cases G7 (My (h:=h) (tm:=tm) m8)with
 |next it ho hc=>
  rw[hc]at hx;simp only[exec]at hx;repeat' split at hx
  all_goals cases hx
 |call c f ho hf hc=>rw[hc]at hx;simp only[exec]at hx;split at hx<;>cases hx
 |defer c f ho hf hc=>rw[hc]at hx;simp only[exec]at hx;split at hx<;>cases hx
 |panic x ho hc=>
  rw[hc]at hx;simp only[exec]at hx;split at hx;.rename_i t u hb;simp only[Ev.R.G0.injEq]at hx;subst hx;obtain⟨AQ,h1,h2⟩:=Uf (P:=P) (w:=w) AW hb;exact⟨AQ,by simp only[execOp,ho,EH,h1];rfl,h2⟩
  .cases hx
 |ie c x ho hf ha hc=>
  rw[hc]at hx;simp only[exec]at hx;split at hx;.rename_i t u hb;simp only[Ev.R.G0.injEq]at hx;subst hx;obtain⟨AQ,h1,h2⟩:=Uf (P:=P) (w:=w) AW hb;refine⟨AQ,?_,h2⟩;rw[Bq ho hf,Xx ha];have:(#[BQ x]:Array Value).getD 0 .nilIface=BQ x:=rfl;simp only[builtin,this,EH,h1];rfl
  .cases hx
 |recover c ho hf hc=>rw[hc]at hx;simp only[exec]at hx;cases hx
theorem Adm(hx:exec (Ar E o.op) h tm= .recover):(execOp BQ o).run P w= .ok .recover w/\∃c,o.op= .call c:=by
 cases G7 (My (h:=h) (tm:=tm) m8)with
 |next it ho hc=>
  rw[hc]at hx;simp only[exec]at hx;repeat' split at hx
  all_goals cases hx
 |call c f ho hf hc=>rw[hc]at hx;simp only[exec]at hx;split at hx<;>cases hx
 |defer c f ho hf hc=>rw[hc]at hx;simp only[exec]at hx;split at hx<;>cases hx
 |panic x ho hc=>rw[hc]at hx;simp only[exec]at hx;split at hx<;>cases hx
 |ie c x ho hf ha hc=>rw[hc]at hx;simp only[exec]at hx;split at hx<;>cases hx
 |recover c ho hf hc=>exact⟨by rw[Bq ho hf];rfl,c,ho⟩
end
def bE(E:Env)(AC:BF)(w:World)(r:Result Next)(v:AV)(h h1:H):Prop:=
 ∃AQ ob l FH,r= .ok (.value AQ) (w.alloc ob)/\h1=H.new h FH/\l.cb=w.heap.size/\XP FH=false/\∀BU,BF.le AC BU->BU h.n=some l->VR BU v AQ/\BR E BU l FH ob
section
variable {E:Env}
theorem bE.cells{r:Result Next}{AQ:Value}{xs:List AV}{cs:Array Value}(hv:∀BU,BF.le AC BU->BU h.n=some ⟨w.heap.size,0,cs.size⟩->VR BU v AQ)(hx:CQ AC xs cs.toList)(hr:r= .ok (.value AQ) (w.alloc (.cells cs e))):bE E AC w r v h (NZ h xs):=⟨AQ,_,⟨w.heap.size,0,cs.size⟩,_,hr,rfl,rfl,rfl,λBU hl hb=>⟨hv BU hl hb,BR.abd rfl rfl (hx.mono hl)⟩⟩
variable (AW:R0 AC tm BQ)
include AW
theorem Ai2{n:Nat}(ho:o.op= .box e x)(hx:exec (.box n (BK x)) h tm= .val v AA):bE E AC w ((execOp BQ o).run P w) v h AA:=by
 simp only[exec]at hx;split at hx
 .rename_i l hl;split at hx;.cases hx;refine .cells (AQ:= .pointer (some ⟨w.heap.size,0,none⟩)) (cs:=(BQ x).cells) (e:=e) (λBU _ hb=>by simpa using VR.ptr (o:=0) hb) (I3 (AW x) hl) ?_;simp[execOp,ho,Instr.box,I5]
  .cases hx
 .cases hx
theorem aoh(hE:DG P E)(hz:Ft E e=some z)(ho:o.op= .alloc e)(hx:exec (.alloc z) h tm= .val v AA):bE E AC w ((execOp BQ o).run P w) v h AA:=by simp only[exec,R.val.injEq]at hx;obtain⟨rfl,rfl⟩:=hx;obtain⟨u,i,h1,h2,h3,h4,h5⟩:=Dy hE hz w;refine .cells (AQ:= .pointer (some ⟨w.heap.size,0,none⟩)) (cs:=u.cells) (e:=e) (λBU _ hb=>by simpa using VR.ptr (o:=0) hb) (h5 AC) ?_;simp[execOp,ho,Instr.alloc,h2,I5]
theorem Ai3(ho:o.op= .makeMap t none)(hx:exec .iX h tm= .val v AA):bE E AC w ((execOp BQ o).run P w) v h AA:=by simp only[exec,R.val.injEq]at hx;obtain⟨rfl,rfl⟩:=hx;refine⟨.map (some w.heap.size),.map #[] 0,⟨w.heap.size,0,0⟩,_,?_,rfl,rfl,rfl,λBU _ hb=>⟨.map (l:=⟨w.heap.size,0,0⟩) hb,.map (by simpa using GZ.nil)⟩⟩;simp[execOp,ho,Instr.makeMap]
theorem pi(hE:DG P E){n:Nat}{parts:Array (Nat×Operand)}(hu:DU E t=some (.slice e))(hs:Cw E e=some s)(hz:Ft E e=some z)(hb:n*SP E e<=16777216)(ho:o.op= .buildSlice t n parts)(hx:exec (.bJ n (rl z n) (parts.toList.map λp=>(p.1*s,s,BK p.2))) h tm= .val v AA):bE E AC w ((execOp BQ o).run P w) v h AA:=by
 simp only[exec]at hx;split at hx
 .rename_i l hl;cases hx;obtain⟨u,i,h1,h2,h3,h4,h5⟩:=Dy hE hz w;obtain⟨h6,h7⟩:=Cr hE hs w;have hi:i.size=s:=by
   unfold Cw at hs;rw[h1]at hs;simp only at hs;split at hs;.simp at hs
   .simpa using hs
  have DE:SP E e=s:=by unfold SP;rw[h1];exact hi
  obtain⟨IC,h8,h9⟩:=J5 (AW:=AW) (λ(i:Nat)=>some (i*s,s)) parts.toList _ _ ((Array.range (n*s)).map λi=>u.cells[i%u.cells.size]!) l W0 (v8 (h5 AC) n (n*s) (by rw[h3,hi])) hl;have du:(parts.map λ(x:Nat×Operand)=>(x.1,BQ x.2)).toList=parts.toList.map λp=>(p.1,BQ p.2):=by simp
  have lN:¬(n*s>2^24):=by rw[DE]at hb;omega
  refine .cells (AQ:= .slice (some ⟨w.heap.size,0,none⟩) n n) (cs:=IC) (e:=e) (λBU _ hb=>?_) h9 ?_;.have JT:n<Aa:=k1g;have:=VR.WE (b:=h.n) (o:=0) (n:=n) (c:=n) (off:=0) hb JT (BD _) (λ_=>rfl);simpa using this
  .exact xZ
 .cases hx
theorem aoi(hE:DG P E){lo c:Operand}(hu:DU E t=some (.slice e))(hs:Cw E e=some s)(hz:Ft E e=some z)(ho:o.op= .makeSlice t lo c)(hx:exec (.eP (Dq E e) z (BK lo) (BK c)) h tm= .val v AA):bE E AC w ((execOp BQ o).run P w) v h AA:=by
 simp only[exec]at hx;split at hx
 .rename_i k1 ln hl;have el:=VR.MK (hl ▸ AW lo);split at hx
  .rename_i k2 cn hc;have ec:=VR.MK (hc ▸ AW c);split at hx
   .rename_i h1 h2 h3;have h1:ln<=cn:=Al h1;have h2:cn*Dq E e<=281474976710656:=Al h2;have h3:cn<=281474976710656:=Al h3;cases hx;obtain⟨u,i,z1,z2,z3,z4,z5⟩:=Dy hE hz w;obtain⟨s1,s2⟩:=Cr hE hs w;have hi:i.size=s:=by
     unfold Cw at hs;rw[z1]at hs;simp only at hs;split at hs;.simp at hs
     .simpa using hs
    have sw:Dq E e=i.bytes:=(by unfold Dq;rw[z1]);rw[sw]at h2;have YU:∀n:Nat,n<=281474976710656->IntKind.i64.wrap (n:Int)=n:=(by intro n hn;exact qu);refine .cells (AQ:= .slice (some ⟨w.heap.size,0,none⟩) ln cn) (cs:=(Array.range (cn*s)).map λi=>u.cells[i%u.cells.size]!) (e:=e) (λBU _ hb=>?_) (v8 (z5 AC) cn (cn*s) (by rw[z3,hi])) ?_;.have JT:cn<Aa:=(by unfold Aa;omega);have:=VR.WE (b:=h.n) (o:=0) (n:=ln) (c:=cn) (off:=0) hb JT h1 (λ_=>rfl);simpa using this
    .exact zq3
   .cases hx
  .cases hx
 .cases hx
theorem Ai4(hE:DG P E)(hc:cls (Ar E o.op)=2)(hx:exec (Ar E o.op) h tm= .val v AA):bE E AC w ((execOp BQ o).run P w) v h AA:=by
 cases ho:o.op with
 |alloc e=>
  rw[ho]at hx;simp only[Ar]at hx;split at hx;.rename_i z hz;exact aoh AW hE hz ho hx
  .exact no hx
 |box e x=>rw[ho]at hx;exact Ai2 AW ho hx
 |buildSlice t n parts=>
  rw[ho]at hx;simp only[Ar]at hx;split at hx
  .rename_i e hu;split at hx;.rename_i s z hs hz hb;exact pi AW hE hu hs hz (Al hb) ho hx
   .exact no hx
  .exact no hx
 |makeMap t r=>
  rw[ho]at hx;simp only[Ar]at hx
  cases r with
  |none=>exact Ai3 AW ho hx
  |some _=>exact no hx
 |makeSlice t l c=>
  rw[ho]at hx;simp only[Ar]at hx;split at hx
  .rename_i e hu;split at hx;.rename_i s z hs hz;exact aoi AW hE hu hs hz ho hx
   .exact no hx
  .exact no hx
 |call c=>
  exfalso;rw[ho]at hc;revert hc;simp only[Ar];split;.simp[cls]
  .simp[cls]
  .rename_i b hb
   cases b<;>simp only[Mr]<;>(repeat' split)<;>simp[cls]
 |_=>exfalso;rw[ho]at hc;revert hc;simp only[Ar];(repeat' split)<;>simp[cls]
omit AW in
theorem ae1{x:Option AV}(hx:vo h x= .val v AA):x=some v/\AA=h:=by
 cases x with
 |none=>cases hx
 |some u=>cases hx;exact⟨rfl,rfl⟩
omit AW in
theorem L4(hc:cls c=0\/cls c=1)(hx:exec c h tm= .val v AA):AA=h:=by
 cases c with
 |_=>
  first
   |(exfalso;rcases hc with hc|hc<;>cases hc;done)
   |(revert hx;simp only[exec];(repeat' split)<;>intro hx<;>first|(cases hx;done)|exact(ae1 hx).2|(cases hx;rfl))
omit AW in
theorem ak9(hc:cls c=0)(hx:exec c h tm= .val v AA)(h2:H):exec c h2 tm= .val v h2:=by
 cases c with
 |_=>
  first
   |(exfalso;cases hc;done)
   |(revert hx;simp only[exec];(repeat' split)<;>intro hx<;>first|(cases hx;done)|(rw[(ae1 hx).1];rfl)|(cases hx;rfl))
omit AW in
theorem Adn(hc:cls c=2)(hx:exec c h tm= .val v AA):∃FH,AA=H.new h FH:=by
 cases c with
 |_=>
  first
   |(exfalso;cases hc;done)
   |(revert hx;simp only[exec,NZ];(repeat' split)<;>intro hx<;>first|(cases hx;done)|(cases hx;exact⟨_,rfl⟩))
end
variable {D td:List Nat}{b:Nat->Nat}{e r:Row}{i j k m:Nat}{ops:Array Oper}{tmps:Array Value}
theorem ip(m n:Nat):tb m n=m.testBit n:=by
 have h:Nat.land (Nat.shiftRight m n) 1=(m>>>n)%2:=Nat.and_one_is_mod _;unfold tb;rw[h,Nat.testBit_eq_decide_div_mod_eq,fZ]
 cases hb:Nat.beq (m/2^n%2) 1 with
 |true=>exact(CM (jL hb)).symm
 |false=>exact(CW (Nat.ne_of_beq_eq_false hb)).symm
theorem acj(n:Nat):tb 0 n=false:=by rw[ip];simp
theorem ir(a b n:Nat):tb (a |||b) n=(tb a n ||tb b n):=by simp[ip,Nat.testBit_or]
theorem ae2(a n:Nat):tb (2^a) n=decide (a=n):=by rw[ip,Nat.testBit_two_pow]
theorem Amq(h:m<2^j)(hb:tb m i=true):i<j:=by
 rw[ip]at hb
 cases PP i j with
 |inl h=>exact h
 |inr dY=>have:m<2^i:=IF h (Nat.pow_le_pow_right om dY);rw[Nat.testBit_lt_two_pow this]at hb;cases hb
section
variable (E:Env)(nt:Nat)(R:SZ)
def HI(j:Nat):Row:=wW E nt R.ops R.bits j
def bb(j:Nat):Nat:=R.bits j
def BL:List Row:=C5 (A4 E nt R)
def ne':List Row:=D6 (A4 E nt R)
def IN(j:Nat):Nat:=QJ (BL E nt R) (HI E nt R j)
def IU(j:Nat):CI:=Cd E nt R.ops j
def OT(j:Nat):List Nat:=Qk R.ops j
def FN(j:Nat):Nat:=cls (Cd E nt R.ops j).op
end
section
variable {E:Env}{nt:Nat}{R:SZ}
theorem qP:r∈A4 E nt R↔∃j,j<R.ops.size/\r=HI E nt R j:=by
 unfold A4 HI;simp only[DK,KI];constructor;.rintro⟨j,h,e⟩;exact⟨j,h,e.symm⟩
 .rintro⟨j,h,e⟩;exact⟨j,h,e.symm⟩
theorem Ol(j:Nat):T4 (HI E nt R j)=true↔FN E nt R j=3:=by
 unfold T4 Od;constructor;.intro h;exact As h
 .intro h;have:cls (HI E nt R j).d.ci.op=3:=h;rw[this];rfl
theorem adu:r∈BL E nt R↔∃j,j<R.ops.size/\r=HI E nt R j/\FN E nt R j=3:=by
 unfold BL C5;rw[JZ,qP];constructor;.rintro⟨⟨j,h,rfl⟩,h2⟩;exact⟨j,h,rfl,(Ol j).1 h2⟩
 .rintro⟨j,h,rfl,h2⟩;exact⟨⟨j,h,rfl⟩,(Ol j).2 h2⟩
theorem iW:r∈ne' E nt R↔∃j,j<R.ops.size/\r=HI E nt R j/\FN E nt R j≠3:=by
 unfold ne' D6;rw[JZ,qP];have key:∀j,(!T4 (HI E nt R j))=true↔FN E nt R j≠3:=λj=>by
  have:=Ol (E:=E) (nt:=nt) (R:=R) j
  cases hb:T4 (HI E nt R j)with
  |true=>simp[this.1 hb]
  |false=>simp;intro hc;rw[this.2 hc]at hb;cases hb
 constructor;.rintro⟨⟨j,h,rfl⟩,h2⟩;exact⟨j,h,rfl,(key j).1 h2⟩
 .rintro⟨j,h,rfl,h2⟩;exact⟨⟨j,h,rfl⟩,(key j).2 h2⟩
theorem Ai5(c:RY):cls c<=3:=by unfold cls;split<;>omega
theorem K6(h:F9 (A4 E nt R)=true):(∀r∈A4 E nt R,tb r.bits r.j=false)/\(∀i∈ne' E nt R,Z6 (A4 E nt R) (BL E nt R) i=true)/\Mv (BL E nt R)=true/\(∀i∈ne' E nt R,vp (ne' E nt R) (BL E nt R) i=true):=by unfold F9 at h;simp only[KQ,RS]at h;exact⟨λr hr=>by have:=h.1.1.1 r hr;simpa using this,h.1.2,h.2,h.1.1.2⟩
theorem Ado(h:F9 (A4 E nt R)=true)(hj:j<R.ops.size):tb (bb R j) j=false:=(K6 h).1 _ (qP.2 ⟨j,hj,rfl⟩)
theorem Ai6(h:F9 (A4 E nt R)=true)(hi:i<R.ops.size)(PD:FN E nt R i≠3)(hj:j<R.ops.size)(TB:FN E nt R j≠3)(ZB:IN E nt R j=IN E nt R i)(hb:tb (bb R j) i=true):i<j:=by
 have:=(K6 h).2.2.2 _ (iW.2 ⟨j,hj,rfl,TB⟩);unfold vp at this;rw[RS]at this;have h1:=this _ (iW.2 ⟨i,hi,rfl,PD⟩);have e:tb (HI E nt R j).bits (HI E nt R i).j=true:=hb;have e2:Nat.beq (QJ (BL E nt R) (HI E nt R j)) (QJ (BL E nt R) (HI E nt R i))=true:=by have:QJ (BL E nt R) (HI E nt R j)=QJ (BL E nt R) (HI E nt R i):=ZB;rw[this];exact OE _
 rw[e,e2]at h1;have h2:Nat.ble (Nat.succ i) j=true:=by
  cases hq:Nat.ble (Nat.succ i) j with
  |true=>rfl
  |false=>have:(!true ||!true ||Nat.ble (Nat.succ i) j)=true:=h1;rw[hq]at this;cases this
 exact Al h2
theorem Rs(h:F9 (A4 E nt R)=true)(hi:i<R.ops.size)(hc:FN E nt R i≠3):(∀r∈A4 E nt R,Vu (BL E nt R) (HI E nt R i) r=true)/\(∀e∈(BL E nt R).take (IN E nt R i),tb (bb R i) e.j=true)/\(FN E nt R i=2->∀e∈(BL E nt R).drop (IN E nt R i),tb e.bits i=true):=by
 have:=(K6 h).2.1 _ (iW.2 ⟨i,hi,rfl,hc⟩);unfold Z6 at this;simp only[KQ,RS,cT]at this;refine⟨this.1.1,this.1.2,λh2=>?_⟩;rcases this.2 with h3|h3;.have:Od (HI E nt R i)=2:=h2;rw[this]at h3;cases h3
 .exact h3
theorem Il(h:F9 (A4 E nt R)=true){d:Nat}(hi:i<R.ops.size)(hj:j<R.ops.size)(hc:FN E nt R i≠3)(hd:(IU E nt R i).dst=some d):(j=i->d∉OT R i)/\(j≠i->(IU E nt R j).dst≠some d/\(d∈OT R j->tb (bb R j) i=true\/(IN E nt R j<IN E nt R i/\∃m e,m<IN E nt R i/\(BL E nt R)[m]?=some e/\tb e.bits j=true))):=by
 have:=(Rs h hi hc).1 _ (qP.2 ⟨j,hj,rfl⟩);unfold Vu at this;have MT:(HI E nt R i).d.ci.dst=some d:=hd;rw[MT]at this;simp only at this;have TK:∀{l:List Nat},(!Ob d l)=true->d∉l:=by intro l hl hm;rw[(Ii d l).2 hm]at hl;cases hl
 constructor;.intro e;subst e;have hb:Nat.beq (HI E nt R j).j (HI E nt R j).j=true:=OE _;rw[hb]at this;exact TK this
 .intro e;have hb:Nat.beq (HI E nt R j).j (HI E nt R i).j=false:=by
   cases hb:Nat.beq (HI E nt R j).j (HI E nt R i).j with
   |false=>rfl
   |true=>exact absurd (As hb) e
  rw[hb]at this;simp only[KQ,cT]at this;refine⟨λe2=>?_,λhm=>?_⟩;.have h1:=this.1;have oK:(HI E nt R j).d.ci.dst=some d:=e2;rw[oK]at h1;simp[wX]at h1
  .rcases this.2 with(h1|h1)|h1;.exact absurd hm (TK h1)
   .exact .inl h1
   .obtain⟨h2,h3⟩:=h1;obtain⟨e,he,h4⟩:=List.any_eq_true.1 h3;obtain⟨m,XD,bV⟩:=List.mem_take_iff_getElem.1 he;exact .inr ⟨Al h2,m,e,IF XD (Nat.min_le_left _ _),by rw[<-bV];exact DA _,h4⟩
theorem Rt(h:F9 (A4 E nt R)=true)(hi:i<R.ops.size)(hc:FN E nt R i≠3)(hm:m<IN E nt R i)(he:(BL E nt R)[m]?=some e):tb (bb R i) e.j=true:=(Rs h hi hc).2.1 e (UZ.2 ⟨m,by rw[N0 hm];exact he⟩)
theorem H5(he:(BL E nt R)[m]?=some e):e.j<R.ops.size/\e=HI E nt R e.j/\FN E nt R e.j=3/\e.bits=bb R e.j:=by obtain⟨j,h1,rfl,h3⟩:=adu.1 (I4 he);exact⟨h1,rfl,h3,rfl⟩
theorem Ug(h:F9 (A4 E nt R)=true)(hi:i<R.ops.size)(hc:FN E nt R i=2)(hm:IN E nt R i<=m)(he:(BL E nt R)[m]?=some e):tb (bb R e.j) i=true:=by have:=(Rs h hi om).2.2 hc e (UZ.2 ⟨m- IN E nt R i,by rw[MN,Nat.add_sub_cancel' hm];exact he⟩);rw[(H5 he).2.2.2]at this;exact this
theorem Uh:∀{l:List Row},Mv l=true->∀{m n:Nat} {e f:Row},m<n->l[m]?=some e->l[n]?=some f->tb f.bits e.j=true
 | [],_,m,n,e,f,_,he,_=>by simp at he
 |x::l,h,m,n,e,f,hm,he,hf=>by
  simp only[Mv,KQ,RS]at h
  cases n with
  |zero=>omega
  |succ n=>
   simp only[fJ]at hf
   cases m with
   |zero=>simp only[List.getElem?_cons_zero,DB]at he;subst he;exact h.1 f (I4 hf)
   |succ m=>simp only[fJ]at he;exact Uh h.2 om he hf
theorem Ui(h:F9 (A4 E nt R)=true){n:Nat}{f:Row}(hm:m<n)(he:(BL E nt R)[m]?=some e)(hf:(BL E nt R)[n]?=some f):tb (bb R f.j) e.j=true:=by have:=Uh (K6 h).2.2.1 hm he hf;rw[(H5 hf).2.2.2]at this;exact this
theorem Amr(i:Nat):IN E nt R i<=(BL E nt R).length:=V0 _ _
end
theorem xr{p:Prop}(h:p:=by
 rcases Hr hk with h1|⟨h1|h1,_⟩
 .exact ZA k h1
 .exact absurd h1 ei
 .exact absurd (ZA i h1) hi):p:=h
inductive Ext (n:Nat)(b:Nat->Nat):List Nat->List Nat->Prop where
 |nil {D:List Nat} (h:∀j,j<n->j∈D):Ext n b D []
 |cons {D td:List Nat} {j:Nat} (hj:j<n) (hn:j∉D) (hb:∀i,tb (b j) i=true->i∈D) (hs:Ext n b (j::D) td):Ext n b D (j::td)
theorem Ext.all{n:Nat}(h:Ext n b D td):∀j,j<n->j∈D\/j∈td:=by
 induction h with
 |nil h=>exact λj hj=> .inl (h j hj)
 |cons hj hn hb hs ih=>
  intro k hk;rcases ih k hk with h|h
  .rcases DD.1 h with h|h;.exact .inr (h ▸ DW ..)
   .exact .inl h
  .exact .inr (Ck _ h)
theorem Ext.apart{n:Nat}(h:Ext n b D td):∀j,j∈td->j∉D/\j<n:=by
 induction h with
 |nil h=>exact λj hj=>by cases hj
 | @cons D td j hj hn hb hs ih=>
  intro k hk;rcases DD.1 hk with e|h;.exact⟨e ▸ hn,e ▸ hj⟩
  .exact⟨λhd=>(ih k h).1 (Ck _ hd),(ih k h).2⟩
abbrev b0(ops:Array Oper):Nat->Nat:=Q6 (Region.before ops)
def P2(acc:Nat->Nat)(o:Oper):Nat:=o.after.foldl (λs e=>if Region.binds .any e then s |||2^e.on |||acc e.on else s) 0
theorem wg(acc:Nat->Nat)(k:Nat):∀(l:List Edge) (s:Nat),tb (l.foldl (λs e=>if Region.binds .any e then s |||2^e.on |||acc e.on else s) s) k=true↔tb s k=true\/∃e∈l,Region.binds .any e=true/\(e.on=k\/tb (acc e.on) k=true)
 | [],s=>by simp
 |e::l,s=>by
  rw[fR,wg acc k l];by_cases hb:Region.binds .any e=true
  .rw[AP hb,ir,ir,ae2];simp only[cT,LP,DD,exists_eq_or_imp,hb,true_and];constructor
   .rintro(((h|h)|h)|h);.exact .inl h
    .exact .inr (.inl (.inl h))
    .exact .inr (.inl (.inr h))
    .exact .inr (.inr h)
   .rintro(h|(h|h)|h);.exact .inl (.inl (.inl h))
    .exact .inl (.inl (.inr h))
    .exact .inl (.inr h)
    .exact .inr h
  .rw[AM hb];simp only[DD,exists_eq_or_imp,hb,false_and,false_or];constructor
   .rintro(h|h);.exact .inl h
    .exact .inr (.inr h)
   .rintro(h|h|h);.exact .inl h
    .exact absurd h.1 W0
    .exact .inr h
theorem Uj(acc:Nat->Nat)(o:Oper)(k:Nat):tb (P2 acc o) k=true↔∃e∈o.after.toList,Region.binds .any e=true/\(e.on=k\/tb (acc e.on) k=true):=by unfold P2;rw[<-Array.foldl_toList,wg,acj];simp
def M0(l:List Oper):Array Nat:=l.foldl (λacc o=>acc.push (P2 (λi=>acc.getD i 0) o)) #[]
theorem Om(l:List Oper)(o:Oper):M0 (l++[o])=(M0 l).push (P2 (λi=>(M0 l).getD i 0) o):=by simp[M0]
theorem Oo(l:List Oper):(M0 l).size=l.length:=by
 rw[<-List.reverse_reverse l];induction l.reverse with
 |nil=>rfl
 |cons o l ih=>rw[List.reverse_cons,Om];simp[ih]
theorem P3(l:List Oper)(m:List Oper)(i:Nat)(hi:i<l.length):(M0 (l++m)).getD i 0=(M0 l).getD i 0:=by
 rw[<-List.reverse_reverse m];induction m.reverse with
 |nil=>simp
 |cons o m ih=>rw[List.reverse_cons,<-NP,Om];simp only[Xr]at ih ⊢;rw[Array.getElem?_push_lt (by rw[Oo];simp;omega),<-ih,SU]
theorem Uk(ops:Array Oper):Region.before ops=M0 ops.toList:=by unfold Region.before M0 P2;rw[<-Array.foldl_toList]
theorem ack(ops:Array Oper)(ho:ops[j]?=some o):∃f:Nat->Nat,(∀i k,tb (f i) k=true->tb (b0 ops i) k=true)/\b0 ops j=P2 f o:=by
 have hl:ops.toList[j]?=some o:=by simpa using ho
 obtain⟨hj,he⟩:=FE.1 hl;have acd:ops.toList=ops.toList.take j++[o]++ops.toList.drop (j+1):=by rw[<-he,NP,List.singleton_append,<-ST hj,fK]
 have hlen:(ops.toList.take j).length=j:=by rw[IS];omega
 refine⟨λi=>(M0 (ops.toList.take j)).getD i 0,?_,?_⟩
 .intro i k hb;by_cases hi:i<j;.unfold b0 Q6;rw[Uk,acd,NP,P3 _ _ _ om];exact hb
  .simp only[Xr]at hb;rw[jK (by rw[Oo];omega)]at hb;simp[acj]at hb
 .unfold b0 Q6;rw[Uk];conv=>lhs;rw[acd]
  rw[P3 _ _ _ (by rw[DX,hlen];exact NQ j),Om];simp only[Xr];have:j=(M0 (ops.toList.take j)).size:=by rw[Oo];omega
  conv=>lhs;rw[show((M0 (ops.toList.take j)).push (P2 (λi=>(M0 (ops.toList.take j))[i]?.getD 0) o))[j]?=some (P2 (λi=>(M0 (ops.toList.take j))[i]?.getD 0) o)from by rw[Array.getElem?_push];rw[AP this]]
  rfl
theorem acl(ho:ops[j]?=some o){e:Edge}(he:e∈o.after.toList)(hb:Region.binds .any e=true):tb (b0 ops j) e.on=true:=by obtain⟨f,_,h2⟩:=ack ops ho;rw[h2,Uj];exact⟨e,he,hb,.inl rfl⟩
theorem Adp(ho:ops[j]?=some o)(hk:tb (b0 ops j) k=true):∃e∈o.after.toList,Region.binds .any e=true/\(e.on=k\/tb (b0 ops e.on) k=true):=by obtain⟨f,h1,h2⟩:=ack ops ho;rw[h2,Uj]at hk;obtain⟨e,g1,g2,g3⟩:=hk;exact⟨e,g1,g2,g3.imp id (h1 _ _)⟩
theorem P4{p q:Nat->Bool}{i:Nat}(hq:∀k,k≠i->q k=p k)(hi:q i=false)(hp:p i=true):∀l:List Nat,l.Nodup->i∈l->l.countP q+1=l.countP p
 | [],_,h=>by cases h
 |a::l,hn,h=>by
  obtain⟨JE,hn2⟩:=RU.1 hn;by_cases e:a=i;.subst e;rw[List.countP_cons_of_pos hp,List.countP_cons_of_neg (by simp[hi])];congr 1;exact List.countP_congr λk hk=>by rw[hq k (λe=>JE (e ▸ hk))]
  .have hm:i∈l:=(by rcases DD.1 h with h|h;exact absurd h.symm e;exact h);have ih:=P4 hq hi hp l hn2 hm;have hqa:=hq a e;by_cases hH:p a=true;.rw[List.countP_cons_of_pos hH,List.countP_cons_of_pos (by rw[hqa];exact hH)];omega
   .rw[List.countP_cons_of_neg hH,List.countP_cons_of_neg (by rw[hqa];exact hH)];exact ih
section
variable {E:Env}{nt:Nat}
theorem ae3(h:Q7 ops=true)(hj:j<ops.size)(hb:tb (b0 ops j) i=true):i<j:=by unfold Q7 at h;rw[RS]at h;exact Amq (Al (h j (KI.2 hj))) hb
theorem pp(SJ:Q7 ops=true){LK:Array Bool}(hs:LK.size=ops.size)(hr:Region.ready .any ops LK=[]):∀j,j<ops.size->LK.getD j true=true:=by
 intro j;induction j using Nat.strongRecOn with
 |_ j ih=>
  intro hj
  cases hl:LK.getD j true with
  |true=>rfl
  |false=>
   exfalso;have:j∈Region.ready .any ops LK:=by
    unfold Region.ready;rw[JZ];refine⟨KI.2 hj,?_⟩;rw[hl,SU hj];simp only[Bool.not_false,KR,MC,Bool.true_and,Array.all_eq_true_iff_forall_mem];intro e he;by_cases hb:Region.binds .any e=true;.rw[hb];have oc:=acl (ops:=ops) (j:=j) (o:=ops[j]) (SU hj) (by simpa using he) hb;have BX:=ae3 SJ hj oc;have:=ih e.on BX om;rw[Xr,SU om]at this ⊢;simpa using this
    .simp[hb]
   rw[hr]at this;cases this
theorem Ai7(SJ:Q7 ops=true):∀(fuel t:Nat) (LK:Array Bool) (D:List Nat),LK.size=ops.size->(∀j,j<ops.size->(LK.getD j true=true↔j∈D))->(∀j∈D,∀i,tb (b0 ops j) i=true->i∈D)->(List.range ops.size).countP (λj=>!LK.getD j true)<=fuel->Ext ops.size (b0 ops) D (Region.linearise.go .any ops fuel t LK []):=by
 intro fuel;induction fuel with
 |zero=>
  intro t LK D hs hl hc hf;simp only[Region.linearise.go,List.reverse_nil];refine .nil λj hj=>(hl j hj).1 ?_;have:(List.range ops.size).countP (λj=>!LK.getD j true)=0:=om
  have:=List.countP_eq_zero.1 this j (KI.2 hj);simpa using this
 |succ fuel ih=>
  intro t LK D hs hl hc hf;simp only[Region.linearise.go];change Ext _ _ _ (match(Region.ready .any ops LK)[t%(Region.ready .any ops LK).length]? with
   |some i=>Region.linearise.go .any ops fuel (t/(Region.ready .any ops LK).length) (LK.setIfInBounds i true) [i]
   |none=>[].reverse)
  cases hi:(Region.ready .any ops LK)[t%(Region.ready .any ops LK).length]? with
  |none=>
   have ti:Region.ready .any ops LK=[]:=by
    cases hr:Region.ready .any ops LK with
    |nil=>rfl
    |cons x xs=>rw[hr]at hi;have BX:t%(x::xs).length<(x::xs).length:=UX _ W0;have:=List.getElem?_eq_none_iff.1 hi;omega
   simp only[List.reverse_nil];exact .nil λj hj=>(hl j hj).1 (pp SJ hs ti j hj)
  |some i=>
   simp only[];rw[linearise_go_acc,List.reverse_singleton,List.singleton_append];have TK:=I4 hi;unfold Region.ready at TK;rw[JZ,KI]at TK;obtain⟨FO,hrd⟩:=TK;rw[KQ]at hrd;obtain⟨uH,tA⟩:=hrd;have uI:LK.getD i true=false:=(by simpa using uH);rw[SU FO]at tA;simp only[KR,MC,Array.all_eq_true_iff_forall_mem]at tA;have abx:∀k,k≠i->(LK.setIfInBounds i true).getD k true=LK.getD k true:=λk hk=>by simp only[Xr,SR];rw[AM (Ne.symm hk)]
   have gX:(LK.setIfInBounds i true).getD i true=true:=(by simp only[Xr,SR];simp[hs,FO]);have hb:∀k,tb (b0 ops i) k=true->k∈D:=by
    intro k hk;obtain⟨e,g1,g2,g3⟩:=Adp (ops:=ops) (SU FO) hk;have hd:=tA e (by simpa using g1);rw[g2]at hd;simp only[Bool.not_true,Bool.false_or]at hd;have BX:=ae3 SJ FO (acl (SU FO) g1 g2);have hon:e.on∈D:=(hl e.on om).1 (by rw[Xr,SU om]at hd ⊢;simpa using hd);rcases g3 with rfl|g3;.exact hon
    .exact hc _ hon _ g3
   refine .cons FO (λhd=>by rw[(hl i FO).2 hd]at uI;cases uI) hb (ih _ _ (i::D) (by simpa using hs) ?_ ?_ ?_)
   .intro k hk;by_cases e:k=i;.subst e;rw[gX];simp
    .rw[abx k e,hl k hk];simp[e]
   .intro k hk m hm;rcases DD.1 hk with e|hk;.exact Ck _ (hb m (e ▸ hm))
    .exact Ck _ (hc k hk m hm)
   .have:=P4 (p:=λj=>!LK.getD j true) (q:=λj=>!(LK.setIfInBounds i true).getD j true) (i:=i) (λk hk=>by rw[abx k hk]) (by rw[gX];rfl) (by rw[uI];rfl) (List.range ops.size) jQ (KI.2 FO);omega
theorem ala(SJ:Q7 ops=true)(t:Nat):Ext ops.size (b0 ops) [] (Region.schedule true ops t):=by
 unfold Region.schedule Region.linearise;simp only[Bool.true_or,WN];refine Ai7 SJ _ _ _ [] W0 (λj hj=>?_) (λj hj=>by cases hj) ?_;.simp[Xr,hj]
 .have:=List.countP_le_length (p:=λj=>!(Array.replicate ops.size false).getD j true) (l:=List.range ops.size);simpa using this
end
theorem Hr{e:Nat}(h:tb (L2 b i e j) k=true):tb (b j) k=true\/((j=e\/tb (b j) e=true)/\(k=i\/tb (b i) k=true)):=by
 unfold L2 at h
 cases hc:(Nat.beq j e ||tb (b j) e)with
 |false=>rw[hc]at h;exact .inl h
 |true=>
  rw[hc]at h;have AA:tb ((b j |||2^i) |||b i) k=true:=h;rw[ir,ir,ae2]at AA;simp only[cT,LP]at AA hc;have QL:j=e\/tb (b j) e=true:=hc.imp (λh=>jL h) id;rcases AA with(h1|h1)|h1;.exact .inl h1
  .exact .inr ⟨QL,.inl h1.symm⟩
  .exact .inr ⟨QL,.inr h1⟩
theorem Ext.given{n:Nat}{e:Nat}(h:Ext n b D td)(hi:i∈D)(hb:∀k,tb (b i) k=true->k∈D):Ext n (L2 b i e) D td:=by
 induction h with
 |nil h=>exact .nil h
 | @cons D td j hj hn ZA hs ih=>
  refine .cons hj hn (λk hk=>?_) (ih (Ck _ hi) λk hk=>Ck _ (hb k hk));rcases Hr hk with h1|⟨_,h2|h2⟩;.exact ZA k h1
  .exact h2 ▸ hi
  .exact hb k h2
theorem Ext.either{n:Nat}{e:Nat}(h:Ext n b D td)(hi:i∉D)(he:e∉D)(FO:i<n)(ID:e<n)(BZ:i≠e):Ext n (L2 b i e) D td\/Ext n (L2 b e i) D td:=by
 induction h with
 |nil h=>exact absurd (h i FO) hi
 | @cons D td j hj hn ZA hs ih=>
  by_cases ei:j=i
  .subst ei;refine .inl (.cons hj hn (λk hk=>?_) (hs.given (DW ..) λk hk=>Ck _ (ZA k hk)));rcases Hr hk with h1|⟨h1|h1,_⟩;.exact ZA k h1
   .exact absurd h1 BZ
   .exact absurd (ZA e h1) he
  .by_cases ee:j=e;.subst ee;refine .inr (.cons hj hn (λk hk=>?_) (hs.given (DW ..) λk hk=>Ck _ (ZA k hk)));exact xr
   .have PX:i∉j::D:=λh=>by rcases DD.1 h with h|h;exact ei h.symm;exact hi h
    have tB:e∉j::D:=λh=>by rcases DD.1 h with h|h;exact ee h.symm;exact he h
    rcases ih PX tB with g|g
    .refine .inl (.cons hj hn (λk hk=>?_) g);rcases Hr hk with h1|⟨h1|h1,_⟩;.exact ZA k h1
     .exact absurd h1 ee
     .exact absurd (ZA e h1) he
    .refine .inr (.cons hj hn (λk hk=>?_) g);exact xr
theorem I7{E:Env}{nt:Nat}{ops:Array Oper}{td:List Nat}:∀(f:Nat) (b:Nat->Nat),Ext ops.size b [] td->∃v∈Fu E nt ops f b,Ext ops.size v [] td
 |0,b,h=>⟨b,by simp[Fu],h⟩
 |f+1,b,h=>by
  simp only[Fu]
  cases wY (A4 E nt ⟨ops,b⟩)with
  |none=>exact⟨b,by simp,h⟩
  |some p=>
   obtain⟨i,e⟩:=p;simp only
   cases hc:(Nat.ble (Nat.succ i) ops.size&&Nat.ble (Nat.succ e) ops.size&&!(Nat.beq i e))with
   |false=>exact⟨b,by simp,h⟩
   |true=>
    simp only[KQ]at hc;obtain⟨⟨h1,h2⟩,h3⟩:=hc;have BZ:i≠e:=(by intro BG;subst BG;rw[OE]at h3;cases h3);rcases h.either (i:=i) (e:=e) W0 W0 (Al h1) (Al h2) BZ with g|g;.obtain⟨v,q1,q2⟩:=I7 f _ g;exact⟨v,TY _ q1,q2⟩
    .obtain⟨v,q1,q2⟩:=I7 f _ g;exact⟨v,Zf _ q1,q2⟩
theorem xu{p:Prop}(h:p:=by
 intro i hi m hm
 rcases DD.1 hi with e|hi
 .exact Ck _ (h3 m (e ▸ hm))
 .exact Ck _ (hs.cl i hi m hm)):p:=h
theorem M3(tm:T AV)(t:Nat):∀l:List Nat,T.get (only tm l) t=if t∈l then T.get tm t else none
 | []=>by simp[only,T.VM]
 |x::l=>by
  simp only[only]
  cases hx:T.get tm x with
  |none=>
   simp only[];rw[M3 tm t l];by_cases e:t=x;.subst e;simp[hx]
   .simp[e]
  |some v=>
   simp only[];rw[T.MH,M3 tm t l];by_cases e:t=x;.subst e;simp[hx]
   .simp[e]
theorem Ru{tm FV:T AV}:∀{l:List Nat},(∀t∈l,T.get tm t=T.get FV t)->only tm l=only FV l
 | [],_=>rfl
 |x::l,h=>by simp only[only];rw[h x (DW ..),Ru (l:=l) λt ht=>h t (Ck _ ht)]
theorem acm{nt:Nat}{l:List Nat}(hs:tmps.size=nt)(h:∀t∈l,∀v,T.get tm t=some v->VR AC v (tmps.getD t undef)):TR AC nt (only tm l) tmps:=by
 refine⟨hs,λt v hv=>?_⟩;rw[M3]at hv;by_cases e:t∈l;.rw[AP e]at hv;exact h t e v hv
 .rw[AM e]at hv;cases hv
theorem Adq{g:OY}(h:nQ f g=true):f=g:=by cases f<;>cases g<;>simp[nQ]at h;subst h;rfl
theorem Kb{f:AV->AV->Bool}(hf:∀x y,f x y=true->x=y):∀{l AT:List AV},Ih f l AT=true->l=AT
 | [],[],_=>rfl
 | [],_::_,h=>by simp[Ih]at h
 |_::_,[],h=>by simp[Ih]at h
 |a::l,b::AT,h=>by
  simp only[Ih]at h;split at h;.rename_i hb;rw[hf _ _ hb,Kb hf h]
  .cases h
theorem Ai8{u w:Value}(h:qm u w=true):u=w:=by
 unfold qm at h;split at h
 .rename_i a n c;split at h
  .rename_i BC Yh BP;split at h
   .rename_i h1 h2 h3 h4;obtain⟨b,o,s⟩:=a;obtain⟨AR,EG,EU⟩:=BC;simp only at h h1 h2;rw[As h1,As h2,As h3,As h4]
    cases s with
    |none=>cases EU with
     |none=>rfl
     |some _=>cases h
    |some t=>cases EU with
     |none=>cases h
     |some aZ=>rw[As h]
   .cases h
  .cases h
 .cases h
theorem Qp:∀(d:Nat) (x y:AV),Gd d x y=true->x=y
 |0,_,_,h=>by simp[Gd]at h
 |d+1,x,y,h=>by
  have ih:=Qp d
  cases x<;>cases y<;>simp only[Gd]at h<;>first
   |(cases h;done)
   |rfl
   |(rw[Z7]at h;rw[Xv h])
   |(split at h;{rename_i hk;rw[F4]at h;rw[Bp hk,Xv h]};{cases h})
   |(rw[K2]at h;rw[Xv h])
   |(split at h;{rename_i hk;rw[As hk,As h]};{cases h})
   |(split at h;{rename_i h1 h2 h3 h4;rw[As h1,As h2,As h3,As h4]};{cases h})
   |(rw[As h])
   |(split at h;{rename_i h1 h2 h3;rw[Adq h1,Kb ih h2,Kb ih h3]};{cases h})
   |(split at h;{rename_i h1;rw[As h1,ih _ _ h]};{cases h})
   |(rw[Kb ih h])
   |(rw[Ai8 h])
def I8(tm:T AV)(d:Option Nat)(v:AV):Prop:=∀t,d=some t->T.get tm t=some v
theorem acn{d:Option Nat}(h:holds tm d v=true):I8 tm d v:=by
 intro t e;subst e;simp only[holds]at h;split at h;.rename_i u hu;rw[hu,Qp _ _ _ h]
 .cases h
section
variable {E:Env}{nt:Nat}{Rg:SZ}
def PF(E:Env)(nt:Nat)(Rg:SZ)(tm:T AV)(h:H)(j:Nat):Prop:=
 (wanted (only tm (OT Rg j)) (IU E nt Rg j).guard=some false/\I8 tm (IU E nt Rg j).dst (.BM []))\/
 (wanted (only tm (OT Rg j)) (IU E nt Rg j).guard=some true/\∃v h1,exec (IU E nt Rg j).op h (only tm (OT Rg j))= .val v h1/\I8 tm (IU E nt Rg j).dst v)
def PM(E:Env)(nt:Nat)(Rg:SZ)(tm:T AV)(h:H)(o:Option Nat)(j:Nat):Prop:=
 (o=none/\wanted (only tm (OT Rg j)) (IU E nt Rg j).guard=some false/\I8 tm (IU E nt Rg j).dst (.BM []))\/
 (∃b FH h0 v,o=some b/\wanted (only tm (OT Rg j)) (IU E nt Rg j).guard=some true/\exec (IU E nt Rg j).op h0 (only tm (OT Rg j))= .val v (H.new h0 FH)/\h0.n=b/\
  I8 tm (IU E nt Rg j).dst v/\H.get h b=some FH)
theorem X3(hc:check (Ig (HI E nt Rg j)) tm h=true):PF E nt Rg tm h j:=by
 unfold check at hc;change(match wanted (only tm (OT Rg j)) (IU E nt Rg j).guard with
  |some false=>holds tm (IU E nt Rg j).dst (.BM [])
  |none=>false
  |some true=>match exec (IU E nt Rg j).op h (only tm (OT Rg j))with
   | .val v _=>holds tm (IU E nt Rg j).dst v
   |_=>false)=true at hc
 split at hc;.rename_i hw;exact .inl ⟨hw,acn hc⟩
 .cases hc
 .rename_i hw;split at hc;.rename_i v h1 hx;exact .inr ⟨hw,v,h1,hx,acn hc⟩
  .cases hc
theorem L5{tm:T AV}{h:H}:∀{l:List DI},NF l tm h=true->∀i∈l,check i tm h=true
 | [],_,i,hi=>by cases hi
 |a::l,hc,i,hi=>by
  simp only[NF]at hc;split at hc
  .rename_i ha;rcases DD.1 hi with e|hi;.subst e;exact ha
   .exact L5 hc i hi
  .cases hc
structure zx (E:Env)(nt:Nat)(Rg:SZ)(js:List Nat)(tm:T AV)(h:H)(FV:T AV)(AA:H)(bn:Nat->Option Nat):Prop where
 tm:∀t,(∀j∈js,(IU E nt Rg j).dst≠some t)->T.get FV t=T.get tm t
 n:h.n<=AA.n
 FH:∀b,b<h.n->H.get AA b=H.get h b
 same:(∀j∈js,FN E nt Rg j≠2)->AA=h
 Ym:∀j b,bn j=some b->h.n<=b/\b<AA.n
 inj:∀i j b,bn i=some b->bn j=some b->i=j
 mem:∀j b,bn j=some b->j∈js
 mZ:∀j∈js,FN E nt Rg j=2->PM E nt Rg FV AA (bn j) j
 pf:∀j∈js,FN E nt Rg j≠2->(FN E nt Rg j=0\/∀i∈js,FN E nt Rg i≠2)->PF E nt Rg FV AA j
theorem Oq(h:cls c≠3):cls c=0\/cls c=1\/cls c=2:=by have:=Ai5 c;omega
theorem Qq(tm:T AV)(d:Option Nat)(v:AV)(t:Nat):T.get (put tm d v) t=if d=some t then some v else T.get tm t:=by
 cases d with
 |none=>simp[put]
 |some d=>
  simp only[put,T.MH,DB];by_cases e:t=d;.subst e;simp
  .rw[AM e,AM (λh=>e h.symm)]
theorem Ul(SJ:F9 (A4 E nt Rg)=true){q:Nat}:∀(js:List Nat) (tm:T AV) (h:H) (FV:T AV) (AA:H),Ho (js.map λj=>Ig (HI E nt Rg j)) tm h=some (FV,AA)->js.Pairwise (·< ·)->(∀j∈js,j<Rg.ops.size/\FN E nt Rg j≠3/\IN E nt Rg j=q)->∃bn,zx E nt Rg js tm h FV AA bn
 | [],tm,h,FV,AA,hx,_,_=>by simp only[Zb,Ho,DB,fV]at hx;obtain⟨rfl,rfl⟩:=hx;exact⟨λ_=>none,λ_ _=>rfl,BD _,λ_ _=>rfl,λ_=>rfl,λ_ _ h=>TS,λ_ _ _ h=>TS,λ_ _ h=>TS,λj hj=>(by cases hj),λj hj=>(by cases hj)⟩
 |j::js,tm,h,FV,AA,hx,hp,XB=>by
  obtain⟨DL,NJ⟩:=List.pairwise_cons.1 hp;obtain⟨hj,TB,hqj⟩:=XB j (DW ..);have tR:∀i∈js,i<Rg.ops.size/\FN E nt Rg i≠3/\IN E nt Rg i=q:=λi hi=>XB i (Ck _ hi);rw[FU]at hx;simp only[Ho]at hx;change(match wanted (only tm (OT Rg j)) (IU E nt Rg j).guard with
   |some true=>match exec (IU E nt Rg j).op h (only tm (OT Rg j))with
    | .val v h1=>Ho (js.map λj=>Ig (HI E nt Rg j)) (put tm (IU E nt Rg j).dst v) h1
    |_=>none
   |some false=>Ho (js.map λj=>Ig (HI E nt Rg j)) (put tm (IU E nt Rg j).dst (.BM [])) h
   |none=>none)=some (FV,AA)at hx
  have key:∀(v:AV) (h1:H),Ho (js.map λj=>Ig (HI E nt Rg j)) (put tm (IU E nt Rg j).dst v) h1=some (FV,AA)->
    ∃bn,zx E nt Rg js (put tm (IU E nt Rg j).dst v) h1 FV AA bn/\only FV (OT Rg j)=only tm (OT Rg j)/\I8 FV (IU E nt Rg j).dst v/\(∀b,bn j≠some b)/\
     (∀t,(∀i∈j::js,(IU E nt Rg i).dst≠some t)->T.get FV t=T.get tm t):=by
   intro v h1 hx
   obtain⟨bn,R⟩:=Ul SJ js _ h1 FV AA hx NJ tR
   refine⟨bn,R,Ru λt ht=>?_,λt ht=>?_,λb hb=>?_,λt ht=>?_⟩
   .rw[R.tm t,Qq,AM]
    .intro hd;exact(Il SJ hj hj TB hd).1 rfl ht
    .intro i hi hd
     obtain⟨aG,YO,hiq⟩:=tR i hi
     have BX:=DL i hi
     have:=(((Il SJ aG hj YO hd).2 om).2 ht).resolve_right λk=>by have:=k.1;omega
     have:=Ai6 SJ aG YO hj TB (hqj.trans hiq.symm) this
     omega
   .rw[R.tm t,Qq,AP ht]
    intro i hi hd
    obtain⟨aG,YO,hiq⟩:=tR i hi
    have BX:=DL i hi
    exact((Il SJ hj aG TB ht).2 om).1 hd
   .have:=DL j (R.mem _ _ hb);omega
   .rw[R.tm t λi hi=>ht i (Ck _ hi),Qq,AM (ht j (DW ..))]
  split at hx
  .rename_i hw;split at hx
   .rename_i v h1 hex;obtain⟨bn,R,e1,e2,e3,e4⟩:=key v h1 hx;rcases Oq TB with h0|h0|h0
    .
     have hk:=L4 (.inl h0) hex
     subst hk
     refine⟨bn,e4,R.n,R.FH,λhn=>R.same λi hi=>hn i (Ck _ hi),R.Ym,R.inj,λi b hb=>Ck _ (R.mem i b hb),?_,?_⟩
     .intro i hi h2
      rcases DD.1 hi with e|hi
      .subst e;have:FN E nt Rg i=0:=h0;omega
      .exact R.mZ i hi h2
     .intro i hi h2 h3
      rcases DD.1 hi with e|hi
      .subst e
       exact .inr ⟨by rw[e1];exact hw,v,AA,by rw[e1];exact ak9 h0 hex AA,e2⟩
      .exact R.pf i hi h2 (h3.imp id λh3 i hi=>h3 i (Ck _ hi))
    .have hk:=L4 (.inr h0) hex;subst hk;refine⟨bn,e4,R.n,R.FH,λhn=>R.same λi hi=>hn i (Ck _ hi),R.Ym,R.inj,λi b hb=>Ck _ (R.mem i b hb),?_,?_⟩
     .intro i hi h2;rcases DD.1 hi with e|hi;.subst e;have:FN E nt Rg i=1:=h0;omega
      .exact R.mZ i hi h2
     .intro i hi h2 h3;rcases DD.1 hi with e|hi
      .subst e;rcases h3 with h3|h3;.have:FN E nt Rg i=1:=h0;omega
       .have hs:=R.same λi hi=>h3 i (Ck _ hi);subst hs;exact .inr ⟨by rw[e1];exact hw,v,_,by rw[e1];exact hex,e2⟩
      .exact R.pf i hi h2 (h3.imp id λh3 i hi=>h3 i (Ck _ hi))
    .obtain⟨FH,hk⟩:=Adn h0 hex;subst hk;have JE:(H.new h FH).n=h.n+1:=rfl;have hRn:=R.n;refine⟨λi=>if i=j then some h.n else bn i,e4,om,?_,?_,?_,?_,?_,?_,?_⟩;.intro b hb;rw[R.FH b om,H.bP,AM om]
     .intro hn;exact absurd h0 (hn j (DW ..))
     .intro i b hb;by_cases e:i=j;.simp only[e,WN,DB]at hb;omega
      .simp only[e,KS]at hb;have:=R.Ym i b hb;omega
     .intro i FB b hb JT;by_cases e:i=j
      .by_cases BG:FB=j;.rw[e,BG]
       .simp only[e,WN,DB]at hb;simp only[BG,KS]at JT;have:=R.Ym FB b JT;omega
      .by_cases BG:FB=j;.simp only[BG,WN,DB]at JT;simp only[e,KS]at hb;have:=R.Ym i b hb;omega
       .simp only[e,KS]at hb;simp only[BG,KS]at JT;exact R.inj i FB b hb JT
     .intro i b hb;by_cases e:i=j;.subst e;exact DW ..
      .simp only[e,KS]at hb;exact Ck _ (R.mem i b hb)
     .intro i hi h2;rcases DD.1 hi with e|hi;.subst e;refine .inr ⟨h.n,FH,h,v,by simp,by rw[e1];exact hw,by rw[e1];exact hex,rfl,e2,?_⟩;rw[R.FH h.n om,H.bP,AP rfl]
      .have BZ:i≠j:=(by have:=DL i hi;omega);simp only[BZ,KS];exact R.mZ i hi h2
     .intro i hi h2 h3;rcases DD.1 hi with e|hi;.subst e;exact absurd h0 h2
      .exact R.pf i hi h2 (h3.imp id λh3 i hi=>h3 i (Ck _ hi))
   .cases hx
  .rename_i hw;obtain⟨bn,R,e1,e2,e3,e4⟩:=key (.BM []) h hx;refine⟨bn,e4,R.n,R.FH,?_,R.Ym,R.inj,λi b hb=>Ck _ (R.mem i b hb),?_,?_⟩;.intro hn;exact R.same λi hi=>hn i (Ck _ hi)
   .intro i hi h2;rcases DD.1 hi with e|hi
    .subst e;refine .inl ⟨?_,by rw[e1];exact hw,e2⟩
     cases hb:bn i with
     |none=>rfl
     |some b=>exact absurd hb (e3 b)
    .exact R.mZ i hi h2
   .intro i hi h2 h3;rcases DD.1 hi with e|hi;.subst e;exact .inl ⟨by rw[e1];exact hw,e2⟩
    .exact R.pf i hi h2 (h3.imp id λh3 i hi=>h3 i (Ck _ hi))
  .cases hx
def nR(E:Env)(nt:Nat)(Rg:SZ)(k j:Nat):Prop:=FN E nt Rg j≠3/\IN E nt Rg j<=k
structure DS (E:Env)(nt:Nat)(Rg:SZ)(k:Nat)(D td:List Nat):Prop where
 XO:F9 (A4 E nt Rg)=true
 ext:Ext Rg.ops.size (bb Rg) D td
 cl:∀j∈D,∀i,tb (bb Rg j) i=true->i∈D
 lo:∀m e,m<k->(BL E nt Rg)[m]?=some e->e.j∈D
 hi:∀m e,k<=m->(BL E nt Rg)[m]?=some e->e.j∉D
structure YC (E:Env)(AC:BF)(nt:Nat)(Rg:SZ)(k:Nat)(td:List Nat)(tm:T AV)(tmps:Array Value):Prop where
 size:tmps.size=nt
 val:∀t v,T.get tm t=some v->(∀j∈td,nR E nt Rg k j->(IU E nt Rg j).dst≠some t)->VR AC v (tmps.getD t undef)
theorem YC.mono{BU:BF}(hp:BF.le AC BU)(h:YC E AC nt Rg k td tm tmps):YC E BU nt Rg k td tm tmps:=⟨h.size,λt v ht hj=>(h.val t v ht hj).mono hp⟩
theorem DS.head(hs:DS E nt Rg k D (j::td)):j<Rg.ops.size/\j∉D/\(∀i,tb (bb Rg j) i=true->i∈D)/\Ext Rg.ops.size (bb Rg) (j::D) td:=by
 cases hs.ext with
 |cons h1 h2 h3 h4=>exact⟨h1,h2,h3,h4⟩
theorem DS.ak5(hs:DS E nt Rg k D (j::td))(hc:FN E nt Rg j≠3):nR E nt Rg k j:=by
 obtain⟨h1,h2,h3,h4⟩:=hs.head;refine⟨hc,?_⟩
 cases PP k (IN E nt Rg j)with
 |inr h=>exact h
 |inl h=>exfalso;have BX:k<(BL E nt Rg).length:=IF h (Amr j);have he:(BL E nt Rg)[k]?=some ((BL E nt Rg)[k]):=DA BX;exact hs.hi k _ (BD _) he (h3 _ (Rt hs.XO h1 hc h he))
theorem DS.X0(hs:DS E nt Rg k D (j::td))(hc:FN E nt Rg j=3):∃e,(BL E nt Rg)[k]?=some e/\e.j=j:=by
 obtain⟨h1,h2,h3,h4⟩:=hs.head;have hm:HI E nt Rg j∈BL E nt Rg:=adu.2 ⟨j,h1,rfl,hc⟩;obtain⟨m,hm⟩:=UZ.1 hm;have hkm:m=k:=by
  rcases Nat.lt_trichotomy m k with h|h|h;.exact absurd (hs.lo m _ h hm) h2
  .exact h
  .exfalso;have BX:k<(BL E nt Rg).length:=Nat.lt_trans h (FE.1 hm).1;have he:(BL E nt Rg)[k]?=some ((BL E nt Rg)[k]):=DA BX;exact hs.hi k _ (BD _) he (h3 _ (Ui hs.XO h he hm))
 subst hkm;exact⟨_,hm,rfl⟩
theorem DS.next(hs:DS E nt Rg k D (j::td))(hc:FN E nt Rg j≠3):DS E nt Rg k (j::D) td:=by
 obtain⟨h1,h2,h3,h4⟩:=hs.head;refine⟨hs.XO,h4,?_,?_,?_⟩;.exact xu
 .intro m e hm he;exact Ck _ (hs.lo m e hm he)
 .intro m e hm he hd;rcases DD.1 hd with BG|hd;.exact hc (BG ▸ (H5 he).2.2.1)
  .exact hs.hi m e hm he hd
theorem DS.aj8(hs:DS E nt Rg k D (j::td))(hc:FN E nt Rg j=3):DS E nt Rg (k+1) (j::D) td:=by
 obtain⟨h1,h2,h3,h4⟩:=hs.head;obtain⟨e,he,lG⟩:=hs.X0 hc;refine⟨hs.XO,h4,?_,?_,?_⟩;.exact xu
 .intro m f hm hf;by_cases BG:m=k;.subst BG;rw[he]at hf;cases hf;rw[lG];exact DW ..
  .exact Ck _ (hs.lo m f om hf)
 .intro m f hm hf hd;rcases DD.1 hd with BG|hd;.have hb:=Ui hs.XO (by omega:k<m) he hf;have:=Ado hs.XO (H5 hf).1;rw[BG,<-lG]at hb;rw[BG,<-lG]at this;rw[this]at hb;cases hb
  .exact hs.hi m f om hf hd
theorem DS.fin(hs:DS E nt Rg k D []):(BL E nt Rg).length<=k:=by
 cases PP k (BL E nt Rg).length with
 |inr h=>exact h
 |inl h=>
  exfalso;have he:(BL E nt Rg)[k]?=some ((BL E nt Rg)[k]):=DA h;have:=hs.hi k _ (BD _) he
  cases hs.ext with
  |nil JF=>exact this (JF _ (H5 he).1)
theorem DS.names(hs:DS E nt Rg k D (j::td))(ht:YC E AC nt Rg k (j::td) tm tmps):∀t∈OT Rg j,∀v,T.get tm t=some v->VR AC v (tmps.getD t undef):=by
 obtain⟨h1,h2,h3,h4⟩:=hs.head;intro t ht' v hv;refine ht.val t v hv λi hi hp hd=>?_;by_cases e:i=j;.subst e;exact(Il hs.XO h1 h1 hp.1 hd).1 rfl ht'
 .have PX:i∈td:=by rcases DD.1 hi with h|h;exact absurd h e;exact h
  obtain⟨g1,g2⟩:=h4.apart i PX;rcases((Il hs.XO g2 h1 hp.1 hd).2 (λBG=>e BG.symm)).2 ht' with this|⟨_,m,f,hm,hf,hb⟩;.exact g1 (Ck _ (h3 _ this))
  .exact h2 (hs.cl _ (hs.lo m f (IF hm hp.2) hf) _ (by rw[(H5 hf).2.2.2]at hb;exact hb))
end
variable {E:Env}{Rg:SZ}{a:Act}{b:Frame}{cs:List Frame}{AL:Bool}{fn nt:Nat}{AZ OU:List Item}{todo:DO}{AQ:Value}{AY w0:World}{BU:BF}
inductive CR (AC:BF):List (AV×Bool)->List PanicEntry->Prop where
 |nil:CR AC [] []
 |cons {v:AV} {AQ:Value} {b:Bool} {l:List (AV×Bool)} {AT:List PanicEntry} (h:VR AC v AQ) (hs:CR AC l AT):CR AC ((v,b)::l) ({v:=AQ,recovered:=b}::AT)
theorem CR.mono(hp:BF.le AC BU){l:List (AV×Bool)}{AT:List PanicEntry}(h:CR AC l AT):CR BU l AT:=by
 induction h with
 |nil=>exact .nil
 |cons h _ ih=>exact .cons (h.mono hp) ih
theorem CR.append{a b:List (AV×Bool)}{BC AR:List PanicEntry}(h:CR AC a BC)(k:CR AC b AR):CR AC (a++b) (BC++AR):=by
 induction h with
 |nil=>exact k
 |cons h _ ih=>exact .cons h ih
inductive MR (AC:BF):VC->FrameMode->Prop where
 |run:MR AC .run .run
 |returning:MR AC .returning .returning
 |panicking {l:List (AV×Bool)} {AT:List PanicEntry} (h:CR AC l AT):MR AC (.panicking l) (.panicking AT)
theorem MR.mono(hp:BF.le AC BU){m:VC}{GF:FrameMode}(h:MR AC m GF):MR BU m GF:=by
 cases h with
 |run=>exact .run
 |returning=>exact .returning
 |panicking h=>exact .panicking (h.mono hp)
inductive IR (E:Env)(AC:BF)(nt:Nat):PS->Item->Prop where
 |code (c:Code):IR E AC nt (.code (Bo E nt c)) (.code c)
 |inBlock (id:Nat):IR E AC nt (.inBlock id) (.inBlock id)
 |inLoop (c:Code):IR E AC nt (.inLoop (Bo E nt c)) (.inLoop c)
 |inScope (c:Code):IR E AC nt (.inScope (Bo E nt c)) (.inScope c)
 |ops (ops:Array Oper) (td:List Nat):IR E AC nt (.ops (td.map (Cd E nt ops))) (.inRegion ops td)
 |XH {l:Nat} {lo:Loc} (h:AC l=some lo):IR E AC nt (.XH l) (.inRangeFunc lo.cb)
 |VL {l:Nat} {lo:Loc} (h:AC l=some lo):IR E AC nt (.VL l) (.endRangeFunc lo.cb)
 |beginRound:IR E AC nt .beginRound .beginRound
inductive MF (E:Env)(AC:BF)(nt:Nat):DO->List Item->Prop where
 |nil:MF E AC nt [] []
 |cons {i:PS} {FB:Item} {l:DO} {AT:List Item} (h:IR E AC nt i FB) (hs:MF E AC nt l AT):MF E AC nt (i::l) (FB::AT)
theorem IR.mono(hp:BF.le AC BU){i:PS}{FB:Item}(h:IR E AC nt i FB):IR E BU nt i FB:=by
 cases h with
 |code c=>exact .code c
 |inBlock id=>exact .inBlock id
 |inLoop c=>exact .inLoop c
 |inScope c=>exact .inScope c
 |ops o td=>exact .ops o td
 |XH h=>exact .XH (hp _ _ h)
 |VL h=>exact .VL (hp _ _ h)
 |beginRound=>exact .beginRound
theorem MF.mono(hp:BF.le AC BU){i:DO}{FB:List Item}(h:MF E AC nt i FB):MF E BU nt i FB:=by
 induction h with
 |nil=>exact .nil
 |cons h _ ih=>exact .cons (h.mono hp) ih
inductive TD (E:Env)(AC:BF)(nt:Nat)(tm:T AV):DO->Array Value->List Item->Prop where
 |plain {todo:DO} {tmps:Array Value} {OU:List Item} (ht:TR AC nt tm tmps) (hi:MF E AC nt todo OU):TD E AC nt tm todo tmps OU
 |gone {tmps:Array Value} {OU:List Item} (ht:TR AC nt tm tmps):TD E AC nt tm [.gone] tmps OU
 |drawn {Rg:SZ} {k:Nat} {D td:List Nat} {e:Row} {p:Ph} {l:List Ph} {todo:DO} {tmps:Array Value} {OU:List Item} (hs:DS E nt Rg k D (e.j::td)) (he:(BL E nt Rg)[k]?=some e)
   (hp:Bz (ne' E nt Rg) (BL E nt Rg) ((BL E nt Rg).drop k) k=p::l) (ht:YC E AC nt Rg k (e.j::td) tm tmps) (hi:MF E AC nt todo OU):TD E AC nt tm (.drawn p l::todo) tmps (.inRegion Rg.ops (e.j::td)::OU)
theorem TD.mono(hp:BF.le AC BU)(h:TD E AC nt tm todo tmps OU):TD E BU nt tm todo tmps OU:=by
 cases h with
 |plain ht hi=>exact .plain (ht.mono hp) (hi.mono hp)
 |drawn hs he hq ht hi=>exact .drawn hs he hq (ht.mono hp) (hi.mono hp)
 |gone ht=>exact .gone (ht.mono hp)
def iJ(l:DO):Bool:=match l with| .drawn _ _::_=>true|_=>false
theorem MF.noD{i:DO}{FB:List Item}(h:MF E AC nt i FB):iJ i=false:=by
 cases h with
 |nil=>rfl
 |cons h _=>cases h<;>rfl
def D4(d:Bool):CallKind:=match d with|true=> .deferred|false=> .normal
structure FR (E:Env)(AC:BF)(x:EW)(fr:Frame):Prop where
 fn:fr.fn=x.fn
 kind:fr.kind=D4 x.AL
 ro:WV AC x.ro fr.roundOf
 defers:KA AC x.defers fr.defers
 mode:MR AC x.mode fr.mode
 body:TD E AC x.nt x.tm x.todo fr.tmps fr.todo
 abj:iJ x.todo=true->x.mode= .run
theorem FR.mono(hp:BF.le AC BU){x:EW}{fr:Frame}(h:FR E AC x fr):FR E BU x fr:=⟨h.fn,h.kind,h.ro.mono hp,h.defers.mono hp,h.mode.mono hp,h.body.mono hp,h.abj⟩
inductive LD (E:Env)(AC:BF):FM->List Frame->Prop where
 |nil:LD E AC [] []
 |cons {x:EW} {fr:Frame} {l:FM} {AT:List Frame} (h:FR E AC x fr) (hs:LD E AC l AT):LD E AC (x::l) (fr::AT)
theorem LD.mono(hp:BF.le AC BU){l:FM}{AT:List Frame}(h:LD E AC l AT):LD E BU l AT:=by
 induction h with
 |nil=>exact .nil
 |cons h _ ih=>exact .cons (h.mono hp) ih
structure HW (E:Env)(w0:World)(AC:BF)(h:H)(w:World):Prop where
 hr:HR E w0.heap AC h w.heap
 YZ:QG w0 w
theorem HW.to(k:HW E w0 AC h w)(hr:HR E w0.heap BU AA AY.heap)(hl:QG w AY):HW E w0 BU AA AY:=⟨hr,k.YZ.trans hl⟩
structure At (E:Env)(w0:World)(CE:List Frame)(c:GN)(m:Machine):Prop where
 ex:∃AC fr cs w,m=lone fr (cs++CE) w/\FR E AC c.fr fr/\LD E AC c.cs cs/\HW E w0 AC c.h w
def JO(P:Program)(E:Env)(w0:World)(CE:List Frame)(o:Out)(m:Machine):Prop:=
 match o with
 | .one c=>∃GF,Steps P m GF/\At E w0 CE c GF
 | .many l=>∃c∈l,∃GF,Steps P m GF/\At E w0 CE c GF
 | .done fn v h=>∃fr w AC AQ,Steps P m (lone fr CE w)/\fr.fn=fn/\fr.leaving P w (.returned AQ)/\VR AC v AQ/\HW E w0 AC h w
 | .fail=>True
theorem Kc(E:Env)(nt:Nat)(l:Nat):∀(c:Code),Ev.findLabel (Bo E nt c) l=(Go.findLabel c l).map (Bo E nt)
 | .seq a b=>by
  simp only[Bo,Ev.findLabel,Go.findLabel];rw[Kc E nt l a,Kc E nt l b]
  cases Go.findLabel a l with
  |some r=>rfl
  |none=>rfl
 | .label AT=>by
  simp only[Bo,Ev.findLabel,Go.findLabel];by_cases h:AT=l;.subst h;have:Nat.beq AT AT=true:=OE AT;rw[this];simp[Bo]
  .have:Nat.beq AT l=false:=(by cases hb:Nat.beq AT l with|false=>rfl|true=>exact absurd (As hb) h);rw[this];simp[h]
 | .region id ops d=>by
  simp only[Bo,E9,Go.findLabel,aj];repeat' split
  all_goals rfl
 | .rangeFunc f ps a b=>by
  simp only[Bo,Go.findLabel,aj];repeat' split
  all_goals rfl
 | .skip=>rfl
 | .cond _ _ _=>rfl
 | .block _ _=>rfl
 | .loop _=>rfl
 | .exit _=>rfl
 | .scope _=>rfl
 | .goto _=>rfl
 | .ret=>rfl
 | .refuse _=>rfl
theorem aoj{id:Nat}{k:DO}(h:MF E AC nt k AZ):(Ev.exitTo id k=none->Go.exitTo id AZ=none)/\(∀r,Ev.exitTo id k=some r->∃CO,Go.exitTo id AZ=some CO/\MF E AC nt r CO):=by
 induction h with
 |nil=>exact⟨λ_=>rfl,λr h=>by simp[Ev.exitTo]at h⟩
 |cons h hs ih=>
  cases h with
  |inBlock aN=>
   simp only[Ev.exitTo,Go.exitTo];by_cases he:aN=id;.subst he;have:Nat.beq aN aN=true:=OE aN;rw[this];exact⟨λh=>TS,λr h=>by cases h;exact⟨_,by simp,hs⟩⟩
   .have hb:Nat.beq aN id=false:=(by cases hb:Nat.beq aN id with|false=>rfl|true=>exact absurd (As hb) he);rw[hb];have:(aN==id)=false:=(by simp[he]);simp only[this,RR,KS];exact ih
  |_=>exact ih
theorem aok{l:Nat}{k:DO}(h:MF E AC nt k AZ):(Ev.gotoIn l k=none->Go.gotoIn l AZ=none)/\(∀r,Ev.gotoIn l k=some r->∃CO,Go.gotoIn l AZ=some CO/\MF E AC nt r CO):=by
 induction h with
 |nil=>exact⟨λ_=>rfl,λr h=>by simp[Ev.gotoIn]at h⟩
 |cons h hs ih=>
  cases h with
  |inScope c=>
   simp only[Ev.gotoIn,Go.gotoIn,Kc]
   cases Go.findLabel c l with
   |none=>simpa using ih
   |some r=>simp only[KR];exact⟨λh=>TS,λq h=>by cases h;exact⟨_,rfl,.cons (.code _) (.cons (.inScope _) hs)⟩⟩
  |_=>exact ih
section
theorem TR.aW(h:TR AC nt tm a.tmps){d:Option Nat}(hd:Pr nt d=true)(hv:VR AC v AQ):TR AC nt (Ev.put tm d v) (a.put d AQ).tmps:=by
 have:=h.put hd hv
 cases d with
 |none=>exact this
 |some d=>exact this
theorem Es(h:TR AC nt tm a.tmps){g:Option (Nat×Bool)}(hg:Ms ops o.guard=some g){q:Bool}(hw:Ev.wanted tm g=some q):Region.wanted o (yielded ops a.tmps)=q:=by
 unfold Ms at hg;unfold Region.wanted
 cases bT:o.guard with
 |none=>rw[bT]at hg;cases hg;simp only[Ev.wanted,DB]at hw;exact hw
 |some p=>
  obtain⟨j,b⟩:=p;rw[bT]at hg;simp only at hg ⊢;split at hg
  .rename_i d hd;cases hg;simp only[Ev.wanted]at hw;have hy:yielded ops a.tmps j=match a.tmps[d]? with|some (.bool c)=>some c|_=>none:=by unfold yielded;rw[hd];rfl
   rw[hy];split at hw
   .rename_i c hc;cases hw;have:=(h.val d _ hc).YF;rw[Xr]at this
    cases ht:a.tmps[d]? with
    |none=>rw[ht]at this;simp[undef]at this
    |some u=>
     rw[ht]at this;simp at this;subst this
     cases b<;>cases c<;>rfl
   .rename_i hc;cases hw;obtain⟨c,e1,_⟩:=(h.val d _ hc).aep;rw[Xr]at e1
    cases ht:a.tmps[d]? with
    |none=>rfl
    |some u=>rw[ht]at e1;simp at e1;subst e1;rfl
   .cases hw
  .cases hg
theorem Kd(E:Env)(nt:Nat)(ops:Array Oper)(j:Nat):(Cd E nt ops j=⟨none,none,.bad⟩)\/(∃o,ops[j]?=some o/\(Cd E nt ops j).dst=o.dst/\Pr nt o.dst=true/\Ms ops o.guard=some (Cd E nt ops j).guard/\(Cd E nt ops j).op=Ar E o.op):=by
 unfold Cd
 cases ho:ops[j]? with
 |none=>exact .inl rfl
 |some o=>
  simp only;unfold Mt
  cases h1:Pr nt o.dst with
  |false=>exact .inl rfl
  |true=>
   cases h2:Ms ops o.guard with
   |none=>exact .inl rfl
   |some g=>exact .inr ⟨o,rfl,rfl,h1,h2,rfl⟩
variable {k:List Item}
theorem Im{rest:List Nat}{v:Value}(ho:ops[j]?=some o)(hw:Region.wanted o (yielded ops a.tmps)=true)(hd:∀c,o.op≠ .defer c)(hx:(execOp a.eval o).run P w= .ok (.value v) AY\/((execOp a.eval o).run P w= .ok .skip AY/\v=undef)):Go.step P (lone (b.atR a (.inRegion ops (j::rest)::k)) cs w)= .next (lone (b.atR (a.put o.dst v) (.inRegion ops rest::k)) cs AY):=by
 have hf:=Frame.finish_atR b a ops j rest k v;rw[ho]at hf;simp only[ZZ]at hf;rw[<-hf];apply TW;rw[stepGR_op ho hw,Oper.semAt_eq _ _ _ hd];rcases hx with hx|⟨hx,rfl⟩;.simp[stepG.apply,Zd,hx]
 .simp[stepG.apply,Zd,hx]
def Vz(E:Env)(nt:Nat)(ops:Array Oper)(w0:World)(r:OR)(AC:BF)(a:Act)(td:List Nat)(w:World):Prop:=
 match r with
 | .fin tm h=>td=[]/\TR AC nt tm a.tmps/\HW E w0 AC h w
 | .at_ i l tm h x=>∃j rest o,td=j::rest/\ops[j]?=some o/\i=Cd E nt ops j/\l=rest.map (Cd E nt ops)/\i.dst=o.dst/\Pr nt o.dst=true/\
   Region.wanted o (yielded ops a.tmps)=true/\exec (Ar E o.op) h tm=x/\(¬VF x)/\TR AC nt tm a.tmps/\HW E w0 AC h w
 | .fail=>True
theorem Qr(hE:DG P E):∀(td:List Nat) (tm:T AV) (h:H) (AC:BF) (a:Act) (w:World),TR AC nt tm a.tmps->HW E w0 AC h w->∃BU BC GA AY,BF.le AC BU/\BC.defers=a.defers/\(Dr (td.map (Cd E nt ops)) tm h≠ .fail->Steps P (lone (b.atR a (.inRegion ops td::k)) cs w) (lone (b.atR BC (.inRegion ops GA::k)) cs AY))/\Vz E nt ops w0 (Dr (td.map (Cd E nt ops)) tm h) BU BC GA AY
 | [],tm,h,AC,a,w,ht,hr=>⟨AC,a,[],w,.refl _,rfl,λ_=> .refl _ _,rfl,ht,hr⟩
 |j::td,tm,h,AC,a,w,ht,hr=>by
  rw[FU];generalize hi:Cd E nt ops j=i
  have tI:∀{r:OR},Dr (i::td.map (Cd E nt ops)) tm h= .fail->∃BU BC GA AY,BF.le AC BU/\BC.defers=a.defers/\
   (Dr (i::td.map (Cd E nt ops)) tm h≠ .fail->Steps P (lone (b.atR a (.inRegion ops (j::td)::k)) cs w) (lone (b.atR BC (.inRegion ops GA::k)) cs AY))/\
   Vz E nt ops w0 (Dr (i::td.map (Cd E nt ops)) tm h) BU BC GA AY:=by
   intro r e
   exact⟨AC,a,[],w,.refl _,rfl,λhn=>absurd e hn,by rw[e];trivial⟩
  rcases Kd E nt ops j with NH|⟨o,ho,h1,h2,h3,h4⟩;.rw[hi]at NH;exact tI (r:= .fail) (by rw[NH];rfl)
  rw[hi]at h1 h3 h4
  cases hw:Ev.wanted tm i.guard with
  |none=>exact tI (r:= .fail) (by simp only[Dr,hw])
  |some q=>
   have RL:=Es ht h3 hw
   cases q with
   |false=>have e:Dr (i::td.map (Cd E nt ops)) tm h=Dr (td.map (Cd E nt ops)) (Ev.put tm i.dst (.BM [])) h:=(by simp only[Dr,hw]);have GC:=stepR_op_skip (P:=P) (b:=b) (a:=a) (k:=k) (cs:=cs) (w:=w) (ops:=ops) (i:=j) (rest:=td) px;rw[ho]at GC;simp only[ZZ]at GC;obtain⟨BU,BC,GA,AY,g1,g2,g3,g4⟩:=Qr hE td (Ev.put tm i.dst (.BM [])) h AC (a.put o.dst undef) w (by rw[h1];exact ht.aW h2 (.BM .nil)) hr;exact⟨BU,BC,GA,AY,g1,by rw[g2];cases o.dst<;>rfl,λhn=> .head GC (g3 (by rw[e]at hn;exact hn)),by rw[e];exact g4⟩
   |true=>
    have VP:∀x,exec i.op h tm=x->¬VF x->∃BU BC GA AY,BF.le AC BU/\BC.defers=a.defers/\
      (OR.at_ i (td.map (Cd E nt ops)) tm h x≠ .fail->Steps P (lone (b.atR a (.inRegion ops (j::td)::k)) cs w) (lone (b.atR BC (.inRegion ops GA::k)) cs AY))/\
      Vz E nt ops w0 (OR.at_ i (td.map (Cd E nt ops)) tm h x) BU BC GA AY:=by
     intro x hx hv
     exact⟨AC,a,j::td,w,.refl _,rfl,λ_=> .refl _ _,j,td,o,rfl,ho,hi.symm,rfl,h1,h2,RL,by rw[<-h4];exact hx,hv,ht,hr⟩
    cases hx:exec i.op h tm with
    |fail=>exact tI (r:= .fail) iN
    |val v AA=>
     rw[h4]at hx;have lX:=Qo hr.hr ht.RO hE hx;obtain⟨au,AQ,w1,⟨s1,_⟩,s2,s3,s4,s5⟩:=lX;have s4:=hr.to s4 s5;have HA:∀c,o.op≠ .defer c:=by
      intro c e;rw[e]at hx;simp only[Ar]at hx;split at hx;.simp only[exec]at hx;split at hx<;>cases hx
      .simp[exec]at hx
     have GC:=Im (b:=b) (cs:=cs) (k:=k) (rest:=td) ho RL HA s2;have e:Dr (i::td.map (Cd E nt ops)) tm h=Dr (td.map (Cd E nt ops)) (Ev.put tm i.dst v) AA:=(by rw[<-h4]at hx;simp only[Dr,hw,hx]);obtain⟨BU,BC,GA,AY,g1,g2,g3,g4⟩:=Qr hE td (Ev.put tm i.dst v) AA au (a.put o.dst AQ) w1 (by rw[h1];exact(ht.mono s1).aW h2 s3) s4;exact⟨BU,BC,GA,AY,s1.trans g1,by rw[g2];cases o.dst<;>rfl,λhn=> .head GC (g3 (by rw[e]at hn;exact hn)),by rw[e];exact g4⟩
    |call f args=>have e:Dr (i::td.map (Cd E nt ops)) tm h= .at_ i (td.map (Cd E nt ops)) tm h (.call f args):=iN;rw[e];exact VP _ hx mA
    |EQ f args=>have e:Dr (i::td.map (Cd E nt ops)) tm h= .at_ i (td.map (Cd E nt ops)) tm h (.EQ f args):=iN;rw[e];exact VP _ hx mA
    |G0 v=>have e:Dr (i::td.map (Cd E nt ops)) tm h= .at_ i (td.map (Cd E nt ops)) tm h (.G0 v):=iN;rw[e];exact VP _ hx mA
    |recover=>have e:Dr (i::td.map (Cd E nt ops)) tm h= .at_ i (td.map (Cd E nt ops)) tm h .recover:=iN;rw[e];exact VP _ hx mA
    |next ws=>have e:Dr (i::td.map (Cd E nt ops)) tm h= .at_ i (td.map (Cd E nt ops)) tm h (.next ws):=iN;rw[e];exact VP _ hx mA
end
section
variable {F:T DY}{CE:List Frame}
theorem JO.steps{o:Out}{m m1:Machine}(hs:Steps P m m1)(hg:JO P E w0 CE o m1):JO P E w0 CE o m:=by
 cases o with
 |one c=>obtain⟨GF,a,b⟩:=hg;exact⟨GF,hs.trans a,b⟩
 |many l=>obtain⟨c,hc,GF,a,b⟩:=hg;exact⟨c,hc,GF,hs.trans a,b⟩
 |done fn v h=>obtain⟨fr,w,AC,AQ,a,b⟩:=hg;exact⟨fr,w,AC,AQ,hs.trans a,b⟩
 |fail=>trivial
structure OG (AC:BF)(fn:Nat)(AL:Bool)(ro:Option Nat)(b:Frame):Prop where
 fn:b.fn=fn
 kind:b.kind=D4 AL
 ro:WV AC ro b.roundOf
theorem OG.mono(hp:BF.le AC BU){ro:Option Nat}(h:OG AC fn AL ro b):OG BU fn AL ro b:=⟨h.fn,h.kind,h.ro.mono hp⟩
theorem OG.FR{ro:Option Nat}(h:OG AC fn AL ro b){ds:List HN}(ht:TR AC nt tm a.tmps)(hd:KA AC ds a.defers)(hi:MF E AC nt todo OU):Ev.FR E AC ⟨fn,nt,tm,todo,ds,.run,AL,ro⟩ (b.atR a OU):=⟨h.fn,h.kind,h.ro,hd,.run,.plain ht hi,λh=>absurd (hi.noD.symm.trans h) PI⟩
end
theorem HR.grow{w0:Array Obj}{m:Array Obj}(hr:HR E w0 AC h m)(hn:h.n<=AA.n)(hb:∀b,b<h.n->H.get AA b=H.get h b):HR E w0 AC AA m:=by
 have ex:∀{b:Nat} {l:Loc} {x:DV},AC b=some l->H.get AA b=some x->H.get h b=some x:=λBY hx=>by rw[hb _ (hr.bound _ _ BY)]at hx;exact hx
 exact⟨λb l BY=>IF (hr.bound b l BY) hn,hr.SG,λb l x BY hx=>hr.FH b l x BY (ex BY hx),λb AR l AT x Cb h1 h2 h3 h4=>hr.inj b AR l AT x Cb h1 h2 (ex h1 h3) (ex h2 h4),λb l x BY hx=>hr.own b l x BY (ex BY hx),hr.old,hr.size⟩
section
variable {bn:Nat->Option Nat}
structure Pd (E:Env)(w0:World)(nt:Nat)(Rg:SZ)(k:Nat)(AC:BF)(tm:T AV)(h:H)(bn:Nat->Option Nat)(D td:List Nat)(tmps:Array Value)(m:World):Prop where
 hr:HW E w0 AC h m
 ds:DS E nt Rg k D td
 tr:YC E AC nt Rg k td tm tmps
 pf:∀j∈td,nR E nt Rg k j->FN E nt Rg j≠2->PF E nt Rg tm h j
 pm:∀j∈td,nR E nt Rg k j->FN E nt Rg j=2->PM E nt Rg tm h (bn j) j/\∀b,bn j=some b->AC b=none/\b<h.n
 inj:∀i j b,bn i=some b->bn j=some b->i=j
theorem YC.step(ht:YC E AC nt Rg k (j::td) tm a.tmps){d:Option Nat}(hd:Pr nt d=true)(hj:(IU E nt Rg j).dst=d){u:AV}(hh:I8 tm d u)(hv:VR AC u AQ):YC E AC nt Rg k td tm (a.put d AQ).tmps:=by
 have DE:(a.put d AQ).tmps.size=a.tmps.size:=by cases d<;>simp[Act.put]
 refine⟨by rw[DE];exact ht.size,λt v hg hp=>?_⟩;by_cases e:d=some t
 .subst e;have BX:t<a.tmps.size:=by rw[ht.size];exact Al hd
  rw[hh t rfl]at hg;cases hg;show VR AC _ ((a.tmps.setIfInBounds t AQ).getD t undef);rw[J4 _ _ _ _ _ BX,AP rfl];exact hv
 .have hold:(a.put d AQ).tmps.getD t undef=a.tmps.getD t undef:=by
   cases d with
   |none=>rfl
   |some d=>have BX:d<a.tmps.size:=(by rw[ht.size];exact Al hd);show((a.tmps.setIfInBounds d AQ).getD t undef)=_;rw[J4 _ _ _ _ _ BX,AM (λBG=>e (by rw[BG]))]
  rw[hold];refine ht.val t v hg λi hi tw=>?_;rcases DD.1 hi with BG|hi
  .subst BG;rw[hj];exact e
  .exact hp i hi tw
theorem ahd(hE:DG P E)(hp:Pd E w0 nt Rg k AC tm h bn D (j::td) a.tmps w)(hc:FN E nt Rg j≠3):∃BU BC AY,Go.step P (lone (b.atR a (.inRegion Rg.ops (j::td)::AZ)) cs w)= .next (lone (b.atR BC (.inRegion Rg.ops td::AZ)) cs AY)/\BF.le AC BU/\BC.defers=a.defers/\Pd E w0 nt Rg k BU tm h bn (j::D) td BC.tmps AY:=by
 obtain⟨g1,g2,g3,g4⟩:=hp.ds.head;have SH:=hp.ds.ak5 hc;have hT:TR AC nt (only tm (OT Rg j)) a.tmps:=acm hp.tr.size (hp.ds.names hp.tr);rcases Kd E nt Rg.ops j with NH|⟨o,ho,h1,h2,h3,h4⟩;.exfalso;apply hc;unfold FN;rw[NH];rfl
 have oj:=hp.ds.next hc;have hnt:∀i∈td,i≠j:=λi hi e=>(g4.apart i hi).1 (e ▸ DW ..);have aiy:∀v,(a.put o.dst v).defers=a.defers:=by intro v;cases o.dst<;>rfl
 have fin:∀(BU:BF) (u:AV) (AQ:Value) (AY:World),BF.le AC BU->HW E w0 BU h AY->I8 tm (IU E nt Rg j).dst u->VR BU u AQ->(∀i∈td,∀b,bn i=some b->AC b=none->b<h.n->BU b=none)->
   Go.step P (lone (b.atR a (.inRegion Rg.ops (j::td)::AZ)) cs w)= .next (lone (b.atR (a.put o.dst AQ) (.inRegion Rg.ops td::AZ)) cs AY)->
   ∃BU BC AY,Go.step P (lone (b.atR a (.inRegion Rg.ops (j::td)::AZ)) cs w)= .next (lone (b.atR BC (.inRegion Rg.ops td::AZ)) cs AY)/\BF.le AC BU/\BC.defers=a.defers/\
    Pd E w0 nt Rg k BU tm h bn (j::D) td BC.tmps AY:=by
  intro BU u AQ AY hle HY hh hv TL GC
  refine⟨BU,a.put o.dst AQ,AY,GC,hle,aiy AQ,HY,oj,(hp.tr.mono hle).step h2 h1 (by rw[<-h1];exact hh) hv,?_,?_,hp.inj⟩
  .exact λi hi=>hp.pf i (Ck _ hi)
  .intro i hi tw h2
   obtain⟨q1,q2⟩:=hp.pm i (Ck _ hi) tw h2
   exact⟨q1,λb hb=>⟨TL i hi b hb (q2 b hb).1 (q2 b hb).2,(q2 b hb).2⟩⟩
 have HA:∀c,o.op≠ .defer c:=by intro c e;apply hc;unfold FN;rw[h4,e];simp only[Ar];split<;>rfl
 have skip:wanted (only tm (OT Rg j)) (IU E nt Rg j).guard=some false->I8 tm (IU E nt Rg j).dst (.BM [])->
   ∃BU BC AY,Go.step P (lone (b.atR a (.inRegion Rg.ops (j::td)::AZ)) cs w)= .next (lone (b.atR BC (.inRegion Rg.ops td::AZ)) cs AY)/\BF.le AC BU/\BC.defers=a.defers/\
    Pd E w0 nt Rg k BU tm h bn (j::D) td BC.tmps AY:=by
  intro hw hh
  have RL:=Es hT h3 hw
  have GC:=stepR_op_skip (P:=P) (b:=b) (a:=a) (k:=AZ) (cs:=cs) (w:=w) (ops:=Rg.ops) (i:=j) (rest:=td) px
  rw[ho]at GC
  simp only[ZZ]at GC
  exact fin AC (.BM []) undef w (.refl _) hp.hr hh (.BM .nil) (λ_ _ _ _ h _=>h) GC
 by_cases hm:FN E nt Rg j=2
 .obtain⟨q1,q2⟩:=hp.pm j (DW ..) SH hm;rcases q1 with⟨_,hw,hh⟩|⟨bk,FH,h0,v,e1,hw,hx,e2,hh,hg⟩;.exact skip hw hh
  .have RL:=Es hT h3 hw;have ZH:exec (Ar E o.op) h0 (only tm (OT Rg j))= .val v (H.new h0 FH):=(by rw[<-h4];exact hx);have NV:cls (Ar E o.op)=2:=(by rw[<-h4];exact hm);obtain⟨AQ,ob,l,abb,s1,s2,s3,s4,s5⟩:=Ai4 (w:=w) hT.RO hE NV ZH;have UH:abb=FH:=by
    have:H.get (H.new h0 FH) h0.n=H.get (H.new h0 abb) h0.n:=(by rw[s2]);rw[H.bP,AP rfl,H.bP,AP rfl]at this
    cases this;rfl
   subst UH;subst e2;obtain⟨q3,q4⟩:=q2 _ e1;obtain⟨s6,s7⟩:=s5 _ (BF.YY l q3) (BF.NM _ _ _);have HY:=hp.hr.hr.alloc (l:=l) s3 q3 (BD _) q4 hg (λ_ _ _=>rfl) s7 s4;have GC:=Im (b:=b) (cs:=cs) (k:=AZ) (rest:=td) (P:=P) ho RL HA (.inl s1);refine fin (AC.AX h0.n l) v AQ (w.alloc ob) (BF.YY l q3) (hp.hr.to (AY:=w.alloc ob) HY ⟨rfl,rfl,rfl⟩) hh s6 ?_ GC;intro i hi bi YK ZE _;rw[BF.CB _ _ (λe=>hnt i hi (hp.inj i j bi YK (by rw[e1,e])))];exact ZE
 .have hO:=hp.pf j (DW ..) SH hm;rcases hO with⟨hw,hh⟩|⟨hw,v,Zx,hx,hh⟩;.exact skip hw hh
  .have RL:=Es hT h3 hw;have ais:cls (IU E nt Rg j).op=0\/cls (IU E nt Rg j).op=1:=by
    rcases Oq hc with h|h|h;.exact .inl h
    .exact .inr h
    .exact absurd h hm
   have hk:=L4 ais hx;subst hk;have ZH:exec (Ar E o.op) Zx (only tm (OT Rg j))= .val v Zx:=(by rw[<-h4];exact hx);have lX:=Qo hp.hr.hr hT.RO hE ZH;obtain⟨au,AQ,w1,⟨s1,s1'⟩,s2,s3,s4,s5⟩:=lX;have GC:=Im (b:=b) (cs:=cs) (k:=AZ) (rest:=td) ho RL HA s2;refine fin au v AQ w1 s1 (hp.hr.to s4 s5) hh s3 ?_ GC;intro i hi bi YK ZE BX;rw[s1' bi om];exact ZE
theorem X4(hE:DG P E):∀(td D:List Nat) (AC:BF) (a:Act) (w:World),Pd E w0 nt Rg k AC tm h bn D td a.tmps w->∃BU BC AY CV GA,Steps P (lone (b.atR a (.inRegion Rg.ops td::AZ)) cs w) (lone (b.atR BC (.inRegion Rg.ops GA::AZ)) cs AY)/\BF.le AC BU/\BC.defers=a.defers/\Pd E w0 nt Rg k BU tm h bn CV GA BC.tmps AY/\(GA=[]\/∃j r,GA=j::r/\FN E nt Rg j=3)
 | [],D,AC,a,w,hp=>⟨AC,a,w,D,[],.refl _ _,.refl _,rfl,hp,.inl rfl⟩
 |j::td,D,AC,a,w,hp=>by
  by_cases hc:FN E nt Rg j=3;.exact⟨AC,a,w,D,j::td,.refl _ _,.refl _,rfl,hp,.inr ⟨j,td,rfl,hc⟩⟩
  .obtain⟨au,a1,w1,s1,s2,s3,s4⟩:=ahd (b:=b) (cs:=cs) (AZ:=AZ) hE hp hc;obtain⟨BU,BC,AY,CV,GA,g1,g2,g3,g4,g5⟩:=X4 hE td (j::D) au a1 w1 s4;exact⟨BU,BC,AY,CV,GA,.head s1 g1,s2.trans g2,by rw[g3,s3],g4,g5⟩
end
section
variable {CE:List Frame}
variable {ro:Option Nat}{ds:List HN}{kk:DO}{mN:List Item}{xs:FM}
theorem Ai9(k:Nat):(F8 (ne' E nt Rg) (BL E nt Rg) k).map Ig=((List.range Rg.ops.size).filter λj=>!(Nat.beq (FN E nt Rg j) 3)&&Nat.beq (IN E nt Rg j) k).map λj=>Ig (HI E nt Rg j):=by unfold F8 ne' D6 A4;rw[List.filter_map,List.filter_map,WL,List.filter_filter];congr 1;refine List.filter_congr λj _=>?_;simp only[Function.comp];rw[Bool.and_comm];rfl
theorem eO:j∈((List.range Rg.ops.size).filter λj=>!(Nat.beq (FN E nt Rg j) 3)&&Nat.beq (IN E nt Rg j) k)↔j<Rg.ops.size/\FN E nt Rg j≠3/\IN E nt Rg j=k:=by
 rw[JZ,KI,KQ];constructor;.rintro⟨h1,h2,h3⟩;refine⟨h1,λe=>?_,As h3⟩;rw[e]at h2;simp at h2
 .rintro⟨h1,h2,h3⟩;refine⟨h1,?_,by rw[h3];exact OE _⟩
  cases hb:Nat.beq (FN E nt Rg j) 3 with
  |false=>rfl
  |true=>exact absurd (As hb) h2
theorem alc(hm:Ps (F8 (ne' E nt Rg) (BL E nt Rg) k)=false)(hj:j<Rg.ops.size)(hc:FN E nt Rg j≠3)(hk:IN E nt Rg j=k):FN E nt Rg j≠2:=by
 intro h2;unfold Ps at hm;rw[List.any_eq_false]at hm;have:HI E nt Rg j∈F8 (ne' E nt Rg) (BL E nt Rg) k:=by unfold F8;rw[JZ];refine⟨iW.2 ⟨j,hj,rfl,hc⟩,?_⟩;show Nat.beq (IN E nt Rg j) k=true;rw[hk];exact OE _
 have h3:=hm _ this;apply h3;show Nat.beq (FN E nt Rg j) 2=true;rw[h2];rfl
theorem Rv(hE:DG P E){pre By:List DI}{l:List Ph}(hr:HW E w0 AC h w)(hb:OG AC fn AL ro b)(hd:KA AC ds a.defers)(hk:MF E AC nt kk mN)(CK:LD E AC xs cs)(hs:DS E nt Rg k D td)(DE:a.tmps.size=nt)(ht:∀t v,T.get tm t=some v->(∀j∈td,FN E nt Rg j≠3->IN E nt Rg j<k->(IU E nt Rg j).dst≠some t)->VR AC v (a.tmps.getD t undef))(PG:∀j,j<Rg.ops.size->FN E nt Rg j≠3->IN E nt Rg j=k->j∉D)(dh:∀j∈td,FN E nt Rg j=2->¬(IN E nt Rg j<k))(ab9:pre=(F8 (ne' E nt Rg) (BL E nt Rg) k).map Ig)(VS:∀j∈td,FN E nt Rg j≠3->FN E nt Rg j≠2->(IN E nt Rg j<k\/(IN E nt Rg j=k/\FN E nt Rg j=1/\Ps (F8 (ne' E nt Rg) (BL E nt Rg) k)=true))->Ig (HI E nt Rg j)∈By)(hl:l=Bz (ne' E nt Rg) (BL E nt Rg) ((BL E nt Rg).drop k) k):JO P E w0 CE (Dk pre By l kk fn nt tm ds AL ro xs h) (lone (b.atR a (.inRegion Rg.ops td::mN)) (cs++CE) w):=by
 unfold Dk
 cases hpu:Ho pre tm h with
 |none=>exact trivial
 |some q=>
  obtain⟨FV,AA⟩:=q;simp only
  cases TC:NF By FV AA with
  |false=>exact trivial
  |true=>
   simp only;rw[ab9,Ai9]at hpu;obtain⟨bn,R⟩:=Ul hs.XO _ _ _ _ _ hpu (List.Pairwise.filter _ List.pairwise_lt_range) (λj hj=>⟨(eO.1 hj).1,(eO.1 hj).2.1,(eO.1 hj).2.2⟩);have htd:∀j,j<Rg.ops.size->FN E nt Rg j≠3->IN E nt Rg j=k->j∈td:=λj h1 h2 h3=>(hs.ext.all j h1).resolve_left (PG j h1 h2 h3);have hP:Pd E w0 nt Rg k AC FV AA bn D td a.tmps w:=by
    refine⟨⟨hr.hr.grow R.n R.FH,hr.YZ⟩,hs,⟨DE,λt v hg hp=>?_⟩,?_,?_,R.inj⟩
    .have e:T.get FV t=T.get tm t:=R.tm t λj hj=>by obtain⟨q1,q2,q3⟩:=eO.1 hj;exact hp j (htd j q1 q2 q3) ⟨q2,om⟩
     exact ht t v (e ▸ hg) λj hj h1 h2=>hp j hj ⟨h1,om⟩
    .intro j hj UL h2;obtain⟨p1,p2⟩:=UL;have XB:=(hs.ext.apart j hj).2;by_cases BX:IN E nt Rg j<k;.exact X3 (L5 TC _ (VS j hj p1 h2 (.inl BX)))
     .have oy:IN E nt Rg j=k:=om;have TK:=eO.2 ⟨XB,p1,oy⟩;rcases Oq p1 with h0|h0|h0;.exact R.pf j TK h2 (.inl h0)
      .cases hm:Ps (F8 (ne' E nt Rg) (BL E nt Rg) k)with
       |true=>exact X3 (L5 TC _ (VS j hj p1 h2 (.inr ⟨oy,h0,hm⟩)))
       |false=>refine R.pf j TK h2 (.inr λi hi=>?_);obtain⟨q1,q2,q3⟩:=eO.1 hi;exact alc hm q1 q2 q3
      .exact absurd h0 h2
    .intro j hj UL h2;obtain⟨p1,p2⟩:=UL;have XB:=(hs.ext.apart j hj).2;have oy:IN E nt Rg j=k:=(by have:=dh j hj h2;omega);refine⟨R.mZ j (eO.2 ⟨XB,p1,oy⟩) h2,λb hb=>?_⟩;obtain⟨r1,r2⟩:=R.Ym j b hb;refine⟨?_,r2⟩
     cases BY:AC b with
     |none=>rfl
     |some lo=>have:=hr.hr.bound b lo BY;omega
   obtain⟨BU,BC,AY,CV,GA,g1,g2,g3,g4,g5⟩:=X4 (b:=b) (cs:=cs++CE) (AZ:=mN) hE td D AC a w hP;refine .steps g1 ?_;have MT:KA BU ds BC.defers:=(by rw[g3];exact hd.mono g2);rcases g5 with rfl|⟨j,r,rfl,TB⟩;.have hlen:=g4.ds.fin;rw[List.drop_eq_nil_of_le hlen]at hl;simp only[Bz]at hl;subst hl;have hT:TR BU nt FV BC.tmps:=⟨g4.tr.size,λt v hg=>g4.tr.val t v hg λj hj=>by cases hj⟩;exact⟨_,.one stepR_region_end,BU,_,cs,AY,rfl,(hb.mono g2).FR hT MT (hk.mono g2),CK.mono g2,g4.hr⟩
   .obtain⟨e,he,lG⟩:=g4.ds.X0 TB;have BX:k<(BL E nt Rg).length:=(FE.1 he).1;have PE:(BL E nt Rg).drop k=e::(BL E nt Rg).drop (k+1):=k18;rw[PE]at hl;simp only[Bz]at hl;subst hl;subst lG;refine⟨_,.refl _ _,BU,_,cs,AY,rfl,?_,CK.mono g2,g4.hr⟩;refine⟨(hb.mono g2).fn,(hb.mono g2).kind,(hb.mono g2).ro,MT,.run,?_,λ_=>rfl⟩;refine .drawn g4.ds he ?_ g4.tr (hk.mono g2);rw[PE];rfl
theorem i7(hj:j<Rg.ops.size)(hc:FN E nt Rg j≠3)(h2:FN E nt Rg j≠2)(h:(IN E nt Rg j<=k/\tb e.bits j=false)\/(IN E nt Rg j=k+1/\FN E nt Rg j=1/\Ps (F8 (ne' E nt Rg) (BL E nt Rg) (k+1))=true)):Ig (HI E nt Rg j)∈(ik (ne' E nt Rg) (BL E nt Rg) e k).map Ig:=by
 refine DK.2 ⟨_,?_,rfl⟩;unfold ik;rw[JZ];refine⟨iW.2 ⟨j,hj,rfl,hc⟩,?_⟩;have hb:Nat.beq (Od (HI E nt Rg j)) 2=false:=by
  cases hb:Nat.beq (Od (HI E nt Rg j)) 2 with
  |false=>rfl
  |true=>exact absurd (As hb) h2
 rw[hb];simp only;have ZB:QJ (BL E nt Rg) (HI E nt Rg j)=IN E nt Rg j:=rfl;rw[ZB];rcases h with⟨h1,h3⟩|⟨h1,h3,h4⟩
 .have:Nat.ble (IN E nt Rg j) k=true:=by rw[PQ];exact h1
  rw[this];simp only;show(!tb e.bits j)=true;rw[h3];rfl
 .have:Nat.ble (IN E nt Rg j) k=false:=by
   cases hb:Nat.ble (IN E nt Rg j) k with
   |false=>rfl
   |true=>have:=Al hb;omega
  rw[this];have NV:Od (HI E nt Rg j)=1:=h3;simp only[h1,NV,Nat.succ_eq_add_one,h4,Bool.and_true];rw[show Nat.beq (k+1) (k+1)=true from OE _];rfl
theorem Rw(hE:DG P E){p:Ph}{l:List Ph}(hr:HW E w0 AC h w)(hb:OG AC fn AL ro b)(hd:KA AC ds a.defers)(hk:MF E AC nt kk mN)(CK:LD E AC xs cs)(hs:DS E nt Rg k D (e.j::td))(he:(BL E nt Rg)[k]?=some e)(hp:Bz (ne' E nt Rg) (BL E nt Rg) ((BL E nt Rg).drop k) k=p::l)(ht:YC E AC nt Rg k (e.j::td) tm a.tmps)(h1:(Cd E nt Rg.ops e.j).dst=o.dst)(h2:Pr nt o.dst=true)(hv:VR AC v AQ):JO P E w0 CE (Dk p.pre p.By l kk fn nt (put tm o.dst v) ds AL ro xs h) (lone (b.atR (a.put o.dst AQ) (.inRegion Rg.ops td::mN)) (cs++CE) w):=by
 obtain⟨e1,e2,e3,e4⟩:=H5 he;obtain⟨g1,g2,g3,g4⟩:=hs.head;have BX:k<(BL E nt Rg).length:=(FE.1 he).1;have PE:(BL E nt Rg).drop k=e::(BL E nt Rg).drop (k+1):=by rw[ST BX];have:=(FE.1 he).2;rw[this]
 rw[PE]at hp;simp only[Bz,Yr]at hp;obtain⟨rfl,rfl⟩:=hp;have dU:(a.put o.dst AQ).defers=a.defers:=by cases o.dst<;>rfl
 have DE:(a.put o.dst AQ).tmps.size=a.tmps.size:=by cases o.dst<;>simp[Act.put]
 refine Rv (a:=a.put o.dst AQ) (k:=k+1) hE hr hb (by rw[dU];exact hd) hk CK (hs.aj8 e3) (by rw[DE];exact ht.size) ?_ ?_ ?_ rfl ?_ rfl
 .intro t u hg VY;rw[Qq]at hg;by_cases BG:o.dst=some t;.rw[AP BG]at hg;cases hg;rw[BG]at h2 ⊢;have BX:t<a.tmps.size:=(by rw[ht.size];exact Al h2);show VR AC v ((a.tmps.setIfInBounds t AQ).getD t undef);rw[J4 _ _ _ _ _ BX,AP rfl];exact hv
  .rw[AM BG]at hg;have hold:(a.put o.dst AQ).tmps.getD t undef=a.tmps.getD t undef:=by
    cases aF:o.dst with
    |none=>rfl
    |some d=>rw[aF]at h2 BG;have BX:d<a.tmps.size:=(by rw[ht.size];exact Al h2);show((a.tmps.setIfInBounds d AQ).getD t undef)=_;rw[J4 _ _ _ _ _ BX,AM (λkP=>BG (by rw[kP]))]
   rw[hold];refine ht.val t u hg λj hj UL=>?_;rcases DD.1 hj with kP|hj
   .rw[kP]at UL;exact absurd e3 UL.1
   .exact VY j hj UL.1 (by have:=UL.2;omega)
 .intro j hj hc ZB hd;rcases DD.1 hd with BG|hd;.rw[BG]at hc;exact hc e3
  .exact g2 (hs.cl j hd _ (Rt hs.XO hj hc (by omega:k<IN E nt Rg j) he))
 .intro j hj hc ZB;obtain⟨q1,q2⟩:=g4.apart j hj;exact q1 (Ck _ (g3 j (Ug hs.XO q2 hc om he)))
 .intro j hj hc VQ Lt;obtain⟨q1,q2⟩:=g4.apart j hj;refine i7 q2 hc VQ ?_;rcases Lt with h3|h3
  .refine .inl ⟨om,?_⟩
   cases hb:tb e.bits j with
   |false=>rfl
   |true=>rw[e4]at hb;exact absurd (Ck _ (g3 j hb)) q1
  .exact .inr h3
end
variable {GP:Array Value}{CE:List Frame}{ds:List HN}{f l r:Nat}{fr:Frame}{m:Machine}{p:Prop}{x:EW}{xs:FM}
section
variable {F:T DY}
def Gf(c:Frame):Frame:=
 match c.mode with
 | .panicking ({recovered:=true,..}::akr)=>
  match akr.dropWhile (!·.goexit)with
  | []=>{c with mode:= .returning}
  |rest=>{c with mode:= .panicking rest}
 |_=>c
theorem CR.akc{l:List (AV×Bool)}{AT:List PanicEntry}(h:CR AC l AT):AT.dropWhile (!·.goexit)=[]:=by
 induction h with
 |nil=>rfl
 |cons _ _ ih=>rw[List.dropWhile_cons];simpa using ih
theorem pu(hf:FR E AC x fr):FR E AC {x with mode:=Ev.settle x.mode} (Gf fr):=by
 obtain⟨fn,tmps,todo,defers,mode,kind,ro⟩:=fr;obtain⟨UV,OV,Yp,cN,ae,fH,TU,WJ⟩:=x;obtain⟨h1,h2,h3,h4,h5,h6,h7⟩:=hf;simp only at h1 h2 h3 h4 h5 h6 h7
 cases h5 with
 |run=>exact⟨h1,h2,h3,h4,.run,h6,λ_=>rfl⟩
 |returning=>exact⟨h1,h2,h3,h4,.returning,h6,h7⟩
 |panicking hc=>
  cases hc with
  |nil=>exact⟨h1,h2,h3,h4,.panicking .nil,h6,h7⟩
  | @cons v AQ b l AT hv hs=>
   cases b with
   |false=>exact⟨h1,h2,h3,h4,.panicking (.cons hv hs),h6,h7⟩
   |true=>have:=hs.akc;refine⟨?_,?_,?_,?_,?_,?_,λh=>(by cases h7 h)⟩<;>simp only[Gf,this,Ev.settle]<;>first|assumption|exact .returning
theorem L6(hr:HW E w0 AC h w)(hf:FR E AC x fr)(CK:LD E AC xs cs)(hv:VR AC v AQ)(hE:DG P E)(hm:Steps P m (lone (fr.finish AQ) (cs++CE) w)):JO P E w0 CE (finish v xs h x) m:=by
 obtain⟨fn,tmps,todo,defers,mode,kind,ro⟩:=fr;obtain⟨UV,OV,Yp,cN,ae,fH,TU,WJ⟩:=x;obtain⟨h1,h2,h3,h4,h5,h6,h7⟩:=hf;simp only at h1 h2 h3 h4 h5 h6 h7
 cases h5 with
 |returning=>exact trivial
 |panicking _=>exact trivial
 |run=>
  cases h6 with
  |plain ht hi=>
   cases hi with
   |nil=>exact trivial
   | @cons _ _ kx OQ hi hk=>
    cases hi with
    |ops ops td=>
     cases td with
     |nil=>exact trivial
     |cons j rest=>
      simp only[finish,FU];rcases Kd E OV ops j with NH|⟨o,ho,q1,q2,q3,q4⟩;.rw[NH];exact trivial
      .generalize PD:Cd E OV ops j=i at q1 q3 q4;obtain⟨dst,g,op⟩:=i;simp only at q1;subst q1;have lK:JO P E w0 CE (.one ⟨⟨UV,OV,Ev.put Yp o.dst v,.ops (rest.map (Cd E OV ops))::kx,ae,.run,TU,WJ⟩,xs,h⟩) m:=by
        refine⟨_,hm,AC,_,cs,w,rfl,⟨?_,?_,?_,?_,?_,?_,?_⟩,CK,hr⟩;.exact h1
        .exact h2
        .exact h3
        .exact h4
        .exact .run
        .simp only[Frame.finish,ho,ZZ];have hp:=TR.aW (a:=⟨tmps,defers⟩) ht q2 hv;refine .plain ?_ (.cons (.ops ops rest) hk)
         cases aF:o.dst with
         |none=>rw[aF]at hp;exact hp
         |some d=>rw[aF]at hp;exact hp
        .exact λh=>by cases h
       cases op<;>first|exact trivial|exact lK
    |XH hl=>refine⟨_,hm,AC,_,cs,w,rfl,⟨h1,h2,h3,h4,.run,?_,λh=>by cases h⟩,CK,hr⟩;exact .plain ht (.cons (.VL hl) hk)
    |_=>exact trivial
  |gone ht=>exact trivial
  | @drawn Rg k D td e p l kx _ OQ hs he hp ht hi=>
   obtain⟨⟨⟨dst,g,op⟩,nms⟩,pre,By⟩:=p;simp only[finish];have dr:=hp;have BX:k<(BL E OV Rg).length:=(FE.1 he).1;have PE:(BL E OV Rg).drop k=e::(BL E OV Rg).drop (k+1):=k18;rw[PE]at hp;simp only[Bz,Yr,Ph.mk.injEq]at hp;obtain⟨⟨hed,ab9,VS⟩,hl⟩:=hp;have PD:Cd E OV Rg.ops e.j=⟨dst,g,op⟩:=(by have h1:e.d=⟨Cd E OV Rg.ops e.j,Qk Rg.ops e.j⟩:=(by have:=(H5 he).2.1;rw[this];rfl);rw[h1]at hed;exact HT DI.ci hed);rcases Kd E OV Rg.ops e.j with NH|⟨o,ho,q1,q2,q3,q4⟩;.rw[PD]at NH;cases NH;exact trivial
   .have hdo:dst=o.dst:=(by rw[PD]at q1;exact q1);subst hdo;have lK:JO P E w0 CE (Dk pre By l kx UV OV (put Yp o.dst v) ae TU WJ xs h) m:=by
     refine .steps hm ?_;have hb:OG AC UV TU WJ (⟨fn,tmps,.inRegion Rg.ops (e.j::td)::OQ,defers,.run,kind,ro⟩:Frame):=⟨h1,h2,h3⟩;have:=Rw (a:=⟨tmps,defers⟩) (b:=⟨fn,tmps,.inRegion Rg.ops (e.j::td)::OQ,defers,.run,kind,ro⟩) (P:=P) (CE:=CE) hE hr hb h4 hi CK hs he dr ht (o:=o) (by rw[PD]) q2 hv;have hf:((⟨fn,tmps,.inRegion Rg.ops (e.j::td)::OQ,defers,.run,kind,ro⟩:Frame).finish AQ)=(⟨fn,tmps,.inRegion Rg.ops (e.j::td)::OQ,defers,.run,kind,ro⟩:Frame).atR ((⟨tmps,defers⟩:Act).put o.dst AQ) (.inRegion Rg.ops td::OQ):=by
      simp only[Frame.finish,ho,ZZ]
      cases o.dst<;>rfl
     rw[hf];exact this
    cases op<;>first|exact trivial|exact lK
def L0(AL:Bool)(v:Value)(c:Frame):Frame:=match AL with|true=>Gf c|false=>c.finish v
theorem Rx(hE:DG P E)(hr:HW E w0 AC h w)(CK:LD E AC xs cs)(hv:VR AC v AQ)(hm:∀c rest,cs++CE=c::rest->Go.step P m= .next (lone (L0 AL AQ c) rest w)):JO P E w0 CE (Of AL v xs h) m:=by
 cases CK with
 |nil=>exact trivial
 | @cons x fr xs cs hf CK=>
  have hm:=hm fr (cs++CE) rfl
  cases AL with
  |true=>have:=pu hf;exact⟨_,.one hm,AC,_,cs,w,rfl,this,CK,hr⟩
  |false=>exact L6 hr hf CK hv hE (.one hm)
theorem aol{n:Nat}(ha:CQ AC args GP.toList)(hn:args.length<=n):TR AC n (JI 0 .leaf args) (GP++Array.replicate (n- GP.size) undef):=by
 have hlen:=ha.length;simp only[WP]at hlen;refine⟨by simp;omega,λt v ht=>?_⟩;rw[K3]at ht;by_cases BX:t<args.length;.rw[AP om,WK]at ht;obtain⟨AQ,h1,h2⟩:=ha.get ht;rw[UY]at h1;rw[Xr,Array.getElem?_append_left om,h1];exact h2
 .rw[AM om]at ht
  cases ht
theorem Ry(hT:PA P E F){g:DY}(hg:T.get F f=some g)(ha:CQ AC args GP.toList)(hn:args.length<=g.ntmps):FR E AC ⟨f,g.ntmps,JI 0 .leaf args,[.code g.body],[],.run,AL,none⟩ (Frame.enter P f GP (D4 AL)):=by obtain⟨fn,c,h1,h2,h3,rfl⟩:=hT.fn f g hg;refine⟨rfl,rfl,.none,.nil,.run,?_,λh=>TS⟩;simp only[Frame.enter,h1,KR,MC,ZZ,h3];exact .plain (aol ha hn) (.cons (.code c) .nil)
theorem P5{n:Nat}:∀{ps:List Nat} {args:List AV} {GP:List Value} {tm FV:T AV} {tmps:Array Value},C6 ps args tm=some FV->CQ AC args GP->TR AC n tm tmps->(∀p∈ps,p<n)->ps.length=GP.length/\TR AC n FV ((ps.zip GP).foldl (λ(tmps:Array Value) (x:Nat×Value)=>tmps.setIfInBounds x.1 x.2) tmps)
 | [],[],_,tm,FV,tmps,h,ha,ht,_=>by cases ha;simp only[C6,DB]at h;subst h;exact⟨rfl,ht⟩
 |p::ps,a::JQ,_,tm,FV,tmps,h,ha,ht,hp=>by
  cases ha with
  |cons hv hs=>simp only[C6]at h;have:=ht.put (d:=some p) (by show Nat.ble (p+1) n=true;rw[PQ];exact hp p (DW ..)) hv;obtain⟨q1,q2⟩:=P5 h hs this (λq hq=>hp q (Ck _ hq));exact⟨by simp[q1],by simpa using q2⟩
 | [],_::_,_,tm,FV,tmps,h,ha,ht,_=>by simp[C6]at h
 |_::_,[],_,tm,FV,tmps,h,ha,ht,_=>by simp[C6]at h
theorem HW.mS(hr:HW E w0 AC h w){l:Loc}{x:cV}(BY:AC r=some l)(hb:H.get h r=some (.loop x)):∃Cb,w.heap[l.cb]?=some (.loop Cb)/\LR E AC x Cb:=by
 obtain⟨o,h1,h2⟩:=hr.hr.FH _ _ _ BY hb
 cases h2 with
 |loop h=>exact⟨_,h1,h⟩
theorem Fy{x:Loop}(hb:w.heap[l]?=some (.loop x)):(Instr.getLoop l).run P w= .ok x w:=by simp[Instr.getLoop,getObj,Sem.run,hb]
theorem aom{l:Loc}{x:cV}{Cb:Loop}(BY:AC r=some l)(hl:LR E AC x Cb)(ha:CQ AC args GP.toList)(hs:C6 x.params args x.tmps=some tm):GP.size=Cb.params.size/\FR E AC ⟨x.fn,x.nt,tm,[.code x.assign,.beginRound,.code x.body],[],.run,AL,some r⟩ (Frame.round l.cb Cb.fn ((Cb.params.zip GP).foldl (λtmps (t,a)=>tmps.setIfInBounds t a) Cb.tmps) Cb.assign Cb.body (D4 AL)):=by
 obtain⟨q1,q2⟩:=P5 hs ha hl.tmps hl.WA;rw[hl.params]at q1 q2;refine⟨by simpa using q1.symm,hl.fn,rfl,.some BY,.nil,.run,.plain ?_ ?_,λh=>TS⟩
 .have e:((Cb.params.zip GP).foldl (λ(tmps:Array Value) (x:Nat×Value)=>tmps.setIfInBounds x.1 x.2) Cb.tmps)=((Cb.params.toList.zip GP.toList).foldl (λ(tmps:Array Value) (x:Nat×Value)=>tmps.setIfInBounds x.1 x.2) Cb.tmps):=by rw[<-Array.foldl_toList,Array.toList_zip]
  show TR AC x.nt tm ((Cb.params.zip GP).foldl (λ(tmps:Array Value) (x:Nat×Value)=>tmps.setIfInBounds x.1 x.2) Cb.tmps);rw[e];exact q2
 .rw[hl.assign,hl.body];exact .cons (.code _) (.cons .beginRound (.cons (.code _) .nil))
def M4(P:Program)(AL:Bool)(r:Result Next)(fr:Frame)(cs:List Frame)(m:Machine):Prop:=
 (∀f args AY,r= .ok (.enter f args) AY->Go.step P m= .next (lone (Frame.enter P f args (D4 AL)) (fr::cs) AY))/\
 (∀l f tmps assign body AY,r= .ok (.round l f tmps assign body) AY->Go.step P m= .next (lone (Frame.round l f tmps assign body (D4 AL)) (fr::cs) AY))
structure ND (P:Program)(K:HK):Prop where
 ok:∀f args v,T.get K f=some (args,v)->∀(AC:BF) (GP:Array Value) (w:World),CQ AC args GP.toList->
  Calls P f GP w λe AY=>∃AQ,e= .returned AQ/\(∀AC,VR AC v AQ)/\RowKit.Below w.heap.size w AY
theorem HW.ext(hw:HW E w0 AC h w)(hb:RowKit.Below w.heap.size w AY):HW E w0 AC h AY:=by
 have hr:=hw.hr;have hs:=hb.size;have he:=hb.block;refine hw.to ?_ ⟨hb.os,hb.tape,hb.output⟩;refine⟨hr.bound,λb l BY=>IF (hr.SG b l BY) hs,λb l x BY hx=>?_,hr.inj,hr.own,λc hc=>?_,EM hr.size hs⟩;.obtain⟨o,h1,h2⟩:=hr.FH b l x BY hx;exact⟨o,by rw[he _ (hr.SG b l BY)];exact h1,h2⟩
 .rw[he c (IF hc hr.size)];exact hr.old c hc
theorem aon{K:HK}(h:cD K f args=some v):T.get K f=some (args,v):=by
 unfold cD at h;split at h;.cases h
 .rename_i p hp;split at h
  .rename_i ha
   cases h;have:=Kb (Qp 20) ha;rw[hp,<-this]
  .cases h
theorem I9{K:HK}(hE:DG P E)(hT:PA P E F)(hK:ND P K){f:OY}{r:Result Next}(hr:HW E w0 AC h w)(hf:FR E AC x fr)(CK:LD E AC xs cs)(hc:Vy P E AC f args r w)(hm:M4 P AL r fr (cs++CE) m):JO P E w0 CE (B6 F K f args AL x xs h) m:=by
 cases f with
 |func f=>
  simp only[B6]
  cases hg:T.get F f with
  |none=>exact trivial
  |some g=>
   simp only;obtain⟨GP,h1,h2⟩:=hc;obtain⟨fn,c,q1,q2,q3,q4⟩:=hT.fn f g hg;have ID:=hm.1 _ _ _ (h2 fn q1 q2 (by rw[q3];rfl))
   cases gx:Xo AL K f args with
   |some v=>
    simp only
    cases AL with
    |true=>cases gx
    |false=>obtain⟨e,AY,sR,⟨AQ,rfl,k1,k2⟩,k4,k5,k6⟩:=hK.ok _ _ _ (aon gx) AC GP w h1 (fr::(cs++CE));exact L6 (hr.ext k2) hf CK (k1 AC) hE (.head ID (Steps.trans k4 (.one (step_leave_returned k6))))
   |none=>
    simp only
    cases hn:Nat.ble args.length g.ntmps with
    |false=>exact trivial
    |true=>exact⟨_,.one ID,AC,_,fr::cs,w,rfl,Ry hT hg h1 (Al hn),.cons hf CK,hr⟩
 |yield l=>
  simp only[B6]
  cases hg:H.get h l with
  |none=>exact trivial
  |some bl=>
   cases bl with
   |loop y=>
    simp only
    cases hs:C6 y.params args y.tmps with
    |none=>exact trivial
    |some tm=>obtain⟨lo,GP,h1,h2,h3⟩:=hc;obtain⟨GM,g1,g2⟩:=hr.mS h1 hg;obtain⟨q1,q2⟩:=aom (AL:=AL) h1 g2 h2 hs;have PZ:r= .ok (.round lo.cb GM.fn ((GM.params.zip GP).foldl (λtmps (t,a)=>tmps.setIfInBounds t a) GM.tmps) GM.assign GM.body) w:=(by rw[h3];simp only[Instr.yield,EH,Fy g1,EO,q1,ne_eq,not_true_eq_false,KS];rfl);have:=hm.2 _ _ _ _ _ _ PZ;exact⟨_,.one this,AC,_,fr::cs,w,rfl,q2,.cons hf CK,hr⟩
   |_=>exact trivial
end
theorem wh(h:p:=by
 apply TW
 rw[stepGR_op ho hw,Oper.semAt_eq _ _ _ hd]
 simp[stepG.apply,Zd,hx,Frame.atR,D4]):p:=h
section
variable {F:T DY}{K:HK}
theorem Ot{rest:List Nat}{k:List Item}(ho:ops[j]?=some o)(hw:Region.wanted o (yielded ops a.tmps)=true)(hd:∀c,o.op≠ .defer c):M4 P false ((execOp a.eval o).run P w) (b.atR a (.inRegion ops (j::rest)::k)) cs (lone (b.atR a (.inRegion ops (j::rest)::k)) cs w):=by
 refine⟨λf args AY hx=>?_,λl f tmps assign body AY hx=>?_⟩;.exact wh
 .exact wh
theorem Fz{c:Op}{x:R}(hx:exec (Ar E c) h tm=x)(h1:∀f args,x≠ .EQ f args)(h2:x≠ .fail):∀cl,c≠ .defer cl:=by
 intro cl e;subst e;simp only[Ar]at hx;split at hx
 .simp only[exec]at hx;split at hx;.exact h1 _ _ hx.symm
  .exact h2 hx.symm
 .simp only[exec]at hx;exact h2 hx.symm
theorem ald(hE:DG P E)(hT:PA P E F)(hK:ND P K){r:OR}{ro:Option Nat}{k:DO}(he:Vz E nt ops w0 r AC a td w)(hb:OG AC fn AL ro b)(hd:KA AC ds a.defers)(hk:MF E AC nt k AZ)(CK:LD E AC xs cs):JO P E w0 CE (Xp F K r k fn nt ds AL ro xs) (lone (b.atR a (.inRegion ops td::AZ)) (cs++CE) w):=by
 cases r with
 |fail=>exact trivial
 |fin tm h=>obtain⟨rfl,ht,hr⟩:=he;exact⟨_,.one stepR_region_end,AC,_,cs,w,rfl,hb.FR ht hd hk,CK,hr⟩
 |at_ i l tm h x=>
  obtain⟨j,rest,o,rfl,ho,hi,rfl,aF,og,hw,hx,hvf,ht,hr⟩:=he
  cases x with
  |val v AA=>exact trivial
  |fail=>exact trivial
  |call f args=>have HA:=Fz hx bp bu;have hc:=Rr (P:=P) (w:=w) hr.hr ht.RO hx;have TG:FR E AC ⟨fn,nt,tm,.ops (i::rest.map (Cd E nt ops))::k,ds,.run,AL,ro⟩ (b.atR a (.inRegion ops (j::rest)::AZ)):=(by rw[hi];exact hb.FR ht hd (.cons (.ops ops (j::rest)) hk));exact I9 hE hT hK hr TG CK hc (Ot ho hw HA)
  |next ws=>obtain⟨y,hy,BU,AQ,AY,s1,s2,s3,s4,s5⟩:=aog hr.hr ht.RO hx;have s4:=hr.to s4 s5;have HA:=Fz hx bp bu;have GC:=Im (b:=b) (cs:=cs++CE) (k:=AZ) (rest:=rest) ho hw HA s2;refine⟨_,DK.2 ⟨y,hy,rfl⟩,_,.one GC,BU,_,cs,AY,rfl,?_,CK.mono s1.1,s4⟩;have MT:KA BU ds (a.put o.dst AQ).defers:=(by have:(a.put o.dst AQ).defers=a.defers:=qC;rw[this];exact hd.mono s1.1);rw[aF];exact(hb.mono s1.1).FR ((ht.mono s1.1).aW og s3) MT (.cons (.ops ops rest) (hk.mono s1.1))
  |G0 v=>obtain⟨AQ,s1,s2⟩:=Adl (P:=P) (w:=w) hr.hr ht.RO hx;have HA:=Fz hx bp bu;have GC:Go.step P (lone (b.atR a (.inRegion ops (j::rest)::AZ)) (cs++CE) w)= .next (lone ((b.atR a (.inRegion ops (j::rest)::AZ)).raise [{v:=AQ,recovered:=false}]) (cs++CE) w):=(by apply TW;rw[stepGR_op ho hw,Oper.semAt_eq _ _ _ HA];simp[stepG.apply,Zd,s1]);refine⟨_,.one GC,AC,_,cs,w,rfl,?_,CK,hr⟩;rw[Frame.raise_atR,hi];have:=hb.FR ht hd (.cons (.ops ops (j::rest)) hk);exact⟨this.fn,this.kind,this.ro,this.defers,.panicking (.cons s2 .nil),this.body,λh=>TS⟩
  |EQ f args=>
   cases ro with
   |some l=>exact trivial
   |none=>obtain⟨d,c,gz,s1,s2⟩:=Adk (P:=P) (w:=w) hr.hr ht.RO hx;have KO:b.roundOf=none:=k1d;have GC:Go.step P (lone (b.atR a (.inRegion ops (j::rest)::AZ)) (cs++CE) w)= .next (lone (b.atR ({a with defers:=d::a.defers}.put o.dst undef) (.inRegion ops rest::AZ)) (cs++CE) w):=(by have hf:=Frame.finish_atR b {a with defers:=d::a.defers} ops j rest AZ undef;rw[ho]at hf;simp only[ZZ]at hf;rw[<-hf];apply TW;rw[stepGR_op ho hw,KO,Oper.semAt_none];simp[stepG.apply,Zd,s1,Frame.atR]);refine⟨_,.one GC,AC,_,cs,w,rfl,?_,CK,hr⟩;have MT:KA AC (.call f args::ds) ({a with defers:=d::a.defers}.put o.dst undef:Act).defers:=(by have:({a with defers:=d::a.defers}.put o.dst undef:Act).defers=d::a.defers:=qC;rw[this];exact .cons s2 hd);rw[aF];exact hb.FR (TR.aW (a:={a with defers:=d::a.defers}) ht og (.BM .nil)) MT (.cons (.ops ops rest) hk)
  |recover=>
   cases ro with
   |some l=>exact trivial
   |none=>
    obtain⟨s1,c,gz⟩:=Adm (P:=P) (w:=w) hr.hr ht.RO hx;have HA:=Fz hx bp bu;have KO:b.roundOf=none:=k1d;have hf:=λv=>Frame.finish_atR b a ops j rest AZ v;rw[ho]at hf;simp only[ZZ]at hf;have oh:∀v,(a.put o.dst v).defers=a.defers:=(by intro v;cases o.dst<;>rfl)
    have amr:∀callers,tryRecover (b.atR a (.inRegion ops (j::rest)::AZ)) callers=none->
      Go.step P (lone (b.atR a (.inRegion ops (j::rest)::AZ)) callers w)= .next (lone (b.atR (a.put o.dst .nilIface) (.inRegion ops rest::AZ)) callers w):=by
     intro callers hn
     rw[<-hf]
     apply TW
     rw[stepGR_op ho hw,Oper.semAt_eq _ _ _ HA]
     have lU:(b.atR a (.inRegion ops (j::rest)::AZ)).roundOf=none:=KO
     simp[stepG.apply,Zd,s1,lU,hn]
    have nil:∀(ys:FM) (fs:List Frame),LD E AC ys fs->tryRecover (b.atR a (.inRegion ops (j::rest)::AZ)) (fs++CE)=none->
      JO P E w0 CE (.one ⟨⟨fn,nt,Ev.put tm i.dst .IX,.ops (rest.map (Cd E nt ops))::k,ds,.run,AL,none⟩,ys,h⟩) (lone (b.atR a (.inRegion ops (j::rest)::AZ)) (fs++CE) w):=by
     intro ys fs iG hn
     refine⟨_,.one (amr _ hn),AC,_,fs,w,rfl,?_,iG,hr⟩
     rw[aF]
     exact hb.FR (ht.aW og .IX) (by rw[oh];exact hd) (.cons (.ops ops rest) hk)
    have tT:(b.atR a (.inRegion ops (j::rest)::AZ)).kind=D4 AL:=hb.kind
    cases AL with
    |false=>refine nil xs cs CK ?_;unfold tryRecover;rw[tT];rfl
    |true=>
     cases CK with
     |nil=>exact trivial
     | @cons x fr xs cs TG CK=>
      obtain⟨kU,kX,kY,kT,apm,kV,kW⟩:=fr;obtain⟨UV,OV,Yp,cN,ae,fH,TU,WJ⟩:=x;obtain⟨h1,h2,h3,h4,h5,h6,h7⟩:=TG;simp only at h1 h2 h3 h4 h5 h6 h7
      cases h5 with
      |run=>exact nil _ _ (.cons ⟨h1,h2,h3,h4,.run,h6,h7⟩ CK) pX
      |returning=>exact nil _ _ (.cons ⟨h1,h2,h3,h4,.returning,h6,h7⟩ CK) pX
      |panicking hc=>
       cases hc with
       |nil=>exact nil _ _ (.cons ⟨h1,h2,h3,h4,.panicking .nil,h6,h7⟩ CK) pX
       | @cons v AQ q l AT hv hs=>
        cases q with
        |true=>exact nil _ _ (.cons ⟨h1,h2,h3,h4,.panicking (.cons hv hs),h6,λh=>(by cases h7 h)⟩ CK) pX
        |false=>
         have GC:Go.step P (lone (b.atR a (.inRegion ops (j::rest)::AZ)) (⟨kU,kX,kY,kT,.panicking ({v:=AQ,recovered:=false}::AT),kV,kW⟩::(cs++CE)) w)=
           .next (lone (b.atR (a.put o.dst AQ) (.inRegion ops rest::AZ)) (⟨kU,kX,kY,kT,.panicking ({v:=AQ,recovered:=true}::AT),kV,kW⟩::(cs++CE)) w):=by
          have pK:tryRecover (b.atR a (.inRegion ops (j::rest)::AZ)) (⟨kU,kX,kY,kT,.panicking ({v:=AQ,recovered:=false}::AT),kV,kW⟩::(cs++CE))=
            some (AQ,⟨kU,kX,kY,kT,.panicking ({v:=AQ,recovered:=true}::AT),kV,kW⟩::(cs++CE)):=by
           unfold tryRecover;rw[tT];rfl
          rw[<-hf]
          apply TW
          rw[stepGR_op ho hw,Oper.semAt_eq _ _ _ HA]
          have lU:(b.atR a (.inRegion ops (j::rest)::AZ)).roundOf=none:=KO
          simp[stepG.apply,Zd,s1,lU,pK]
         refine⟨_,.one GC,AC,_,⟨kU,kX,kY,kT,.panicking ({v:=AQ,recovered:=true}::AT),kV,kW⟩::cs,w,rfl,?_,.cons ⟨h1,h2,h3,h4,.panicking (.cons hv hs),h6,λh=>(by cases h7 h)⟩ CK,hr⟩;rw[aF];exact hb.FR (ht.aW og hv) (by rw[oh];exact hd) (.cons (.ops ops rest) hk)
end
section
variable {F:T DY}
variable {c:Frame}{k:List Item}{rest:List Frame}{v:Value}
theorem ale(hb:b.roundOf=some l)(hk:b.kind=D4 AL)(hr:(Instr.endRound l none).run P w= .ok v AY):Go.step P (lone (b.atR a []) (c::rest) w)= .next (lone (L0 AL v c) rest AY):=TW k0w
theorem alf(hb:b.roundOf=some l)(hk:b.kind=D4 AL)(hr:(Instr.endRound l (some .ret)).run P w= .ok v AY):Go.step P (lone (b.atR a (.code .ret::k)) (c::rest) w)= .next (lone (L0 AL v c) rest AY):=TW k0w
theorem ahe{id:Nat}(hx:Go.exitTo id k=none)(hb:b.roundOf=some l)(hk:b.kind=D4 AL)(hr:(Instr.endRound l (some (.exit id))).run P w= .ok v AY):Go.step P (lone (b.atR a (.code (.exit id)::k)) (c::rest) w)= .next (lone (L0 AL v c) rest AY):=TW k0t
theorem ahf{t:Nat}(hx:Go.gotoIn t k=none)(hb:b.roundOf=some l)(hk:b.kind=D4 AL)(hr:(Instr.endRound l (some (.goto t))).run P w= .ok v AY):Go.step P (lone (b.atR a (.code (.goto t)::k)) (c::rest) w)= .next (lone (L0 AL v c) rest AY):=TW k0t
theorem Ke{x:Loop}(ob:Obj)(hb:w.heap[l]?=some (.loop x)):(setObj l ob).run P w= .ok () (G6 w l ob):=by simp[setObj,Sem.run,hb,G6]
theorem af7{x:Loop}(hb:w.heap[l]?=some (.loop x))(j:Option Code):(Instr.endRound l j).run P w= .ok (.bool j.isNone) (G6 w l (.loop {x with state:=if j.isNone then .ready else .done,pending:=j})):=by simp only[Instr.endRound,EH,Fy hb,EO,Ke _ hb,IH]
theorem HW.qM(hr:HW E w0 AC h w){lo:Loc}{x y:cV}{GM:Loop}(BY:AC r=some lo)(hb:H.get h r=some (.loop x))(hl:LR E AC y GM):HW E w0 AC (H.set h r (.loop y)) (G6 w lo.cb (.loop GM)):=hr.to (AY:=G6 w lo.cb (.loop GM)) (hr.hr.cJ BY hb rfl (.loop hl) rfl) ⟨rfl,rfl,rfl⟩
theorem Ht(hE:DG P E){jump:Option Code}(hr:HW E w0 AC h w)(KO:WV AC (some r) b.roundOf)(CK:LD E AC xs cs)(hm:∀l v AY c rest,b.roundOf=some l->(Instr.endRound l jump).run P w= .ok v AY->cs++CE=c::rest->Go.step P m= .next (lone (L0 AL v c) rest AY)):JO P E w0 CE (leave (jump.map (Bo E nt)) fn nt tm todo ds AL (some r) xs h) m:=by
 simp only[leave]
 cases hg:H.get h r with
 |none=>exact trivial
 |some bl=>
  cases bl with
  |loop x=>
   obtain⟨st,pd,f,n,t,ps,JQ,bd,d⟩:=x;generalize lC:b.roundOf=br at KO hm
   cases KO with
   | @some _ lo BY=>
    obtain⟨Cb,g1,g2⟩:=hr.mS BY hg;have PZ:=λj=>af7 (P:=P) g1 j
    cases jump with
    |none=>simp only[aj];have HY:=hr.qM (y:=⟨.ready,none,f,n,t,ps,JQ,bd,d⟩) (GM:={Cb with state:= .ready,pending:=none}) BY hg ⟨rfl,rfl,g2.fn,g2.tmps,g2.params,g2.WA,g2.assign,g2.body,g2.defers⟩;exact Rx hE (AQ:= .bool true) HY CK (.bool true) λc rest e=>hm _ _ _ c rest rfl (PZ none) e
    |some j=>
     simp only[KR]
     cases hb:Nat.beq n nt with
     |false=>exact trivial
     |true=>
     have hn:n=nt:=As hb;subst hn;have HY:=hr.qM (y:=⟨.done,some (Bo E n j),f,n,t,ps,JQ,bd,d⟩) (GM:={Cb with state:= .done,pending:=some j}) BY hg ⟨rfl,rfl,g2.fn,g2.tmps,g2.params,g2.WA,g2.assign,g2.body,g2.defers⟩;exact Rx hE (AQ:= .bool false) HY CK (.bool false) λc rest e=>hm _ _ _ c rest rfl (PZ (some j)) e
  |_=>exact trivial
end
theorem xw(h:p:=by
 apply QT
 intro i
 simp only[GD,UY]
 by_cases hi:i<ops.size
 .rw[Yu hi,SU hi];simp[Cd,hi]
 .rw[jK om,OW (by simpa using hi)];rfl):p:=h
theorem wj(h:p:=by
 exact .steps (g3 hf) (ald hE hT hK g4 (hb.mono g1) (by rw[g2];exact hd.mono g1) (hk.mono g1) (CK.mono g1))):p:=h
section
variable {F:T DY}{K:HK}
variable {ro:Option Nat}{k:DO}
theorem agc{c:Code}:Go.step P (lone (b.atR a (.code (.scope c)::AZ)) cs w)= .next (lone (b.atR a (.code c:: .inScope c::AZ)) cs w):=TW (by simp[stepG,stepG.exec,Frame.atR])
theorem af2{c:Code}:Go.step P (lone (b.atR a (.inScope c::AZ)) cs w)= .next (lone (b.atR a AZ) cs w):=TW (by simp[stepG,stepG.exec,Frame.atR])
theorem V1{o:Option Nat}(h:WV AC Option.none o):o=Option.none:=by cases h;rfl
theorem Dz(hr:HW E w0 AC h w)(hb:OG AC fn AL ro b)(ht:TR AC nt tm a.tmps)(hd:KA AC ds a.defers)(hi:MF E AC nt todo OU)(CK:LD E AC xs cs)(hm:Go.step P m= .next (lone (b.atR a OU) (cs++CE) w)):JO P E w0 CE (.one ⟨⟨fn,nt,tm,todo,ds,.run,AL,ro⟩,xs,h⟩) m:=⟨_,.one hm,AC,_,cs,w,rfl,hb.FR ht hd hi,CK,hr⟩
theorem aoa(hE:DG P E)(hT:PA P E F)(hK:ND P K)(hr:HW E w0 AC h w)(hb:OG AC fn AL ro b)(ht:TR AC nt tm a.tmps)(hd:KA AC ds a.defers)(hk:MF E AC nt k AZ)(CK:LD E AC xs cs)(c:Code)(HA:∀id ops,c≠ .region id ops true)(uD:∀f ps x y,c≠ .rangeFunc f ps x y):JO P E w0 CE (Cf F K (Bo E nt c) k fn nt tm ds AL ro xs h) (lone (b.atR a (.code c::AZ)) (cs++CE) w):=by
 cases c with
 |skip=>exact Dz hr hb ht hd hk CK stepR_skip
 |label l=>exact Dz hr hb ht hd hk CK stepR_label
 |seq x y=>exact Dz hr hb ht hd (.cons (.code x) (.cons (.code y) hk)) CK stepR_seq
 |block id x=>exact Dz hr hb ht hd (.cons (.code x) (.cons (.inBlock id) hk)) CK stepR_block
 |loop x=>exact Dz hr hb ht hd (.cons (.code x) (.cons (.inLoop x) hk)) CK stepR_loop
 |scope x=>exact Dz hr hb ht hd (.cons (.code x) (.cons (.inScope x) hk)) CK agc
 |refuse s=>exact trivial
 |cond x y z=>
  simp only[Bo,Cf];split;.rename_i hc;have:=VR.YF (hc ▸ ht.RO x);exact Dz hr hb ht hd (.cons (.code y) hk) CK (stepR_cond (t:=true) this)
  .rename_i hc;have:=VR.YF (hc ▸ ht.RO x);exact Dz hr hb ht hd (.cons (.code z) hk) CK (stepR_cond (t:=false) this)
  .exact trivial
 |region id ops d=>
  cases d with
  |true=>exact absurd rfl (HA id ops)
  |false=>
   have hl:ops.toList.map (Mt E nt ops)=(List.range ops.size).map (Cd E nt ops):=(by exact xw);simp only[Bo,E9,Cf,hl];refine .steps (.one stepR_region) ?_;obtain⟨BU,BC,GA,AY,g1,g2,g3,g4⟩:=Qr (P:=P) (b:=b) (k:=AZ) (cs:=cs++CE) (ops:=ops) hE (List.range ops.size) tm h AC a w ht hr;by_cases hf:Dr ((List.range ops.size).map (Cd E nt ops)) tm h= .fail;.rw[hf];exact trivial
   .exact wj
 |rangeFunc f ps x y=>exact absurd rfl (uD f ps x y)
 |ret=>
  simp only[Bo,Cf]
  cases ro with
  |none=>simp only[leave];have KO:=V1 hb.ro;refine⟨_,.one (stepR_ret KO),AC,_,cs,w,rfl,?_,CK,hr⟩;have:=hb.FR ht hd (.cons (.code .ret) hk);exact⟨this.fn,this.kind,this.ro,this.defers,.returning,this.body,λh=>TS⟩
  |some r=>exact Ht hE (jump:=some .ret) hr hb.ro CK λl v AY c rest e1 e2 e3=>by rw[e3];exact alf e1 hb.kind e2
 |exit id=>
  simp only[Bo,Cf];obtain⟨x1,x2⟩:=aoj (id:=id) hk;split;.rename_i r hx;obtain⟨CO,q1,q2⟩:=x2 _ hx;exact Dz hr hb ht hd q2 CK (stepR_exit q1)
  .rename_i hx
   cases ro with
   |none=>exact trivial
   |some r=>exact Ht hE (jump:=some (.exit id)) hr hb.ro CK λl v AY c rest e1 e2 e3=>by rw[e3];exact ahe (x1 hx) e1 hb.kind e2
 |goto l=>
  simp only[Bo,Cf];obtain⟨x1,x2⟩:=aok (l:=l) hk;split;.rename_i r hx;obtain⟨CO,q1,q2⟩:=x2 _ hx;exact Dz hr hb ht hd q2 CK (stepR_goto q1)
  .rename_i hx
   cases ro with
   |none=>exact trivial
   |some r=>exact Ht hE (jump:=some (.goto l)) hr hb.ro CK λl v AY c rest e1 e2 e3=>by rw[e3];exact ahf (x1 hx) e1 hb.kind e2
theorem afy{x:Loop}(hb:w.heap[l]?=some (.loop x))(hs:x.state= .ready):(Instr.beginRound l).run P w= .ok () (G6 w l (.loop {x with state:= .busy})):=by simp only[Instr.beginRound,EH,Fy hb,EO,Ke _ hb,hs,IH]
theorem P6{x:Loop}(hb:w.heap[l]?=some (.loop x))(hs:(x.state== .busy)=false):(Instr.endLoop l).run P w= .ok x.pending (G6 w l (.loop {x with state:= .exhausted})):=by simp only[Instr.endLoop,EH,Fy hb,EO,hs,RR,KS,Ke _ hb,IH]
theorem aob(hE:DG P E)(hT:PA P E F)(hK:ND P K)(hr:HW E w0 AC h w)(hb:OG AC fn AL ro b)(ht:TR AC nt tm a.tmps)(hd:KA AC ds a.defers)(hk:MF E AC nt k AZ)(CK:LD E AC xs cs){i:PS}{FB:Item}(hi:IR E AC nt i FB)(HA:∀id ops,FB≠ .code (.region id ops true))(uD:∀f ps x y,FB≠ .code (.rangeFunc f ps x y)):JO P E w0 CE (B0 F K i k fn nt tm ds AL ro xs h) (lone (b.atR a (FB::AZ)) (cs++CE) w):=by
 cases hi with
 |code c=>exact aoa hE hT hK hr hb ht hd hk CK c (λid ops e=>HA id ops (by rw[e])) (λf ps x y e=>uD f ps x y (by rw[e]))
 |inBlock id=>exact Dz hr hb ht hd hk CK stepR_inBlock
 |inScope c=>exact Dz hr hb ht hd hk CK af2
 |inLoop c=>exact Dz hr hb ht hd (.cons (.code c) (.cons (.inLoop c) hk)) CK stepR_inLoop
 |ops ops td=>
  simp only[B0];obtain⟨BU,BC,GA,AY,g1,g2,g3,g4⟩:=Qr (P:=P) (b:=b) (k:=AZ) (cs:=cs++CE) (ops:=ops) hE td tm h AC a w ht hr;by_cases hf:Dr (td.map (Cd E nt ops)) tm h= .fail;.rw[hf];exact trivial
  .exact wj
 |XH _=>exact trivial
 |beginRound=>
  simp only[B0]
  cases ro with
  |none=>exact trivial
  |some r=>
   simp only
   cases hg:H.get h r with
   |none=>exact trivial
   |some bl=>
    cases bl with
    |loop x=>
     obtain⟨st,pd,f,n,t,ps,JQ,bd,d⟩:=x
     cases st with
     |ready=>
      have KO:=hb.ro;generalize lC:b.roundOf=br at KO
      cases KO with
      | @some _ lo BY=>obtain⟨Cb,g1,g2⟩:=hr.mS BY hg;have PZ:=afy (P:=P) g1 g2.state;have HY:=hr.qM (y:=⟨.busy,pd,f,n,t,ps,JQ,bd,d⟩) (GM:={Cb with state:= .busy}) BY hg ⟨rfl,g2.pending,g2.fn,g2.tmps,g2.params,g2.WA,g2.assign,g2.body,g2.defers⟩;exact⟨_,.one (stepR_beginRound lC PZ),AC,_,cs,_,rfl,hb.FR ht hd hk,CK,HY⟩
     |_=>exact trivial
    |_=>exact trivial
 |VL BY=>
  rename_i r lo;simp only[B0]
  cases hg:H.get h r with
  |none=>exact trivial
  |some bl=>
   cases bl with
   |loop x=>
    obtain⟨st,pd,f,n,t,ps,JQ,bd,d⟩:=x;obtain⟨Cb,g1,g2⟩:=hr.mS BY hg;have HY:=hr.qM (y:=⟨.exhausted,pd,f,n,t,ps,JQ,bd,d⟩) (GM:={Cb with state:= .exhausted}) BY hg ⟨rfl,g2.pending,g2.fn,g2.tmps,g2.params,g2.WA,g2.assign,g2.body,g2.defers⟩;have VY:pd=Cb.pending.map (Bo E n):=g2.pending;have HC:Cb.state=lsR st:=g2.state;have ajv:(Cb.state== .busy)=false->pd=none->JO P E w0 CE (.one ⟨⟨fn,nt,tm,k,ds,.run,AL,ro⟩,xs,H.set h r (.loop ⟨.exhausted,pd,f,n,t,ps,JQ,bd,d⟩)⟩) (lone (b.atR a (.endRangeFunc lo.cb::AZ)) (cs++CE) w):=by
     intro hs hp;have GC:=stepR_endRangeFunc (b:=b) (a:=a) (k:=AZ) (cs:=cs++CE) (P6 (P:=P) g1 hs)
     cases iA:Cb.pending with
     |none=>rw[iA]at GC HY;exact⟨_,.one GC,AC,_,cs,_,rfl,hb.FR ht hd hk,CK,HY⟩
     |some j=>rw[iA,hp]at VY;cases VY
    have ajw:(Cb.state== .busy)=false->∀j,pd=some j->n=nt->JO P E w0 CE (.one ⟨⟨fn,nt,tm,.code j::k,ds,.run,AL,ro⟩,xs,H.set h r (.loop ⟨.exhausted,pd,f,n,t,ps,JQ,bd,d⟩)⟩) (lone (b.atR a (.endRangeFunc lo.cb::AZ)) (cs++CE) w):=by
     intro hs j hp hn;have GC:=stepR_endRangeFunc (b:=b) (a:=a) (k:=AZ) (cs:=cs++CE) (P6 (P:=P) g1 hs)
     cases iA:Cb.pending with
     |none=>rw[iA,hp]at VY;cases VY
     |some c=>rw[iA]at GC HY;rw[iA,hp]at VY;simp only[KR,DB]at VY;subst hn;rw[VY];exact⟨_,.one GC,AC,_,cs,_,rfl,hb.FR ht hd (.cons (.code c) hk),CK,HY⟩
    have pick:∀q,(Cb.state== .busy)=false->pd=q->JO P E w0 CE (match q with
      |some j=>(match Nat.beq n nt with
       |true=> .one ⟨⟨fn,nt,tm,.code j::k,ds,.run,AL,ro⟩,xs,H.set h r (.loop ⟨.exhausted,pd,f,n,t,ps,JQ,bd,d⟩)⟩
       |false=> .fail)
      |none=> .one ⟨⟨fn,nt,tm,k,ds,.run,AL,ro⟩,xs,H.set h r (.loop ⟨.exhausted,pd,f,n,t,ps,JQ,bd,d⟩)⟩) (lone (b.atR a (.endRangeFunc lo.cb::AZ)) (cs++CE) w):=by
     intro q hs hq
     cases q with
     |none=>exact ajv hs hq
     |some j=>
      cases hn:Nat.beq n nt with
      |false=>simp only[hn];exact trivial
      |true=>simp only[hn];exact ajw hs j hq (As hn)
    have key:=λhs=>pick pd hs rfl
    cases st with
    |busy=>exact trivial
    |ready=>exact key (by rw[HC];rfl)
    |done=>exact key (by rw[HC];rfl)
    |exhausted=>exact key (by rw[HC];rfl)
   |_=>exact trivial
end
variable {Q:Nat->AV->Prop}{c:GN}{k:DO}
section
variable {F:T DY}
variable {ro:Option Nat}
theorem af3(hw:HW E w0 AC h w)(hb:OG AC fn AL ro b)(ht:TR AC nt tm a.tmps){ps:Array Tmp}{x y:Code}(SI:∀p∈ps.toList,p<nt){mark:List HN}(he:Ev.enterLoop fn nt tm ps.toList (Bo E nt x) (Bo E nt y) ro h=some (l,mark,AA)):∃BU lo mX AY,BF.le AC BU/\(Instr.enterLoop b.fn a.tmps ps x y b.roundOf).run P w= .ok (lo.cb,mX) AY/\BU l=some lo/\KA BU mark mX/\HW E w0 BU AA AY:=by
 have KO:=hb.ro;have hr:=hw.hr
 cases ro with
 |none=>
  have lV:=V1 KO;simp only[Ev.enterLoop,DB,fV]at he;obtain⟨rfl,rfl,rfl⟩:=he;have tW:BF.le AC (AC.AX h.n ⟨w.heap.size,0,0⟩):=BF.YY _ hr.fresh;have MV:HR E w0.heap (AC.AX h.n ⟨w.heap.size,0,0⟩) (H.new h (.EQ (some []))) (w.alloc (.deferred (some []))).heap:=hr.new rfl (.oH .nil) rfl;have ai8:=MV.fresh;have p6:BF.le (AC.AX h.n ⟨w.heap.size,0,0⟩) ((AC.AX h.n ⟨w.heap.size,0,0⟩).AX (H.new h (.EQ (some []))).n ⟨w.heap.size+1,0,0⟩):=BF.YY _ ai8;refine⟨_,⟨w.heap.size+1,0,0⟩,[{target:= .collected w.heap.size,args:= #[]}],(w.alloc (.deferred (some []))).alloc (.loop {state:= .ready,pending:=none,fn:=b.fn,tmps:=a.tmps,params:=ps,assign:=x,body:=y,defers:=w.heap.size}),tW.trans p6,?_,?_,?_,?_⟩;.simp[Instr.enterLoop,lV]
  .exact BF.NM _ _ _
  .exact .cons (.mark (p6 _ _ (BF.NM AC h.n ⟨w.heap.size,0,0⟩))) .nil
  .refine hw.to ?_ ⟨rfl,rfl,rfl⟩;refine MV.new (l:=⟨w.heap.size+1,0,0⟩) W0 (.loop ⟨rfl,rfl,hb.fn,ht.mono (tW.trans p6),rfl,SI,rfl,rfl,⟨w.heap.size,0,0⟩,?_,rfl⟩) rfl;exact p6 _ _ (BF.NM AC h.n ⟨w.heap.size,0,0⟩)
 |some r=>
  simp only[Ev.enterLoop]at he
  cases hg:H.get h r with
  |none=>rw[hg]at he;cases he
  |some bl=>
   rw[hg]at he
   cases bl with
   |loop z=>
    simp only[DB,fV]at he;obtain⟨rfl,rfl,rfl⟩:=he;generalize lC:b.roundOf=br at KO
    cases KO with
    | @some _ lo BY=>
     obtain⟨Yq,g1,g2⟩:=hw.mS BY hg;obtain⟨d,d1,d2⟩:=g2.defers;have hle:BF.le AC (AC.AX h.n ⟨w.heap.size,0,0⟩):=BF.YY _ hr.fresh;refine⟨_,⟨w.heap.size,0,0⟩,[],w.alloc (.loop {state:= .ready,pending:=none,fn:=b.fn,tmps:=a.tmps,params:=ps,assign:=x,body:=y,defers:=Yq.defers}),hle,?_,BF.NM _ _ _,.nil,?_⟩;.simp[Instr.enterLoop,Fy g1]
     .refine hw.to ?_ ⟨rfl,rfl,rfl⟩;exact hr.new (l:=⟨w.heap.size,0,0⟩) rfl (.loop ⟨rfl,rfl,hb.fn,ht.mono hle,rfl,SI,rfl,rfl,d,hle _ _ d1,d2⟩) rfl
   |_=>cases he
end
theorem xy(h:p:=by
 apply TW
 rw[EH]at hx
 simp[stepG,stepG.exec,Frame.atR,Zd,he,GStep.bare_after,stepG.apply,IP,EH,hre,hx,D4]):p:=h
section
variable {F:T DY}{K:HK}
variable {ro:Option Nat}
theorem agd{f:OY}{first cap JQ:List AV}{xv:Value}{kA:Array Value}(hv:VR AC (.fn f first cap) xv)(has:CQ AC JQ kA.toList):
  Vy P E AC f (List.append first (List.append JQ cap)) ((do let d<-Deferred.ofValue xv kA;invoke d.target d.args:Sem Next).run P w) w:=by
 cases f with
 |func g=>
  obtain⟨BC,BP,e1,h1,h2⟩:=hv.gM
  refine⟨BC++kA++BP,?_,λfn q1 q2 q3=>?_⟩
  .simp only[jM,NP]
   exact h1.append (has.append h2)
  .exact xo
 |yield r=>
  cases hv with
  | @gN _ l BY=>
   refine⟨l,#[]++kA,BY,?_,?_⟩
   .simp only[jM]
    show CQ AC ([]++(JQ++[])) _
    simpa using has
   .simp only[Deferred.ofValue,EH,IH,EO,invoke]
theorem Ads{g:Operand}{ps:Array Tmp}{x y:Code}{mark:List Deferred}{w1:World}
  (he:(Instr.enterLoop b.fn a.tmps ps x y b.roundOf).run P w= .ok (l,mark) w1):
  M4 P false ((do let d<-Deferred.ofValue (a.eval g) #[.func (.yield l) #[] #[]];invoke d.target d.args:Sem Next).run P w1)
   (b.atR {a with defers:=mark++a.defers} (.inRangeFunc l::AZ)) cs (lone (b.atR a (.code (.rangeFunc g ps x y)::AZ)) cs w):=by
 have IP:=Frame.eval_atR b {a with defers:=mark++a.defers} (.inRangeFunc l::AZ)
 simp only[Frame.atR]at IP
 have hre:resolve ({tmps:=a.tmps,defers:=mark++a.defers}:Act).eval {callee:= .value g,args:= #[.const (.func (.yield l) #[] #[])],argTypes:= #[]} 0=Deferred.ofValue (a.eval g) #[.func (.yield l) #[] #[]]:=by
  simp only[resolve]
  have:({tmps:=a.tmps,defers:=mark++a.defers}:Act).eval g=a.eval g:=by cases g<;>rfl
  rw[this];simp[Act.eval]
 refine⟨λf args AY hx=>?_,λAT f tmps assign body AY hx=>?_⟩
 .exact xy
 .exact xy
theorem Aja(hE:DG P E)(hT:PA P E F)(hK:ND P K)(hr:HW E w0 AC h w)(hb:OG AC fn AL ro b)(ht:TR AC nt tm a.tmps)(hd:KA AC ds a.defers)(hk:MF E AC nt k AZ)(CK:LD E AC xs cs)(g:Operand)(ps:Array Tmp)(x y:Code):JO P E w0 CE (Cf F K (Bo E nt (.rangeFunc g ps x y)) k fn nt tm ds AL ro xs h) (lone (b.atR a (.code (.rangeFunc g ps x y)::AZ)) (cs++CE) w):=by
 simp only[Bo]
 cases SI:ps.toList.all (λp=>Nat.ble (Nat.succ p) nt)with
 |false=>exact trivial
 |true=>
  simp only[Cf];have ajm:∀p∈ps.toList,p<nt:=λp hp=>Al (RS.1 SI p hp)
  cases he:Ev.enterLoop fn nt tm ps.toList (Bo E nt x) (Bo E nt y) ro h with
  |none=>exact trivial
  |some q=>
   obtain⟨l,mark,AA⟩:=q;obtain⟨BU,lo,mX,AY,e1,e2,e3,e4,e5⟩:=af3 hr hb ht ajm he;simp only;split
   .rename_i f first cap hv
    have hv:=hv ▸ (ht.RO g).mono e1;have hc:=agd (P:=P) (E:=E) (w:=AY) (JQ:=[.fn (.yield l) [] []]) (kA:= #[.func (.yield lo.cb) #[] #[]]) hv (.cons (.gN e3) .nil);have TG:FR E BU ⟨fn,nt,tm,.XH l::k,List.append mark ds,.run,AL,ro⟩ (b.atR {a with defers:=mX++a.defers} (.inRangeFunc lo.cb::AZ)):=(hb.mono e1).FR (a:={a with defers:=mX++a.defers}) (ht.mono e1) (e4.append (hd.mono e1)) (.cons (.XH e3) (hk.mono e1));exact I9 hE hT hK e5 TG (CK.mono e1) hc (Ads e2)
   .exact trivial
end
section
variable {F:T DY}
theorem Um(hE:DG P E)(hr:HW E w0 AC h w){nt:Nat}{tm:T AV}{tmps:Array Value}(ht:TR AC nt tm tmps):∀(rs:List ResultVar) (l:List AV),results tm h (rs.map (Ql E))=some l->
  ∃vs:List Value,CQ AC l vs/\(rs.mapM (λ| .tmp t=>pure (tmps.getD t undef)| .cell a t=>do loadVar t (<-asAddr (tmps.getD a undef)):ResultVar->Sem Value)).run P w= .ok vs w
 | [],l,hx=>by simp only[Zb,results,DB]at hx;subst hx;exact⟨[],.nil,rfl⟩
 |r::rs,l,hx=>by
  rw[FU]at hx
  simp only[results]at hx
  split at hx
  .cases hx
  .rename_i l1 h1
   obtain⟨vs,v1,v2⟩:=Um hE hr ht rs l1 h1
   have key:∀(u:AV) (AQ:Value),l=u::l1->VR AC u AQ->((match r with| .tmp t=>pure (tmps.getD t undef)| .cell a t=>do loadVar t (<-asAddr (tmps.getD a undef))):Sem Value).run P w= .ok AQ w->
     ∃vs:List Value,CQ AC l vs/\((r::rs).mapM (λ| .tmp t=>pure (tmps.getD t undef)| .cell a t=>do loadVar t (<-asAddr (tmps.getD a undef)):ResultVar->Sem Value)).run P w= .ok vs w:=by
    intro u AQ e hv PZ
    refine⟨AQ::vs,by rw[e];exact .cons hv v1,?_⟩
    rw[nN,EH]
    cases r with
    |tmp t=>simp only at PZ ⊢;rw[PZ];simp only[EO,EH,v2,IH]
    |cell a t=>simp only at PZ ⊢;rw[PZ];simp only[EO,EH,v2,IH]
   cases r with
   |tmp t=>
    simp only[Ql,DB]at hx
    exact key _ _ hx.symm (by
     have:=ht.RO (a:=⟨tmps,[]⟩) (.tmp t)
     exact this) rfl
   |cell a t=>
    simp only[Ql]at hx
    cases hi:Ev.inf E t with
    |none=>rw[hi]at hx;simp at hx
    |some i=>
     rw[hi]at hx
     simp only at hx
     cases aB:Oc E t with
     |none=>rw[aB]at hx;simp at hx
     |some q=>
      rw[aB]at hx
      have acb:=ht.RO (a:=⟨tmps,[]⟩) (.tmp a)
      have IP:ev tm (.t a)=ev tm (BK (.tmp a)):=rfl
      cases q with
      |true=>
       simp only at hx
       split at hx
       .rename_i b o hb
        obtain⟨lo,BY,ea⟩:=VR.US (hb ▸ acb)
        split at hx
        .rename_i xs hc
         simp only[DB]at hx
         obtain⟨us,u1,u2,u3⟩:=hr.hr.KM BY hc (lo.base+o) (λ_=>rfl)
         have hl:=Fa P (w:=w) u3
         rw[u1]at hl
         refine key _ (.agg us.toArray) hx.symm (.agg (by simpa using u2)) ?_
         have gL:tmps.getD a undef= .pointer (some ⟨lo.cb,lo.base+o,none⟩):=ea
         simp only[gL,asAddr,EH,IH,EO,loadVar,Hp hE aB,WN,Cx hE hi,hl]
        .cases hx
       .cases hx
      |false=>
       simp only at hx
       split at hx
       .rename_i b o hb
        obtain⟨lo,BY,ea⟩:=VR.US (hb ▸ acb)
        split at hx
        .rename_i rb n c hg
         split at hx
         .rename_i v hle tN
          simp only[DB]at hx
          obtain⟨cs,e,_,c1,c2,c3,c4⟩:=hr.hr.sD BY hg
          obtain⟨AQ,g1,g2⟩:=c4 o v (Al hle) tN
          refine key _ AQ hx.symm g2 ?_
          have gL:tmps.getD a undef= .pointer (some ⟨lo.cb,lo.base+o,none⟩):=ea
          have X6:w.cell? ⟨lo.cb,lo.base+o,none⟩=some AQ:=by rw[K4 c1];exact g1
          simp[gL,asAddr,loadVar,Hp hE aB,X6]
         .cases hx
        .cases hx
       .cases hx
theorem HW.ahu(hr:HW E w0 AC h w){l:Loc}{x:List HN}(BY:AC r=some l)(hb:H.get h r=some (.EQ (some x))):∃Cb,w.heap[l.cb]?=some (.deferred (some Cb))/\KA AC x Cb:=by
 obtain⟨o,h1,h2⟩:=hr.hr.FH _ _ _ BY hb
 cases h2 with
 |oH h=>exact⟨_,h1,h⟩
theorem aoc{l:List (AV×Bool)}{AT:List PanicEntry}(hf:FR E AC x fr)(hd:iJ x.todo=false)(hc:CR AC l AT):FR E AC {x with mode:=Ev.raise x.mode l} (fr.raise AT):=by
 obtain⟨fn,tmps,todo,defers,mode,kind,ro⟩:=fr;obtain⟨UV,OV,Yp,cN,ae,fH,TU,WJ⟩:=x;obtain⟨h1,h2,h3,h4,h5,h6,h7⟩:=hf;simp only at h1 h2 h3 h4 h5 h6 h7 hd;have TL:iJ cN=true->∀{p:Prop},p:=λh=>by rw[hd]at h;cases h
 cases h5 with
 |run=>exact⟨h1,h2,h3,h4,.panicking hc,h6,λh=>TL h⟩
 |returning=>exact⟨h1,h2,h3,h4,.panicking hc,h6,λh=>TL h⟩
 |panicking QL=>exact⟨h1,h2,h3,h4,.panicking (hc.append QL),h6,λh=>TL h⟩
theorem aod{l:List AV}{vs:List Value}(h:CQ AC l vs):VR AC (single l) (if h:vs.toArray.size=1 then vs.toArray[0]else .tuple vs.toArray):=by
 cases h with
 |nil=>exact .BM .nil
 |cons hv hs=>
  cases hs with
  |nil=>exact hv
  |cons dy hs=>simp[single];exact .BM (.cons hv (.cons dy hs))
theorem age(hE:DG P E)(hr:HW E w0 AC h w)(ht:TR AC nt tm tmps){fn:Func}{c:Code}{l:List AV}(hx:results tm h (Xn E fn c).results=some l):∃v,(Go.results fn tmps).run P w= .ok v w/\VR AC (single l) v:=by obtain⟨vs,v1,v2⟩:=Um hE hr ht fn.results.toList l hx;refine⟨_,?_,aod v1⟩;unfold Go.results;rw[EH,Array.mapM_eq_mapM_toList,Sem.run_map];erw[v2];rfl
theorem aop{ds:List Deferred}(hb:w.heap[r]?=some (.deferred (some ds))):(Instr.takeDeferred r).run P w= .ok ds (G6 w r (.deferred none)):=by simp[Instr.takeDeferred,getObj,setObj,Sem.run,hb,G6]
end
theorem xz(h:p:=by
 have:=ahj (CE:=CE) hE hT hK hr hf CK (by rw[gu];intro e;cases e)
 obtain⟨UV,OV,Yp,cN,ae,fH,TU,WJ⟩:=x
 simp only at gu;subst gu;exact this):p:=h
section
variable {F:T DY}{K:HK}
variable {ro:Option Nat}
theorem i9(hE:DG P E)(hr:HW E w0 AC h w)(hb:OG AC fn AL ro b)(ht:TR AC nt tm a.tmps)(hd:KA AC ds a.defers)(hk:MF E AC nt k AZ)(CK:LD E AC xs cs)(Rg:SZ)(SJ:F9 (A4 E nt Rg)=true)(lH:Ext Rg.ops.size Rg.bits [] td):JO P E w0 CE (Dk ((F8 (D6 (A4 E nt Rg)) (C5 (A4 E nt Rg)) 0).map Ig) ((Vt (D6 (A4 E nt Rg)) (C5 (A4 E nt Rg))).map Ig) (Bz (D6 (A4 E nt Rg)) (C5 (A4 E nt Rg)) (C5 (A4 E nt Rg)) 0) k fn nt tm ds AL ro xs h) (lone (b.atR a (.inRegion Rg.ops td::AZ)) (cs++CE) {w with drawn:=w.drawn+1}):=by
 have hs:DS E nt Rg 0 [] td:=⟨SJ,lH,λj hj=>(by cases hj),λm e hm=>absurd hm (OD m),λm e _ _ hd=>(by cases hd)⟩;refine Rv (k:=0) (w:={w with drawn:=w.drawn+1}) hE (hr.to (AY:={w with drawn:=w.drawn+1}) hr.hr ⟨rfl,rfl,rfl⟩) hb hd hk CK hs ht.size (λt v hg _=>ht.val t v hg) (λj _ _ _ hd=>(by cases hd)) (λj _ _ BX=>absurd BX (OD _)) rfl ?_ rfl;intro j hj hc VQ Lt;rcases Lt with h1|⟨h1,h2,h3⟩;.exact absurd h1 (OD _)
 .refine DK.2 ⟨_,?_,rfl⟩;unfold Vt;rw[JZ];refine⟨iW.2 ⟨j,(lH.apart j hj).2,rfl,hc⟩,?_⟩;have e1:QJ (C5 (A4 E nt Rg)) (HI E nt Rg j)=0:=h1;have e2:Od (HI E nt Rg j)=1:=h2;have e3:Ps (F8 (D6 (A4 E nt Rg)) (C5 (A4 E nt Rg)) 0)=true:=h3;rw[e1,e2,e3];rfl
theorem ahg(pre By:List DI)(l:List Ph)(k:DO)(fn nt:Nat)(tm:T AV)(ds:List HN)(AL:Bool)(ro:Option Nat)(cs:FM)(h:H):Dk pre By l k fn nt tm ds AL ro cs h= .fail\/∃c,Dk pre By l k fn nt tm ds AL ro cs h= .one c:=by
 unfold Dk
 cases Ho pre tm h with
 |none=>exact .inl rfl
 |some q=>
  obtain⟨FV,AA⟩:=q;simp only
  cases NF By FV AA with
  |false=>exact .inl rfl
  |true=>cases l<;>exact .inr ⟨_,rfl⟩
theorem K7:∀{l:List Out} {r:Out},Js l=r->r= .fail\/∃cs,r= .many cs/\∀o∈l,∃c∈cs,o= .one c
 | [],r,h=> .inr ⟨[],h.symm,λo ho=>by cases ho⟩
 |o::l,r,h=>by
  simp only[Js]at h
  cases o with
  |one c=>
   simp only at h;rcases K7 (l:=l) rfl with h1|⟨cs,h1,h2⟩;.rw[h1]at h;exact .inl h.symm
   .rw[h1]at h;refine .inr ⟨c::cs,h.symm,λo ho=>?_⟩;rcases DD.1 ho with e|ho;.exact⟨c,DW ..,e⟩
    .obtain⟨BP,q1,q2⟩:=h2 o ho;exact⟨BP,Ck _ q1,q2⟩
  |_=>exact .inl h.symm
theorem alg{l:List Out}{o:Out}(ho:o∈l)(h:JO P E w0 CE o m):JO P E w0 CE (Js l) m:=by
 rcases K7 (l:=l) rfl with h1|⟨cs,h1,h2⟩;.rw[h1];exact trivial
 .rw[h1];obtain⟨c,q1,rfl⟩:=h2 o ho;exact⟨c,q1,h⟩
theorem aor(hE:DG P E)(hr:HW E w0 AC h w)(hb:OG AC fn AL ro b)(ht:TR AC nt tm a.tmps)(hd:KA AC ds a.defers)(hk:MF E AC nt k AZ)(CK:LD E AC xs cs)(id:Nat)(ops:Array Oper):JO P E w0 CE (Cf F K (Bo E nt (.region id ops true)) k fn nt tm ds AL ro xs h) (lone (b.atR a (.code (.region id ops true)::AZ)) (cs++CE) w):=by
 simp only[Bo,E9]
 cases aiq:Q7 ops with
 |false=>exact trivial
 |true=>
  simp only;have GC:∀{o:Out},JO P E w0 CE o (lone (b.atR a (.inRegion ops (Region.schedule true ops (w.tape w.drawn (.order b.fn id)))::AZ)) (cs++CE) {w with drawn:=w.drawn+1})->JO P E w0 CE o (lone (b.atR a (.code (.region id ops true)::AZ)) (cs++CE) w):=by intro o g;refine .steps (.one stepR_region_draw) ?_;rw[hE.mixed];exact g
  have lH:=ala aiq (w.tape w.drawn (.order b.fn id))
  cases SJ:F9 (A4 E nt (Oe ops))with
  |true=>exact GC (i9 hE hr hb ht hd hk CK (Oe ops) SJ lH)
  |false=>
   simp only
   cases JF:(Fu E nt ops 8 (Oe ops).bits).all λb=>F9 (A4 E nt ⟨ops,b⟩)with
   |false=>exact trivial
   |true=>obtain⟨v,q1,q2⟩:=I7 (E:=E) (nt:=nt) 8 _ lH;rw[RS]at JF;simp only[Cf,WL];refine GC (alg (DK.2 ⟨v,q1,rfl⟩) ?_);exact i9 hE hr hb ht hd hk CK ⟨ops,v⟩ (JF v q1) q2
theorem Adt(hE:DG P E)(hT:PA P E F)(hK:ND P K)(hr:HW E w0 AC h w)(hb:OG AC fn AL ro b)(hd:KA AC ds a.defers)(hk:MF E AC nt k AZ)(CK:LD E AC xs cs)  {q:Nat}   {p:Ph}{l:List Ph}(hs:DS E nt Rg q D (e.j::td))(he:(BL E nt Rg)[q]?=some e)(hp:Bz (ne' E nt Rg) (BL E nt Rg) ((BL E nt Rg).drop q) q=p::l)(ht:YC E AC nt Rg q (e.j::td) tm a.tmps):JO P E w0 CE (B0 F K (.drawn p l) k fn nt tm ds AL ro xs h) (lone (b.atR a (.inRegion Rg.ops (e.j::td)::AZ)) (cs++CE) w):=by
 simp only[B0];have BX:q<(BL E nt Rg).length:=(FE.1 he).1;have PE:(BL E nt Rg).drop q=e::(BL E nt Rg).drop (q+1):=by rw[ST BX];have:=(FE.1 he).2;rw[this]
 have SH:p.X0=⟨Cd E nt Rg.ops e.j,Qk Rg.ops e.j⟩:=by have lR:=hp;rw[PE]at lR;simp only[Bz,Yr]at lR;rw[<-lR.1];have:=(H5 he).2.1;show e.d=_;rw[this];rfl
 have X5:TR AC nt (only tm (OT Rg e.j)) a.tmps:=acm ht.size (hs.names ht);have hnm:p.X0.names=OT Rg e.j:=by rw[SH];rfl
 have PD:p.X0.ci=Cd E nt Rg.ops e.j:=by rw[SH]
 rw[hnm,PD];rcases Kd E nt Rg.ops e.j with NH|⟨o,ho,h1,h2,h3,h4⟩;.rw[NH];exact trivial
 .rw[h1,h4];split;.exact trivial
  .rename_i hw;have RL:=Es X5 h3 hw;have GC:=stepR_op_skip (P:=P) (b:=b) (a:=a) (k:=AZ) (cs:=cs++CE) (w:=w) (ops:=Rg.ops) (i:=e.j) (rest:=td) px;rw[ho]at GC;simp only[ZZ]at GC;exact .steps (.one GC) (Rw hE hr hb hd hk CK hs he hp ht h1 h2 (.BM .nil))
  .rename_i hw;have RL:=Es X5 h3 hw;split;.rename_i v AA hx;obtain⟨au,AQ,w1,⟨s1,s1'⟩,s2,s3,s4,s5⟩:=Qo hr.hr X5.RO hE hx;have s4:=hr.to s4 s5;have HA:∀c,o.op≠ .defer c:=Fz hx bp bu;have GC:=Im (b:=b) (cs:=cs++CE) (k:=AZ) (rest:=td) ho RL HA s2;exact .steps (.one GC) (Rw hE s4 (hb.mono s1) (hd.mono s1) (hk.mono s1) (CK.mono s1) hs he hp (ht.mono s1) h1 h2 s3)
   .rename_i f args hx;have HA:∀c,o.op≠ .defer c:=Fz hx bp bu;have hc:=Rr (P:=P) (w:=w) hr.hr X5.RO hx;have TG:FR E AC ⟨fn,nt,tm,.drawn p l::k,ds,.run,AL,ro⟩ (b.atR a (.inRegion Rg.ops (e.j::td)::AZ)):=⟨hb.fn,hb.kind,hb.ro,hd,.run,.drawn hs he hp ht hk,λ_=>rfl⟩;exact I9 hE hT hK hr TG CK hc (Ot ho RL HA)
   .exact trivial
theorem ahh(c:Frame):({c with mode:=Go.settle c.mode}:Frame)=Gf c:=by
 obtain⟨fn,tmps,todo,defers,mode,kind,ro⟩:=c;unfold Gf Go.settle
 cases mode with
 |run=>rfl
 |returning=>rfl
 |panicking l=>
  cases l with
  |nil=>rfl
  |cons e l=>
   obtain⟨v,rec,g⟩:=e
   cases rec with
   |false=>rfl
   |true=>simp only;cases l.dropWhile (!·.goexit)<;>rfl
theorem aos{d:Deferred}{kL:List Deferred}{c:Array Value}(hm:fr.mode≠ .run)(hd:fr.defers=d::kL)(ht:d.target= .fn (.func f) c):M4 P true ((invoke d.target d.args).run P w) {fr with defers:=kL} cs (lone fr cs w):=by
 obtain⟨t,JQ⟩:=d;simp only at ht;subst ht;refine⟨λf args AY hx=>?_,λl f tmps assign body AY hx=>?_⟩
 .simp only at hx;refine TW ?_
  cases dj:fr.mode with
  |run=>exact absurd dj hm
  |returning=>simp[stepG,Go.unwind,callDeferred,dj,hd,hx,D4]
  |panicking chain=>simp[stepG,Go.unwind,callDeferred,dj,hd,hx,D4]
 .simp only at hx;refine TW ?_
  cases dj:fr.mode with
  |run=>exact absurd dj hm
  |returning=>simp[stepG,Go.unwind,callDeferred,dj,hd,hx,D4]
  |panicking chain=>simp[stepG,Go.unwind,callDeferred,dj,hd,hx,D4]
theorem Un(t:Nat):∀(l:List DI) (tm:T AV) (v:AV),T.get (Pt l tm) t=some v->T.get tm t=some v/\∀i∈l,i.ci.dst≠some t
 | [],tm,v,h=>⟨h,λi hi=>by cases hi⟩
 |a::l,tm,v,h=>by
  simp only[Pt]at h;obtain⟨h1,h2⟩:=Un t l _ v h
  cases hd:a.ci.dst with
  |none=>
   rw[hd]at h1;refine⟨h1,λi hi=>?_⟩;rcases DD.1 hi with e|hi;.rw[e,hd];intro e;cases e
   .exact h2 i hi
  |some d=>
   rw[hd]at h1;simp only[T.MH]at h1;by_cases e:t=d;.rw[AP e]at h1;cases h1
   .rw[AM e]at h1;refine⟨h1,λi hi=>?_⟩;rcases DD.1 hi with BG|hi;.rw[BG,hd];intro kP;cases kP;exact e rfl
    .exact h2 i hi
theorem ahi{XX QR:Nat}{XZ:T AV}{p:Ph}{lp:List Ph}{r:DO}{ae6:List HN}{ym:VC}{XW:Bool}{XY:Option Nat}{l:List (AV×Bool)}{AT:List PanicEntry}(hf:FR E AC ⟨XX,QR,XZ,.drawn p lp::r,ae6,ym,XW,XY⟩ fr)(hc:CR AC l AT):FR E AC ⟨XX,QR,Pt p.By XZ,[.gone],ae6,Ev.raise ym l,XW,XY⟩ (fr.raise AT):=by
 obtain⟨fn,tmps,todo,defers,mode,kind,ro⟩:=fr;obtain⟨h1,h2,h3,h4,h5,h6,h7⟩:=hf;simp only at h1 h2 h3 h4 h5 h6 h7;have hr:=h7 rfl;subst hr
 cases h5;refine⟨h1,h2,h3,h4,.panicking hc,?_,λh=>by cases h⟩
 cases h6 with
 |plain _ hi=>have:=hi.noD;cases this
 | @drawn Rg q D td e _ _ _ _ _ hs he hp ht hi=>
  refine .gone ⟨ht.size,λt v hv=>?_⟩;obtain⟨g1,g2⟩:=Un t _ _ _ hv;refine ht.val t v g1 λj hj UL hd=>?_;obtain⟨e1,e2,e3,e4⟩:=H5 he;obtain⟨s1,s2,s3,s4⟩:=hs.head;have BX:q<(BL E QR Rg).length:=(FE.1 he).1;have PE:(BL E QR Rg).drop q=e::(BL E QR Rg).drop (q+1):=by rw[ST BX];have:=(FE.1 he).2;rw[this]
  rw[PE]at hp;simp only[Bz,Yr]at hp;have hpc:p.By=(ik (ne' E QR Rg) (BL E QR Rg) e q).map Ig:=by rw[<-hp.1]
  rcases DD.1 hj with BG|hj;.rw[BG]at UL;exact UL.1 e3
  .obtain⟨q1,q2⟩:=s4.apart j hj;have oc:tb e.bits j=false:=by
    cases hb:tb e.bits j with
    |false=>rfl
    |true=>rw[e4]at hb;exact absurd (Ck _ (s3 j hb)) q1
   have h2:FN E QR Rg j≠2:=(by intro h2;have:=Ug hs.XO q2 h2 UL.2 he;rw[<-e4,oc]at this;cases this);have:=i7 (k:=q) (e:=e) q2 UL.1 h2 (.inl ⟨UL.2,oc⟩);exact g2 _ (hpc ▸ this) hd
theorem ahj(hE:DG P E)(hT:PA P E F)(hK:ND P K)(hr:HW E w0 AC h w)(hf:FR E AC x fr)(CK:LD E AC xs cs)(hm:x.mode≠ .run):JO P E w0 CE (Ev.unwind F K x.fn x.nt x.tm x.todo x.mode x.AL x.ro xs h x.defers) (lone fr (cs++CE) w):=by
 obtain⟨fn,tmps,todo,defers,mode,kind,ro⟩:=fr;obtain⟨UV,OV,Yp,cN,ae,fH,TU,WJ⟩:=x;obtain⟨h1,h2,h3,h4,h5,h6,h7⟩:=hf;simp only at h1 h2 h3 h4 h5 h6 h7 hm;have hmr:mode≠ .run:=by intro e;subst e;cases h5;exact hm rfl
 unfold Ev.unwind
 cases h4 with
 | @cons d MG dl sN hd oj=>
  cases hd with
  | @mark bk l BY=>
   simp only;split;.rename_i apj hg;obtain⟨Cb,g1,g2⟩:=hr.ahu BY hg;have GC:=step_collected (P:=P) (fr:=⟨fn,tmps,todo,⟨.collected l.cb,#[]⟩::sN,mode,kind,ro⟩) (cs:=cs++CE) hmr rfl rfl (aop (P:=P) g1);refine⟨_,.one GC,AC,_,cs,_,rfl,⟨h1,h2,h3,g2.append oj,h5,h6,h7⟩,CK,?_⟩;exact hr.to (AY:=G6 w l.cb (.deferred none)) (hr.hr.cJ BY hg rfl .sM rfl) ⟨rfl,rfl,rfl⟩
   .exact trivial
  | @call f args c JQ ha=>simp only;have TG:FR E AC ⟨UV,OV,Yp,cN,dl,fH,TU,WJ⟩ (⟨fn,tmps,todo,sN,mode,kind,ro⟩:Frame):=⟨h1,h2,h3,oj,h5,h6,h7⟩;refine I9 hE hT hK (r:=(invoke (.fn (.func f) c) JQ).run P w) hr TG CK ?_ (aos (fr:=⟨fn,tmps,todo,⟨.fn (.func f) c,JQ⟩::sN,mode,kind,ro⟩) (d:=⟨.fn (.func f) c,JQ⟩) hmr rfl rfl);refine⟨JQ++c,by simpa using ha,λfn q1 q2 q3=>?_⟩;simp only[invoke];exact Mz q1 q2 q3 _
 |nil=>
  simp only
  cases h5 with
  |run=>exact absurd rfl hm
  |panicking hc=>
   rename_i l AT;simp only
   cases hg:T.get F UV with
   |none=>exact trivial
   |some g=>
    simp only;obtain⟨YI,BP,q1,q2,q3,q4⟩:=hT.fn _ _ hg
    cases CK with
    |nil=>exact trivial
    | @cons y fy ys cs hy iG=>
     simp only;have GC:=step_going_panicked (P:=P) (fr:=⟨fn,tmps,todo,[],.panicking AT,kind,ro⟩) (c:=fy) (cs:=cs++CE) (w:=w) (chain:=AT) ⟨rfl,rfl,YI,by rw[h1];exact q1⟩;rw[<-Frame.raise_mode]at GC;obtain⟨XX,QR,XZ,UW,aoq,aou,XW,XY⟩:=y;have key:iJ UW=false->JO P E w0 CE (.one ⟨⟨XX,QR,XZ,UW,aoq,Ev.raise aou l,XW,XY⟩,ys,h⟩) (lone (⟨fn,tmps,todo,[],.panicking AT,kind,ro⟩:Frame) (fy::(cs++CE)) w):=λhd=>⟨_,.one GC,AC,_,cs,w,rfl,aoc hy hd hc,iG,hr⟩
     cases hd:iJ UW with
     |true=>
      cases UW with
      |nil=>cases hd
      |cons i r=>
       cases i with
       |drawn p lp=>exact⟨_,.one GC,AC,_,cs,w,rfl,ahi hy hc,iG,hr⟩
       |_=>cases hd
     |false=>
      have:=key hd
      cases UW with
      |nil=>exact this
      |cons i r=>cases i<;>first|(cases hd;done)|exact this
  |returning=>
   simp only
   cases hg:T.get F UV with
   |none=>exact trivial
   |some g=>
    simp only;obtain⟨YI,BP,q1,q2,q3,rfl⟩:=hT.fn _ _ hg;have LA:TR AC OV Yp tmps:=by
     cases h6 with
     |plain ht _=>exact ht
     |gone ht=>exact ht
     |drawn=>exact absurd (h7 rfl) hm
    split
    .rename_i l dw;obtain⟨v,r1,r2⟩:=age (w:=w) hE hr LA dw;have tK:P.funcs[fn]?=some YI:=(by rw[h1];exact q1);subst h2
     cases CK with
     |nil=>
      cases TU with
      |true=>exact trivial
      |false=>exact⟨_,w,AC,v,.refl _ _,h1,⟨rfl,rfl,rfl,YI,tK,r1⟩,r2,hr⟩
     | @cons y fy ys cs hy iG=>
      simp only[Ev.doReturn];refine Rx (AQ:=v) hE hr (.cons hy iG) r2 λc rest e=>?_;rw[e]
      cases TU with
      |false=>exact step_leave_returned ⟨rfl,rfl,rfl,YI,tK,r1⟩
      |true=>have:=step_going_returned (P:=P) (fr:=⟨fn,tmps,todo,[],.returning,D4 true,ro⟩) (c:=c) (cs:=rest) (w:=w) (v:=v) rfl ⟨rfl,rfl,YI,tK,r1⟩;rw[ahh]at this;exact this
    .exact trivial
theorem aot(hE:DG P E)(hT:PA P E F)(hK:ND P K)(hA:At E w0 CE c m):JO P E w0 CE (Ev.step F K c) m:=by
 obtain⟨AC,fr,cs,w,rfl,hf,CK,hr⟩:=hA.ex;obtain⟨x,xs,h⟩:=c;simp only at hf CK hr
 cases gu:x.mode with
 |returning=>exact xz
 |panicking l=>exact xz
 |run=>
  obtain⟨fn,tmps,todo,defers,mode,kind,ro⟩:=fr;obtain⟨UV,OV,Yp,cN,ae,fH,TU,WJ⟩:=x;simp only at gu;subst gu;obtain⟨h1,h2,h3,h4,h5,h6,h7⟩:=hf;simp only at h1 h2 h3 h4 h5 h6 h7
  cases h5;have hb:OG AC UV TU WJ (⟨fn,tmps,todo,defers,.run,kind,ro⟩:Frame):=⟨h1,h2,h3⟩;simp only[Ev.step]
  cases h6 with
  |gone ht=>exact trivial
  | @drawn Rg q D td e p l kx _ OQ hs he hp ht hi=>exact Adt (a:=⟨tmps,defers⟩) (b:=⟨fn,tmps,.inRegion Rg.ops (e.j::td)::OQ,defers,.run,kind,ro⟩) hE hT hK hr hb h4 hi CK hs he hp ht
  |plain ht hi=>
   cases hi with
   |nil=>
    simp only
    cases WJ with
    |none=>simp only[leave];have KO:ro=none:=V1 h3;subst KO;refine⟨_,.one (stepR_end (b:=⟨fn,tmps,[],defers,.run,kind,none⟩) (a:=⟨tmps,defers⟩) rfl),AC,_,cs,w,rfl,⟨h1,h2,.none,h4,.returning,.plain ht .nil,λh=>by cases h⟩,CK,hr⟩
    |some r=>exact Ht (jump:=none) (nt:=OV) (AL:=TU) (b:=⟨fn,tmps,[],defers,.run,kind,ro⟩) hE hr h3 CK λl v AY c rest e1 e2 e3=>by rw[e3];exact ale (b:=⟨fn,tmps,[],defers,.run,kind,ro⟩) (a:=⟨tmps,defers⟩) e1 hb.kind e2
   | @cons i FB kx OQ hi hk=>
    simp only
    have tP:(∀id ops,FB≠ .code (.region id ops true))->(∀f ps x y,FB≠ .code (.rangeFunc f ps x y))->
      JO P E w0 CE (B0 F K i kx UV OV Yp ae TU WJ xs h) (lone (⟨fn,tmps,FB::OQ,defers,.run,kind,ro⟩:Frame) (cs++CE) w):=λn1 n2=>
     aob (a:=⟨tmps,defers⟩) (b:=⟨fn,tmps,FB::OQ,defers,.run,kind,ro⟩) hE hT hK hr hb ht h4 hk CK hi n1 n2
    cases hi with
    |code c=>
     cases c with
     |region id ops d=>
      cases d with
      |true=>exact aor (a:=⟨tmps,defers⟩) (b:=⟨fn,tmps,.code (.region id ops true)::OQ,defers,.run,kind,ro⟩) hE hr hb ht h4 hk CK id ops
      |false=>exact tP (λ_ _ e=>by cases e) (λ_ _ _ _ e=>by cases e)
     |rangeFunc f ps x y=>exact Aja (a:=⟨tmps,defers⟩) (b:=⟨fn,tmps,.code (.rangeFunc f ps x y)::OQ,defers,.run,kind,ro⟩) hE hT hK hr hb ht h4 hk CK f ps x y
     |_=>exact tP (λ_ _ e=>by cases e) (λ_ _ _ _ e=>by cases e)
    |_=>exact tP (λ_ _ e=>by cases e) (λ_ _ _ _ e=>by cases e)
end
section
variable (F:T DY)(K:HK)
def Tu(q:Nat->AV->Bool):Nat->GN->Bool
 |0=>λ_=>false
 |Nat.succ n=>λc=>match step F K c with
  | .one c=>Tu q n c
  | .many l=>List.foldr (λc (b:Bool)=>match Tu q n c with|true=>b|false=>false) true l
  | .done fn v _=>q fn v
  | .fail=>false
def X8(s:GN->Bool):Nat->GN->Option (List GN)
 |0=>λ_=>none
 |Nat.succ n=>λc=>match s c with
  |true=>some [c]
  |false=>match step F K c with
   | .one c=>X8 s n c
   | .many l=>List.foldr (λc (b:Option (List GN))=>match X8 s n c with|some x=>(match b with|some y=>some (List.append x y)|none=>none)|none=>none) (some []) l
   | .done _ _ _=>none
   | .fail=>none
end
def P7(t:T DV):List Nat->T DV
 | []=> .leaf
 |b::r=>match T.get t b with
  |some x=>T.set (P7 t r) b (some x)
  |none=>P7 t r
def trim(ts bs:List Nat)(n:Nat)(c:GN):Option GN:=
 match c with
 |⟨⟨fn,nt,tm,todo,ds,mode,AL,ro⟩,cs,h⟩=>match Nat.ble h.n n with
  |true=>some ⟨⟨fn,nt,only tm ts,todo,ds,mode,AL,ro⟩,cs,⟨n,P7 h.t bs⟩⟩
  |false=>none
def start(F:T DY)(f:Nat)(args:List AV):Option GN:=match T.get F f with
 |some g=>(match Nat.ble args.length g.ntmps with
  |true=>some ⟨⟨f,g.ntmps,JI 0 .leaf args,[.code g.body],[],.run,false,none⟩,[],⟨0,.leaf⟩⟩
  |false=>none)
 |none=>none
section
variable {F:T DY}{K:HK}
def Good(P:Program)(E:Env)(Q:Nat->AV->Prop)(c:GN):Prop:=
 ∀(w0:World) (CE:List Frame) (m:Machine),At E w0 CE c m->∃fn v h fr w AC AQ,Q fn v/\Steps P m (lone fr CE w)/\fr.fn=fn/\fr.leaving P w (.returned AQ)/\VR AC v AQ/\HW E w0 AC h w
theorem Ou(hE:DG P E)(hT:PA P E F)(hK:ND P K)(h:match step F K c with | .one BP=>Good P E Q BP| .many l=>∀BP∈l,Good P E Q BP| .done fn v _=>Q fn v| .fail=>False):Good P E Q c:=by
 intro w0 CE m hA;have:=aot (w0:=w0) (CE:=CE) hE hT hK hA
 cases hs:step F K c with
 |one BP=>rw[hs]at this h;obtain⟨GF,s1,s2⟩:=this;obtain⟨fn,v,h,fr,w,AC,AQ,q,s,r⟩:=h w0 CE GF s2;exact⟨fn,v,h,fr,w,AC,AQ,q,s1.trans s,r⟩
 |many l=>rw[hs]at this h;obtain⟨BP,hc,GF,s1,s2⟩:=this;obtain⟨fn,v,h,fr,w,AC,AQ,q,s,r⟩:=h BP hc w0 CE GF s2;exact⟨fn,v,h,fr,w,AC,AQ,q,s1.trans s,r⟩
 |done fn v AA=>rw[hs]at this h;obtain⟨fr,w,AC,AQ,s1,s2,s3,s4,s5⟩:=this;exact⟨fn,v,AA,fr,w,AC,AQ,h,s1,s2,s3,s4,s5⟩
 |fail=>rw[hs]at h;exact h.elim
theorem Ov(hE:DG P E)(hT:PA P E F)(hK:ND P K){q:Nat->AV->Bool}:∀(n:Nat) (c:GN),Tu F K q n c=true->Good P E (λfn v=>q fn v=true) c
 |0,c,h=>by simp[Tu]at h
 |n+1,c,h=>by
  simp only[Tu]at h;refine Ou hE hT hK ?_
  cases hs:step F K c with
  |one BP=>rw[hs]at h;exact Ov hE hT hK n BP h
  |many l=>
   rw[hs]at h;simp only at h ⊢;have key:∀l:List GN,List.foldr (λc (b:Bool)=>match Tu F K q n c with|true=>b|false=>false) true l=true->∀c∈l,Tu F K q n c=true:=by
    intro l;induction l with
    |nil=>intro _ c hc;cases hc
    |cons a l ih=>
     intro h c hc;simp only[List.foldr]at h;split at h
     .rename_i ha;rcases DD.1 hc with e|hc;.rw[e];exact ha
      .exact ih h c hc
     .cases h
   exact λBP hc=>Ov hE hT hK n BP (key l h BP hc)
  |done fn v AA=>rw[hs]at h;exact h
  |fail=>rw[hs]at h;cases h
theorem Ow(hE:DG P E)(hT:PA P E F)(hK:ND P K){Q:Nat->AV->Prop}{s:GN->Bool}:∀(n:Nat) (c:GN) (l:List GN),X8 F K s n c=some l->(∀BP∈l,Good P E Q BP)->Good P E Q c
 |0,c,l,h,_=>by simp[X8]at h
 |n+1,c,l,h,hl=>by
  simp only[X8]at h;split at h;.cases h;exact hl c (DW ..)
  .refine Ou hE hT hK ?_
   cases hs:step F K c with
   |one BP=>rw[hs]at h;exact Ow hE hT hK n BP l h hl
   |many cs=>
    rw[hs]at h;simp only at h ⊢
    have key:∀(cs:List GN) (l:List GN),List.foldr (λc (b:Option (List GN))=>match X8 F K s n c with|some x=>(match b with|some y=>some (List.append x y)|none=>none)|none=>none) (some []) cs=some l->
      ∀c∈cs,∃x,X8 F K s n c=some x/\∀y∈x,y∈l:=by
     intro cs
     induction cs with
     |nil=>intro l _ c hc;cases hc
     |cons a cs ih=>
      intro l h c hc
      simp only[List.foldr]at h
      split at h
      .rename_i x hx
       split at h
       .rename_i y hy
        cases h
        rcases DD.1 hc with e|hc
        .rw[e];exact⟨x,hx,λz hz=>TY _ hz⟩
        .obtain⟨Cb,g1,g2⟩:=ih y hy c hc
         exact⟨Cb,g1,λz hz=>Zf _ (g2 z hz)⟩
       .cases h
      .cases h
    intro BP hc;obtain⟨x,g1,g2⟩:=key cs l h BP hc;exact Ow hE hT hK n BP x g1 λy hy=>hl y (g2 y hy)
   |done fn v AA=>rw[hs]at h;cases h
   |fail=>rw[hs]at h;cases h
theorem Ox(t:T DV)(b:Nat):∀l:List Nat,T.get (P7 t l) b=if b∈l then T.get t b else none
 | []=>by simp[P7,T.VM]
 |x::l=>by
  simp only[P7]
  cases hx:T.get t x with
  |none=>
   simp only[];rw[Ox t b l];by_cases e:b=x;.subst e;simp[hx]
   .simp[e]
  |some v=>
   simp only[];rw[T.MH,Ox t b l];by_cases e:b=x;.subst e;simp[hx]
   .simp[e]
theorem HR.none(m:Array Obj):HR E m (λ_=>Option.none) ⟨0,.leaf⟩ m:=⟨λ_ _ h=>TS,λ_ _ h=>TS,λ_ _ _ h=>TS,λ_ _ _ _ _ _ h=>TS,λ_ _ _ h=>TS,λ_ _=>rfl,BD _⟩
theorem af4(hT:PA P E F)(hs:start F f args=some c)(hg:Good P E Q c)(ha:CQ (λ_=>none) args GP.toList)(w:World){R:Ending->World->Prop}(hQ:∀fn v h AC AQ (AY:World),Q fn v->VR AC v AQ->HW E w AC h AY->fn=f/\R (.returned AQ) AY):Calls P f GP w R:=by
 intro cs;unfold start at hs;split at hs
 .rename_i g tO;split at hs;.rename_i hn;cases hs;have hA:At E w cs ⟨⟨f,g.ntmps,JI 0 .leaf args,[.code g.body],[],.run,false,Option.none⟩,[],⟨0,.leaf⟩⟩ (lone (Frame.enter P f GP .normal) cs w):=⟨_,_,[],w,rfl,Ry (AL:=false) hT tO ha (Al hn),.nil,⟨.none _,.refl _⟩⟩;obtain⟨fn,v,h,fr,AY,AC,AQ,q,s1,s2,s3,s4,s5⟩:=hg _ _ _ hA;obtain⟨e,hR⟩:=hQ fn v h AC AQ AY q s4 s5;exact⟨.returned AQ,AY,fr,hR,s1,by rw[s2,e],s3⟩
  .cases hs
 .cases hs
def En:Nat->AV->Bool
 |0,_=>false
 |d+1,v=>match v with
  | .bool _=>true
  | .int _ _=>true
  | .str _=>true
  | .M7=>true
  | .AS=>true
  | .OS=>true
  | .PK=>true
  | .IX=>true
  | .fn (.func _) a c=>a.all (En d)&&c.all (En d)
  | .Cm _ v=>En d v
  | .agg l=>l.all (En d)
  | .BM l=>l.all (En d)
  |_=>false
theorem Qs:∀(d:Nat) (v:AV),En d v=true->∀{AC BU:BF} {AQ:Value},VR AC v AQ->VR BU v AQ
 |0,v,h,AC,BU,AQ,_=>by simp[En]at h
 |d+1,v,h,AC,BU,AQ,hv=>by
  have hl:∀(l:List AV) (AT:List Value),l.all (En d)=true->CQ AC l AT->CQ BU l AT:=by
   intro l;induction l with
   |nil=>intro AT _ h;cases h;exact .nil
   |cons a l ih=>
    intro AT ha h;simp only[List.all_cons,KQ]at ha
    cases h with|cons h1 h2=>exact .cons (Qs d a ha.1 h1) (ih _ ha.2 h2)
  cases hv with
  |bool b=>exact .bool b
  |int k n=>exact .int k n
  |str hs=>exact .str hs
  |M7=>exact .M7
  |AS=>exact .AS
  |OS=>exact .OS
  |PK=>exact .PK
  |IX=>exact .IX
  |ptr _=>simp[En]at h
  |WE _ _ _ _=>simp[En]at h
  |XQ _ _ _ _=>simp[En]at h
  |map _=>simp[En]at h
  |dO ha hc=>simp only[En,KQ]at h;exact .dO (hl _ _ h.1 ha) (hl _ _ h.2 hc)
  |gN _=>simp[En]at h
  |Cm hv=>simp only[En]at h;exact .Cm (Qs d _ h hv)
  |agg ha=>simp only[En]at h;exact .agg (hl _ _ h ha)
  |BM ha=>simp only[En]at h;exact .BM (hl _ _ h ha)
  |HZ _=>exact .HZ _
  |FK _=>exact .FK _
theorem X9{d:Nat}:∀{l:List AV} {AT:List Value},l.all (En d)=true->∀{AC BU:BF},CQ AC l AT->CQ BU l AT
 | [],_,_,AC,BU,h=>by cases h;exact .nil
 |a::l,_,ha,AC,BU,h=>by
  simp only[List.all_cons,KQ]at ha
  cases h with|cons h1 h2=>exact .cons (Qs d a ha.1 h1) (X9 ha.2 h2)
theorem ND.add(hK:ND P K)(hT:PA P E F)(hs:start F f args=some c)(hg:Good P E (λfn u=>fn=f/\u=v) c)(ha:args.all (En 20)=true)(hv:En 20 v=true):ND P (T.set K f (some (args,v))):=by
 refine⟨λoO GP AQ hk AC vs w uM=>?_⟩;rw[T.MH]at hk;by_cases e:oO=f
 .subst e;rw[AP rfl]at hk
  cases hk;refine af4 hT hs hg (X9 ha uM) w λfn u h BU FW AY q hu hr=>?_;obtain⟨rfl,rfl⟩:=q;exact⟨rfl,FW,rfl,λAC=>Qs 20 _ hv hu,⟨hr.YZ.os,hr.YZ.tape,hr.YZ.output,hr.hr.size,λk hk=>hr.hr.old k hk⟩⟩
 .rw[AM e]at hk;exact hK.ok _ _ _ hk AC vs w uM
theorem ND.leaf:ND P .leaf:=⟨λf args v h=>by rw[T.VM]at h;cases h⟩
end
variable {u:AV}
theorem P8:∀(l:List TypeInfo) (n:Nat) (t:T TypeInfo) (i:Nat),T.get (Kz n l t) i=if n<=i/\i<n+l.length then l[i- n]? else T.get t i
 | [],n,t,i=>by simp[Kz];omega
 |a::l,n,t,i=>by
  rw[Kz,P8 l (n+1),T.MH];by_cases h1:n+1<=i/\i<n+1+l.length;.rw[AP h1,AP Y1];obtain⟨k,rfl⟩:∃k,i=n+1+k:=⟨i- (n+1),om⟩;rw[show n+1+k- (n+1)=k from om,show n+1+k- n=k+1 from om];simp
  .rw[AM h1];by_cases h2:i=n;.subst h2;rw[AP rfl,AP W0];simp
   .rw[AM h2,AM Y1]
def wm(P:Program)(S:List Nat):Env:=⟨Kz 0 P.types.toList .leaf,S⟩
def aeo(P:Program)(E:Env):T DY:=Qm E 0 P.funcs.toList .leaf
theorem Amx(P:Program)(S:List Nat)(hs:S.all (λt=>!(P.stoodInHeld t)&&!(P.eqGuardType P.depth t))=true)(hm:P.follows .mixedOrders=true):DG P (wm P S):=by
 refine⟨λt i h=>?_,λt ht=>?_,hm⟩
 .have h:T.get (Kz 0 P.types.toList .leaf) t=some i:=h;rw[P8]at h;split at h;.rw[WK]at h;have h:P.types[t]?=some i:=(by simpa using h);have BX:t<P.types.size:=(fY.1 h).1;unfold Tables.info?;rw[AP BX];exact h
  .rw[T.VM]at h;cases h
 .have:=RS.1 hs t ht;simpa using this
theorem Kf(E:Env):∀(l:List Func) (n:Nat) (t:T DY) (i:Nat) (g:DY),(∀i g,n<=i->T.get t i=some g->False)->T.get (Qm E n l t) i=some g->T.get t i=some g\/∃fn c,n<=i/\l[i- n]?=some fn/\fn.body=some c/\g=Xn E fn c
 | [],n,t,i,g,_,h=> .inl h
 |a::l,n,t,i,g,ht,h=>by
  rw[Qm]at h
  cases hb:a.body with
  |none=>
   rw[hb]at h;rcases Kf E l (n+1) t i g (λi g hi=>ht i g om) h with h|⟨fn,c,h1,h2,h3,h4⟩;.exact .inl h
   .refine .inr ⟨fn,c,om,?_,h3,h4⟩;rw[show i- n=(i- (n+1))+1 from om];simpa using h2
  |some c=>
   rw[hb]at h;simp only at h;rcases Kf E l (n+1) _ i g (λi g hi hg=>by rw[T.MH,AM om]at hg;exact ht i g om hg) h with h|⟨fn,BP,h1,h2,h3,h4⟩
   .rw[T.MH]at h;by_cases e:i=n;.rw[AP e]at h;cases h;exact .inr ⟨a,c,om,by rw[e,Xq];rfl,hb,rfl⟩
    .rw[AM e]at h;exact .inl h
   .refine .inr ⟨fn,BP,om,?_,h3,h4⟩;rw[show i- n=(i- (n+1))+1 from om];simpa using h2
theorem amx(P:Program)(E:Env)(hn:P.funcs.toList.all (λf=>!(f.name== "runtime.NumGoroutine"))=true):PA P E (aeo P E):=by
 refine⟨λf g h=>?_⟩
 rcases Kf E P.funcs.toList 0 .leaf f g (λ_ _ _ h=>by rw[T.VM]at h;cases h) h with h|⟨fn,c,h1,h2,h3,h4⟩
 .rw[T.VM]at h;cases h
 .rw[WK]at h2
  refine⟨fn,c,by simpa using h2,?_,h3,h4⟩
  have:=RS.1 hn fn (I4 h2)
  simpa using this
def ZQ:CC->List Nat->CC
 |c,[]=>c
 |c,0::r=>match c with
  | .seq a _=>ZQ a r
  | .cond _ a _=>ZQ a r
  | .block _ b=>ZQ b r
  | .loop b=>ZQ b r
  | .scope b=>ZQ b r
  | .rangeFunc _ _ a _=>ZQ a r
  |_=> .bad
 |c,_::r=>match c with
  | .seq _ b=>ZQ b r
  | .cond _ _ b=>ZQ b r
  | .rangeFunc _ _ _ b=>ZQ b r
  |_=> .bad
def BW(c:CC)(l:List Nat):CC:=ZQ c (l.flatMap λk=>match k with|0=>[0]|1=>[1]|k=>List.replicate k 1)
def Au(F:T DY)(f:Nat):CC:=match T.get F f with
 |some g=>g.body
 |none=> .bad
def wo{α:Type}(l:List α):Nat->List α
 |0=>l
 |Nat.succ n=>match l with
  | []=>[]
  |_::r=>wo r n
def Do(c:CC)(n:Nat):List CI:=match c with
 | .ops l=>wo l n
 |_=>[]
def JJ{α:Type}(t:T α):List (Nat×α)->T α
 | []=>t
 |p::r=>T.set (JJ t r) p.1 (some p.2)
def Aq(l:List AV):DV:= .cells false l.length (JI 0 .leaf l)
def L7(l:List AV):DV:= .cells true l.length (JI 0 .leaf l)
def wq{α:Type}:Nat->List α->Bool
 |0,[]=>true
 |Nat.succ n,_::r=>wq n r
 |_,_=>false
def Amy(n d N:Nat)(c:GN):Bool:=
 match c with
 |⟨⟨_,_,tm,_,_,_,_,_⟩,cs,h⟩=>match wq n cs with
  |true=>(match Nat.ble N h.n with
   |true=>(match T.get tm d with|some _=>true|none=>false)
   |false=>false)
  |false=>false
theorem Good.mono{zn:Nat->AV->Prop}(hg:Good P E Q c)(h:∀fn v,Q fn v->zn fn v):Good P E zn c:=λw0 CE m hA=>let⟨fn,v,hh,fr,w,AC,AQ,q,r⟩:=hg w0 CE m hA;⟨fn,v,hh,fr,w,AC,AQ,h fn v q,r⟩
def mm(f:Nat)(u:AV)(fn:Nat)(v:AV):Bool:=match Nat.beq fn f with
 |true=>Gd 20 v u
 |false=>false
theorem Ajb(h:mm f u fn v=true):fn=f/\v=u:=by
 unfold mm at h;split at h;.rename_i hb;exact⟨As hb,Qp _ _ _ h⟩
 .cases h
def bq(o:Option GN):GN:=match o with
 |some c=>c
 |none=>⟨⟨0,0,.leaf,[],[],.run,false,none⟩,[],⟨0,.leaf⟩⟩
def V2(o:Option GN):Bool:=match o with
 |some _=>true
 |none=>false
theorem Uo{o:Option GN}(h:V2 o=true):o=some (bq o):=by
 cases o with
 |none=>cases h
 |some c=>rfl
theorem Ya{F:T DY}{K:HK}(hE:DG P E)(hT:PA P E F)(hK:ND P K){n:Nat}(h:Tu F K (mm f u) n c=true):Good P E (λfn v=>fn=f/\v=u) c:=(Ov hE hT hK n c h).mono λ_ _=>Ajb
open Go.Proofs
def SS:List Nat:=[7,8,22,23,24,25,35,36,38,39,40,41,46,47,68,69,81,82,98,99,102,103,117,118,120,121,123,124,135,136,140,141,143,144,158,159,180,181,182,183,192,193,194,195,198,199,207,208,209,210,212,213,219,220,225,226,234,235,271,272,275,276,297,298,308,309,310,311,335,336,355,356]
def EE:Env:=wm Tryz.prog SS
end Go.Ev
namespace Go.Ev
variable {E:Env}{F:T DY}{K:HK}{P:Program}{Q:Nat->AV->Prop}{a:Int}{args c:List AV}{b:CC}{cap fn i id k len nt o off q size:Nat}{By pre:List DI}{ci:CI}{cs:FM}{AL t:Bool}{ds:List HN}{dst:Option Nat}{f:OY}{fr:Frame}{g:DY}{gd:Option (Nat×Bool)}{h AA:H}{l:List Ph}{mode:VC}{nm:List Nat}{op:RY}{r:List CI}{tm FV:T AV}{todo:DO}{v:AV}{w0:World}{x:EW}{Cb:DV}{y z:O}{AC:BF}
inductive ff:DV->DV->Prop where
 |cells {ro:Bool} {Yh n:Nat} {BP c:T AV} (hn:Yh<=n) (h:∀i v,i<Yh->T.get BP i=some v->T.get c i=some v):ff (.cells ro Yh BP) (.cells ro n c)
 |same (x:DV):ff x x
theorem ff.ro{x:DV}(h:ff Cb x):XP Cb=XP x:=by cases h<;>rfl
def FY(FV tm:T AV):Prop:=∀t v,T.get FV t=some v->T.get tm t=some v
structure HSub (AA h:H):Prop where
 n:h.n<=AA.n
 FH:∀b Cb,H.get AA b=some Cb->∃x,H.get h b=some x/\ff Cb x
theorem HSub.refl(h:H):HSub h h:=⟨BD _,λb x hx=>⟨x,hx,.same x⟩⟩
theorem FY.refl(t:T AV):FY t t:=λ_ _ h=>h
theorem BR.sub{l:Loc}{x:DV}{o:Obj}(hb:ff Cb x)(h:BR E AC l x o):BR E AC l Cb o:=by
 cases hb with
 |same=>exact h
 |cells h1 h2=>cases h with
  |cells hf hs hn hc=>exact .cells hf hs om λi v hi hv=>hc i v om (h2 i v hi hv)
theorem HW.sub{w:World}(hs:HSub AA h)(k:HW E w0 AC h w):HW E w0 AC AA w:=by
 refine⟨?_,k.YZ⟩;have hr:=k.hr;refine⟨λb l hb=>IF (hr.bound b l hb) hs.n,hr.SG,λb l x hb hx=>?_,λb AR l AT x Cb h1 h2 h3 h4 h5 h6=>?_,λb l x hb hx h5=>?_,hr.old,hr.size⟩;.obtain⟨y,g1,g2⟩:=hs.FH b x hx;obtain⟨o,g3,g4⟩:=hr.FH b l y hb g1;exact⟨o,g3,g4.sub g2⟩
 .obtain⟨y,g1,g2⟩:=hs.FH b x h3;obtain⟨GM,g3,g4⟩:=hs.FH AR Cb h4;exact hr.inj b AR l AT y GM h1 h2 g1 g3 (by rw[<-g2.ro];exact h5) h6
 .obtain⟨y,g1,g2⟩:=hs.FH b x hx;exact hr.own b l y hb g1 (by rw[<-g2.ro];exact h5)
theorem FR.aen{ro:Option Nat}(ht:FY FV tm)(h:FR E AC ⟨fn,nt,tm,todo,ds,mode,AL,ro⟩ fr):FR E AC ⟨fn,nt,FV,todo,ds,mode,AL,ro⟩ fr:=by
 refine⟨h.fn,h.kind,h.ro,h.defers,h.mode,?_,h.abj⟩;have hb:=h.body;simp only at hb ⊢;generalize fr.tmps=q1 at hb ⊢;generalize fr.todo=q2 at hb ⊢
 cases hb with
 |plain h1 hi=>exact .plain ⟨h1.size,λt v hv=>h1.val t v (ht t v hv)⟩ hi
 |gone h1=>exact .gone ⟨h1.size,λt v hv=>h1.val t v (ht t v hv)⟩
 |drawn hs he hp h1 hi=>exact .drawn hs he hp ⟨h1.size,λt v hv=>h1.val t v (ht t v hv)⟩ hi
section
theorem R1{ro:Option Nat}(ht:FY FV tm)(hh:HSub AA h)(hg:Good P E Q ⟨⟨fn,nt,FV,todo,ds,mode,AL,ro⟩,cs,AA⟩):Good P E Q ⟨⟨fn,nt,tm,todo,ds,mode,AL,ro⟩,cs,h⟩:=by intro w0 CE m hA;obtain⟨AC,fr,NG,w,rfl,hf,CK,hr⟩:=hA.ex;exact hg w0 CE _ ⟨AC,fr,NG,w,rfl,hf.aen ht,CK,hr.sub hh⟩
def GO(P:Program)(E:Env)(Q:Nat->AV->Prop)(o:Out):Prop:=match o with
 | .one c=>Good P E Q c
 | .many l=>∀c∈l,Good P E Q c
 | .done fn v _=>Q fn v
 | .fail=>False
abbrev Fk(F:T DY)(K:HK)(n:Nat)(c:DY):Prop:=T.get F n=some c/\T.get K n=none
structure Lg (P:Program)(E:Env)(F:T DY)(K:HK):Prop where
 hE:DG P E
 hT:PA P E F
 hK:ND P K
variable (L:Lg P E F K)
include L
theorem A5{c:GN}(h:GO P E Q (step F K c)):Good P E Q c:=by
 refine Ou L.hE L.hT L.hK ?_
 cases hs:step F K c<;>rw[hs]at h<;>exact h
end
def ov{α:Type}(t:T α):List (Nat×Option α)->T α
 | []=>t
 |p::r=>T.set (ov t r) p.1 p.2
theorem V3{α:Type}(t:T α)(k:Nat)(x:Option α)(r:List (Nat×Option α))(i:Nat):T.get (ov t ((k,x)::r)) i=if i=k then x else T.get (ov t r) i:=T.MH _ _ _ _
theorem Amz{α:Type}(t:T α)(k:Nat)(x:Option α)(r:List (Nat×Option α)):T.get (ov t ((k,x)::r)) k=x:=by rw[V3,AP rfl]
theorem Am0{α:Type}(t:T α)(x:Option α)(r:List (Nat×Option α))(h:i≠k):T.get (ov t ((k,x)::r)) i=T.get (ov t r) i:=by rw[V3,AM h]
def look{α:Type}:List (Nat×Option α)->Nat->Option α
 | [],_=>none
 |p::r,i=>match Nat.beq i p.1 with
  |true=>p.2
  |false=>look r i
theorem Hu{α:Type}(i:Nat):∀r:List (Nat×Option α),T.get (ov (.leaf:T α) r) i=look r i
 | []=>T.VM i
 |p::r=>by
  obtain⟨k,x⟩:=p;rw[V3,Hu i r];simp only[look]
  cases hb:Nat.beq i k with
  |true=>rw[AP (As hb)]
  |false=>rw[AM (Em hb)]
abbrev AJ(l:CJ):T AV:=ov .leaf l
def DP(l:CJ)(o:O):AV:=match o with
 | .t i=>(match look l i with|some v=>v|none=> .FK)
 | .c v=>v
theorem Ak(l:CJ)(o:O):ev (AJ l) o=DP l o:=by
 cases o with
 |t i=>simp only[ev,DP,Hu];cases look l i<;>rfl
 |c v=>rfl
abbrev hp(n:Nat)(t:T DV)(l:SA):H:=⟨n,ov t l⟩
def cl(l:List AV):DV:= .cells false l.length (JI 0 .leaf l)
theorem G8(l:List AV)(i:Nat):T.get (JI 0 (.leaf:T AV) l) i=l[i]?:=by
 rw[K3];by_cases h:i<l.length;.rw[AP om,WK]
 .rw[AM om,T.VM,OW om]
theorem H6(n:Nat)(t:T DV)(b:Nat)(x:Option DV)(r:SA):H.get (hp n t ((b,x)::r)) b=x:=Amz _ _ _ _
theorem H7(n:Nat)(t:T DV){b:Nat}(x:Option DV)(r:SA)(h:i≠b):H.get (hp n t ((b,x)::r)) i=H.get (hp n t r) i:=Am0 _ _ _ h
def jH(ts:List Nat)(x:EW):EW:=match x with
 |⟨fn,nt,tm,todo,ds,mode,AL,ro⟩=>⟨fn,nt,only tm ts,todo,ds,mode,AL,ro⟩
def jI:HJ->FM->FM
 | [],l=>l
 |ts::r,l=>match l with
  | []=>[]
  |x::l=>jH ts x::jI r l
def rF(cL:HJ)(bs:List Nat)(n:Nat)(c:GN):Option GN:=
 match c with
 |⟨fr,cs,h⟩=>match Nat.ble h.n n with
  |true=>(match cL with
   |ts::r=>some ⟨jH ts fr,jI r cs,⟨n,P7 h.t bs⟩⟩
   | []=>none)
  |false=>none
def vm(F:T DY)(K:HK)(dep d N:Nat)(cL:HJ)(bs:List Nat)(n fuel:Nat)(c:GN):Option (List (Option GN)):=
 match X8 F K (Amy dep d N) fuel c with
 |some l=>some (l.map (rF cL bs n))
 |none=>none
theorem Ada(tm:T AV)(ts:List Nat):FY (only tm ts) tm:=λt v hv=>by
 rw[M3]at hv
 by_cases e:t∈ts
 .rw[AP e]at hv;exact hv
 .rw[AM e]at hv;cases hv
theorem FR.jH(ts:List Nat)(h:FR E AC x fr):FR E AC (Ev.jH ts x) fr:=by obtain⟨fn,nt,tm,todo,ds,mode,AL,ro⟩:=x;exact h.aen (Ada tm ts)
theorem LD.jI:∀(cL:HJ) {l:FM} {AT:List Frame},LD E AC l AT->LD E AC (Ev.jI cL l) AT
 | [],_,_,h=>h
 |ts::r,_,_,.nil=> .nil
 |ts::r,_,_,.cons h hs=> .cons (h.jH ts) (LD.jI r hs)
theorem Lr(hE:DG P E)(hT:PA P E F)(hK:ND P K){dep d N:Nat}{cL:HJ}{bs:List Nat}{n fuel:Nat}{c BP:GN}(h:vm F K dep d N cL bs n fuel c=some (List.replicate k (some BP)))(hg:Good P E Q BP):Good P E Q c:=by
 unfold vm at h;split at h
 .rename_i l hl;simp only[DB]at h;refine Ow hE hT hK fuel c l hl λx hx=>?_;have h1:rF cL bs n x∈List.replicate k (some BP):=by rw[<-h];exact DK.2 ⟨x,hx,rfl⟩
  have h1:=List.eq_of_mem_replicate h1;obtain⟨fr,cs,h9⟩:=x;simp only[rF]at h1;split at h1
  .rename_i hn;split at h1
   .cases h1;intro w0 CE m hA;obtain⟨AC,fr,NG,w,rfl,hf,CK,hr⟩:=hA.ex;refine hg w0 CE _ ⟨AC,fr,NG,w,rfl,hf.jH _,CK.jI _,hr.sub ⟨Al hn,λb x hx=>⟨x,?_,.same x⟩⟩⟩;have hx:T.get (P7 h9.t bs) b=some x:=hx;rw[Ox]at hx;by_cases e:b∈bs;.rw[AP e]at hx;exact hx
    .rw[AM e]at hx;cases hx
   .cases h1
  .cases h1
 .cases h
section
variable (L:Lg P E F K)
variable {k:DO}{ro:Option Nat}
include L
theorem Ajc(g:Good P E Q ⟨⟨fn,nt,tm,k,ds,.run,AL,ro⟩,cs,h⟩):Good P E Q ⟨⟨fn,nt,tm,.code .skip::k,ds,.run,AL,ro⟩,cs,h⟩:=A5 L g
theorem Adu{l:Nat}(g:Good P E Q ⟨⟨fn,nt,tm,k,ds,.run,AL,ro⟩,cs,h⟩):Good P E Q ⟨⟨fn,nt,tm,.code (.label l)::k,ds,.run,AL,ro⟩,cs,h⟩:=A5 L g
theorem Am1{a:CC}(g:Good P E Q ⟨⟨fn,nt,tm,.code a:: .code b::k,ds,.run,AL,ro⟩,cs,h⟩):Good P E Q ⟨⟨fn,nt,tm,.code (.seq a b)::k,ds,.run,AL,ro⟩,cs,h⟩:=A5 L g
theorem Adv(g:Good P E Q ⟨⟨fn,nt,tm,.code b:: .inBlock id::k,ds,.run,AL,ro⟩,cs,h⟩):Good P E Q ⟨⟨fn,nt,tm,.code (.block id b)::k,ds,.run,AL,ro⟩,cs,h⟩:=A5 L g
theorem Bi(g:Good P E Q ⟨⟨fn,nt,tm,.code b:: .inLoop b::k,ds,.run,AL,ro⟩,cs,h⟩):Good P E Q ⟨⟨fn,nt,tm,.code (.loop b)::k,ds,.run,AL,ro⟩,cs,h⟩:=A5 L g
theorem Bs(g:Good P E Q ⟨⟨fn,nt,tm,.code b:: .inLoop b::k,ds,.run,AL,ro⟩,cs,h⟩):Good P E Q ⟨⟨fn,nt,tm,.inLoop b::k,ds,.run,AL,ro⟩,cs,h⟩:=A5 L g
theorem Adw(g:Good P E Q ⟨⟨fn,nt,tm,.code b:: .inScope b::k,ds,.run,AL,ro⟩,cs,h⟩):Good P E Q ⟨⟨fn,nt,tm,.code (.scope b)::k,ds,.run,AL,ro⟩,cs,h⟩:=A5 L g
theorem ak3(g:Good P E Q ⟨⟨fn,nt,tm,k,ds,.run,AL,ro⟩,cs,h⟩):Good P E Q ⟨⟨fn,nt,tm,.inBlock id::k,ds,.run,AL,ro⟩,cs,h⟩:=A5 L g
theorem alh(g:Good P E Q ⟨⟨fn,nt,tm,k,ds,.run,AL,ro⟩,cs,h⟩):Good P E Q ⟨⟨fn,nt,tm,.inScope b::k,ds,.run,AL,ro⟩,cs,h⟩:=A5 L g
theorem Ajd{AZ:DO}(e:Ev.exitTo id k=some AZ)(g:Good P E Q ⟨⟨fn,nt,tm,AZ,ds,.run,AL,ro⟩,cs,h⟩):Good P E Q ⟨⟨fn,nt,tm,.code (.exit id)::k,ds,.run,AL,ro⟩,cs,h⟩:=by refine A5 L ?_;simp only[Ev.step,B0,Cf,e];exact g
theorem Aje{l:Nat}{AZ:DO}(e:Ev.gotoIn l k=some AZ)(g:Good P E Q ⟨⟨fn,nt,tm,AZ,ds,.run,AL,ro⟩,cs,h⟩):Good P E Q ⟨⟨fn,nt,tm,.code (.goto l)::k,ds,.run,AL,ro⟩,cs,h⟩:=by refine A5 L ?_;simp only[Ev.step,B0,Cf,e];exact g
theorem Ajf{x:O}{a:CC}(e:ev tm x= .bool t)(g1:t=true->Good P E Q ⟨⟨fn,nt,tm,.code a::k,ds,.run,AL,ro⟩,cs,h⟩)(g2:t=false->Good P E Q ⟨⟨fn,nt,tm,.code b::k,ds,.run,AL,ro⟩,cs,h⟩):Good P E Q ⟨⟨fn,nt,tm,.code (.cond x a b)::k,ds,.run,AL,ro⟩,cs,h⟩:=by
 refine A5 L ?_;show GO P E Q (match ev tm x with| .bool true=> .one ⟨⟨fn,nt,tm,.code a::k,ds,.run,AL,ro⟩,cs,h⟩| .bool false=> .one ⟨⟨fn,nt,tm,.code b::k,ds,.run,AL,ro⟩,cs,h⟩|_=> .fail);rw[e]
 cases t with
 |true=>exact g1 rfl
 |false=>exact g2 rfl
omit L in
def Tw(P:Program)(E:Env)(F:T DY)(K:HK)(Q:Nat->AV->Prop)(l:List CI)(k:DO)(fn nt:Nat)(tm:T AV)(ds:List HN)(AL:Bool)(ro:Option Nat)(cs:FM)(h:H):Prop:=
 GO P E Q (Xp F K (Dr l tm h) k fn nt ds AL ro cs)
theorem R2{l:List CI}(g:Tw P E F K Q l k fn nt tm ds AL ro cs h):Good P E Q ⟨⟨fn,nt,tm,.ops l::k,ds,.run,AL,ro⟩,cs,h⟩:=A5 L g
omit L
theorem Am2{f:Nat}(hw:wanted tm gd=some true)(hx:exec op h tm= .EQ f args)(g:Good P E Q ⟨⟨fn,nt,put tm dst (.BM []),.ops r::k,.call f args::ds,.run,AL,none⟩,cs,h⟩):Tw P E F K Q (⟨dst,gd,op⟩::r) k fn nt tm ds AL none cs h:=by unfold Tw;simp only[Dr,hw,hx];exact g
theorem Am3(hw:wanted tm gd=some true)(hx:exec op h tm= .G0 v)(g:Good P E Q ⟨⟨fn,nt,tm,.ops (⟨dst,gd,op⟩::r)::k,ds,.panicking [(v,false)],AL,ro⟩,cs,h⟩):Tw P E F K Q (⟨dst,gd,op⟩::r) k fn nt tm ds AL ro cs h:=by unfold Tw;simp only[Dr,hw,hx];exact g
theorem Ajh{l:List (AV×H)}(hw:wanted tm gd=some true)(hx:exec op h tm= .next l)(g:∀x∈l,Good P E Q ⟨⟨fn,nt,put tm dst x.1,.ops r::k,ds,.run,AL,ro⟩,cs,x.2⟩):Tw P E F K Q (⟨dst,gd,op⟩::r) k fn nt tm ds AL ro cs h:=by unfold Tw;simp only[Dr,hw,hx,Xp,GO];intro c hc;obtain⟨x,h1,rfl⟩:=DK.1 hc;exact g x h1
include L
theorem Adx{f:Nat}(hf:T.get F f=some g)(hm:cD K f args=none)(hn:Nat.ble args.length g.ntmps=true)(h1:Good P E Q ⟨⟨f,g.ntmps,JI 0 .leaf args,[.code g.body],[],.run,false,none⟩,x::cs,h⟩):GO P E Q (B6 F K (.func f) args false x cs h):=by simp only[B6,hf,Xo,hm,hn];exact h1
theorem R3{l:List AV}(hf:T.get F fn=some g)(hr:results tm h g.results=some l)(h1:GO P E Q (finish (single l) cs h x)):Good P E Q ⟨⟨fn,nt,tm,todo,[],.returning,false,none⟩,x::cs,h⟩:=by refine A5 L ?_;show GO P E Q (match T.get F fn with|none=> .fail|some g=>match results tm h g.results with|some l=>Ev.doReturn fn false (single l) (x::cs) h|none=> .fail);rw[hf];simp only[hr];exact h1
theorem Am4{l:List AV}(hf:T.get F fn=some g)(hr:results tm h g.results=some l)(h1:GO P E Q (finish (single l) cs h x)):Good P E Q ⟨⟨fn,nt,tm,.code .ret::k,[],.run,false,none⟩,x::cs,h⟩:=A5 L (show Good P E Q ⟨⟨fn,nt,tm,.code .ret::k,[],.returning,false,none⟩,x::cs,h⟩from R3 L hf hr h1)
theorem wu{l:List AV}(hf:T.get F fn=some g)(hr:results tm h g.results=some l)(h1:GO P E Q (finish (single l) cs h x)):Good P E Q ⟨⟨fn,nt,tm,[],[],.run,false,none⟩,x::cs,h⟩:=A5 L (show Good P E Q ⟨⟨fn,nt,tm,[],[],.returning,false,none⟩,x::cs,h⟩from R3 L hf hr h1)
omit L
def Bh(P:Program)(E:Env)(Q:Nat->AV->Prop)(pre By:List DI)(l:List Ph)(k:DO)(fn nt:Nat)(tm:T AV)(ds:List HN)(AL:Bool)(ro:Option Nat)(cs:FM)(h:H):Prop:=
 GO P E Q (Dk pre By l k fn nt tm ds AL ro cs h)
theorem Am5(hw:wanted (only tm nm) ci.guard=some true)(hx:exec ci.op h (only tm nm)= .val v AA)(g:Bh P E Q pre By l k fn nt (put tm ci.dst v) ds AL ro cs AA):Bh P E Q (⟨ci,nm⟩::pre) By l k fn nt tm ds AL ro cs h:=by unfold Bh Dk at g ⊢;simp only[Ho,hw,hx];exact g
theorem Aji(hw:wanted (only tm nm) ci.guard=some false)(g:Bh P E Q pre By l k fn nt (put tm ci.dst (.BM [])) ds AL ro cs h):Bh P E Q (⟨ci,nm⟩::pre) By l k fn nt tm ds AL ro cs h:=by unfold Bh Dk at g ⊢;simp only[Ho,hw];exact g
theorem wv(hc:NF By tm h=true)(g:Good P E Q ⟨⟨fn,nt,tm,(match l with| []=>k|p::r=> .drawn p r::k),ds,.run,AL,ro⟩,cs,h⟩):Bh P E Q [] By l k fn nt tm ds AL ro cs h:=by
 unfold Bh Dk;simp only[Ho,hc]
 cases l<;>exact g
include L
theorem Qt(g:Bh P E Q pre By l k fn nt tm ds AL ro cs h):Good P E Q ⟨⟨fn,nt,tm,.code (.drawn pre By l)::k,ds,.run,AL,ro⟩,cs,h⟩:=A5 L g
omit L in
theorem Ajj{l:List Out}(h1:∀o∈l,(∃c,o= .one c))(h2:∀o∈l,GO P E Q o):GO P E Q (Js l):=by
 rcases K7 (l:=l) rfl with e|⟨xs,e,g⟩
 .exfalso;have:∀l:List Out,(∀o∈l,∃c,o= .one c)->Js l≠ .fail:=by
   intro l;induction l with
   |nil=>intro _ h;cases h
   |cons o l ih=>
    intro h AA;obtain⟨c,rfl⟩:=h o (DW ..);simp only[Js]at AA;rcases K7 (l:=l) rfl with e|⟨xs,e,_⟩;.exact ih (λo ho=>h o (Ck _ ho)) e
    .rw[e]at AA;cases AA
  exact this l h1 e
 .rw[e];have:∀(l:List Out) (xs:List GN),Js l= .many xs->(∀o∈l,GO P E Q o)->∀c∈xs,Good P E Q c:=by
   intro l;induction l with
   |nil=>intro xs h _ c hc;cases h;cases hc
   |cons o l ih=>
    intro xs h hg c hc;simp only[Js]at h
    cases o with
    |one d=>
     simp only at h
     cases hl:Js l with
     |many ys=>
      rw[hl]at h
      cases h;rcases DD.1 hc with e|hc;.subst e;exact hg _ (DW ..)
      .exact ih ys hl (λo ho=>hg o (Ck _ ho)) c hc
     |_=>rw[hl]at h;cases h
    |_=>cases h
  exact λc hc=>this l xs e h2 c hc
theorem Ajk{l:List Alt}(g:∀a∈l,Bh P E Q a.pre a.By a.l k fn nt tm ds AL ro cs h):Good P E Q ⟨⟨fn,nt,tm,.code (.alts l)::k,ds,.run,AL,ro⟩,cs,h⟩:=by
 refine A5 L (show GO P E Q (Js (l.map λa=>Dk a.pre a.By a.l k fn nt tm ds AL ro cs h))from ?_);refine Ajj (λo ho=>?_) (λo ho=>?_)
 .obtain⟨a,ha,rfl⟩:=DK.1 ho;rcases ahg a.pre a.By a.l k fn nt tm ds AL ro cs h with e|e;.have:=g a ha;unfold Bh at this;rw[e]at this;exact this.elim
  .exact e
 .obtain⟨a,ha,rfl⟩:=DK.1 ho;exact g a ha
theorem ja(hw:wanted (only tm nm) gd=some true)(hx:exec op h (only tm nm)= .val v AA)(g:Bh P E Q pre By l k fn nt (put tm dst v) ds AL ro cs AA):Good P E Q ⟨⟨fn,nt,tm,.drawn ⟨⟨⟨dst,gd,op⟩,nm⟩,pre,By⟩ l::k,ds,.run,AL,ro⟩,cs,h⟩:=by refine A5 L ?_;simp only[Ev.step,B0,hw,hx];exact g
theorem Ajl(hw:wanted (only tm nm) gd=some false)(g:Bh P E Q pre By l k fn nt (put tm dst (.BM [])) ds AL ro cs h):Good P E Q ⟨⟨fn,nt,tm,.drawn ⟨⟨⟨dst,gd,op⟩,nm⟩,pre,By⟩ l::k,ds,.run,AL,ro⟩,cs,h⟩:=by refine A5 L ?_;simp only[Ev.step,B0,hw];exact g
theorem Ajm(hw:wanted (only tm nm) gd=some true)(hx:exec op h (only tm nm)= .call f args)(g:GO P E Q (B6 F K f args false ⟨fn,nt,tm,.drawn ⟨⟨⟨dst,gd,op⟩,nm⟩,pre,By⟩ l::k,ds,.run,AL,ro⟩ cs h)):Good P E Q ⟨⟨fn,nt,tm,.drawn ⟨⟨⟨dst,gd,op⟩,nm⟩,pre,By⟩ l::k,ds,.run,AL,ro⟩,cs,h⟩:=by refine A5 L ?_;simp only[Ev.step,B0,hw,hx];exact g
omit L in
theorem ali(hb:op≠ .bad)(g:Bh P E Q pre By l k fn nt (put tm dst v) ds AL ro cs h):GO P E Q (finish v cs h ⟨fn,nt,tm,.drawn ⟨⟨⟨dst,gd,op⟩,nm⟩,pre,By⟩ l::k,ds,.run,AL,ro⟩):=by cases op<;>first|exact absurd rfl hb|exact g
end
theorem xW{p:Prop}(h:p:=by
 have:Nat.ble (Nat.succ i) len=true:=by rw[PQ];exact hi
 have VK:DP l y= .int k (Int.ofNat i):=e1
 simp only[exec,Ak,e,VK,this,hq]):p:=h
theorem Am7(k:IntKind)(h1:k.min<=a)(h2:a<=k.max):wr k a=a:=by
 rw[G5]
 cases k<;>simp only[IntKind.min,IntKind.max,IntKind.signed,IntKind.bits,IntKind.wrap]at* <;>simp at* <;>(try split)<;>omega
theorem Kg(h1: -9223372036854775808<=a)(h2:a<=9223372036854775807):wr .i64 a=a:=Am7 .i64 (by simpa[IntKind.min,IntKind.signed,IntKind.bits]using h1) (by simpa[IntKind.max,IntKind.signed,IntKind.bits]using h2)
section
variable {l:CJ}{x:O}{b:Nat}
theorem Avh(e:DP l x=v):exec (.mv x) h (AJ l)= .val v h:=by simp only[exec,Ak,e]
theorem Ajn(e:DP l x= .ptr b o):exec (.eT x) h (AJ l)= .val (.ptr b o) h:=by simp only[exec,Ak,e]
theorem Ady(e:DP l x= .ptr b o)(hq:Nat.add o off=q):exec (.dM x off) h (AJ l)= .val (.ptr b q) h:=by simp only[exec,Ak,e,hq]
theorem Adz(e:DP l x= .ptr b o)(hb:H.get h b=some (cl c))(hv:c[o]?=some v):exec (.cC x) h (AJ l)= .val v h:=by
 have BX:o<c.length:=(FE.1 hv).1;have:Nat.ble (Nat.succ o) c.length=true:=by rw[PQ];exact BX
 simp only[exec,Ak,e,hb,cl,this,vo,G8,hv]
theorem R4{k:IntKind}(e:DP l x= .AE b o len cap)(e1:DP l y= .int k (i:Nat))(hi:i<len)(hq:Nat.add o (Nat.mul i size)=q):exec (.bj size x y) h (AJ l)= .val (.ptr b q) h:=by exact xW
theorem Ajo(e:DP l x= .AE b o len cap):exec (.cB x) h (AJ l)= .val (.int .i64 (len:Nat)) h:=by simp only[exec,Ak,e];rfl
theorem Ad0(e:DP l x= .AS):exec (.cB x) h (AJ l)= .val (.int .i64 0) h:=by simp only[exec,Ak,e];rfl
theorem Am8(e:DP l x= .bool t):exec (.un .not x) h (AJ l)= .val (.bool (!t)) h:=by simp only[exec,Ak,e]
theorem alj{vs:List AV}(e:DP l x= .BM vs)(hv:vs[i]?=some v):exec (.extract x i) h (AJ l)= .val v h:=by simp only[exec,Ak,e,hv,vo]
theorem ae7{k j:IntKind}{r:Int}(e:DP l x= .int j a)(hr:wr k a=r):exec (.conv k x) h (AJ l)= .val (.int k r) h:=by simp only[exec,Ak,e,hr]
section
variable {k:IntKind}{c r:Int}{sh:Sh}{q:Bool}
theorem yo(e:DP l x= .int k a)(e1:DP l y= .int k c)(hr:wr k (a+c)=r):exec (.bin .add x y q sh) h (AJ l)= .val (.int k r) h:=by simp only[exec,Ak,e,e1,Hk,E6,Br];show vo h (some (.int k (wr k (a+c))))=_;rw[hr];rfl
theorem yq(e:DP l x= .int k a)(e1:DP l y= .int k c)(hr:wr k (a- c)=r):exec (.bin .sub x y q sh) h (AJ l)= .val (.int k r) h:=by simp only[exec,Ak,e,e1,Hk,E6,Br];show vo h (some (.int k (wr k (a- c))))=_;rw[hr];rfl
theorem wx(e:DP l x= .int k a)(e1:DP l y= .int k c)(hr:wr k (a*c)=r):exec (.bin .mul x y q sh) h (AJ l)= .val (.int k r) h:=by simp only[exec,Ak,e,e1,Hk,E6,Br];show vo h (some (.int k (wr k (a*c))))=_;rw[hr];rfl
theorem wy(e:DP l x= .int k a)(e1:DP l y= .int k c)(ht:decide (a<c)=t):exec (.bin .lss x y q sh) h (AJ l)= .val (.bool t) h:=by simp only[exec,Ak,e,e1,Hk,E6,Br,H4,vo,ht]
theorem wz(e:DP l x= .int k a)(e1:DP l y= .int k c)(ht:decide (a<=c)=t):exec (.bin .leq x y q sh) h (AJ l)= .val (.bool t) h:=by
 simp only[exec,Ak,e,e1,Hk,E6,Br,H4,vo];rw[<-ht];congr 2;by_cases hc:a<=c;.rw[CM hc,CW om];rfl
 .rw[CW hc,CM om];rfl
theorem x6(e:DP l x= .int k a)(e1:DP l y= .int k c)(ht:decide (c<a)=t):exec (.bin .gtr x y q sh) h (AJ l)= .val (.bool t) h:=by simp only[exec,Ak,e,e1,Hk,E6,Br,H4,vo,ht]
theorem x7(e:DP l x= .int k a)(e1:DP l y= .int k c)(ht:decide (c<=a)=t):exec (.bin .geq x y q sh) h (AJ l)= .val (.bool t) h:=by
 simp only[exec,Ak,e,e1,Hk,E6,Br,H4,vo];rw[<-ht];congr 2;by_cases hc:c<=a;.rw[CM hc,CW om];rfl
 .rw[CW hc,CM om];rfl
theorem x8(e:DP l x= .int k a)(e1:DP l y= .int k c)(ht:decide (a=c)=t):exec (.bin .eql x y q sh) h (AJ l)= .val (.bool t) h:=by simp only[exec,Ak,e,e1,Hk,E6,Br,F4,vo,ht]
theorem x9(e:DP l x= .int k a)(e1:DP l y= .int k c)(ht:decide (a≠c)=t):exec (.bin .neq x y q sh) h (AJ l)= .val (.bool t) h:=by
 simp only[exec,Ak,e,e1,Hk,E6,Br,F4,vo];rw[<-ht];congr 2;by_cases hc:a=c;.rw[CM hc,CW om];rfl
 .rw[CW hc,CM hc];rfl
end
end
section
variable {l:CJ}{k:DO}{ro:Option Nat}
variable (L:Lg P E F K)
include L
theorem xX{f:Nat}{l0:CJ}(hf:T.get F f=some g)(hm:T.get K f=none)(hn:Nat.ble args.length g.ntmps=true)(hl:JI 0 .leaf args=AJ l0)(h1:Good P E Q ⟨⟨f,g.ntmps,AJ l0,[.code g.body],[],.run,false,none⟩,x::cs,h⟩):GO P E Q (B6 F K (.func f) args false x cs h):=Adx L hf (by simp only[cD,hm]) hn (hl ▸ h1)
end
theorem rN{p:Prop}(h:p:=by
 obtain⟨YI,u,hh,sR,AY,BU,FW,q,s,t⟩:=g w0 CE _ sf
 exact⟨YI,u,hh,sR,AY,BU,FW,q,.head GC s,t⟩):p:=h
theorem IR.vK{l:List CI}{FB:Item}(h:IR E AC nt (.ops l) FB):∃ops td,l=td.map (Cd E nt ops)/\FB= .inRegion ops td:=by cases h;exact⟨_,_,rfl,rfl⟩
section
variable (L:Lg P E F K)
variable {k:DO}{ro:Option Nat}
include L
theorem Et(hw:wanted tm gd=some true)(hx:exec op h tm= .val v AA)(g:Good P E Q ⟨⟨fn,nt,put tm dst v,.ops r::k,ds,.run,AL,ro⟩,cs,AA⟩):Good P E Q ⟨⟨fn,nt,tm,.ops (⟨dst,gd,op⟩::r)::k,ds,.run,AL,ro⟩,cs,h⟩:=by
 intro w0 CE m hA;obtain⟨AC,fr,NG,w,rfl,hf,CK,hr⟩:=hA.ex;obtain⟨f1,tmps,OU,defers,mode,kind,QP⟩:=fr;obtain⟨h1,h2,h3,h4,h5,h6,h7⟩:=hf;simp only at h1 h2 h3 h4 h5 h6 h7 CK hr
 cases h5
 cases h6 with
 |plain ht hi=>
  cases hi with
  | @cons _ FB _ AZ hi hk=>
   obtain⟨ops,td,e1,rfl⟩:=hi.vK
   cases td with
   |nil=>cases e1
   |cons j rest=>
    rw[FU,Yr]at e1;obtain⟨e1,rfl⟩:=e1;rcases Kd E nt ops j with NH|⟨o,ho,q1,q2,q3,q4⟩;.rw[NH]at e1;cases e1;cases hx
    .rw[<-e1]at q1 q3 q4;simp only at q1 q3 q4;subst q1;have hb:OG AC fn AL ro (⟨f1,tmps,.inRegion ops (j::rest)::AZ,defers,.run,kind,QP⟩:Frame):=⟨h1,h2,h3⟩;have RL:=Es (a:=⟨tmps,defers⟩) ht q3 hw;rw[q4]at hx;have HA:∀c,o.op≠ .defer c:=Fz hx bp bu;have lX:=Qo hr.hr (TR.RO (a:=⟨tmps,defers⟩) ht) L.hE hx;obtain⟨au,AQ,w1,⟨s1,_⟩,s2,s3,s4,s5⟩:=lX;have GC:=Im (b:=⟨f1,tmps,.inRegion ops (j::rest)::AZ,defers,.run,kind,QP⟩) (a:=⟨tmps,defers⟩) (cs:=NG++CE) (k:=AZ) (rest:=rest) ho RL HA s2;have MT:KA au ds ((⟨tmps,defers⟩:Act).put o.dst AQ).defers:=(by have:((⟨tmps,defers⟩:Act).put o.dst AQ).defers=defers:=qC;rw[this];exact h4.mono s1);have sf:At E w0 CE ⟨⟨fn,nt,put tm o.dst v,.ops (rest.map (Cd E nt ops))::k,ds,.run,AL,ro⟩,cs,AA⟩ (lone ((⟨f1,tmps,.inRegion ops (j::rest)::AZ,defers,.run,kind,QP⟩:Frame).atR ((⟨tmps,defers⟩:Act).put o.dst AQ) (.inRegion ops rest::AZ)) (NG++CE) w1):=⟨au,_,NG,w1,rfl,(hb.mono s1).FR ((ht.mono s1).aW (a:=⟨tmps,defers⟩) q2 s3) MT (.cons (.ops ops rest) (hk.mono s1)),CK.mono s1,hr.to s4 s5⟩;exact rN
theorem L8(hw:wanted tm gd=some false)(g:Good P E Q ⟨⟨fn,nt,put tm dst (.BM []),.ops r::k,ds,.run,AL,ro⟩,cs,h⟩):Good P E Q ⟨⟨fn,nt,tm,.ops (⟨dst,gd,op⟩::r)::k,ds,.run,AL,ro⟩,cs,h⟩:=by
 intro w0 CE m hA;obtain⟨AC,fr,NG,w,rfl,hf,CK,hr⟩:=hA.ex;obtain⟨f1,tmps,OU,defers,mode,kind,QP⟩:=fr;obtain⟨h1,h2,h3,h4,h5,h6,h7⟩:=hf;simp only at h1 h2 h3 h4 h5 h6 h7 CK hr
 cases h5
 cases h6 with
 |plain ht hi=>
  cases hi with
  | @cons _ FB _ AZ hi hk=>
   obtain⟨ops,td,e1,rfl⟩:=hi.vK
   cases td with
   |nil=>cases e1
   |cons j rest=>
    rw[FU,Yr]at e1;obtain⟨e1,rfl⟩:=e1;have hb:OG AC fn AL ro (⟨f1,tmps,.inRegion ops (j::rest)::AZ,defers,.run,kind,QP⟩:Frame):=⟨h1,h2,h3⟩;rcases Kd E nt ops j with NH|⟨o,ho,q1,q2,q3,q4⟩;.rw[NH]at e1;cases e1;cases hw
    .rw[<-e1]at q1 q3 q4;simp only at q1 q3 q4;subst q1;have RL:=Es (a:=⟨tmps,defers⟩) ht q3 hw;have GC:=stepR_op_skip (P:=P) (b:=⟨f1,tmps,.inRegion ops (j::rest)::AZ,defers,.run,kind,QP⟩) (a:=⟨tmps,defers⟩) (k:=AZ) (cs:=NG++CE) (w:=w) (ops:=ops) (i:=j) (rest:=rest) px;rw[ho]at GC;simp only[ZZ]at GC;have MT:KA AC ds ((⟨tmps,defers⟩:Act).put o.dst undef).defers:=(by have:((⟨tmps,defers⟩:Act).put o.dst undef).defers=defers:=qC;rw[this];exact h4);have sf:At E w0 CE ⟨⟨fn,nt,put tm o.dst (.BM []),.ops (rest.map (Cd E nt ops))::k,ds,.run,AL,ro⟩,cs,h⟩ (lone ((⟨f1,tmps,.inRegion ops (j::rest)::AZ,defers,.run,kind,QP⟩:Frame).atR ((⟨tmps,defers⟩:Act).put o.dst undef) (.inRegion ops rest::AZ)) (NG++CE) w):=⟨AC,_,NG,w,rfl,hb.FR (ht.aW (a:=⟨tmps,defers⟩) q2 (.BM .nil)) MT (.cons (.ops ops rest) hk),CK,hr⟩;exact rN
theorem Ajq{l:List CI}(g:Good P E Q ⟨⟨fn,nt,tm,.ops l::k,ds,.run,AL,ro⟩,cs,h⟩):Good P E Q ⟨⟨fn,nt,tm,.code (.ops l)::k,ds,.run,AL,ro⟩,cs,h⟩:=by
 intro w0 CE m hA;obtain⟨AC,fr,NG,w,rfl,hf,CK,hr⟩:=hA.ex;obtain⟨f1,tmps,OU,defers,mode,kind,QP⟩:=fr;obtain⟨h1,h2,h3,h4,h5,h6,h7⟩:=hf;simp only at h1 h2 h3 h4 h5 h6 h7 CK hr
 cases h5
 cases h6 with
 |plain ht hi=>
  cases hi with
  | @cons _ FB _ AZ hi hk=>
   have hinv:∀{x:PS},IR E AC nt x FB->x= .code (.ops l)->∃id ops,FB= .code (.region id ops false)/\l=(List.range ops.size).map (Cd E nt ops):=by
    intro x hx ex
    cases hx with
    |code c=>
     simp only[PS.code.injEq]at ex
     cases c with
     |region id ops d=>
      cases d with
      |false=>simp only[Bo,E9,CC.ops.injEq]at ex;refine⟨id,ops,rfl,?_⟩;rw[<-ex];exact xw
      |true=>
       simp only[Bo,E9]at ex;repeat' split at ex
       all_goals cases ex
     |rangeFunc f ps a b=>simp only[Bo]at ex;split at ex<;>cases ex
     |_=>cases ex
    |_=>cases ex
   obtain⟨id,ops,rfl,rfl⟩:=hinv hi rfl;have hb:OG AC fn AL ro (⟨f1,tmps,.code (.region id ops false)::AZ,defers,.run,kind,QP⟩:Frame):=⟨h1,h2,h3⟩;have GC:=stepR_region (P:=P) (b:=⟨f1,tmps,.code (.region id ops false)::AZ,defers,.run,kind,QP⟩) (a:=⟨tmps,defers⟩) (k:=AZ) (cs:=NG++CE) (w:=w) (ops:=ops) (id:=id);have sf:At E w0 CE ⟨⟨fn,nt,tm,.ops ((List.range ops.size).map (Cd E nt ops))::k,ds,.run,AL,ro⟩,cs,h⟩ (lone ((⟨f1,tmps,.code (.region id ops false)::AZ,defers,.run,kind,QP⟩:Frame).atR (⟨tmps,defers⟩:Act) (.inRegion ops (List.range ops.size)::AZ)) (NG++CE) w):=⟨AC,_,NG,w,rfl,hb.FR (a:=⟨tmps,defers⟩) ht h4 (.cons (.ops ops (List.range ops.size)) hk),CK,hr⟩;exact rN
theorem Ajr(g:Good P E Q ⟨⟨fn,nt,tm,k,ds,.run,AL,ro⟩,cs,h⟩):Good P E Q ⟨⟨fn,nt,tm,.ops []::k,ds,.run,AL,ro⟩,cs,h⟩:=A5 L g
theorem R5(hw:wanted tm gd=some true)(hx:exec op h tm= .call f args)(g:GO P E Q (B6 F K f args false ⟨fn,nt,tm,.ops (⟨dst,gd,op⟩::r)::k,ds,.run,AL,ro⟩ cs h)):Good P E Q ⟨⟨fn,nt,tm,.ops (⟨dst,gd,op⟩::r)::k,ds,.run,AL,ro⟩,cs,h⟩:=R2 L ((by unfold Tw;simp only[Dr,hw,hx];exact g))
theorem L9(hb:op≠ .bad)(g:Good P E Q ⟨⟨fn,nt,put tm dst v,.ops r::k,ds,.run,AL,ro⟩,cs,h⟩):GO P E Q (finish v cs h ⟨fn,nt,tm,.ops (⟨dst,gd,op⟩::r)::k,ds,.run,AL,ro⟩):=by cases op<;>first|exact absurd rfl hb|exact g
end
def V4(l:CJ):List O->List AV
 | []=>[]
 |x::r=>DP l x::V4 l r
theorem M6(l:CJ):∀xs:List O,Z3 (AJ l) xs=V4 l xs
 | []=>rfl
 |x::r=>by simp only[Z3,V4,Ak,M6 l r]
def P9(l:CJ):List (Nat×Nat×O)->List AV->Option (List AV)
 | [],cells=>some cells
 |p::r,cells=>
  match A1 (DP l p.2.2)with
  |some x=>(match Nat.beq x.length p.2.1,Nat.ble (Nat.add p.1 p.2.1) cells.length with
   |true,true=>P9 l r (Gb x cells p.1)
   |_,_=>none)
  |none=>none
theorem R6(l:CJ):∀(ps:List (Nat×Nat×O)) (cells:List AV),fill (AJ l) ps cells=P9 l ps cells
 | [],cells=>rfl
 |p::r,cells=>by
  simp only[fill,P9,Ak]
  cases A1 (DP l p.2.2)with
  |none=>rfl
  |some x=>
   simp only[R6 l r];generalize Nat.beq x.length p.2.1=q1;generalize Nat.ble (Nat.add p.1 p.2.1) cells.length=q2
   cases q1<;>cases q2<;>rfl
section
variable {l:CJ}{lh:SA}{n:Nat}{t:T DV}{x:O}{b:Nat}{lv:List AV}
theorem Yb{c:List AV}:∀{k o:Nat},o+k<=c.length->QN (JI 0 (.leaf:T AV) c) k o=some ((c.drop o).take k)
 |0,o,h=>by simp[QN]
 |k+1,o,h=>by
  have BX:o<c.length:=om
  simp only[QN,G8,DA BX];rw[show Nat.succ o=o+1 from rfl,Yb (k:=k) (o:=o+1) om];simp only[DB];rw[ST BX,cP]
theorem Ja(hb:H.get h b=some (cl c))(hk:o+k<=c.length):KM h b o k=some ((c.drop o).take k):=by
 cases k with
 |zero=>simp[KM]
 |succ k=>
  have:Nat.ble (Nat.add o (k+1)) c.length=true:=by rw[PQ];exact hk
  simp only[KM,hb,cl,this];exact Yb hk
theorem acp(e:DP l x= .ptr b o)(hb:H.get h b=some (cl c))(hk:o+k<=c.length)(hv:(c.drop o).take k=lv):exec (.QN k x) h (AJ l)= .val (.agg lv) h:=by simp only[exec,Ak,e,Ja hb hk,hv]
theorem Ana(e:DP l x=v)(hc:A1 v=some lv)(hk:Nat.beq lv.length k=true):exec (.box k x) (hp n t lh) (AJ l)= .val (.ptr n 0) (hp (n+1) t ((n,some (cl lv))::lh)):=by simp only[exec,Ak,e,hc,hk];rfl
theorem Ad2{ps:List (Nat×Nat×O)}(hf:P9 l ps c=some lv):exec (.build c ps) h (AJ l)= .val (.agg lv) h:=by simp only[exec,R6,hf]
theorem aov{ps:List (Nat×Nat×O)}(hf:P9 l ps c=some lv):exec (.bJ k c ps) (hp n t lh) (AJ l)= .val (.AE n 0 k k) (hp (n+1) t ((n,some (cl lv))::lh)):=by simp only[exec,R6,hf];rfl
theorem Ajs{a cp:List O}{va vc:List AV}(ha:V4 l a=va)(hc:V4 l cp=vc):exec (.cE f a cp) h (AJ l)= .val (.fn f va vc) h:=by simp only[exec,M6,ha,hc]
theorem afa{a:List O}{va first cp r:List AV}(e:DP l x= .fn f first cp)(ha:V4 l a=va)(hr:List.append first (List.append va cp)=r):exec (.LY x a) h (AJ l)= .call f r:=by simp only[exec,Ak,e,M6,ha,hr]
theorem Ajt(e:DP l x=v):exec (.cF k x) h (AJ l)= .val (.Cm k v) h:=by simp only[exec,Ak,e]
theorem alk{z:AV}(e:DP l x= .Cm k v):exec (.jG x k z false) h (AJ l)= .val v h:=by have:Nat.beq k k=true:=OE k;simp only[exec,Ak,e,this]
theorem aow{vs:List AV}(e:DP l x= .agg vs)(hv:vs[off]?=some v):exec (.dN x off) h (AJ l)= .val v h:=by simp only[exec,Ak,e,hv,vo]
theorem Yc{k:IntKind}(e:DP l x= .ptr b o)(e1:DP l y= .int k (i:Nat))(hi:i<len)(hq:Nat.add o (Nat.mul i size)=q):exec (.eB len size x y) h (AJ l)= .val (.ptr b q) h:=by exact xW
theorem alm{k j:IntKind}{ln cn bytes:Nat}(e:DP l x= .int k (ln:Nat))(e1:DP l y= .int j (cn:Nat))(h1:ln<=cn)(h2:cn*bytes<=281474976710656)(h3:cn<=281474976710656)(hv:rl c cn=lv):exec (.eP bytes c x y) (hp n t lh) (AJ l)= .val (.AE n 0 ln cn) (hp (n+1) t ((n,some (cl lv))::lh)):=by
 have BG:DP l x= .int k (Int.ofNat ln):=e;have VK:DP l y= .int j (Int.ofNat cn):=e1;have g1:Nat.ble ln cn=true:=by rw[PQ];exact h1
 have g2:Nat.ble (Nat.mul cn bytes) 281474976710656=true:=by rw[PQ];exact h2
 have g3:Nat.ble cn 281474976710656=true:=by rw[PQ];exact h3
 simp only[exec,Ak,BG,VK,g1,g2,g3,hv];rfl
theorem yz{k:IntKind}{d r:Int}{mx:Bool}(e:DP l x= .int k a)(e1:DP l y= .int k d)(hr:(match mx with|true=>max a d|false=>min a d)=r):exec (.aT mx x y) h (AJ l)= .val (.int k r) h:=by
 simp only[exec,Ak,e,e1,Gc,Br,vo,H4];subst hr
 cases mx with
 |true=>
  by_cases hc:a<d;.simp only[CM hc];rw[Int.max_eq_right om]
  .simp only[CW hc];rw[Int.max_eq_left om]
 |false=>
  by_cases hc:d<a;.simp only[CM hc];rw[Int.min_eq_right om]
  .simp only[CW hc];rw[Int.min_eq_left om]
end
variable {S:Nat->Prop}{a b d m:Nat}{BP lv va xs:List AV}{l:CJ}{lh:SA}{ps:List (Nat×Nat×O)}{q:Bool}{s u:AV}{sh:Sh}{t:T DV}{x:O}
theorem ahk(c lv:List AV)(o:Nat)(hk:o+lv.length<=c.length)(i:Nat):T.get (L1 o (JI 0 .leaf c) lv) i=(Gb lv c o)[i]?:=by rw[L3,G8];exact(Fv lv c o i hk).symm
theorem Yd:∀(xs l:List AV) (o:Nat),o+xs.length<=l.length->(Gb xs l o).length=l.length
 |xs,l,0,h=>by
  have:Gb xs l 0=xs++l.drop xs.length:=by cases l<;>rfl
  rw[this];simp;omega
 |xs,[],o+1,h=>by simp at h
 |xs,a::l,o+1,h=>by simp only[Gb,FX]at h ⊢;rw[Yd xs l o om]
theorem Ye(c:List AV)(v:AV):∀(o:Nat),o<c.length->Gb [v] c o=c.set o v:=by
 intro o ho;apply QT;intro i;rw[Fv [v] c o i Y1,nM];by_cases hi:o=i;.subst hi;simp[ho]
 .rw[AM hi,AM Y1]
theorem M8{n:Nat}(DL:Av lv=true)(hb:H.get (hp n t lh) b=some (cl c))(hk:o+lv.length<=c.length)(hs:Gb lv c o=BP):∃AA,Yl (hp n t lh) b o lv=some AA/\HSub (hp n t ((b,some (cl BP))::lh)) AA:=by
 cases lv with
 |nil=>
  refine⟨_,rfl,BD _,λi z hz=>?_⟩;have MS:BP=c:=by rw[<-hs];apply QT;intro i;rw[Fv [] c o i (by simpa using hk)];simp;omega
  subst MS;by_cases e:i=b;.subst e;rw[H6]at hz;cases hz;exact⟨_,hb,.same _⟩
  .rw[H7 _ _ _ _ e]at hz;exact⟨z,hz,.same z⟩
 |cons a lv=>
  have g1:Nat.ble (Nat.add o (a::lv).length) c.length=true:=by rw[PQ];exact hk
  refine⟨H.set (hp n t lh) b (.cells false c.length (L1 o (JI 0 .leaf c) (a::lv))),?_,BD _,λi z hz=>?_⟩;.simp only[Yl,hb,cl,g1,DL]
  .by_cases e:i=b;.subst e;rw[H6]at hz;cases hz;refine⟨_,by rw[H.MH,AP rfl],?_⟩;unfold cl;refine .cells (by rw[<-hs,Yd _ _ _ hk];exact BD _) λj u hj hu=>?_;rw[G8]at hu;rw[ahk _ _ _ hk,hs];exact hu
   .rw[H7 _ _ _ _ e]at hz;exact⟨z,by rw[H.MH,AM e];exact hz,.same z⟩
section
variable (L:Lg P E F K)
variable {k:DO}{ro:Option Nat}{n:Nat}
include L
theorem V5(hw:wanted (AJ l) gd=some true)(e:DP l x= .ptr b o)(e1:DP l y=v)(hc:A1 v=some lv)(hm:Nat.beq lv.length m=true)(DL:Av lv=true)(hb:H.get (hp n t lh) b=some (cl c))(hk:o+lv.length<=c.length)(hs:Gb lv c o=BP)(g:Good P E Q ⟨⟨fn,nt,AJ l,.ops r::k,ds,.run,AL,ro⟩,cs,hp n t ((b,some (cl BP))::lh)⟩):Good P E Q ⟨⟨fn,nt,AJ l,.ops (⟨none,gd,.store m x y⟩::r)::k,ds,.run,AL,ro⟩,cs,hp n t lh⟩:=by
 have lS:=M8 (n:=n) (t:=t) (lh:=lh) DL hb hk hs;obtain⟨AA,q1,q2⟩:=lS;have hx:exec (.store m x y) (hp n t lh) (AJ l)= .val .FK AA:=by simp only[exec,Ak,e,e1,hc,hm,q1]
 exact Et L (dst:=none) hw hx (R1 (.refl _) q2 g)
theorem D0(ht:FY FV tm)(g:Good P E Q ⟨⟨fn,nt,FV,todo,ds,mode,AL,ro⟩,cs,h⟩):Good P E Q ⟨⟨fn,nt,tm,todo,ds,mode,AL,ro⟩,cs,h⟩:=R1 ht (.refl _) g
theorem Tx(hh:HSub AA h)(g:Good P E Q ⟨⟨fn,nt,tm,todo,ds,mode,AL,ro⟩,cs,AA⟩):Good P E Q ⟨⟨fn,nt,tm,todo,ds,mode,AL,ro⟩,cs,h⟩:=R1 (.refl _) hh g
theorem o1(hw:wanted (AJ l) gd=some true)(hx:exec op h (AJ l)= .val v AA)(g:Good P E Q ⟨⟨fn,nt,AJ ((d,some v)::l),.ops r::k,ds,.run,AL,ro⟩,cs,AA⟩):Good P E Q ⟨⟨fn,nt,AJ l,.ops (⟨some d,gd,op⟩::r)::k,ds,.run,AL,ro⟩,cs,h⟩:=Et L hw hx g
theorem os(hw:wanted (AJ l) gd=some false)(g:Good P E Q ⟨⟨fn,nt,AJ ((d,some (.BM []))::l),.ops r::k,ds,.run,AL,ro⟩,cs,h⟩):Good P E Q ⟨⟨fn,nt,AJ l,.ops (⟨some d,gd,op⟩::r)::k,ds,.run,AL,ro⟩,cs,h⟩:=L8 L hw g
theorem fi(hb:op≠ .bad)(g:Good P E Q ⟨⟨fn,nt,AJ ((d,some v)::l),.ops r::k,ds,.run,AL,ro⟩,cs,h⟩):GO P E Q (finish v cs h ⟨fn,nt,AJ l,.ops (⟨some d,gd,op⟩::r)::k,ds,.run,AL,ro⟩):=L9 L hb g
end
theorem aoo:FY (AJ []) tm:=λt v h=>by rw[Hu]at h;cases h
theorem aln{AT:CJ}(h:look l k=some v)(hs:FY (AJ AT) (AJ l)):FY (AJ ((k,some v)::AT)) (AJ l):=by
 intro t u hu;rw[V3]at hu;by_cases e:t=k;.subst e;rw[AP rfl]at hu;cases hu;rw[Hu];exact h
 .rw[AM e]at hu;exact hs t u hu
section
variable (L:Lg P E F K)
variable {k:DO}{ro:Option Nat}{a b:CC}{t:Bool}
include L
theorem gc(e:DP l x= .bool t)(g1:t=true->Good P E Q ⟨⟨fn,nt,AJ l,.code a::k,ds,.run,AL,ro⟩,cs,h⟩)(g2:t=false->Good P E Q ⟨⟨fn,nt,AJ l,.code b::k,ds,.run,AL,ro⟩,cs,h⟩):Good P E Q ⟨⟨fn,nt,AJ l,.code (.cond x a b)::k,ds,.run,AL,ro⟩,cs,h⟩:=Ajf L ((Ak l x).trans e) g1 g2
theorem gcT(e:DP l x= .bool true)(g1:Good P E Q ⟨⟨fn,nt,AJ l,.code a::k,ds,.run,AL,ro⟩,cs,h⟩):Good P E Q ⟨⟨fn,nt,AJ l,.code (.cond x a b)::k,ds,.run,AL,ro⟩,cs,h⟩:=gc L e (λ_=>g1) (λh=>by cases h)
theorem gcF(e:DP l x= .bool false)(g1:Good P E Q ⟨⟨fn,nt,AJ l,.code b::k,ds,.run,AL,ro⟩,cs,h⟩):Good P E Q ⟨⟨fn,nt,AJ l,.code (.cond x a b)::k,ds,.run,AL,ro⟩,cs,h⟩:=gc L e (λh=>by cases h) (λ_=>g1)
end
theorem Zt{f:O}{a:List O}:RY.LY f a≠ .bad:=by intro h;cases h
theorem V6{k:IntKind}(hs:k.signed=false)(a:Nat):wr k (a:Nat)=((a%pw k:Nat):Int):=by
 rw[G5,vq];unfold IntKind.wrap;have:(a:Int)%(2^k.bits:Int)=((a%2^k.bits:Nat):Int):=by rw[Int.natCast_emod];congr 1
 rw[this];simp only[hs,Bool.false_and,RR,KS,false_and]
theorem M9{k:IntKind}(h:a<pw k):MM k (a:Nat)=a:=by show Nat.mod a (pw k)=a;exact cR h
theorem V7{k:IntKind}(hs:k.signed=false)(h:a<pw k):wr k (a:Nat)=(a:Nat):=by rw[V6 hs,cR h]
section
variable {k:IntKind}{c r:Nat}
theorem Anb(hs:k.signed=false)(e:DP l x= .int k (a:Nat))(e1:DP l y= .int k (c:Nat))(ha:a<pw k)(hc:c<pw k)(hx:(a^^^c)<pw k)(hr:a^^^c=r):exec (.bin .xor x y q sh) h (AJ l)= .val (.int k (r:Nat)) h:=by
 simp only[exec,Ak,e,e1,Hk,E6,Br,vo,M9 ha,M9 hc];have:wr k (Int.ofNat (Nat.xor a c))=(r:Nat):=by show wr k ((a^^^c:Nat):Int)=_;rw[V7 hs hx,hr]
 rw[this]
theorem Anc{j:IntKind}{s:Nat}(e:DP l x= .int k (a:Nat))(e1:DP l y= .int j (s:Nat))(hs:s<=bits k)(hr:a>>>s=r):exec (.bin .shr x y q sh) h (AJ l)= .val (.int k (r:Nat)) h:=by
 have VK:DP l y= .int j (Int.ofNat s):=e1;simp only[exec,Ak,e,VK,Hk,E6,vo];have h1:Lu s (bits k)=s:=by rw[K1];exact Nat.min_eq_left hs
 have h2:Int.fdiv (a:Nat) (Int.ofNat (Nat.pow 2 s))=((a>>>s:Nat):Int):=by rw[fZ,Int.fdiv_eq_ediv_of_nonneg _ (by exact nJ _)];rfl
 rw[h1,h2,hr]
theorem acq{j:IntKind}{AZ:IntKind}(hs:AZ.signed=false)(e:DP l x= .int j (a:Nat))(hr:a%pw AZ=r):exec (.conv AZ x) h (AJ l)= .val (.int AZ (r:Nat)) h:=by simp only[exec,Ak,e,V6 hs,hr]
theorem Aju(hs:k.signed=false)(e:DP l x= .int k (a:Nat))(ha:a<pw k)(hr:pw k- 1- a=r):exec (.un .xor x) h (AJ l)= .val (.int k (r:Nat)) h:=by
 simp only[exec,Ak,e,M9 ha];have:wr k (Int.ofNat (Nat.sub (Nat.sub (pw k) 1) a))=(r:Nat):=by show wr k ((pw k- 1- a:Nat):Int)=_;have hp:0<pw k:=nK (CN _) ha;rw[V7 hs om,hr]
 rw[this]
end
def AU(l:CJ)(o:O):Option AV:=match o with
 | .t i=>look l i
 | .c v=>some v
theorem Ac(e:AU l x=some v):DP l x=v:=by
 cases x with
 |t i=>simp only[AU]at e;simp only[DP,e]
 |c u=>simp only[AU,DB]at e;simp only[DP,e]
def Fb(l:CJ):List O->Option (List AV)
 | []=>some []
 |x::r=>match AU l x,Fb l r with
  |some v,some vs=>some (v::vs)
  |_,_=>none
theorem Ma{l:CJ}:∀{xs:List O} {vs:List AV},Fb l xs=some vs->V4 l xs=vs
 | [],vs,h=>by simp only[Fb,DB]at h;simp only[V4,h]
 |x::r,vs,h=>by
  simp only[Fb]at h
  cases e1:AU l x with
  |none=>rw[e1]at h;cases h
  |some v=>
   cases e2:Fb l r with
   |none=>rw[e1,e2]at h;cases h
   |some us=>rw[e1,e2]at h;simp only[DB]at h;simp only[V4,Ac e1,Ma e2,h]
def E5:List AV->List AV->Option (List AV)
 | [],c=>some c
 |v::r,c=>match E5 r c with
  |some x=>some (v::x)
  |none=>none
theorem Gg:∀{a c r:List AV},E5 a c=some r->List.append a c=r
 | [],c,r,h=>by simp only[E5,DB]at h;exact h
 |v::a,c,r,h=>by
  simp only[E5]at h
  cases e:E5 a c with
  |none=>rw[e]at h;cases h
  |some x=>rw[e]at h;simp only[DB]at h;rw[<-h,<-Gg e];rfl
def Yj:List AV->List AV->Option (List AV)
 | [],c=>some c
 |_::_,[]=>none
 |v::r,_::c=>match Yj r c with
  |some x=>some (v::x)
  |none=>none
def Lv(lv:List AV):List AV->Nat->Option (List AV)
 |c,0=>Yj lv c
 | [],_+1=>none
 |a::c,o+1=>match Lv lv c o with
  |some x=>some (a::x)
  |none=>none
theorem ae4:∀{lv c r:List AV},Yj lv c=some r->lv.length<=c.length/\lv++c.drop lv.length=r
 | [],c,r,h=>by simp only[Yj,DB]at h;simp[h]
 |_::_,[],r,h=>by cases h
 |v::lv,_::c,r,h=>by
  simp only[Yj]at h
  cases e:Yj lv c with
  |none=>rw[e]at h;cases h
  |some x=>rw[e]at h;simp only[DB]at h;obtain⟨h1,h2⟩:=ae4 e;refine⟨by simp only[FX];omega,?_⟩;rw[<-h,<-h2];simp
theorem K8{lv:List AV}:∀{c:List AV} {o:Nat} {r:List AV},Lv lv c o=some r->o+lv.length<=c.length/\Gb lv c o=r
 |c,0,r,h=>by
  have AA:Yj lv c=some r:=by cases c<;>exact h
  obtain⟨h1,h2⟩:=ae4 AA;refine⟨om,?_⟩;have:Gb lv c 0=lv++c.drop lv.length:=by cases c<;>rfl
  rw[this,h2]
 | [],o+1,r,h=>by cases h
 |a::c,o+1,r,h=>by
  simp only[Lv]at h
  cases e:Lv lv c o with
  |none=>rw[e]at h;cases h
  |some x=>rw[e]at h;simp only[DB]at h;obtain⟨h1,h2⟩:=K8 e;refine⟨by simp only[FX];omega,?_⟩;rw[<-h,<-h2];rfl
def fE:List AV->Nat->Option (List AV)
 |_,0=>some []
 | [],_+1=>none
 |v::c,k+1=>match fE c k with
  |some x=>some (v::x)
  |none=>none
def oI:List AV->Nat->Nat->Option (List AV)
 |c,0,k=>fE c k
 | [],_+1,_=>none
 |_::c,o+1,k=>oI c o k
theorem ae5:∀{c:List AV} {k:Nat} {r:List AV},fE c k=some r->k<=c.length/\c.take k=r
 |c,0,r,h=>by cases c<;>(simp only[fE,DB]at h;simp[<-h])
 | [],k+1,r,h=>by cases h
 |v::c,k+1,r,h=>by
  simp only[fE]at h
  cases e:fE c k with
  |none=>rw[e]at h;cases h
  |some x=>rw[e]at h;simp only[DB]at h;obtain⟨h1,h2⟩:=ae5 e;exact⟨by simp only[FX];omega,by rw[<-h,<-h2];rfl⟩
theorem R7:∀{c:List AV} {o k:Nat} {r:List AV},oI c o k=some r->o+k<=c.length/\(c.drop o).take k=r
 |c,0,k,r,h=>by
  have AA:fE c k=some r:=by cases c<;>exact h
  obtain⟨h1,h2⟩:=ae5 AA;exact⟨om,by simpa using h2⟩
 | [],o+1,k,r,h=>by cases h
 |_::c,o+1,k,r,h=>by obtain⟨h1,h2⟩:=R7 (c:=c) (o:=o) h;exact⟨by simp only[FX];omega,by simpa using h2⟩
def Kh(l:CJ):List (Nat×Nat×O)->List AV->Option (List AV)
 | [],c=>some c
 |p::r,c=>match AU l p.2.2 with
  |none=>none
  |some v=>match A1 v with
   |none=>none
   |some x=>match Nat.beq x.length p.2.1 with
    |false=>none
    |true=>match Lv x c p.1 with
     |none=>none
     |some d=>Kh l r d
theorem V8{l:CJ}:∀{ps:List (Nat×Nat×O)} {c r:List AV},Kh l ps c=some r->P9 l ps c=some r
 | [],c,r,h=>by simp only[Kh]at h;simp only[P9,h]
 |p::ps,c,r,h=>by
  simp only[Kh]at h
  cases e1:AU l p.2.2 with
  |none=>rw[e1]at h;cases h
  |some v=>
   cases e2:A1 v with
   |none=>rw[e1]at h;simp only[e2]at h;cases h
   |some x=>
    cases e3:Nat.beq x.length p.2.1 with
    |false=>rw[e1]at h;simp only[e2,e3]at h;cases h
    |true=>
     cases e4:Lv x c p.1 with
     |none=>rw[e1]at h;simp only[e2,e3,e4]at h;cases h
     |some d=>rw[e1]at h;simp only[e2,e3,e4]at h;obtain⟨h1,h2⟩:=K8 e4;have h3:=jL e3;have g1:Nat.ble (Nat.add p.1 p.2.1) c.length=true:=(by rw[PQ];show p.1+p.2.1<=c.length;omega);simp only[P9,Ac e1,e2,e3,g1,h2];exact V8 h
section
variable {n:Nat}
theorem Ad4(e:AU l x=some (.bool true))(e1:AU l y=some v):exec (.pick x y z) h (AJ l)= .val v h:=by simp only[exec,Ak,Ac e,Ac e1]
theorem Ad5(e:AU l x=some (.bool false))(e1:AU l z=some v):exec (.pick x y z) h (AJ l)= .val v h:=by simp only[exec,Ak,Ac e,Ac e1]
theorem Ad6(hf:Kh l ps c=some lv):exec (.build c ps) h (AJ l)= .val (.agg lv) h:=Ad2 (V8 hf)
theorem Ajv{a cp:List O}{vc:List AV}(ha:Fb l a=some va)(hc:Fb l cp=some vc):exec (.cE f a cp) h (AJ l)= .val (.fn f va vc) h:=Ajs (Ma ha) (Ma hc)
theorem Ajw{a:List O}(e:AU l x=some (.fn f [] []))(ha:Fb l a=some va):exec (.LY x a) h (AJ l)= .call f va:=afa (Ac e) (Ma ha) (by show List.append va []=va;exact MO va)
theorem Jb{a:List O}{cp r:List AV}(e:AU l x=some (.fn f [] cp))(ha:Fb l a=some va)(hr:E5 va cp=some r):exec (.LY x a) h (AJ l)= .call f r:=afa (Ac e) (Ma ha) (by show List.append va cp=r;exact Gg hr)
theorem Ajx(e:AU l x=some v):exec (.cF k x) h (AJ l)= .val (.Cm k v) h:=Ajt (Ac e)
section
variable {k:IntKind}{r:Nat}
theorem Anh(e:AU l x=some (.int .i64 (a:Nat)))(e1:AU l y=some (.int .i64 (d:Nat)))(hr:a*d<9223372036854775808):exec (.bin .mul x y q sh) h (AJ l)= .val (.int .i64 ((a*d:Nat):Int)) h:=wx (Ac e) (Ac e1) (by rw[Kg (by have:=Int.mul_nonneg (nJ a) (nJ d);omega) (by rw[<-jR];omega)];exact(jR a d).symm)
end
end
section
variable {lw:List AV}{rs:List fh}
theorem E7:results (AJ l) h []=some []:=rfl
theorem Ani(e:AU l (.t i)=some v)(r:results (AJ l) h rs=some lv):results (AJ l) h (.tmp i::rs)=some (v::lv):=by simp only[results,r,Ak,Ac e]
theorem Bw(e:AU l (.t i)=some (.ptr b o))(hb:H.get h b=some (cl c))(hv:c[o]?=some v)(r:results (AJ l) h rs=some lv):results (AJ l) h (.nu i::rs)=some (v::lv):=by
 have BX:o<c.length:=(FE.1 hv).1;have:Nat.ble (Nat.succ o) c.length=true:=by rw[PQ];exact BX
 simp only[results,r,Ak,Ac e,hb,cl,this,G8,hv]
theorem K9(e:AU l (.t i)=some (.ptr b o))(hb:H.get h b=some (cl c))(hv:oI c o k=some lw)(r:results (AJ l) h rs=some lv):results (AJ l) h (.ny i k::rs)=some (.agg lw::lv):=by simp only[results,r,Ak,Ac e,Ja hb (R7 hv).1,(R7 hv).2]
end
abbrev Kp(S:Nat->Prop)(h AA:H):Prop:=(h.n<=AA.n)/\∀b,b<h.n->¬S b->H.get AA b=H.get h b
theorem Kp.n(k:Kp S h AA):h.n<=AA.n:=k.1
theorem Kp.old(k:Kp S h AA):∀b,b<h.n->¬S b->H.get AA b=H.get h b:=k.2
theorem Kp.refl(h:H):Kp S h h:=⟨BD _,λ_ _ _=>rfl⟩
theorem Kp.trans{a b c:H}(h:Kp S a b)(k:Kp S b c):Kp S a c:=⟨EM h.n k.n,λi hi hs=>(k.old i (IF hi h.n) hs).trans (h.old i hi hs)⟩
theorem Kp.mono{AB:Nat->Prop}{a b:H}(hs:∀i,S i->AB i)(h:Kp S a b):Kp AB a b:=⟨h.n,λi hi hn=>h.old i hi λk=>hn (hs i k)⟩
abbrev K0(h AA:H):Prop:=Kp (λ_=>False) h AA
theorem Kp.get{x:Option DV}(k:Kp S h AA)(hx:H.get h b=x)(hb:b<h.n)(hs:¬S b):H.get AA b=x:=(k.old b hb hs).trans hx
theorem Kp.nw{n:Nat}{x:Option DV}(k:Kp S h (hp n t lh)):Kp S h (hp (n+1) t ((n,x)::lh)):=by refine⟨Nat.le_succ_of_le k.n,λb hb hs=>?_⟩;have BX:b<n:=IF hb k.n;refine Eq.trans ?_ (k.old b hb hs);exact H7 _ _ _ _ om
theorem Kp.st{S:Nat->Prop}{n b:Nat}{t:T DV}{lh:SA}{h:H}{x:Option DV}(hb:h.n<=b\/S b)(k:Kp S h (hp n t lh)):Kp S h (hp n t ((b,x)::lh)):=by
 refine⟨k.n,λi hi hs=>?_⟩;refine Eq.trans ?_ (k.old i hi hs);have BZ:i≠b:=by
  intro e;subst e;rcases hb with h1|h1;.omega
  .exact hs h1
 exact H7 _ _ _ _ BZ
def Cn(l:CJ):List Nat->Option (CJ)
 | []=>some []
 |t::r=>match look l t,Cn l r with
  |some v,some q=>some ((t,some v)::q)
  |_,_=>none
theorem B7{l:CJ}:∀{nm:List Nat} {q:CJ},Cn l nm=some q->only (AJ l) nm=AJ q
 | [],q,h=>by simp only[Cn,DB]at h;subst h;rfl
 |t::r,q,h=>by
  simp only[Cn]at h
  cases e1:look l t with
  |none=>rw[e1]at h;cases h
  |some v=>
   cases e2:Cn l r with
   |none=>rw[e1,e2]at h;cases h
   |some WC=>rw[e1,e2]at h;cases h;simp only[only,Hu,e1,B7 e2];rfl
def Mb(d:Nat):AV->Bool:=
 match d with
 |0=>λ_=>false
 |Nat.succ d=>λx=>match x with
  | .fn f a c=>a.all (Mb d)&&c.all (Mb d)&&(match f with| .func _=>true| .yield _=>false)
  | .Cm _ v=>Mb d v
  | .agg l=>l.all (Mb d)
  | .BM l=>l.all (Mb d)
  | .HZ u=>(match u with| .slice (some _) _ _=>true|_=>false)
  | .FK=>false
  |_=>true
theorem R8{f:AV->AV->Bool}:∀{l:List AV},(∀x∈l,f x x=true)->Ih f l l=true
 | [],_=>rfl
 |a::l,h=>by simp only[Ih,h a (DW ..)];exact R8 λx hx=>h x (Ck _ hx)
theorem Oy:∀(d:Nat) (v:AV),Mb d v=true->Gd d v v=true
 |0,_,h=>by cases h
 |d+1,v,h=>by
  have ih:=Oy d;have hl:∀{l:List AV},l.all (Mb d)=true->Ih (Gd d) l l=true:=λ{l} hl=>by rw[RS]at hl;exact R8 λx hx=>ih x (hl x hx)
  cases v with
  |bool a=>simp only[Gd,Z7,fW]
  |int k a=>simp only[Gd,Br,F4,fW]
  |str a=>simp only[Gd,K2,fW]
  |ptr b o=>simp only[Gd,OE]
  |AE b o n c=>simp only[Gd,OE]
  |map r=>simp only[Gd,OE]
  |fn f a c=>
   simp only[Mb,KQ]at h;obtain⟨⟨h1,h2⟩,h3⟩:=h
   cases f with
   |func n=>simp only[Gd,hl h1,hl h2,nQ,OE]
   |yield n=>cases h3
  |Cm t v=>simp only[Mb]at h;simp only[Gd,OE,ih v h]
  |agg l=>simp only[Mb]at h;simp only[Gd,hl h]
  |BM l=>simp only[Mb]at h;simp only[Gd,hl h]
  |HZ u=>
   simp only[Mb]at h;split at h
   .rename_i a n c;obtain⟨b,o,s⟩:=a
    cases s<;>simp only[Gd,qm,OE]
   .cases h
  |FK=>cases h
  |_=>rfl
section
variable {q:CJ}{k:DO}{ro:Option Nat}{ps:List Ph}
theorem p_v(ho:Cn l nm=some q)(hw:wanted (AJ q) gd=some true)(hx:exec op h (AJ q)= .val v AA)(g:Bh P E Q pre By ps k fn nt (AJ ((d,some v)::l)) ds AL ro cs AA):Bh P E Q (⟨⟨some d,gd,op⟩,nm⟩::pre) By ps k fn nt (AJ l) ds AL ro cs h:=by refine Am5 (v:=v) (AA:=AA) ?_ ?_ g<;>(simp only[B7 ho];assumption)
theorem p_s(ho:Cn l nm=some q)(hw:wanted (AJ q) gd=some false)(g:Bh P E Q pre By ps k fn nt (AJ ((d,some (.BM []))::l)) ds AL ro cs h):Bh P E Q (⟨⟨some d,gd,op⟩,nm⟩::pre) By ps k fn nt (AJ l) ds AL ro cs h:=by refine Aji ?_ g;simp only[B7 ho];assumption
theorem eZ{p:Ph}{r:List Ph}(hc:NF By (AJ l) h=true)(g:Good P E Q ⟨⟨fn,nt,AJ l,.drawn p r::k,ds,.run,AL,ro⟩,cs,h⟩):Bh P E Q [] By (p::r) k fn nt (AJ l) ds AL ro cs h:=wv hc g
theorem vL(hc:NF By (AJ l) h=true)(g:Good P E Q ⟨⟨fn,nt,AJ l,k,ds,.run,AL,ro⟩,cs,h⟩):Bh P E Q [] By [] k fn nt (AJ l) ds AL ro cs h:=wv hc g
theorem zb:NF [] tm h=true:=rfl
theorem k_v(ho:Cn l nm=some q)(hw:wanted (AJ q) gd=some true)(hx:exec op h (AJ q)= .val v AA)(hl:look l d=some v)(ha:Mb 20 v=true)(g:NF By (AJ l) h=true):NF (⟨⟨some d,gd,op⟩,nm⟩::By) (AJ l) h=true:=by
 have:check ⟨⟨some d,gd,op⟩,nm⟩ (AJ l) h=true:=by unfold check;simp only[B7 ho,hw,hx,holds,Hu,hl];exact Oy _ _ ha
 simp only[NF,this,g]
theorem k_s(ho:Cn l nm=some q)(hw:wanted (AJ q) gd=some false)(hl:look l d=some (.BM []))(g:NF By (AJ l) h=true):NF (⟨⟨some d,gd,op⟩,nm⟩::By) (AJ l) h=true:=by
 have:check ⟨⟨some d,gd,op⟩,nm⟩ (AJ l) h=true:=by unfold check;simp only[B7 ho,hw,holds,Hu,hl];exact Oy _ _ rfl
 simp only[NF,this,g]
variable (L:Lg P E F K)
include L
theorem e_v(ho:Cn l nm=some q)(hw:wanted (AJ q) gd=some true)(hx:exec op h (AJ q)= .val v AA)(g:Bh P E Q pre By ps k fn nt (AJ ((d,some v)::l)) ds AL ro cs AA):Good P E Q ⟨⟨fn,nt,AJ l,.drawn ⟨⟨⟨some d,gd,op⟩,nm⟩,pre,By⟩ ps::k,ds,.run,AL,ro⟩,cs,h⟩:=ja L (v:=v) (AA:=AA) qB qA g
theorem e_s(ho:Cn l nm=some q)(hw:wanted (AJ q) gd=some false)(g:Bh P E Q pre By ps k fn nt (AJ ((d,some (.BM []))::l)) ds AL ro cs h):Good P E Q ⟨⟨fn,nt,AJ l,.drawn ⟨⟨⟨some d,gd,op⟩,nm⟩,pre,By⟩ ps::k,ds,.run,AL,ro⟩,cs,h⟩:=Ajl L qB g
theorem oL(ho:Cn l nm=some q)(hw:wanted (AJ q) gd=some true)(hx:exec op h (AJ q)= .call f args)(g:GO P E Q (B6 F K f args false ⟨fn,nt,AJ l,.drawn ⟨⟨⟨dst,gd,op⟩,nm⟩,pre,By⟩ ps::k,ds,.run,AL,ro⟩ cs h)):Good P E Q ⟨⟨fn,nt,AJ l,.drawn ⟨⟨⟨dst,gd,op⟩,nm⟩,pre,By⟩ ps::k,ds,.run,AL,ro⟩,cs,h⟩:=Ajm L qB qA g
omit L in
theorem fd(hb:op≠ .bad)(g:Bh P E Q pre By ps k fn nt (AJ ((d,some v)::l)) ds AL ro cs h):GO P E Q (finish v cs h ⟨fn,nt,AJ l,.drawn ⟨⟨⟨some d,gd,op⟩,nm⟩,pre,By⟩ ps::k,ds,.run,AL,ro⟩):=ali hb g
theorem y9{n:Nat}(ho:Cn l nm=some q)(hw:wanted (AJ q) gd=some true)(e:AU q x=some (.ptr b o))(e1:AU q y=some v)(hc:A1 v=some lv)(hm:Nat.beq lv.length m=true)(DL:Av lv=true)(hb:H.get (hp n t lh) b=some (cl c))(hs:Lv lv c o=some BP)(g:∀AA,HSub (hp n t ((b,some (cl BP))::lh)) AA->Bh P E Q pre By ps k fn nt (AJ l) ds AL ro cs AA):Good P E Q ⟨⟨fn,nt,AJ l,.drawn ⟨⟨⟨none,gd,.store m x y⟩,nm⟩,pre,By⟩ ps::k,ds,.run,AL,ro⟩,cs,hp n t lh⟩:=by
 obtain⟨AA,q1,q2⟩:=M8 (n:=n) (t:=t) (lh:=lh) DL hb (K8 hs).1 (K8 hs).2;have hx:exec (.store m x y) (hp n t lh) (AJ q)= .val .FK AA:=by simp only[exec,Ak,Ac e,Ac e1,hc,hm,q1]
 exact ja L (dst:=none) qB qA (g AA q2)
end
inductive CG (size:Nat)(h:H):AV->Nat->List AV->Prop where
 |AS:CG size h .AS 0 []
 |AE {b o n cap:Nat} {c xs:List AV} (hb:H.get h b=some (cl c)) (hk:o+n*size<=c.length) (hx:(c.drop o).take (n*size)=xs) (BX:b<h.n):CG size h (.AE b o n cap) n xs
def own(v:AV)(i:Nat):Prop:=∃o n c,v= .AE i o n c
theorem CG.cells{n:Nat}(s:CG size h v n xs):cellsOf size n h v=some xs:=by
 cases s with
 |AS=>rfl
 | @AE b o _ cap c _ hb hk hx BX=>show KM h b o (Nat.mul n size)=some xs;have:=Ja hb hk;rw[hx]at this;exact this
theorem CG.NX{size n:Nat}{h:H}{v:AV}{xs:List AV}(s:CG size h v n xs):NX v=some n:=by cases s<;>rfl
inductive QV (l:CJ):Option O->Option Nat->Prop where
 |no:QV l none none
 |gE {x:O} {k:IntKind} {a:Nat} (e:AU l x=some (.int k (a:Nat))):QV l (some x) (some a)
theorem QV.opt{o:Option O}{a:Option Nat}(b:QV l o a):Ei (AJ l) o=some a:=by
 cases b with
 |no=>rfl
 | @gE x k a e=>have BG:AU l x=some (.int k (Int.ofNat a)):=e;simp only[Ei,Ak,Ac BG]
section
variable {n:Nat}{lo hi:Option O}{la lb:Option Nat}
theorem Jc(h:b<a):Nat.ble a b=false:=by
 cases hq:Nat.ble a b with
 |false=>rfl
 |true=>have:=Al hq;omega
def B5(bs:List Nat):List AV:=bs.map λv=> .int .u8 (v:Nat)
theorem Qa:∀{bs:List Nat},(∀v∈bs,v<256)->Jz (B5 bs)=some bs
 | [],_=>rfl
 |v::r,h=>by
  have h1:Nat.ble v 255=true:=by rw[PQ];have:=h v (DW ..);omega
  have h2:=Qa (bs:=r) λv hv=>h v (Ck _ hv);show Jz (.int .u8 (Int.ofNat v)::B5 r)=_;simp only[Jz,h1,h2]
theorem Ank{bs:List Nat}(e:AU l x=some s)(hs:CG 1 h s n (B5 bs))(hb:∀v∈bs,v<256):exec (.gF x) h (AJ l)= .val (.str bs) h:=by
 have hc:=hs.cells;simp only[exec,Ak,Ac e];generalize eA:B5 bs=xs at hs hc
 cases hs with
 |AS=>
  cases bs with
  |nil=>rfl
  |cons v r=>cases eA
 | @AE b o _ cap c _ UH hk hx BX=>
  have:KM h b o n=some xs:=by have e:Nat.mul n 1=n:=RW n;show KM h b o n=some xs;rw[<-e];exact hc
  simp only[this,<-eA,Qa hb]
end
section
variable {zero:AV}{n:Nat}
theorem Anl{m adg:O}{r sH:Nat}{kv:AV}(e:AU l m=some (.map r))(hb:H.get h r=some (.map [] sH))(ek:AU l adg=some kv)(hk:Lz sh kv=true):exec (.lookup sh zero m adg false) h (AJ l)= .val zero h:=by simp only[exec,Ak,Ac e,Ac ek,hb,Jq,hk,G4]
end
theorem Ag(n:Nat)(t:T DV)(l:SA):(hp n t l).n=n:=rfl
structure XV (op:RY)(h:H)(l:CJ)(v:AV)(AA:H):Prop where
 e:exec op h (AJ l)= .val v AA
structure WT (l:CJ)(g:Option (Nat×Bool))(b:Bool):Prop where
 e:wanted (AJ l) g=some b
structure afu (h:H)(b:Nat)(c:List AV):Prop where
 e:H.get h b=some (cl c)
section
variable {n:Nat}
theorem Na{k:IntKind}(e:AU l x=some (.AE b 0 len cap))(e1:AU l y=some (.int k (i:Nat)))(hi:i<len):XV (.bj size x y) h l (.ptr b (i*size)) h:=⟨R4 (Ac e) (Ac e1) hi (MD _)⟩
theorem aoz:XV (.alloc c) (hp n t lh) l (.ptr n 0) (hp (n+1) t ((n,some (cl c))::lh)):=⟨rfl⟩
theorem zd(e:AU l x=some v)(hc:A1 v=some lv)(hk:Nat.beq lv.length k=true):XV (.box k x) (hp n t lh) l (.ptr n 0) (hp (n+1) t ((n,some (cl lv))::lh)):=⟨Ana (Ac e) hc hk⟩
theorem Yf(hf:Kh l ps c=some lv):XV (.bJ k c ps) (hp n t lh) l (.AE n 0 k k) (hp (n+1) t ((n,some (cl lv))::lh)):=⟨aov (V8 hf)⟩
section
variable {p r:Int}{k:IntKind}
theorem Anm(e:AU l x=some (.int .i64 (a:Nat)))(e1:AU l y=some (.int .i64 (d:Nat)))(hr:a+d<9223372036854775808):XV (.bin .add x y q sh) h l (.int .i64 ((a+d:Nat):Int)) h:=⟨yo (Ac e) (Ac e1) (by rw[Kg om om];omega)⟩
theorem Ann(e:AU l x=some (.int .i64 (a:Nat)))(e1:AU l y=some (.int .i64 (d:Nat)))(hr:d<=a)(h1:a<9223372036854775808):XV (.bin .sub x y q sh) h l (.int .i64 ((a- d:Nat):Int)) h:=⟨yq (Ac e) (Ac e1) (by rw[Kg om om];omega)⟩
theorem Ano(e:AU l x=some (.int .i64 (a:Nat)))(e1:AU l y=some (.int .i64 (d:Nat)))(hr:a*d<9223372036854775808):XV (.bin .mul x y q sh) h l (.int .i64 ((a*d:Nat):Int)) h:=⟨Anh e e1 hr⟩
theorem afb(e:AU l x=some (.int k p))(e1:AU l y=some (.int k r))(ht:p<r):XV (.bin .lss x y q sh) h l (.bool true) h:=⟨wy (Ac e) (Ac e1) (CM ht)⟩
theorem afc(e:AU l x=some (.int k p))(e1:AU l y=some (.int k r))(ht:¬p<r):XV (.bin .lss x y q sh) h l (.bool false) h:=⟨wy (Ac e) (Ac e1) (CW ht)⟩
theorem afd(e:AU l x=some (.int k p))(e1:AU l y=some (.int k r))(ht:p<=r):XV (.bin .leq x y q sh) h l (.bool true) h:=⟨wz (Ac e) (Ac e1) (CM ht)⟩
theorem afe(e:AU l x=some (.int k p))(e1:AU l y=some (.int k r))(ht:¬p<=r):XV (.bin .leq x y q sh) h l (.bool false) h:=⟨wz (Ac e) (Ac e1) (CW ht)⟩
theorem aff(e:AU l x=some (.int k p))(e1:AU l y=some (.int k r))(ht:r<p):XV (.bin .gtr x y q sh) h l (.bool true) h:=⟨x6 (Ac e) (Ac e1) (CM ht)⟩
theorem afg(e:AU l x=some (.int k p))(e1:AU l y=some (.int k r))(ht:¬r<p):XV (.bin .gtr x y q sh) h l (.bool false) h:=⟨x6 (Ac e) (Ac e1) (CW ht)⟩
theorem afi(e:AU l x=some (.int k p))(e1:AU l y=some (.int k r))(ht:r<=p):XV (.bin .geq x y q sh) h l (.bool true) h:=⟨x7 (Ac e) (Ac e1) (CM ht)⟩
theorem afj(e:AU l x=some (.int k p))(e1:AU l y=some (.int k r))(ht:¬r<=p):XV (.bin .geq x y q sh) h l (.bool false) h:=⟨x7 (Ac e) (Ac e1) (CW ht)⟩
theorem xA(e:AU l x=some (.int k p))(e1:AU l y=some (.int k r))(ht:p=r):XV (.bin .eql x y q .QB) h l (.bool true) h:=⟨x8 (Ac e) (Ac e1) (CM ht)⟩
theorem xB(e:AU l x=some (.int k p))(e1:AU l y=some (.int k r))(ht:¬p=r):XV (.bin .eql x y q .QB) h l (.bool false) h:=⟨x8 (Ac e) (Ac e1) (CW ht)⟩
theorem wL(e:AU l x=some (.int k p))(e1:AU l y=some (.int k r))(ht:p≠r):XV (.bin .neq x y q .QB) h l (.bool true) h:=⟨x9 (Ac e) (Ac e1) (CM ht)⟩
theorem wM(e:AU l x=some (.int k p))(e1:AU l y=some (.int k r))(ht:¬p≠r):XV (.bin .neq x y q .QB) h l (.bool false) h:=⟨x9 (Ac e) (Ac e1) (CW ht)⟩
end
end
section
variable {q:CJ}{k:DO}{ro:Option Nat}{ps:List Ph}
variable {n:Nat}
theorem kz(ho:Cn l nm=some q)(hw:WT q gd true)(hx:XV op h q v AA)(hl:look l d=some v)(ha:Mb 20 v=true)(g:NF By (AJ l) h=true):NF (⟨⟨some d,gd,op⟩,nm⟩::By) (AJ l) h=true:=k_v ho hw.e hx.e hl ha g
variable (L:Lg P E F K)
include L
theorem cz{a:List O}(hw:WT l gd true)(e:AU l x=some (.fn f [] []))(ha:Fb l a=some va)(g:GO P E Q (B6 F K f va false ⟨fn,nt,AJ l,.ops (⟨some d,gd,.LY x a⟩::r)::k,ds,.run,AL,ro⟩ cs h)):Good P E Q ⟨⟨fn,nt,AJ l,.ops (⟨some d,gd,.LY x a⟩::r)::k,ds,.run,AL,ro⟩,cs,h⟩:=R5 L hw.e (Ajw e ha) g
theorem ez(ho:Cn l nm=some q)(hw:WT q gd true)(hx:XV op h q v AA)(g:Bh P E Q pre By ps k fn nt (AJ ((d,some v)::l)) ds AL ro cs AA):Good P E Q ⟨⟨fn,nt,AJ l,.drawn ⟨⟨⟨some d,gd,op⟩,nm⟩,pre,By⟩ ps::k,ds,.run,AL,ro⟩,cs,h⟩:=e_v L ho hw.e hx.e g
theorem sQ(ho:Cn l nm=some q)(hw:WT q gd false)(g:Bh P E Q pre By ps k fn nt (AJ ((d,some (.BM []))::l)) ds AL ro cs h):Good P E Q ⟨⟨fn,nt,AJ l,.drawn ⟨⟨⟨some d,gd,op⟩,nm⟩,pre,By⟩ ps::k,ds,.run,AL,ro⟩,cs,h⟩:=e_s L ho hw.e g
end
section
variable {k:DO}{ro:Option Nat}
variable {n:Nat}
variable (L:Lg P E F K)
include L
theorem Avj(hw:WT l gd true)(e:AU l x=some (.ptr b o))(e1:AU l y=some v)(hc:A1 v=some [v])(DL:A8 v=true)(hb:afu (hp n t lh) b c)(ho:o<c.length)(g:Good P E Q ⟨⟨fn,nt,AJ l,.ops r::k,ds,.run,AL,ro⟩,cs,hp n t ((b,some (cl (c.set o v)))::lh)⟩):Good P E Q ⟨⟨fn,nt,AJ l,.ops (⟨none,gd,.store 1 x y⟩::r)::k,ds,.run,AL,ro⟩,cs,hp n t lh⟩:=V5 L hw.e (Ac e) (Ac e1) hc rfl (by simp only[Av,DL]) hb.e ho (Ye c v o ho) g
