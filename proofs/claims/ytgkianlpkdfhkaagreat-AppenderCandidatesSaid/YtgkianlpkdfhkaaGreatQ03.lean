/- Part of the proof. -/
import Derived.Test.YtgkianlpkdfhkaaGreatQ02
import Derived.Laws.Append
import Derived.Laws.AppendOwn
set_option linter.unusedVariables false
set_option linter.unusedSimpArgs false
set_option linter.unusedSectionVars false
namespace Go.Ev
section
variable {P:Program}{E:Env}{w0:Array Obj}{φ: Phi}{h h':H}{w:World}{tm:T AV}{ρ: Operand→Value}{o:Oper}{v:AV}
variable (hr:HR E w0 φ h w.heap)(hρ: RhoR φ tm ρ)
include hr hρ
theorem N7 (hE:EnvOk P E){t e:TypeId}{n s:Nat}{x:Operand}{lo hi mx:Option Operand}(hu:und E t=some (.array n e)∨ ∃a,und E t=some (.pointer a)∧und E a=some (.array n e))(hs:Bu E e=some s)
  (ho:o.op= .slice t x lo hi mx) (hx:exec (.sliceA n s (opd x) (lo.map opd) (hi.map opd) (mx.map opd)) h tm= .val v h'):Sim1 E w0 φ w h ((execOp ρ o).run P w) v h':=by
 simp only [exec]at hx
 split at hx
 ·rename_i l hh m hl hhh hm
  split at hx
  ·rename_i b k hb
   obtain⟨loc,hφ,ea⟩:=VR.ptr_inv (hb ▸ hρ x)
   split at hx
   ·cases hx
   ·rename_i hn
    have hn:n<Aa:=D7 hn
    cases hv:Fp s b k n n l hh m with
    |none=>rw [hv]at hx;simp [vo]at hx
    |some u=>
     rw [hv]at hx;simp only [vo,R.val.injEq]at hx;obtain⟨rfl,rfl⟩:=hx
     have hbn: ∃a c d,M6 n n l hh m=some (a,c,d):=by
      unfold Fp at hv
      cases hq:M6 n n l hh m with
      |none=>rw [hq]at hv;cases hv
      |some q=>exact⟨q.1,q.2.1,q.2.2,rfl⟩
     obtain⟨a,c,d,hbn⟩:=hbn
     obtain⟨r1,r2,r3,r4,r5⟩:=N6 (hρ:= hρ) (P:=P) (w:=w) (isS:=false) hl hhh hm hbn (.inl ⟨hn,rfl⟩)
     have hR:=Th (off:=loc.base+k) hφ hbn hv r2 r3 r4 r5 (fun _=>⟨rfl,fun _=>rfl⟩) (fun h=>by omega) (Nat.le_refl _)
     refine .same hr ?_ hR
     rcases hu with hu|⟨at',hu,hu'⟩
     ·simp [execOp,ho,Instr.sliceAt,Ac hE hu,Instr.sureAddr,ea,r1,(Bm hE hs w).1,Cu]
     ·simp [execOp,ho,Instr.sliceAt,Instr.slice,Ac hE hu,Ac hE hu',asAddr,ea,r1,(Bm hE hs w).1,Cu]
  ·cases hx
 ·cases hx
omit hr hρ in
theorem Ay {c:Call}{b:Builtin}(ho:o.op= .call c)(hc:c.callee= .builtin b):
  (execOp ρ o).run P w=(builtin b c.argTypes o.type (c.args.map fun| .const _=>true|_=>false) (c.args.map ρ)).run P w:=by
 simp only [execOp,ho,resolve,hc,Sem.run_bind,Sem.run_pure,Result.andThen_ok,invoke]
 rfl
omit hr hρ in
theorem Mh {c:Call}{x y:Operand}(h:c.args.toList= [x,y]):c.args.map ρ= #[ρ x,ρ y]:=by
 have:c.args= #[x,y]:=by rw [←Array.toArray_toList (xs:=c.args),h]
 rw [this];simp
omit hr hρ in
theorem N8 {c:Call}{x:Operand}(h:c.args.toList= [x]):c.args.map ρ= #[ρ x]:=by
 have:c.args= #[x]:=by rw [←Array.toArray_toList (xs:=c.args),h]
 rw [this];simp
omit hr hρ in
theorem Fs {a:Array TypeId}{t:TypeId}{r:List TypeId}(h:a.toList=t::r):a[0]?=some t:=by
 rw [←Array.getElem?_toList,h];rfl
theorem d6 (hE:EnvOk P E){c:Call}{x:Operand}{t e:TypeId}(ho:o.op= .call c)(hc:c.callee= .builtin .len)(ha:c.args.toList= [x])(ht:c.argTypes.toList= [t])
  (hu:und E t=some (.slice e)) (hx:exec (.lenS (opd x)) h tm= .val v h'):Sim1 E w0 φ w h ((execOp ρ o).run P w) v h':=by
 simp only [exec]at hx
 have key: ∀n:Nat,(∃a c,ρ x= .slice a n c)→(execOp ρ o).run P w= .ok (.value (goInt n)) w:=by
  rintro n ⟨a,k,e1⟩
  rw [Ay ho hc,N8 ha,e1]
  simp [builtin,Builtin.len_,Fs ht,Ac hE hu]
 split at hx
 ·rename_i hb
  simp only [R.val.injEq]at hx;obtain⟨rfl,rfl⟩:=hx
  exact .same (v':=goInt 0) hr (key 0 ⟨_,_,VR.nils_inv (hb ▸ hρ x)⟩) (.int _ _)
 ·rename_i b k n cap hb
  obtain⟨l,off,c',hφ,ea,hle,hor⟩:=VR.slc_inv (hb ▸ hρ x)
  simp only [R.val.injEq]at hx;obtain⟨rfl,rfl⟩:=hx
  exact .same (v':=goInt n) hr (key n ⟨_,_,ea⟩) (.int _ _)
 ·rename_i u hb
  split at hx
  ·rename_i a0 n c0
   have e1:ρ x= .slice a0 n c0:=VR.opq_inv (hb ▸ hρ x)
   simp only [R.val.injEq]at hx;obtain⟨rfl,rfl⟩:=hx
   exact .same (v':=goInt n) hr (key n ⟨_,_,e1⟩) (.int _ _)
  ·cases hx
 ·cases hx
theorem d7 (hE:EnvOk P E){c:Call}{x:Operand}{t:TypeId}(ho:o.op= .call c)(hc:c.callee= .builtin .len)(ha:c.args.toList= [x])(ht:c.argTypes.toList= [t])
  (hu:und E t=some .string) (hx:exec (.lenT (opd x)) h tm= .val v h'):Sim1 E w0 φ w h ((execOp ρ o).run P w) v h':=by
 simp only [exec]at hx
 split at hx
 ·rename_i s hb
  obtain⟨b,ea,hs⟩:=VR.str_inv (hb ▸ hρ x)
  simp only [R.val.injEq]at hx;obtain⟨rfl,rfl⟩:=hx
  have hl:b.size=s.length:=by rw [←hs,List.length_map];rfl
  refine .same (v':=goInt s.length) hr ?_ (.int _ _)
  rw [Ay ho hc,N8 ha,ea]
  simp [builtin,Builtin.len_,Fs ht,Ac hE hu,hl]
 ·cases hx
theorem d8 (hE:EnvOk P E){c:Call}{x:Operand}{t e:TypeId}(ho:o.op= .call c)(hc:c.callee= .builtin .cap)(ha:c.args.toList= [x])(ht:c.argTypes.toList= [t])
  (hu:und E t=some (.slice e)) (hx:exec (.capS (opd x)) h tm= .val v h'):Sim1 E w0 φ w h ((execOp ρ o).run P w) v h':=by
 simp only [exec]at hx
 have key: ∀n:Nat,(∃a c,ρ x= .slice a c n)→(execOp ρ o).run P w= .ok (.value (goInt n)) w:=by
  rintro n ⟨a,k,e1⟩
  rw [Ay ho hc,N8 ha,e1]
  simp [builtin,Builtin.cap_,Fs ht,Ac hE hu]
 split at hx
 ·rename_i hb
  simp only [R.val.injEq]at hx;obtain⟨rfl,rfl⟩:=hx
  exact .same (v':=goInt 0) hr (key 0 ⟨_,_,VR.nils_inv (hb ▸ hρ x)⟩) (.int _ _)
 ·rename_i b k n cap hb
  obtain⟨l,off,c',hφ,ea,hle,hor⟩:=VR.slc_inv (hb ▸ hρ x)
  split at hx
  ·cases hx
  ·rename_i hn
   have hn:cap<Aa:=D7 hn
   simp only [R.val.injEq]at hx;obtain⟨rfl,rfl⟩:=hx
   have hcc:c'=cap:=by
    rcases hor with⟨_,e,_⟩|⟨k,e,_⟩
    ·exact e
    ·omega
   subst hcc
   exact .same (v':=goInt c') hr (key _ ⟨_,_,ea⟩) (.int _ _)
 ·cases hx
omit hr hρ in
theorem ERs.length {l:List AEnt}{l':List MapEntry}(h:ERs φ l l'):l.length=l'.length:=by
 induction h with
 |nil=>rfl
 |cons _ _ ih=>simp [ih]
omit hρ in
theorem HR.map_at {r:Nat}{l:Loc}{es:List AEnt}{k:Nat}(hφ: φ r=some l)(hb:H.get h r=some (.map es k)):
  ∃es':Array MapEntry,w.heap[l.cb]?=some (.map es' k)∧ERs φ es es'.toList:=by
 obtain⟨o,h1,h2⟩:=hr.blk _ _ _ hφ hb
 cases h2 with
 |map h=>exact⟨_,h1,h⟩
theorem d9 (hE:EnvOk P E){c:Call}{x:Operand}{t a b:TypeId}(ho:o.op= .call c)(hc:c.callee= .builtin .len)(ha:c.args.toList= [x])(ht:c.argTypes.toList= [t])
  (hu:und E t=some (.map a b)) (hx:exec (.lenM (opd x)) h tm= .val v h'):Sim1 E w0 φ w h ((execOp ρ o).run P w) v h':=by
 simp only [exec]at hx
 split at hx
 ·rename_i hb
  simp only [R.val.injEq]at hx;obtain⟨rfl,rfl⟩:=hx
  refine .same (v':=goInt 0) hr ?_ (.int _ _)
  have ea:=VR.nilm_inv (hb ▸ hρ x)
  rw [Ay ho hc,N8 ha,ea]
  simp [builtin,Builtin.len_,Fs ht,Ac hE hu]
 ·rename_i r hb
  obtain⟨l,hφ,ea⟩:=VR.map_inv (hb ▸ hρ x)
  split at hx
  ·rename_i es k hg
   simp only [R.val.injEq]at hx;obtain⟨rfl,rfl⟩:=hx
   obtain⟨es',h1,h2⟩:=hr.map_at hφ hg
   refine .same (v':=goInt es'.size) hr ?_ ?_
   ·rw [Ay ho hc,N8 ha,ea]
    simp [builtin,Builtin.len_,Fs ht,Ac hE hu,getObj,Sem.run,h1]
   ·have:=h2.length
    simp only [Array.length_toList]at this
    rw [this];exact .int _ _
  ·cases hx
 ·cases hx
theorem Ti (hE:EnvOk P E){c:Call}{x:Operand}{t e:TypeId}{n:Nat}(ho:o.op= .call c)(hc:c.callee= .builtin .len)(ha:c.args.toList= [x])(ht:c.argTypes.toList= [t])
  (hu:und E t=some (.array n e)∨ ∃a,und E t=some (.pointer a)∧und E a=some (.array n e)) (hx:exec (.lenC n) h tm= .val v h'):Sim1 E w0 φ w h ((execOp ρ o).run P w) v h':=by
 simp only [exec,R.val.injEq]at hx;obtain⟨rfl,rfl⟩:=hx
 refine .same (v':=goInt n) hr ?_ (.int _ _)
 rw [Ay ho hc,N8 ha]
 rcases hu with hu|⟨a,hu,hu'⟩
 ·simp [builtin,Builtin.len_,Fs ht,Ac hE hu]
 ·simp [builtin,Builtin.len_,Fs ht,Ac hE hu,Ac hE hu']
omit hr hρ in
theorem Mi {mx:Bool}{x y u:AV}(h:E8 mx x y=some u): ∃k a b,x= .int k a∧y= .int k b∧u= .int k (match(match mx with|true=>iLt a b|false=>iLt b a)with|true=>b|false=>a):=by
 cases x with
 |int k a=>cases y with
  |int j b=>
   cases hk:kEq k j with
   |true=>
    have hk':=A6 hk
    subst hk'
    simp only [E8,hk,Option.some.injEq]at h
    exact⟨_,_,_,rfl,rfl,h.symm⟩
   |false=>simp [E8,hk]at h
  |_=>simp [E8]at h
 |_=>simp [E8]at h
theorem ow {c:Call}{x y:Operand}(ho:o.op= .call c)(hc:c.callee= .builtin .max)(ha:c.args.toList= [x,y])
  (hx:exec (.maxmin true (opd x) (opd y)) h tm= .val v h'):Sim1 E w0 φ w h ((execOp ρ o).run P w) v h':=by
 simp only [exec]at hx
 cases hv:E8 true (ev tm (opd x)) (ev tm (opd y))with
 |none=>rw [hv]at hx;simp [vo]at hx
 |some u=>
  rw [hv]at hx;simp only [vo,R.val.injEq]at hx;obtain⟨rfl,rfl⟩:=hx
  obtain⟨k,a,b,hb,hb',rfl⟩:=Mi hv
  have e1:=VR.int_inv (hb ▸ hρ x)
  have e2:=VR.int_inv (hb' ▸ hρ y)
  refine .same (v':= .int k (if b>a then b else a)) hr ?_ ?_
  ·rw [Ay ho hc,Mh ha,e1,e2]
   simp [builtin,Builtin.max_,Builtin.max2]
  ·simp only [Gi]
   by_cases hh:a<b
   ·simp only [hh,decide_true,if_true];exact .int _ _
   ·simp only [hh,decide_false,if_false];exact .int _ _
theorem ox {c:Call}{x y:Operand}(ho:o.op= .call c)(hc:c.callee= .builtin .min)(ha:c.args.toList= [x,y])
  (hx:exec (.maxmin false (opd x) (opd y)) h tm= .val v h'):Sim1 E w0 φ w h ((execOp ρ o).run P w) v h':=by
 simp only [exec]at hx
 cases hv:E8 false (ev tm (opd x)) (ev tm (opd y))with
 |none=>rw [hv]at hx;simp [vo]at hx
 |some u=>
  rw [hv]at hx;simp only [vo,R.val.injEq]at hx;obtain⟨rfl,rfl⟩:=hx
  obtain⟨k,a,b,hb,hb',rfl⟩:=Mi hv
  have e1:=VR.int_inv (hb ▸ hρ x)
  have e2:=VR.int_inv (hb' ▸ hρ y)
  refine .same (v':= .int k (if b<a then b else a)) hr ?_ ?_
  ·rw [Ay ho hc,Mh ha,e1,e2]
   simp [builtin,Builtin.min_,Builtin.min2]
  ·simp only [Gi]
   by_cases hh:b<a
   ·simp only [hh,decide_true,if_true];exact .int _ _
   ·simp only [hh,decide_false,if_false];exact .int _ _
end
section
variable {P:Program}{E:Env}{w0:Array Obj}{φ: Phi}{h h':H}{w:World}{tm:T AV}{ρ: Operand→Value}{o:Oper}{v:AV}
theorem HR.rename (hr:HR E w0 φ h w.heap){b off k:Nat}{c:T AV}{l:Loc}{xs:List AV}{cs':Array Value}{e:TypeId}(hφ: φ b=some l)(hb:H.get h b=some (.cells false k c))
  (hs:cs'.size=l.csz) (hn:off+xs.length≤cs'.size) (hv: ∀i v,xs[i]?=some v→ ∃v',cs'[off+i]?=some v'∧VR φ v v'):
  Phi.le φ (φ.upd h.n ⟨l.cb,off,l.csz⟩)∧HR E w0 (φ.upd h.n ⟨l.cb,off,l.csz⟩) (Ev.newCells (H.del h b) xs) (w.heap.setIfInBounds l.cb (.cells cs' e (0,0))):=by
 have hle:Phi.le φ (φ.upd h.n ⟨l.cb,off,l.csz⟩):=Phi.le_upd _ hr.fresh
 have hbn:=hr.bound _ _ hφ
 have hcb:=hr.cbound _ _ hφ
 have hown:=hr.own _ _ _ hφ hb rfl
 have ex: ∀{d:Nat} {z:Blk},d≠h.n→H.get (Ev.newCells (H.del h b) xs) d=some z→H.get h d=some z∧d≠b:=by
  intro d z hd hz
  unfold Ev.newCells at hz
  rw [H.get_new,if_neg (by rw [H.n_del];exact hd),H.get_del]at hz
  by_cases e:d=b
  ·rw [if_pos e]at hz;cases hz
  ·rw [if_neg e]at hz;exact⟨hz,e⟩
 have en:H.get (Ev.newCells (H.del h b) xs) h.n=some (.cells false xs.length (ofL 0 .leaf xs)):=by
  unfold Ev.newCells;rw [H.get_new,if_pos (H.n_del h b).symm]
 refine⟨hle,?_,?_,?_,?_,?_,?_,?_⟩
 ·intro d k' hd
  show d<h.n+1
  by_cases e:d=h.n
  ·omega
  ·rw [Phi.upd_ne _ _ e]at hd;have:=hr.bound _ _ hd;omega
 ·intro d k' hd
  by_cases e:d=h.n
  ·subst e;rw [Phi.upd_same]at hd;cases hd;simpa using hcb
  ·rw [Phi.upd_ne _ _ e]at hd;simpa using hr.cbound _ _ hd
 ·intro d k' z hd hz
  by_cases e:d=h.n
  ·subst e
   rw [Phi.upd_same]at hd;cases hd
   rw [en]at hz;cases hz
   refine⟨.cells cs' e (0,0),by simp [Array.getElem?_setIfInBounds,hcb],.cells (fun _=>rfl) hs hn fun i v hi hg=>?_⟩
   rw [I3,if_pos (by omega),Nat.sub_zero]at hg
   obtain⟨v',h1,h2⟩:=hv i v hg
   exact⟨v',h1,h2.mono hle⟩
  ·rw [Phi.upd_ne _ _ e]at hd
   obtain⟨hz,hdb⟩:=ex e hz
   obtain⟨p,h1,h2⟩:=hr.blk _ _ _ hd hz
   have hne:l.cb≠k'.cb:=fun e'=>hdb (hr.inj _ _ _ _ _ _ hφ hd hb hz rfl e').symm
   exact⟨p,by rw [Array.getElem?_setIfInBounds,if_neg hne];exact h1,h2.mono hle⟩
 ·intro d d' k1 k2 z z' hd hd' hz hz' hr1 he
  by_cases e:d=h.n
  ·by_cases e':d'=h.n
   ·rw [e,e']
   ·subst e
    rw [Phi.upd_same]at hd;cases hd
    rw [Phi.upd_ne _ _ e']at hd'
    obtain⟨hz',hdb⟩:=ex e' hz'
    exact absurd (hr.inj _ _ _ _ _ _ hφ hd' hb hz' rfl he).symm hdb
  ·by_cases e':d'=h.n
   ·subst e'
    rw [Phi.upd_same]at hd';cases hd'
    rw [Phi.upd_ne _ _ e]at hd
    obtain⟨hz,hdb⟩:=ex e hz
    exact absurd (hr.inj _ _ _ _ _ _ hd hφ hz hb hr1 he) hdb
   ·rw [Phi.upd_ne _ _ e]at hd
    rw [Phi.upd_ne _ _ e']at hd'
    exact hr.inj _ _ _ _ _ _ hd hd' (ex e hz).1 (ex e' hz').1 hr1 he
 ·intro d k' z hd hz hr1
  by_cases e:d=h.n
  ·subst e;rw [Phi.upd_same]at hd;cases hd;exact hown
  ·rw [Phi.upd_ne _ _ e]at hd;exact hr.own _ _ _ hd (ex e hz).1 hr1
 ·intro c hc
  rw [←hr.old c hc,Array.getElem?_setIfInBounds,if_neg]
  have:=hr.own _ _ _ hφ hb rfl;omega
 ·simpa using hr.size
theorem Mj {sLen n sCap bytes:Nat}(hlt:sCap<sLen+n)(hb:(sLen+n)*(bytes+1)≤1099511627776):
  ¬(281474976710656<Builtin.nextslicecap (sLen+n) sCap*bytes)∧ ¬(9223372036854775807<((sLen:Int)+(n:Int))):=by
 have hle1:sLen+n≤1099511627776:=Nat.le_trans (Nat.le_mul_of_pos_right _ (Nat.succ_pos _)) hb
 have hb1:(sLen+n)*bytes≤1099511627776:=Nat.le_trans (Nat.mul_le_mul_left _ (Nat.le_succ _)) hb
 have hfit:=growslice_fits (need:=sLen+n) (old:=sCap) (bytes:=bytes) hlt (by omega)
 exact⟨by omega,by omega⟩
section
variable {t u ty e:TypeId}{d:TypeDesc}{i:TypeInfo}{base:Option Addr}{sLen sCap n:Nat}{x:Value}{new old:Array Value}
variable (hE:EnvOk P E)(ht:und E t=some (.slice e))(hu:und E u=some d)(hd:d= .string∨ ∃e',d= .slice e')(hi:Ev.inf E e=some i)
include hE ht hu hi
include hd in
theorem eg (hn:(Builtin.lenOf x).run P w= .ok n w)(h1:(Builtin.firstCells i.size n x).run P w= .ok new w)(hle:sLen+n≤sCap)
  {w':World} (hs: ∀a,base=some a→(storeCells (a.add (sLen*i.size)) new.toList).run P w= .ok () w') (hw:base=none→w'=w):
  (Builtin.append_ #[t,u] ty #[.slice base sLen sCap,x]).run P w=
   .ok (.slice base (sLen+n) sCap) w':=by
 rcases hd with rfl|⟨e',rfl⟩
 ·cases base with
  |none=>rw [hw rfl];simp [Builtin.append_,Ac hE ht,Ac hE hu,A7 hE hi,hn,hle,h1]
  |some a=>simp [Builtin.append_,Ac hE ht,Ac hE hu,A7 hE hi,hn,hle,h1,hs a rfl]
 ·cases base with
  |none=>rw [hw rfl];simp [Builtin.append_,Ac hE ht,Ac hE hu,A7 hE hi,hn,hle,h1]
  |some a=>simp [Builtin.append_,Ac hE ht,Ac hE hu,A7 hE hi,hn,hle,h1,hs a rfl]
include hd in
theorem ek {z:Value}(hz:(zeroValue e).run P w.drew= .ok z w.drew)(hn:(Builtin.lenOf x).run P w= .ok n w)(h1:(Builtin.firstCells i.size n x).run P w.drew= .ok new w.drew)
  (ho:(Builtin.firstCells i.size sLen (.slice base sLen sCap)).run P w.drew= .ok old w.drew) (hlt:sCap<sLen+n) (hb:(sLen+n)*(i.bytes+1)≤1099511627776):
  (Builtin.append_ #[t,u] ty #[.slice base sLen sCap,x]).run P w= .ok (.slice (some ⟨w.heap.size,0,none⟩) (sLen+n) (grownCap w (sLen+n) sCap e))
   (w.drew.alloc (.cells (old++(new++Builtin.zeroCells z.cells (grownCap w (sLen+n) sCap e - (sLen+n)))) e)):=by
 obtain⟨h48',h63'⟩:=Mj hlt hb
 have hle: ¬(sLen+n≤sCap):=by omega
 rcases hd with rfl|⟨e',rfl⟩
 ·simp [Builtin.append_,Ac hE ht,Ac hE hu,A7 hE hi,B7 hE hi,hn,hle,h1,hz,ho,h63',h48',Question.forced,newRow,grownCap]
 ·simp [Builtin.append_,Ac hE ht,Ac hE hu,A7 hE hi,B7 hE hi,hn,hle,h1,hz,ho,h63',h48',Question.forced,newRow,grownCap]
def Ft (z:Value)(size n:Nat):Array Value:=if n*size=0 then #[]else Builtin.zeroCells z.cells n
theorem Y1 {k j:IntKind}(hd:d= .int k)(hx:x= .int j (n:Int)){z:Value}(hz: ∀w,(zeroValue e).run P w= .ok z w)(hn:n≤281474976710656)(hnb:n*i.bytes≤281474976710656)(hle:sLen+n≤sCap)
  {w':World} (hs: ∀a,base=some a→(storeCells (a.add (sLen*i.size)) (Ft z i.size n).toList).run P w= .ok () w') (hw:base=none→w'=w):
  (Builtin.append_ #[t,u] ty #[.slice base sLen sCap,x]).run P w=
   .ok (.slice base (sLen+n) sCap) w':=by
 subst hd hx
 have hwr:IntKind.i64.wrap (n:Int)=n:=by
  have h:(n:Int) % (2 ^ IntKind.i64.bits:Int)=n:=Int.emod_eq_of_lt (by omega) (by simp [IntKind.bits];omega)
  unfold IntKind.wrap
  rw [h]
  have: ¬((n:Int) ≥ 2 ^ (IntKind.i64.bits - 1)):=by simp [IntKind.bits];omega
  simp [IntKind.signed,this]
 have hnn: ¬((n:Int)<0):=by omega
 have hnb': ¬(281474976710656<(n:Int)*(i.bytes:Int)):=by rw [←Int.natCast_mul];omega
 by_cases h0:n*i.size=0
 ·cases base with
  |none=>rw [hw rfl];simp [Builtin.append_,Ac hE ht,Ac hE hu,A7 hE hi,B7 hE hi,asInt,asIntOf,hwr,hnn,hnb',h0,hle,hz,Ft]
  |some a=>
   have hs:=hs a rfl
   simp only [Ft,h0,if_true,if_false]at hs
   simp [Builtin.append_,Ac hE ht,Ac hE hu,A7 hE hi,B7 hE hi,asInt,asIntOf,hwr,hnn,hnb',h0,hle,hz,hs]
 ·cases base with
  |none=>rw [hw rfl];simp [Builtin.append_,Ac hE ht,Ac hE hu,A7 hE hi,B7 hE hi,asInt,asIntOf,hwr,hnn,hnb',h0,hle,hz,Ft]
  |some a=>
   have hs:=hs a rfl
   simp only [Ft,h0,if_true,if_false]at hs
   simp [Builtin.append_,Ac hE ht,Ac hE hu,A7 hE hi,B7 hE hi,asInt,asIntOf,hwr,hnn,hnb',h0,hle,hz,hs]
theorem Y2 {k j:IntKind}(hd:d= .int k)(hx:x= .int j (n:Int)){z:Value}(hz: ∀w,(zeroValue e).run P w= .ok z w)(hn:n≤281474976710656)(hnb:n*i.bytes≤281474976710656)
  (ho:(Builtin.firstCells i.size sLen (.slice base sLen sCap)).run P w.drew= .ok old w.drew) (hlt:sCap<sLen+n) (hb:(sLen+n)*(i.bytes+1)≤1099511627776):
  (Builtin.append_ #[t,u] ty #[.slice base sLen sCap,x]).run P w= .ok (.slice (some ⟨w.heap.size,0,none⟩) (sLen+n) (grownCap w (sLen+n) sCap e))
   (w.drew.alloc (.cells (old++(Ft z i.size n++Builtin.zeroCells z.cells (grownCap w (sLen+n) sCap e - (sLen+n)))) e)):=by
 obtain⟨h48',h63'⟩:=Mj hlt hb
 have hle: ¬(sLen+n≤sCap):=by omega
 subst hd hx
 have hwr:IntKind.i64.wrap (n:Int)=n:=by
  have h:(n:Int) % (2 ^ IntKind.i64.bits:Int)=n:=Int.emod_eq_of_lt (by omega) (by simp [IntKind.bits];omega)
  unfold IntKind.wrap
  rw [h]
  have: ¬((n:Int) ≥ 2 ^ (IntKind.i64.bits - 1)):=by simp [IntKind.bits];omega
  simp [IntKind.signed,this]
 have hnn: ¬((n:Int)<0):=by omega
 have hnb': ¬(281474976710656<(n:Int)*(i.bytes:Int)):=by rw [←Int.natCast_mul];omega
 by_cases h0:n*i.size=0
 ·simp [Builtin.append_,Ac hE ht,Ac hE hu,A7 hE hi,B7 hE hi,asInt,asIntOf,hwr,hnn,hnb',h0,hle,hz,ho,h63',h48',Question.forced,newRow,grownCap,Ft]
 ·simp [Builtin.append_,Ac hE ht,Ac hE hu,A7 hE hi,B7 hE hi,asInt,asIntOf,hwr,hnn,hnb',h0,hle,hz,ho,h63',h48',Question.forced,newRow,grownCap,Ft]
end
end
section
variable {P:Program}{E:Env}{w0:Array Obj}{φ: Phi}{h h':H}{w:World}{tm:T AV}{ρ: Operand→Value}{o:Oper}{v:AV}
theorem HR.newPre (hr:HR E w0 φ h w.heap){xs:List AV}{cs:Array Value}(e:TypeId){vs:List Value}(hx:VRs φ xs vs)(hp: ∃r,cs.toList=vs++r):
  Phi.le φ (φ.upd h.n ⟨w.heap.size,0,cs.size⟩)∧HR E w0 (φ.upd h.n ⟨w.heap.size,0,cs.size⟩) (Ev.newCells h xs) (w.heap.push (.cells cs e (0,0))):=by
 have hle:=Phi.le_upd ⟨w.heap.size,0,cs.size⟩ hr.fresh
 obtain⟨r,hr'⟩:=hp
 have hlen:=hx.length
 have hcl:cs.size=vs.length+r.length:=by rw [←Array.length_toList,hr',List.length_append]
 refine⟨hle,hr.new rfl (.cells (fun _=>rfl) rfl (by show 0+xs.length≤cs.size;omega) fun i v hi hg=>?_) rfl⟩
 rw [I3,if_pos (by omega),Nat.sub_zero]at hg
 obtain⟨v',h1,h2⟩:=(hx.mono hle).get hg
 refine⟨v',?_,h2⟩
 show cs[0+i]?=some v'
 rw [Nat.zero_add,←Array.getElem?_toList,hr',List.getElem?_append_left (by omega)]
 exact h1
theorem Qh {P:Program}{w:World}{size n cap:Nat}{cb off:Nat}{vs:List Value}(hl:vs.length=n*size)(h: ∀(j:Nat) (v:Value),vs[j]?=some v→w.cell? ⟨cb,off+j,none⟩=some v):
  (Builtin.firstCells size n (.slice (some ⟨cb,off,none⟩) n cap)).run P w= .ok vs.toArray w:=
 run_firstCells_some w size n ⟨cb,off,none⟩ n cap vs hl fun j v hj=>by rw [Cu];exact h j v hj
structure AppR (P:Program)(w:World)(size bytes n:Nat)(elem:TypeId)(zs:Nat→Array Value)(new':Array Value)(R:Option Addr→Nat→Nat→Result Value):Prop where
 room: ∀base sLen sCap w',sLen+n≤sCap→(∀a,base=some a→(storeCells (a.add (sLen*size)) new'.toList).run P w= .ok () w')→(base=none→w'=w)→
  R base sLen sCap= .ok (.slice base (sLen+n) sCap) w'
 grow: ∀base sLen sCap old,(Builtin.firstCells size sLen (.slice base sLen sCap)).run P w.drew= .ok old w.drew→sCap<sLen+n→(sLen+n)*(bytes+1)≤1099511627776→
  R base sLen sCap= .ok (.slice (some ⟨w.heap.size,0,none⟩) (sLen+n) (grownCap w (sLen+n) sCap elem))
   (w.drew.alloc (.cells (old++(new'++zs (grownCap w (sLen+n) sCap elem - (sLen+n)))) elem))
 zsz: ∀k,(zs k).size=k*size
theorem Ml (hr:HR E w0 φ h w.heap){size bytes n:Nat}{elem:TypeId}{zs:Nat→Array Value}{new:List AV}{new':Array Value}{R:Option Addr→Nat→Nat→Result Value}{s:AV}{s':Value}
  (hR:AppR P w size bytes n elem zs new' R) (hn:VRs φ new new'.toList) (hnl:new.length=n*size) (hs:VR φ s s') (hx:De size bytes h s new n= .val v h'):
  ∃base sLen sCap,s'= .slice base sLen sCap∧ ∃φ' v' w',Phi.le1 h.n φ φ'∧R base sLen sCap= .ok v' w'∧VR φ' v v'∧HR E w0 φ' h' w'.heap∧Like w w':=by
 have hnl':new'.size=n*size:=by rw [←Array.length_toList,←hn.length,hnl]
 have grow: ∀(h0:H) (sLen sCap:Nat) (base:Option Addr) (old:List AV) (ovs:List Value),HR E w0 φ h0 w.heap→VRs φ old ovs→ovs.length=sLen*size→
   (Builtin.firstCells size sLen (.slice base sLen sCap)).run P w.drew= .ok ovs.toArray w.drew→sCap<sLen+n→(sLen+n)*(bytes+1)≤1099511627776→
   ∃φ' v' w',Phi.le1 h0.n φ φ'∧R base sLen sCap= .ok v' w'∧VR φ' (.slc h0.n 0 (sLen+n) (Aa+size)) v'∧HR E w0 φ' (Ev.newCells h0 (List.append old new)) w'.heap∧Like w w':=by
  intro h0 sLen sCap base old ovs hr0 ho hol hf hlt hb
  have hg:=hR.grow base sLen sCap _ hf hlt hb
  have hge:=grownCap_ge w (sLen+n) sCap elem
  generalize grownCap w (sLen+n) sCap elem=newCap at hg hge
  obtain⟨hle,hr'⟩:=hr0.newPre (cs:=ovs.toArray++(new'++zs (newCap - (sLen+n)))) elem (ho.append hn) ⟨(zs (newCap - (sLen+n))).toList,by simp⟩
  refine⟨_,_,_,⟨hle,fun _ hb=>Phi.upd_ne _ _ hb⟩,hg,?_,hr',⟨rfl,rfl,rfl⟩⟩
  have hsz:(ovs.toArray++(new'++zs (newCap - (sLen+n)))).size=newCap*size:=by
   simp only [Array.size_append,List.size_toArray,hol,hnl',hR.zsz]
   rw [←Nat.add_mul,←Nat.add_mul];congr 1;omega
  exact .slcU (Phi.upd_same _ _ _) hge (by show 0+newCap*size≤(ovs.toArray++(new'++zs (newCap - (sLen+n)))).size;rw [hsz];omega) (fun _=>rfl)
 unfold De at hx
 cases n with
 |zero=>
  have hnil:new'= #[]:=Array.eq_empty_of_size_eq_zero (by simpa using hnl')
  subst hnil
  simp only at hx
  split at hx
  ·simp only [Ev.R.val.injEq]at hx;obtain⟨rfl,rfl⟩:=hx
   exact⟨none,0,0,hs.nils_inv,φ,_,w,.refl _ _,hR.room none 0 0 w (Nat.le_refl _) (by simp) (fun _=>rfl),.nils,hr,.refl _⟩
  ·simp only [Ev.R.val.injEq]at hx;obtain⟨rfl,rfl⟩:=hx
   obtain⟨l,off,c',hφ,ea,hle,hor⟩:=hs.slc_inv
   refine⟨_,_,_,ea,φ,_,w,.refl _ _,hR.room _ _ _ w (by omega) (by intro a _;rfl) (by simp),?_,hr,.refl _⟩
   rw [ea]at hs;exact hs
  ·cases hx
 |succ n=>
  simp only at hx
  split at hx
  ·split at hx
   ·rename_i hb
    have hb:(n+1)*(bytes+1)≤1099511627776:=Ah hb
    simp only [Ev.R.val.injEq]at hx;obtain⟨rfl,rfl⟩:=hx
    have:=grow h 0 0 none [] [] hr .nil (by simp) (by simp [Builtin.firstCells]) (by omega) (by simpa using hb)
    simp only [Nat.zero_add]at this
    exact⟨none,0,0,hs.nils_inv,this⟩
   ·cases hx
  ·rename_i b k sl cap
   obtain⟨l,off,c',hφ,ea,hle,hor⟩:=hs.slc_inv
   refine⟨_,_,_,ea,?_⟩
   split at hx
   ·cases hx
   ·rename_i hb
    have hb:(sl+(n+1))*(bytes+1)≤1099511627776:=Ah hb
    split at hx
    ·rename_i hcu
     have hcu:Aa≤cap:=Ah hcu
     split at hx
     ·rename_i old k' c hce hold hblk hpl
      have hce:cap=Aa+size:=Aj hce
      subst hce
      simp only [Ev.R.val.injEq]at hx;obtain⟨rfl,rfl⟩:=hx
      rcases hor with⟨hc,_⟩|⟨k2,hk2,hfit,hoff⟩
      ·omega
      ·have hk2:k2=size:=by omega
       subst hk2
       obtain⟨vs,v1,v2,v3⟩:=hr.cellsAt hφ hold off (fun hn=>hoff (Nat.pos_of_mul_pos_right hn))
       have v1:vs.length=sl*k2:=v1
       by_cases hroom:sl+(n+1)≤c'
       ·obtain⟨cs,e,b1,b2,b3,b4⟩:=hr.cellsOf_blkW hφ hblk
        have hmul:(sl+(n+1))*k2≤c'*k2:=Nat.mul_le_mul_right _ hroom
        rw [Nat.add_mul]at hmul
        obtain⟨w',s1,s2,s3⟩:=Du P new'.toList w l.cb (off+sl*k2) 0 cs e b1 (by rw [Array.length_toList,hnl'];omega) (Hb hn hpl)
        have hrm:=hR.room (some ⟨l.cb,off,none⟩) sl c' w' hroom (by intro a ha;cases ha;rw [Cu];exact s1) (by simp)
        have hlen:(List.append old new).length=sl*k2+(n+1)*k2:=by
         show(old++new).length=_
         rw [List.length_append,hnl,v2.length,v1]
        obtain⟨hle',hr'⟩:=hr.rename (off:=off) (xs:=List.append old new) (cs':=ovl cs (off+sl*k2) new'.toList) (e:=e) hφ hblk (by rw [Gv,b2]) (by rw [Gv,hlen];omega) (by
         intro i v hi
         rw [Ng _ _ _ _ (by rw [Array.length_toList,hnl'];omega)]
         have hi:(old++new)[i]?=some v:=hi
         by_cases hlt:i<old.length
         ·rw [List.getElem?_append_left hlt]at hi
          obtain⟨v',g1,g2⟩:=v2.get hi
          have hv3:=v3 i v' g1
          rw [I4 b1]at hv3
          have:=v2.length
          exact⟨v',by rw [if_neg (by omega)];exact hv3,g2⟩
         ·rw [List.getElem?_append_right (by omega)]at hi
          obtain⟨v',g1,g2⟩:=hn.get hi
          have:=v2.length
          have hin:i - old.length<new.length:=(List.getElem?_eq_some_iff.1 hi).1
          refine⟨v',?_,g2⟩
          rw [if_pos (by rw [Array.length_toList,hnl'];omega),←g1];congr 1;omega)
        refine⟨_,_,w',⟨hle',fun _ hb=>Phi.upd_ne _ _ hb⟩,hrm,?_,?_,s3⟩
        ·exact .slcU (l:=⟨l.cb,off,l.csz⟩) (Phi.upd_same _ _ _) hroom hfit (fun _=>rfl)
        ·rw [s2,Nat.add_zero];exact hr'
       ·exact grow (H.del h b) sl c' _ old vs (hr.del b) v2 v1 (Qh v1 v3) (by omega) hb
     ·cases hx
    ·rename_i hcu
     have hcu:cap<Aa:=D7 hcu
     have hc':c'=cap∧(0<cap→off=l.base+k):=by
      rcases hor with⟨_,e1,e2⟩|⟨k2,e,_⟩
      ·exact⟨e1,e2⟩
      ·omega
     obtain⟨rfl,hoff⟩:=hc'
     split at hx
     ·rename_i hroom
      have hroom:sl+(n+1)≤c':=Ah hroom
      split at hx
      ·rename_i h1 hput
       simp only [Ev.R.val.injEq]at hx;obtain⟨rfl,rfl⟩:=hx
       obtain⟨w',s1,s2,s3⟩:=hr.putBlk P hφ hput hn (off+sl*size) (fun _=>by
        have:=hoff (by omega)
        show _=l.base+(k+sl*size);omega)
       have hrm:=hR.room (some ⟨l.cb,off,none⟩) sl c' w' hroom (by intro a ha;cases ha;rw [Cu];exact s1) (by simp)
       exact⟨φ,_,w',.refl _ _,hrm,.slcX hφ hcu hroom hoff,s2,s3⟩
      ·cases hx
     ·rename_i hroom
      have hroom:c'<sl+(n+1):=D7 hroom
      split at hx
      ·rename_i old hold
       simp only [Ev.R.val.injEq]at hx;obtain⟨rfl,rfl⟩:=hx
       obtain⟨vs,v1,v2,v3⟩:=hr.cellsAt hφ hold off (fun hn=>hoff (by have:=Nat.pos_of_mul_pos_right hn;omega))
       exact grow h sl c' _ old vs hr v2 v1 (Qh v1 v3) hroom hb
      ·cases hx
  ·cases hx
theorem Qi {x:AV}{x':Value}{n:Nat}(hx:VR φ x x')(hl:lenV x=some n):(Builtin.lenOf x').run P w= .ok n w:=by
 cases hx with
 |nils=>simp only [lenV,Option.some.injEq]at hl;subst hl;rfl
 |slcX _ _ _ _=>simp only [lenV,Option.some.injEq]at hl;subst hl;rfl
 |slcU _ _ _ _=>simp only [lenV,Option.some.injEq]at hl;subst hl;rfl
 |str hs=>simp only [lenV,Option.some.injEq]at hl;subst hl;rw [←hs,List.length_map];rfl
 |_=>simp [lenV]at hl
theorem N9 (φ: Phi): ∀(n:Nat) (s:List Nat) (l:List UInt8),l.map (·.toNat)=s→VRs φ (Fo n s) ((l.take n).map fun b=>Value.int .u8 (b.toNat:Int))
 |0,s,l,_=>by simp [Fo];exact .nil
 |n+1,s,[],h=>by simp at h;subst h;exact .nil
 |n+1,s,b::l,h=>by
  simp only [List.map_cons]at h;subst h
  exact .cons (.int _ _) (N9 φ n _ l rfl)
theorem Mm (hr:HR E w0 φ h w.heap){size n:Nat}{x:AV}{x':Value}{l:List AV}(hx:VR φ x x')(hc:cellsOf size n h x=some l)(hn: ∀k,lenV x=some k→n≤k):
  ∃vs:List Value,VRs φ l vs∧ ∀w1:World,w1.heap=w.heap→(Builtin.firstCells size n x').run P w1= .ok vs.toArray w1:=by
 have hcell: ∀(w1:World),w1.heap=w.heap→ ∀a,a.spot=none→w1.cell? a=w.cell? a:=by
  intro w1 h1 a _;simp only [World.cell?,h1]
 cases x with
 |nils=>
  simp only [cellsOf,Option.some.injEq]at hc;subst hc
  exact⟨[],.nil,fun w1 _=>by rw [hx.nils_inv];simp [Builtin.firstCells]⟩
 |slc b o m c=>
  obtain⟨lo,off,c',hφ,ea,hle,hor⟩:=hx.slc_inv
  simp only [cellsOf]at hc
  have hnm:n≤m:=hn m rfl
  obtain⟨vs,v1,v2,v3⟩:=hr.cellsAt hφ hc off (fun hp=>by
   have hp:=Nat.pos_of_mul_pos_right hp
   rcases hor with⟨_,e,ho⟩|⟨_,_,_,ho⟩
   ·exact ho (by omega)
   ·exact ho (by omega))
  have v1:vs.length=n*size:=v1
  refine⟨vs,v2,fun w1 h1=>?_⟩
  rw [ea]
  exact run_firstCells_some w1 size n ⟨lo.cb,off,none⟩ m c' vs v1 fun j v hj=>by
   rw [Cu,hcell w1 h1 _ rfl];exact v3 j v hj
 |str s=>
  obtain⟨b,ea,hs⟩:=hx.str_inv
  simp only [cellsOf]at hc
  split at hc
  ·simp only [Option.some.injEq]at hc;subst hc
   refine⟨_,N9 φ n s _ hs,fun w1 _=>?_⟩
   rw [ea]
   simp only [Builtin.firstCells,Sem.run_pure,Result.ok.injEq,and_true]
   apply Array.ext'
   simp [List.map_take]
  ·cases hc
 |_=>simp [cellsOf]at hc
theorem Oa {b o n:Nat}{l:List AV}(hc:cellsAt h b o n=some l):l.length=n:=by
 unfold cellsAt at hc
 cases n with
 |zero=>simp only [Option.some.injEq]at hc;subst hc;rfl
 |succ n=>
  simp only at hc
  split at hc
  ·split at hc
   ·exact(Ld hc).1
   ·cases hc
  ·cases hc
theorem Hy: ∀(n:Nat) (s:List Nat),n≤s.length→(Fo n s).length=n
 |0,s,_=>by simp [Fo]
 |n+1,[],h=>by simp at h
 |n+1,b::s,h=>by simp only [List.length_cons]at h;simp [Fo,Hy n s (by omega)]
theorem Ib {size n k:Nat}{x:AV}{l:List AV}(hl:lenV x=some k)(hn:n≤k)(hc:cellsOf size n h x=some l):l.length=n*size:=by
 cases x with
 |nils=>
      simp only [lenV,cellsOf,Option.some.injEq]at hl hc;subst hl hc;have:n=0:=by omega
      subst this;simp
 |slc b o m c=>simp only [cellsOf]at hc;exact Oa hc
 |str s=>
  simp only [lenV,cellsOf,Option.some.injEq]at hl hc;subst hl
  split at hc
  ·rename_i h1
   have h1:=Aj h1
   simp only [Option.some.injEq]at hc;subst hc
   rw [h1,Hy n s hn,Nat.mul_one]
  ·cases hc
 |_=>simp [lenV]at hl
theorem R0 (z:List AV): ∀n,(rl z n).length=n*z.length
 |0=>by simp [rl]
 |n+1=>by show(z++rl z n).length=_;rw [List.length_append,R0 z n,Nat.succ_mul];omega
theorem Xa (hE:EnvOk P E){e:TypeId}{z:List AV}(hz:Em E e=some z): ∃v i,Ev.inf E e=some i∧(∀w1:World,(zeroValue e).run P w1= .ok v w1)∧v.cells.size=i.size∧z.length=i.size∧ ∀φ,VRs φ z v.cells.toList:=by
 obtain⟨v,i,h1,h2,h3,h4,h5⟩:=Df hE hz default
 refine⟨v,i,h1,fun w1=>?_,h3,h4,h5⟩
 obtain⟨v',i',h1',h2',_⟩:=Df hE hz w1
 simp only [zeroValue,Sem.run_bind,B7 hE h1,Result.andThen_ok]at h2 h2' ⊢
 cases hzz:i.zero with
 |none=>rw [hzz]at h2;simp at h2
 |some z0=>rw [hzz]at h2;simp at h2 ⊢;exact h2
theorem Qj {e:TypeId}{s:Nat}{i:TypeInfo}(hs:Bu E e=some s)(hi:Ev.inf E e=some i):i.size=s∧s≠0:=by
 unfold Bu at hs;rw [hi]at hs;simp only at hs
 split at hs
 ·simp at hs
 ·rename_i hb;simp at hs;exact⟨hs,hs ▸ Dm hb⟩
theorem Ob {e:TypeId}{i:TypeInfo}(hi:Ev.inf E e=some i):C9 E e=i.bytes:=by unfold C9;rw [hi]
section
variable (hr:HR E w0 φ h w.heap)(hρ: RhoR φ tm ρ)
include hr hρ
theorem Oc (hE:EnvOk P E){c:Call}{s x:Operand}{t u e:TypeId}{d:TypeDesc}{n:Nat}{z:List AV}(ho:o.op= .call c)(hc:c.callee= .builtin .append)(ha:c.args.toList= [s,x])(ht:c.argTypes.toList= [t,u])
  (hu:und E t=some (.slice e)) (hu':und E u=some d) (hd:d= .string∨ ∃e',d= .slice e') (hs:Bu E e=some n) (hz:Em E e=some z)
  (hx:exec (.append n (C9 E e) (opd s) (opd x)) h tm= .val v h'):Sim1 E w0 φ w h ((execOp ρ o).run P w) v h':=by
 simp only [exec]at hx
 obtain⟨zv,i,hi,hzr,hzs,hzl,hzR⟩:=Xa hE hz
 obtain⟨hin,hn0⟩:=Qj hs hi
 subst hin
 split at hx
 ·rename_i k hl
  split at hx
  ·rename_i new hnew
   have hlx:=Qi (P:=P) (w:=w) (hρ x) hl
   obtain⟨vs,v1,v2⟩:=Mm (P:=P) hr (hρ x) hnew (fun k' hk'=>by rw [hl]at hk';cases hk';exact Nat.le_refl _)
   have hlen:new.length=k*i.size:=by
    exact Ib hl (Nat.le_refl _) hnew
   rw [Ob hi]at hx
   have happ:AppR P w i.size i.bytes k e (Builtin.zeroCells zv.cells) vs.toArray (fun b sl sc=>(Builtin.append_ #[t,u] o.type #[.slice b sl sc,ρ x]).run P w):=
    ⟨fun b sl sc w' h1 h2 h3=>eg hE hu hu' hd hi hlx (v2 w rfl) h1 h2 h3,
         fun b sl sc old h1 h2 h3=>ek hE hu hu' hd hi (hzr _) hlx (v2 w.drew rfl) h1 h2 h3,fun k=>by rw [size_zeroCells,hzs]⟩
   obtain⟨b,sl,sc,e1,φ',v',w',e2,e3,e4,e5⟩:=Ml hr happ (by simpa using v1) hlen (hρ s) hx
   refine⟨φ',v',w',e2,.inl ?_,e4,e5⟩
   have hty:c.argTypes= #[t,u]:=by rw [←Array.toArray_toList (xs:=c.argTypes),ht]
   rw [Ay ho hc,Mh ha,e1,hty]
   simp only [builtin,Sem.run_bind,e3,Result.andThen_ok,Sem.run_pure]
  ·cases hx
 ·cases hx
theorem Tj (hE:EnvOk P E){c:Call}{s x:Operand}{t u e:TypeId}{k:IntKind}{n:Nat}{z:List AV}(ho:o.op= .call c)(hc:c.callee= .builtin .append)(ha:c.args.toList= [s,x])(ht:c.argTypes.toList= [t,u])
  (hu:und E t=some (.slice e)) (hu':und E u=some (.int k)) (hs:Bu E e=some n) (hz:Em E e=some z)
  (hx:exec (.appendZ (C9 E e) z (opd s) (opd x)) h tm= .val v h'):Sim1 E w0 φ w h ((execOp ρ o).run P w) v h':=by
 simp only [exec]at hx
 obtain⟨zv,i,hi,hzr,hzs,hzl,hzR⟩:=Xa hE hz
 obtain⟨hin,hn0⟩:=Qj hs hi
 subst hin
 split at hx
 ·rename_i j m hl
  have ex:=VR.int_inv (hl ▸ hρ x)
  split at hx
  ·rename_i h1 h2
   have h1:m*C9 E e≤281474976710656:=Ah h1
   have h2:m≤281474976710656:=Ah h2
   rw [Ob hi]at hx h1
   have hnew:VRs φ (rl z m) (Ft zv i.size m).toList:=by
    unfold Ft
    split
    ·rename_i h0
     have:rl z m= []:=List.eq_nil_of_length_eq_zero (by rw [R0,hzl];exact h0)
     rw [this];exact .nil
    ·exact dp (hzR φ) m _ rfl
   have happ:AppR P w i.size i.bytes m e (Builtin.zeroCells zv.cells) (Ft zv i.size m) (fun b sl sc=>(Builtin.append_ #[t,u] o.type #[.slice b sl sc,ρ x]).run P w):=
    ⟨fun b sl sc w' q1 q2 q3=>Y1 hE hu hu' hi rfl ex hzr h2 h1 q1 q2 q3,
         fun b sl sc old q1 q2 q3=>Y2 hE hu hu' hi rfl ex hzr h2 h1 q1 q2 q3,fun k=>by rw [size_zeroCells,hzs]⟩
   rw [hzl]at hx
   obtain⟨b,sl,sc,e1,φ',v',w',e2,e3,e4,e5⟩:=Ml hr happ hnew (by rw [R0,hzl]) (hρ s) hx
   refine⟨φ',v',w',e2,.inl ?_,e4,e5⟩
   have hty:c.argTypes= #[t,u]:=by rw [←Array.toArray_toList (xs:=c.argTypes),ht]
   rw [Ay ho hc,Mh ha,e1,hty]
   simp only [builtin,Sem.run_bind,e3,Result.andThen_ok,Sem.run_pure]
  ·cases hx
 ·cases hx
theorem ep (hE:EnvOk P E){c:Call}{d s:Operand}{t e:TypeId}{r:List TypeId}{n:Nat}(ho:o.op= .call c)(hc:c.callee= .builtin .copy)(ha:c.args.toList= [d,s])(ht:c.argTypes.toList=t::r)
  (hu:und E t=some (.slice e)) (hs:Bu E e=some n) (hx:exec (.copy n (opd d) (opd s)) h tm= .val v h'):Sim1 E w0 φ w h ((execOp ρ o).run P w) v h':=by
 simp only [exec]at hx
 obtain⟨hsz,hn0⟩:=Bm hE hs w
 split at hx
 ·rename_i sn hl
  have hlx:=Qi (P:=P) (w:=w) (hρ s) hl
  split at hx
  ·rename_i hd
   have ed:=VR.nils_inv (hd ▸ hρ d)
   simp only [Ev.R.val.injEq]at hx;obtain⟨rfl,rfl⟩:=hx
   have hfc: ∃cells,(Builtin.firstCells n 0 (ρ s)).run P w= .ok cells w:=by
    have:=hρ s
    cases hev:ev tm (opd s)with
    |nils=>rw [hev]at this;rw [this.nils_inv];exact⟨_,by simp [Builtin.firstCells];rfl⟩
    |slc b o m c'=>
     rw [hev]at this
     obtain⟨lo,off,c',hφ,ea,hle,hor⟩:=this.slc_inv
     rw [ea]
     exact⟨_,run_firstCells_some w n 0 ⟨lo.cb,off,none⟩ m c' [] (by simp) (by simp)⟩
    |str q=>rw [hev]at this;obtain⟨b,ea,hs⟩:=this.str_inv;rw [ea];exact⟨_,by simp [Builtin.firstCells];rfl⟩
    |_=>rw [hev]at hl;simp [lenV]at hl
   obtain⟨cells,hfc⟩:=hfc
   refine .same (v':=goInt 0) hr ?_ (.int _ _)
   rw [Ay ho hc,Mh ha,ed]
   simp [builtin,Builtin.copy_,Fs ht,Ac hE hu,hsz,hlx,hfc]
  ·rename_i b k dn cap hd
   obtain⟨l,off,c',hφ,ed,hle,hor⟩:=VR.slc_inv (hd ▸ hρ d)
   split at hx
   ·rename_i xs hxs
    split at hx
    ·rename_i h1 hput
     simp only [Ev.R.val.injEq]at hx;obtain⟨rfl,rfl⟩:=hx
     have hmin:Jj sn dn=Nat.min sn dn:=by
      unfold Jj
      cases hb:Nat.ble sn dn with
      |true=>have:=Ah hb;show sn=min sn dn;omega
      |false=>have:=D7 hb;show dn=min sn dn;omega
     have hms:Jj sn dn≤sn:=by rw [hmin];exact Nat.min_le_left _ _
     have hmd:Jj sn dn≤dn:=by rw [hmin];exact Nat.min_le_right _ _
     obtain⟨vs,v1,v2⟩:=Mm (P:=P) hr (hρ s) hxs (fun k' hk'=>by rw [hl]at hk';cases hk';exact hms)
     have hlen:=Ib hl hms hxs
     obtain⟨w',s1,s2,s3⟩:=hr.putBlk P hφ hput v1 off (fun hp=>by
      have hp:0<Jj sn dn*n:=by rw [←hlen];exact hp
      have hp:=Nat.pos_of_mul_pos_right hp
      rcases hor with⟨_,e,ho⟩|⟨_,_,_,ho⟩
      ·exact ho (by omega)
      ·exact ho (by omega))
     refine⟨φ,goInt (Jj sn dn),w',.refl _ _,.inl ?_,.int _ _,s2,s3⟩
     rw [Ay ho hc,Mh ha,ed]
     have v2:=v2 w rfl
     rw [hmin]at v2
     simp [builtin,Builtin.copy_,Fs ht,Ac hE hu,hsz,hlx,v2,s1,hmin]
    ·cases hx
   ·cases hx
  ·cases hx
 ·cases hx
end
end
section
variable {P:Program}{E:Env}{w0:Array Obj}{φ: Phi}{h h':H}{w:World}{tm:T AV}{ρ: Operand→Value}{o:Oper}{v:AV}
theorem ERs.get {l:List AEnt}{l':List MapEntry}(h:ERs φ l l'){i:Nat}{e:AEnt}(hi:l[i]?=some e): ∃e',l'[i]?=some e'∧ER φ e e':=by
 induction h generalizing i with
 |nil=>simp at hi
 |cons he _ ih=>
  cases i with
  |zero=>simp at hi;subst hi;exact⟨_,rfl,he⟩
  |succ i=>simp at hi ⊢;exact ih hi
theorem ERs.append {a b:List AEnt}{a' b':List MapEntry}(h:ERs φ a a')(k:ERs φ b b'):ERs φ (a++b) (a'++b'):=by
 induction h with
 |nil=>exact k
 |cons he _ ih=>exact .cons he ih
theorem ERs.modify {l:List AEnt}{l':List MapEntry}(h:ERs φ l l'){f:AEnt→AEnt}{g:MapEntry→MapEntry}{i:Nat}(hf: ∀e e',l[i]?=some e→l'[i]?=some e'→ER φ e e'→ER φ (f e) (g e')):
  ERs φ (l.modify i f) (l'.modify i g):=by
 induction h generalizing i with
 |nil=>simp;exact .nil
 |cons he hs ih=>
  cases i with
  |zero=>simp only [List.modify_zero_cons];exact .cons (hf _ _ rfl rfl he) hs
  |succ i=>simp only [List.modify_succ_cons];exact .cons he (ih fun e e' h1 h2 h3=>hf e e' (by simpa using h1) (by simpa using h2) h3)
theorem ERs.erase {l:List AEnt}{l':List MapEntry}(h:ERs φ l l')(i:Nat):ERs φ (l.eraseIdx i) (l'.eraseIdx i):=by
 induction h generalizing i with
 |nil=>simp;exact .nil
 |cons he hs ih=>
  cases i with
  |zero=>simpa using hs
  |succ i=>simpa using .cons he (ih i)
theorem Od {f:AV→AV→Option Bool}{k:AV}: ∀{es:List AEnt},F6 f k es=some none→ ∀e∈es,f k e.key=some false
 | [],_=>by simp
 |a::es,h=>by
  simp only [F6]at h
  split at h
  ·cases h
  ·rename_i h1
   intro e he
   rcases List.mem_cons.1 he with rfl|he
   ·exact h1
   ·exact Od h e he
  ·cases h
theorem Oe {f:AV→AV→Option Bool}{k:AV}{e:AEnt}: ∀{es:List AEnt},F6 f k es=some (some e)→
  ∃j,es[j]?=some e∧f k e.key=some true∧(∀m x,m<j→es[m]?=some x→f k x.key=some false)∧
   (∀v es2,Rt f k v es=some es2→es2=es.modify j (fun e=>⟨k,v,e.born⟩)∧E2 k e.key=true)
 | [],h=>by simp [F6]at h
 |a::es,h=>by
  simp only [F6]at h
  split at h
  ·rename_i h1
   simp only [Option.some.injEq]at h;subst h
   refine⟨0,rfl,h1,fun m x hm=>absurd hm (by omega),fun v es2 hu=>?_⟩
   simp only [Rt,h1]at hu
   split at hu
   ·rename_i hk
    simp only [Option.some.injEq]at hu;subst hu
    exact⟨by simp,hk⟩
   ·cases hu
  ·rename_i h1
   obtain⟨j,g1,g2,g3,g4⟩:=Oe h
   refine⟨j+1,by simpa using g1,g2,fun m x hm hx=>?_,fun v es2 hu=>?_⟩
   ·cases m with
    |zero=>simp at hx;subst hx;exact h1
    |succ m=>exact g3 m x (by omega) (by simpa using hx)
   ·simp only [Rt,h1]at hu
    split at hu
    ·rename_i r hr
     simp only [Option.some.injEq]at hu;subst hu
     obtain⟨q1,q2⟩:=g4 v r hr
     exact⟨by rw [q1];simp,q2⟩
    ·cases hu
  ·cases h
theorem Of {f:AV→AV→Option Bool}{k:AV}: ∀{es es2:List AEnt},U1 f k es=some es2→
  (F6 f k es=some none∧es2=es)∨(∃j e,F6 f k es=some (some e)∧es[j]?=some e∧f k e.key=some true∧(∀m x,m<j→es[m]?=some x→f k x.key=some false)∧es2=es.eraseIdx j)
 | [],es2,h=>by simp only [U1,Option.some.injEq]at h;subst h;exact .inl ⟨rfl,rfl⟩
 |a::es,es2,h=>by
  simp only [U1]at h
  split at h
  ·rename_i h1
   simp only [Option.some.injEq]at h;subst h
   exact .inr ⟨0,a,by simp [F6,h1],rfl,h1,fun m x hm=>absurd hm (by omega),by simp⟩
  ·rename_i h1
   split at h
   ·rename_i r hr
    simp only [Option.some.injEq]at h;subst h
    rcases Of hr with⟨g1,rfl⟩|⟨j,e,g1,g2,g3,g4,rfl⟩
    ·exact .inl ⟨by simp [F6,h1,g1],rfl⟩
    ·refine .inr ⟨j+1,e,by simp [F6,h1,g1],by simpa using g2,g3,fun m x hm hx=>?_,by simp⟩
     cases m with
     |zero=>simp at hx;subst hx;exact h1
     |succ m=>exact g4 m x (by omega) (by simpa using hx)
   ·cases h
  ·cases h
theorem Bc (k:IntKind):kEq k k=true:=by cases k <;> rfl
theorem Qk {a b:ByteArray}{s t:List Nat}(ha:a.data.toList.map (·.toNat)=s)(hb:b.data.toList.map (·.toNat)=t):(a == b)=K8 s t:=by
 rw [←Kc ha hb,ByteArray.toList_eq,ByteArray.toList_eq]
 obtain⟨x⟩:=a
 obtain⟨y⟩:=b
 have:((⟨x⟩:ByteArray) == ⟨y⟩)=(x == y):=rfl
 rw [this,Bool.eq_iff_iff,beq_iff_eq,beq_iff_eq]
 exact⟨fun h=>by rw [h],fun h=>Array.ext' h⟩
theorem Li {d:TypeDesc}{n:Nat}{sh:Sh}{a b:AV}{a' b':Value}{q q':Bool}(he:eqv n sh a b=some q)(ha:VR φ a a')(hb:VR φ b b')(hs:Instr.sameNow d a' b'=some q'):q'=q:=by
 obtain⟨k1,k2⟩:=d5 he
 cases n with
 |zero=>simp [eqv]at he
 |succ n=>
  unfold Instr.sameNow at hs
  split at hs
  ·rename_i k x k' y
   split at hs
   ·rename_i hk
    subst hk
    simp only [Option.some.injEq]at hs;subst hs
    cases ha with
    |int=>cases hb with
     |int=>
                   cases sh <;> simp [eqv,Hw,H4,L8,Hx,Jl,Fl,Fm,D5,Bc]at he
                   rw [←I5];exact he
     |opq=>simp [kn]at k2
     |unk=>simp [kn]at k2
    |opq=>simp [kn]at k1
    |unk=>simp [kn]at k1
   ·cases hs
  ·rename_i x y
   simp only [Option.some.injEq]at hs;subst hs
   cases ha with
   |str hx=>cases hb with
    |str hy=>
          cases sh <;> simp [eqv,Hw,H4,L8,Hx,Jl,Fl,Fm,D5]at he
          rw [Qk hx hy];exact he
    |opq=>simp [kn]at k2
    |unk=>simp [kn]at k2
   |opq=>simp [kn]at k1
   |unk=>simp [kn]at k1
  ·rename_i x y
   simp only [Option.some.injEq]at hs;subst hs
   cases ha with
   |bool=>cases hb with
    |bool=>
         cases sh <;> simp [eqv,Hw,H4,L8,Hx,Jl,Fl,Fm,D5]at he
         subst he;cases x <;> cases y <;> rfl
    |opq=>simp [kn]at k2
    |unk=>simp [kn]at k2
   |opq=>simp [kn]at k1
   |unk=>simp [kn]at k1
  ·cases hs
theorem Ql (hE:EnvOk P E){t:TypeId}{d:TypeDesc}{k:AV}{k':Value}(hd:und E t=some d)(hk:VR φ k k'){es:List AEnt}{es':List MapEntry}(hes:ERs φ es es'):
  (∀(hn: ∀e∈es,eqv 20 (Aq E 5 t) k e.key=some false),(Instr.findKey t k' es').run P w= .ok none w)∧
  (∀j e,es[j]?=some e→eqv 20 (Aq E 5 t) k e.key=some true→(∀m x,m<j→es[m]?=some x→eqv 20 (Aq E 5 t) k x.key=some false)→
   ∃e',es'[j]?=some e'∧(Instr.findKey t k' es').run P w= .ok (some (j,e'.val)) w):=by
 have eq: ∀{e:AEnt} {e':MapEntry} {b:Bool},ER φ e e'→eqv 20 (Aq E 5 t) k e.key=some b→(Op.equal t k' e'.key).run P w= .ok b w:=by
  intro e e' b he hb
  exact Rz hE 5 t 20 10000 k e.key _ _ b (by decide) hb hk he.key
 have askN: ∀{es:List AEnt} {es':List MapEntry},ERs φ es es'→(∀e∈es,eqv 20 (Aq E 5 t) k e.key=some false)→ ∀i,(Instr.findAsking t k' es' i).run P w= .ok none w:=by
  intro es es' hes
  induction hes with
  |nil=>intro _ i;rfl
  |cons he _ ih=>
   intro hn i
   simp only [Instr.findAsking,Sem.run_bind,eq he (hn _ (List.mem_cons_self ..)),Result.andThen_ok,Bool.false_eq_true,if_false]
   exact ih (fun e he=>hn e (List.mem_cons_of_mem _ he)) (i+1)
 have nowN: ∀{es:List AEnt} {es':List MapEntry},ERs φ es es'→(∀e∈es,eqv 20 (Aq E 5 t) k e.key=some false)→ ∀i r,Instr.findNow d k' es' i=some r→r=none:=by
  intro es es' hes
  induction hes with
  |nil=>intro _ i r hr;simp only [Instr.findNow,Option.some.injEq]at hr;exact hr.symm
  |cons he _ ih=>
   intro hn i r hr
   simp only [Instr.findNow]at hr
   split at hr
   ·rename_i hs;have:=Li (hn _ (List.mem_cons_self ..)) hk he.key hs;cases this
   ·exact ih (fun e he=>hn e (List.mem_cons_of_mem _ he)) (i+1) r hr
   ·cases hr
 have askS: ∀{es:List AEnt} {es':List MapEntry},ERs φ es es'→ ∀j e,es[j]?=some e→eqv 20 (Aq E 5 t) k e.key=some true→(∀m x,m<j→es[m]?=some x→eqv 20 (Aq E 5 t) k x.key=some false)→
   ∀i,∃e',es'[j]?=some e'∧(Instr.findAsking t k' es' i).run P w= .ok (some (i+j,e'.val)) w:=by
  intro es es' hes
  induction hes with
  |nil=>intro j e hj;simp at hj
  | @cons a a' l l' he _ ih=>
   intro j e hj ht hm i
   cases j with
   |zero=>
    simp at hj;subst hj
    exact⟨a',rfl,by simp [Instr.findAsking,eq he ht]⟩
   |succ j=>
    obtain⟨e',g1,g2⟩:=ih j e (by simpa using hj) ht (fun m x hlt hx=>hm (m+1) x (by omega) (by simpa using hx)) (i+1)
    refine⟨e',by simpa using g1,?_⟩
    simp only [Instr.findAsking,Sem.run_bind,eq he (hm 0 a (by omega) rfl),Result.andThen_ok,Bool.false_eq_true,if_false]
    rw [g2];congr 3;omega
 have nowS: ∀{es:List AEnt} {es':List MapEntry},ERs φ es es'→ ∀j e,es[j]?=some e→eqv 20 (Aq E 5 t) k e.key=some true→(∀m x,m<j→es[m]?=some x→eqv 20 (Aq E 5 t) k x.key=some false)→
   ∀i r,Instr.findNow d k' es' i=some r→ ∃e',es'[j]?=some e'∧r=some (i+j,e'.val):=by
  intro es es' hes
  induction hes with
  |nil=>intro j e hj;simp at hj
  | @cons a a' l l' he _ ih=>
   intro j e hj ht hm i r hr
   simp only [Instr.findNow]at hr
   cases j with
   |zero=>
    simp at hj;subst hj
    split at hr
    ·simp only [Option.some.injEq]at hr;subst hr;exact⟨a',rfl,rfl⟩
    ·rename_i hs;have:=Li ht hk he.key hs;cases this
    ·cases hr
   |succ j=>
    split at hr
    ·rename_i hs;have:=Li (hm 0 a (by omega) rfl) hk he.key hs;cases this
    ·obtain⟨e',g1,g2⟩:=ih j e (by simpa using hj) ht (fun m x hlt hx=>hm (m+1) x (by omega) (by simpa using hx)) (i+1) r hr
     exact⟨e',by simpa using g1,by rw [g2];congr 2;omega⟩
    ·cases hr
 refine⟨fun hn=>?_,fun j e hj ht hm=>?_⟩
 ·simp only [Instr.findKey,Sem.run_bind,Ac hE hd,Result.andThen_ok]
  split
  ·rename_i r hr;rw [nowN hes hn 0 r hr];rfl
  ·exact askN hes hn 0
 ·simp only [Instr.findKey,Sem.run_bind,Ac hE hd,Result.andThen_ok]
  obtain⟨e',g1,g2⟩:=askS hes j e hj ht hm 0
  refine⟨e',g1,?_⟩
  split
  ·rename_i r hr
   obtain⟨e2,q1,q2⟩:=nowS hes j e hj ht hm 0 r hr
   rw [g1]at q1;cases q1
   rw [q2,Nat.zero_add];rfl
  ·rw [g2,Nat.zero_add]
end
section
variable {P:Program}{E:Env}{w0:Array Obj}{φ: Phi}{h h':H}{w:World}{tm:T AV}{ρ: Operand→Value}{o:Oper}{v:AV}
theorem Og {n:Nat}: ∀{l:List (Nat×Nat×Sh)},Rs n l=true→ ∀p∈l,p.1<n
 | [],_=>by simp
 |a::l,h=>by
  unfold Rs at h
  split at h
  ·rename_i h1
   intro p hp
   rcases List.mem_cons.1 hp with rfl|hp
   ·exact Ah h1
   ·exact Og h p hp
  ·cases h
theorem Kd (hE:EnvOk P E){t:TypeId}{k:IntKind}(hu:und E t=some (.int k))(b:Bool)(n:Nat)(x:Value):(Instr.checkKey b (n+1) t x).run P w= .ok () w:=by
 simp only [Instr.checkKey,Sem.run_bind,Ac hE hu,Result.andThen_ok]
 cases x <;> rfl
theorem Hz (hE:EnvOk P E){d:Nat}(b:Bool)(n:Nat){cs:Array Value}: ∀(fs:List Field) (l:List (Nat×Nat×Sh)),fs.mapM (F7 E (Aq E d))=some l→fs.all (uo E)=true→(∀p∈l,p.1<cs.size)→
  (forIn fs PUnit.unit (fun(f:Field) (_:PUnit)=>(do
   if f.name ≠ "_" then Instr.checkKey b (n + 1) f.type (← part f.type cs f.offset)
   pure (ForInStep.yield PUnit.unit):Sem (ForInStep PUnit))):Sem PUnit).run P w= .ok PUnit.unit w
 | [],l,_,_,_=>by simp
 |f::fs,l,hl,ha,ho=>by
  simp only [List.mapM_cons,Option.bind_eq_bind,Option.bind_eq_some_iff]at hl
  obtain⟨p,h1,r,h2,h3⟩:=hl
  simp only [Option.pure_def,Option.some.injEq]at h3;subst h3
  simp only [List.all_cons,Bool.and_eq_true]at ha
  have ih:=Hz hE b n fs r h2 ha.2 (fun p hp=>ho p (List.mem_cons_of_mem _ hp))
  have hi:=ha.1
  unfold uo at hi
  split at hi
  ·cases hi
  ·rename_i hname
   split at hi
   ·rename_i k hu
    unfold F7 at h1
    rw [hname]at h1
    simp only at h1
    split at h1
    ·simp only [Option.some.injEq]at h1;subst h1
     have hlt:=ho _ (List.mem_cons_self ..)
     simp only at hlt
     have hag:H6 E f.type=some false:=by unfold H6;rw [hu]
     have hpart:(part f.type cs f.offset).run P w= .ok cs[f.offset] w:=by
      simp [part,Dt hE hag,Array.getElem?_eq_getElem hlt]
     have hne : f.name ≠ "_" := by intro e; rw [e] at hname; simp at hname
     simp only [List.forIn_cons,Sem.run_bind,if_pos hne,hpart,Result.andThen_ok,Kd hE hu,Sem.run_pure,ih]
    ·cases h1
   ·cases hi
theorem Lj (hE:EnvOk P E){t:TypeId}{sh:Sh}(hs:F8 E t=some sh):sh=Aq E 5 t:=by
 unfold F8 at hs
 split at hs
 ·simp only [Option.some.injEq]at hs;exact hs.symm
 ·simp only [Option.some.injEq]at hs;exact hs.symm
 ·simp only [Option.some.injEq]at hs;exact hs.symm
 ·split at hs
  ·simp only [Option.some.injEq]at hs;exact hs.symm
  ·cases hs
 ·cases hs
theorem Vh (n:Nat)(hE:EnvOk P E){t:TypeId}{sh:Sh}{k:AV}{k':Value}(hs:F8 E t=some sh)(hk:L9 sh k=true)(hv:VR φ k k')(b:Bool):
  (Instr.checkKey b (n+2) t k').run P w= .ok () w∧ ∃d,und E t=some d:=by
 have hsh:=Lj hE hs
 unfold F8 at hs
 split at hs
 ·rename_i hu
  exact⟨by simp only [Instr.checkKey,Sem.run_bind,Ac hE hu,Result.andThen_ok];cases k' <;> rfl,_,hu⟩
 ·rename_i j hu
  exact⟨Kd hE hu b (n+1) k',_,hu⟩
 ·rename_i hu
  exact⟨by simp only [Instr.checkKey,Sem.run_bind,Ac hE hu,Result.andThen_ok];cases k' <;> rfl,_,hu⟩
 ·rename_i fs hu
  refine⟨?_,_,hu⟩
  split at hs
  ·rename_i hall
   unfold Aq at hsh
   rw [hu]at hsh
   simp only at hsh
   split at hsh
   ·subst hsh;simp [L9]at hk
   ·rename_i hmem
    cases hm:fs.toList.mapM (F7 E (Aq E 4))with
    |none=>rw [hm]at hsh;subst hsh;simp [L9]at hk
    |some l=>
     rw [hm]at hsh;simp only at hsh;subst hsh
     unfold L9 at hk
     simp only at hk
     split at hk
     ·rename_i xs
      obtain⟨cs,rfl,hcs⟩:=hv.agg_inv
      have hlen:=hcs.length
      simp only [Array.length_toList]at hlen
      have hf:=Hz (P:=P) (w:=w) hE b n (cs:=cs) fs.toList l hm hall (fun p hp=>by rw [←hlen];exact Og hk p hp)
      rw [Instr.checkKey]
      simp only [Sem.run_bind,Ac hE hu,Result.andThen_ok]
      rw [←Array.forIn_toList]
      exact(congrArg (fun r:Result PUnit=>r.andThen fun a w'=>Sem.run P (pure ()) w') hf).trans rfl
     ·cases hk
  ·cases hs
 ·cases hs
theorem Oh (hE:EnvOk P E){t:TypeId}{sh:Sh}{k:AV}{k':Value}(hs:F8 E t=some sh)(hk:L9 sh k=true)(hv:VR φ k k')(b:Bool):
  (Instr.checkKey b 10000 t k').run P w= .ok () w∧ ∃d,und E t=some d:=Vh 9998 hE hs hk hv b
theorem Tk: ∀{l m:List AV} {l' m':List Value},K9 l m=true→VRs φ l l'→VRs φ m m'→l'=m'∧(∀n,(m'.zip l').all (fun x=>Instr.sameBits n x.1 x.2)=true)
 | [],[],_,_,_,h1,h2=>by cases h1;cases h2;simp
 | [],_::_,_,_,h,_,_=>by simp [K9]at h
 |_::_,[],_,_,h,_,_=>by simp [K9]at h
 |a::l,b::m,_,_,h,h1,h2=>by
  cases h1 with
  |cons ha hl=>
   cases h2 with
   |cons hb hm=>
    simp only [K9]at h
    split at h
    ·rename_i hi
     obtain⟨e1,e2⟩:=Tk h hl hm
     cases a with
     |int k x=>cases b with
      |int j y=>
       simp only [Hw]at hi
       split at hi
       ·rename_i hk
        have hk:=A6 hk
        subst hk
        simp only [Option.some.injEq]at hi
        rw [I5]at hi
        have:=eq_of_beq hi
        subst this
        rw [ha.int_inv,hb.int_inv,e1]
        refine⟨rfl,fun n=>?_⟩
        have:=e2 n
        rw [e1]at this
        simp only [List.zip_cons_cons,List.all_cons,Bool.and_eq_true]
        exact⟨by cases n <;> simp [Instr.sameBits],this⟩
       ·cases hi
      |_=>simp [Hw]at hi
     |_=>simp [Hw]at hi
    ·cases h
theorem oy {k e:AV}{k' e':Value}(h:E2 k e=true)(hk:VR φ k k')(he:VR φ e e'):Instr.sameBits 10000 e' k'=true:=by
 cases k with
 |int j a=>cases e with
  |int i b=>
   simp only [E2]at h
   split at h
   ·rename_i hj
    have:=A6 hj;subst this
    rw [I5]at h
    have:=eq_of_beq h;subst this
    rw [hk.int_inv,he.int_inv];simp [Instr.sameBits]
   ·cases h
  |_=>simp [E2]at h
 |bool a=>cases e with
  |bool b=>simp only [E2]at h;rw [hk.bool_inv,he.bool_inv];cases a <;> cases b <;> simp_all [bEq,Instr.sameBits]
  |_=>simp [E2]at h
 |str a=>cases e with
  |str b=>
   simp only [E2]at h
   obtain⟨x,rfl,hx⟩:=hk.str_inv
   obtain⟨y,rfl,hy⟩:=he.str_inv
   have:K8 b a=true:=by rw [Kb]at h ⊢;simp at h ⊢;exact h.symm
   show(y == x)=true
   rw [Qk hy hx];exact this
  |_=>simp [E2]at h
 |agg l=>cases e with
  |agg m=>
   simp only [E2]at h
   obtain⟨x,rfl,hx⟩:=hk.agg_inv
   obtain⟨y,rfl,hy⟩:=he.agg_inv
   obtain⟨e1,e2⟩:=Tk h hx hy
   have hxy:x=y:=Array.ext' e1
   subst hxy
   show(x.size == x.size && (x.toList.zip x.toList).all fun(a,b)=>Instr.sameBits 9999 a b)=true
   rw [beq_self_eq_true,Bool.true_and]
   exact e2 9999
  |_=>simp [E2]at h
 |_=>simp [E2]at h
theorem Qm {k e:AV}{k' e':Value}(h:E2 k e=true)(hk:VR φ k k')(he:VR φ e e'):(Instr.keyThatStays e' k').run P w= .ok k' w:=by
 simp [Instr.keyThatStays,oy h hk he]
end
section
variable {P:Program}{E:Env}{w0:Array Obj}{φ: Phi}{h h':H}{w:World}{tm:T AV}{ρ: Operand→Value}{o:Oper}{v:AV}
theorem F9 (hE:EnvOk P E){t:TypeId}{sh:Sh}{k:AV}{k':Value}(hs:F8 E t=some sh)(hv:VR φ k k'){es:List AEnt}{es':Array MapEntry}(hes:ERs φ es es'.toList){r:Option AEnt}(hq:H5 sh k es=some r):
  (∀b,(Instr.checkKey b 10000 t k').run P w= .ok () w)∧
  (
     match r with
     |none=>(Instr.findKey t k' es'.toList).run P w= .ok none w
     |some e=> ∃j e',es[j]?=some e∧es'[j]?=some e'∧ER φ e e'∧(Instr.findKey t k' es'.toList).run P w= .ok (some (j,e'.val)) w∧
    ∀v es2,Rt (eqv 20 sh) k v es=some es2→es2=es.modify j (fun e=>⟨k,v,e.born⟩)∧E2 k e.key=true):=by
 unfold H5 at hq
 split at hq
 ·rename_i hk
  have hc:=fun b=>(Oh (P:=P) (w:=w) hE hs hk hv b)
  obtain⟨d,hd⟩:=(hc true).2
  refine⟨fun b=>(hc b).1,?_⟩
  have hsh:=Lj hE hs
  subst hsh
  obtain⟨f1,f2⟩:=Ql (w:=w) hE hd hv hes
  cases r with
  |none=>exact f1 (Od hq)
  |some e=>
   obtain⟨j,g1,g2,g3,g4⟩:=Oe hq
   obtain⟨e',q1,q2⟩:=f2 j e g1 g2 g3
   obtain⟨e2,q3,q4⟩:=hes.get g1
   rw [q1]at q3;cases q3
   exact⟨j,e',g1,by simpa using q1,q4,q2,g4⟩
 ·cases hq
variable (hr:HR E w0 φ h w.heap)(hρ: RhoR φ tm ρ)
include hr hρ
omit hr hρ in
theorem Bw {r:Nat}{es:Array MapEntry}{k:Nat}(hb:w.heap[r]?=some (.map es k)):(getObj r).run P w= .ok (.map es k) w:=by simp [getObj,Sem.run,hb]
def Fu (w:World)(r:Nat)(ob:Obj):World:= {w with heap:=w.heap.setIfInBounds r ob}
omit hr hρ in
theorem Dl {r:Nat}{es:Array MapEntry}{k:Nat}(ob:Obj)(hb:w.heap[r]?=some (.map es k)):(setObj r ob).run P w= .ok () (Fu w r ob):=by simp [setObj,Sem.run,hb,Fu]
theorem Vi (hE:EnvOk P E){t kt e:TypeId}{sh:Sh}{z:AV}{m k:Operand}{ok:Bool}(hu:und E t=some (.map kt e))(hs:F8 E kt=some sh)(hz:Mb E e=some z)(ho:o.op= .lookup t m k ok)
  (hx:exec (.lookup sh z (opd m) (opd k) ok) h tm= .val v h'):Sim1 E w0 φ w h ((execOp ρ o).run P w) v h':=by
 simp only [exec]at hx
 obtain⟨zv,z1,z2⟩:=N2 hE hz w
 split at hx
 ·cases hx
 ·rename_i es hes
  have key: ∃es':Array MapEntry,ERs φ es es'.toList∧((ρ m= .map none∧es'= #[])∨ ∃r c,ρ m= .map (some r)∧w.heap[r]?=some (.map es' c)):=by
   split at hes
   ·rename_i hb
    simp only [Option.some.injEq]at hes;subst hes
    exact⟨#[],.nil,.inl ⟨VR.nilm_inv (hb ▸ hρ m),rfl⟩⟩
   ·rename_i r hb
    obtain⟨l,hφ,ea⟩:=VR.map_inv (hb ▸ hρ m)
    split at hes
    ·rename_i es1 c hg
     simp only [Option.some.injEq]at hes;subst hes
     obtain⟨es',h1,h2⟩:=HR.map_at hr hφ hg
     exact⟨es',h2,.inr ⟨_,_,ea,h1⟩⟩
    ·cases hes
   ·cases hes
  obtain⟨es',h1,h2⟩:=key
  have run: ∀q u b,(∀b,(Instr.checkKey b 10000 kt (ρ k)).run P w= .ok () w)→(Instr.findKey kt (ρ k) es'.toList).run P w= .ok q w→
    ((∃i,q=some (i,u)∧b=true)∨(q=none∧u=zv∧b=false))→
    (execOp ρ o).run P w= .ok (.value (if ok=true then .tuple #[u,.bool b]else u)) w:=by
   intro q u b hc hf hq
   rcases h2 with⟨em,rfl⟩|⟨r,c,em,hb⟩
   ·simp only [execOp,ho,Instr.lookup,Sem.run_bind,Ac hE hu,Result.andThen_ok,em,Sem.run_pure,hc,hf]
    rcases hq with⟨i,rfl,rfl⟩|⟨rfl,rfl,rfl⟩
    ·cases ok <;> simp
    ·cases ok <;> simp [z1]
   ·simp only [execOp,ho,Instr.lookup,Sem.run_bind,Ac hE hu,Result.andThen_ok,em,Sem.run_pure,Bw hb,hc,hf]
    rcases hq with⟨i,rfl,rfl⟩|⟨rfl,rfl,rfl⟩
    ·cases ok <;> simp
    ·cases ok <;> simp [z1]
  split at hx
  ·rename_i e1 hq
   obtain⟨hc,j,e',g1,g2,g3,g4,g5⟩:=F9 (P:=P) (w:=w) hE hs (hρ k) h1 hq
   simp only [Ev.R.val.injEq]at hx;obtain⟨rfl,rfl⟩:=hx
   refine .same hr (run _ e'.val true hc g4 (.inl ⟨j,rfl,rfl⟩)) ?_
   cases ok with
   |true=>exact .tup (.cons g3.val (.cons (.bool _) .nil))
   |false=>exact g3.val
  ·rename_i hq
   obtain⟨hc,hf⟩:=F9 (P:=P) (w:=w) hE hs (hρ k) h1 hq
   simp only [Ev.R.val.injEq]at hx;obtain⟨rfl,rfl⟩:=hx
   refine .same hr (run _ zv false hc hf (.inr ⟨rfl,rfl,rfl⟩)) ?_
   cases ok with
   |true=>exact .tup (.cons (z2 φ) (.cons (.bool _) .nil))
   |false=>exact z2 φ
  ·cases hx
theorem HR.mapOver {r:Nat}{l:Loc}{es es2:List AEnt}{es' es2':Array MapEntry}{c c':Nat}(hφ: φ r=some l)(hg:H.get h r=some (.map es c))(h2:ERs φ es2 es2'.toList):
  HR E w0 φ (H.set h r (.map es2 c')) (w.heap.setIfInBounds l.cb (.map es2' c')):=
 hr.over hφ hg rfl (.map h2) rfl
theorem eu (hE:EnvOk P E){t kt e:TypeId}{sh:Sh}{m k x:Operand}(hu:und E t=some (.map kt e))(hs:F8 E kt=some sh)(ho:o.op= .mapUpdate t m k x)
  (hx:exec (.mupd sh (opd m) (opd k) (opd x)) h tm= .val v h'):Sim1 E w0 φ w h ((execOp ρ o).run P w) v h':=by
 simp only [exec]at hx
 split at hx
 ·rename_i r hb
  obtain⟨l,hφ,ea⟩:=VR.map_inv (hb ▸ hρ m)
  split at hx
  ·rename_i es c hg
   obtain⟨es',h1,h2⟩:=HR.map_at hr hφ hg
   split at hx
   ·rename_i e1 hq
    obtain⟨hc,j,e',g1,g2,g3,g4,g5⟩:=F9 (P:=P) (w:=w) hE hs (hρ k) h2 hq
    split at hx
    ·rename_i es2 hu2
     simp only [Ev.R.val.injEq]at hx;obtain⟨rfl,rfl⟩:=hx
     obtain⟨q1,q2⟩:=g5 _ _ hu2
     have hst:=Qm (P:=P) (w:=w) q2 (hρ k) g3.key
     have hnew:ERs φ es2 (es'.modify j fun e=> {e with key:=ρ k,val:=ρ x}).toList:=by
      rw [q1,Array.toList_modify]
      exact h2.modify fun a a' _ _ h=>⟨hρ k,hρ x,h.born⟩
     refine⟨φ,undef,Fu w l.cb (.map _ _),.refl _ _,.inr ⟨?_,rfl⟩,.unk _,HR.mapOver hr hρ (es':=es') hφ hg hnew,⟨rfl,rfl,rfl⟩⟩
     ·simp only [execOp,ho,Instr.mapUpdate,Sem.run_bind,Ac hE hu,Result.andThen_ok,ea,Bw h1,hc,g4,g2,Option.map_some,Option.getD_some,hst,Dl _ h1,Sem.run_pure]
    ·cases hx
   ·rename_i hq
    obtain⟨hc,hf⟩:=F9 (P:=P) (w:=w) hE hs (hρ k) h2 hq
    simp only [Ev.R.val.injEq]at hx;obtain⟨rfl,rfl⟩:=hx
    have hnew:ERs φ (List.append es [⟨ev tm (opd k),ev tm (opd x),c⟩]) (es'.push {key:=ρ k,val:=ρ x,born:=c}).toList:=by
     rw [Array.toList_push]
     exact h2.append (.cons ⟨hρ k,hρ x,rfl⟩ .nil)
    refine⟨φ,undef,Fu w l.cb (.map _ _),.refl _ _,.inr ⟨?_,rfl⟩,.unk _,HR.mapOver hr hρ (es':=es') hφ hg hnew,⟨rfl,rfl,rfl⟩⟩
    ·simp only [execOp,ho,Instr.mapUpdate,Sem.run_bind,Ac hE hu,Result.andThen_ok,ea,Bw h1,hc,hf,Dl _ h1,Sem.run_pure]
   ·cases hx
  ·cases hx
 ·cases hx
theorem ez (hE:EnvOk P E){t kt e:TypeId}{sh:Sh}{z:AV}{m k:Operand}(hu:und E t=some (.map kt e))(hs:F8 E kt=some sh)(hz:Mb E e=some z)(ho:o.op= .mapEntry t m k)
  (hx:exec (.ment sh z (opd m) (opd k)) h tm= .val v h'):Sim1 E w0 φ w h ((execOp ρ o).run P w) v h':=by
 simp only [exec]at hx
 obtain⟨zv,z1,z2⟩:=N2 hE hz w
 split at hx
 ·rename_i r hb
  obtain⟨l,hφ,ea⟩:=VR.map_inv (hb ▸ hρ m)
  split at hx
  ·rename_i es c hg
   obtain⟨es',h1,h2⟩:=HR.map_at hr hφ hg
   split at hx
   ·rename_i e1 hq
    obtain⟨hc,j,e',g1,g2,g3,g4,g5⟩:=F9 (P:=P) (w:=w) hE hs (hρ k) h2 hq
    split at hx
    ·rename_i es2 hu2
     simp only [Ev.R.val.injEq]at hx;obtain⟨rfl,rfl⟩:=hx
     obtain⟨q1,q2⟩:=g5 _ _ hu2
     have hst:=Qm (P:=P) (w:=w) q2 (hρ k) g3.key
     have hnew:ERs φ es2 (es'.modify j fun e=> {e with key:=ρ k}).toList:=by
      rw [q1,Array.toList_modify]
      refine h2.modify fun a a' ha ha' h=>⟨hρ k,?_,h.born⟩
      rw [g1]at ha;cases ha
      exact h.val
     refine⟨φ,.tuple #[e'.val,goInt e'.born],Fu w l.cb (.map _ _),.refl _ _,.inl ?_,.tup (.cons g3.val (.cons (by rw [g3.born];exact .int _ _) .nil)),HR.mapOver hr hρ (es':=es') hφ hg hnew,⟨rfl,rfl,rfl⟩⟩
     ·simp only [execOp,ho,Instr.mapEntry,Sem.run_bind,Ac hE hu,Result.andThen_ok,ea,Bw h1,hc,g4,g2,Option.map_some,Option.getD_some,hst,Dl _ h1,Sem.run_pure]
    ·cases hx
   ·rename_i hq
    obtain⟨hc,hf⟩:=F9 (P:=P) (w:=w) hE hs (hρ k) h2 hq
    simp only [Ev.R.val.injEq]at hx;obtain⟨rfl,rfl⟩:=hx
    have hnew:ERs φ (List.append es [⟨ev tm (opd k),z,c⟩]) (es'.push {key:=ρ k,val:=zv,born:=c}).toList:=by
     rw [Array.toList_push]
     exact h2.append (.cons ⟨hρ k,z2 φ,rfl⟩ .nil)
    refine⟨φ,.tuple #[zv,goInt c],Fu w l.cb (.map _ _),.refl _ _,.inl ?_,.tup (.cons (z2 φ) (.cons (.int _ _) .nil)),HR.mapOver hr hρ (es':=es') hφ hg hnew,⟨rfl,rfl,rfl⟩⟩
    ·simp only [execOp,ho,Instr.mapEntry,Sem.run_bind,Ac hE hu,Result.andThen_ok,ea,Bw h1,hc,hf,z1,Dl _ h1,Sem.run_pure]
   ·cases hx
  ·cases hx
 ·cases hx
omit hr hρ in
theorem Qn {b:Nat}{v:AV}: ∀{es es2:List AEnt},G9 b v es=some es2→ ∃j e,es[j]?=some e∧e.born=b∧(∀m x,m<j→es[m]?=some x→x.born≠b)∧es2=es.modify j (fun e=>⟨e.key,v,e.born⟩)
 | [],_,h=>by simp [G9]at h
 |a::es,es2,h=>by
  simp only [G9]at h
  split at h
  ·rename_i h1
   simp only [Option.some.injEq]at h;subst h
   exact⟨0,a,rfl,Aj h1,fun m x hm=>absurd hm (by omega),by simp⟩
  ·rename_i h1
   split at h
   ·rename_i r hr
    simp only [Option.some.injEq]at h;subst h
    obtain⟨j,e,g1,g2,g3,rfl⟩:=Qn hr
    refine⟨j+1,e,by simpa using g1,g2,fun m x hm hx=>?_,by simp⟩
    cases m with
    |zero=>simp at hx;subst hx;exact Dm h1
    |succ m=>exact g3 m x (by omega) (by simpa using hx)
   ·cases h
theorem Vj {t:TypeId}{m s x:Operand}(ho:o.op= .entryStore t m s x)(hx:exec (.mstore (opd m) (opd s) (opd x)) h tm= .val v h'):Sim1 E w0 φ w h ((execOp ρ o).run P w) v h':=by
 simp only [exec]at hx
 split at hx
 ·rename_i r hb
  obtain⟨l,hφ,ea⟩:=VR.map_inv (hb ▸ hρ m)
  split at hx
  ·rename_i kk sn hsn
   have es1:=VR.int_inv (hsn ▸ hρ s)
   split at hx
   ·rename_i es c hg
    obtain⟨es',h1,h2⟩:=HR.map_at hr hφ hg
    split at hx
    ·rename_i es2 hu2
     simp only [Ev.R.val.injEq]at hx;obtain⟨rfl,rfl⟩:=hx
     obtain⟨j,e,g1,g2,g3,g4⟩:=Qn hu2
     have hfind:es'.findIdx? (fun e=>(e.born:Int) == (sn:Int))=some j:=by
      rw [Array.findIdx?_eq_some_iff_getElem]
      obtain⟨e',q1,q2⟩:=h2.get g1
      rw [Array.getElem?_toList]at q1
      obtain⟨hlt,q1⟩:=Array.getElem?_eq_some_iff.1 q1
      refine⟨hlt,by rw [q1,←q2.born,g2];simp,fun m hm=>?_⟩
      have hml:m<es.length:=by have:=(List.getElem?_eq_some_iff.1 g1).1;omega
      obtain⟨x',p1,p2⟩:=h2.get (List.getElem?_eq_getElem hml)
      rw [Array.getElem?_toList]at p1
      obtain⟨hlt',p1⟩:=Array.getElem?_eq_some_iff.1 p1
      have:=g3 m _ hm (List.getElem?_eq_getElem hml)
      rw [p1,←p2.born]
      simp;omega
     have hnew:ERs φ es2 (es'.modify j fun e=> {e with val:=ρ x}).toList:=by
      rw [g4,Array.toList_modify]
      exact h2.modify fun a a' _ _ h=>⟨h.key,hρ x,h.born⟩
     refine⟨φ,undef,Fu w l.cb (.map _ _),.refl _ _,.inr ⟨?_,rfl⟩,.unk _,HR.mapOver hr hρ (es':=es') hφ hg hnew,⟨rfl,rfl,rfl⟩⟩
     simp only [execOp,ho,Instr.entryStore,Sem.run_bind,Result.andThen_ok,ea,Bw h1,es1,asInt,asIntOf,Sem.run_pure]
     have hfind':es'.findIdx? (fun e=>(e.born:Int) == Int.ofNat sn)=some j:=hfind
     simp only [hfind',Dl _ h1,Result.andThen_ok]
    ·cases hx
   ·cases hx
  ·cases hx
 ·cases hx
theorem Vk (hE:EnvOk P E){c:Call}{m k:Operand}{t kt e:TypeId}{r:List TypeId}{sh:Sh}(ho:o.op= .call c)(hc:c.callee= .builtin .delete)(ha:c.args.toList= [m,k])(ht:c.argTypes.toList=t::r)
  (hu:und E t=some (.map kt e)) (hs:F8 E kt=some sh) (hx:exec (.delete sh (opd m) (opd k)) h tm= .val v h'):Sim1 E w0 φ w h ((execOp ρ o).run P w) v h':=by
 simp only [exec]at hx
 split at hx
 ·rename_i r hb
  obtain⟨l,hφ,ea⟩:=VR.map_inv (hb ▸ hρ m)
  split at hx
  ·rename_i es cl hg
   obtain⟨es',h1,h2⟩:=HR.map_at hr hφ hg
   split at hx
   ·rename_i es2 hko hd
    simp only [Ev.R.val.injEq]at hx;obtain⟨rfl,rfl⟩:=hx
    rcases Of hd with⟨g1,rfl⟩|⟨j,e0,g0,g1,g2,g3,rfl⟩
    ·have hq:H5 sh (ev tm (opd k)) es2=some none:=by unfold H5;rw [hko];exact g1
     obtain⟨hck,hf⟩:=F9 (P:=P) (w:=w) hE hs (hρ k) h2 hq
     refine⟨φ,.tuple #[],Fu w l.cb (.map _ _),.refl _ _,.inl ?_,.tup .nil,HR.mapOver hr hρ (es':=es') hφ hg h2,⟨rfl,rfl,rfl⟩⟩
     rw [Ay ho hc,Mh ha,ea]
     simp [builtin,Builtin.delete_,Fs ht,Ac hE hu,Bw h1,hck,hf,Dl _ h1]
    ·have hq:H5 sh (ev tm (opd k)) es=some (some e0):=by unfold H5;rw [hko];exact g0
     obtain⟨hck,j',e',q1,q2,q3,q4,q5⟩:=F9 (P:=P) (w:=w) hE hs (hρ k) h2 hq
     have hsh:=Lj hE hs
     subst hsh
     obtain⟨d,hdd⟩:=(Oh (P:=P) (w:=w) hE hs hko (hρ k) true).2
     obtain⟨e2,p1,p2⟩:=(Ql (w:=w) hE hdd (hρ k) h2).2 j e0 g1 g2 g3
     have hjj:j'=j:=by rw [q4]at p2;simp only [Result.ok.injEq,Option.some.injEq,Prod.mk.injEq]at p2;exact p2.1.1
     subst hjj
     refine⟨φ,.tuple #[],Fu w l.cb (.map _ _),.refl _ _,.inl ?_,.tup .nil,HR.mapOver hr hρ (es':=es') (es2':=es'.eraseIdxIfInBounds j') hφ hg ?_,⟨rfl,rfl,rfl⟩⟩
     ·rw [Ay ho hc,Mh ha,ea]
      simp [builtin,Builtin.delete_,Fs ht,Ac hE hu,Bw h1,hck,q4,Dl _ h1]
     ·rw [Array.toList_eraseIdxIfInBounds];exact h2.erase j'
   ·cases hx
  ·cases hx
 ·cases hx
end
end Go.Ev
