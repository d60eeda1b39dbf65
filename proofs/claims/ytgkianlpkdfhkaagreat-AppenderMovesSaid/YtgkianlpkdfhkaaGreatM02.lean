/- Part of the proof. -/
import Derived.Test.YtgkianlpkdfhkaaGreatM01
import Derived.Laws.StructEq
import Derived.Laws.BytesString
set_option linter.unusedVariables false
set_option linter.unusedSimpArgs false
set_option linter.unusedSectionVars false
namespace Go.Ev
section
variable {P:Program}{E:Env}{w0:Array Obj}{φ: Phi}{h h':H}{w:World}{tm:T AV}{ρ: Operand→Value}{o:Oper}{v:AV}
variable (hr:HR E w0 φ h w.heap)(hρ: RhoR φ tm ρ)
include hr hρ
omit hr hρ in
theorem T2 (z:List AV): ∀(n i:Nat),i<n*z.length→(rl z n)[i]?=z[i % z.length]?
 |0,i,hi=>by simp at hi
 |n+1,i,hi=>by
  show(z++rl z n)[i]?=_
  by_cases hlt:i<z.length
  ·rw [List.getElem?_append_left hlt,Nat.mod_eq_of_lt hlt]
  ·have hge:z.length≤i:=by omega
   rw [List.getElem?_append_right hge,T2 z n (i - z.length) (by rw [Nat.succ_mul]at hi;omega),←Nat.mod_eq_sub_mod hge]
omit hr hρ in
theorem ac {z:List AV}{c:Array Value}(hz:VRs φ z c.toList)(n:Nat)(k:Nat)(hk:k=n*c.size):VRs φ (rl z n) ((Array.range k).map fun i=>c[i % c.size]!).toList:=by
 have hl:=hz.length
 simp only [Array.length_toList]at hl
 have hlen:(rl z n).length=n*z.length:=by
  clear hk
  induction n with
  |zero=>simp [rl]
  |succ n ih=>show(z++rl z n).length=_;simp [ih,Nat.succ_mul];omega
 refine VRs.of_get (by rw [hlen];simp [hk,hl]) fun i v hi=>?_
 have hlt:i<n*z.length:=by rw [←hlen];exact(List.getElem?_eq_some_iff.1 hi).1
 rw [T2 z n i hlt]at hi
 obtain⟨v',h1,h2⟩:=hz.get hi
 refine⟨v',?_,h2⟩
 have hm:i % c.size<c.size:=by
  have:=(List.getElem?_eq_some_iff.1 h1).1
  rw [hl]at this;simpa using this
 have hlt':i<k:=by rw [hk,←hl];exact hlt
 simp only [Array.getElem?_toList,Array.getElem?_map,Array.getElem?_range,hlt',if_true,Option.map_some]
 rw [hl,Array.getElem?_toList]at h1
 rw [getElem!_def,h1]
theorem T3 (hE:EnvOk P E){t e:TypeId}{n s:Nat}{parts:Array (Nat×Operand)}{z:List AV}(hu:und E t=some (.slice e))(hs:Bv E e=some s)(hz:Ed E e=some z)
  (hb:n*szD E e≤16777216) (ho:o.op= .buildSlice t n parts) (hx:exec (.bslice n (rl z n) (parts.toList.map fun p=>(p.1*s,s,opd p.2))) h tm= .val v h'):
  Sim1 E w0 φ w h ((execOp ρ o).run P w) v h':=by
 simp only [exec]at hx
 split at hx
 ·rename_i l hl
  simp only [R.val.injEq]at hx;obtain⟨rfl,rfl⟩:=hx
  obtain⟨u,i,h1,h2,h3,h4,h5⟩:=Db hE hz w
  obtain⟨h6,h7⟩:=Bi hE hs w
  have hi:i.size=s:=by
   unfold Bv at hs;rw [h1]at hs;simp only at hs
   split at hs
   ·simp at hs
   ·simpa using hs
  have hsz:szD E e=s:=by unfold szD;rw [h1];exact hi
  obtain⟨cs',h8,h9⟩:=Hv (hρ:= hρ) (fun(i:Nat)=>some (i*s,s)) parts.toList _ _ ((Array.range (n*s)).map fun i=>u.cells[i % u.cells.size]!) l (by simp)
   (ac (h5 φ) n (n*s) (by rw [h3,hi])) hl
  obtain⟨hle,hr'⟩:=hr.newCells e h9
  have hpt:(parts.map fun(x:Nat×Operand)=>(x.1,ρ x.2)).toList=parts.toList.map fun p=>(p.1,ρ p.2):=by simp
  have hlim: ¬(n*s>2 ^ 24):=by rw [hsz]at hb;omega
  refine⟨_,.slice (some ⟨w.heap.size,0,none⟩) n n,w.alloc (.cells cs' e),⟨hle,fun _ hb=>Phi.upd_ne _ _ hb⟩,.inl ?_,?_,hr',⟨rfl,rfl,rfl⟩⟩
  ·simp only [execOp,ho,Instr.buildSlice,Sem.run_bind,Ac hE hu,Result.andThen_ok,h6,hlim,if_false,Sem.run_pure]
   by_cases h0:n*s=0
   ·have hn:n=0:=by rcases Nat.mul_eq_zero.1 h0 with h|h;exact h;exact absurd h h7
    rw [if_pos h0]
    simp only [Sem.run_bind,Sem.run_pure,Result.andThen_ok]
    rw [h0]at h8 ⊢
    rw [hpt]
    have:((Array.range 0).map fun i=>(#[]:Array Value)[i % (#[]:Array Value).size]!)=((Array.range 0).map fun i=>u.cells[i % u.cells.size]!):=by simp
    rw [this,h8]
    simp [newRow]
   ·rw [if_neg h0]
    simp only [Sem.run_bind,h2,Result.andThen_ok,Sem.run_pure]
    rw [hpt,h8]
    simp [newRow]
  ·have hb':n<Aa:=by
    have:n≤n*s:=Nat.le_mul_of_pos_right n (Nat.pos_of_ne_zero h7)
    unfold Aa;omega
   have:=VR.slcX (b:=h.n) (o:=0) (n:=n) (c:=n) (off:=0) (Phi.upd_same φ h.n ⟨w.heap.size,0,cs'.size⟩) hb' (Nat.le_refl _) (fun _=>rfl)
   simpa using this
 ·cases hx
theorem Xn (hE:EnvOk P E){t:TypeId}{a:Operand}(ha:Ht E t=some false)(ho:o.op= .load t a)(hx:exec (.load1 (opd a)) h tm= .val v h'):Sim1 E w0 φ w h ((execOp ρ o).run P w) v h':=by
 simp only [exec]at hx
 split at hx
 ·rename_i b k hb
  obtain⟨l,hφ,ea⟩:=VR.ptr_inv (hb ▸ hρ a)
  split at hx
  ·rename_i ro n c hc
   split at hx
   ·rename_i hk
    have hk:k+1≤n:=Ag hk
    cases hg:T.get c k with
    |none=>rw [hg]at hx;simp [vo]at hx
    |some u=>
     rw [hg]at hx;simp only [vo,R.val.injEq]at hx;obtain⟨rfl,rfl⟩:=hx
     obtain⟨cs,e,_,h1,h2,h3,h4⟩:=hr.cellsOf_blk hφ hc
     obtain⟨v',h5,h6⟩:=h4 k _ (by omega) hg
     refine .same (v':=v') hr ?_ h6
     simp [execOp,ho,Instr.loadAt,Instr.sureAddr,loadVar,ea,Ds hE ha,Ir h1,h5]
   ·cases hx
  ·cases hx
 ·cases hx
theorem Xo (hE:EnvOk P E){t:TypeId}{i:TypeInfo}{a:Operand}(hi:Ev.inf E t=some i)(ha:Ht E t=some true)(ho:o.op= .load t a)
  (hx:exec (.loadN i.size (opd a)) h tm= .val v h'):Sim1 E w0 φ w h ((execOp ρ o).run P w) v h':=by
 simp only [exec]at hx
 split at hx
 ·rename_i b k hb
  obtain⟨l,hφ,ea⟩:=VR.ptr_inv (hb ▸ hρ a)
  split at hx
  ·rename_i xs hc
   simp only [R.val.injEq]at hx;obtain⟨rfl,rfl⟩:=hx
   obtain⟨vs,h1,h2,h3⟩:=hr.cellsAt hφ hc (l.base+k) (fun _=>rfl)
   refine .same (v':= .agg vs.toArray) hr ?_ (.agg (by simpa using h2))
   have:=D6 P h3
   rw [h1]at this
   simp [execOp,ho,Instr.loadAt,Instr.sureAddr,loadVar,ea,Ds hE ha,A3 hE hi,this]
  ·cases hx
 ·cases hx
theorem Xp (hE:EnvOk P E){t:TypeId}{i:TypeInfo}{a x:Operand}(hi:Ev.inf E t=some i)(ho:o.op= .store t a x)
  (hx:exec (.store i.size (opd a) (opd x)) h tm= .val v h'):Sim1 E w0 φ w h ((execOp ρ o).run P w) v h':=by
 simp only [exec]at hx
 split at hx
 ·rename_i b k hb
  obtain⟨l,hφ,ea⟩:=VR.ptr_inv (hb ▸ hρ a)
  split at hx
  ·rename_i xs hc
   split at hx
   ·rename_i hlen
    have hlen:xs.length=i.size:=Aj hlen
    split at hx
    ·rename_i h2 hp
     simp only [R.val.injEq]at hx;obtain⟨rfl,rfl⟩:=hx
     have hv:=Gz (hρ x) hc
     have hl:=hv.length
     simp only [Array.length_toList]at hl
     obtain⟨w',r1,r2,r3⟩:=hr.putBlk P hφ hp hv (l.base+k) (fun _=>rfl)
     refine⟨φ,undef,w',.refl _ _,.inr ⟨?_,rfl⟩,.unk _,r2,r3⟩
     have hne: ¬((ρ x).cells.size≠i.size):=by omega
     simp [execOp,ho,Instr.storeAt,Instr.sureAddr,storeVar,ea,A3 hE hi,r1]
     omega
    ·cases hx
   ·cases hx
  ·cases hx
 ·cases hx
theorem ae {x:Operand}(ho:o.op= .nilCheck x)(hx:exec (.nilc (opd x)) h tm= .val v h'):Sim1 E w0 φ w h ((execOp ρ o).run P w) v h':=by
 simp only [exec]at hx
 split at hx
 ·rename_i b k hb
  obtain⟨l,hφ,ea⟩:=VR.ptr_inv (hb ▸ hρ x)
  simp only [R.val.injEq]at hx;obtain⟨rfl,rfl⟩:=hx
  exact .same (v':=ρ x) hr (by simp [execOp,ho,ea]) (hb ▸ hρ x)
 ·rename_i f a c hb
  obtain⟨a',c',ea,_,_⟩:=VR.fnF_inv (hb ▸ hρ x)
  simp only [R.val.injEq]at hx;obtain⟨rfl,rfl⟩:=hx
  exact .same (v':=ρ x) hr (by simp [execOp,ho,ea]) (hb ▸ hρ x)
 ·rename_i t u hb
  obtain⟨u',ea,_⟩:=VR.ifc_inv (hb ▸ hρ x)
  simp only [R.val.injEq]at hx;obtain⟨rfl,rfl⟩:=hx
  exact .same (v':=ρ x) hr (by simp [execOp,ho,ea]) (hb ▸ hρ x)
 ·cases hx
theorem af (hE:EnvOk P E){t:TypeId}{d:TypeDesc}{x:Operand}(hu:und E t=some d)(hd: ∀ms,d≠ .interface ms)(ho:o.op= .makeInterface t x)
  (hx:exec (.mkif t (opd x)) h tm= .val v h'):Sim1 E w0 φ w h ((execOp ρ o).run P w) v h':=by
 simp only [exec,R.val.injEq]at hx;obtain⟨rfl,rfl⟩:=hx
 refine .same (v':= .iface t (ρ x)) hr ?_ (.ifc (hρ x))
 simp only [execOp,ho,Instr.makeInterface,Sem.run_bind,Ac hE hu,Result.andThen_ok]
 cases d <;> first|rfl|exact absurd rfl (hd _)
theorem ag {f:FuncId}{a c:Array Operand}(ho:o.op= .makeFunc (.func f) a c)(hx:exec (.mkfn (.func f) (a.toList.map opd) (c.toList.map opd)) h tm= .val v h'):
  Sim1 E w0 φ w h ((execOp ρ o).run P w) v h':=by
 simp only [exec,R.val.injEq]at hx;obtain⟨rfl,rfl⟩:=hx
 refine .same (v':= .func (.func f) (a.map ρ) (c.map ρ)) hr ?_ (.fnF (by simpa using hρ.list a.toList) (by simpa using hρ.list c.toList))
 simp [execOp,ho,Instr.makeFunc]
theorem Xq {t:TypeId}(ho:o.op= .makeMap t none)(hx:exec .mkmap h tm= .val v h'):Sim1 E w0 φ w h ((execOp ρ o).run P w) v h':=by
 simp only [exec,R.val.injEq]at hx;obtain⟨rfl,rfl⟩:=hx
 have hle:=Phi.le_upd ⟨w.heap.size,0,0⟩ hr.fresh
 refine⟨_,.map (some w.heap.size),w.alloc (.map #[] 0),⟨hle,fun _ hb=>Phi.upd_ne _ _ hb⟩,.inl ?_,.map (l:=⟨w.heap.size,0,0⟩) (Phi.upd_same _ _ _),hr.new rfl (.map (by simpa using ERs.nil)) rfl,⟨rfl,rfl,rfl⟩⟩
 simp [execOp,ho,Instr.makeMap]
theorem Xr (hE:EnvOk P E){s:TypeId}{fs:Array Field}{f n:Nat}{fd:Field}{x:Operand}(hu:und E s=some (.struct fs))(hf:fs[f]?=some fd)(hs:Bv E fd.type=some n)
  (ho:o.op= .fieldAddr s x f) (hx:exec (.faddr (opd x) fd.offset) h tm= .val v h'):Sim1 E w0 φ w h ((execOp ρ o).run P w) v h':=by
 simp only [exec]at hx
 split at hx
 ·rename_i b k hb
  obtain⟨l,hφ,ea⟩:=VR.ptr_inv (hb ▸ hρ x)
  simp only [R.val.injEq]at hx;obtain⟨rfl,rfl⟩:=hx
  obtain⟨h1,h2⟩:=Bi hE hs w
  refine .same (v':= .pointer (some ⟨l.cb,l.base+(k+fd.offset),none⟩)) hr ?_ (.ptr hφ)
  simp [execOp,ho,Instr.fieldAt,Instr.sureAddr,ea,Ac hE hu,hf,fieldPlace,h1,h2,Ca,Nat.add_assoc]
 ·cases hx
theorem T4 (hE:EnvOk P E){s:TypeId}{fs:Array Field}{f:Nat}{fd:Field}{x:Operand}(hu:und E s=some (.struct fs))(hf:fs[f]?=some fd)(ha:Ht E fd.type=some false)
  (ho:o.op= .field s x f) (hx:exec (.field1 (opd x) fd.offset) h tm= .val v h'):Sim1 E w0 φ w h ((execOp ρ o).run P w) v h':=by
 simp only [exec]at hx
 split at hx
 ·rename_i l hb
  obtain⟨c,ea,hc⟩:=VR.agg_inv (hb ▸ hρ x)
  cases hg:l[fd.offset]? with
  |none=>rw [hg]at hx;simp [vo]at hx
  |some u=>
   rw [hg]at hx;simp only [vo,R.val.injEq]at hx;obtain⟨rfl,rfl⟩:=hx
   obtain⟨v',h1,h2⟩:=hc.get hg
   refine .same (v':=v') hr ?_ h2
   rw [Array.getElem?_toList]at h1
   simp [execOp,ho,Instr.field,asAgg,ea,Ac hE hu,hf,part,Ds hE ha,h1]
 ·cases hx
omit hr hρ in
theorem K2 {l:List AV}{c:Array Value}(hc:VRs φ l c.toList)(a n:Nat):VRs φ (List.take n (List.drop a l)) (c.extract a (a+n)).toList:=by
 have:=(hc.drop a).take n
 rw [Array.toList_extract,List.extract_eq_take_drop]
 rwa [Nat.add_sub_cancel_left]
theorem T5 (hE:EnvOk P E){s:TypeId}{fs:Array Field}{f:Nat}{fd:Field}{i:TypeInfo}{x:Operand}(hu:und E s=some (.struct fs))(hf:fs[f]?=some fd)(ha:Ht E fd.type=some true)
  (hi:Ev.inf E fd.type=some i) (ho:o.op= .field s x f) (hx:exec (.fieldN (opd x) fd.offset i.size) h tm= .val v h'):Sim1 E w0 φ w h ((execOp ρ o).run P w) v h':=by
 simp only [exec]at hx
 split at hx
 ·rename_i l hb
  obtain⟨c,ea,hc⟩:=VR.agg_inv (hb ▸ hρ x)
  simp only [R.val.injEq]at hx;obtain⟨rfl,rfl⟩:=hx
  refine .same (v':= .agg (c.extract fd.offset (fd.offset+i.size))) hr ?_ (.agg (K2 hc _ _))
  simp [execOp,ho,Instr.field,asAgg,ea,Ac hE hu,hf,part,Ds hE ha,A3 hE hi]
 ·cases hx
theorem R1 {x:Operand}{i:Nat}(ho:o.op= .extract x i)(hx:exec (.extract (opd x) i) h tm= .val v h'):Sim1 E w0 φ w h ((execOp ρ o).run P w) v h':=by
 simp only [exec]at hx
 split at hx
 ·rename_i l hb
  obtain⟨c,ea,hc⟩:=VR.tup_inv (hb ▸ hρ x)
  cases hg:l[i]? with
  |none=>rw [hg]at hx;simp [vo]at hx
  |some u=>
   rw [hg]at hx;simp only [vo,R.val.injEq]at hx;obtain⟨rfl,rfl⟩:=hx
   obtain⟨v',h1,h2⟩:=hc.get hg
   rw [Array.getElem?_toList]at h1
   exact .same (v':=v') hr (by simp [execOp,ho,Instr.extract,ea,h1]) h2
 ·cases hx
theorem aj (hE:EnvOk P E){s d:TypeId}{j k:IntKind}{x:Operand}(hs:und E s=some (.int j))(hd:und E d=some (.int k))(ho:o.op= .convert s d x)
  (hx:exec (.conv k (opd x)) h tm= .val v h'):Sim1 E w0 φ w h ((execOp ρ o).run P w) v h':=by
 simp only [exec]at hx
 split at hx
 ·rename_i i n hb
  have ea:=VR.int_inv (hb ▸ hρ x)
  simp only [R.val.injEq]at hx;obtain⟨rfl,rfl⟩:=hx
  refine .same (v':= .int k (k.wrap n)) hr ?_ (Fa k n ▸ .int _ _)
  simp [execOp,ho,convert,Ac hE hs,Ac hE hd,ea,Conv.intToInt]
 ·cases hx
theorem T6 (hE:EnvOk P E){t e:TypeId}{n s:Nat}{x ix:Operand}(hu:und E t=some (.array n e))(hs:Bv E e=some s)(ho:o.op= .indexAddr t x ix)
  (hx:exec (.iaddrA n s (opd x) (opd ix)) h tm= .val v h'):Sim1 E w0 φ w h ((execOp ρ o).run P w) v h':=by
 simp only [exec]at hx
 split at hx
 ·rename_i b k hb
  obtain⟨l,hφ,ea⟩:=VR.ptr_inv (hb ▸ hρ x)
  split at hx
  ·rename_i kk i hi
   have ei:=VR.int_inv (hi ▸ hρ ix)
   split at hx
   ·rename_i hlt
    have hlt:i+1≤n:=Ag hlt
    simp only [R.val.injEq]at hx;obtain⟨rfl,rfl⟩:=hx
    refine .same (v':= .pointer (some ⟨l.cb,l.base+(k+i*s),none⟩)) hr ?_ (.ptr hφ)
    have h1:i<n:=by omega
    simp [execOp,ho,Instr.indexAt,Instr.sureAddr,asIntOf,ea,ei,Ac hE hu,(Bi hE hs w).1,Ca,Nat.add_assoc,h1]
   ·cases hx
  ·cases hx
 ·cases hx
theorem T7 (hE:EnvOk P E){t e:TypeId}{s:Nat}{x ix:Operand}(hu:und E t=some (.slice e))(hs:Bv E e=some s)(ho:o.op= .indexAddr t x ix)
  (hx:exec (.iaddrS s (opd x) (opd ix)) h tm= .val v h'):Sim1 E w0 φ w h ((execOp ρ o).run P w) v h':=by
 simp only [exec]at hx
 split at hx
 ·rename_i b k n cap hb
  obtain⟨l,off,c',hφ,ea,hle,hor⟩:=VR.slc_inv (hb ▸ hρ x)
  split at hx
  ·rename_i kk i hi
   have ei:=VR.int_inv (hi ▸ hρ ix)
   split at hx
   ·rename_i hlt
    have hlt:i+1≤n:=Ag hlt
    simp only [R.val.injEq]at hx;obtain⟨rfl,rfl⟩:=hx
    have hoff:off=l.base+k:=by
     rcases hor with⟨_,e,ho⟩|⟨_,_,_,ho⟩
     ·exact ho (by omega)
     ·exact ho (by omega)
    refine .same (v':= .pointer (some ⟨l.cb,l.base+(k+i*s),none⟩)) hr ?_ (.ptr hφ)
    have h1:i<n:=by omega
    simp [execOp,ho,Instr.indexAt,asIntOf,ea,ei,Ac hE hu,(Bi hE hs w).1,Ca,Nat.add_assoc,h1,hoff]
   ·cases hx
  ·cases hx
 ·cases hx
theorem T8 (hE:EnvOk P E){t e:TypeId}{n:Nat}{i:TypeInfo}{x ix:Operand}(hu:und E t=some (.array n e))(hi:Ev.inf E e=some i)(h1:i.size=1)(ha:Ht E e=some false)(ho:o.op= .index t x ix)
  (hx:exec (.index1 n (opd x) (opd ix)) h tm= .val v h'):Sim1 E w0 φ w h ((execOp ρ o).run P w) v h':=by
 simp only [exec]at hx
 split at hx
 ·rename_i l hb
  obtain⟨c,ea,hc⟩:=VR.agg_inv (hb ▸ hρ x)
  split at hx
  ·rename_i kk j hj
   have ei:=VR.int_inv (hj ▸ hρ ix)
   split at hx
   ·rename_i hlt
    have hlt:j+1≤n:=Ag hlt
    cases hg:l[j]? with
    |none=>rw [hg]at hx;simp [vo]at hx
    |some u=>
     rw [hg]at hx;simp only [vo,R.val.injEq]at hx;obtain⟨rfl,rfl⟩:=hx
     obtain⟨v',h2,h3⟩:=hc.get hg
     rw [Array.getElem?_toList]at h2
     have h4:j<n:=by omega
     refine .same (v':=v') hr ?_ h3
     simp [execOp,ho,Instr.index,asIntOf,ea,ei,Ac hE hu,A3 hE hi,h1,h4,part,Ds hE ha,h2]
   ·cases hx
  ·cases hx
 ·cases hx
theorem T9 (hE:EnvOk P E){t:TypeId}{x ix:Operand}(hu:und E t=some .string)(ho:o.op= .index t x ix)
  (hx:exec (.indexT (opd x) (opd ix)) h tm= .val v h'):Sim1 E w0 φ w h ((execOp ρ o).run P w) v h':=by
 simp only [exec]at hx
 split at hx
 ·rename_i l hb
  obtain⟨s,ea,hc⟩:=VR.str_inv (hb ▸ hρ x)
  split at hx
  ·rename_i kk j hj
   have ei:=VR.int_inv (hj ▸ hρ ix)
   split at hx
   ·rename_i u hg
    simp only [R.val.injEq]at hx;obtain⟨rfl,rfl⟩:=hx
    rw [←hc,List.getElem?_map,Array.getElem?_toList]at hg
    cases hs:s.data[j]? with
    |none=>rw [hs]at hg;cases hg
    |some b=>
     rw [hs]at hg
     simp only [Option.map_some,Option.some.injEq]at hg
     subst hg
     have hsb:s[j]?=some b:=by
      obtain⟨h1,h2⟩:=Array.getElem?_eq_some_iff.1 hs
      have h3:j<s.size:=h1
      rw [getElem?_pos s j h3]
      exact congrArg some h2
     refine .same (v':= .int .u8 b.toNat) hr ?_ (.int _ _)
     simp [execOp,ho,Instr.index,asIntOf,ea,ei,Ac hE hu,hsb]
   ·cases hx
  ·cases hx
 ·cases hx
theorem Ua (hE:EnvOk P E){t e:TypeId}{n:Nat}{i:TypeInfo}{x ix:Operand}(hu:und E t=some (.array n e))(hi:Ev.inf E e=some i)(ha:Ht E e=some true)(ho:o.op= .index t x ix)
  (hx:exec (.indexN n i.size (opd x) (opd ix)) h tm= .val v h'):Sim1 E w0 φ w h ((execOp ρ o).run P w) v h':=by
 simp only [exec]at hx
 split at hx
 ·rename_i l hb
  obtain⟨c,ea,hc⟩:=VR.agg_inv (hb ▸ hρ x)
  split at hx
  ·rename_i kk j hj
   have ei:=VR.int_inv (hj ▸ hρ ix)
   split at hx
   ·rename_i hlt
    have hlt:j+1≤n:=Ag hlt
    simp only [R.val.injEq]at hx;obtain⟨rfl,rfl⟩:=hx
    have h4:j<n:=by omega
    refine .same (v':= .agg (c.extract (j*i.size) (j*i.size+i.size))) hr ?_ (.agg (K2 hc _ _))
    simp [execOp,ho,Instr.index,asIntOf,ea,ei,Ac hE hu,A3 hE hi,h4,part,Ds hE ha]
   ·cases hx
  ·cases hx
 ·cases hx
theorem R2 (hE:EnvOk P E){xt t:TypeId}{d:TypeDesc}{z:AV}{ok:Bool}{x:Operand}(hu:und E t=some d)(hd: ∀ms,d≠ .interface ms)(hz:L1 E t=some z)(ho:o.op= .typeAssert x xt t ok)
  (hx:exec (.tassert (opd x) t z ok) h tm= .val v h'):Sim1 E w0 φ w h ((execOp ρ o).run P w) v h':=by
 obtain⟨z',z1,z2⟩:=Nk hE hz w
 simp only [exec]at hx
 split at hx
 ·rename_i u y hb
  obtain⟨y',ea,hy⟩:=VR.ifc_inv (hb ▸ hρ x)
  split at hx
  ·rename_i hut
   have hut:u=t:=Aj hut
   subst hut
   simp only [R.val.injEq]at hx;obtain⟨rfl,rfl⟩:=hx
   cases ok with
   |true=>
    refine .same (v':= .tuple #[y',.bool true]) hr ?_ (.tup (.cons hy (.cons (.bool _) .nil)))
    simp only [execOp,ho,Instr.typeAssert,Sem.run_bind,Ac hE hu,Result.andThen_ok,ea]
    cases d <;> first|(simp;done)|exact absurd rfl (hd _)
   |false=>
    refine .same (v':=y') hr ?_ hy
    simp only [execOp,ho,Instr.typeAssert,Sem.run_bind,Ac hE hu,Result.andThen_ok,ea]
    cases d <;> first|(simp;done)|exact absurd rfl (hd _)
  ·rename_i hut
   have hut:u≠t:=Dm hut
   cases ok with
   |true=>
    simp only [R.val.injEq]at hx;obtain⟨rfl,rfl⟩:=hx
    refine .same (v':= .tuple #[z',.bool false]) hr ?_ (.tup (.cons (z2 φ) (.cons (.bool _) .nil)))
    simp only [execOp,ho,Instr.typeAssert,Sem.run_bind,Ac hE hu,Result.andThen_ok,ea]
    cases d <;> first|(simp [hut,z1];done)|exact absurd rfl (hd _)
   |false=>cases hx
 ·rename_i hb
  have ea:=VR.nili_inv (hb ▸ hρ x)
  cases ok with
  |true=>
   simp only [R.val.injEq]at hx;obtain⟨rfl,rfl⟩:=hx
   refine .same (v':= .tuple #[z',.bool false]) hr ?_ (.tup (.cons (z2 φ) (.cons (.bool _) .nil)))
   simp only [execOp,ho,Instr.typeAssert,Sem.run_bind,Ac hE hu,Result.andThen_ok,ea]
   cases d <;> first|(simp [z1];done)|exact absurd rfl (hd _)
  |false=>cases hx
 ·cases hx
end
section arith
variable (P:Program)(w:World)
theorem Hw (k:IntKind)(n:Int):(BitVec.ofInt k.bits n).toNat=toU k n:=by
 have h:((2 ^ k.bits:Nat):Int)=(2:Int) ^ k.bits:=by simp
 rw [BitVec.toNat_ofInt,h,←Z6];simp
theorem wh (k:IntKind)(a b:Int):(BitVec.ofInt k.bits a &&& BitVec.ofInt k.bits b).toNat=Nat.land (toU k a) (toU k b):=by
 rw [BitVec.toNat_and,Hw,Hw];rfl
theorem zq (k:IntKind)(a b:Int):(BitVec.ofInt k.bits a ||| BitVec.ofInt k.bits b).toNat=Nat.lor (toU k a) (toU k b):=by
 rw [BitVec.toNat_or,Hw,Hw];rfl
theorem wj (k:IntKind)(a b:Int):(BitVec.ofInt k.bits a ^^^ BitVec.ofInt k.bits b).toNat=Nat.xor (toU k a) (toU k b):=by
 rw [BitVec.toNat_xor,Hw,Hw];rfl
theorem qk (k:IntKind)(b:Int):(~~~ BitVec.ofInt k.bits b).toNat=Nat.sub (Nat.sub (pw k) 1) (toU k b):=by
 rw [BitVec.toNat_not,Hw,←Z5];rfl
theorem am (k:IntKind)(a b:Int):(BitVec.ofInt k.bits a &&& ~~~ BitVec.ofInt k.bits b).toNat=Nat.land (toU k a) (Nat.sub (Nat.sub (pw k) 1) (toU k b)):=by
 rw [BitVec.toNat_and,Hw,qk];rfl
theorem Is (a b:Int):iEq a b=(a == b):=by rw [D5];by_cases h:a=b <;> simp [h]
theorem j9 (a b:Int):(not (iEq a b))=(a !=b):=by rw [Is];rfl
theorem an (a b:Int):(not (iLt b a))=decide (a≤b):=by
 rw [F6];by_cases h:a≤b
 ·have: ¬b<a:=by omega
  simp [h,this]
 ·have:b<a:=by omega
  simp [h,this]
theorem Nn (n:Nat): ¬((n:Int)<0):=by omega
theorem sd {t:TypeId}{op:BinOp}{k j:IntKind}{a b:Int}{v:AV}(h:D1 op k a j b=some v): ∃v',(binOp op t (.int k a) (.int j b)).run P w= .ok v' w∧ ∀φ,VR φ v v':=by
 cases op <;> simp only [D1]at h
 case shl=>
  split at h
  ·rename_i n
   simp only [Option.some.injEq]at h;subst h
   refine⟨.int k (k.wrap (a*2 ^ (min n k.bits))),?_,fun φ=> ?_⟩
   ·simp [binOp,Op.shift,Nn]
   ·rw [Fa,Jw,V6]
    have:Int.mul a (Int.ofNat (Nat.pow 2 (min n k.bits)))=a*2 ^ (min n k.bits):=by
     show a*((2 ^ (min n k.bits):Nat):Int)=_;simp
    rw [this];exact .int _ _
  ·cases h
 case shr=>
  split at h
  ·rename_i n
   simp only [Option.some.injEq]at h;subst h
   refine⟨.int k (a.fdiv (2 ^ (min n k.bits))),?_,fun φ=> ?_⟩
   ·simp [binOp,Op.shift,Nn]
   ·rw [Jw,V6]
    have:Int.ofNat (Nat.pow 2 (min n k.bits))=2 ^ (min n k.bits):=by
     show((2 ^ (min n k.bits):Nat):Int)=_;simp
    rw [this];exact .int _ _
  ·cases h
 case quo=>
  split at h
  ·rename_i hk
   have hk:=A2 hk;subst hk
   split at h
   ·cases h
   ·rename_i hz
    have hz: ¬b=0:=by rw [D5]at hz;simpa using hz
    simp only [Option.some.injEq]at h;subst h
    exact⟨.int k (k.wrap (a.tdiv b)),by simp [binOp,Op.intDiv,hz],fun φ=> by rw [Fa];exact .int _ _⟩
  ·cases h
 case rem=>
  split at h
  ·rename_i hk
   have hk:=A2 hk;subst hk
   split at h
   ·cases h
   ·rename_i hz
    have hz: ¬b=0:=by rw [D5]at hz;simpa using hz
    simp only [Option.some.injEq]at h;subst h
    exact⟨.int k (a.tmod b),by simp [binOp,Op.intDiv,hz],fun φ=> .int _ _⟩
  ·cases h
 case add=>
  split at h
  ·rename_i hk
   have hk:=A2 hk;subst hk
   simp only [Option.some.injEq]at h;subst h
   exact⟨.int k (k.wrap (a+b)),by simp [binOp,Op.intArith],fun φ=> by rw [Fa];exact .int _ _⟩
  ·cases h
 case sub=>
  split at h
  ·rename_i hk
   have hk:=A2 hk;subst hk
   simp only [Option.some.injEq]at h;subst h
   exact⟨.int k (k.wrap (a - b)),by simp [binOp,Op.intArith],fun φ=> by rw [Fa];exact .int _ _⟩
  ·cases h
 case mul=>
  split at h
  ·rename_i hk
   have hk:=A2 hk;subst hk
   simp only [Option.some.injEq]at h;subst h
   exact⟨.int k (k.wrap (a*b)),by simp [binOp,Op.intArith],fun φ=> by rw [Fa];exact .int _ _⟩
  ·cases h
 case and=>
  split at h
  ·rename_i hk
   have hk:=A2 hk;subst hk
   simp only [Option.some.injEq]at h;subst h
   exact⟨.int k (k.wrap ((BitVec.ofInt k.bits a &&& BitVec.ofInt k.bits b).toNat)),by simp [binOp,Op.intBits],fun φ=> by rw [Fa,wh];exact .int _ _⟩
  ·cases h
 case or=>
  split at h
  ·rename_i hk
   have hk:=A2 hk;subst hk
   simp only [Option.some.injEq]at h;subst h
   exact⟨.int k (k.wrap ((BitVec.ofInt k.bits a ||| BitVec.ofInt k.bits b).toNat)),by simp [binOp,Op.intBits],fun φ=> by rw [Fa,zq];exact .int _ _⟩
  ·cases h
 case xor=>
  split at h
  ·rename_i hk
   have hk:=A2 hk;subst hk
   simp only [Option.some.injEq]at h;subst h
   exact⟨.int k (k.wrap ((BitVec.ofInt k.bits a ^^^ BitVec.ofInt k.bits b).toNat)),by simp [binOp,Op.intBits],fun φ=> by rw [Fa,wj];exact .int _ _⟩
  ·cases h
 case andNot=>
  split at h
  ·rename_i hk
   have hk:=A2 hk;subst hk
   simp only [Option.some.injEq]at h;subst h
   exact⟨.int k (k.wrap ((BitVec.ofInt k.bits a &&& ~~~ BitVec.ofInt k.bits b).toNat)),by simp [binOp,Op.intBits],fun φ=> by rw [Fa,am];exact .int _ _⟩
  ·cases h
 case eql=>
  split at h
  ·rename_i hk
   have hk:=A2 hk;subst hk
   simp only [Option.some.injEq]at h;subst h
   exact⟨.bool (a == b),by simp [binOp,Op.intCmp],fun φ=> by rw [Is];exact .bool _⟩
  ·cases h
 case neq=>
  split at h
  ·rename_i hk
   have hk:=A2 hk;subst hk
   simp only [Option.some.injEq]at h;subst h
   exact⟨.bool (a !=b),by simp [binOp,Op.intCmp],fun φ=> by rw [j9];exact .bool _⟩
  ·cases h
 case lss=>
  split at h
  ·rename_i hk
   have hk:=A2 hk;subst hk
   simp only [Option.some.injEq]at h;subst h
   exact⟨.bool (decide (a<b)),by simp [binOp,Op.intCmp],fun φ=> by rw [F6];exact .bool _⟩
  ·cases h
 case leq=>
  split at h
  ·rename_i hk
   have hk:=A2 hk;subst hk
   simp only [Option.some.injEq]at h;subst h
   exact⟨.bool (decide (a≤b)),by simp [binOp,Op.intCmp],fun φ=> by rw [an];exact .bool _⟩
  ·cases h
 case gtr=>
  split at h
  ·rename_i hk
   have hk:=A2 hk;subst hk
   simp only [Option.some.injEq]at h;subst h
   exact⟨.bool (decide (b<a)),by simp [binOp,Op.intCmp],fun φ=> by rw [F6];exact .bool _⟩
  ·cases h
 case geq=>
  split at h
  ·rename_i hk
   have hk:=A2 hk;subst hk
   simp only [Option.some.injEq]at h;subst h
   exact⟨.bool (decide (b≤a)),by simp [binOp,Op.intCmp],fun φ=> by rw [an];exact .bool _⟩
  ·cases h
end arith
theorem Jx {a b:ByteArray}{s t:List Nat}(ha:a.data.toList.map (·.toNat)=s)(hb:b.data.toList.map (·.toNat)=t):(a.toList == b.toList)=Ku s t:=by
 rw [Ip,ByteArray.toList_eq,ByteArray.toList_eq,←ha,←hb]
 have:(a.data.toList.map (·.toNat)=b.data.toList.map (·.toNat))↔a.data.toList=b.data.toList:=
  ⟨fun h=>List.map_inj_right (fun x y h=>UInt8.toNat_inj.1 h) |>.1 h,fun h=>by rw [h]⟩
 by_cases h:a.data.toList=b.data.toList
 ·rw [decide_eq_true (this.2 h),h];simp
 ·rw [decide_eq_false (fun e=>h (this.1 e))]
  cases hq:(a.data.toList == b.data.toList)with
  |false=>rfl
  |true=>exact absurd (eq_of_beq hq) h
section
variable {P:Program}{E:Env}(hE:EnvOk P E){φ: Phi}{w:World}
include hE
theorem ap {t:TypeId}{off n:Nat}{xs:List AV}{cs:Array Value}{a:AV}(hs:Z3 E t=some n)(hx:VRs φ xs cs.toList)(hg:Z2 xs off n=some a):
  ∃v,(part t cs off).run P w= .ok v w∧VR φ a v:=by
 unfold Z3 at hs
 split at hs
 ·rename_i ha
  obtain⟨h1,h2⟩:=Bi hE hs w
  obtain⟨m,rfl⟩: ∃m,n=m+1:=⟨n - 1,by omega⟩
  simp only [Z2,Option.some.injEq]at hg;subst hg
  exact⟨.agg (cs.extract off (off+(m+1))),by simp [part,Ds hE ha,h1],.agg (K2 hx _ _)⟩
 ·rename_i ha
  simp only [Option.some.injEq]at hs;subst hs
  simp only [Z2]at hg
  obtain⟨v,h1,h2⟩:=hx.get hg
  rw [Array.getElem?_toList]at h1
  exact⟨v,by simp [part,Ds hE ha,h1],h2⟩
 ·cases hs
theorem L5 {d D n:Nat}(ih: ∀(t:TypeId) (x y:AV) (x' y':Value) (b:Bool),eqv n (Aq E d t) x y=some b→VR φ x x'→VR φ y y'→(Op.equalIn D t x' y').run P w= .ok b w)
  {xs ys:List AV} {cs cs':Array Value} (hx:VRs φ xs cs.toList) (hy:VRs φ ys cs'.toList): ∀(fs:List Field) (l:List (Nat×Nat×Sh)) (b:Bool),
  fs.mapM (Fu E (Aq E d))=some l→Jq (eqv n) xs ys l=some b→(Op.eqFields D cs cs' fs).run P w= .ok b w
 | [],l,b,hl,he=>by
  simp at hl;subst hl
  simp only [Jq,Option.some.injEq]at he;subst he;rfl
 |f::fs,l,b,hl,he=>by
  rw [List.mapM_cons]at hl
  cases h1:Fu E (Aq E d) f with
  |none=>rw [h1]at hl;simp at hl
  |some q=>
   rw [h1]at hl
   cases h2:fs.mapM (Fu E (Aq E d))with
   |none=>rw [h2]at hl;simp at hl
   |some r=>
    rw [h2]at hl;simp at hl;subst hl
    unfold Fu at h1
    split at h1
    ·cases h1
    ·rename_i hn
     have hn : f.name ≠ "_" := by simpa using hn
     split at h1
     ·rename_i m hm
      simp only [Option.some.injEq]at h1;subst h1
      simp only [Jq]at he
      split at he
      ·rename_i a c ha hc
       obtain⟨va,a1,a2⟩:=ap hE (w:=w) hm hx ha
       obtain⟨vc,c1,c2⟩:=ap hE (w:=w) hm hy hc
       cases hq:eqv n (Aq E d f.type) a c with
       |none=>rw [hq]at he;simp at he
       |some q=>
        rw [hq]at he
        have e1:=ih _ _ _ _ _ _ hq a2 c2
        rw [Op.eqFields,if_pos hn]
        simp only [Sem.run_bind,a1,c1,e1,Result.andThen_ok]
        cases q with
        |true=>simp only [Bool.not_true,Bool.false_eq_true,if_false];exact L5 ih hx hy fs r b h2 he
        |false=>simp only [Option.some.injEq]at he;subst he;rfl
      ·cases he
     ·cases h1
theorem Qz: ∀(d:Nat) (t:TypeId) (n D:Nat) (x y:AV) (x' y':Value) (b:Bool),d≤D→eqv n (Aq E d t) x y=some b→VR φ x x'→VR φ y y'→
  (Op.equalIn D t x' y').run P w= .ok b w
 |0,t,n,D,x,y,x',y',b,_,h,_,_=>by cases n <;> simp [Aq,eqv]at h
 |d+1,t,n,D,x,y,x',y',b,hd,h,hx,hy=>by
  cases n with
  |zero=>simp [eqv]at h
  |succ n=>
   obtain⟨D,rfl⟩: ∃k,D=k+1:=⟨D - 1,by omega⟩
   unfold Aq at h
   split at h
   ·rename_i hu
    simp only [eqv]at h
    cases x with
    |bool a=>cases y with
     |bool c=>
      simp only [Hr,Option.some.injEq]at h;subst h
      rw [hx.bool_inv,hy.bool_inv,run_equalIn_bool' w D t _ _ (Gx hE hu),T1]
      cases a <;> cases c <;> rfl
     |_=>simp [Hr]at h
    |_=>simp [Hr]at h
   ·rename_i k hu
    simp only [eqv]at h
    cases x with
    |int k a=>cases y with
     |int j c=>
      simp only [Hk]at h
      split at h
      ·rename_i hk
       have hk:=A2 hk;subst hk
       simp only [Option.some.injEq]at h;subst h
       rw [hx.int_inv,hy.int_inv,run_equalIn_int w D t _ _ _ _ (Gx hE hu),Is]
      ·cases h
     |_=>simp [Hk]at h
    |_=>simp [Hk]at h
   ·rename_i hu
    simp only [eqv]at h
    cases x with
    |str a=>cases y with
     |str c=>
      simp only [Ly,Option.some.injEq]at h;subst h
      obtain⟨a,e1,h1⟩:=hx.str_inv
      obtain⟨c,e2,h2⟩:=hy.str_inv
      rw [e1,e2,run_equalIn_string w D t _ _ (Gx hE hu),Jx h1 h2]
     |_=>simp [Ly]at h
    |_=>simp [Ly]at h
   ·rename_i e hu
    split at h
    ·rename_i m hm
     obtain⟨s1,s2⟩:=Bi hE hm w
     simp only [eqv]at h
     cases x with
     |nilp=>
      rw [hx.nilp_inv]
      cases y with
      |nilp=>simp only [Hl,Option.some.injEq]at h;subst h;rw [hy.nilp_inv];simp [Op.equalIn,Ac hE hu]
      |ptr c o=>simp only [Hl,Option.some.injEq]at h;subst h;obtain⟨l,_,e⟩:=hy.ptr_inv;rw [e];simp [Op.equalIn,Ac hE hu]
      |_=>simp [Hl]at h
     |ptr c o=>
      obtain⟨l,hl,e1⟩:=hx.ptr_inv
      rw [e1]
      cases y with
      |nilp=>simp only [Hl,Option.some.injEq]at h;subst h;rw [hy.nilp_inv];simp [Op.equalIn,Ac hE hu]
      |ptr c' o'=>
       simp only [Hl]at h
       obtain⟨l',hl',e2⟩:=hy.ptr_inv
       rw [e2]
       split at h
       ·rename_i hb
        have hb:=Aj hb
        subst hb
        rw [hl]at hl';cases hl'
        simp only [Option.some.injEq]at h;subst h
        simp only [Op.equalIn,Sem.run_bind,Ac hE hu,Result.andThen_ok,s1,ne_eq,s2,not_false_eq_true,if_true,sameAddr,beq_self_eq_true]
        simp only [Sem.run_pure]
        congr 1
        by_cases ho:o=o'
        ·subst ho;simp
        ·have:Nat.beq o o'=false:=by
          cases hq:Nat.beq o o' with
          |false=>rfl
          |true=>exact absurd (Aj hq) ho
         rw [this];simp [ho]
       ·cases h
      |_=>simp [Hl]at h
     |_=>simp [Hl]at h
    ·simp [eqv]at h
   ·rename_i ms hu
    simp only [eqv]at h
    cases x with
    |ifc u a=>
     obtain⟨u,e1,_⟩:=hx.ifc_inv
     rw [e1]
     cases y with
     |nili=>simp only [I5,Option.some.injEq]at h;subst h;rw [hy.nili_inv];simp [Op.equalIn,Ac hE hu]
     |_=>simp [I5]at h
    |nili=>
     rw [hx.nili_inv]
     cases y with
     |ifc u a=>simp only [I5,Option.some.injEq]at h;subst h;obtain⟨u,e1,_⟩:=hy.ifc_inv;rw [e1];simp [Op.equalIn,Ac hE hu]
     |_=>simp [I5]at h
    |_=>simp [I5]at h
   ·rename_i fs hu
    split at h
    ·simp [eqv]at h
    ·rename_i hm
     split at h
     ·rename_i l hl
      simp only [eqv]at h
      cases x with
      |agg xs=>cases y with
       |agg ys=>
        simp only []at h
        obtain⟨cs,e1,h1⟩:=hx.agg_inv
        obtain⟨cs',e2,h2⟩:=hy.agg_inv
        rw [e1,e2]
        have hfs:P.fieldsOf t=fs:=by unfold Program.fieldsOf;rw [Gx hE hu]
        rw [run_equalIn_struct w D t cs cs' (by rw [hfs];exact Gx hE hu) (hE.stood t ((Gi _ _).1 hm)).1,hfs]
        exact L5 hE (fun t x y x' y' b h hx hy=>Qz d t n D x y x' y' b (by omega) h hx hy) h1 h2 fs.toList l b hl h
       |_=>simp at h
      |_=>simp at h
     ·simp [eqv]at h
   ·rename_i e hu
    simp only [eqv]at h
    cases x with
    |nils=>
     rw [hx.nils_inv]
     cases y with
     |nils=>simp only [E6,Option.some.injEq]at h;subst h;rw [hy.nils_inv];simp [Op.equalIn,Ac hE hu]
     |slc _ _ _ _=>simp only [E6,Option.some.injEq]at h;subst h;obtain⟨l,off,c',_,e2,_,_⟩:=hy.slc_inv;rw [e2];simp [Op.equalIn,Ac hE hu]
     |_=>simp [E6]at h
    |slc _ _ _ _=>
     obtain⟨l,off,c',_,e2,_,_⟩:=hx.slc_inv
     rw [e2]
     cases y with
     |nils=>simp only [E6,Option.some.injEq]at h;subst h;rw [hy.nils_inv];simp [Op.equalIn,Ac hE hu]
     |_=>simp [E6]at h
    |_=>simp [E6]at h
   ·rename_i k e hu
    simp only [eqv]at h
    cases x with
    |nilm=>
     rw [hx.nilm_inv]
     cases y with
     |nilm=>simp only [E7,Option.some.injEq]at h;subst h;rw [hy.nilm_inv];simp [Op.equalIn,Ac hE hu]
     |map _=>simp only [E7,Option.some.injEq]at h;subst h;obtain⟨l,_,e2⟩:=hy.map_inv;rw [e2];simp [Op.equalIn,Ac hE hu]
     |_=>simp [E7]at h
    |map _=>
     obtain⟨l,_,e2⟩:=hx.map_inv
     rw [e2]
     cases y with
     |nilm=>simp only [E7,Option.some.injEq]at h;subst h;rw [hy.nilm_inv];simp [Op.equalIn,Ac hE hu]
     |_=>simp [E7]at h
    |_=>simp [E7]at h
   ·rename_i ps rs vv hu
    simp only [eqv]at h
    cases x with
    |nilf=>
     rw [hx.nilf_inv]
     cases y with
     |nilf=>simp only [D2,Option.some.injEq]at h;subst h;rw [hy.nilf_inv];simp [Op.equalIn,Ac hE hu]
     |fn f a c=>
      cases f with
      |func f=>simp only [D2,Option.some.injEq]at h;subst h;obtain⟨a',c',e2,_,_⟩:=hy.fnF_inv;rw [e2];simp [Op.equalIn,Ac hE hu]
      |yield l=>simp [D2]at h
     |_=>simp [D2]at h
    |fn f a c=>
     cases f with
     |func f=>
      obtain⟨a',c',e2,_,_⟩:=hx.fnF_inv
      rw [e2]
      cases y with
      |nilf=>simp only [D2,Option.some.injEq]at h;subst h;rw [hy.nilf_inv];simp [Op.equalIn,Ac hE hu]
      |_=>simp [D2]at h
     |yield l=>simp [D2]at h
    |_=>simp [D2]at h
   ·simp [eqv]at h
end
section
variable {P:Program}{E:Env}{w0:Array Obj}{φ: Phi}{h h':H}{w:World}{tm:T AV}{ρ: Operand→Value}{o:Oper}{v:AV}
variable (hr:HR E w0 φ h w.heap)(hρ: RhoR φ tm ρ)
include hr hρ
omit hr hρ in
theorem Hx (op:BinOp)(t:TypeId)(x y:Operand)(a b:Value)(h1:a≠ .nilIface∨b≠ .nilIface)(h2:(∀c,a≠ .agg c)∨(∀c,b≠ .agg c)):
  (eqGuard op t x y a b).run P w= .ok () w:=by
 unfold eqGuard
 cases op <;> first|rfl|skip
 all_goals
  simp only [Bool.not_true,Bool.false_eq_true,if_false]
  split
  ·rcases h1 with h1|h1 <;> exact absurd rfl h1
  ·rcases h2 with h2|h2 <;> exact absurd rfl (h2 _)
  ·rfl
omit hr hρ in
theorem R3 (op:BinOp)(t:TypeId)(x y:Operand)(hc:(isC x || isC y)=true)(a b:Value)(ha:a= .nilIface)(hb:b= .nilIface):
  (eqGuard op t x y a b).run P w= .ok () w:=by
 subst ha;subst hb
 unfold eqGuard
 cases op <;> first|rfl|skip
 all_goals
  simp only [Bool.not_true,Bool.false_eq_true,if_false]
  cases x <;> cases y <;> simp [isC]at hc ⊢
omit hr hρ in
def K3 (v:Value):Bool:=
 match v with
 | .int _ _=>false
 | .float _ _=>false
 | .complex _ _ _=>false
 | .string _=>false
 |_=>true
omit hr hρ in
theorem Xs (t:TypeId)(x y:Value)(hp:K3 x=true):binOp .eql t x y=(do pure (.bool (←Op.equal t x y)):Sem Value):=by
 cases x <;> first|rfl|(simp [K3]at hp)
omit hr hρ in
theorem Xt (t:TypeId)(x y:Value)(hp:K3 x=true):binOp .neq t x y=(do pure (.bool (!(←Op.equal t x y))):Sem Value):=by
 cases x <;> first|rfl|(simp [K3]at hp)
omit hr hρ in
def kn (v:AV):Bool:=
 match v with
 | .opq _=>false
 | .unk=>false
 |_=>true
omit hr hρ in
theorem wl {f:AV→AV→Option Bool}(h1: ∀v y,f (.opq v) y=none)(h2: ∀y,f .unk y=none)(h3: ∀x v,f x (.opq v)=none)(h4: ∀x,f x .unk=none)
  {a b:AV} {q:Bool} (h:f a b=some q):kn a=true∧kn b=true:=by
 constructor
 ·cases a with
  |opq v=>rw [h1]at h;cases h
  |unk=>rw [h2]at h;cases h
  |_=>rfl
 ·cases b with
  |opq v=>rw [h3]at h;cases h
  |unk=>rw [h4]at h;cases h
  |_=>rfl
omit hr hρ in
theorem aq {n:Nat}{sh:Sh}{a b:AV}{q:Bool}(h:eqv n sh a b=some q):kn a=true∧kn b=true:=by
 cases n with
 |zero=>simp [eqv]at h
 |succ n=>
  refine wl (f:=eqv (n+1) sh) ?_ ?_ ?_ ?_ h
  ·intro v y;cases sh <;> rfl
  ·intro y;cases sh <;> rfl
  ·intro x v
   cases sh with
   |bad=>rfl
   |nilF=>cases x with|fn f _ _=>cases f <;> rfl|_=>rfl
   |_=>cases x <;> rfl
  ·intro x
   cases sh with
   |bad=>rfl
   |nilF=>cases x with|fn f _ _=>cases f <;> rfl|_=>rfl
   |_=>cases x <;> rfl
omit hr hρ in
theorem wm {a:AV}{v':Value}(h:VR φ a v')(hk:kn a=true):(a≠ .nili→v'≠ .nilIface)∧((∀l,a≠ .agg l)→ ∀c,v'≠ .agg c)∧
  ((∀k n,a≠ .int k n)→(∀s,a≠ .str s)→K3 v'=true):=by
 cases h with
 |opq _=>simp [kn]at hk
 |unk _=>simp [kn]at hk
 |nili=>exact⟨fun e=>absurd rfl e,fun _ c e=>(by cases e),fun _ _=>rfl⟩
 |agg _=>exact⟨fun _ e=>(by cases e),fun e=>absurd rfl (e _),fun _ _=>rfl⟩
 |int _ _=>exact⟨fun _ e=>(by cases e),fun _ c e=>(by cases e),fun e=>absurd rfl (e _ _)⟩
 |str _=>exact⟨fun _ e=>(by cases e),fun _ c e=>(by cases e),fun _ e=>absurd rfl (e _)⟩
 |_=>exact⟨fun _ e=>(by cases e),fun _ c e=>(by cases e),fun _ _=>rfl⟩
omit hr hρ in
theorem Ub (hE:EnvOk P E){t:TypeId}{ms:Array (String×TypeId)}(hu:und E t=some (.interface ms)):(Op.equal t .nilIface .nilIface).run P w= .ok true w:=by
 have: ∀D,(Op.equalIn (D+1) t .nilIface .nilIface).run P w= .ok true w:=fun D=>by simp [Op.equalIn,Ac hE hu]
 exact this 9999
omit hr hρ in
theorem R4 {d:Nat}{t:TypeId}(h:Aq E d t= .iface): ∃ms,und E t=some (.interface ms):=by
 cases d with
 |zero=>simp [Aq]at h
 |succ d=>
  unfold Aq at h
  split at h <;> first|(cases h;done)|skip
  ·split at h <;> cases h
  ·rename_i ms hu;exact⟨ms,hu⟩
  ·split at h
   ·cases h
   ·split at h <;> cases h
omit hr hρ in
theorem Xu {d n:Nat}{t:TypeId}{xs ys:List AV}{q:Bool}(h:eqv n (Aq E d t) (.agg xs) (.agg ys)=some q):t∈E.S:=by
 cases n with
 |zero=>simp [eqv]at h
 |succ n=>
  cases d with
  |zero=>simp [Aq,eqv]at h
  |succ d=>
   unfold Aq at h
   split at h <;> first|(simp [eqv,Hr,Hk,Ly,I5,E6,E7,D2]at h;done)|skip
   ·split at h <;> simp [eqv,Hl]at h
   ·split at h
    ·simp [eqv]at h
    ·rename_i hm;exact(Gi _ _).1 hm
omit hr hρ in
theorem Uc {d n:Nat}{t:TypeId}{q:Bool}(h:eqv n (Aq E d t) .nili .nili=some q):False:=by
 have: ∀sh:Sh,eqv n sh .nili .nili=none:=by
  intro sh
  cases n with
  |zero=>rfl
  |succ n=>cases sh <;> rfl
 rw [this]at h;cases h
omit hr hρ in
theorem Pj (hE:EnvOk P E){op:BinOp}{t:TypeId}{x y:Operand}{a b:AV}{xv yv:Value}{q:Bool}(hq:V3 (Aq E 5 t) (isC x || isC y) a b=some q)(hxR:VR φ a xv)(hyR:VR φ b yv):
  (eqGuard op t x y xv yv).run P w= .ok () w∧(Op.equal t xv yv).run P w= .ok q w∧((∀k n,a≠ .int k n)→(∀s,a≠ .str s)→K3 xv=true):=by
 unfold V3 at hq
 split at hq
 ·rename_i hn
  simp only [Option.some.injEq]at hq;subst hq
  unfold V2 at hn
  split at hn
  ·rename_i hsh
   split at hn
   ·rename_i hc
    have e1:=hxR.nili_inv
    have e2:=hyR.nili_inv
    obtain⟨ms,hui⟩:=R4 hsh
    refine⟨R3 op t x y hc _ _ e1 e2,?_,fun _ _=>by rw [e1];rfl⟩
    rw [e1,e2];exact Ub hE hui
   ·cases hn
  ·cases hn
 ·obtain⟨k1,k2⟩:=aq hq
  obtain⟨p1,p2,p3⟩:=wm hxR k1
  obtain⟨q1,q2,_⟩:=wm hyR k2
  refine⟨?_,Qz hE 5 t 20 10000 a b _ _ q (by decide) hq hxR hyR,p3⟩
  by_cases hag: ∃xs ys,a= .agg xs∧b= .agg ys
  ·obtain⟨xs,ys,rfl,rfl⟩:=hag
   obtain⟨cs,e1,_⟩:=hxR.agg_inv
   obtain⟨cs',e2,_⟩:=hyR.agg_inv
   rw [e1,e2]
   exact run_eqGuard_agg w op t x y cs cs' (hE.stood t (Xu hq)).2
  ·refine Hx op t x y _ _ ?_ ?_
   ·by_cases hn:a= .nili
    ·by_cases hm:b= .nili
     ·subst hn;subst hm;exact absurd hq (fun h=>Uc h)
     ·exact .inr (q1 hm)
    ·exact .inl (p1 hn)
   ·by_cases hn: ∃xs,a= .agg xs
    ·obtain⟨xs,rfl⟩:=hn
     exact .inr (q2 fun l e=>hag ⟨xs,l,rfl,e⟩)
    ·exact .inl (p2 fun l e=>hn ⟨l,e⟩)
theorem kf (hE:EnvOk P E){op:BinOp}{t yt:TypeId}{x y:Operand}(ho:o.op= .binOp op t x y yt)
  (hx:exec (.bin op (opd x) (opd y) (isC x || isC y) (Aq E 5 t)) h tm= .val v h'):Sim1 E w0 φ w h ((execOp ρ o).run P w) v h':=by
 simp only [exec]at hx
 generalize hxv:ev tm (opd x)=a at hx
 generalize hyv:ev tm (opd y)=b at hx
 have hxR:=hρ x
 have hyR:=hρ y
 rw [hxv]at hxR
 rw [hyv]at hyR
 cases hbv:Fs op (Aq E 5 t) (isC x || isC y) a b with
 |none=>rw [hbv]at hx;simp [vo]at hx
 |some u=>
  rw [hbv]at hx
  simp only [vo,R.val.injEq]at hx
  obtain⟨rfl,rfl⟩:=hx
  have key: ∃v',(eqGuard op t x y (ρ x) (ρ y)).run P w= .ok () w∧(binOp op t (ρ x) (ρ y)).run P w= .ok v' w∧VR φ u v':=by
   by_cases hint: ∃k n,a= .int k n
   ·obtain⟨k,n,rfl⟩:=hint
    cases b with
    |int j m=>
     simp only [Fs]at hbv
     obtain⟨v',h1,h2⟩:=sd P w (t:=t) hbv
     rw [hxR.int_inv,hyR.int_inv]
     exact⟨v',Hx _ _ _ _ _ _ (.inl (by simp)) (.inl (by simp)),h1,h2 φ⟩
    |_=>simp [Fs]at hbv
   ·by_cases hstr: ∃s,a= .str s
    ·obtain⟨s,rfl⟩:=hstr
     obtain⟨sa,e1,h1⟩:=hxR.str_inv
     cases b with
     |str s'=>
      obtain⟨sb,e2,h2⟩:=hyR.str_inv
      simp only [Fs]at hbv
      rw [e1,e2]
      suffices hs: ∃v',(binOp op t (.string sa) (.string sb)).run P w= .ok v' w∧VR φ u v' by
       obtain⟨v',p1,p2⟩:=hs
       exact⟨v',Hx _ _ _ _ _ _ (.inl (by simp)) (.inl (by simp)),p1,p2⟩
      cases op with
      |add=>
       simp only [Pc]at hbv
       split at hbv
       ·rename_i hle
        have hle:s.length+s'.length≤1099511627776:=Ag hle
        simp only [Option.some.injEq]at hbv;subst hbv
        have l1:sa.size=s.length:=by rw [←h1,List.length_map,Array.length_toList];rfl
        have l2:sb.size=s'.length:=by rw [←h2,List.length_map,Array.length_toList];rfl
        refine⟨.string (sa++sb),?_,.str ?_⟩
        ·simp only [binOp,Op.stringOp]
         rw [if_neg]
         ·rfl
         ·have:IntKind.i64.max=9223372036854775807:=by decide
          rw [this,l1,l2];omega
        ·show(sa++sb).data.toList.map _=s++s'
         rw [←h1,←h2,←List.map_append,ByteArray.data_append,Array.toList_append]
       ·cases hbv
      |eql=>
       simp only [Pc,Option.some.injEq]at hbv;subst hbv
       exact⟨.bool (sa.toList == sb.toList),by simp only [binOp,Op.stringOp];rfl,by rw [Jx h1 h2];exact .bool _⟩
      |neq=>
       simp only [Pc,Option.some.injEq]at hbv;subst hbv
       exact⟨.bool (!(sa.toList == sb.toList)),by simp only [binOp,Op.stringOp];rfl,by rw [Jx h1 h2];exact .bool _⟩
      |_=>simp [Pc]at hbv
     |_=>simp [Fs]at hbv
    ·have hb:Rx op (Aq E 5 t) (isC x || isC y) a b=some u:=by
      cases a <;> first
       |exact absurd ⟨_,_,rfl⟩ hint
       |exact absurd ⟨_,rfl⟩ hstr
       |exact hbv
     have hi: ∀k n,a≠ .int k n:=fun k n e=>hint ⟨k,n,e⟩
     have hs: ∀s,a≠ .str s:=fun s e=>hstr ⟨s,e⟩
     cases op with
     |eql=>
      simp only [Rx]at hb
      split at hb
      ·rename_i q hq
       simp only [Option.some.injEq]at hb;subst hb
       obtain⟨g1,g2,g3⟩:=Pj (w:=w) (op:= .eql) hE hq hxR hyR
       exact⟨.bool q,g1,by rw [Xs _ _ _ (g3 hi hs),Sem.run_bind,g2];rfl,.bool _⟩
      ·cases hb
     |neq=>
      simp only [Rx]at hb
      split at hb
      ·rename_i q hq
       simp only [Option.some.injEq]at hb;subst hb
       obtain⟨g1,g2,g3⟩:=Pj (w:=w) (op:= .neq) hE hq hxR hyR
       exact⟨.bool (not q),g1,by rw [Xt _ _ _ (g3 hi hs),Sem.run_bind,g2];rfl,.bool _⟩
      ·cases hb
     |_=>simp [Rx]at hb
  obtain⟨v',h1,h2,h3⟩:=key
  refine .same hr ?_ h3
  simp only [execOp,ho,Sem.run_bind,h1,h2,Result.andThen_ok,Sem.run_pure]
end
section
variable {P:Program}{E:Env}{w0:Array Obj}{φ: Phi}{h h':H}{w:World}{tm:T AV}{ρ: Operand→Value}{o:Oper}{v:AV}
variable (hr:HR E w0 φ h w.heap)(hρ: RhoR φ tm ρ)
include hr hρ
omit hr hρ in
theorem sf (k:IntKind)(n:Int):(BitVec.ofInt k.bits (if k.signed then -1 else k.max) ^^^ BitVec.ofInt k.bits n).toNat=Nat.sub (Nat.sub (pw k) 1) (toU k n):=by
 have h:BitVec.ofInt k.bits (if k.signed then -1 else k.max)=BitVec.allOnes k.bits:=by cases k <;> decide
 rw [h,BitVec.allOnes_xor,qk]
theorem sg {op:UnOp}{t:TypeId}{x:Operand}(ho:o.op= .unOp op t x)(hx:exec (.un op (opd x)) h tm= .val v h'):Sim1 E w0 φ w h ((execOp ρ o).run P w) v h':=by
 simp only [exec]at hx
 split at hx
 ·rename_i k n hb
  have ea:=VR.int_inv (hb ▸ hρ x)
  split at hx
  ·simp only [R.val.injEq]at hx;obtain⟨rfl,rfl⟩:=hx
   refine .same (v':= .int k (k.wrap (0 - n))) hr ?_ (by rw [Fa];exact .int _ _)
   simp [execOp,ho,ea,Op.unary,Op.intArith]
  ·simp only [R.val.injEq]at hx;obtain⟨rfl,rfl⟩:=hx
   refine .same (v':= .int k (k.wrap ((BitVec.ofInt k.bits (if k.signed then -1 else k.max) ^^^ BitVec.ofInt k.bits n).toNat))) hr ?_ (by rw [Fa,sf];exact .int _ _)
   simp [execOp,ho,ea,Op.unary,Op.intBits]
  ·cases hx
 ·rename_i b hb
  have ea:=VR.bool_inv (hb ▸ hρ x)
  split at hx
  ·simp only [R.val.injEq]at hx;obtain⟨rfl,rfl⟩:=hx
   exact .same (v':= .bool (not b)) hr (by simp [execOp,ho,ea,Op.unary]) (.bool _)
  ·cases hx
 ·cases hx
omit hr hρ in
theorem R5: ∀{l:List AV} {vs:List Value} {s:List Nat},VRs φ l vs→Hs l=some s→vs=s.map (fun n=> .int .u8 (n:Int))∧ ∀n∈s,n≤255
 | [],vs,s,hv,hb=>by cases hv;simp only [Hs,Option.some.injEq]at hb;subst hb;exact⟨rfl,by simp⟩
 |a::l,vs,s,hv,hb=>by
  cases hv with
  |cons ha hs=>
   simp only [Hs]at hb
   split at hb
   ·rename_i n
    split at hb
    ·rename_i r hle hr
     simp only [Option.some.injEq]at hb;subst hb
     obtain⟨h1,h2⟩:=R5 hs hr
     rw [ha.int_inv,h1]
     refine⟨rfl,fun m hm=>?_⟩
     rcases List.mem_cons.1 hm with e|hm
     ·subst e;exact Ag hle
     ·exact h2 m hm
    ·cases hb
   ·cases hb
omit hr hρ in
theorem Pk: ∀(s:List Nat) (acc:ByteArray),(∀n∈s,n≤255)→
  ((s.map fun(m:Nat)=>(m:Int)).foldl (fun(r:ByteArray) (n:Int)=>r.push (UInt8.ofNat n.toNat)) acc).data.toList.map (·.toNat)=acc.data.toList.map (·.toNat)++s
 | [],acc,_=>by simp
 |n::s,acc,hs=>by
  rw [List.map_cons,List.foldl_cons,Pk s _ (fun m hm=>hs m (List.mem_cons_of_mem _ hm)),Int.toNat_natCast]
  have:(acc.push (UInt8.ofNat n)).data.toList=acc.data.toList++ [UInt8.ofNat n]:=by
   show(acc.data.push _).toList=_;simp
  rw [this,List.map_append,List.append_assoc]
  have hn:(UInt8.ofNat n).toNat=n:=by
   have:=hs n (List.mem_cons_self ..)
   simp;omega
  simp [hn]
theorem ki (hE:EnvOk P E){s d e:TypeId}{x:Operand}(hs:und E s=some (.slice e))(hd:und E d=some .string)(he:und E e=some (.int .u8))(ho:o.op= .convert s d x)
  (hx:exec (.b2s (opd x)) h tm= .val v h'):Sim1 E w0 φ w h ((execOp ρ o).run P w) v h':=by
 simp only [exec]at hx
 split at hx
 ·rename_i hb
  have ea:=VR.nils_inv (hb ▸ hρ x)
  simp only [R.val.injEq]at hx;obtain⟨rfl,rfl⟩:=hx
  refine .same (v':= .string .empty) hr ?_ (.str rfl)
  simp [execOp,ho,ea,convert,Ac hE hs,Ac hE hd,Ac hE he,Conv.bytesToString]
 ·rename_i b k n cap hb
  obtain⟨l,off,c',hφ,ea,hle,hor⟩:=VR.slc_inv (hb ▸ hρ x)
  split at hx
  ·rename_i xs hc
   split at hx
   ·rename_i bs hbs
    simp only [R.val.injEq]at hx;obtain⟨rfl,rfl⟩:=hx
    obtain⟨vs,h1,h2,h3⟩:=hr.cellsAt hφ hc off (fun hn=>by
     rcases hor with⟨_,e,ho⟩|⟨_,_,_,ho⟩
     ·exact ho (by omega)
     ·exact ho hn)
    obtain⟨h4,h5⟩:=R5 h2 hbs
    have hload:=D6 P h3
    rw [h1,h4]at hload
    have hmm:(bs.map fun(n:Nat)=>Value.int .u8 (n:Int))=(bs.map fun(m:Nat)=>(m:Int)).map (Value.int .u8):=by simp
    rw [hmm]at hload
    have hrun:=run_bytesToString (P:=P) w ⟨l.cb,off,none⟩ n c' (bs.map fun(m:Nat)=>(m:Int)) hload
    refine .same (v':= .string ((bs.map fun(m:Nat)=>(m:Int)).foldl (fun(r:ByteArray) (n:Int)=>r.push (UInt8.ofNat n.toNat)) ByteArray.empty)) hr ?_ (.str ?_)
    ·simp only [execOp,ho,ea,Sem.run_bind,run_convert_bytes_string w s d e _ n c' (Gx hE hs) (Gx hE he) (Gx hE hd),hrun,Result.andThen_ok,Sem.run_pure]
    ·rw [Pk bs _ h5];rfl
   ·cases hx
  ·cases hx
 ·cases hx
theorem Ud (hE:EnvOk P E){s e e':TypeId}{x:Operand}(hs:und E s=some (.slice e))(hs':und E s=some (.slice e'))(he:und E e'=some (.int .u8))(ho:o.op= .convert s s x)
  (hx:exec (.cslice (opd x)) h tm= .val v h'):Sim1 E w0 φ w h ((execOp ρ o).run P w) v h':=by
 simp only [exec]at hx
 split at hx
 ·rename_i b k n cap hb
  have hxR:=hb ▸ hρ x
  obtain⟨l,off,c',hφ,ea,hle,hor⟩:=VR.slc_inv hxR
  split at hx
  ·rename_i nn c hc
   simp only [R.val.injEq]at hx;obtain⟨rfl,rfl⟩:=hx
   obtain⟨cs,et,h1,h2,h3,h4⟩:=hr.cellsOf_blkW hφ hc
   refine⟨φ,ρ x,w.freeze ⟨l.cb,cs.size,none⟩ 1,.refl _ _,.inl ?_,hxR,?_,⟨rfl,rfl,rfl⟩⟩
   ·have hsh:w.shape? l.cb=some (et,cs.size):=by simp [World.shape?,h1]
    simp [execOp,ho,ea,convert,Ac hE hs',Ac hE he,markStringish,hsh]
   ·have hd:=hr.del b
    have hlt:=hr.cbound _ _ hφ
    refine⟨hd.bound,?_,?_,hd.inj,hd.own,?_,?_⟩
    ·intro c k hk;simpa [World.freeze]using hd.cbound c k hk
    ·intro c k y hk hy
     have hne:l.cb≠k.cb:=by
      intro e'
      rw [H.get_del]at hy
      by_cases hcb:c=b
      ·rw [if_pos hcb]at hy;cases hy
      ·rw [if_neg hcb]at hy
       exact hcb (hr.inj _ _ _ _ _ _ hφ hk hc hy rfl e').symm
     obtain⟨p,p1,p2⟩:=hd.blk c k y hk hy
     refine⟨p,?_,p2⟩
     simp only [World.freeze,Nat.one_ne_zero,if_false,Array.getElem?_modify]
     rw [if_neg hne];exact p1
    ·intro c hcw
     have:=hr.own _ _ _ hφ hc rfl
     simp only [World.freeze,Nat.one_ne_zero,if_false,Array.getElem?_modify]
     rw [if_neg (by omega)];exact hr.old c hcw
    ·simpa [World.freeze]using hr.size
  ·cases hx
 ·cases hx
theorem R6 (hE:EnvOk P E){t e:TypeId}{s:Nat}{z:List AV}{lo c:Operand}(hu:und E t=some (.slice e))(hs:Bv E e=some s)(hz:Ed E e=some z)(ho:o.op= .makeSlice t lo c)
  (hx:exec (.mkslice (C5 E e) z (opd lo) (opd c)) h tm= .val v h'):Sim1 E w0 φ w h ((execOp ρ o).run P w) v h':=by
 simp only [exec]at hx
 split at hx
 ·rename_i k1 ln hl
  have el:=VR.int_inv (hl ▸ hρ lo)
  split at hx
  ·rename_i k2 cn hc
   have ec:=VR.int_inv (hc ▸ hρ c)
   split at hx
   ·rename_i h1 h2 h3
    have h1:ln≤cn:=Ag h1
    have h2:cn*C5 E e≤281474976710656:=Ag h2
    have h3:cn≤281474976710656:=Ag h3
    simp only [R.val.injEq]at hx;obtain⟨rfl,rfl⟩:=hx
    obtain⟨u,i,z1,z2,z3,z4,z5⟩:=Db hE hz w
    obtain⟨s1,s2⟩:=Bi hE hs w
    have hi:i.size=s:=by
     unfold Bv at hs;rw [z1]at hs;simp only at hs
     split at hs
     ·simp at hs
     ·simpa using hs
    have hbt:C5 E e=i.bytes:=by unfold C5;rw [z1]
    rw [hbt]at h2
    obtain⟨hle,hr'⟩:=hr.newCells e (ac (z5 φ) cn (cn*s) (by rw [z3,hi]))
    have hwr: ∀n:Nat,n≤281474976710656→IntKind.i64.wrap (n:Int)=n:=by
     intro n hn
     have h:(n:Int) % (2 ^ IntKind.i64.bits:Int)=n:=Int.emod_eq_of_lt (by omega) (by simp [IntKind.bits];omega)
     unfold IntKind.wrap
     rw [h]
     have: ¬((n:Int) ≥ 2 ^ (IntKind.i64.bits - 1)):=by simp [IntKind.bits];omega
     simp [IntKind.signed,this]
    refine⟨_,.slice (some ⟨w.heap.size,0,none⟩) ln cn,w.alloc (.cells ((Array.range (cn*s)).map fun i=>u.cells[i % u.cells.size]!) e),⟨hle,fun _ hb=>Phi.upd_ne _ _ hb⟩,.inl ?_,?_,hr',⟨rfl,rfl,rfl⟩⟩
    ·have t1: ¬((cn:Int)<0):=by omega
     have t2: ¬((i.bytes:Int)*(cn:Int)>2 ^ 48):=by
      have:((cn*i.bytes:Nat):Int)≤281474976710656:=by omega
      rw [Int.natCast_mul,Int.mul_comm]at this
      omega
     have t3: ¬((ln:Int)<0):=by omega
     have t4: ¬((ln:Int)>(cn:Int)):=by omega
     simp only [execOp,ho,Instr.makeSlice,Sem.run_bind,Ac hE hu,Result.andThen_ok,el,ec,asInt,asIntOf,Sem.run_pure,B5 hE z1,hwr ln (by omega),hwr cn h3]
     have hc1:IntKind.i64.wrap (Int.ofNat cn)=(cn:Int):=hwr cn h3
     have hl1:IntKind.i64.wrap (Int.ofNat ln)=(ln:Int):=hwr ln (by omega)
     have hcond:(decide ((cn:Int)<0) || decide ((i.bytes:Int)*(cn:Int)>2 ^ 48) || decide ((ln:Int)<0) || decide ((ln:Int)>(cn:Int)))=false:=by
      simp only [decide_eq_false t1,decide_eq_false t2,decide_eq_false t3,decide_eq_false t4,Bool.or_false]
     simp only [hc1,hl1,hcond,Bool.false_eq_true,if_false,Sem.run_bind,run_askRoom,s1,Result.andThen_ok,Int.toNat_natCast]
     by_cases h0:cn*s=0
     ·have hn:cn=0:=by rcases Nat.mul_eq_zero.1 h0 with h|h;exact h;exact absurd h s2
      rw [if_pos h0]
      simp only [Sem.run_bind,Sem.run_pure,Result.andThen_ok]
      have hm:((Array.range (cn*s)).map fun i=>(#[]:Array Value)[i % (#[]:Array Value).size]!)=((Array.range (cn*s)).map fun i=>u.cells[i % u.cells.size]!):=by simp [h0]
      rw [hm]
      simp [newRow]
     ·rw [if_neg h0]
      simp only [Sem.run_bind,z2,Result.andThen_ok,Sem.run_pure]
      simp [newRow]
    ·have hb':cn<Aa:=by unfold Aa;omega
     have:=VR.slcX (b:=h.n) (o:=0) (n:=ln) (c:=cn) (off:=0) (Phi.upd_same φ h.n ⟨w.heap.size,0,((Array.range (cn*s)).map fun i=>u.cells[i % u.cells.size]!).size⟩) hb' h1 (fun _=>rfl)
     simpa using this
   ·cases hx
  ·cases hx
 ·cases hx
omit hr in
theorem Gl {x:Option Operand}{r:Option Nat}(h:Cq tm (x.map opd)=some r):(x=none∧r=none)∨ ∃y k n,x=some y∧r=some n∧ρ y= .int k ((n:Nat):Int):=by
 cases x with
 |none=>simp only [Option.map_none,Cq,Option.some.injEq]at h;subst h;exact .inl ⟨rfl,rfl⟩
 |some x=>
  simp only [Option.map_some,Cq]at h
  split at h
  ·rename_i k n hb
   simp only [Option.some.injEq]at h;subst h
   have:=hρ x
   rw [hb]at this
   exact .inr ⟨x,k,n,rfl,rfl,this.int_inv⟩
  ·cases h
omit hr hρ in
theorem A7 {k:IntKind}{i y:Nat}{c:BoundsCode}(h:i≤y):(Instr.sliceBound (.int k (i:Int)) y c).run P w= .ok i w:=by
 simp [Instr.sliceBound,asIntOf,h]
omit hr in
theorem No {isS:Bool}{len cap cap':Nat}{lo hi mx:Option Operand}{l h m:Option Nat}{a b:Nat}{c:Option Nat}
  (hl:Cq tm (lo.map opd)=some l) (hh:Cq tm (hi.map opd)=some h) (hm:Cq tm (mx.map opd)=some m) (hb:Kv len cap l h m=some (a,b,c))
  (hcap:(cap<Aa∧cap'=cap)∨(Aa≤cap∧len≤cap')):
  (Instr.sliceBounds isS len cap' (lo.map ρ) (hi.map ρ) (mx.map ρ)).run P w= .ok (a,b,c.getD cap') w∧a≤b∧b≤c.getD cap'∧(∀d,c=some d→d≤cap'∧(Aa≤cap→d≤len))∧
   (c=none→Aa≤cap∧b≤len):=by
 have main: ∀top:Nat,top≤cap'→(Aa≤cap→top≤len)→ ∀e:Option Nat,e.getD cap'=cap'→(∀d,e=some d→d≤cap'∧(Aa≤cap→d≤len))→(e=none→Aa≤cap)→
   Lz len top e l h m=some (a,b,c)→
   (Instr.sliceBounds isS len cap' (lo.map ρ) (hi.map ρ) (mx.map ρ)).run P w= .ok (a,b,c.getD cap') w∧a≤b∧b≤c.getD cap'∧(∀d,c=some d→d≤cap'∧(Aa≤cap→d≤len))∧
   (c=none→Aa≤cap∧b≤len):=by
  intro top ht1 ht2 e he1 he2 he3 hb
  unfold Lz at hb
  rcases Gl (hρ:= hρ) hm with⟨rfl,rfl⟩|⟨ym,km,nm,rfl,rfl,em⟩
  ·simp only at hb
   split at hb
   ·rename_i b1 b2
    have b1:=Ag b1
    have b2:=Ag b2
    simp only [Option.some.injEq,Prod.mk.injEq]at hb
    obtain⟨rfl,rfl,rfl⟩:=hb
    have r1:h.getD len≤cap':=Nat.le_trans b1 ht1
    refine⟨?_,b2,by rw [he1];exact r1,he2,fun hn=>⟨he3 hn,Nat.le_trans b1 (ht2 (he3 hn))⟩⟩
    rw [he1]
    rcases Gl (hρ:= hρ) hh with⟨rfl,rfl⟩|⟨yh,kh,nh,rfl,rfl,eh⟩
    ·simp only [Option.getD_none]at b2
     rcases Gl (hρ:= hρ) hl with⟨rfl,rfl⟩|⟨yl,kl,nl,rfl,rfl,el⟩
     ·simp [Instr.sliceBounds]
     ·simp only [Option.getD_some]at b2
      simp [Instr.sliceBounds,el,A7 b2]
    ·simp only [Option.getD_some]at b2 r1
     rcases Gl (hρ:= hρ) hl with⟨rfl,rfl⟩|⟨yl,kl,nl,rfl,rfl,el⟩
     ·simp [Instr.sliceBounds,eh,A7 r1]
     ·simp only [Option.getD_some]at b2
      simp [Instr.sliceBounds,eh,el,A7 r1,A7 b2]
   ·cases hb
  ·simp only at hb
   rcases Gl (hρ:= hρ) hh with⟨rfl,rfl⟩|⟨yh,kh,nh,rfl,rfl,eh⟩
   ·simp at hb
   ·simp only at hb
    split at hb
    ·rename_i b1 b2 b3
     have b1:=Ag b1
     have b2:=Ag b2
     have b3:=Ag b3
     simp only [Option.some.injEq,Prod.mk.injEq]at hb
     obtain⟨rfl,rfl,rfl⟩:=hb
     have r1:nm≤cap':=Nat.le_trans b1 ht1
     refine⟨?_,b3,b2,fun d hd=>by cases hd;exact⟨r1,fun h=>Nat.le_trans b1 (ht2 h)⟩,fun hn=>by cases hn⟩
     rcases Gl (hρ:= hρ) hl with⟨rfl,rfl⟩|⟨yl,kl,nl,rfl,rfl,el⟩
     ·simp [Instr.sliceBounds,em,eh,A7 r1,A7 b2]
     ·simp only [Option.getD_some]at b3
      simp [Instr.sliceBounds,em,eh,el,A7 r1,A7 b2,A7 b3]
    ·cases hb
 unfold Kv at hb
 rcases hcap with⟨h1,h2⟩|⟨h1,h2⟩
 ·have hq:Nat.ble Aa cap=false:=by rw [ble_eq];exact decide_eq_false (by omega)
  simp only [hq]at hb
  exact main cap (by omega) (fun h=>by omega) (some cap) (by simp [h2]) (fun d hd=>by cases hd;exact⟨by omega,fun h=>by omega⟩) (fun hn=>by cases hn) hb
 ·have hq:Nat.ble Aa cap=true:=by rw [ble_eq];exact decide_eq_true h1
  simp only [hq]at hb
  exact main len h2 (fun _=>Nat.le_refl _) none rfl (fun d hd=>by cases hd) (fun _=>h1) hb
omit hr hρ in
theorem R7 {size b k n cap cap' off:Nat}{lo hi mx:Option Nat}{loc:Loc}{a c:Nat}{m:Option Nat}{u:AV}(hφ: φ b=some loc)(hbn:Kv n cap lo hi mx=some (a,c,m))
  (hv:El size b k n cap lo hi mx=some u) (hac:a≤c) (hcm:c≤m.getD cap') (hd: ∀d,m=some d→d≤cap'∧(Aa≤cap→d≤n)) (hnone:m=none→Aa≤cap∧c≤n)
  (hX:cap<Aa→cap'=cap∧(0<cap→off=loc.base+k)) (hU:Aa≤cap→ ∃es,cap=Aa+es∧off+cap'*es≤loc.csz∧(0<n→off=loc.base+k)) (hnc:n≤cap'):
  VR φ u (.slice (some (if m.getD cap'=a then⟨loc.cb,off,none⟩else⟨loc.cb,off+a*size,none⟩)) (c - a) (m.getD cap' - a)):=by
 unfold El at hv
 rw [hbn]at hv
 cases m with
 |some d=>
  simp only at hv
  split at hv
  ·rename_i hlt
   have hlt:d+1≤Aa:=Ag hlt
   simp only [Option.some.injEq]at hv;subst hv
   obtain⟨h1,h2⟩:=hd d rfl
   simp only [Option.getD_some]at hcm ⊢
   have hlim:d - a<Aa:=by omega
   by_cases hda:d=a
   ·subst hda
    have hb:Nat.beq d d=true:=by simp
    rw [if_pos rfl,hb]
    exact .slcX hφ hlim (by simp only [Nat.sub_eq];omega) (fun h=>by simp only [Nat.sub_eq]at h;omega)
   ·have hb:Nat.beq d a=false:=by
     cases hq:Nat.beq d a with
     |false=>rfl
     |true=>exact absurd (Aj hq) hda
    rw [if_neg hda,hb]
    refine .slcX hφ hlim (by simp only [Nat.sub_eq];omega) (fun h=>?_)
    have hoff:off=loc.base+k:=by
     rcases Nat.lt_or_ge cap Aa with hc|hc
     ·have:=hX hc;exact this.2 (by omega)
     ·obtain⟨es,_,_,h3⟩:=hU hc
      have:=h2 hc
      exact h3 (by omega)
    rw [hoff];show _=loc.base+(k+a*size);omega
  ·cases hv
 |none=>
  obtain⟨h1,h2⟩:=hnone rfl
  obtain⟨es,e1,e2,e3⟩:=hU h1
  simp only at hv
  split at hv
  ·rename_i hes
   have hes:cap=Aa+size:=Aj hes
   simp only [Option.some.injEq]at hv;subst hv
   have hse:es=size:=by omega
   subst hse
   rw [hes]
   simp only [Option.getD_none]at hcm ⊢
   by_cases hca:cap'=a
   ·rw [if_pos hca]
    refine .slcU (k:=es) hφ (by simp only [Nat.sub_eq];omega) ?_ (fun h=>by simp only [Nat.sub_eq]at h;omega)
    have:(cap' - a)*es≤cap'*es:=Nat.mul_le_mul_right _ (Nat.sub_le _ _)
    omega
   ·rw [if_neg hca]
    refine .slcU (k:=es) hφ (by simp only [Nat.sub_eq];omega) ?_ (fun h=>?_)
    ·have:a*es+(cap' - a)*es=cap'*es:=by rw [←Nat.add_mul];congr 1;omega
     omega
    ·simp only [Nat.sub_eq]at h
     rw [e3 (by omega)];show _=loc.base+(k+a*es);omega
  ·cases hv
theorem Ue (hE:EnvOk P E){t e:TypeId}{s:Nat}{x:Operand}{lo hi mx:Option Operand}(hu:und E t=some (.slice e))(hs:Bv E e=some s)(ho:o.op= .slice t x lo hi mx)
  (hx:exec (.sliceS s (opd x) (lo.map opd) (hi.map opd) (mx.map opd)) h tm= .val v h'):Sim1 E w0 φ w h ((execOp ρ o).run P w) v h':=by
 simp only [exec]at hx
 split at hx
 ·rename_i l hh m hl hhh hm
  have hat:(execOp ρ o).run P w=((Instr.slice t (ρ x) (lo.map ρ) (hi.map ρ) (mx.map ρ)).run P w).andThen fun v w=> .ok (.value v) w:=by
   simp only [execOp,ho,Instr.sliceAt,Sem.run_bind,Ac hE hu,Result.andThen_ok,Sem.run_pure]
  split at hx
  ·rename_i hb
   have ea:=VR.nils_inv (hb ▸ hρ x)
   split at hx
   ·rename_i q hq
    obtain⟨a,c,d⟩:=q
    simp only [R.val.injEq]at hx;obtain⟨rfl,rfl⟩:=hx
    obtain⟨r1,r2,r3,r4,r5⟩:=No (hρ:= hρ) (P:=P) (w:=w) (isS:=true) hl hhh hm hq (.inl ⟨by unfold Aa;omega,rfl⟩)
    have hz:d.getD 0=0:=by
     cases d with
     |none=>rfl
     |some d=>have:=(r4 d rfl).1;simp;omega
    rw [hz]at r3 r1
    have ha:a=0:=by omega
    have hc:c=0:=by omega
    subst ha;subst hc
    refine .same (v':= .slice none 0 0) hr ?_ .nils
    rw [hat,ea]
    simp [Instr.slice,Ac hE hu,r1,(Bi hE hs w).1]
   ·cases hx
  ·rename_i b k n cap hb
   obtain⟨loc,off,c',hφ,ea,hle,hor⟩:=VR.slc_inv (hb ▸ hρ x)
   cases hv:El s b k n cap l hh m with
   |none=>rw [hv]at hx;simp [vo]at hx
   |some u=>
    rw [hv]at hx;simp only [vo,R.val.injEq]at hx;obtain⟨rfl,rfl⟩:=hx
    have hbn: ∃a c d,Kv n cap l hh m=some (a,c,d):=by
     unfold El at hv
     cases hq:Kv n cap l hh m with
     |none=>rw [hq]at hv;cases hv
     |some q=>exact⟨q.1,q.2.1,q.2.2,rfl⟩
    obtain⟨a,c,d,hbn⟩:=hbn
    have hcap:(cap<Aa∧c'=cap)∨(Aa≤cap∧n≤c'):=by
     rcases hor with⟨h1,h2,_⟩|⟨es,h1,_,_⟩
     ·exact .inl ⟨h1,h2⟩
     ·exact .inr ⟨by omega,hle⟩
    obtain⟨r1,r2,r3,r4,r5⟩:=No (hρ:= hρ) (P:=P) (w:=w) (isS:=true) hl hhh hm hbn hcap
    have hR:=R7 hφ hbn hv r2 r3 r4 r5 (fun h=>by
     rcases hor with⟨h1,h2,h3⟩|⟨es,h1,_,_⟩
     ·exact⟨h2,h3⟩
     ·omega) (fun h=>by
     rcases hor with⟨h1,h2,h3⟩|⟨es,h1,h2,h3⟩
     ·omega
     ·exact⟨es,h1,h2,h3⟩) hle
    refine .same hr ?_ hR
    rw [hat,ea]
    simp [Instr.slice,Ac hE hu,r1,(Bi hE hs w).1,Ca]
    split <;> rfl
  ·cases hx
 ·cases hx
end
end Go.Ev
