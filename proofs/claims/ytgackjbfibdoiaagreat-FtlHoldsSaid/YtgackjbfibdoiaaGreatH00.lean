import GoSem.Step
import Derived.Calls
import Derived.Laws.Cells
import Derived.Laws.World
import Derived.Laws.Sem
import Derived.Laws.StructEq
import Derived.Laws.BytesString
import Derived.Laws.Append
import Derived.Laws.AppendOwn
set_option linter.all false
noncomputable section
namespace Go.Ev
theorem BD:type_of% @Nat.le_refl:= @Nat.le_refl
theorem DA:type_of% @List.getElem?_eq_getElem:= @List.getElem?_eq_getElem
theorem AM:type_of% @if_neg:= @if_neg
theorem Ck:type_of% @List.mem_cons_of_mem:= @List.mem_cons_of_mem
theorem AP:type_of% @if_pos:= @if_pos
theorem FE:type_of% @List.getElem?_eq_some_iff:= @List.getElem?_eq_some_iff
theorem CM:type_of% @decide_eq_true:= @decide_eq_true
theorem DB:type_of% @Option.some.injEq:= @Option.some.injEq
theorem CW:type_of% @decide_eq_false:= @decide_eq_false
theorem DX:type_of% @List.length_append:= @List.length_append
theorem DW:type_of% @List.mem_cons_self:= @List.mem_cons_self
theorem DC:type_of% @List.length_map:= @List.length_map
theorem EV:type_of% @List.mem_singleton:= @List.mem_singleton
theorem CN:type_of% @Nat.zero_le:= @Nat.zero_le
theorem EO:type_of% @Result.andThen_ok:= @Result.andThen_ok
theorem DD:type_of% @List.mem_cons:= @List.mem_cons
theorem GH:type_of% @List.getElem?_set_ne:= @List.getElem?_set_ne
theorem FL:type_of% @Int.toNat_natCast:= @Int.toNat_natCast
theorem DK:type_of% @List.mem_map:= @List.mem_map
theorem GD:type_of% @List.getElem?_map:= @List.getElem?_map
theorem FX:type_of% @List.length_cons:= @List.length_cons
theorem I4:type_of% @List.mem_of_getElem?:= @List.mem_of_getElem?
theorem EH:type_of% @Sem.run_bind:= @Sem.run_bind
theorem EM:type_of% @Nat.le_trans:= @Nat.le_trans
theorem IF:type_of% @Nat.lt_of_lt_of_le:= @Nat.lt_of_lt_of_le
theorem FU:type_of% @List.map_cons:= @List.map_cons
theorem GU:type_of% @List.mem_append:= @List.mem_append
theorem MZ:type_of% @List.getD_eq_getElem?_getD:= @List.getD_eq_getElem?_getD
theorem LN:type_of% @List.take_of_length_le:= @List.take_of_length_le
theorem OB:type_of% @List.getElem?_append_right:= @List.getElem?_append_right
theorem N0:type_of% @List.getElem?_take_of_lt:= @List.getElem?_take_of_lt
theorem IS:type_of% @List.length_take:= @List.length_take
theorem IG:type_of% @List.map_append:= @List.map_append
theorem QC:type_of% @List.getElem?_append_left:= @List.getElem?_append_left
theorem KP:type_of% @List.flatMap_cons:= @List.flatMap_cons
theorem SR:type_of% @Array.getElem?_setIfInBounds:= @Array.getElem?_setIfInBounds
theorem KQ:type_of% @Bool.and_eq_true:= @Bool.and_eq_true
theorem LO:type_of% @List.take_add_one:= @List.take_add_one
theorem LP:type_of% @decide_eq_true_eq:= @decide_eq_true_eq
theorem JZ:type_of% @List.mem_filter:= @List.mem_filter
theorem MN:type_of% @List.getElem?_drop:= @List.getElem?_drop
theorem OW:type_of% @List.getElem?_eq_none:= @List.getElem?_eq_none
theorem LC:type_of% @List.getElem_mem:= @List.getElem_mem
theorem IH:type_of% @Sem.run_pure:= @Sem.run_pure
theorem KR:type_of% @Option.map_some:= @Option.map_some
theorem ST:type_of% @List.drop_eq_getElem_cons:= @List.drop_eq_getElem_cons
theorem SU:type_of% @Array.getElem?_eq_getElem:= @Array.getElem?_eq_getElem
theorem MC:type_of% @Option.getD_some:= @Option.getD_some
theorem KI:type_of% @List.mem_range:= @List.mem_range
theorem QS:type_of% @List.getElem?_set_self:= @List.getElem?_set_self
theorem OX:type_of% @List.flatMap_append:= @List.flatMap_append
theorem SV:type_of% @Option.isSome_iff_exists:= @Option.isSome_iff_exists
theorem LQ:type_of% @List.length_set:= @List.length_set
theorem NP:type_of% @List.append_assoc:= @List.append_assoc
theorem NA:type_of% @List.take_length:= @List.take_length
theorem MO:type_of% @List.append_nil:= @List.append_nil
theorem LT:type_of% @List.drop_zero:= @List.drop_zero
theorem NQ:type_of% @Nat.lt_succ_self:= @Nat.lt_succ_self
theorem OC:type_of% @Nat.le_add_right:= @Nat.le_add_right
theorem Xr:type_of% @Array.getD_eq_getD_getElem?:= @Array.getD_eq_getD_getElem?
theorem RP:type_of% @Nat.mul_le_mul_left:= @Nat.mul_le_mul_left
theorem RQ:type_of% @List.mem_map_of_mem:= @List.mem_map_of_mem
theorem NB:type_of% @Nat.mul_le_mul:= @Nat.mul_le_mul
theorem OD:type_of% @Nat.not_lt_zero:= @Nat.not_lt_zero
theorem RR:type_of% @Bool.false_eq_true:= @Bool.false_eq_true
theorem TY:type_of% @List.mem_append_left:= @List.mem_append_left
theorem QT:type_of% @List.ext_getElem?:= @List.ext_getElem?
theorem UY:type_of% @Array.getElem?_toList:= @Array.getElem?_toList
theorem UZ:type_of% @List.mem_iff_getElem?:= @List.mem_iff_getElem?
theorem V0:type_of% @List.length_filter_le:= @List.length_filter_le
theorem VA:type_of% @List.length_replicate:= @List.length_replicate
theorem MD:type_of% @Nat.zero_add:= @Nat.zero_add
theorem HT:type_of% @congrArg:= @congrArg
theorem Xs:type_of% @Option.map_eq_some_iff:= @Option.map_eq_some_iff
theorem RS:type_of% @List.all_eq_true:= @List.all_eq_true
theorem RT:type_of% @List.filter_cons:= @List.filter_cons
theorem Yt:type_of% @Int.eq_ofNat_of_zero_le:= @Int.eq_ofNat_of_zero_le
theorem SW:type_of% @List.length_drop:= @List.length_drop
theorem WP:type_of% @Array.length_toList:= @Array.length_toList
theorem RU:type_of% @List.nodup_cons:= @List.nodup_cons
theorem RV:type_of% @List.nil_append:= @List.nil_append
theorem OE:type_of% @Nat.beq_refl:= @Nat.beq_refl
theorem Xt:type_of% @Nat.mul_le_mul_right:= @Nat.mul_le_mul_right
theorem PP:type_of% @Nat.lt_or_ge:= @Nat.lt_or_ge
theorem Zf:type_of% @List.mem_append_right:= @List.mem_append_right
theorem aq:type_of% @List.mem_singleton_self:= @List.mem_singleton_self
theorem Yu:type_of% @List.getElem?_range:= @List.getElem?_range
theorem Yv:type_of% @List.length_pos_iff:= @List.length_pos_iff
theorem VB:type_of% @List.length_nil:= @List.length_nil
theorem Xv:type_of% @of_decide_eq_true:= @of_decide_eq_true
theorem KS:type_of% @if_false:= @if_false
theorem QD:type_of% @Nat.le_succ:= @Nat.le_succ
theorem WQ:type_of% @List.range_succ:= @List.range_succ
theorem fY:type_of% @Array.getElem?_eq_some_iff:= @Array.getElem?_eq_some_iff
theorem Yw:type_of% @Bool.eq_false_iff:= @Bool.eq_false_iff
theorem fZ:type_of% @Nat.shiftRight_eq_div_pow:= @Nat.shiftRight_eq_div_pow
theorem fe:type_of% @List.pairwise_iff_getElem:= @List.pairwise_iff_getElem
theorem PQ:type_of% @Nat.ble_eq:= @Nat.ble_eq
theorem ar:type_of% @List.map_congr_left:= @List.map_congr_left
theorem RW:type_of% @Nat.mul_one:= @Nat.mul_one
theorem ah:type_of% @List.getElem_of_mem:= @List.getElem_of_mem
theorem TV:type_of% @Nat.add_zero:= @Nat.add_zero
theorem TW:type_of% @step_lone_go:= @step_lone_go
theorem ZY:type_of% @List.length_range:= @List.length_range
theorem fJ:type_of% @List.getElem?_cons_succ:= @List.getElem?_cons_succ
theorem SQ:type_of% @Nat.mul_add:= @Nat.mul_add
theorem cO:type_of% @List.mem_of_mem_take:= @List.mem_of_mem_take
theorem Yr:type_of% @List.cons.injEq:= @List.cons.injEq
theorem ZZ:type_of% @Option.bind_some:= @Option.bind_some
theorem cP:type_of% @List.take_succ_cons:= @List.take_succ_cons
theorem cQ:type_of% @List.map_eq_nil_iff:= @List.map_eq_nil_iff
theorem TX:type_of% @Nat.add_mul:= @Nat.add_mul
theorem fK:type_of% @List.take_append_drop:= @List.take_append_drop
theorem WK:type_of% @Nat.sub_zero:= @Nat.sub_zero
theorem WL:type_of% @List.map_map:= @List.map_map
theorem WM:type_of% @Nat.mul_comm:= @Nat.mul_comm
theorem Za:type_of% @Option.some.inj:= @Option.some.inj
theorem jJ:type_of% @List.length_eq_zero_iff:= @List.length_eq_zero_iff
theorem jK:type_of% @Array.getElem?_eq_none:= @Array.getElem?_eq_none
theorem Xq:type_of% @Nat.sub_self:= @Nat.sub_self
theorem nA:type_of% @List.getElem?_take_eq_none:= @List.getElem?_take_eq_none
theorem aj:type_of% @Option.map_none:= @Option.map_none
theorem ak:type_of% @List.find?_cons:= @List.find?_cons
theorem an:type_of% @Nat.div_le_self:= @Nat.div_le_self
theorem nB:type_of% @List.findIdx?_eq_none_iff:= @List.findIdx?_eq_none_iff
theorem nC:type_of% @Decidable.byContradiction:= @Decidable.byContradiction
theorem nD:type_of% @Nat.le_of_mul_le_mul_left:= @Nat.le_of_mul_le_mul_left
theorem jL:type_of% @Nat.eq_of_beq_eq_true:= @Nat.eq_of_beq_eq_true
theorem fL:type_of% @Nat.pos_of_ne_zero:= @Nat.pos_of_ne_zero
theorem UX:type_of% @Nat.mod_lt:= @Nat.mod_lt
theorem cR:type_of% @Nat.mod_eq_of_lt:= @Nat.mod_eq_of_lt
theorem cS:type_of% @Option.getD_none:= @Option.getD_none
theorem Ys:type_of% @Nat.succ_mul:= @Nat.succ_mul
theorem qv:type_of% @List.getElem?_replicate_of_lt:= @List.getElem?_replicate_of_lt
theorem qw:type_of% @List.take_append_of_le_length:= @List.take_append_of_le_length
theorem fM:type_of% @List.nodup_append:= @List.nodup_append
theorem nE:type_of% @List.filter_cons_of_pos:= @List.filter_cons_of_pos
theorem nF:type_of% @List.filter_cons_of_neg:= @List.filter_cons_of_neg
theorem cT:type_of% @Bool.or_eq_true:= @Bool.or_eq_true
theorem jM:type_of% @Array.toList_append:= @Array.toList_append
theorem Zb:type_of% @List.map_nil:= @List.map_nil
theorem Zc:type_of% @Nat.mul_succ:= @Nat.mul_succ
theorem fN:type_of% @Nat.div_eq_of_lt:= @Nat.div_eq_of_lt
theorem fO:type_of% @List.flatMap_nil:= @List.flatMap_nil
theorem fQ:type_of% @List.getElem_map:= @List.getElem_map
theorem jO:type_of% @List.filter_append:= @List.filter_append
theorem nG:type_of% @List.length_singleton:= @List.length_singleton
theorem fR:type_of% @List.foldl_cons:= @List.foldl_cons
theorem fS:type_of% @List.append_inj:= @List.append_inj
theorem Zd:type_of% @Sem.runT_eq:= @Sem.runT_eq
theorem jP:type_of% @List.foldl_append:= @List.foldl_append
theorem qy:type_of% @Nat.pos_of_mul_pos_right:= @Nat.pos_of_mul_pos_right
theorem nH:type_of% @Int.toNat_of_nonneg:= @Int.toNat_of_nonneg
theorem jQ:type_of% @List.nodup_range:= @List.nodup_range
theorem fT:type_of% @List.nodup_nil:= @List.nodup_nil
theorem nJ:type_of% @Int.natCast_nonneg:= @Int.natCast_nonneg
theorem cU:type_of% @Nat.succ_pos:= @Nat.succ_pos
theorem nK:type_of% @Nat.lt_of_le_of_lt:= @Nat.lt_of_le_of_lt
theorem nL:type_of% @Nat.xor_lt_two_pow:= @Nat.xor_lt_two_pow
theorem qz:type_of% @List.length_pos_of_mem:= @List.length_pos_of_mem
theorem jR:type_of% @Int.natCast_mul:= @Int.natCast_mul
theorem jT:type_of% @Nat.div_add_mod:= @Nat.div_add_mod
theorem jU:type_of% @Nat.le_max_left:= @Nat.le_max_left
theorem fU:type_of% @Nat.add_assoc:= @Nat.add_assoc
theorem fV:type_of% @Prod.mk.injEq:= @Prod.mk.injEq
theorem nM:type_of% @List.getElem?_set:= @List.getElem?_set
theorem jV:type_of% @Int.ofNat.inj:= @Int.ofNat.inj
theorem jW:type_of% @Nat.lt_irrefl:= @Nat.lt_irrefl
theorem jX:type_of% @Bool.or_false:= @Bool.or_false
theorem WN:type_of% @if_true:= @if_true
theorem fW:type_of% @decide_true:= @decide_true
theorem nN:type_of% @List.mapM_cons:= @List.mapM_cons
theorem jY:type_of% @Nat.zero_mul:= @Nat.zero_mul
theorem nO:type_of% @List.take_zero:= @List.take_zero
theorem fX:type_of% @Array.ext':= @Array.ext'
theorem jZ:type_of% @Nat.one_mul:= @Nat.one_mul
theorem om{p:Prop}(h:p:=by omega):p:=h
theorem za{p:Prop}(h:p:=by exact AH):p:=h
theorem uc{p:Prop}(h:p:=by exact AG):p:=h
theorem W0{p:Prop}(h:p:=by simp):p:=h
theorem W1{p:Prop}(h:p:=by intro q;cases q):p:=h
theorem Ze{p:Prop}(h:p:=by simp only[Ag];omega):p:=h
theorem Y1{p:Prop}(h:p:=by simp;omega):p:=h
theorem iK{p:Prop}(h:p:=by rw[LT,LN om]):p:=h
theorem pW{p:Prop}(h:p:=by rw[LT,LN (by rw[Bm];exact BD _)]):p:=h
theorem pX{p:Prop}(h:p:=by show tryRecover _ (_::(cs++CE))=none;unfold tryRecover;rw[tT];rfl):p:=h
theorem bm{p:Prop}(h:p:=by rw[IS];omega):p:=h
theorem ZM{p:Prop}(h:p:=by simp only[pw];omega):p:=h
theorem m7{p:Prop}(h:p:=by unfold A3 Bc;simp only[NP];rfl):p:=h
theorem eF{p:Prop}(h:p:=by rw[DX];omega):p:=h
theorem pY{p:Prop}(h:p:=by unfold Ap.w1;rw[ho];simp only[hb,f1,FL];rfl):p:=h
theorem bo{p:Prop}(h:p:=by show¬(0:Int)<= -1;omega):p:=h
theorem m8{p:Prop}(h:p:=by rw[hx];rintro(⟨_,_,e⟩|e)<;>cases e):p:=h
theorem iL{p:Prop}(h:p:=by cases j<;>cases k<;>simp_all):p:=h
theorem PI{p:Prop}(h:p:=by decide):p:=h
theorem bp{p:Prop}(h:p:=by intro _ _ e;cases e):p:=h
theorem iM{p:Prop}(h:p:=by rw[FX];omega):p:=h
theorem mA{p:Prop}(h:p:=by rintro(⟨_,_,e⟩|e)<;>cases e):p:=h
theorem TS{p:Prop}(h:p:=by cases h):p:=h
theorem pZ{p:Prop}(h:p:=by unfold Ap.w1;rw[ho];simp only[hb,f1];rfl):p:=h
theorem mB{p:Prop}(h:p:=by rw[IG];exact AG):p:=h
theorem XJ{p:Prop}(h:p:=by exact CS):p:=h
theorem bu{p:Prop}(h:p:=by intro e;cases e):p:=h
theorem iN{p:Prop}(h:p:=by simp only[Dr,hw,hx]):p:=h
theorem k0t{p:Prop}(h:p:=by cases AL<;>simp[stepG,stepG.exec,Frame.atR,hb,hk,hx,D4,Zd,hr,Go.doReturn,L0,Gf]<;>rfl):p:=h
theorem eG{p:Prop}(h:p:=by rw[JE];omega):p:=h
theorem YV{p:Prop}(h:p:=by cases e):p:=h
theorem k0w{p:Prop}(h:p:=by cases AL<;>simp[stepG,stepG.exec,Frame.atR,hb,hk,D4,Zd,hr,Go.doReturn,L0,Gf]<;>rfl):p:=h
theorem pc{p:Prop}(h:p:=by rw[X6];exact BD _):p:=h
theorem ph{p:Prop}(h:p:=by rw[LO,hx];rfl):p:=h
theorem pj{p:Prop}(h:p:=by rw[GD,hx];rfl):p:=h
theorem iO{p:Prop}(h:p:=by simp[SO];omega):p:=h
theorem pq{p:Prop}(h:p:=by simp only[Nat.sub_eq];omega):p:=h
theorem mC{p:Prop}(h:p:=by unfold EX;exact AG):p:=h
theorem mD{p:Prop}(h:p:=by simp only[Aa];omega):p:=h
theorem pt{p:Prop}(h:p:=by rw[SW];omega):p:=h
theorem k18{p:Prop}(h:p:=by rw[ST BX];have:=(FE.1 he).2;rw[this]):p:=h
theorem mF{p:Prop}(h:p:=by intro j q1 q2;omega):p:=h
theorem pv{p:Prop}(h:p:=by rw[LQ];omega):p:=h
theorem k1b{p:Prop}(h:p:=by rw[LT,LN (by rw[B8 _ (Ic _)];exact BD _)]):p:=h
theorem k1c{p:Prop}(h:p:=by rw[LT,LN (by rw[GR,gg];exact BD _)]):p:=h
theorem k1d{p:Prop}(h:p:=by have:=hb.ro;cases lC:b.roundOf with|none=>rfl|some _=>rw[lC]at this;cases this):p:=h
theorem k1e{p:Prop}(h:p:=by refine Aj L X.f92 λQ x cs G=>?_;refine ret X.f92.1 ?_;exact⟨rfl,AG,AH⟩):p:=h
theorem k1f{p:Prop}(h:p:=by rw[LT,LN (by rw[Bm,E2];exact BD _)]):p:=h
theorem k1g{p:Prop}(h:p:=by have:n<=n*s:=Nat.le_mul_of_pos_right n (fL h7);unfold Aa;omega):p:=h
theorem uX{p:Prop}(h:p:=by simp only[DX,Bb];rfl):p:=h
theorem px{p:Prop}(h:p:=by rw[ho];simpa using RL):p:=h
theorem mG{p:Prop}(h:p:=by rw[B9 om];omega):p:=h
theorem uY{p:Prop}(h:p:=by rw[WP,tj];omega):p:=h
theorem uZ{p:Prop}(h:p:=by first|(rw[hg];done)|(rw[hg];rfl)):p:=h
theorem eH{p:Prop}(h:p:=by exact CH):p:=h
theorem mH{p:Prop}(h:p:=by cases k<;>rfl):p:=h
theorem k1p{p:Prop}(h:p:=by rcases q1.ex with⟨_,rfl⟩|⟨_,gb,rfl,_⟩<;>exact⟨rfl,rfl⟩):p:=h
theorem ua{p:Prop}(h:p:=by rw[LT,MD]):p:=h
theorem py{p:Prop}(h:p:=by unfold XT;exact AG):p:=h
theorem pz{p:Prop}(h:p:=by rw[X6];exact AG):p:=h
theorem mI{p:Prop}(h:p:=by simpa using hx):p:=h
theorem mJ{p:Prop}(h:p:=by simpa using hb):p:=h
theorem qA{p:Prop}(h:p:=by rw[B7 ho];exact hx):p:=h
theorem qB{p:Prop}(h:p:=by rw[B7 ho];exact hw):p:=h
theorem qC{p:Prop}(h:p:=by cases o.dst<;>rfl):p:=h
theorem ud{p:Prop}(h:p:=by rw[LQ];exact hl):p:=h
theorem k1z{p:Prop}(h:p:=by rw[LT,LN (by rw[Gy];omega)]):p:=h
theorem iQ{p:Prop}(h:p:=by rw[LT,LN W0]):p:=h
inductive OY where
 |func (f:Nat)
 |yield (l:Nat)
inductive AV where
 |bool (b:Bool)
 |int (k:IntKind) (n:Int)
 |str (s:List Nat)
 |M7
 |ptr (b o:Nat)
 |AS
 |AE (b o len cap:Nat)
 |OS
 |map (r:Nat)
 |fn (f:OY) (args cap:List AV)
 |PK
 |Cm (t:Nat) (v:AV)
 |IX
 |agg (l:List AV)
 |BM (l:List AV)
 |HZ (v:Value)
 |FK
def Aa:Nat:=4611686018427387904
inductive T (α:Type) where
 |leaf
 |node (l:T α) (v:Option α) (r:T α)
def T.get{α:Type}(t:T α):Nat->Option α:=
 @T.rec α (λ_=>Nat->Option α) (λ_=>none)
  (λ_ v _ gl gr n=> @Nat.rec (λ_=>Option α) v (λm _=> @Bool.rec (λ_=>Option α) (gr (Nat.div m 2)) (gl (Nat.div m 2)) (Nat.beq (Nat.mod m 2) 0)) n) t
def T.single{α:Type}(x:Option α)(f:Nat):Nat->T α:=
 @Nat.rec (λ_=>Nat->T α) (λ_=> .leaf)
  (λ_ ih n=> @Nat.rec (λ_=>T α) (.node .leaf x .leaf) (λm _=> @Bool.rec (λ_=>T α) (.node .leaf none (ih (Nat.div m 2))) (.node (ih (Nat.div m 2)) none .leaf) (Nat.beq (Nat.mod m 2) 0)) n) f
def T.set{α:Type}(t:T α)(n:Nat)(x:Option α):T α:=
 @T.rec α (λ_=>Nat->T α) (λn=>T.single x (Nat.succ n) n)
  (λl v r gl gr n=> @Nat.rec (λ_=>T α) (.node l x r) (λm _=> @Bool.rec (λ_=>T α) (.node l v (gr (Nat.div m 2))) (.node (gl (Nat.div m 2)) v r) (Nat.beq (Nat.mod m 2) 0)) n) t n
structure FD where
 key:AV
 val:AV
 born:Nat
inductive LS where
 |ready|busy|done|exhausted
inductive O where
 |t (i:Nat)
 |c (v:AV)
inductive Sh where
 |pbool
 |QB
 |vO
 |ptr
 |iface
 |agg (parts:List (Nat×Nat×Sh))
 |qX
 |ad7
 |qW
 |bad
inductive RY where
 |mv (x:O)
 |pick (c a b:O)
 |alloc (cells:List AV)
 |box (n:Nat) (x:O)
 |build (zero:List AV) (parts:List (Nat×Nat×O))
 |bJ (len:Nat) (cells:List AV) (parts:List (Nat×Nat×O))
 |cC (a:O)
 |QN (n:Nat) (a:O)
 |store (n:Nat) (a x:O)
 |eT (x:O)
 |bin (op:BinOp) (x y:O) (c:Bool) (sh:Sh)
 |un (op:UnOp) (x:O)
 |conv (k:IntKind) (x:O)
 |gF (x:O)
 |cF (t:Nat) (x:O)
 |cE (f:OY) (first cap:List O)
 |iX
 |eP (bytes:Nat) (zero:List AV) (l c:O)
 |XS (size:Nat) (x:O) (lo hi mx:Option O)
 |dM (x:O) (off:Nat)
 |dN (x:O) (off:Nat)
 |eB (len size:Nat) (x ix:O)
 |bj (size:Nat) (x ix:O)
 |pR (x ix:O)
 |lookup (sh:Sh) (zero:AV) (m k:O) (ok:Bool)
 |qU (sh:Sh) (m k v:O)
 |qQ (sh:Sh) (zero:AV) (m k:O)
 |qT (m s v:O)
 |qg (x:O)
 |aV (it:O)
 |entry (it:O)
 |jG (x:O) (t:Nat) (zero:AV) (ok:Bool)
 |extract (x:O) (i:Nat)
 |LY (f:O) (args:List O)
 |append (size bytes:Nat) (s x:O)
 |gD (bytes:Nat) (zero:List AV) (s n:O)
 |copy (size:Nat) (d s:O)
 |cB (x:O)
 |kD (x:O)
 |mQ (x:O)
 |aT (mx:Bool) (a b:O)
 |delete (sh:Sh) (m k:O)
 |recover
 |defer (f:O) (args:List O)
 |panic (x:O)
 |bad
structure CI where
 dst:Option Nat
 guard:Option (Nat×Bool)
 op:RY
structure DI where
 ci:CI
 names:List Nat
structure Ph where
 X0:DI
 pre:List DI
 By:List DI
structure Alt where
 pre:List DI
 By:List DI
 l:List Ph
inductive CC where
 |skip
 |ops (l:List CI)
 |drawn (pre By:List DI) (l:List Ph)
 |alts (l:List Alt)
 |seq (a b:CC)
 |cond (c:O) (a b:CC)
 |block (id:Nat) (b:CC)
 |loop (b:CC)
 |rangeFunc (f:O) (params:List Nat) (assign body:CC)
 |exit (id:Nat)
 |scope (b:CC)
 |label (l:Nat)
 |goto (l:Nat)
 |ret
 |bad
inductive fh where
 |tmp (t:Nat)
 |nu (a:Nat)
 |ny (a n:Nat)
 |bad
structure DY where
 ntmps:Nat
 results:List fh
 body:CC
inductive HN where
 |call (f:Nat) (args:List AV)
 |mark (b:Nat)
structure cV where
 state:LS
 pending:Option CC
 fn:Nat
 nt:Nat
 tmps:T AV
 params:List Nat
 assign:CC
 body:CC
 defers:Nat
inductive DV where
 |cells (ro:Bool) (n:Nat) (c:T AV)
 |map (es:List FD) (clock:Nat)
 |MX (m:Option Nat) (since:Nat) (seen:List Nat) (ZX:Nat)
 |loop (l:cV)
 |EQ (ds:Option (List HN))
structure H where
 n:Nat
 t:T DV
def H.get(h:H)(b:Nat):Option DV:=T.get h.t b
def H.set(h:H)(b:Nat)(x:DV):H:=⟨h.n,T.set h.t b (some x)⟩
def H.del(h:H)(b:Nat):H:=⟨h.n,T.set h.t b none⟩
def H.new(h:H)(x:DV):H:=⟨Nat.succ h.n,T.set h.t h.n (some x)⟩
inductive PS where
 |code (c:CC)
 |inBlock (id:Nat)
 |inLoop (b:CC)
 |inScope (b:CC)
 |ops (l:List CI)
 |drawn (p:Ph) (l:List Ph)
 |XH (l:Nat)
 |VL (l:Nat)
 |beginRound
 |gone
inductive VC where
 |run
 |returning
 |panicking (chain:List (AV×Bool))
structure EW where
 fn:Nat
 nt:Nat
 tm:T AV
 todo:List PS
 defers:List HN
 mode:VC
 AL:Bool
 ro:Option Nat
structure GN where
 fr:EW
 cs:List EW
 h:H
def pw(k:IntKind):Nat:=
 match k with
 | .i8| .u8=>256
 | .i16| .u16=>65536
 | .i32| .u32=>4294967296
 | .i64| .u64=>18446744073709551616
def hf(k:IntKind):Nat:=
 match k with
 | .i8=>128
 | .i16=>32768
 | .i32=>2147483648
 | .i64=>9223372036854775808
 | .u8=>256
 | .u16=>65536
 | .u32=>4294967296
 | .u64=>18446744073709551616
def MW(j:IntKind):IntKind->Bool:=
 match j with
 | .i8=>λ| .i8=>true|_=>false
 | .i16=>λ| .i16=>true|_=>false
 | .i32=>λ| .i32=>true|_=>false
 | .i64=>λ| .i64=>true|_=>false
 | .u8=>λ| .u8=>true|_=>false
 | .u16=>λ| .u16=>true|_=>false
 | .u32=>λ| .u32=>true|_=>false
 | .u64=>λ| .u64=>true|_=>false
def wrN(p f r:Nat):Int:=match Nat.ble f r with|true=>Int.negSucc (Nat.sub (Nat.sub p r) 1)|false=>Int.ofNat r
def MM(k:IntKind)(n:Int):Nat:=
 match n with
 | .ofNat m=>Nat.mod m (pw k)
 | .negSucc m=>Nat.sub (Nat.sub (pw k) 1) (Nat.mod m (pw k))
def wr(k:IntKind)(n:Int):Int:=wrN (pw k) (hf k) (MM k n)
def TO(a:Int):Int->Bool:=
 match a with
 | .ofNat a=>λ| .ofNat b=>Nat.beq a b| .negSucc _=>false
 | .negSucc a=>λ| .ofNat _=>false| .negSucc b=>Nat.beq a b
def ZL(a:Int):Int->Bool:=
 match a with
 | .ofNat a=>λ| .ofNat b=>Nat.ble (Nat.succ a) b| .negSucc _=>false
 | .negSucc a=>λ| .ofNat _=>true| .negSucc b=>Nat.ble (Nat.succ b) a
def bits(k:IntKind):Nat:=
 match k with
 | .i8| .u8=>8
 | .i16| .u16=>16
 | .i32| .u32=>32
 | .i64| .u64=>64
def Lu(a b:Nat):Nat:=match Nat.ble a b with|true=>a|false=>b
def E6(op:BinOp):IntKind->Int->IntKind->Int->Option AV:=
 match op with
 | .shl=>λk a _ b=>match b with
  | .ofNat n=>some (.int k (wr k (Int.mul a (Int.ofNat (Nat.pow 2 (Lu n (bits k)))))))
  | .negSucc _=>none
 | .shr=>λk a _ b=>match b with
  | .ofNat n=>some (.int k (Int.fdiv a (Int.ofNat (Nat.pow 2 (Lu n (bits k))))))
  | .negSucc _=>none
 | .add=>λk a j b=>match MW k j with|true=>some (.int k (wr k (Int.add a b)))|false=>none
 | .sub=>λk a j b=>match MW k j with|true=>some (.int k (wr k (Int.sub a b)))|false=>none
 | .mul=>λk a j b=>match MW k j with|true=>some (.int k (wr k (Int.mul a b)))|false=>none
 | .quo=>λk a j b=>match MW k j with
  |true=>(match TO b (Int.ofNat 0)with|true=>none|false=>some (.int k (wr k (Int.tdiv a b))))
  |false=>none
 | .rem=>λk a j b=>match MW k j with
  |true=>(match TO b (Int.ofNat 0)with|true=>none|false=>some (.int k (Int.tmod a b)))
  |false=>none
 | .and=>λk a j b=>match MW k j with|true=>some (.int k (wr k (Int.ofNat (Nat.land (MM k a) (MM k b)))))|false=>none
 | .or=>λk a j b=>match MW k j with|true=>some (.int k (wr k (Int.ofNat (Nat.lor (MM k a) (MM k b)))))|false=>none
 | .xor=>λk a j b=>match MW k j with|true=>some (.int k (wr k (Int.ofNat (Nat.xor (MM k a) (MM k b)))))|false=>none
 | .andNot=>λk a j b=>match MW k j with
  |true=>some (.int k (wr k (Int.ofNat (Nat.land (MM k a) (Nat.sub (Nat.sub (pw k) 1) (MM k b))))))
  |false=>none
 | .eql=>λk a j b=>match MW k j with|true=>some (.bool (TO a b))|false=>none
 | .neq=>λk a j b=>match MW k j with|true=>some (.bool (not (TO a b)))|false=>none
 | .lss=>λk a j b=>match MW k j with|true=>some (.bool (ZL a b))|false=>none
 | .leq=>λk a j b=>match MW k j with|true=>some (.bool (not (ZL b a)))|false=>none
 | .gtr=>λk a j b=>match MW k j with|true=>some (.bool (ZL b a))|false=>none
 | .geq=>λk a j b=>match MW k j with|true=>some (.bool (not (ZL a b)))|false=>none
def Oa:List Nat->List Nat->Bool
 | []=>λ| []=>true|_::_=>false
 |a::r=>λ| []=>false|b::s=>match Nat.beq a b with|true=>Oa r s|false=>false
def T3(op:BinOp):List Nat->List Nat->Option AV:=
 match op with
 | .add=>λa b=>(match Nat.ble (Nat.add a.length b.length) 1099511627776 with|true=>some (.str (List.append a b))|false=>none)
 | .eql=>λa b=>some (.bool (Oa a b))
 | .neq=>λa b=>some (.bool (not (Oa a b)))
 |_=>λ_ _=>none
def dB(a b:Bool):Bool:=match a with|true=>b|false=>not b
def Hl(x:AV):AV->Option Bool:=
 match x with
 | .int k a=>λy=>match y with
  | .int j b=>(match MW k j with|true=>some (TO a b)|false=>none)
  |_=>none
 |_=>λ_=>none
def Jy(x:AV):AV->Option Bool:=
 match x with
 | .bool a=>λy=>match y with| .bool b=>some (dB a b)|_=>none
 |_=>λ_=>none
def Po(x:AV):AV->Option Bool:=
 match x with
 | .str a=>λy=>match y with| .str b=>some (Oa a b)|_=>none
 |_=>λ_=>none
def Jp(x:AV):AV->Option Bool:=
 match x with
 | .M7=>λy=>match y with| .M7=>some true| .ptr _ _=>some false|_=>none
 | .ptr b o=>λy=>match y with
  | .M7=>some false
  | .ptr AR EG=>(match Nat.beq b AR with|true=>some (Nat.beq o EG)|false=>none)
  |_=>none
 |_=>λ_=>none
def Gz(x:AV):AV->Option Bool:=
 match x with
 | .AS=>λy=>match y with| .AS=>some true| .AE _ _ _ _=>some false|_=>none
 | .AE _ _ _ _=>λy=>match y with| .AS=>some false|_=>none
 |_=>λ_=>none
def G1(x:AV):AV->Option Bool:=
 match x with
 | .OS=>λy=>match y with| .OS=>some true| .map _=>some false|_=>none
 | .map _=>λy=>match y with| .OS=>some false|_=>none
 |_=>λ_=>none
def E8(x:AV):AV->Option Bool:=
 match x with
 | .PK=>λy=>match y with| .PK=>some true| .fn (.func _) _ _=>some false|_=>none
 | .fn (.func _) _ _=>λy=>match y with| .PK=>some false|_=>none
 |_=>λ_=>none
def Ly(x:AV):AV->Option Bool:=
 match x with
 | .IX=>λy=>match y with| .Cm _ _=>some false|_=>none
 | .Cm _ _=>λy=>match y with| .IX=>some false|_=>none
 |_=>λ_=>none
def nv(l:List AV)(off size:Nat):Option AV:=
 match size with
 |0=>l[off]?
 |Nat.succ n=>some (.agg (List.take (Nat.succ n) (List.drop off l)))
def Kx(f:Sh->AV->AV->Option Bool)(xs ys:List AV):List (Nat×Nat×Sh)->Option Bool
 | []=>some true
 |p::r=>match nv xs p.1 p.2.1,nv ys p.1 p.2.1 with
  |some a,some b=>match f p.2.2 a b with
   |some true=>Kx f xs ys r
   |some false=>some false
   |none=>none
  |_,_=>none
def eqv(d:Nat):Sh->AV->AV->Option Bool:=
 match d with
 |0=>λ_ _ _=>none
 |Nat.succ d=>λsh=>match sh with
  | .QB=>λx y=>Hl x y
  | .pbool=>λx y=>Jy x y
  | .vO=>λx y=>Po x y
  | .ptr=>λx y=>Jp x y
  | .iface=>λx y=>Ly x y
  | .qX=>λx y=>Gz x y
  | .ad7=>λx y=>G1 x y
  | .qW=>λx y=>E8 x y
  | .bad=>λ_ _=>none
  | .agg parts=>λx y=>match x with
   | .agg xs=>match y with
    | .agg ys=>Kx (eqv d) xs ys parts
    |_=>none
   |_=>none
def acf(sh:Sh)(c:Bool)(x y:AV):Bool:=
 match sh with
 | .iface=>(match c,x,y with
  |true,.IX,.IX=>true
  |_,_,_=>false)
 |_=>false
def ij(sh:Sh)(c:Bool)(x y:AV):Option Bool:=
 match acf sh c x y with
 |true=>some true
 |false=>eqv 20 sh x y
def Xm(op:BinOp)(sh:Sh)(c:Bool)(x y:AV):Option AV:=
 match op with
 | .eql=>(match ij sh c x y with
  |some b=>some (.bool b)
  |none=>none)
 | .neq=>(match ij sh c x y with
  |some b=>some (.bool (not b))
  |none=>none)
 |_=>none
def Hk(op:BinOp)(sh:Sh)(c:Bool)(x:AV):AV->Option AV:=
 match x with
 | .int k a=>λy=>match y with
  | .int j b=>E6 op k a j b
  |_=>none
 | .str a=>λy=>match y with
  | .str b=>T3 op a b
  |_=>none
 |x=>λy=>Xm op sh c x y
def ev(tm:T AV)(o:O):AV:=
 match o with
 | .t i=>match T.get tm i with
  |some v=>v
  |none=> .FK
 | .c v=>v
def Z3(tm:T AV):List O->List AV
 | []=>[]
 |x::r=>ev tm x::Z3 tm r
def JI(i:Nat)(t:T AV):List AV->T AV
 | []=>t
 |x::r=>JI (Nat.succ i) (T.set t i (some x)) r
def QN(c:T AV):Nat->Nat->Option (List AV)
 |0=>λ_=>some []
 |Nat.succ n=>λo=>match T.get c o with
  |some v=>match QN c n (Nat.succ o)with
   |some l=>some (v::l)
   |none=>none
  |none=>none
def L1(o:Nat)(c:T AV):List AV->T AV
 | []=>c
 |v::r=>L1 (Nat.succ o) (T.set c o (some v)) r
def A1(v:AV):Option (List AV):=
 match v with
 | .agg l=>some l
 | .BM _=>none
 | .FK=>none
 | .HZ (.agg _)=>none
 | .HZ (.tuple _)=>none
 |v=>some [v]
def Gb(xs:List AV):List AV->Nat->List AV
 |l,0=>List.append xs (List.drop xs.length l)
 | [],Nat.succ _=>[]
 |a::l,Nat.succ n=>a::Gb xs l n
def fill(tm:T AV):List (Nat×Nat×O)->List AV->Option (List AV)
 | []=>λcells=>some cells
 |p::r=>λcells=>
  match A1 (ev tm p.2.2)with
  |some l=>(match Nat.beq l.length p.2.1,Nat.ble (Nat.add p.1 p.2.1) cells.length with
   |true,true=>fill tm r (Gb l cells p.1)
   |_,_=>none)
  |none=>none
inductive R where
 |val (v:AV) (h:H)
 |call (f:OY) (args:List AV)
 |EQ (f:Nat) (args:List AV)
 |G0 (v:AV)
 |recover
 |next (l:List (AV×H))
 |fail
def vo(h:H)(o:Option AV):R:=
 match o with
 |some v=> .val v h
 |none=> .fail
def rl(l:List AV):Nat->List AV
 |0=>[]
 |Nat.succ k=>List.append l (rl l k)
def NX(v:AV):Option Nat:=
 match v with
 | .AS=>some 0
 | .AE _ _ n _=>some n
 | .str s=>some s.length
 |_=>none
def G3:Nat->List Nat->List AV
 |0,_=>[]
 |Nat.succ _,[]=>[]
 |Nat.succ n,b::r=> .int .u8 (Int.ofNat b)::G3 n r
def KM(h:H)(b o n:Nat):Option (List AV):=
 match n with
 |0=>some []
 |n=>match H.get h b with
  |some (.cells _ k c)=>match Nat.ble (Nat.add o n) k with
   |true=>QN c n o
   |false=>none
  |_=>none
def cellsOf(size n:Nat)(h:H)(v:AV):Option (List AV):=
 match v with
 | .AS=>some []
 | .AE b o _ _=>KM h b o (Nat.mul n size)
 | .str s=>(match Nat.beq size 1 with|true=>some (G3 n s)|false=>none)
 |_=>none
def A8(v:AV):Bool:=
 match v with
 | .agg _=>false
 | .BM _=>false
 | .FK=>false
 | .HZ (.agg _)=>false
 | .HZ (.tuple _)=>false
 |_=>true
def Av:List AV->Bool
 | []=>true
 |v::r=>match A8 v with|true=>Av r|false=>false
def Yl(h:H)(b o:Nat)(l:List AV):Option H:=
 match l with
 | []=>some h
 |l=>match H.get h b with
  |some (.cells false k c)=>match Nat.ble (Nat.add o l.length) k,Av l with
   |true,true=>some (H.set h b (.cells false k (L1 o c l)))
   |_,_=>none
  |_=>none
def NZ(h:H)(l:List AV):H:=H.new h (.cells false l.length (JI 0 .leaf l))
def Dx(size bytes:Nat)(h:H)(s:AV)(new:List AV)(n:Nat):R:=
 match n with
 |0=>match s with
  | .AS=> .val s h
  | .AE _ _ _ _=> .val s h
  |_=> .fail
 |Nat.succ n=>match s with
  | .AS=>match Nat.ble (Nat.mul (Nat.succ n) (Nat.succ bytes)) 1099511627776 with
   |true=> .val (.AE h.n 0 (Nat.succ n) (Nat.add Aa size)) (NZ h new)
   |false=> .fail
  | .AE b o sl cap=>
   match Nat.ble (Nat.mul (Nat.add sl (Nat.succ n)) (Nat.succ bytes)) 1099511627776 with
   |false=> .fail
   |true=>match Nat.ble Aa cap with
    |true=>match Nat.beq cap (Nat.add Aa size),KM h b o (Nat.mul sl size),H.get h b,Av new with
     |true,some old,some (.cells false _ _),true=> .val (.AE h.n 0 (Nat.add sl (Nat.succ n)) cap) (NZ (H.del h b) (List.append old new))
     |_,_,_,_=> .fail
    |false=>match Nat.ble (Nat.add sl (Nat.succ n)) cap with
     |true=>match Yl h b (Nat.add o (Nat.mul sl size)) new with
      |some AA=> .val (.AE b o (Nat.add sl (Nat.succ n)) cap) AA
      |none=> .fail
     |false=>match KM h b o (Nat.mul sl size)with
      |some old=> .val (.AE h.n 0 (Nat.add sl (Nat.succ n)) (Nat.add Aa size)) (NZ h (List.append old new))
      |none=> .fail
  |_=> .fail
def Jz:List AV->Option (List Nat)
 | []=>some []
 |v::r=>match v with
  | .int .u8 (Int.ofNat n)=>match Nat.ble n 255,Jz r with
   |true,some l=>some (n::l)
   |_,_=>none
  |_=>none
def Gc(mx:Bool)(x:AV):AV->Option AV:=
 match x with
 | .int k a=>λy=>match y with
  | .int j b=>(match MW k j with
   |true=>some (.int k (match(match mx with|true=>ZL a b|false=>ZL b a)with|true=>b|false=>a))
   |false=>none)
  |_=>none
 |_=>λ_=>none
def Ei(tm:T AV)(o:Option O):Option (Option Nat):=
 match o with
 |none=>some none
 |some x=>match ev tm x with
  | .int _ (Int.ofNat n)=>some (some n)
  |_=>none
def Q5(len top:Nat)(e lo hi mx:Option Nat):Option (Nat×Nat×Option Nat):=
 match mx with
 |some m=>match hi with
  |none=>none
  |some h=>match Nat.ble m top,Nat.ble h m,Nat.ble (lo.getD 0) h with
   |true,true,true=>some (lo.getD 0,h,some m)
   |_,_,_=>none
 |none=>match Nat.ble (hi.getD len) top,Nat.ble (lo.getD 0) (hi.getD len)with
  |true,true=>some (lo.getD 0,hi.getD len,e)
  |_,_=>none
def Tr(len cap:Nat)(lo hi mx:Option Nat):Option (Nat×Nat×Option Nat):=
 match Nat.ble Aa cap with
 |true=>Q5 len len none lo hi mx
 |false=>Q5 len cap (some cap) lo hi mx
def J1(size b o len cap:Nat)(lo hi mx:Option Nat):Option AV:=
 match Tr len cap lo hi mx with
 |some (l,h,some m)=>(match Nat.ble (Nat.succ m) Aa with
  |true=>some (.AE b (match Nat.beq m l with|true=>o|false=>Nat.add o (Nat.mul l size)) (Nat.sub h l) (Nat.sub m l))
  |false=>none)
 |some (l,h,none)=>(match Nat.beq cap (Nat.add Aa size)with
  |true=>some (.AE b (Nat.add o (Nat.mul l size)) (Nat.sub h l) cap)
  |false=>none)
 |none=>none
def J3:List AV->List AV->Bool
 | []=>λ| []=>true|_::_=>false
 |x::r=>λ| []=>false|y::s=>match Hl x y with|some true=>J3 r s|_=>false
def F7(x:AV):AV->Bool:=
 match x with
 | .int k a=>λy=>match y with| .int j b=>(match MW k j with|true=>TO a b|false=>false)|_=>false
 | .bool a=>λy=>match y with| .bool b=>dB a b|_=>false
 | .str a=>λy=>match y with| .str b=>Oa a b|_=>false
 | .agg l=>λy=>match y with| .agg m=>J3 l m|_=>false
 |_=>λ_=>false
def Vp(n:Nat):List (Nat×Nat×Sh)->Bool
 | []=>true
 |p::r=>match Nat.ble (Nat.succ p.1) n with|true=>Vp n r|false=>false
def Lz(sh:Sh):AV->Bool:=
 match sh with
 | .QB=>λk=>match k with| .int _ _=>true|_=>false
 | .pbool=>λk=>match k with| .bool _=>true|_=>false
 | .vO=>λk=>match k with| .str _=>true|_=>false
 | .agg parts=>λk=>match k with| .agg l=>Vp l.length parts|_=>false
 |_=>λ_=>false
def G4(f:AV->AV->Option Bool)(k:AV):List FD->Option (Option FD)
 | []=>some none
 |e::r=>match f k e.key with
  |some true=>some (some e)
  |some false=>G4 f k r
  |none=>none
def Jq(sh:Sh)(k:AV)(es:List FD):Option (Option FD):=
 match Lz sh k with
 |true=>G4 (eqv 20 sh) k es
 |false=>none
def Vq(f:AV->AV->Option Bool)(k v:AV):List FD->Option (List FD)
 | []=>none
 |e::r=>match f k e.key with
  |some true=>(match F7 k e.key with
   |true=>some (⟨k,v,e.born⟩::r)
   |false=>none)
  |some false=>match Vq f k v r with
   |some r=>some (e::r)
   |none=>none
  |none=>none
def Z5(f:AV->AV->Option Bool)(k:AV):List FD->Option (List FD)
 | []=>some []
 |e::r=>match f k e.key with
  |some true=>some r
  |some false=>match Z5 f k r with
   |some r=>some (e::r)
   |none=>none
  |none=>none
def I0(b:Nat)(v:AV):List FD->Option (List FD)
 | []=>none
 |e::r=>match Nat.beq e.born b with
  |true=>some (⟨e.key,v,e.born⟩::r)
  |false=>match I0 b v r with
   |some r=>some (e::r)
   |none=>none
def Ob(n:Nat):List Nat->Bool
 | []=>false
 |a::r=>match Nat.beq a n with|true=>true|false=>Ob n r
def Pp(since:Nat)(seen:List Nat):List FD->Option (List FD)
 | []=>some []
 |e::r=>match Pp since seen r with
  |none=>none
  |some l=>match Ob e.born seen with
   |true=>some l
   |false=>match Nat.ble (Nat.succ e.born) since with
    |true=>some (e::l)
    |false=>none
def Ky(ZX:Nat)(seen:List Nat)(es:List FD):Bool:=
 match seen,es with
 | [],_=>true
 |_,[]=>true
 |_,es=>es.any λe=>Nat.ble (Nat.succ e.born) ZX
def If(b:Nat):List FD->Option FD
 | []=>none
 |e::r=>match Nat.beq e.born b with|true=>some e|false=>If b r
def exec(op:RY):H->T AV->R:=
 match op with
 | .mv x=>λh tm=> .val (ev tm x) h
 | .pick c a b=>λh tm=>match ev tm c with
  | .bool true=> .val (ev tm a) h
  | .bool false=> .val (ev tm b) h
  |_=> .fail
 | .alloc cells=>λh _=> .val (.ptr h.n 0) (NZ h cells)
 | .box n x=>λh tm=>match A1 (ev tm x)with
  |some l=>(match Nat.beq l.length n with
   |true=> .val (.ptr h.n 0) (NZ h l)
   |false=> .fail)
  |none=> .fail
 | .build zero parts=>λh tm=>match fill tm parts zero with
  |some l=> .val (.agg l) h
  |none=> .fail
 | .bJ len cells parts=>λh tm=>match fill tm parts cells with
  |some l=> .val (.AE h.n 0 len len) (NZ h l)
  |none=> .fail
 | .cC a=>λh tm=>match ev tm a with
  | .ptr b o=>match H.get h b with
   |some (.cells _ n c)=>(match Nat.ble (Nat.succ o) n with
    |true=>vo h (T.get c o)
    |false=> .fail)
   |_=> .fail
  |_=> .fail
 | .QN n a=>λh tm=>match ev tm a with
  | .ptr b o=>match KM h b o n with
   |some l=> .val (.agg l) h
   |none=> .fail
  |_=> .fail
 | .store n a x=>λh tm=>match ev tm a with
  | .ptr b o=>(match A1 (ev tm x)with
   |some l=>(match Nat.beq l.length n with
    |true=>(match Yl h b o l with
     |some AA=> .val .FK AA
     |none=> .fail)
    |false=> .fail)
   |none=> .fail)
  |_=> .fail
 | .eT x=>λh tm=>match ev tm x with
  | .ptr b o=> .val (.ptr b o) h
  | .fn (.func f) a c=> .val (.fn (.func f) a c) h
  | .Cm t v=> .val (.Cm t v) h
  |_=> .fail
 | .bin op x y c sh=>λh tm=>vo h (Hk op sh c (ev tm x) (ev tm y))
 | .un op x=>λh tm=>match ev tm x with
  | .int k n=>(match op with
   | .neg=> .val (.int k (wr k (Int.sub 0 n))) h
   | .xor=> .val (.int k (wr k (Int.ofNat (Nat.sub (Nat.sub (pw k) 1) (MM k n))))) h
   |_=> .fail)
  | .bool b=>(match op with
   | .not=> .val (.bool (not b)) h
   |_=> .fail)
  |_=> .fail
 | .conv k x=>λh tm=>match ev tm x with
  | .int _ n=> .val (.int k (wr k n)) h
  |_=> .fail
 | .gF x=>λh tm=>match ev tm x with
  | .AS=> .val (.str []) h
  | .AE b o n _=>match KM h b o n with
   |some l=>match Jz l with
    |some s=> .val (.str s) h
    |none=> .fail
   |none=> .fail
  |_=> .fail
 | .cF t x=>λh tm=> .val (.Cm t (ev tm x)) h
 | .cE f first cap=>λh tm=> .val (.fn f (Z3 tm first) (Z3 tm cap)) h
 | .iX=>λh _=> .val (.map h.n) (H.new h (.map [] 0))
 | .eP bytes zero l c=>λh tm=>match ev tm l with
  | .int _ (Int.ofNat l)=>match ev tm c with
   | .int _ (Int.ofNat c)=>match Nat.ble l c,Nat.ble (Nat.mul c bytes) 281474976710656,Nat.ble c 281474976710656 with
    |true,true,true=> .val (.AE h.n 0 l c) (NZ h (rl zero c))
    |_,_,_=> .fail
   |_=> .fail
  |_=> .fail
 | .XS size x lo hi mx=>λh tm=>match Ei tm lo,Ei tm hi,Ei tm mx with
  |some lo,some hi,some mx=>(match ev tm x with
   | .AS=>(match Tr 0 0 lo hi mx with|some _=> .val .AS h|none=> .fail)
   | .AE b o n c=>vo h (J1 size b o n c lo hi mx)
   |_=> .fail)
  |_,_,_=> .fail
 | .dM x off=>λh tm=>match ev tm x with
  | .ptr b o=> .val (.ptr b (Nat.add o off)) h
  |_=> .fail
 | .dN x off=>λh tm=>match ev tm x with
  | .agg l=>vo h (l[off]?)
  |_=> .fail
 | .eB len size x ix=>λh tm=>match ev tm x with
  | .ptr b o=>match ev tm ix with
   | .int _ (Int.ofNat i)=>match Nat.ble (Nat.succ i) len with
    |true=> .val (.ptr b (Nat.add o (Nat.mul i size))) h
    |false=> .fail
   |_=> .fail
  |_=> .fail
 | .bj size x ix=>λh tm=>match ev tm x with
  | .AE b o n _=>match ev tm ix with
   | .int _ (Int.ofNat i)=>match Nat.ble (Nat.succ i) n with
    |true=> .val (.ptr b (Nat.add o (Nat.mul i size))) h
    |false=> .fail
   |_=> .fail
  |_=> .fail
 | .pR x ix=>λh tm=>match ev tm x with
  | .str l=>match ev tm ix with
   | .int _ (Int.ofNat i)=>(match l[i]? with
    |some b=> .val (.int .u8 (Int.ofNat b)) h
    |none=> .fail)
   |_=> .fail
  |_=> .fail
 | .lookup sh zero m k ok=>λh tm=>
  match(match ev tm m with
   | .OS=>some []
   | .map r=>(match H.get h r with
    |some (.map es _)=>some es
    |_=>none)
   |_=>none)with
  |none=> .fail
  |some es=>match Jq sh (ev tm k) es with
   |some (some e)=> .val (match ok with|true=> .BM [e.val,.bool true]|false=>e.val) h
   |some none=> .val (match ok with|true=> .BM [zero,.bool false]|false=>zero) h
   |none=> .fail
 | .qU sh m k v=>λh tm=>match ev tm m with
  | .map r=>match H.get h r with
   |some (.map es clock)=>match Jq sh (ev tm k) es with
    |some (some _)=>match Vq (eqv 20 sh) (ev tm k) (ev tm v) es with
     |some es=> .val .FK (H.set h r (.map es clock))
     |none=> .fail
    |some none=> .val .FK (H.set h r (.map (List.append es [⟨ev tm k,ev tm v,clock⟩]) (Nat.succ clock)))
    |none=> .fail
   |_=> .fail
  |_=> .fail
 | .qQ sh zero m k=>λh tm=>match ev tm m with
  | .map r=>match H.get h r with
   |some (.map es clock)=>match Jq sh (ev tm k) es with
    |some (some e)=>match Vq (eqv 20 sh) (ev tm k) e.val es with
     |some es=> .val (.BM [e.val,.int .i64 (Int.ofNat e.born)]) (H.set h r (.map es clock))
     |none=> .fail
    |some none=> .val (.BM [zero,.int .i64 (Int.ofNat clock)]) (H.set h r (.map (List.append es [⟨ev tm k,zero,clock⟩]) (Nat.succ clock)))
    |none=> .fail
   |_=> .fail
  |_=> .fail
 | .qT m s v=>λh tm=>match ev tm m with
  | .map r=>match ev tm s with
   | .int _ (Int.ofNat s)=>match H.get h r with
    |some (.map es clock)=>match I0 s (ev tm v) es with
     |some es=> .val .FK (H.set h r (.map es clock))
     |none=> .fail
    |_=> .fail
   |_=> .fail
  |_=> .fail
 | .qg x=>λh tm=>match ev tm x with
  | .OS=> .val (.ptr h.n 0) (H.new h (.MX none 0 [] 0))
  | .map m=>match H.get h m with
   |some (.map _ clock)=> .val (.ptr h.n 0) (H.new h (.MX (some m) clock [] clock))
   |_=> .fail
  |_=> .fail
 | .aV it=>λh tm=>match ev tm it with
  | .ptr r 0=>match H.get h r with
   |some (.MX none _ _ _)=> .val (.BM [.bool false]) h
   |some (.MX (some m) since seen ZX)=>match H.get h m with
    |some (.map es clock)=>match Pp since seen es,Ky ZX seen es with
     |some [],true=> .val (.BM [.bool false]) h
     |some (e::l),true=> .next (List.map (λe=>(.BM [.bool true,e.key,e.val],H.set h r (.MX (some m) since (List.append seen [e.born]) clock))) (e::l))
     |_,_=> .fail
    |_=> .fail
   |_=> .fail
  |_=> .fail
 | .entry it=>λh tm=>match ev tm it with
  | .ptr r 0=>match H.get h r with
   |some (.MX (some m) _ seen ZX)=>match H.get h m,List.getLast? seen with
    |some (.map es clock),some s=>match Nat.beq clock ZX,If s es with
     |true,some e=> .val (.BM [e.key,e.val]) h
     |_,_=> .fail
    |_,_=> .fail
   |_=> .fail
  |_=> .fail
 | .jG x t zero ok=>λh tm=>match ev tm x with
  | .Cm u v=>(match Nat.beq u t with
   |true=> .val (match ok with|true=> .BM [v,.bool true]|false=>v) h
   |false=>match ok with|true=> .val (.BM [zero,.bool false]) h|false=> .fail)
  | .IX=>(match ok with|true=> .val (.BM [zero,.bool false]) h|false=> .fail)
  |_=> .fail
 | .extract x i=>λh tm=>match ev tm x with
  | .BM l=>vo h (l[i]?)
  |_=> .fail
 | .LY f args=>λ_ tm=>match ev tm f with
  | .fn g first cap=> .call g (List.append first (List.append (Z3 tm args) cap))
  |_=> .fail
 | .append size bytes s x=>λh tm=>match NX (ev tm x)with
  |some n=>match cellsOf size n h (ev tm x)with
   |some new=>Dx size bytes h (ev tm s) new n
   |none=> .fail
  |none=> .fail
 | .gD bytes zero s n=>λh tm=>match ev tm n with
  | .int _ (Int.ofNat n)=>match Nat.ble (Nat.mul n bytes) 281474976710656,Nat.ble n 281474976710656 with
   |true,true=>Dx zero.length bytes h (ev tm s) (rl zero n) n
   |_,_=> .fail
  |_=> .fail
 | .copy size d s=>λh tm=>match NX (ev tm s)with
  |some sn=>(match ev tm d with
   | .AS=> .val (.int .i64 0) h
   | .AE b o dn _=>match cellsOf size (Lu sn dn) h (ev tm s)with
    |some l=>match Yl h b o l with
     |some AA=> .val (.int .i64 (Int.ofNat (Lu sn dn))) AA
     |none=> .fail
    |none=> .fail
   |_=> .fail)
  |none=> .fail
 | .cB x=>λh tm=>match ev tm x with
  | .AS=> .val (.int .i64 (Int.ofNat 0)) h
  | .AE _ _ n _=> .val (.int .i64 (Int.ofNat n)) h
  | .HZ u=>(match u with
   | .slice _ n _=> .val (.int .i64 (Int.ofNat n)) h
   |_=> .fail)
  |_=> .fail
 | .kD x=>λh tm=>match ev tm x with
  | .AS=> .val (.int .i64 (Int.ofNat 0)) h
  | .AE _ _ _ c=>(match Nat.ble Aa c with|true=> .fail|false=> .val (.int .i64 (Int.ofNat c)) h)
  |_=> .fail
 | .mQ x=>λh tm=>match ev tm x with
  | .OS=> .val (.int .i64 (Int.ofNat 0)) h
  | .map r=>match H.get h r with
   |some (.map es _)=> .val (.int .i64 (Int.ofNat es.length)) h
   |_=> .fail
  |_=> .fail
 | .aT mx a b=>λh tm=>vo h (Gc mx (ev tm a) (ev tm b))
 | .delete sh m k=>λh tm=>match ev tm m with
  | .map r=>match H.get h r with
   |some (.map es clock)=>match Lz sh (ev tm k),Z5 (eqv 20 sh) (ev tm k) es with
    |true,some es=> .val (.BM []) (H.set h r (.map es clock))
    |_,_=> .fail
   |_=> .fail
  |_=> .fail
 | .recover=>λ_ _=> .recover
 | .defer f args=>λ_ tm=>match ev tm f with
  | .fn (.func g) first cap=> .EQ g (List.append first (List.append (Z3 tm args) cap))
  |_=> .fail
 | .panic x=>λ_ tm=>match ev tm x with
  | .Cm t v=> .G0 (.Cm t v)
  |_=> .fail
 | .bad=>λ_ _=> .fail
def Vr:Nat->Value->AV
 |0,_=> .FK
 |d+1,v=>match v with
  | .bool b=> .bool b
  | .int k n=> .int k n
  | .string s=> .str (s.data.toList.map (·.toNat))
  | .pointer none=> .M7
  | .slice none 0 0=> .AS
  | .map none=> .OS
  | .nilFunc=> .PK
  | .nilIface=> .IX
  | .iface t v=> .Cm t (Vr d v)
  | .agg cs=> .agg (cs.toList.map (Vr d))
  | .tuple cs=> .BM (cs.toList.map (Vr d))
  |_=> .FK
def BK(x:Operand):O:=
 match x with
 | .tmp t=> .t t
 | .const v=> .c (Vr 10 v)
 | .global _=> .c .FK
 | .func f=> .c (.fn (.func f) [] [])
structure Env where
 I:T TypeInfo
 S:List Nat
section
variable (E:Env)
def inf(t:TypeId):Option TypeInfo:=T.get E.I t
def DU(t:TypeId):Option TypeDesc:=
 match inf E t with
 |some i=>(match i.desc with
  | .named _ u=>(match inf E u with
   |some j=>some j.desc
   |none=>none)
  |d=>some d)
 |none=>none
def Pq(t:TypeId):Option AV:=match inf E t with
 |some i=>(match i.zero with
  |some v=>some (Vr 10 v)
  |none=>none)
 |none=>none
def sz(t:TypeId):Option Nat:=match inf E t with
 |some i=>some i.size
 |none=>none
def Ft(t:TypeId):Option (List AV):=match inf E t with
 |some i=>(match i.zero with
  |some v=>(match Nat.beq v.cells.size i.size with
   |true=>some (v.cells.toList.map (Vr 10))
   |false=>none)
  |none=>none)
 |none=>none
def Oc(t:TypeId):Option Bool:=match DU E t with
 |some (.struct _)=>some true
 |some (.array _ _)=>some true
 |some _=>some false
 |none=>none
def Cw(t:TypeId):Option Nat:=match inf E t with
 |some i=>(match Nat.beq i.size 0 with
  |true=>none
  |false=>some i.size)
 |none=>none
def vn(t:TypeId):Option Nat:=match Oc E t with
 |some true=>Cw E t
 |some false=>some 0
 |none=>none
def Hm(f:Nat->Sh)(fd:Field):Option (Nat×Nat×Sh):=match fd.name== "_" with
 |true=>none
 |false=>(match vn E fd.type with
  |some n=>some (fd.offset,n,f fd.type)
  |none=>none)
def Ay:Nat->TypeId->Sh
 |0,_=> .bad
 |d+1,t=>match DU E t with
  |some .bool=> .pbool
  |some (.int _)=> .QB
  |some .string=> .vO
  |some (.pointer e)=>(match Cw E e with|some _=> .ptr|none=> .bad)
  |some (.interface _)=> .iface
  |some (.struct fs)=>(match Ob t E.S with
   |false=> .bad
   |true=>match fs.toList.mapM (Hm E (Ay d))with
    |some l=> .agg l
    |none=> .bad)
  |some (.slice _)=> .qX
  |some (.map _ _)=> .ad7
  |some (.func _ _ _)=> .qW
  |_=> .bad
def rJ(f:Field):Bool:=match f.name== "_" with
 |true=>false
 |false=>(match DU E f.type with
  |some (.int _)=>true
  |_=>false)
def Hn(t:TypeId):Option Sh:=match DU E t with
 |some .bool=>some (Ay E 5 t)
 |some (.int _)=>some (Ay E 5 t)
 |some .string=>some (Ay E 5 t)
 |some (.struct fs)=>(match fs.toList.all (rJ E)with
  |true=>some (Ay E 5 t)
  |false=>none)
 |_=>none
def wV(fs:Array Field)(p:Nat×Operand):Option (Nat×Nat×O):=match fs[p.1]? with
 |some f=>(match sz E f.type with
  |some n=>some (f.offset,n,BK p.2)
  |none=>none)
 |none=>none
def Vs(t:TypeId)(parts:List (Nat×Operand)):Option (List (Nat×Nat×O)):=
 match DU E t with
 |some (.struct fs)=>(match fs.toList.all (λf=>(sz E f.type).isSome)with|true=>parts.mapM (wV E fs)|false=>none)
 |some (.array _ e)=>(match sz E e with
  |some n=>some (parts.map λp=>(p.1*n,n,BK p.2))
  |none=>none)
 |_=>none
def Dq(t:TypeId):Nat:=match inf E t with|some i=>i.bytes|none=>0
def SP(t:TypeId):Nat:=match inf E t with|some i=>i.size|none=>0
def VZ(x:Operand):Bool:=
 match x with
 | .const _=>true
 |_=>false
def Avf(f:Fn):Option OY:=
 match f with
 | .func f=>some (.func f)
 |_=>none
def Mr(b:Builtin)(args:List Operand)(ts:List TypeId):RY:=
 match b with
 | .append=>(match args,ts with
  | [s,x],st::xt=>match DU E st with
   |some (.slice e)=>match Cw E e,Ft E e with
    |some n,some z=>(match xt with
     | [t]=>(match DU E t with
      |some (.int _)=> .gD (Dq E e) z (BK s) (BK x)
      |some (.slice _)=> .append n (Dq E e) (BK s) (BK x)
      |some .string=> .append n (Dq E e) (BK s) (BK x)
      |_=> .bad)
     |_=> .bad)
    |_,_=> .bad
   |_=> .bad
  |_,_=> .bad)
 | .copy=>(match args,ts with
  | [d,s],dt::_=>match DU E dt with
   |some (.slice e)=>match Cw E e with
    |some n=> .copy n (BK d) (BK s)
    |none=> .bad
   |_=> .bad
  |_,_=> .bad)
 | .len=>(match args,ts with
  | [x],[t]=>match DU E t with
   |some (.slice _)=> .cB (BK x)
   |some (.map _ _)=> .mQ (BK x)
   |_=> .bad
  |_,_=> .bad)
 | .cap=>(match args,ts with
  | [x],[t]=>match DU E t with
   |some (.slice _)=> .kD (BK x)
   |_=> .bad
  |_,_=> .bad)
 | .max=>(match args with| [a,b]=> .aT true (BK a) (BK b)|_=> .bad)
 | .min=>(match args with| [a,b]=> .aT false (BK a) (BK b)|_=> .bad)
 | .delete=>(match args,ts with
  | [m,k],mt::_=>match DU E mt with
   |some (.map kt _)=>match Hn E kt with
    |some sh=> .delete sh (BK m) (BK k)
    |none=> .bad
   |_=> .bad
  |_,_=> .bad)
 | .recover=>(match args with| []=> .recover|_=> .bad)
 | .panic=>(match args with| [x]=> .panic (BK x)|_=> .bad)
 |_=> .bad
def Ar(o:Op):RY:=
 match o with
 | .move x=> .mv (BK x)
 | .assign x=> .mv (BK x)
 | .pick c a b=> .pick (BK c) (BK a) (BK b)
 | .alloc e=>(match Ft E e with|some z=> .alloc z|none=> .bad)
 | .box e x=> .box ((SP E e)) (BK x)
 | .build t parts=>(match Ft E t,Vs E t parts.toList,Oc E t with
  |some z,some ps,some true=> .build z ps
  |_,_,_=> .bad)
 | .buildSlice t n parts=>(match DU E t with
  |some (.slice e)=>match Cw E e,Ft E e,Nat.ble (n*(SP E e)) 16777216 with
   |some s,some z,true=> .bJ n (rl z n) (parts.toList.map λp=>(p.1*s,s,BK p.2))
   |_,_,_=> .bad
  |_=> .bad)
 | .load t a=>(match inf E t with
  |some i=>match Oc E t with
   |some true=> .QN i.size (BK a)
   |some false=> .cC (BK a)
   |none=> .bad
  |none=> .bad)
 | .store t a x=>(match inf E t with
  |some i=> .store i.size (BK a) (BK x)
  |none=> .bad)
 | .nilCheck x=> .eT (BK x)
 | .binOp op t x y _=> .bin op (BK x) (BK y) (VZ x ||VZ y) (Ay E 5 t)
 | .unOp op _ x=> .un op (BK x)
 | .convert s d x=>(match DU E s with
  |some (.int _)=>(match DU E d with|some (.int k)=> .conv k (BK x)|_=> .bad)
  |some (.slice e)=>(match DU E d with
   |some .string=>(match DU E e with|some (.int .u8)=> .gF (BK x)|_=> .bad)
   |_=> .bad)
  |_=> .bad)
 | .makeInterface t x=>(match DU E t with
  |some (.interface _)=> .bad
  |some _=> .cF t (BK x)
  |none=> .bad)
 | .makeFunc fn a c=>(match Avf fn with
  |some f=> .cE f (a.toList.map BK) (c.toList.map BK)
  |none=> .bad)
 | .makeMap _ r=>(match r with|none=> .iX|some _=> .bad)
 | .makeSlice t l c=>(match DU E t with
  |some (.slice e)=>match Cw E e,Ft E e with
   |some _,some z=> .eP ((Dq E e)) z (BK l) (BK c)
   |_,_=> .bad
  |_=> .bad)
 | .slice t x lo hi mx=>(match DU E t with
  |some (.slice e)=>(match Cw E e with|some s=> .XS s (BK x) (lo.map BK) (hi.map BK) (mx.map BK)|none=> .bad)
  |_=> .bad)
 | .fieldAddr s x f=>(match DU E s with
  |some (.struct fs)=>match fs[f]? with
   |some fd=>match Cw E fd.type with
    |some _=> .dM (BK x) fd.offset
    |none=> .bad
   |none=> .bad
  |_=> .bad)
 | .field t x f=>(match DU E t with
  |some (.struct fs)=>match fs[f]? with
   |some fd=>match inf E fd.type,Oc E fd.type with
    |some _,some false=> .dN (BK x) fd.offset
    |_,_=> .bad
   |none=> .bad
  |_=> .bad)
 | .indexAddr t x ix=>(match DU E t with
  |some (.array n e)=>(match Cw E e with|some s=> .eB n s (BK x) (BK ix)|none=> .bad)
  |some (.slice e)=>(match Cw E e with|some s=> .bj s (BK x) (BK ix)|none=> .bad)
  |_=> .bad)
 | .index t x ix=>(match DU E t with
  |some .string=> .pR (BK x) (BK ix)
  |_=> .bad)
 | .lookup t m k ok=>(match DU E t with
  |some (.map kt e)=>match Hn E kt,Pq E e with
   |some sh,some z=> .lookup sh z (BK m) (BK k) ok
   |_,_=> .bad
  |_=> .bad)
 | .mapUpdate t m k x=>(match DU E t with
  |some (.map kt _)=>match Hn E kt with
   |some sh=> .qU sh (BK m) (BK k) (BK x)
   |none=> .bad
  |_=> .bad)
 | .mapEntry t m k=>(match DU E t with
  |some (.map kt e)=>match Hn E kt,Pq E e with
   |some sh,some z=> .qQ sh z (BK m) (BK k)
   |_,_=> .bad
  |_=> .bad)
 | .entryStore _ m s x=> .qT (BK m) (BK s) (BK x)
 | .range t x=>(match DU E t with
  |some (.map _ _)=> .qg (BK x)
  |_=> .bad)
 | .next it isString=>(match isString with|false=> .aV (BK it)|true=> .bad)
 | .entry it=> .entry (BK it)
 | .typeAssert x _ t ok=>(match DU E t with
  |some (.interface _)=> .bad
  |some _=>(match Pq E t with
   |some z=> .jG (BK x) t z ok
   |none=> .bad)
  |none=> .bad)
 | .extract x i=> .extract (BK x) i
 | .call c=>(match c.callee with
  | .value f=> .LY (BK f) (c.args.toList.map BK)
  | .invoke _ _=> .bad
  | .builtin b=>Mr E b c.args.toList c.argTypes.toList)
 | .defer c=>(match c.callee with
  | .value f=> .defer (BK f) (c.args.toList.map BK)
  |_=> .bad)
 | .panic x=> .panic (BK x)
 |_=> .bad
def Pr(nt:Nat)(d:Option Nat):Bool:=
 match d with
 |none=>true
 |some d=>Nat.ble (Nat.succ d) nt
def Ms(ops:Array Oper)(g:Option (Nat×Bool)):Option (Option (Nat×Bool)):=
 match g with
 |none=>some none
 |some (j,b)=>match(ops[j]?).bind (·.dst)with
  |some d=>some (some (d,b))
  |none=>none
def Mt(nt:Nat)(ops:Array Oper)(o:Oper):CI:=
 match Pr nt o.dst,Ms ops o.guard with
 |true,some g=>⟨o.dst,g,Ar E o.op⟩
 |_,_=>⟨none,none,.bad⟩
def cls(c:RY):Nat:=
 match c with
 | .mv _=>0
 | .pick _ _ _=>0
 | .build _ _=>0
 | .eT _=>0
 | .bin _ _ _ _ _=>0
 | .un _ _=>0
 | .conv _ _=>0
 | .cF _ _=>0
 | .cE _ _ _=>0
 | .XS _ _ _ _ _=>0
 | .dM _ _=>0
 | .dN _ _=>0
 | .eB _ _ _ _=>0
 | .bj _ _ _=>0
 | .pR _ _=>0
 | .jG _ _ _ _=>0
 | .extract _ _=>0
 | .cB _=>0
 | .kD _=>0
 | .aT _ _ _=>0
 | .cC _=>1
 | .QN _ _=>1
 | .gF _=>1
 | .lookup _ _ _ _ _=>1
 | .mQ _=>1
 | .alloc _=>2
 | .box _ _=>2
 | .bJ _ _ _=>2
 | .iX=>2
 | .eP _ _ _ _=>2
 |_=>3
def tb(m n:Nat):Bool:=Nat.beq (Nat.land (Nat.shiftRight m n) 1) 1
def Cd(nt:Nat)(ops:Array Oper)(j:Nat):CI:=match ops[j]? with|some o=>Mt E nt ops o|none=>⟨none,none,.bad⟩
def Aiv(l:List Operand):List Nat:=l.filterMap λ| .tmp t=>some t|_=>none
def Qk(ops:Array Oper)(j:Nat):List Nat:=
 match ops[j]? with
 |some o=>List.append (match o.guard with|some (g,_)=>(match(ops[g]?).bind (·.dst)with|some d=>[d]|none=>[])|none=>[]) (Aiv o.op.operands.toList)
 |none=>[]
structure Row where
 j:Nat
 d:DI
 bits:Nat
structure SZ where
 ops:Array Oper
 bits:Nat->Nat
def wW(nt:Nat)(ops:Array Oper)(b:Nat->Nat)(j:Nat):Row:=⟨j,⟨Cd E nt ops j,Qk ops j⟩,b j⟩
def A4(nt:Nat)(R:SZ):List Row:=(List.range R.ops.size).map (wW E nt R.ops R.bits)
def Od(r:Row):Nat:=cls r.d.ci.op
def T4(r:Row):Bool:=Nat.beq (Od r) 3
def C5(l:List Row):List Row:=l.filter T4
def D6(l:List Row):List Row:=l.filter λr=>!T4 r
def QJ(es:List Row)(r:Row):Nat:=(es.filter λe=>tb r.bits e.j).length
def Ps(l:List Row):Bool:=l.any λr=>Nat.beq (Od r) 2
def F8(ne es:List Row)(k:Nat):List Row:=ne.filter λr=>Nat.beq (QJ es r) k
def ik(ne es:List Row)(e:Row)(k:Nat):List Row:=ne.filter λr=>match Nat.beq (Od r) 2 with
 |true=>false
 |false=>match Nat.ble (QJ es r) k with
  |true=>!(tb e.bits r.j)
  |false=>Nat.beq (QJ es r) (Nat.succ k)&&Nat.beq (Od r) 1&&Ps (F8 ne es (Nat.succ k))
def Vt(ne es:List Row):List Row:=ne.filter λr=>Nat.beq (QJ es r) 0&&Nat.beq (Od r) 1&&Ps (F8 ne es 0)
def Ig(r:Row):DI:=r.d
def Bz(ne es:List Row):List Row->Nat->List Ph
 | [],_=>[]
 |e::r,k=>⟨e.d,(F8 ne es (Nat.succ k)).map Ig,(ik ne es e k).map Ig⟩::Bz ne es r (Nat.succ k)
def wX(d:Nat)(o:Option Nat):Bool:=match o with|none=>true|some e=>!(Nat.beq d e)
def Vu(es:List Row)(i r:Row):Bool:=match i.d.ci.dst with
 |none=>true
 |some d=>match Nat.beq r.j i.j with
  |true=>!(Ob d i.d.names)
  |false=>wX d r.d.ci.dst&&(!(Ob d r.d.names) ||tb r.bits i.j || (Nat.ble (Nat.succ (QJ es r)) (QJ es i)&&(es.take (QJ es i)).any λe=>tb e.bits r.j))
def Mv:List Row->Bool
 | []=>true
 |e::r=>r.all (λf=>tb f.bits e.j)&&Mv r
def Z6(l es:List Row)(i:Row):Bool:=
 l.all (Vu es i)&&(es.take (QJ es i)).all (λe=>tb i.bits e.j)&&(!(Nat.beq (Od i) 2) || (es.drop (QJ es i)).all λe=>tb e.bits i.j)
def vp(l es:List Row)(i:Row):Bool:=l.all λk=>!(tb i.bits k.j) ||!(Nat.beq (QJ es i) (QJ es k)) ||Nat.ble (Nat.succ k.j) i.j
def F9(l:List Row):Bool:=
 l.all (λr=>!(tb r.bits r.j))&&(D6 l).all (vp (D6 l) (C5 l))&&(D6 l).all (Z6 l (C5 l))&&Mv (C5 l)
def Q6(b:Array Nat)(j:Nat):Nat:=b.getD j 0
def Oe(ops:Array Oper):SZ:=⟨ops,Q6 (Region.before ops)⟩
def Q7(ops:Array Oper):Bool:=(List.range ops.size).all λj=>Nat.ble (Nat.succ (Q6 (Region.before ops) j)) (Nat.pow 2 j)
def L2(b:Nat->Nat)(i e:Nat):Nat->Nat:=λj=>match Nat.beq j e ||tb (b j) e with
 |true=>Nat.lor (Nat.lor (b j) (Nat.pow 2 i)) (b i)
 |false=>b j
def wY(l:List Row):Option (Nat×Nat):=
 match(l.filter λr=>Nat.beq (Od r) 2).filterMap λi=>match(C5 l).filter λe=>!(tb i.bits e.j)&&!(tb e.bits i.j)with
  | []=>none
  |e::_=>some (i.j,e.j)with
 | []=>none
 |p::_=>some p
def Fu(nt:Nat)(ops:Array Oper):Nat->(Nat->Nat)->List (Nat->Nat)
 |0,b=>[b]
 |f+1,b=>match wY (A4 E nt ⟨ops,b⟩)with
  |none=>[b]
  |some (i,e)=>match Nat.ble (Nat.succ i) ops.size&&Nat.ble (Nat.succ e) ops.size&&!(Nat.beq i e)with
   |true=>List.append (Fu nt ops f (L2 b i e)) (Fu nt ops f (L2 b e i))
   |false=>[b]
def Ama(l:List Row):Alt:=⟨(F8 (D6 l) (C5 l) 0).map Ig,(Vt (D6 l) (C5 l)).map Ig,Bz (D6 l) (C5 l) (C5 l) 0⟩
def E9(nt:Nat)(ops:Array Oper)(draw:Bool):CC:=
 match draw with
 |false=> .ops (ops.toList.map (Mt E nt ops))
 |true=>match Q7 ops with
  |false=> .bad
  |true=>match F9 (A4 E nt (Oe ops))with
   |true=> .drawn ((F8 (D6 (A4 E nt (Oe ops))) (C5 (A4 E nt (Oe ops))) 0).map Ig) ((Vt (D6 (A4 E nt (Oe ops))) (C5 (A4 E nt (Oe ops)))).map Ig)
    (Bz (D6 (A4 E nt (Oe ops))) (C5 (A4 E nt (Oe ops))) (C5 (A4 E nt (Oe ops))) 0)
   |false=>match(Fu E nt ops 8 (Oe ops).bits).all λb=>F9 (A4 E nt ⟨ops,b⟩)with
    |true=> .alts ((Fu E nt ops 8 (Oe ops).bits).map λb=>Ama (A4 E nt ⟨ops,b⟩))
    |false=> .bad
def Bo(nt:Nat):Code->CC
 | .skip=> .skip
 | .region _ ops draw=>E9 E nt ops draw
 | .seq a b=> .seq (Bo nt a) (Bo nt b)
 | .cond c a b=> .cond (BK c) (Bo nt a) (Bo nt b)
 | .block id b=> .block id (Bo nt b)
 | .loop b=> .loop (Bo nt b)
 | .rangeFunc f ps a b=>match ps.toList.all (λp=>Nat.ble (Nat.succ p) nt)with
  |true=> .rangeFunc (BK f) ps.toList (Bo nt a) (Bo nt b)
  |false=> .bad
 | .exit id=> .exit id
 | .scope b=> .scope (Bo nt b)
 | .label l=> .label l
 | .goto l=> .goto l
 | .ret=> .ret
 | .refuse _=> .bad
def Ql(r:ResultVar):fh:=
 match r with
 | .tmp t=> .tmp t
 | .cell a t=>match inf E t with
  |some i=>match Oc E t with
   |some true=> .ny a i.size
   |some false=> .nu a
   |none=> .bad
  |none=> .bad
def Xn(f:Func)(c:Code):DY:=⟨f.ntmps,f.results.toList.map (Ql E),Bo E f.ntmps c⟩
def Qm:Nat->List Func->T DY->T DY
 |_,[],t=>t
 |i,f::r,t=>Qm (Nat.succ i) r (match f.body with
  |some c=>T.set t i (some (Xn E f c))
  |none=>t)
end
variable {E:Env}{a b bytes cap KC cb d n nt o off r s GY DQ size:Nat}{c tm:T AV}{cs tmps:Array Value}{e kt t u:TypeId}{BG AZ AQ Cb:Value}{es:List FD}{f:AV->AV->Option Bool}{h AA:H}{i:TypeInfo}{ix m x y:Operand}{j k:IntKind}{l xs z:List AV}{AT vs:List Value}{ok q:Bool}{op:BinOp}{p:Prop}{sh:Sh}{v:AV}{AY:World}{w0:Array Obj}{BQ:Operand->Value}
def Kz:Nat->List TypeInfo->T TypeInfo->T TypeInfo
 |_,[],t=>t
 |n,i::r,t=>Kz (Nat.succ n) r (T.set t n (some i))
inductive Out where
 |one (c:GN)
 |many (l:List GN)
 |done (fn:Nat) (v:AV) (h:H)
 |fail
def put(tm:T AV)(d:Option Nat)(v:AV):T AV:=
 match d with
 |none=>tm
 |some d=>T.set tm d (some v)
def wanted(tm:T AV)(g:Option (Nat×Bool)):Option Bool:=
 match g with
 |none=>some true
 |some (t,b)=>match T.get tm t with
  |some (.bool c)=>some (dB c b)
  |some (.BM [])=>some false
  |_=>none
def findLabel:CC->Nat->Option CC
 | .seq a b,l=>match findLabel a l with
  |some r=>some (.seq r b)
  |none=>findLabel b l
 | .label AT,l=>match Nat.beq AT l with|true=>some .skip|false=>none
 |_,_=>none
def exitTo(id:Nat):List PS->Option (List PS)
 | []=>none
 |i::k=>match i with
  | .inBlock aN=>match Nat.beq aN id with|true=>some k|false=>exitTo id k
  |_=>exitTo id k
def gotoIn(l:Nat):List PS->Option (List PS)
 | []=>none
 |i::k=>match i with
  | .inScope b=>match findLabel b l with
   |some r=>some (.code r:: .inScope b::k)
   |none=>gotoIn l k
  |_=>gotoIn l k
def only(tm:T AV):List Nat->T AV
 | []=> .leaf
 |t::r=>match T.get tm t with
  |some v=>T.set (only tm r) t (some v)
  |none=>only tm r
def Ho:List DI->T AV->H->Option (T AV×H)
 | []=>λtm h=>some (tm,h)
 |i::r=>λtm h=>match wanted (only tm i.names) i.ci.guard with
  |some true=>match exec i.ci.op h (only tm i.names)with
   | .val v AA=>Ho r (put tm i.ci.dst v) AA
   |_=>none
  |some false=>Ho r (put tm i.ci.dst (.BM [])) h
  |none=>none
def nQ(f:OY):OY->Bool:=
 match f with
 | .func a=>λ| .func b=>Nat.beq a b| .yield _=>false
 | .yield _=>λ_=>false
def Ih(f:AV->AV->Bool):List AV->List AV->Bool
 | []=>λ| []=>true|_::_=>false
 |a::r=>λ| []=>false|b::s=>match f a b with|true=>Ih f r s|false=>false
def qm(u w:Value):Bool:=
 match u with
 | .slice (some a) n c=>(match w with
  | .slice (some BC) Yh BP=>(match Nat.beq a.block BC.block,Nat.beq a.off BC.off,Nat.beq n Yh,Nat.beq c BP with
   |true,true,true,true=>(match a.spot with
    |none=>(match BC.spot with|none=>true|some _=>false)
    |some s=>(match BC.spot with|none=>false|some EU=>Nat.beq s EU))
   |_,_,_,_=>false)
  |_=>false)
 |_=>false
def Gd(d:Nat):AV->AV->Bool:=
 match d with
 |0=>λ_ _=>false
 |Nat.succ d=>λx=>match x with
  | .bool a=>λy=>match y with| .bool b=>dB a b|_=>false
  | .int k a=>λy=>match y with| .int j b=>(match MW k j with|true=>TO a b|false=>false)|_=>false
  | .str a=>λy=>match y with| .str b=>Oa a b|_=>false
  | .M7=>λy=>match y with| .M7=>true|_=>false
  | .ptr b o=>λy=>match y with| .ptr AR EG=>(match Nat.beq b AR with|true=>Nat.beq o EG|false=>false)|_=>false
  | .AS=>λy=>match y with| .AS=>true|_=>false
  | .AE b o n c=>λy=>match y with
   | .AE AR EG Yh BP=>(match Nat.beq b AR,Nat.beq o EG,Nat.beq n Yh,Nat.beq c BP with|true,true,true,true=>true|_,_,_,_=>false)
   |_=>false
  | .OS=>λy=>match y with| .OS=>true|_=>false
  | .map r=>λy=>match y with| .map CO=>Nat.beq r CO|_=>false
  | .fn f a c=>λy=>match y with
   | .fn g BC BP=>(match nQ f g,Ih (Gd d) a BC,Ih (Gd d) c BP with|true,true,true=>true|_,_,_=>false)
   |_=>false
  | .PK=>λy=>match y with| .PK=>true|_=>false
  | .Cm t v=>λy=>match y with| .Cm u w=>(match Nat.beq t u with|true=>Gd d v w|false=>false)|_=>false
  | .IX=>λy=>match y with| .IX=>true|_=>false
  | .agg l=>λy=>match y with| .agg AT=>Ih (Gd d) l AT|_=>false
  | .BM l=>λy=>match y with| .BM AT=>Ih (Gd d) l AT|_=>false
  | .HZ u=>λy=>match y with| .HZ w=>qm u w|_=>false
  | .FK=>λ_=>false
def Pt:List DI->T AV->T AV
 | []=>λtm=>tm
 |i::r=>λtm=>Pt r (match i.ci.dst with|some d=>T.set tm d none|none=>tm)
def holds(tm:T AV)(d:Option Nat)(v:AV):Bool:=
 match d with
 |none=>true
 |some d=>match T.get tm d with
  |some u=>Gd 20 v u
  |none=>false
def check(i:DI)(tm:T AV)(h:H):Bool:=
 match wanted (only tm i.names) i.ci.guard with
 |some false=>holds tm i.ci.dst (.BM [])
 |none=>false
 |some true=>match exec i.ci.op h (only tm i.names)with
  | .val v _=>holds tm i.ci.dst v
  |_=>false
def NF:List DI->T AV->H->Bool
 | []=>λ_ _=>true
 |i::r=>λtm h=>match check i tm h with
  |true=>NF r tm h
  |false=>false
def results(tm:T AV)(h:H):List fh->Option (List AV)
 | []=>some []
 |x::r=>match results tm h r with
  |none=>none
  |some l=>match x with
   | .tmp t=>some (ev tm (.t t)::l)
   | .nu a=>match ev tm (.t a)with
    | .ptr b o=>match H.get h b with
     |some (.cells _ k c)=>match Nat.ble (Nat.succ o) k,T.get c o with
      |true,some v=>some (v::l)
      |_,_=>none
     |_=>none
    |_=>none
   | .ny a n=>match ev tm (.t a)with
    | .ptr b o=>match KM h b o n with
     |some v=>some (.agg v::l)
     |none=>none
    |_=>none
   | .bad=>none
def single(l:List AV):AV:=
 match l with
 | [v]=>v
 |l=> .BM l
def settle(m:VC):VC:=
 match m with
 | .panicking ((_,true)::_)=> .returning
 |m=>m
def raise(m:VC)(l:List (AV×Bool)):VC:=
 match m with
 | .panicking c=> .panicking (List.append l c)
 |_=> .panicking l
inductive OR where
 |fin (tm:T AV) (h:H)
 |at_ (i:CI) (r:List CI) (tm:T AV) (h:H) (x:R)
 |fail
def Dr:List CI->T AV->H->OR
 | []=>λtm h=> .fin tm h
 |i::r=>λtm h=>match wanted tm i.guard with
  |some true=>(match exec i.op h tm with
   | .val v AA=>Dr r (put tm i.dst v) AA
   | .fail=> .fail
   |x=> .at_ i r tm h x)
  |some false=>Dr r (put tm i.dst (.BM [])) h
  |none=> .fail
def C6:List Nat->List AV->T AV->Option (T AV)
 | [],[],tm=>some tm
 |p::ps,a::as,tm=>C6 ps as (T.set tm p (some a))
 |_,_,_=>none
def Dk(pre By:List DI)(l:List Ph)(k:List PS)(fn nt:Nat)(tm:T AV)(defers:List HN)(AL:Bool)(ro:Option Nat)(cs:List EW)(h:H):Out:=
 match Ho pre tm h with
 |none=> .fail
 |some (tm,h)=>match NF By tm h with
  |false=> .fail
  |true=>match l with
   | []=> .one ⟨⟨fn,nt,tm,k,defers,.run,AL,ro⟩,cs,h⟩
   |p::l=> .one ⟨⟨fn,nt,tm,.drawn p l::k,defers,.run,AL,ro⟩,cs,h⟩
def Js:List Out->Out
 | []=> .many []
 |o::r=>match o with
  | .one c=>(match Js r with
   | .many l=> .many (c::l)
   |_=> .fail)
  |_=> .fail
def finish(v:AV)(cs:List EW)(h:H)(c:EW):Out:=
 match c with
 |⟨fn,nt,tm,todo,defers,mode,AL,ro⟩=>match mode with
  | .run=>match todo with
   | []=> .fail
   |i::k=>match i with
    | .ops l=>(match l with
     | []=> .fail
     |i::r=>match i with
      |⟨dst,_,op⟩=>match op with
       | .bad=> .fail
       |_=> .one ⟨⟨fn,nt,put tm dst v,.ops r::k,defers,.run,AL,ro⟩,cs,h⟩)
    | .drawn p l=>(match p with
     |⟨⟨⟨dst,_,op⟩,_⟩,pre,By⟩=>match op with
      | .bad=> .fail
      |_=>Dk pre By l k fn nt (put tm dst v) defers AL ro cs h)
    | .XH l=> .one ⟨⟨fn,nt,tm,.VL l::k,defers,.run,AL,ro⟩,cs,h⟩
    |_=> .fail
  |_=> .fail
def cD(K:T (List AV×AV))(f:Nat)(args:List AV):Option AV:=
 match T.get K f with
 |none=>none
 |some p=>match Ih (Gd 20) p.1 args with
  |true=>some p.2
  |false=>none
def Xo(AL:Bool)(K:T (List AV×AV))(f:Nat)(args:List AV):Option AV:=
 match AL with
 |true=>none
 |false=>cD K f args
section
variable (F:T DY)(K:T (List AV×AV))
def B6(f:OY):List AV->Bool->EW->List EW->H->Out:=
 match f with
 | .func f=>λargs AL fr cs h=>match T.get F f with
  |some g=>match Xo AL K f args with
   |some v=>finish v cs h fr
   |none=>match Nat.ble args.length g.ntmps with
    |true=> .one ⟨⟨f,g.ntmps,JI 0 .leaf args,[.code g.body],[],.run,AL,none⟩,fr::cs,h⟩
    |false=> .fail
  |none=> .fail
 | .yield l=>λargs AL fr cs h=>match H.get h l with
  |some (.loop r)=>match C6 r.params args r.tmps with
   |some tm=> .one ⟨⟨r.fn,r.nt,tm,[.code r.assign,.beginRound,.code r.body],[],.run,AL,some l⟩,fr::cs,h⟩
   |none=> .fail
  |_=> .fail
def Of(AL:Bool)(v:AV)(cs:List EW)(h:H):Out:=
 match cs with
 | []=> .fail
 |c::cs=>match AL with
  |true=>match c with
   |⟨fn,nt,tm,todo,defers,mode,d,ro⟩=> .one ⟨⟨fn,nt,tm,todo,defers,settle mode,d,ro⟩,cs,h⟩
  |false=>finish v cs h c
def doReturn(fn:Nat)(AL:Bool)(v:AV)(cs:List EW)(h:H):Out:=
 match cs with
 | []=>match AL with
  |false=> .done fn v h
  |true=> .fail
 |cs=>Of AL v cs h
def leave(jump:Option CC)(fn nt:Nat)(tm:T AV)(todo:List PS)(defers:List HN)(AL:Bool)(ro:Option Nat)(cs:List EW)(h:H):Out:=
 match ro with
 |none=> .one ⟨⟨fn,nt,tm,todo,defers,.returning,AL,none⟩,cs,h⟩
 |some l=>match H.get h l with
  |some (.loop ⟨_,_,f,n,t,ps,a,b,d⟩)=>match jump with
   |none=>Of AL (.bool true) cs (H.set h l (.loop ⟨.ready,none,f,n,t,ps,a,b,d⟩))
   |some j=>match Nat.beq n nt with
    |true=>Of AL (.bool false) cs (H.set h l (.loop ⟨.done,some j,f,n,t,ps,a,b,d⟩))
    |false=> .fail
  |_=> .fail
def Xp(o:OR)(k:List PS)(fn nt:Nat)(defers:List HN)(AL:Bool)(ro:Option Nat)(cs:List EW):Out:=
 match o with
 | .fail=> .fail
 | .fin tm h=> .one ⟨⟨fn,nt,tm,k,defers,.run,AL,ro⟩,cs,h⟩
 | .at_ i r tm h x=>match x with
  | .call f args=>B6 F K f args false ⟨fn,nt,tm,.ops (i::r)::k,defers,.run,AL,ro⟩ cs h
  | .EQ f args=>(match ro with
   |none=> .one ⟨⟨fn,nt,put tm i.dst (.BM []),.ops r::k,.call f args::defers,.run,AL,none⟩,cs,h⟩
   |some _=> .fail)
  | .G0 v=> .one ⟨⟨fn,nt,tm,.ops (i::r)::k,defers,.panicking [(v,false)],AL,ro⟩,cs,h⟩
  | .recover=>(match ro with
   |some _=> .fail
   |none=>match AL with
    |false=> .one ⟨⟨fn,nt,put tm i.dst .IX,.ops r::k,defers,.run,false,none⟩,cs,h⟩
    |true=>match cs with
     | []=> .fail
     |c::cs=>match c with
      |⟨YI,nt',FV,OU,abi,aj5,MG,QP⟩=>match aj5 with
       | .panicking ((v,false)::o)=> .one ⟨⟨fn,nt,put tm i.dst v,.ops r::k,defers,.run,true,none⟩,⟨YI,nt',FV,OU,abi,.panicking ((v,true)::o),MG,QP⟩::cs,h⟩
       |m=> .one ⟨⟨fn,nt,put tm i.dst .IX,.ops r::k,defers,.run,true,none⟩,⟨YI,nt',FV,OU,abi,m,MG,QP⟩::cs,h⟩)
  | .next l=> .many (List.map (λx=>⟨⟨fn,nt,put tm i.dst x.1,.ops r::k,defers,.run,AL,ro⟩,cs,x.2⟩) l)
  | .val _ _=> .fail
  | .fail=> .fail
def enterLoop(fn nt:Nat)(tm:T AV)(ps:List Nat)(a b:CC)(ro:Option Nat)(h:H):Option (Nat×List HN×H):=
 match ro with
 |none=>some (Nat.succ h.n,[.mark h.n],H.new (H.new h (.EQ (some []))) (.loop ⟨.ready,none,fn,nt,tm,ps,a,b,h.n⟩))
 |some l=>match H.get h l with
  |some (.loop r)=>some (h.n,[],H.new h (.loop ⟨.ready,none,fn,nt,tm,ps,a,b,r.defers⟩))
  |_=>none
def Cf(c:CC):List PS->Nat->Nat->T AV->List HN->Bool->Option Nat->List EW->H->Out:=
 match c with
 | .skip=>λk fn nt tm defers AL ro cs h=> .one ⟨⟨fn,nt,tm,k,defers,.run,AL,ro⟩,cs,h⟩
 | .label _=>λk fn nt tm defers AL ro cs h=> .one ⟨⟨fn,nt,tm,k,defers,.run,AL,ro⟩,cs,h⟩
 | .ret=>λk fn nt tm defers AL ro cs h=>leave (some .ret) fn nt tm (.code .ret::k) defers AL ro cs h
 | .ops l=>λk fn nt tm defers AL ro cs h=>Xp F K (Dr l tm h) k fn nt defers AL ro cs
 | .drawn pre By l=>λk fn nt tm defers AL ro cs h=>Dk pre By l k fn nt tm defers AL ro cs h
 | .alts l=>λk fn nt tm defers AL ro cs h=>Js (l.map λa=>Dk a.pre a.By a.l k fn nt tm defers AL ro cs h)
 | .seq a b=>λk fn nt tm defers AL ro cs h=> .one ⟨⟨fn,nt,tm,.code a:: .code b::k,defers,.run,AL,ro⟩,cs,h⟩
 | .cond x a b=>λk fn nt tm defers AL ro cs h=>match ev tm x with
  | .bool true=> .one ⟨⟨fn,nt,tm,.code a::k,defers,.run,AL,ro⟩,cs,h⟩
  | .bool false=> .one ⟨⟨fn,nt,tm,.code b::k,defers,.run,AL,ro⟩,cs,h⟩
  |_=> .fail
 | .block id b=>λk fn nt tm defers AL ro cs h=> .one ⟨⟨fn,nt,tm,.code b:: .inBlock id::k,defers,.run,AL,ro⟩,cs,h⟩
 | .loop b=>λk fn nt tm defers AL ro cs h=> .one ⟨⟨fn,nt,tm,.code b:: .inLoop b::k,defers,.run,AL,ro⟩,cs,h⟩
 | .scope b=>λk fn nt tm defers AL ro cs h=> .one ⟨⟨fn,nt,tm,.code b:: .inScope b::k,defers,.run,AL,ro⟩,cs,h⟩
 | .exit id=>λk fn nt tm defers AL ro cs h=>match exitTo id k with
  |some k=> .one ⟨⟨fn,nt,tm,k,defers,.run,AL,ro⟩,cs,h⟩
  |none=>(match ro with|some _=>leave (some (.exit id)) fn nt tm [] defers AL ro cs h|none=> .fail)
 | .goto l=>λk fn nt tm defers AL ro cs h=>match gotoIn l k with
  |some k=> .one ⟨⟨fn,nt,tm,k,defers,.run,AL,ro⟩,cs,h⟩
  |none=>(match ro with|some _=>leave (some (.goto l)) fn nt tm [] defers AL ro cs h|none=> .fail)
 | .rangeFunc f ps a b=>λk fn nt tm defers AL ro cs h=>match enterLoop fn nt tm ps a b ro h with
  |none=> .fail
  |some (l,mark,h)=>(match ev tm f with
   | .fn g first cap=>B6 F K g (List.append first (.fn (.yield l) [] []::cap)) false ⟨fn,nt,tm,.XH l::k,List.append mark defers,.run,AL,ro⟩ cs h
   |_=> .fail)
 | .bad=>λ_ _ _ _ _ _ _ _ _=> .fail
def B0(i:PS):List PS->Nat->Nat->T AV->List HN->Bool->Option Nat->List EW->H->Out:=
 match i with
 | .code c=>λk fn nt tm defers AL ro cs h=>Cf F K c k fn nt tm defers AL ro cs h
 | .inBlock _=>λk fn nt tm defers AL ro cs h=> .one ⟨⟨fn,nt,tm,k,defers,.run,AL,ro⟩,cs,h⟩
 | .inScope _=>λk fn nt tm defers AL ro cs h=> .one ⟨⟨fn,nt,tm,k,defers,.run,AL,ro⟩,cs,h⟩
 | .inLoop b=>λk fn nt tm defers AL ro cs h=> .one ⟨⟨fn,nt,tm,.code b:: .inLoop b::k,defers,.run,AL,ro⟩,cs,h⟩
 | .ops l=>λk fn nt tm defers AL ro cs h=>Xp F K (Dr l tm h) k fn nt defers AL ro cs
 | .drawn p l=>λk fn nt tm defers AL ro cs h=>match wanted (only tm p.X0.names) p.X0.ci.guard with
  |none=> .fail
  |some false=>Dk p.pre p.By l k fn nt (put tm p.X0.ci.dst (.BM [])) defers AL ro cs h
  |some true=>(match exec p.X0.ci.op h (only tm p.X0.names)with
   | .val v h=>Dk p.pre p.By l k fn nt (put tm p.X0.ci.dst v) defers AL ro cs h
   | .call f args=>B6 F K f args false ⟨fn,nt,tm,.drawn p l::k,defers,.run,AL,ro⟩ cs h
   |_=> .fail)
 | .XH _=>λ_ _ _ _ _ _ _ _ _=> .fail
 | .gone=>λ_ _ _ _ _ _ _ _ _=> .fail
 | .VL l=>λk fn nt tm defers AL ro cs h=>match H.get h l with
  |some (.loop ⟨st,p,f,n,t,ps,a,b,d⟩)=>(match st with
   | .busy=> .fail
   |_=>match p with
    |some j=>(match Nat.beq n nt with
     |true=> .one ⟨⟨fn,nt,tm,.code j::k,defers,.run,AL,ro⟩,cs,H.set h l (.loop ⟨.exhausted,p,f,n,t,ps,a,b,d⟩)⟩
     |false=> .fail)
    |none=> .one ⟨⟨fn,nt,tm,k,defers,.run,AL,ro⟩,cs,H.set h l (.loop ⟨.exhausted,p,f,n,t,ps,a,b,d⟩)⟩)
  |_=> .fail
 | .beginRound=>λk fn nt tm defers AL ro cs h=>match ro with
  |none=> .fail
  |some l=>match H.get h l with
   |some (.loop ⟨st,p,f,n,t,ps,a,b,d⟩)=>(match st with
    | .ready=> .one ⟨⟨fn,nt,tm,k,defers,.run,AL,ro⟩,cs,H.set h l (.loop ⟨.busy,p,f,n,t,ps,a,b,d⟩)⟩
    |_=> .fail)
   |_=> .fail
def unwind(fn nt:Nat)(tm:T AV)(todo:List PS)(mode:VC)(AL:Bool)(ro:Option Nat)(cs:List EW)(h:H)(defers:List HN):Out:=
 match defers with
 |d::ds=>(match d with
  | .mark b=>(match H.get h b with
   |some (.EQ (some l))=> .one ⟨⟨fn,nt,tm,todo,List.append l ds,mode,AL,ro⟩,cs,H.set h b (.EQ none)⟩
   |_=> .fail)
  | .call f args=>B6 F K (.func f) args true ⟨fn,nt,tm,todo,ds,mode,AL,ro⟩ cs h)
 | []=>match mode with
  | .run=> .fail
  | .panicking chain=>(match T.get F fn with
   |none=> .fail
   |some _=>match cs with
    | []=> .fail
    |c::cs=>match c with
     |⟨fn,nt,tm,todo,defers,mode,AL,ro⟩=>match todo with
      | .drawn p _::_=> .one ⟨⟨fn,nt,Pt p.By tm,[.gone],defers,raise mode chain,AL,ro⟩,cs,h⟩
      |_=> .one ⟨⟨fn,nt,tm,todo,defers,raise mode chain,AL,ro⟩,cs,h⟩)
  | .returning=>match T.get F fn with
   |none=> .fail
   |some g=>match results tm h g.results with
    |some l=>doReturn fn AL (single l) cs h
    |none=> .fail
def step(c:GN):Out:=
 match c with
 |⟨⟨fn,nt,tm,todo,defers,mode,AL,ro⟩,cs,h⟩=>match mode with
  | .run=>(match todo with
   | []=>leave none fn nt tm [] defers AL ro cs h
   |i::k=>B0 F K i k fn nt tm defers AL ro cs h)
  |m=>unwind F K fn nt tm todo m AL ro cs h defers
inductive Safe (Q:Nat->AV->H->Prop):GN->Prop where
 |one {c BP:GN}:step F K c= .one BP->Safe Q BP->Safe Q c
 |many {c:GN} {l:List GN}:step F K c= .many l->(∀BP∈l,Safe Q BP)->Safe Q c
 |done {c:GN} {fn:Nat} {v:AV} {h:H}:step F K c= .done fn v h->Q fn v h->Safe Q c
end
theorem rK(h:p:=by
 by_cases h:m%2=0
 .have:Nat.beq (Nat.mod m 2) 0=true:=by rw[show Nat.mod m 2=0 from h];rfl
  rw[this,AP h];rfl
 .have:Nat.beq (Nat.mod m 2) 0=false:=by
   cases hb:Nat.beq (Nat.mod m 2) 0 with
   |false=>rfl
   |true=>exact absurd (jL hb) h
  rw[this,AM h];rfl):p:=h
section
variable {α:Type}
theorem T.VM(n:Nat):T.get (T.leaf:T α) n=none:=rfl
theorem T.gP(l:T α)(v:Option α)(r:T α):T.get (.node l v r) 0=v:=rfl
theorem T.Zv(l:T α)(v:Option α)(r:T α)(m:Nat):T.get (.node l v r) (m+1)=if m%2=0 then T.get l (m/2)else T.get r (m/2):=by show(@Bool.rec (λ_=>Option α) (T.get r (Nat.div m 2)) (T.get l (Nat.div m 2)) (Nat.beq (Nat.mod m 2) 0))=_;exact rK
theorem T.aml(x:Option α)(f:Nat):T.single x (f+1) 0= .node .leaf x .leaf:=rfl
theorem T.amk(x:Option α)(f m:Nat):T.single x (f+1) (m+1)=if m%2=0 then .node (T.single x f (m/2)) none .leaf else .node .leaf none (T.single x f (m/2)):=by show(@Bool.rec (λ_=>T α) (.node .leaf none (T.single x f (Nat.div m 2))) (.node (T.single x f (Nat.div m 2)) none .leaf) (Nat.beq (Nat.mod m 2) 0))=_;exact rK
theorem T.ame(n:Nat)(x:Option α):T.set (.leaf:T α) n x=T.single x (n+1) n:=rfl
theorem T.amg(l:T α)(v:Option α)(r:T α)(x:Option α):T.set (.node l v r) 0 x= .node l x r:=rfl
theorem T.amf(l:T α)(v:Option α)(r:T α)(m:Nat)(x:Option α):T.set (.node l v r) (m+1) x=if m%2=0 then .node (T.set l (m/2) x) v r else .node l v (T.set r (m/2) x):=by show(@Bool.rec (λ_=>T α) (.node l v (T.set r (Nat.div m 2) x)) (.node (T.set l (Nat.div m 2) x) v r) (Nat.beq (Nat.mod m 2) 0))=_;exact rK
theorem T.sU(x:Option α):∀(f n m:Nat),n<f->T.get (T.single x f n) m=if m=n then x else none
 |0,n,m,h=>om
 |f+1,0,m,_=>by
  cases m with
  |zero=>rfl
  |succ m=>rw[T.aml,T.Zv];simp[T.VM]
 |f+1,n+1,m,h=>by
  rw[T.amk];by_cases hn:n%2=0
  .rw[AP hn]
   cases m with
   |zero=>rw[T.gP];simp
   |succ m=>
    rw[T.Zv];by_cases hm:m%2=0
    .rw[AP hm,T.sU x f (n/2) (m/2) om];by_cases e:m=n;.subst e;simp
     .rw[AM om,AM om]
    .rw[AM hm,T.VM,AM om]
  .rw[AM hn]
   cases m with
   |zero=>rw[T.gP];simp
   |succ m=>
    rw[T.Zv];by_cases hm:m%2=0;.rw[AP hm,T.VM,AM om]
    .rw[AM hm,T.sU x f (n/2) (m/2) om];by_cases e:m=n;.subst e;simp
     .rw[AM om,AM om]
theorem T.MH(t:T α)(x:Option α):∀(n m:Nat),T.get (T.set t n x) m=if m=n then x else T.get t m:=by
 induction t with
 |leaf=>intro n m;rw[T.ame,T.sU x (n+1) n m om];rfl
 |node l v r ihl ihr=>
  intro n m
  cases n with
  |zero=>
   rw[T.amg]
   cases m with
   |zero=>rfl
   |succ m=>rw[T.Zv,T.Zv,AM (by omega:¬m+1=0)]
  |succ n=>
   rw[T.amf];by_cases hn:n%2=0
   .rw[AP hn]
    cases m with
    |zero=>rw[T.gP,T.gP,AM om]
    |succ m=>
     rw[T.Zv,T.Zv];by_cases hm:m%2=0
     .rw[AP hm,AP hm,ihl];by_cases e:m=n;.subst e;simp
      .rw[AM om,AM om]
     .rw[AM hm,AM hm,AM om]
   .rw[AM hn]
    cases m with
    |zero=>rw[T.gP,T.gP,AM om]
    |succ m=>
     rw[T.Zv,T.Zv];by_cases hm:m%2=0;.rw[AP hm,AP hm,AM om]
     .rw[AM hm,AM hm,ihr];by_cases e:m=n;.subst e;simp
      .rw[AM om,AM om]
end
theorem As(h:Nat.beq a b=true):a=b:=jL h
theorem Em(h:Nat.beq a b=false):a≠b:=Nat.ne_of_beq_eq_false h
theorem Al(h:Nat.ble a b=true):a<=b:=Nat.le_of_ble_eq_true h
theorem Gu(h:Nat.ble a b=false):b<a:=by
 rcases PP b a with AA|AA;.exact AA
 .rw[Nat.ble_eq_true_of_le AA]at h;exact absurd h W0
theorem Bp(h:MW j k=true):j=k:=by cases j<;>cases k<;>first|rfl|exact absurd h PI
theorem F4(a b:Int):TO a b=decide (a=b):=by
 cases a<;>cases b
 .rename_i m n;show Nat.beq m n=_;by_cases h:m=n;.subst h;simp
  .have:¬(Int.ofNat m=Int.ofNat n):=λe=>h (jV e);rw[CW this]
   cases hb:Nat.beq m n with
   |false=>rfl
   |true=>exact absurd (As hb) h
 .rename_i m n;show false=_;symm;apply CW;intro e;cases e
 .rename_i m n;show false=_;symm;apply CW;intro e;cases e
 .rename_i m n;show Nat.beq m n=_;by_cases h:m=n;.subst h;simp
  .have:¬(Int.negSucc m=Int.negSucc n):=λe=>h (Int.negSucc.inj e);rw[CW this]
   cases hb:Nat.beq m n with
   |false=>rfl
   |true=>exact absurd (As hb) h
theorem ble_eq(a b:Nat):Nat.ble a b=decide (a<=b):=by
 cases h:Nat.ble a b with
 |true=>simp[Al h]
 |false=>have:=Gu h;symm;apply CW;omega
theorem H4(a b:Int):ZL a b=decide (a<b):=by
 cases a<;>cases b;.rename_i m n;show Nat.ble (m+1) n=_;rw[ble_eq];exact decide_eq_decide.2 ⟨λh=>by show((m:Int))<(n:Int);omega,λh=>by have:((m:Int))<(n:Int):=h;omega⟩
 .rename_i m n;show false=_;symm;apply CW;intro h;have:=Int.negSucc_lt_zero n;have:(0:Int)<=Int.ofNat m:=nJ m;omega
 .rename_i m n;show true=_;symm;apply CM;have:=Int.negSucc_lt_zero m;have:(0:Int)<=Int.ofNat n:=nJ n;omega
 .rename_i m n;show Nat.ble (n+1) m=_;rw[ble_eq];exact decide_eq_decide.2 ⟨λh=>by rw[Int.negSucc_eq,Int.negSucc_eq];omega,λh=>by rw[Int.negSucc_eq,Int.negSucc_eq]at h;omega⟩
theorem acg(k:IntKind):bits k=k.bits:=by cases k<;>rfl
theorem vq(k:IntKind):pw k=2^k.bits:=by cases k<;>rfl
theorem aeu(k:IntKind)(n:Int):(MM k n:Int)=n%(2^k.bits:Int):=by
 have hp:((pw k:Nat):Int)=(2^k.bits:Int):=by rw[vq];simp
 rw[<-hp];have HM:0<pw k:=by cases k<;>decide
 cases n with
 |ofNat m=>show((m%pw k:Nat):Int)=_;simp
 |negSucc m=>show((pw k- 1- m%pw k:Nat):Int)=_;have BX:=UX m HM;rw[Int.negSucc_emod m (by omega:(0:Int)<(pw k:Int))];omega
theorem Aix(k:IntKind)(n:Int):MM k n<pw k:=by
 have HM:0<pw k:=by cases k<;>decide
 cases n with
 |ofNat m=>exact UX m HM
 |negSucc m=>show pw k- 1- m%pw k<pw k;omega
theorem G5(k:IntKind)(n:Int):wr k n=k.wrap n:=by
 have h:=aeu k n;have hl:=Aix k n;unfold wr IntKind.wrap wrN;rw[<-h];generalize MM k n=r at hl
 cases k<;>simp only[hf,pw,IntKind.signed,IntKind.bits]at hl ⊢ <;>simp only[ble_eq]<;>(split<;>rename_i hb<;>simp only[LP,decide_eq_false_iff_not]at hb<;>simp <;>omega)
theorem K1(a b:Nat):Lu a b=min a b:=by
 unfold Lu;split<;>rename_i h;.have:=Al h;omega
 .have:=Gu h;omega
theorem K2:∀(a b:List Nat),Oa a b=decide (a=b)
 | [],[]=>rfl
 | [],_::_=>by simp[Oa]
 |_::_,[]=>by simp[Oa]
 |a::r,b::s=>by
  show(match Nat.beq a b with|true=>Oa r s|false=>false)=_
  cases h:Nat.beq a b with
  |true=>rw[K2 r s];have:=As h;subst this;simp
  |false=>have:=Em h;simp[this]
theorem Z7(a b:Bool):dB a b=decide (a=b):=by cases a<;>cases b<;>rfl
theorem Ii(n:Nat):∀l:List Nat,Ob n l=true↔n∈l
 | []=>by simp[Ob]
 |a::r=>by
  show(match Nat.beq a n with|true=>true|false=>Ob n r)=true↔_
  cases h:Nat.beq a n with
  |true=>have:=As h;subst this;simp
  |false=>have:=Em h;simp[Ii n r,Ne.symm this]
structure Loc where
 cb:Nat
 base:Nat
 RF:Nat
abbrev BF:=Nat->Option Loc
mutual
inductive VR (AC:BF):AV->Value->Prop where
 |bool (b:Bool):VR AC (.bool b) (.bool b)
 |int (k:IntKind) (n:Int):VR AC (.int k n) (.int k n)
 |str {s:List Nat} {b:ByteArray} (h:b.data.toList.map (·.toNat)=s):VR AC (.str s) (.string b)
 |M7:VR AC .M7 (.pointer none)
 |ptr {b o:Nat} {l:Loc} (h:AC b=some l):VR AC (.ptr b o) (.pointer (some ⟨l.cb,l.base+o,none⟩))
 |AS:VR AC .AS (.slice none 0 0)
 |WE {b o n c:Nat} {l:Loc} {off:Nat} (h:AC b=some l) (hc:c<Aa) (hl:n<=c) (ho:0<c->off=l.base+o):
   VR AC (.AE b o n c) (.slice (some ⟨l.cb,off,none⟩) n c)
 |XQ {b o n c k:Nat} {l:Loc} {off:Nat} (h:AC b=some l) (hl:n<=c) (hr:off+c*k<=l.RF) (ho:0<n->off=l.base+o):
   VR AC (.AE b o n (Aa+k)) (.slice (some ⟨l.cb,off,none⟩) n c)
 |OS:VR AC .OS (.map none)
 |map {r:Nat} {l:Loc} (h:AC r=some l):VR AC (.map r) (.map (some l.cb))
 |dO {f:Nat} {a c:List AV} {BC BP:Array Value} (ha:CQ AC a BC.toList) (hc:CQ AC c BP.toList):VR AC (.fn (.func f) a c) (.func (.func f) BC BP)
 |gN {r:Nat} {l:Loc} (h:AC r=some l):VR AC (.fn (.yield r) [] []) (.func (.yield l.cb) #[] #[])
 |PK:VR AC .PK .nilFunc
 |Cm {t:Nat} {v:AV} {AQ:Value} (h:VR AC v AQ):VR AC (.Cm t v) (.iface t AQ)
 |IX:VR AC .IX .nilIface
 |agg {l:List AV} {c:Array Value} (h:CQ AC l c.toList):VR AC (.agg l) (.agg c)
 |BM {l:List AV} {c:Array Value} (h:CQ AC l c.toList):VR AC (.BM l) (.tuple c)
 |HZ (v:Value):VR AC (.HZ v) v
 |FK (v:Value):VR AC .FK v
inductive CQ (AC:BF):List AV->List Value->Prop where
 |nil:CQ AC [] []
 |cons {v:AV} {AQ:Value} {l:List AV} {AT:List Value} (h:VR AC v AQ) (hs:CQ AC l AT):CQ AC (v::l) (AQ::AT)
end
def BF.le(AC BU:BF):Prop:=∀b l,AC b=some l->BU b=some l
theorem BF.le.refl(AC:BF):BF.le AC AC:=λ_ _ h=>h
theorem BF.le.trans{a b c:BF}(h:BF.le a b)(k:BF.le b c):BF.le a c:=λx l hx=>k x l (h x l hx)
mutual
theorem VR.mono{AC BU:BF}(hp:BF.le AC BU){v:AV}{AQ:Value}(h:VR AC v AQ):VR BU v AQ:=match h with
 | .bool b=> .bool b
 | .int k n=> .int k n
 | .str h=> .str h
 | .M7=> .M7
 | .ptr h=> .ptr (hp _ _ h)
 | .AS=> .AS
 | .WE h a b c=> .WE (hp _ _ h) a b c
 | .XQ h a b c=> .XQ (hp _ _ h) a b c
 | .OS=> .OS
 | .map h=> .map (hp _ _ h)
 | .dO a c=> .dO (CQ.mono hp a) (CQ.mono hp c)
 | .gN h=> .gN (hp _ _ h)
 | .PK=> .PK
 | .Cm h=> .Cm (VR.mono hp h)
 | .IX=> .IX
 | .agg h=> .agg (CQ.mono hp h)
 | .BM h=> .BM (CQ.mono hp h)
 | .HZ v=> .HZ v
 | .FK v=> .FK v
theorem CQ.mono{AC BU:BF}(hp:BF.le AC BU){l:List AV}{AT:List Value}(h:CQ AC l AT):CQ BU l AT:=match h with
 | .nil=> .nil
 | .cons a b=> .cons (VR.mono hp a) (CQ.mono hp b)
end
section lists
variable {AC:BF}
theorem CQ.length{l:List AV}{AT:List Value}(h:CQ AC l AT):l.length=AT.length:=by
 induction l generalizing AT with
 |nil=>cases h;rfl
 |cons a l ih=>cases h with|cons _ hs=>simp[ih hs]
theorem CQ.append{a b:List AV}{BC AR:List Value}(h:CQ AC a BC)(k:CQ AC b AR):CQ AC (a++b) (BC++AR):=by
 induction a generalizing BC with
 |nil=>cases h;exact k
 |cons x a ih=>cases h with|cons hv hs=>exact .cons hv (ih hs)
theorem CQ.get{l:List AV}{AT:List Value}(h:CQ AC l AT){i:Nat}{v:AV}(hi:l[i]?=some v):∃AQ,AT[i]?=some AQ/\VR AC v AQ:=by
 induction l generalizing AT i with
 |nil=>simp at hi
 |cons x l ih=>
  cases h with
  |cons hv hs=>
   cases i with
   |zero=>simp at hi;subst hi;exact⟨_,rfl,hv⟩
   |succ i=>simp at hi ⊢;exact ih hs hi
theorem CQ.drop{l:List AV}{AT:List Value}(h:CQ AC l AT)(n:Nat):CQ AC (l.drop n) (AT.drop n):=by
 induction n generalizing l AT with
 |zero=>simpa using h
 |succ n ih=>
  cases h with
  |nil=>simpa using CQ.nil
  |cons _ hs=>simpa using ih hs
theorem CQ.take{l:List AV}{AT:List Value}(h:CQ AC l AT)(n:Nat):CQ AC (l.take n) (AT.take n):=by
 induction n generalizing l AT with
 |zero=>simpa using CQ.nil
 |succ n ih=>
  cases h with
  |nil=>simpa using CQ.nil
  |cons hv hs=>simpa using CQ.cons hv (ih hs)
theorem CQ.vI{l:List AV}:∀{AT:List Value},l.length=AT.length->(∀(i:Nat) (v:AV),l[i]?=some v->∃AQ,AT[i]?=some AQ/\VR AC v AQ)->CQ AC l AT:=by
 induction l with
 |nil=>intro AT hl _;cases AT with|nil=>exact .nil|cons _ _=>simp at hl
 |cons a l ih=>
  intro AT hl h
  cases AT with
  |nil=>simp at hl
  |cons BC AT=>
   refine .cons ?_ (ih (by simpa using hl) λi v hi=>?_);.obtain⟨AQ,h1,h2⟩:=h 0 a rfl;simp at h1;subst h1;exact h2
   .obtain⟨AQ,h1,h2⟩:=h (i+1) v (by simpa using hi);exact⟨AQ,by simpa using h1,h2⟩
end lists
structure QG (w AY:World):Prop where
 os:AY.os=w.os
 tape:AY.tape=w.tape
 output:AY.output=w.output
theorem QG.refl(w:World):QG w w:=⟨rfl,rfl,rfl⟩
theorem QG.trans{a b c:World}(h:QG a b)(k:QG b c):QG a c:=⟨k.os.trans h.os,k.tape.trans h.tape,k.output.trans h.output⟩
structure TR (AC:BF)(nt:Nat)(tm:T AV)(tmps:Array Value):Prop where
 size:tmps.size=nt
 val:∀t v,T.get tm t=some v->VR AC v (tmps.getD t undef)
theorem TR.mono{AC BU:BF}(hp:BF.le AC BU){nt:Nat}{tm:T AV}{tmps:Array Value}(h:TR AC nt tm tmps):TR BU nt tm tmps:=⟨h.size,λt v ht=>(h.val t v ht).mono hp⟩
theorem J4(a:Array Value)(d:Nat)(v u:Value)(t:Nat)(hd:d<a.size):(a.setIfInBounds d v).getD t u=if t=d then v else a.getD t u:=by
 simp only[Xr,SR];by_cases h:t=d;.subst h;simp[hd]
 .rw[AM om,AM h]
theorem TR.put{AC:BF}{nt:Nat}{tm:T AV}{tmps:Array Value}(h:TR AC nt tm tmps){d:Option Nat}(hd:Pr nt d=true){v:AV}{AQ:Value}(hv:VR AC v AQ):TR AC nt (Ev.put tm d v) (match d with|some d=>tmps.setIfInBounds d AQ|none=>tmps):=by
 cases d with
 |none=>exact h
 |some d=>
  have BX:d<tmps.size:=by rw[h.size];exact Al hd
  refine⟨by simpa using h.size,λt u ht=>?_⟩;simp only[Ev.put,T.MH]at ht;show VR AC u ((tmps.setIfInBounds d AQ).getD t undef);rw[J4 _ _ _ _ _ BX];by_cases e:t=d;.rw[AP e]at ht ⊢;cases ht;exact hv
  .rw[AM e]at ht ⊢;exact h.val t u ht
theorem Q8(AC:BF):∀(d:Nat) (v:Value),VR AC (Vr d v) v
 |0,v=> .FK v
 |d+1,v=>by
  have hs:∀l:List Value,CQ AC (l.map (Vr d)) l:=by
   intro l;induction l with
   |nil=>exact .nil
   |cons a l ih=>exact .cons (Q8 AC d a) ih
  cases v with
  |bool b=>exact .bool b
  |int k n=>exact .int k n
  |float k b=>exact .FK _
  |complex k a b=>exact .FK _
  |string s=>exact .str rfl
  |pointer a=>cases a with
   |none=>exact .M7
   |some a=>exact .FK _
  |slice a l c=>cases a with
   |none=>cases l with
    |zero=>cases c with
     |zero=>exact .AS
     |succ c=>exact .FK _
    |succ l=>exact .FK _
   |some a=>exact .FK _
  |map r=>cases r with
   |none=>exact .OS
   |some r=>exact .FK _
  |chan r=>exact .FK _
  |func f a c=>exact .FK _
  |nilFunc=>exact .PK
  |iface t v=>exact .Cm (Q8 AC d v)
  |nilIface=>exact .IX
  |agg cs=>exact .agg (hs _)
  |tuple cs=>exact .BM (hs _)
def R0(AC:BF)(tm:T AV)(BQ:Operand->Value):Prop:=∀x,VR AC (ev tm (BK x)) (BQ x)
theorem TR.RO{AC:BF}{nt:Nat}{tm:T AV}{a:Act}(h:TR AC nt tm a.tmps):R0 AC tm a.eval:=by
 intro x
 cases x with
 |tmp t=>
  show VR AC (match T.get tm t with|some v=>v|none=> .FK) (a.tmps.getD t undef)
  cases ht:T.get tm t with
  |none=>exact .FK _
  |some v=>exact h.val t v ht
 |const v=>exact Q8 AC 10 v
 |global g=>exact .FK _
 |func f=>exact .dO .nil .nil
theorem R0.mono{AC BU:BF}(hp:BF.le AC BU){tm:T AV}{BQ:Operand->Value}(h:R0 AC tm BQ):R0 BU tm BQ:=λx=>(h x).mono hp
theorem R0.list{AC:BF}{tm:T AV}{BQ:Operand->Value}(h:R0 AC tm BQ)(l:List Operand):CQ AC (Z3 tm (l.map BK)) (l.map BQ):=by
 induction l with
 |nil=>exact .nil
 |cons a l ih=>exact .cons (h a) ih
structure ER (AC:BF)(e:FD)(BG:MapEntry):Prop where
 key:VR AC e.key BG.key
 val:VR AC e.val BG.val
 born:e.born=BG.born
inductive GZ (AC:BF):List FD->List MapEntry->Prop where
 |nil:GZ AC [] []
 |cons {e:FD} {BG:MapEntry} {l:List FD} {AT:List MapEntry} (h:ER AC e BG) (hs:GZ AC l AT):GZ AC (e::l) (BG::AT)
theorem GZ.mono{AC BU:BF}(hp:BF.le AC BU){l:List FD}{AT:List MapEntry}(h:GZ AC l AT):GZ BU l AT:=by
 induction h with
 |nil=>exact .nil
 |cons h _ ih=>exact .cons ⟨h.key.mono hp,h.val.mono hp,h.born⟩ ih
inductive DR (AC:BF):HN->Deferred->Prop where
 |call {f:Nat} {args:List AV} {c as:Array Value} (h:CQ AC args (as.toList++c.toList)):DR AC (.call f args) {target:= .fn (.func f) c,args:=as}
 |mark {b:Nat} {l:Loc} (h:AC b=some l):DR AC (.mark b) {target:= .collected l.cb,args:= #[]}
inductive KA (AC:BF):List HN->List Deferred->Prop where
 |nil:KA AC [] []
 |cons {d:HN} {MG:Deferred} {l:List HN} {AT:List Deferred} (h:DR AC d MG) (hs:KA AC l AT):KA AC (d::l) (MG::AT)
theorem DR.mono{AC BU:BF}(hp:BF.le AC BU){d:HN}{MG:Deferred}(h:DR AC d MG):DR BU d MG:=by
 cases h with
 |call h=>exact .call (h.mono hp)
 |mark h=>exact .mark (hp _ _ h)
theorem KA.mono{AC BU:BF}(hp:BF.le AC BU){l:List HN}{AT:List Deferred}(h:KA AC l AT):KA BU l AT:=by
 induction h with
 |nil=>exact .nil
 |cons h _ ih=>exact .cons (h.mono hp) ih
theorem KA.append{AC:BF}{a b:List HN}{BC AR:List Deferred}(h:KA AC a BC)(k:KA AC b AR):KA AC (a++b) (BC++AR):=by
 induction h with
 |nil=>exact k
 |cons h _ ih=>exact .cons h ih
def lsR:LS->LoopState
 | .ready=> .ready
 | .busy=> .busy
 | .done=> .done
 | .exhausted=> .exhausted
structure LR (E:Env)(AC:BF)(l:cV)(AT:Loop):Prop where
 state:AT.state=lsR l.state
 pending:l.pending=AT.pending.map (Bo E l.nt)
 fn:AT.fn=l.fn
 tmps:TR AC l.nt l.tmps AT.tmps
 params:l.params=AT.params.toList
 WA:∀p∈l.params,p<l.nt
 assign:l.assign=Bo E l.nt AT.assign
 body:l.body=Bo E l.nt AT.body
 defers:∃d,AC l.defers=some d/\d.cb=AT.defers
def XP:DV->Bool
 | .cells ro _ _=>ro
 |_=>false
inductive WV (AC:BF):Option Nat->Option Nat->Prop where
 |none:WV AC none none
 |some {r:Nat} {l:Loc} (h:AC r=some l):WV AC (some r) (some l.cb)
inductive BR (E:Env)(AC:BF)(l:Loc):DV->Obj->Prop where
 |cells {ro:Bool} {n:Nat} {c:T AV} {cs:Array Value} {e:TypeId} {fr:Nat×Nat} (hf:ro=false->fr=(0,0)) (hs:cs.size=l.RF) (hn:l.base+n<=cs.size)
   (h:∀i v,i<n->T.get c i=some v->∃AQ,cs[l.base+i]?=some AQ/\VR AC v AQ):BR E AC l (.cells ro n c) (.cells cs e fr)
 |map {es:List FD} {BL:Array MapEntry} {k:Nat} (h:GZ AC es BL.toList):BR E AC l (.map es k) (.map BL k)
 |MX {m GF:Option Nat} {since st:Nat} {seen:List Nat} (hb:l.base=0) (h:WV AC m GF):BR E AC l (.MX m since seen st) (.mapIter GF since seen.toArray st)
 |loop {x:cV} {Cb:Loop} (h:LR E AC x Cb):BR E AC l (.loop x) (.loop Cb)
 |sM:BR E AC l (.EQ none) (.deferred none)
 |oH {ds:List HN} {kL:List Deferred} (h:KA AC ds kL):BR E AC l (.EQ (some ds)) (.deferred (some kL))
theorem WV.mono{AC BU:BF}(hp:BF.le AC BU){a b:Option Nat}(h:WV AC a b):WV BU a b:=by
 cases h with
 |none=>exact .none
 |some h=>exact .some (hp _ _ h)
theorem LR.mono{E:Env}{AC BU:BF}(hp:BF.le AC BU){x:cV}{Cb:Loop}(h:LR E AC x Cb):LR E BU x Cb:=⟨h.state,h.pending,h.fn,h.tmps.mono hp,h.params,h.WA,h.assign,h.body,let⟨d,a,b⟩:=h.defers;⟨d,hp _ _ a,b⟩⟩
theorem BR.mono{E:Env}{AC BU:BF}(hp:BF.le AC BU){l:Loc}{x:DV}{o:Obj}(h:BR E AC l x o):BR E BU l x o:=by
 cases h with
 |cells hf hs hn h=>exact .cells hf hs hn λi v hi hv=>let⟨AQ,a,b⟩:=h i v hi hv;⟨AQ,a,b.mono hp⟩
 |map h=>exact .map (h.mono hp)
 |MX hb h=>exact .MX hb (h.mono hp)
 |loop h=>exact .loop (h.mono hp)
 |sM=>exact .sM
 |oH h=>exact .oH (h.mono hp)
structure HR (E:Env)(w0:Array Obj)(AC:BF)(h:H)(m:Array Obj):Prop where
 bound:∀b l,AC b=some l->b<h.n
 SG:∀b l,AC b=some l->l.cb<m.size
 FH:∀b l x,AC b=some l->H.get h b=some x->∃o,m[l.cb]?=some o/\BR E AC l x o
 inj:∀b AR l AT x Cb,AC b=some l->AC AR=some AT->H.get h b=some x->H.get h AR=some Cb->XP x=false->l.cb=AT.cb->b=AR
 own:∀b l x,AC b=some l->H.get h b=some x->XP x=false->w0.size<=l.cb
 old:∀cb,cb<w0.size->m[cb]?=w0[cb]?
 size:w0.size<=m.size
theorem xY{p:Prop}(h:p:=by
 by_cases h1:i+1<=j/\j<i+1+l.length
 .rw[AP h1,AP Y1]
  obtain⟨k,rfl⟩:∃k,j=i+1+k:=⟨j- (i+1),om⟩
  rw[show i+1+k- (i+1)=k from om,show i+1+k- i=k+1 from om];simp
 .rw[AM h1]
  by_cases h2:j=i
  .subst h2;rw[AP rfl,AP W0];simp
  .rw[AM h2,AM Y1]):p:=h
def BF.AX(AC:BF)(b:Nat)(l:Loc):BF:=λx=>if x=b then some l else AC x
theorem BF.NM(AC:BF)(b:Nat)(l:Loc):AC.AX b l b=some l:=AP rfl
theorem BF.CB(AC:BF){b x:Nat}(l:Loc)(h:x≠b):AC.AX b l x=AC x:=AM h
theorem BF.YY{AC:BF}{b:Nat}(l:Loc)(h:AC b=none):BF.le AC (AC.AX b l):=by
 intro x k hx;by_cases e:x=b;.subst e;rw[h]at hx;cases hx
 .rw[BF.CB _ _ e];exact hx
structure BF.mP (n:Nat)(AC BU:BF):Prop where
 le:BF.le AC BU
 ne:∀b,b≠n->BU b=AC b
theorem BF.mP.refl(n:Nat)(AC:BF):BF.mP n AC AC:=⟨.refl _,λ_ _=>rfl⟩
theorem H.MH(h:H)(b AR:Nat)(x:DV):H.get (H.set h b x) AR=if AR=b then some x else H.get h AR:=T.MH _ _ _ _
theorem H.abp(h:H)(b AR:Nat):H.get (H.del h b) AR=if AR=b then none else H.get h AR:=T.MH _ _ _ _
theorem H.bP(h:H)(AR:Nat)(x:DV):H.get (H.new h x) AR=if AR=h.n then some x else H.get h AR:=T.MH _ _ _ _
theorem H.ad2(h:H)(b:Nat):(H.del h b).n=h.n:=rfl
section
variable {E:Env}{w0:Array Obj}{AC:BF}{h:H}{m:Array Obj}
theorem HR.fresh(hr:HR E w0 AC h m):AC h.n=none:=by
 cases e:AC h.n with
 |none=>rfl
 |some l=>exact absurd (hr.bound _ _ e) (jW _)
theorem HR.alloc(hr:HR E w0 AC h m){AA:H}{b:Nat}{x:DV}{o:Obj}{l:Loc}(hl:l.cb=m.size)(BY:AC b=none)(hn:h.n<=AA.n)(hb:b<AA.n)(hx:H.get AA b=some x)(hs:∀c k,AC c=some k->H.get AA c=H.get h c)(hR:BR E (AC.AX b l) l x o)(KO:XP x=false):HR E w0 (AC.AX b l) AA (m.push o):=by
 have hle:=BF.YY l BY;refine⟨?_,?_,?_,?_,?_,?_,?_⟩
 .intro c k hc;by_cases e:c=b;.subst e;exact hb
  .rw[BF.CB _ _ e]at hc;exact IF (hr.bound _ _ hc) hn
 .intro c k hc;by_cases e:c=b;.subst e;rw[BF.NM]at hc;cases hc;simp[hl]
  .rw[BF.CB _ _ e]at hc;have:=hr.SG _ _ hc;simp;omega
 .intro c k y hc hy;by_cases e:c=b;.subst e;rw[BF.NM]at hc;cases hc;rw[hx]at hy;cases hy;exact⟨o,by rw[hl];simp,hR⟩
  .rw[BF.CB _ _ e]at hc;rw[hs _ _ hc]at hy;obtain⟨p,h1,h2⟩:=hr.FH _ _ _ hc hy;have:=hr.SG _ _ hc;exact⟨p,by rw[Array.getElem?_push_lt this,<-h1,SU this],h2.mono hle⟩
 .intro c BP k AZ y GM hc QL hy NK MV he;by_cases e:c=b
  .by_cases BG:BP=b;.rw[e,BG]
   .subst e;rw[BF.NM]at hc;cases hc;rw[BF.CB _ _ BG]at QL;have:=hr.SG _ _ QL;omega
  .by_cases BG:BP=b;.subst BG;rw[BF.NM]at QL;cases QL;rw[BF.CB _ _ e]at hc;have:=hr.SG _ _ hc;omega
   .rw[BF.CB _ _ e]at hc;rw[BF.CB _ _ BG]at QL;rw[hs _ _ hc]at hy;rw[hs _ _ QL]at NK;exact hr.inj _ _ _ _ _ _ hc QL hy NK MV he
 .intro c k y hc hy MV;by_cases e:c=b;.subst e;rw[BF.NM]at hc;cases hc;have:=hr.size;omega
  .rw[BF.CB _ _ e]at hc;rw[hs _ _ hc]at hy;exact hr.own _ _ _ hc hy MV
 .intro c hc;rw[<-hr.old c hc];have:c<m.size:=IF hc hr.size;rw[Array.getElem?_push_lt this,SU this]
 .have:=hr.size;simp;omega
theorem HR.new(hr:HR E w0 AC h m){x:DV}{o:Obj}{l:Loc}(hl:l.cb=m.size)(hR:BR E (AC.AX h.n l) l x o)(KO:XP x=false):HR E w0 (AC.AX h.n l) (H.new h x) (m.push o):=hr.alloc hl hr.fresh (QD _) (NQ _) (by rw[H.bP,AP rfl]) (λc k hc=>by rw[H.bP,AM (Nat.ne_of_lt (hr.bound _ _ hc))]) hR KO
theorem HR.cJ(hr:HR E w0 AC h m){b:Nat}{x Cb:DV}{EG:Obj}{l:Loc}(BY:AC b=some l)(hx:H.get h b=some x)(KO:XP x=false)(hR:BR E AC l Cb EG)(ajo:XP Cb=false):HR E w0 AC (H.set h b Cb) (m.setIfInBounds l.cb EG):=by
 refine⟨hr.bound,?_,?_,?_,?_,?_,?_⟩;.intro c k hc;simpa using hr.SG _ _ hc
 .intro c k y hc hy;rw[H.MH]at hy;by_cases e:c=b;.subst e;rw[BY]at hc;cases hc;rw[AP rfl]at hy;cases hy;exact⟨EG,by simp[SR,hr.SG _ _ BY],hR⟩
  .rw[AM e]at hy;obtain⟨p,h1,h2⟩:=hr.FH _ _ _ hc hy;have BZ:l.cb≠k.cb:=λBG=>e (hr.inj _ _ _ _ _ _ BY hc hx hy KO BG).symm;exact⟨p,by rw[SR,AM BZ];exact h1,h2⟩
 .intro c BP k AZ y GM hc QL hy NK MV he;have ex:∀{d:Nat} {z:DV},H.get (H.set h b Cb) d=some z->∃Yq,H.get h d=some Yq/\XP Yq=XP z:=by
   intro d z hz;rw[H.MH]at hz;by_cases e:d=b;.subst e;rw[AP rfl]at hz;cases hz;exact⟨x,hx,by rw[KO,ajo]⟩
   .rw[AM e]at hz;exact⟨z,hz,rfl⟩
  obtain⟨z,h1,h2⟩:=ex hy;obtain⟨Yq,h3,_⟩:=ex NK;exact hr.inj _ _ _ _ _ _ hc QL h1 h3 (by rw[h2,MV]) he
 .intro c k y hc hy MV;rw[H.MH]at hy;by_cases e:c=b;.subst e;exact hr.own _ _ _ hc hx KO
  .rw[AM e]at hy;exact hr.own _ _ _ hc hy MV
 .intro c hc;rw[<-hr.old c hc,SR,AM];have:=hr.own _ _ _ BY hx KO;omega
 .simpa using hr.size
theorem HR.del(hr:HR E w0 AC h m)(b:Nat):HR E w0 AC (H.del h b) m:=by
 have ex:∀{d:Nat} {z:DV},H.get (H.del h b) d=some z->H.get h d=some z:=by
  intro d z hz;rw[H.abp]at hz;by_cases e:d=b;.rw[AP e]at hz;cases hz
  .rwa[AM e]at hz
 exact⟨hr.bound,hr.SG,λc k y hc hy=>hr.FH _ _ _ hc (ex hy),λc BP k AZ y GM hc QL hy NK=>hr.inj _ _ _ _ _ _ hc QL (ex hy) (ex NK),λc k y hc hy=>hr.own _ _ _ hc (ex hy),hr.old,hr.size⟩
theorem K3:∀(l:List AV) (i:Nat) (t:T AV) (j:Nat),T.get (JI i t l) j=if i<=j/\j<i+l.length then l[j- i]? else T.get t j
 | [],i,t,j=>by simp[JI];omega
 |a::l,i,t,j=>by rw[JI,K3 l (i+1),T.MH];exact xY
theorem L3:∀(l:List AV) (i:Nat) (t:T AV) (j:Nat),T.get (L1 i t l) j=if i<=j/\j<i+l.length then l[j- i]? else T.get t j
 | [],i,t,j=>by simp[L1];omega
 |a::l,i,t,j=>by rw[L1,L3 l (i+1),T.MH];exact xY
theorem Og{c:T AV}:∀{n o:Nat} {l:List AV},QN c n o=some l->l.length=n/\∀j,j<n->T.get c (o+j)=l[j]?
 |0,o,l,h=>by simp only[QN,DB]at h;subst h;exact⟨rfl,λj hj=>absurd hj om⟩
 |n+1,o,l,h=>by
  simp only[QN]at h
  cases h1:T.get c o with
  |none=>rw[h1]at h;simp at h
  |some v=>
   rw[h1]at h;simp only at h
   cases h2:QN c n (o+1)with
   |none=>rw[show Nat.succ o=o+1 from rfl,h2]at h;simp at h
   |some r=>
    rw[show Nat.succ o=o+1 from rfl,h2]at h;cases h;obtain⟨hl,hg⟩:=Og h2;refine⟨by simp[hl],λj hj=>?_⟩
    cases j with
    |zero=>simpa using h1
    |succ j=>have:=hg j om;rw[show o+(j+1)=o+1+j from om];simpa using this
theorem BR.abd{l:Loc}{xs:List AV}{cs:Array Value}{e:TypeId}(hl:l.base=0)(hc:l.RF=cs.size)(h:CQ AC xs cs.toList):BR E AC l (.cells false xs.length (JI 0 .leaf xs)) (.cells cs e (0,0)):=by have hlen:=h.length;simp only[WP]at hlen;refine .cells (λ_=>rfl) hc.symm om λi v hi hv=>?_;rw[K3,AP om,WK]at hv;obtain⟨AQ,h1,h2⟩:=h.get hv;exact⟨AQ,by rw[hl,MD];simpa using h1,h2⟩
theorem HR.NZ(hr:HR E w0 AC h m){xs:List AV}{cs:Array Value}(e:TypeId)(hx:CQ AC xs cs.toList):BF.le AC (AC.AX h.n ⟨m.size,0,cs.size⟩)/\HR E w0 (AC.AX h.n ⟨m.size,0,cs.size⟩) (Ev.NZ h xs) (m.push (.cells cs e (0,0))):=by have hle:=BF.YY ⟨m.size,0,cs.size⟩ hr.fresh;exact⟨hle,hr.new rfl (BR.abd rfl rfl (hx.mono hle)) rfl⟩
end
structure DG (P:Program)(E:Env):Prop where
 inf:∀t i,inf E t=some i->P.info? t=some i
 aem:∀t,t∈E.S->P.stoodInHeld t=false/\P.eqGuardType P.depth t=false
 mixed:P.follows .mixedOrders=true
section env
variable {P:Program}{E:Env}(hE:DG P E)
include hE
theorem I1{t:TypeId}{d:TypeDesc}(h:DU E t=some d):P.underlying t=some d:=by
 unfold DU at h
 cases h1:Ev.inf E t with
 |none=>rw[h1]at h;simp at h
 |some i=>
  rw[h1]at h;have hi:=hE.inf _ _ h1;simp only at h;unfold Program.underlying;rw[hi];split at h
  .rename_i n u hd
   cases h2:Ev.inf E u with
   |none=>rw[h2]at h;simp at h
   |some j=>rw[h2]at h;have hj:=hE.inf _ _ h2;obtain⟨desc,_⟩:=i;simp only at hd;subst hd;simp only[hj,KR];exact h
  .rename_i hd;obtain⟨desc,_⟩:=i;simp only at hd h ⊢;split;.rename_i heq;simp only[DB,TypeInfo.mk.injEq]at heq;exact absurd heq.1 (hd _ _)
   .rename_i heq;cases heq;exact h
   .rename_i heq;simp at heq
theorem Ah{t:TypeId}{d:TypeDesc}(h:DU E t=some d)(w:World):(underlying t).run P w= .ok d w:=by simp only[underlying,EH,run_program,EO,I1 hE h,IH]
theorem Ea{t:TypeId}{i:TypeInfo}(h:Ev.inf E t=some i)(w:World):(typeInfo t).run P w= .ok i w:=by simp only[typeInfo,EH,run_program,EO,hE.inf _ _ h,IH]
theorem Cx{t:TypeId}{i:TypeInfo}(h:Ev.inf E t=some i)(w:World):(sizeOf t).run P w= .ok i.size w:=by simp only[sizeOf,EH,Ea hE h,EO,IH]
theorem aev{t:TypeId}{n:Nat}(h:sz E t=some n)(w:World):(sizeOf t).run P w= .ok n w:=by
 unfold sz at h
 cases h1:Ev.inf E t with
 |none=>rw[h1]at h;simp at h
 |some i=>rw[h1]at h;simp at h;subst h;exact Cx hE h1 w
theorem Cr{t:TypeId}{n:Nat}(h:Cw E t=some n)(w:World):(sizeOf t).run P w= .ok n w/\n≠0:=by
 unfold Cw at h
 cases h1:Ev.inf E t with
 |none=>rw[h1]at h;simp at h
 |some i=>
  rw[h1]at h;simp only at h;split at h;.simp at h
  .rename_i hb;simp at h;subst h;exact⟨Cx hE h1 w,Em hb⟩
theorem Hp{t:TypeId}{b:Bool}(h:Oc E t=some b)(w:World):(isAgg t).run P w= .ok b w:=by
 unfold Oc at h
 cases h1:DU E t with
 |none=>rw[h1]at h;simp at h
 |some d=>
  rw[h1]at h;simp only[isAgg,EH,Ah hE h1,EO]
  cases d<;>simp at h<;>subst h<;>rfl
theorem Q9{t:TypeId}{z:AV}(h:Pq E t=some z)(w:World):∃v,(zeroValue t).run P w= .ok v w/\∀AC,VR AC z v:=by
 unfold Pq at h
 cases h1:Ev.inf E t with
 |none=>rw[h1]at h;simp at h
 |some i=>
  rw[h1]at h;simp only at h
  cases h2:i.zero with
  |none=>rw[h2]at h;simp at h
  |some v=>rw[h2]at h;simp at h;subst h;exact⟨v,by simp only[zeroValue,EH,Ea hE h1,EO,h2,IH],λAC=>Q8 AC 10 v⟩
omit hE in
theorem akf(AC:BF)(l:List Value):CQ AC (l.map (Vr 10)) l:=by
 induction l with
 |nil=>exact .nil
 |cons a l ih=>exact .cons (Q8 AC 10 a) ih
theorem Dy{t:TypeId}{z:List AV}(h:Ft E t=some z)(w:World):∃v i,Ev.inf E t=some i/\(zeroValue t).run P w= .ok v w/\v.cells.size=i.size/\z.length=i.size/\∀AC,CQ AC z v.cells.toList:=by
 unfold Ft at h
 cases h1:Ev.inf E t with
 |none=>rw[h1]at h;simp at h
 |some i=>
  rw[h1]at h;simp only at h
  cases h2:i.zero with
  |none=>rw[h2]at h;simp at h
  |some v=>
   rw[h2]at h;simp only at h;split at h;.rename_i hb;simp at h;subst h;have:=As hb;refine⟨v,i,rfl,by simp only[zeroValue,EH,Ea hE h1,EO,h2,IH],this,by simp[this],λAC=>?_⟩;have hl:=akf AC v.cells.toList;simpa using hl
   .simp at h
end env
theorem Ds(cb o n:Nat):(⟨cb,o,none⟩:Addr).add n=⟨cb,o+n,none⟩:=by
 unfold Addr.add;split;.rename_i h;subst h;rfl
 .rfl
theorem K4{w:World}{cb:Nat}{cs:Array Value}{e:TypeId}{f:Nat×Nat}(h:w.heap[cb]?=some (.cells cs e f))(o:Nat):w.cell? ⟨cb,o,none⟩=cs[o]?:=by simp[World.cell?,h]
theorem akl{w:World}{cb:Nat}{cs:Array Value}{e:TypeId}(h:w.heap[cb]?=some (.cells cs e (0,0)))(o:Nat):w.frozen? ⟨cb,o,none⟩=false:=by simp[World.frozen?,h]
theorem Fa(P:Program){w:World}{cb o:Nat}{l:List Value}(h:∀(j:Nat) (v:Value),l[j]?=some v->w.cell? ⟨cb,o+j,none⟩=some v):(loadCells ⟨cb,o,none⟩ l.length).run P w= .ok l.toArray w:=run_loadCells_list w _ l λj v hj=>by rw[Ds];exact h j v hj
def XN(cs:Array Value)(o:Nat):List Value->Array Value
 | []=>cs
 |v::r=>XN (cs.setIfInBounds o v) (o+1) r
theorem Ij:∀(l:List Value) (cs:Array Value) (o:Nat),(XN cs o l).size=cs.size
 | [],cs,o=>rfl
 |v::r,cs,o=>by rw[XN,Ij r];simp
theorem Qn:∀(l:List Value) (cs:Array Value) (o j:Nat),o+l.length<=cs.size->(XN cs o l)[j]?=if o<=j/\j<o+l.length then l[j- o]? else cs[j]?
 | [],cs,o,j,_=>by simp[XN];omega
 |v::r,cs,o,j,h=>by
  simp only[FX]at h;rw[XN,Qn r _ (o+1) j Y1];by_cases h1:o+1<=j/\j<o+1+r.length;.rw[AP h1,AP Y1];obtain⟨k,rfl⟩:∃k,j=o+1+k:=⟨j- (o+1),om⟩;rw[show o+1+k- (o+1)=k from om,show o+1+k- o=k+1 from om];simp
  .rw[AM h1];by_cases h2:j=o;.subst h2;rw[AP W0];rw[SR,AP rfl,AP om];simp
   .rw[AM Y1,SR,AM om]
theorem af8{w:World}{cb o:Nat}{cs:Array Value}{e:TypeId}{f:Nat×Nat}(h:w.heap[cb]?=some (.cells cs e f))(v:Value):(w.setCell ⟨cb,o,none⟩ v).heap=w.heap.setIfInBounds cb (.cells (cs.setIfInBounds o v) e f):=by
 have BX:cb<w.heap.size:=by
  rcases PP cb w.heap.size with AA|AA;.exact AA
  .rw[jK AA]at h;cases h
 simp only[World.setCell];apply Array.ext_getElem?;intro i;rw[Array.getElem?_modify,SR];by_cases hi:cb=i;.subst hi;rw[AP rfl,AP rfl,AP BX,h];rfl
 .simp[hi]
theorem Er(P:Program):∀(l:List Value) (w:World) (cb o i:Nat) (cs:Array Value) (e:TypeId),w.heap[cb]?=some (.cells cs e (0,0))->o+i+l.length<=cs.size->(∀v∈l,v.oneCell'=true)->∃AY,(storeCells ⟨cb,o,none⟩ l i).run P w= .ok () AY/\AY.heap=w.heap.setIfInBounds cb (.cells (XN cs (o+i) l) e (0,0))/\QG w AY
 | [],w,cb,o,i,cs,e,h,hl,hp=>by
  refine⟨w,rfl,?_,.refl _⟩;apply Array.ext_getElem?;intro j;rw[SR];by_cases hj:cb=j
  .subst hj;rw[AP rfl,h];have BX:cb<w.heap.size:=by
    rcases PP cb w.heap.size with AA|AA;.exact AA
    .rw[jK AA]at h;cases h
   rw[AP BX];rfl
  .rw[AM hj]
 |v::r,w,cb,o,i,cs,e,h,hl,hp=>by
  simp only[FX]at hl;have BX:cb<w.heap.size:=by
   rcases PP cb w.heap.size with AA|AA;.exact AA
   .rw[jK AA]at h;cases h
  have hc:w.cell? ⟨cb,o+i,none⟩=some cs[o+i]:=by rw[K4 h,SU om]
  have hw:=af8 h (o:=o+i) v;obtain⟨AY,h1,h2,h3⟩:=Er P r (w.setCell ⟨cb,o+i,none⟩ v) cb o (i+1) (cs.setIfInBounds (o+i) v) e (by rw[hw,SR,AP rfl,AP BX]) Y1 (λu hu=>hp u (Ck _ hu));refine⟨AY,?_,?_,QG.trans ?_ h3⟩;.simp only[storeCells,EH,Ds,run_store P w _ v .plain (hp v (DW ..)),hc,akl h,RR,KS,EO];exact h1
  .rw[h2,hw];apply Array.ext_getElem?;intro j;simp only[SR,Array.size_setIfInBounds];by_cases hj:cb=j;.subst hj;rw[AP rfl,AP BX,AP rfl,AP BX];rfl
   .simp[hj]
  .unfold World.setCell;split<;>exact⟨rfl,rfl,rfl⟩
theorem akm{AC:BF}{v:AV}{AQ:Value}(h:VR AC v AQ)(hp:A8 v=true):AQ.oneCell'=true:=by
 cases h with
 |agg _=>simp[A8]at hp
 |BM _=>simp[A8]at hp
 |FK _=>simp[A8]at hp
 |HZ _=>cases AQ<;>first|rfl|simp[A8]at hp
 |_=>rfl
theorem I2{AC:BF}:∀{l:List AV} {AT:List Value},CQ AC l AT->Av l=true->∀v∈AT,v.oneCell'=true
 | [],_,h,_=>by cases h;simp
 |a::l,_,h,hp=>by
  cases h with
  |cons hv hs=>
   unfold Av at hp;split at hp
   .rename_i h1;intro u hu;rcases DD.1 hu with e|hu;.subst e;exact akm hv h1
    .exact I2 hs hp u hu
   .simp at hp
section
variable {E:Env}{w0:Array Obj}{AC:BF}{h:H}{w:World}
theorem HR.sD(hr:HR E w0 AC h w.heap){b n:Nat}{ro:Bool}{c:T AV}{l:Loc}(BY:AC b=some l)(hb:H.get h b=some (.cells ro n c)):∃cs e fr,w.heap[l.cb]?=some (.cells cs e fr)/\cs.size=l.RF/\l.base+n<=cs.size/\∀i v,i<n->T.get c i=some v->∃AQ,cs[l.base+i]?=some AQ/\VR AC v AQ:=by
 obtain⟨o,h1,h2⟩:=hr.FH _ _ _ BY hb
 cases h2 with
 |cells hf hs hn h=>exact⟨_,_,_,h1,hs,hn,h⟩
theorem HR.sE(hr:HR E w0 AC h w.heap){b n:Nat}{c:T AV}{l:Loc}(BY:AC b=some l)(hb:H.get h b=some (.cells false n c)):∃cs e,w.heap[l.cb]?=some (.cells cs e (0,0))/\cs.size=l.RF/\l.base+n<=cs.size/\∀i v,i<n->T.get c i=some v->∃AQ,cs[l.base+i]?=some AQ/\VR AC v AQ:=by
 obtain⟨o,h1,h2⟩:=hr.FH _ _ _ BY hb
 cases h2 with
 |cells hf hs hn h=>cases hf rfl;exact⟨_,_,h1,hs,hn,h⟩
theorem HR.KM(hr:HR E w0 AC h w.heap){b o n:Nat}{xs:List AV}{l:Loc}(BY:AC b=some l)(hc:Ev.KM h b o n=some xs)(off:Nat)(ho:0<n->off=l.base+o):∃vs:List Value,vs.length=n/\CQ AC xs vs/\∀(j:Nat) (v:Value),vs[j]?=some v->w.cell? ⟨l.cb,off+j,none⟩=some v:=by
 unfold Ev.KM at hc
 cases n with
 |zero=>simp at hc;subst hc;exact⟨[],rfl,.nil,by simp⟩
 |succ n=>
  simp only at hc
  cases hb:H.get h b with
  |none=>rw[hb]at hc;simp at hc
  |some x=>
   rw[hb]at hc
   cases x with
   |cells ro k c=>
    simp only at hc;split at hc
    .rename_i hk;have hk:=Al hk;have hk:o+(n+1)<=k:=hk;obtain⟨hl,hg⟩:=Og hc;obtain⟨cs,e,_,h1,_,h3,h4⟩:=hr.sD BY hb;have bW:=ho om;refine⟨(List.range (n+1)).map λj=>cs[l.base+(o+j)]?.getD undef,by simp,?_,?_⟩;.refine CQ.vI (by simp[hl]) λi v hi=>?_;have BX:i<n+1:=(by rw[<-hl];exact(FE.1 hi).1);obtain⟨AQ,h5,h6⟩:=h4 (o+i) v om (by rw[hg i BX];exact hi);exact⟨AQ,by simp[BX,h5],h6⟩
     .intro j v hj;have BX:j<n+1:=(by have:=(FE.1 hj).1;simpa using this);simp only[GD,Yu BX,KR,DB]at hj;have FO:l.base+(o+j)<cs.size:=om;rw[SU FO]at hj;rw[bW,K4 h1,fU,SU FO];simpa using hj
    .simp at hc
   |_=>simp at hc
theorem HR.Yl(P:Program)(hr:HR E w0 AC h w.heap){b o:Nat}{xs:List AV}{AA:H}{l:Loc}(BY:AC b=some l)(hp:Ev.Yl h b o xs=some AA){vs:List Value}(hv:CQ AC xs vs)(off:Nat)(ho:0<xs.length->off=l.base+o):∃AY,(storeCells ⟨l.cb,off,none⟩ vs).run P w= .ok () AY/\HR E w0 AC AA AY.heap/\QG w AY:=by
 unfold Ev.Yl at hp
 cases xs with
 |nil=>simp at hp;subst hp;cases hv;exact⟨w,rfl,hr,.refl _⟩
 |cons x xs=>
  simp only at hp
  cases hb:H.get h b with
  |none=>rw[hb]at hp;simp at hp
  |some y=>
   rw[hb]at hp
   cases y with
   |cells ro k c=>
    cases ro with
    |true=>simp at hp
    |false=>
     simp only at hp;split at hp
     .rename_i hk LA;have hk:o+(x::xs).length<=k:=Al hk;cases hp;obtain⟨cs,e,h1,h2,h3,h4⟩:=hr.sE BY hb;have hlen:=hv.length;have bW:=ho W0;obtain⟨AY,r1,r2,r3⟩:=Er P vs w l.cb off 0 cs e h1 om (I2 hv LA);refine⟨AY,r1,?_,r3⟩;rw[r2];refine hr.cJ BY hb rfl (.cells (λ_=>rfl) (by rw[Ij,h2]) (by rw[Ij];exact h3) λi v hi hg=>?_) rfl;rw[TV,Qn _ _ _ _ om];rw[L3]at hg;by_cases FO:o<=i/\i<o+(x::xs).length;.rw[AP FO]at hg;rw[AP om];obtain⟨AQ,h5,h6⟩:=hv.get hg;exact⟨AQ,by rw[<-h5];congr 1;omega,h6⟩
      .rw[AM FO]at hg;rw[AM om];exact h4 i v hi hg
     .simp at hp
   |_=>simp at hp
end
section inv
variable {AC:BF}{AQ:Value}
theorem VR.YF{b:Bool}(h:VR AC (.bool b) AQ):AQ= .bool b:=by cases h;rfl
theorem VR.MK{k:IntKind}{n:Int}(h:VR AC (.int k n) AQ):AQ= .int k n:=by cases h;rfl
theorem VR.aY{s:List Nat}(h:VR AC (.str s) AQ):∃b,AQ= .string b/\b.data.toList.map (·.toNat)=s:=by cases h with|str h=>exact⟨_,rfl,h⟩
theorem VR.vG(h:VR AC .M7 AQ):AQ= .pointer none:=by cases h;rfl
theorem VR.US{b o:Nat}(h:VR AC (.ptr b o) AQ):∃l,AC b=some l/\AQ= .pointer (some ⟨l.cb,l.base+o,none⟩):=by cases h with|ptr h=>exact⟨_,h,rfl⟩
theorem VR.akt{u:Value}(h:VR AC (.HZ u) AQ):AQ=u:=by cases h;rfl
theorem VR.Yi(h:VR AC .AS AQ):AQ= .slice none 0 0:=by cases h;rfl
theorem VR.XR{b o n c:Nat}(h:VR AC (.AE b o n c) AQ):∃l off BP,AC b=some l/\AQ= .slice (some ⟨l.cb,off,none⟩) n BP/\n<=BP/\((c<Aa/\BP=c/\(0<c->off=l.base+o))\/(∃k,c=Aa+k/\off+BP*k<=l.RF/\(0<n->off=l.base+o))):=by
 cases h with
 |WE h hc hl ho=>exact⟨_,_,_,h,rfl,hl,.inl ⟨hc,rfl,ho⟩⟩
 |XQ h hl hr ho=>exact⟨_,_,_,h,rfl,hl,.inr ⟨_,rfl,hr,ho⟩⟩
theorem VR.iZ(h:VR AC .OS AQ):AQ= .map none:=by cases h;rfl
theorem VR.aS{r:Nat}(h:VR AC (.map r) AQ):∃l,AC r=some l/\AQ= .map (some l.cb):=by cases h with|map h=>exact⟨_,h,rfl⟩
theorem VR.gM{f:Nat}{a c:List AV}(h:VR AC (.fn (.func f) a c) AQ):∃BC BP:Array Value,AQ= .func (.func f) BC BP/\CQ AC a BC.toList/\CQ AC c BP.toList:=by cases h with|dO ha hc=>exact⟨_,_,rfl,ha,hc⟩
theorem VR.vF(h:VR AC .PK AQ):AQ= .nilFunc:=by cases h;rfl
theorem VR.lr{t:Nat}{v:AV}(h:VR AC (.Cm t v) AQ):∃u,AQ= .iface t u/\VR AC v u:=by cases h with|Cm h=>exact⟨_,rfl,h⟩
theorem VR.ma(h:VR AC .IX AQ):AQ= .nilIface:=by cases h;rfl
theorem VR.bF{l:List AV}(h:VR AC (.agg l) AQ):∃c:Array Value,AQ= .agg c/\CQ AC l c.toList:=by cases h with|agg h=>exact⟨_,rfl,h⟩
theorem VR.aep{l:List AV}(h:VR AC (.BM l) AQ):∃c:Array Value,AQ= .tuple c/\CQ AC l c.toList:=by cases h with|BM h=>exact⟨_,rfl,h⟩
end inv
def GE(E:Env)(w0:Array Obj)(AC:BF)(w:World)(h:H)(r:Result Next)(v:AV)(AA:H):Prop:=
 ∃BU AQ AY,BF.mP h.n AC BU/\(r= .ok (.value AQ) AY\/(r= .ok .skip AY/\AQ=undef))/\VR BU v AQ/\HR E w0 BU AA AY.heap/\QG w AY
section
variable {P:Program}{E:Env}{w0:Array Obj}{AC:BF}{h AA:H}{w:World}{tm:T AV}{BQ:Operand->Value}{o:Oper}{v:AV}
theorem GE.same{r:Result Next}{AQ:Value}{AY:World}(hr:HR E w0 AC h AY.heap)(e:r= .ok (.value AQ) AY)(hv:VR AC v AQ)(hl:QG w AY:=by exact⟨rfl,rfl,rfl⟩):GE E w0 AC w h r v h:=⟨AC,AQ,AY,.refl _ _,.inl e,hv,hr,hl⟩
theorem I3{v:AV}{AQ:Value}{l:List AV}(hv:VR AC v AQ)(hc:A1 v=some l):CQ AC l AQ.cells.toList:=by
 cases hv with
 |agg h=>simp only[A1,DB]at hc;subst hc;exact h
 |BM h=>simp[A1]at hc
 |FK _=>simp[A1]at hc
 |HZ _=>
  cases AQ<;>first
   |(simp[A1]at hc;done)
   |(simp only[A1,DB]at hc;subst hc;exact .cons (.HZ _) .nil)
 |_=>simp only[A1,DB]at hc;subst hc;exact .cons (by first|assumption|(constructor<;>assumption)|constructor) .nil
variable (hr:HR E w0 AC h w.heap)(AW:R0 AC tm BQ)
include hr AW
theorem aew{x:Operand}(e:(execOp BQ o).run P w=(pure (.value (BQ x)):Sem Next).run P w)(hx:exec (.mv (BK x)) h tm= .val v AA):GE E w0 AC w h ((execOp BQ o).run P w) v AA:=by simp only[exec,R.val.injEq]at hx;obtain⟨rfl,rfl⟩:=hx;exact .same hr e (AW x)
theorem an0{c a b:Operand}(ho:o.op= .pick c a b)(hx:exec (.pick (BK c) (BK a) (BK b)) h tm= .val v AA):GE E w0 AC w h ((execOp BQ o).run P w) v AA:=by
 simp only[exec]at hx;split at hx;.rename_i hc;have ec:=VR.YF (hc ▸ AW c);cases hx;exact .same hr (by simp[execOp,ho,ec,asBool]) (AW a)
 .rename_i hc;have ec:=VR.YF (hc ▸ AW c);cases hx;exact .same hr (by simp[execOp,ho,ec,asBool]) (AW b)
 .cases hx
omit hr AW in
theorem I5(e:TypeId)(u:Value):(newVar e u).run P w= .ok ⟨w.heap.size,0,none⟩ (w.alloc (.cells u.cells e)):=by simp[newVar,newRow]
theorem Adc{e:TypeId}{n:Nat}{x:Operand}(ho:o.op= .box e x)(hx:exec (.box n (BK x)) h tm= .val v AA):GE E w0 AC w h ((execOp BQ o).run P w) v AA:=by
 simp only[exec]at hx;split at hx
 .rename_i l hl;split at hx
  .cases hx;obtain⟨hle,HY⟩:=hr.NZ e (I3 (AW x) hl);refine⟨_,.pointer (some ⟨w.heap.size,0,none⟩),w.alloc (.cells (BQ x).cells e),⟨hle,λ_ hb=>BF.CB _ _ hb⟩,.inl ?_,?_,HY,⟨rfl,rfl,rfl⟩⟩;.simp[execOp,ho,Instr.box,I5]
   .have:=VR.ptr (b:=h.n) (o:=0) (BF.NM AC h.n ⟨w.heap.size,0,(BQ x).cells.size⟩);simpa using this
  .cases hx
 .cases hx
theorem akn(hE:DG P E){e:TypeId}{z:List AV}(hz:Ft E e=some z)(ho:o.op= .alloc e)(hx:exec (.alloc z) h tm= .val v AA):GE E w0 AC w h ((execOp BQ o).run P w) v AA:=by
 simp only[exec,R.val.injEq]at hx;obtain⟨rfl,rfl⟩:=hx;obtain⟨u,i,h1,h2,h3,h4,h5⟩:=Dy hE hz w;obtain⟨hle,HY⟩:=hr.NZ e (h5 AC);refine⟨_,.pointer (some ⟨w.heap.size,0,none⟩),w.alloc (.cells u.cells e),⟨hle,λ_ hb=>BF.CB _ _ hb⟩,.inl ?_,?_,HY,⟨rfl,rfl,rfl⟩⟩;.simp[execOp,ho,Instr.alloc,h2,I5]
 .have:=VR.ptr (b:=h.n) (o:=0) (BF.NM AC h.n ⟨w.heap.size,0,u.cells.size⟩);simpa using this
omit hr AW
theorem Fv:∀(xs l:List AV) (o i:Nat),o+xs.length<=l.length->(Gb xs l o)[i]?=if o<=i/\i<o+xs.length then xs[i- o]? else l[i]?
 |xs,l,0,i,hl=>by
  have:Gb xs l 0=xs++l.drop xs.length:=by cases l<;>rfl
  rw[this];by_cases h:i<xs.length;.rw[AP om,WK,QC h]
  .rw[AM om,OB om,MN];congr 1;omega
 |xs,[],o+1,i,hl=>by simp at hl
 |xs,a::l,o+1,i,hl=>by
  simp only[FX]at hl;show(a::Gb xs l o)[i]?=_
  cases i with
  |zero=>rw[AM om];rfl
  |succ i=>
   rw[fJ,Fv xs l o i om,fJ];by_cases h:o<=i/\i<o+xs.length;.rw[AP h,AP om];congr 1;omega
   .rw[AM h,AM om]
theorem Pu:∀(xs l:List AV) (o:Nat),o+xs.length<=l.length->(Gb xs l o).length=l.length
 |xs,l,0,hl=>by
  have:Gb xs l 0=xs++l.drop xs.length:=by cases l<;>rfl
  rw[this];simp;omega
 |xs,[],o+1,hl=>by simp at hl
 |xs,a::l,o+1,hl=>by simp only[FX]at hl;show(a::Gb xs l o).length=_;simp[Pu xs l o om]
theorem Amc{xs l:List AV}{xs':List Value}{cs:Array Value}{o:Nat}(hx:CQ AC xs xs')(hl:CQ AC l cs.toList)(hb:o+xs.length<=l.length):CQ AC (Gb xs l o) (XN cs o xs').toList:=by
 have h1:=hx.length;have h2:=hl.length;simp only[WP]at h2;refine CQ.vI (by rw[Pu _ _ _ hb];simp[Ij,h2]) λi v hi=>?_;rw[Fv _ _ _ _ hb]at hi;rw[UY,Qn _ _ _ _ om];by_cases h:o<=i/\i<o+xs.length;.rw[AP h]at hi;rw[AP om];exact hx.get hi
 .rw[AM h]at hi;rw[AM om,<-UY];exact hl.get hi
theorem Ra:∀(l:List Value) (cs:Array Value) (o k:Nat),(l.zipIdx k).foldl (λcs (x:Value×Nat)=>cs.setIfInBounds (o+x.2) x.1) cs=XN cs (o+k) l
 | [],cs,o,k=>rfl
 |v::r,cs,o,k=>by rw[List.zipIdx_cons,fR,Ra r,XN,fU]
include hr AW
omit hr in
theorem J5(place:Nat->Option (Nat×Nat)):∀(parts:List (Nat×Operand)) (ps:List (Nat×Nat×O)) (cells:List AV) (cs:Array Value) (l:List AV),parts.map (λp=>(place p.1).map λq=>(q.1,q.2,BK p.2))=ps.map some->CQ AC cells cs.toList->fill tm ps cells=some l->∃IC,Instr.fill place cs (parts.map λp=>(p.1,BQ p.2))=some IC/\CQ AC l IC.toList
 | [],ps,cells,cs,l,hp,hc,hf=>by
  cases ps with
  |nil=>simp only[fill,DB]at hf;subst hf;exact⟨cs,rfl,hc⟩
  |cons _ _=>simp at hp
 |p::parts,ps,cells,cs,l,hp,hc,hf=>by
  cases ps with
  |nil=>simp at hp
  |cons q ps=>
   simp only[FU,Yr]at hp;obtain⟨h1,h2⟩:=hp
   cases LA:place p.1 with
   |none=>rw[LA]at h1;simp at h1
   |some os=>
    rw[LA]at h1;simp only[KR,DB]at h1;subst h1;simp only[fill]at hf;split at hf
    .rename_i xs eA;split at hf;.rename_i TA UG;have TA:xs.length=os.2:=As TA;have UG:os.1+os.2<=cells.length:=Al UG;have hv:=I3 (AW p.2) eA;have hlen:=hv.length;have NV:=hc.length;simp only[WP]at hlen NV;obtain⟨IC,h3,h4⟩:=J5 place parts ps _ (XN cs os.1 (BQ p.2).cells.toList) l h2 (Amc hv hc om) hf;refine⟨IC,?_,h4⟩;rw[FU,Instr.fill,LA];simp only;rw[AM Y1];rw[<-h3];congr 1;have:=Ra (BQ p.2).cells.toList cs os.1 0;rw[<-Array.foldl_toList,Array.toList_zipIdx];exact this
     .simp at hf
    .simp at hf
omit hr AW in
theorem T5{α β:Type}{f:α->Option β}:∀{l:List α} {r:List β},l.mapM f=some r->l.map f=r.map some
 | [],r,h=>by simp at h;subst h;rfl
 |a::l,r,h=>by
  rw[nN]at h
  cases h1:f a with
  |none=>rw[h1]at h;simp at h
  |some b=>
   rw[h1]at h
   cases h2:l.mapM f with
   |none=>rw[h2]at h;simp at h
   |some t=>rw[h2]at h;simp at h;subst h;simp[h1,T5 h2]
omit hr AW in
theorem Rb(hE:DG P E):∀(fs:List Field),fs.all (λf=>(sz E f.type).isSome)=true->
  (fs.mapM (λf=>(do pure (f.offset,<-sizeOf f.type):Sem (Nat×Nat)))).run P w= .ok (fs.map λf=>(f.offset,SP E f.type)) w
 | [],_=>rfl
 |f::fs,hf=>by
  simp only[List.all_cons,KQ]at hf
  cases h1:sz E f.type with
  |none=>rw[h1]at hf;simp at hf
  |some n=>
   have hn:SP E f.type=n:=by
    unfold sz at h1;unfold SP
    cases h2:Ev.inf E f.type with
    |none=>rw[h2]at h1;simp at h1
    |some i=>rw[h2]at h1;simpa using h1
   rw[nN]
   simp only[EH,aev hE h1,EO,IH,Rb hE fs hf.2,FU,hn]
theorem ako(hE:DG P E){t:TypeId}{parts:Array (Nat×Operand)}{z:List AV}{ps:List (Nat×Nat×O)}(hz:Ft E t=some z)(hp:Vs E t parts.toList=some ps)(ho:o.op= .build t parts)(hx:exec (.build z ps) h tm= .val v AA):GE E w0 AC w h ((execOp BQ o).run P w) v AA:=by
 simp only[exec]at hx;split at hx
 .rename_i l hl;cases hx;obtain⟨u,i,h1,h2,h3,h4,h5⟩:=Dy hE hz w;unfold Vs at hp;split at hp
  .rename_i fs hu;split at hp
   .rename_i JF;have gx:=T5 hp;obtain⟨IC,h6,h7⟩:=J5 (AW:=AW) (λ(i:Nat)=>(fs.map λf=>(f.offset,SP E f.type))[i]?) parts.toList ps z u.cells l (by
     rw[<-gx];apply ar;intro p _;unfold wV
     cases hf:fs[p.1]? with
     |none=>simp[hf]
     |some f=>
      simp only[Array.getElem?_map,hf,KR]
      cases h8:sz E f.type with
      |none=>have hm:f∈fs.toList:=(by have:=Array.mem_of_getElem? hf;simpa using this);have:=(RS.1 JF) f hm;rw[h8]at this;simp at this
      |some n=>
       have hn:SP E f.type=n:=by
        unfold sz at h8;unfold SP
        cases h9:Ev.inf E f.type with
        |none=>rw[h9]at h8;simp at h8
        |some i=>rw[h9]at h8;simpa using h8
       simp[hn]) (h5 AC) hl
    refine .same (AQ:= .agg IC) hr ?_ (.agg h7);simp only[execOp,ho,Instr.build,EH,h2,EO,Ah hE hu];have hpr:=Rb (w:=w) hE fs.toList JF;rw[Array.mapM_eq_mapM_toList,Sem.run_map,hpr];simp only[EO];have lJ:(λ(i:Nat)=>(fs.toList.map λf=>(f.offset,SP E f.type)).toArray[i]?)=(λ(i:Nat)=>(fs.map λf=>(f.offset,SP E f.type))[i]?):=(by funext i;simp);have du:(parts.map λ(x:Nat×Operand)=>(x.1,BQ x.2)).toList=parts.toList.map λp=>(p.1,BQ p.2):=by simp
    rw[du,lJ,h6];rfl
   .simp at hp
  .rename_i n e hu;split at hp
   .rename_i m hm;cases hp;obtain⟨IC,h6,h7⟩:=J5 (AW:=AW) (λ(i:Nat)=>some (i*m,m)) parts.toList _ z u.cells l W0 (h5 AC) hl;refine .same (AQ:= .agg IC) hr ?_ (.agg h7);simp only[execOp,ho,Instr.build,EH,h2,EO,Ah hE hu,aev hE hm];have du:(parts.map λ(x:Nat×Operand)=>(x.1,BQ x.2)).toList=parts.toList.map λp=>(p.1,BQ p.2):=by simp
    rw[du,h6];rfl
   .simp at hp
  .simp at hp
 .cases hx
end
theorem xZ{p:Prop}(h:p:=by
 simp only[execOp,ho,Instr.buildSlice,EH,Ah hE hu,EO,h6,lN,KS,IH]
 by_cases h0:n*s=0
 .have hn:n=0:=by rcases Nat.mul_eq_zero.1 h0 with h|h;exact h;exact absurd h h7
  rw[AP h0]
  simp only[EH,IH,EO]
  rw[h0]at h8 ⊢
  rw[du]
  have:((Array.range 0).map λi=>(#[]:Array Value)[i%(#[]:Array Value).size]!)=((Array.range 0).map λi=>u.cells[i%u.cells.size]!):=by simp
  rw[this,h8]
  simp[newRow]
 .rw[AM h0]
  simp only[EH,h2,EO,IH]
  rw[du,h8]
  simp[newRow]):p:=h
theorem rL{p:Prop}(h:p:=by
 cases hx
 exact .same (AQ:=BQ x) hr (by simp[execOp,ho,ea]) (hb ▸ AW x)):p:=h
theorem xc{p:Prop}(h:p:=by
 simp only[execOp,ho,Instr.typeAssert,EH,Ah hE hu,EO,ea]
 cases d<;>first|(simp;done)|exact absurd rfl (hd _)):p:=h
section
variable {P:Program}{E:Env}{w0:Array Obj}{AC:BF}{h AA:H}{w:World}{tm:T AV}{BQ:Operand->Value}{o:Oper}{v:AV}
variable (hr:HR E w0 AC h w.heap)(AW:R0 AC tm BQ)
include hr AW
omit hr AW in
theorem Z8(z:List AV):∀(n i:Nat),i<n*z.length->(rl z n)[i]?=z[i%z.length]?
 |0,i,hi=>by simp at hi
 |n+1,i,hi=>by
  show(z++rl z n)[i]?=_;by_cases BX:i<z.length;.rw[QC BX,cR BX]
  .have dY:z.length<=i:=om;rw[OB dY,Z8 z n (i- z.length) (by rw[Ys]at hi;omega),<-Nat.mod_eq_sub_mod dY]
omit hr AW in
theorem v8{z:List AV}{c:Array Value}(hz:CQ AC z c.toList)(n:Nat)(k:Nat)(hk:k=n*c.size):CQ AC (rl z n) ((Array.range k).map λi=>c[i%c.size]!).toList:=by
 have hl:=hz.length;simp only[WP]at hl;have hlen:(rl z n).length=n*z.length:=by
  clear hk;induction n with
  |zero=>simp[rl]
  |succ n ih=>show(z++rl z n).length=_;simp[ih,Ys];omega
 refine CQ.vI (by rw[hlen];simp[hk,hl]) λi v hi=>?_;have BX:i<n*z.length:=by rw[<-hlen];exact(FE.1 hi).1
 rw[Z8 z n i BX]at hi;obtain⟨AQ,h1,h2⟩:=hz.get hi;refine⟨AQ,?_,h2⟩;have hm:i%c.size<c.size:=by have:=(FE.1 h1).1;rw[hl]at this;simpa using this
 have ab3:i<k:=by rw[hk,<-hl];exact BX
 simp only[UY,Array.getElem?_map,Array.getElem?_range,ab3,WN,KR];rw[hl,UY]at h1;rw[getElem!_def,h1]
theorem agq(hE:DG P E){t e:TypeId}{n s:Nat}{parts:Array (Nat×Operand)}{z:List AV}(hu:DU E t=some (.slice e))(hs:Cw E e=some s)(hz:Ft E e=some z)(hb:n*SP E e<=16777216)(ho:o.op= .buildSlice t n parts)(hx:exec (.bJ n (rl z n) (parts.toList.map λp=>(p.1*s,s,BK p.2))) h tm= .val v AA):GE E w0 AC w h ((execOp BQ o).run P w) v AA:=by
 simp only[exec]at hx;split at hx
 .rename_i l hl;cases hx;obtain⟨u,i,h1,h2,h3,h4,h5⟩:=Dy hE hz w;obtain⟨h6,h7⟩:=Cr hE hs w;have hi:i.size=s:=by
   unfold Cw at hs;rw[h1]at hs;simp only at hs;split at hs;.simp at hs
   .simpa using hs
  have DE:SP E e=s:=by unfold SP;rw[h1];exact hi
  obtain⟨IC,h8,h9⟩:=J5 (AW:=AW) (λ(i:Nat)=>some (i*s,s)) parts.toList _ _ ((Array.range (n*s)).map λi=>u.cells[i%u.cells.size]!) l W0 (v8 (h5 AC) n (n*s) (by rw[h3,hi])) hl;obtain⟨hle,HY⟩:=hr.NZ e h9;have du:(parts.map λ(x:Nat×Operand)=>(x.1,BQ x.2)).toList=parts.toList.map λp=>(p.1,BQ p.2):=by simp
  have lN:¬(n*s>2^24):=by rw[DE]at hb;omega
  refine⟨_,.slice (some ⟨w.heap.size,0,none⟩) n n,w.alloc (.cells IC e),⟨hle,λ_ hb=>BF.CB _ _ hb⟩,.inl ?_,?_,HY,⟨rfl,rfl,rfl⟩⟩;.exact xZ
  .have JT:n<Aa:=k1g;have:=VR.WE (b:=h.n) (o:=0) (n:=n) (c:=n) (off:=0) (BF.NM AC h.n ⟨w.heap.size,0,IC.size⟩) JT (BD _) (λ_=>rfl);simpa using this
 .cases hx
theorem akp(hE:DG P E){t:TypeId}{a:Operand}(ha:Oc E t=some false)(ho:o.op= .load t a)(hx:exec (.cC (BK a)) h tm= .val v AA):GE E w0 AC w h ((execOp BQ o).run P w) v AA:=by
 simp only[exec]at hx;split at hx
 .rename_i b k hb;obtain⟨l,BY,ea⟩:=VR.US (hb ▸ AW a);split at hx
  .rename_i ro n c hc;split at hx
   .rename_i hk;have hk:k+1<=n:=Al hk
    cases hg:T.get c k with
    |none=>rw[hg]at hx;simp[vo]at hx
    |some u=>rw[hg]at hx;simp only[vo,R.val.injEq]at hx;obtain⟨rfl,rfl⟩:=hx;obtain⟨cs,e,_,h1,h2,h3,h4⟩:=hr.sD BY hc;obtain⟨AQ,h5,h6⟩:=h4 k _ om hg;refine .same (AQ:=AQ) hr ?_ h6;simp[execOp,ho,Instr.loadAt,Instr.sureAddr,loadVar,ea,Hp hE ha,K4 h1,h5]
   .cases hx
  .cases hx
 .cases hx
theorem akq(hE:DG P E){t:TypeId}{i:TypeInfo}{a:Operand}(hi:Ev.inf E t=some i)(ha:Oc E t=some true)(ho:o.op= .load t a)(hx:exec (.QN i.size (BK a)) h tm= .val v AA):GE E w0 AC w h ((execOp BQ o).run P w) v AA:=by
 simp only[exec]at hx;split at hx
 .rename_i b k hb;obtain⟨l,BY,ea⟩:=VR.US (hb ▸ AW a);split at hx;.rename_i xs hc;cases hx;obtain⟨vs,h1,h2,h3⟩:=hr.KM BY hc (l.base+k) (λ_=>rfl);refine .same (AQ:= .agg vs.toArray) hr ?_ (.agg (by simpa using h2));have:=Fa P h3;rw[h1]at this;simp[execOp,ho,Instr.loadAt,Instr.sureAddr,loadVar,ea,Hp hE ha,Cx hE hi,this]
  .cases hx
 .cases hx
theorem aku(hE:DG P E){t:TypeId}{i:TypeInfo}{a x:Operand}(hi:Ev.inf E t=some i)(ho:o.op= .store t a x)(hx:exec (.store i.size (BK a) (BK x)) h tm= .val v AA):GE E w0 AC w h ((execOp BQ o).run P w) v AA:=by
 simp only[exec]at hx;split at hx
 .rename_i b k hb;obtain⟨l,BY,ea⟩:=VR.US (hb ▸ AW a);split at hx
  .rename_i xs hc;split at hx
   .rename_i hlen;have hlen:xs.length=i.size:=As hlen;split at hx;.rename_i h2 hp;cases hx;have hv:=I3 (AW x) hc;have hl:=hv.length;simp only[WP]at hl;obtain⟨AY,r1,r2,r3⟩:=hr.Yl P BY hp hv (l.base+k) (λ_=>rfl);refine⟨AC,undef,AY,.refl _ _,.inr ⟨?_,rfl⟩,.FK _,r2,r3⟩;have BZ:¬((BQ x).cells.size≠i.size):=om;simp[execOp,ho,Instr.storeAt,Instr.sureAddr,storeVar,ea,Cx hE hi,r1];omega
    .cases hx
   .cases hx
  .cases hx
 .cases hx
theorem an1{x:Operand}(ho:o.op= .nilCheck x)(hx:exec (.eT (BK x)) h tm= .val v AA):GE E w0 AC w h ((execOp BQ o).run P w) v AA:=by
 simp only[exec]at hx;split at hx;.rename_i b k hb;obtain⟨l,BY,ea⟩:=VR.US (hb ▸ AW x);exact rL
 .rename_i f a c hb;obtain⟨BC,BP,ea,_,_⟩:=VR.gM (hb ▸ AW x);exact rL
 .rename_i t u hb;obtain⟨FW,ea,_⟩:=VR.lr (hb ▸ AW x);exact rL
 .cases hx
theorem an2(hE:DG P E){t:TypeId}{d:TypeDesc}{x:Operand}(hu:DU E t=some d)(hd:∀ms,d≠ .interface ms)(ho:o.op= .makeInterface t x)(hx:exec (.cF t (BK x)) h tm= .val v AA):GE E w0 AC w h ((execOp BQ o).run P w) v AA:=by
 simp only[exec,R.val.injEq]at hx;obtain⟨rfl,rfl⟩:=hx;refine .same (AQ:= .iface t (BQ x)) hr ?_ (.Cm (AW x));simp only[execOp,ho,Instr.makeInterface,EH,Ah hE hu,EO]
 cases d<;>first|rfl|exact absurd rfl (hd _)
theorem an3{f:FuncId}{a c:Array Operand}(ho:o.op= .makeFunc (.func f) a c)(hx:exec (.cE (.func f) (a.toList.map BK) (c.toList.map BK)) h tm= .val v AA):GE E w0 AC w h ((execOp BQ o).run P w) v AA:=by simp only[exec,R.val.injEq]at hx;obtain⟨rfl,rfl⟩:=hx;refine .same (AQ:= .func (.func f) (a.map BQ) (c.map BQ)) hr ?_ (.dO (by simpa using AW.list a.toList) (by simpa using AW.list c.toList));simp[execOp,ho,Instr.makeFunc]
theorem akv{t:TypeId}(ho:o.op= .makeMap t none)(hx:exec .iX h tm= .val v AA):GE E w0 AC w h ((execOp BQ o).run P w) v AA:=by simp only[exec,R.val.injEq]at hx;obtain⟨rfl,rfl⟩:=hx;have hle:=BF.YY ⟨w.heap.size,0,0⟩ hr.fresh;refine⟨_,.map (some w.heap.size),w.alloc (.map #[] 0),⟨hle,λ_ hb=>BF.CB _ _ hb⟩,.inl ?_,.map (l:=⟨w.heap.size,0,0⟩) (BF.NM _ _ _),hr.new rfl (.map (by simpa using GZ.nil)) rfl,⟨rfl,rfl,rfl⟩⟩;simp[execOp,ho,Instr.makeMap]
theorem akw(hE:DG P E){s:TypeId}{fs:Array Field}{f n:Nat}{fd:Field}{x:Operand}(hu:DU E s=some (.struct fs))(hf:fs[f]?=some fd)(hs:Cw E fd.type=some n)(ho:o.op= .fieldAddr s x f)(hx:exec (.dM (BK x) fd.offset) h tm= .val v AA):GE E w0 AC w h ((execOp BQ o).run P w) v AA:=by
 simp only[exec]at hx;split at hx;.rename_i b k hb;obtain⟨l,BY,ea⟩:=VR.US (hb ▸ AW x);cases hx;obtain⟨h1,h2⟩:=Cr hE hs w;refine .same (AQ:= .pointer (some ⟨l.cb,l.base+(k+fd.offset),none⟩)) hr ?_ (.ptr BY);simp[execOp,ho,Instr.fieldAt,Instr.sureAddr,ea,Ah hE hu,hf,fieldPlace,h1,h2,Ds,fU]
 .cases hx
theorem ac(hE:DG P E){s:TypeId}{fs:Array Field}{f:Nat}{fd:Field}{x:Operand}(hu:DU E s=some (.struct fs))(hf:fs[f]?=some fd)(ha:Oc E fd.type=some false)(ho:o.op= .field s x f)(hx:exec (.dN (BK x) fd.offset) h tm= .val v AA):GE E w0 AC w h ((execOp BQ o).run P w) v AA:=by
 simp only[exec]at hx;split at hx
 .rename_i l hb;obtain⟨c,ea,hc⟩:=VR.bF (hb ▸ AW x)
  cases hg:l[fd.offset]? with
  |none=>rw[hg]at hx;simp[vo]at hx
  |some u=>rw[hg]at hx;simp only[vo,R.val.injEq]at hx;obtain⟨rfl,rfl⟩:=hx;obtain⟨AQ,h1,h2⟩:=hc.get hg;refine .same (AQ:=AQ) hr ?_ h2;rw[UY]at h1;simp[execOp,ho,Instr.field,asAgg,ea,Ah hE hu,hf,part,Hp hE ha,h1]
 .cases hx
omit hr AW in
theorem aky{l:List AV}{c:Array Value}(hc:CQ AC l c.toList)(a n:Nat):CQ AC (List.take n (List.drop a l)) (c.extract a (a+n)).toList:=by have:=(hc.drop a).take n;rw[Array.toList_extract,List.extract_eq_take_drop];rwa[Nat.add_sub_cancel_left]
theorem agf{x:Operand}{i:Nat}(ho:o.op= .extract x i)(hx:exec (.extract (BK x) i) h tm= .val v AA):GE E w0 AC w h ((execOp BQ o).run P w) v AA:=by
 simp only[exec]at hx;split at hx
 .rename_i l hb;obtain⟨c,ea,hc⟩:=VR.aep (hb ▸ AW x)
  cases hg:l[i]? with
  |none=>rw[hg]at hx;simp[vo]at hx
  |some u=>rw[hg]at hx;simp only[vo,R.val.injEq]at hx;obtain⟨rfl,rfl⟩:=hx;obtain⟨AQ,h1,h2⟩:=hc.get hg;rw[UY]at h1;exact .same (AQ:=AQ) hr (by simp[execOp,ho,Instr.extract,ea,h1]) h2
 .cases hx
theorem wl(hE:DG P E){s d:TypeId}{j k:IntKind}{x:Operand}(hs:DU E s=some (.int j))(hd:DU E d=some (.int k))(ho:o.op= .convert s d x)(hx:exec (.conv k (BK x)) h tm= .val v AA):GE E w0 AC w h ((execOp BQ o).run P w) v AA:=by
 simp only[exec]at hx;split at hx;.rename_i i n hb;have ea:=VR.MK (hb ▸ AW x);cases hx;refine .same (AQ:= .int k (k.wrap n)) hr ?_ (G5 k n ▸ .int _ _);simp[execOp,ho,convert,Ah hE hs,Ah hE hd,ea,Conv.intToInt]
 .cases hx
theorem agx(hE:DG P E){t e:TypeId}{n s:Nat}{x ix:Operand}(hu:DU E t=some (.array n e))(hs:Cw E e=some s)(ho:o.op= .indexAddr t x ix)(hx:exec (.eB n s (BK x) (BK ix)) h tm= .val v AA):GE E w0 AC w h ((execOp BQ o).run P w) v AA:=by
 simp only[exec]at hx;split at hx
 .rename_i b k hb;obtain⟨l,BY,ea⟩:=VR.US (hb ▸ AW x);split at hx
  .rename_i kk i hi;have ei:=VR.MK (hi ▸ AW ix);split at hx;.rename_i BX;have BX:i+1<=n:=Al BX;cases hx;refine .same (AQ:= .pointer (some ⟨l.cb,l.base+(k+i*s),none⟩)) hr ?_ (.ptr BY);have h1:i<n:=om;simp[execOp,ho,Instr.indexAt,Instr.sureAddr,asIntOf,ea,ei,Ah hE hu,(Cr hE hs w).1,Ds,fU,h1]
   .cases hx
  .cases hx
 .cases hx
theorem agy(hE:DG P E){t e:TypeId}{s:Nat}{x ix:Operand}(hu:DU E t=some (.slice e))(hs:Cw E e=some s)(ho:o.op= .indexAddr t x ix)(hx:exec (.bj s (BK x) (BK ix)) h tm= .val v AA):GE E w0 AC w h ((execOp BQ o).run P w) v AA:=by
 simp only[exec]at hx;split at hx
 .rename_i b k n cap hb;obtain⟨l,off,BP,BY,ea,hle,Lt⟩:=VR.XR (hb ▸ AW x);split at hx
  .rename_i kk i hi;have ei:=VR.MK (hi ▸ AW ix);split at hx
   .rename_i BX;have BX:i+1<=n:=Al BX;cases hx;have ED:off=l.base+k:=by
     rcases Lt with⟨_,e,ho⟩|⟨_,_,_,ho⟩;.exact ho om
     .exact ho om
    refine .same (AQ:= .pointer (some ⟨l.cb,l.base+(k+i*s),none⟩)) hr ?_ (.ptr BY);have h1:i<n:=om;simp[execOp,ho,Instr.indexAt,asIntOf,ea,ei,Ah hE hu,(Cr hE hs w).1,Ds,fU,h1,ED]
   .cases hx
  .cases hx
 .cases hx
theorem ag0(hE:DG P E){t:TypeId}{x ix:Operand}(hu:DU E t=some .string)(ho:o.op= .index t x ix)(hx:exec (.pR (BK x) (BK ix)) h tm= .val v AA):GE E w0 AC w h ((execOp BQ o).run P w) v AA:=by
 simp only[exec]at hx;split at hx
 .rename_i l hb;obtain⟨s,ea,hc⟩:=VR.aY (hb ▸ AW x);split at hx
  .rename_i kk j hj;have ei:=VR.MK (hj ▸ AW ix);split at hx
   .rename_i u hg;cases hx;rw[<-hc,GD,UY]at hg
    cases hs:s.data[j]? with
    |none=>rw[hs]at hg;cases hg
    |some b=>rw[hs]at hg;simp only[KR,DB]at hg;subst hg;have hsb:s[j]?=some b:=(by obtain⟨h1,h2⟩:=fY.1 hs;have h3:j<s.size:=h1;rw[getElem?_pos s j h3];exact HT some h2);refine .same (AQ:= .int .u8 b.toNat) hr ?_ (.int _ _);simp[execOp,ho,Instr.index,asIntOf,ea,ei,Ah hE hu,hsb]
   .cases hx
  .cases hx
 .cases hx
theorem agh(hE:DG P E){xt t:TypeId}{d:TypeDesc}{z:AV}{ok:Bool}{x:Operand}(hu:DU E t=some d)(hd:∀ms,d≠ .interface ms)(hz:Pq E t=some z)(ho:o.op= .typeAssert x xt t ok)(hx:exec (.jG (BK x) t z ok) h tm= .val v AA):GE E w0 AC w h ((execOp BQ o).run P w) v AA:=by
 obtain⟨Yq,z1,z2⟩:=Q9 hE hz w;simp only[exec]at hx;split at hx
 .rename_i u y hb;obtain⟨GM,ea,hy⟩:=VR.lr (hb ▸ AW x);split at hx
  .rename_i dx;have dx:u=t:=As dx;subst dx;cases hx
   cases ok with
   |true=>refine .same (AQ:= .tuple #[GM,.bool true]) hr ?_ (.BM (.cons hy (.cons (.bool _) .nil)));exact xc
   |false=>refine .same (AQ:=GM) hr ?_ hy;exact xc
  .rename_i dx;have dx:u≠t:=Em dx
   cases ok with
   |true=>
    cases hx;refine .same (AQ:= .tuple #[Yq,.bool false]) hr ?_ (.BM (.cons (z2 AC) (.cons (.bool _) .nil)));simp only[execOp,ho,Instr.typeAssert,EH,Ah hE hu,EO,ea]
    cases d<;>first|(simp[dx,z1];done)|exact absurd rfl (hd _)
   |false=>cases hx
 .rename_i hb;have ea:=VR.ma (hb ▸ AW x)
  cases ok with
  |true=>
   cases hx;refine .same (AQ:= .tuple #[Yq,.bool false]) hr ?_ (.BM (.cons (z2 AC) (.cons (.bool _) .nil)));simp only[execOp,ho,Instr.typeAssert,EH,Ah hE hu,EO,ea]
   cases d<;>first|(simp[z1];done)|exact absurd rfl (hd _)
  |false=>cases hx
 .cases hx
end
section arith
variable (P:Program)(w:World)
theorem J6(k:IntKind)(n:Int):(BitVec.ofInt k.bits n).toNat=MM k n:=by
 have h:((2^k.bits:Nat):Int)=(2:Int)^k.bits:=by simp
 rw[BitVec.toNat_ofInt,h,<-aeu];simp
theorem Amf(k:IntKind)(a b:Int):(BitVec.ofInt k.bits a&&&BitVec.ofInt k.bits b).toNat=Nat.land (MM k a) (MM k b):=by rw[BitVec.toNat_and,J6,J6];rfl
theorem Avg(k:IntKind)(a b:Int):(BitVec.ofInt k.bits a |||BitVec.ofInt k.bits b).toNat=Nat.lor (MM k a) (MM k b):=by rw[BitVec.toNat_or,J6,J6];rfl
theorem Amg(k:IntKind)(a b:Int):(BitVec.ofInt k.bits a^^^BitVec.ofInt k.bits b).toNat=Nat.xor (MM k a) (MM k b):=by rw[BitVec.toNat_xor,J6,J6];rfl
theorem wZ(k:IntKind)(b:Int):(~~~BitVec.ofInt k.bits b).toNat=Nat.sub (Nat.sub (pw k) 1) (MM k b):=by rw[BitVec.toNat_not,J6,<-vq];rfl
theorem an4(k:IntKind)(a b:Int):(BitVec.ofInt k.bits a&&& ~~~BitVec.ofInt k.bits b).toNat=Nat.land (MM k a) (Nat.sub (Nat.sub (pw k) 1) (MM k b)):=by rw[BitVec.toNat_and,J6,wZ];rfl
theorem K5(a b:Int):TO a b=(a==b):=by rw[F4];by_cases h:a=b<;>simp[h]
theorem Add(a b:Int):(not (TO a b))=(a !=b):=by rw[K5];rfl
theorem aey(a b:Int):(not (ZL b a))=decide (a<=b):=by
 rw[H4];by_cases h:a<=b
 .have:¬b<a:=om
  simp[h,this]
 .have:b<a:=om
  simp[h,this]
theorem Rd(n:Nat):¬((n:Int)<0):=om
theorem Aiz{t:TypeId}{op:BinOp}{k j:IntKind}{a b:Int}{v:AV}(h:E6 op k a j b=some v):∃AQ,(binOp op t (.int k a) (.int j b)).run P w= .ok AQ w/\∀AC,VR AC v AQ:=by
 cases op<;>simp only[E6]at h
 case shl=>
  split at h
  .rename_i n;cases h;refine⟨.int k (k.wrap (a*2^(min n k.bits))),?_,λAC=>?_⟩;.simp[binOp,Op.shift,Rd]
   .rw[G5,K1,acg];have:Int.mul a (Int.ofNat (Nat.pow 2 (min n k.bits)))=a*2^(min n k.bits):=(by show a*((2^(min n k.bits):Nat):Int)=_;simp);rw[this];exact .int _ _
  .cases h
 case shr=>
  split at h
  .rename_i n;cases h;refine⟨.int k (a.fdiv (2^(min n k.bits))),?_,λAC=>?_⟩;.simp[binOp,Op.shift,Rd]
   .rw[K1,acg];have:Int.ofNat (Nat.pow 2 (min n k.bits))=2^(min n k.bits):=(by show((2^(min n k.bits):Nat):Int)=_;simp);rw[this];exact .int _ _
  .cases h
 case quo=>
  split at h
  .rename_i hk;have hk:=Bp hk;subst hk;split at h;.cases h
   .rename_i hz;have hz:¬b=0:=(by rw[F4]at hz;simpa using hz);cases h;exact⟨.int k (k.wrap (a.tdiv b)),by simp[binOp,Op.intDiv,hz],λAC=>by rw[G5];exact .int _ _⟩
  .cases h
 case rem=>
  split at h
  .rename_i hk;have hk:=Bp hk;subst hk;split at h;.cases h
   .rename_i hz;have hz:¬b=0:=(by rw[F4]at hz;simpa using hz);cases h;exact⟨.int k (a.tmod b),by simp[binOp,Op.intDiv,hz],λAC=> .int _ _⟩
  .cases h
 case add=>
  split at h;.rename_i hk;have hk:=Bp hk;subst hk;cases h;exact⟨.int k (k.wrap (a+b)),by simp[binOp,Op.intArith],λAC=>by rw[G5];exact .int _ _⟩
  .cases h
 case sub=>
  split at h;.rename_i hk;have hk:=Bp hk;subst hk;cases h;exact⟨.int k (k.wrap (a- b)),by simp[binOp,Op.intArith],λAC=>by rw[G5];exact .int _ _⟩
  .cases h
 case mul=>
  split at h;.rename_i hk;have hk:=Bp hk;subst hk;cases h;exact⟨.int k (k.wrap (a*b)),by simp[binOp,Op.intArith],λAC=>by rw[G5];exact .int _ _⟩
  .cases h
 case and=>
  split at h;.rename_i hk;have hk:=Bp hk;subst hk;cases h;exact⟨.int k (k.wrap ((BitVec.ofInt k.bits a&&&BitVec.ofInt k.bits b).toNat)),by simp[binOp,Op.intBits],λAC=>by rw[G5,Amf];exact .int _ _⟩
  .cases h
 case or=>
  split at h;.rename_i hk;have hk:=Bp hk;subst hk;cases h;exact⟨.int k (k.wrap ((BitVec.ofInt k.bits a |||BitVec.ofInt k.bits b).toNat)),by simp[binOp,Op.intBits],λAC=>by rw[G5,Avg];exact .int _ _⟩
  .cases h
 case xor=>
  split at h;.rename_i hk;have hk:=Bp hk;subst hk;cases h;exact⟨.int k (k.wrap ((BitVec.ofInt k.bits a^^^BitVec.ofInt k.bits b).toNat)),by simp[binOp,Op.intBits],λAC=>by rw[G5,Amg];exact .int _ _⟩
  .cases h
 case andNot=>
  split at h;.rename_i hk;have hk:=Bp hk;subst hk;cases h;exact⟨.int k (k.wrap ((BitVec.ofInt k.bits a&&& ~~~BitVec.ofInt k.bits b).toNat)),by simp[binOp,Op.intBits],λAC=>by rw[G5,an4];exact .int _ _⟩
  .cases h
 case eql=>
  split at h;.rename_i hk;have hk:=Bp hk;subst hk;cases h;exact⟨.bool (a==b),by simp[binOp,Op.intCmp],λAC=>by rw[K5];exact .bool _⟩
  .cases h
 case neq=>
  split at h;.rename_i hk;have hk:=Bp hk;subst hk;cases h;exact⟨.bool (a !=b),by simp[binOp,Op.intCmp],λAC=>by rw[Add];exact .bool _⟩
  .cases h
 case lss=>
  split at h;.rename_i hk;have hk:=Bp hk;subst hk;cases h;exact⟨.bool (decide (a<b)),by simp[binOp,Op.intCmp],λAC=>by rw[H4];exact .bool _⟩
  .cases h
 case leq=>
  split at h;.rename_i hk;have hk:=Bp hk;subst hk;cases h;exact⟨.bool (decide (a<=b)),by simp[binOp,Op.intCmp],λAC=>by rw[aey];exact .bool _⟩
  .cases h
 case gtr=>
  split at h;.rename_i hk;have hk:=Bp hk;subst hk;cases h;exact⟨.bool (decide (b<a)),by simp[binOp,Op.intCmp],λAC=>by rw[H4];exact .bool _⟩
  .cases h
 case geq=>
  split at h;.rename_i hk;have hk:=Bp hk;subst hk;cases h;exact⟨.bool (decide (b<=a)),by simp[binOp,Op.intCmp],λAC=>by rw[aey];exact .bool _⟩
  .cases h
end arith
theorem Mw{a b:ByteArray}{s t:List Nat}(ha:a.data.toList.map (·.toNat)=s)(hb:b.data.toList.map (·.toNat)=t):(a.toList==b.toList)=Oa s t:=by
 rw[K2,ByteArray.toList_eq,ByteArray.toList_eq,<-ha,<-hb];have:(a.data.toList.map (·.toNat)=b.data.toList.map (·.toNat))↔a.data.toList=b.data.toList:=⟨λh=>List.map_inj_right (λx y h=>UInt8.toNat_inj.1 h) |>.1 h,λh=>by rw[h]⟩;by_cases h:a.data.toList=b.data.toList;.rw[CM (this.2 h),h];simp
 .rw[CW (λe=>h (this.1 e))]
  cases hq:(a.data.toList==b.data.toList)with
  |false=>rfl
  |true=>exact absurd (eq_of_beq hq) h
section
variable {P:Program}{E:Env}(hE:DG P E){AC:BF}{w:World}
include hE
theorem wp{t:TypeId}{off n:Nat}{xs:List AV}{cs:Array Value}{a:AV}(hs:vn E t=some n)(hx:CQ AC xs cs.toList)(hg:nv xs off n=some a):∃v,(part t cs off).run P w= .ok v w/\VR AC a v:=by
 unfold vn at hs;split at hs;.rename_i ha;obtain⟨h1,h2⟩:=Cr hE hs w;obtain⟨m,rfl⟩:∃m,n=m+1:=⟨n- 1,om⟩;simp only[nv,DB]at hg;subst hg;exact⟨.agg (cs.extract off (off+(m+1))),by simp[part,Hp hE ha,h1],.agg (aky hx _ _)⟩
 .rename_i ha;cases hs;simp only[nv]at hg;obtain⟨v,h1,h2⟩:=hx.get hg;rw[UY]at h1;exact⟨v,by simp[part,Hp hE ha,h1],h2⟩
 .cases hs
theorem Pv{d D n:Nat}(ih:∀(t:TypeId) (x y:AV) (Cb GM:Value) (b:Bool),eqv n (Ay E d t) x y=some b->VR AC x Cb->VR AC y GM->(Op.equalIn D t Cb GM).run P w= .ok b w){xs ys:List AV}{cs IC:Array Value}(hx:CQ AC xs cs.toList)(hy:CQ AC ys IC.toList):∀(fs:List Field) (l:List (Nat×Nat×Sh)) (b:Bool),fs.mapM (Hm E (Ay E d))=some l->Kx (eqv n) xs ys l=some b->(Op.eqFields D cs IC fs).run P w= .ok b w
 | [],l,b,hl,he=>by simp at hl;subst hl;simp only[Kx,DB]at he;subst he;rfl
 |f::fs,l,b,hl,he=>by
  rw[nN]at hl
  cases h1:Hm E (Ay E d) f with
  |none=>rw[h1]at hl;simp at hl
  |some q=>
   rw[h1]at hl
   cases h2:fs.mapM (Hm E (Ay E d))with
   |none=>rw[h2]at hl;simp at hl
   |some r=>
    rw[h2]at hl;simp at hl;subst hl;unfold Hm at h1;split at h1;.cases h1
    .rename_i hn;have hn:f.name≠ "_" :=by simpa using hn
     split at h1
     .rename_i m hm;cases h1;simp only[Kx]at he;split at he
      .rename_i a c ha hc;obtain⟨va,a1,a2⟩:=wp hE (w:=w) hm hx ha;obtain⟨vc,c1,c2⟩:=wp hE (w:=w) hm hy hc
       cases hq:eqv n (Ay E d f.type) a c with
       |none=>rw[hq]at he;simp at he
       |some q=>
        rw[hq]at he;have e1:=ih _ _ _ _ _ _ hq a2 c2;rw[Op.eqFields,AP hn];simp only[EH,a1,c1,e1,EO]
        cases q with
        |true=>simp only[Bool.not_true,RR,KS];exact Pv ih hx hy fs r b h2 he
        |false=>cases he;rfl
      .cases he
     .cases h1
theorem Vw:∀(d:Nat) (t:TypeId) (n D:Nat) (x y:AV) (Cb GM:Value) (b:Bool),d<=D->eqv n (Ay E d t) x y=some b->VR AC x Cb->VR AC y GM->(Op.equalIn D t Cb GM).run P w= .ok b w
 |0,t,n,D,x,y,Cb,GM,b,_,h,_,_=>by cases n<;>simp[Ay,eqv]at h
 |d+1,t,n,D,x,y,Cb,GM,b,hd,h,hx,hy=>by
  cases n with
  |zero=>simp[eqv]at h
  |succ n=>
   obtain⟨D,rfl⟩:∃k,D=k+1:=⟨D- 1,om⟩;unfold Ay at h;split at h
   .rename_i hu;simp only[eqv]at h
    cases x with
    |bool a=>cases y with
     |bool c=>
      simp only[Jy,DB]at h;subst h;rw[hx.YF,hy.YF,run_equalIn_bool' w D t _ _ (I1 hE hu),Z7]
      cases a<;>cases c<;>rfl
     |_=>simp[Jy]at h
    |_=>simp[Jy]at h
   .rename_i k hu;simp only[eqv]at h
    cases x with
    |int k a=>cases y with
     |int j c=>
      simp only[Hl]at h;split at h;.rename_i hk;have hk:=Bp hk;subst hk;cases h;rw[hx.MK,hy.MK,run_equalIn_int w D t _ _ _ _ (I1 hE hu),K5]
      .cases h
     |_=>simp[Hl]at h
    |_=>simp[Hl]at h
   .rename_i hu;simp only[eqv]at h
    cases x with
    |str a=>cases y with
     |str c=>simp only[Po,DB]at h;subst h;obtain⟨a,e1,h1⟩:=hx.aY;obtain⟨c,e2,h2⟩:=hy.aY;rw[e1,e2,run_equalIn_string w D t _ _ (I1 hE hu),Mw h1 h2]
     |_=>simp[Po]at h
    |_=>simp[Po]at h
   .rename_i e hu;split at h
    .rename_i m hm;obtain⟨s1,s2⟩:=Cr hE hm w;simp only[eqv]at h
     cases x with
     |M7=>
      rw[hx.vG]
      cases y with
      |M7=>simp only[Jp,DB]at h;subst h;rw[hy.vG];simp[Op.equalIn,Ah hE hu]
      |ptr c o=>simp only[Jp,DB]at h;subst h;obtain⟨l,_,e⟩:=hy.US;rw[e];simp[Op.equalIn,Ah hE hu]
      |_=>simp[Jp]at h
     |ptr c o=>
      obtain⟨l,hl,e1⟩:=hx.US;rw[e1]
      cases y with
      |M7=>simp only[Jp,DB]at h;subst h;rw[hy.vG];simp[Op.equalIn,Ah hE hu]
      |ptr BP EG=>
       simp only[Jp]at h;obtain⟨AT,hl',e2⟩:=hy.US;rw[e2];split at h
       .rename_i hb;have hb:=As hb;subst hb;rw[hl]at hl';cases hl';cases h;simp only[Op.equalIn,EH,Ah hE hu,EO,s1,ne_eq,s2,not_false_eq_true,WN,sameAddr,beq_self_eq_true];simp only[IH];congr 1;by_cases ho:o=EG;.subst ho;simp
        .have:Nat.beq o EG=false:=by
          cases hq:Nat.beq o EG with
          |false=>rfl
          |true=>exact absurd (As hq) ho
         rw[this];simp[ho]
       .cases h
      |_=>simp[Jp]at h
     |_=>simp[Jp]at h
    .simp[eqv]at h
   .rename_i ms hu;simp only[eqv]at h
    cases x with
    |Cm u a=>
     obtain⟨u,e1,_⟩:=hx.lr;rw[e1]
     cases y with
     |IX=>simp only[Ly,DB]at h;subst h;rw[hy.ma];simp[Op.equalIn,Ah hE hu]
     |_=>simp[Ly]at h
    |IX=>
     rw[hx.ma]
     cases y with
     |Cm u a=>simp only[Ly,DB]at h;subst h;obtain⟨u,e1,_⟩:=hy.lr;rw[e1];simp[Op.equalIn,Ah hE hu]
     |_=>simp[Ly]at h
    |_=>simp[Ly]at h
   .rename_i fs hu;split at h;.simp[eqv]at h
    .rename_i hm;split at h
     .rename_i l hl;simp only[eqv]at h
      cases x with
      |agg xs=>cases y with
       |agg ys=>simp only[]at h;obtain⟨cs,e1,h1⟩:=hx.bF;obtain⟨IC,e2,h2⟩:=hy.bF;rw[e1,e2];have CK:P.fieldsOf t=fs:=(by unfold Program.fieldsOf;rw[I1 hE hu]);rw[run_equalIn_struct w D t cs IC (by rw[CK];exact I1 hE hu) (hE.aem t ((Ii _ _).1 hm)).1,CK];exact Pv hE (λt x y Cb GM b h hx hy=>Vw d t n D x y Cb GM b om h hx hy) h1 h2 fs.toList l b hl h
       |_=>simp at h
      |_=>simp at h
     .simp[eqv]at h
   .rename_i e hu;simp only[eqv]at h
    cases x with
    |AS=>
     rw[hx.Yi]
     cases y with
     |AS=>simp only[Gz,DB]at h;subst h;rw[hy.Yi];simp[Op.equalIn,Ah hE hu]
     |AE _ _ _ _=>simp only[Gz,DB]at h;subst h;obtain⟨l,off,BP,_,e2,_,_⟩:=hy.XR;rw[e2];simp[Op.equalIn,Ah hE hu]
     |_=>simp[Gz]at h
    |AE _ _ _ _=>
     obtain⟨l,off,BP,_,e2,_,_⟩:=hx.XR;rw[e2]
     cases y with
     |AS=>simp only[Gz,DB]at h;subst h;rw[hy.Yi];simp[Op.equalIn,Ah hE hu]
     |_=>simp[Gz]at h
    |_=>simp[Gz]at h
   .rename_i k e hu;simp only[eqv]at h
    cases x with
    |OS=>
     rw[hx.iZ]
     cases y with
     |OS=>simp only[G1,DB]at h;subst h;rw[hy.iZ];simp[Op.equalIn,Ah hE hu]
     |map _=>simp only[G1,DB]at h;subst h;obtain⟨l,_,e2⟩:=hy.aS;rw[e2];simp[Op.equalIn,Ah hE hu]
     |_=>simp[G1]at h
    |map _=>
     obtain⟨l,_,e2⟩:=hx.aS;rw[e2]
     cases y with
     |OS=>simp only[G1,DB]at h;subst h;rw[hy.iZ];simp[Op.equalIn,Ah hE hu]
     |_=>simp[G1]at h
    |_=>simp[G1]at h
   .rename_i ps rs vv hu;simp only[eqv]at h
    cases x with
    |PK=>
     rw[hx.vF]
     cases y with
     |PK=>simp only[E8,DB]at h;subst h;rw[hy.vF];simp[Op.equalIn,Ah hE hu]
     |fn f a c=>
      cases f with
      |func f=>simp only[E8,DB]at h;subst h;obtain⟨BC,BP,e2,_,_⟩:=hy.gM;rw[e2];simp[Op.equalIn,Ah hE hu]
      |yield l=>simp[E8]at h
     |_=>simp[E8]at h
    |fn f a c=>
     cases f with
     |func f=>
      obtain⟨BC,BP,e2,_,_⟩:=hx.gM;rw[e2]
      cases y with
      |PK=>simp only[E8,DB]at h;subst h;rw[hy.vF];simp[Op.equalIn,Ah hE hu]
      |_=>simp[E8]at h
     |yield l=>simp[E8]at h
    |_=>simp[E8]at h
   .simp[eqv]at h
end
section
variable {P:Program}{E:Env}{w0:Array Obj}{AC:BF}{h AA:H}{w:World}{tm:T AV}{BQ:Operand->Value}{o:Oper}{v:AV}
variable (hr:HR E w0 AC h w.heap)(AW:R0 AC tm BQ)
include hr AW
omit hr AW
theorem J7(op:BinOp)(t:TypeId)(x y:Operand)(a b:Value)(h1:a≠ .nilIface\/b≠ .nilIface)(h2:(∀c,a≠ .agg c)\/(∀c,b≠ .agg c)):(eqGuard op t x y a b).run P w= .ok () w:=by
 unfold eqGuard
 cases op<;>first|rfl|skip
 all_goals
  simp only[Bool.not_true,RR,KS];split;.rcases h1 with h1|h1<;>exact absurd rfl h1
  .rcases h2 with h2|h2<;>exact absurd rfl (h2 _)
  .rfl
theorem agi(op:BinOp)(t:TypeId)(x y:Operand)(hc:(VZ x ||VZ y)=true)(a b:Value)(ha:a= .nilIface)(hb:b= .nilIface):(eqGuard op t x y a b).run P w= .ok () w:=by
 subst ha;subst hb;unfold eqGuard
 cases op<;>first|rfl|skip
 all_goals
  simp only[Bool.not_true,RR,KS]
  cases x<;>cases y<;>simp[VZ]at hc ⊢
def Oh(v:Value):Bool:=
 match v with
 | .int _ _=>false
 | .float _ _=>false
 | .complex _ _ _=>false
 | .string _=>false
 |_=>true
theorem akz(t:TypeId)(x y:Value)(hp:Oh x=true):binOp .eql t x y=(do pure (.bool (<-Op.equal t x y)):Sem Value):=by
 cases x<;>first|rfl|(simp[Oh]at hp)
theorem ak0(t:TypeId)(x y:Value)(hp:Oh x=true):binOp .neq t x y=(do pure (.bool (!(<-Op.equal t x y))):Sem Value):=by
 cases x<;>first|rfl|(simp[Oh]at hp)
def kn(v:AV):Bool:=
 match v with
 | .HZ _=>false
 | .FK=>false
 |_=>true
theorem Amh{f:AV->AV->Option Bool}(h1:∀v y,f (.HZ v) y=none)(h2:∀y,f .FK y=none)(h3:∀x v,f x (.HZ v)=none)(h4:∀x,f x .FK=none){a b:AV}{q:Bool}(h:f a b=some q):kn a=true/\kn b=true:=by
 constructor
 .cases a with
  |HZ v=>rw[h1]at h;cases h
  |FK=>rw[h2]at h;cases h
  |_=>rfl
 .cases b with
  |HZ v=>rw[h3]at h;cases h
  |FK=>rw[h4]at h;cases h
  |_=>rfl
theorem aez{n:Nat}{sh:Sh}{a b:AV}{q:Bool}(h:eqv n sh a b=some q):kn a=true/\kn b=true:=by
 cases n with
 |zero=>simp[eqv]at h
 |succ n=>
  refine Amh (f:=eqv (n+1) sh) ?_ ?_ ?_ ?_ h;.intro v y;cases sh<;>rfl
  .intro y;cases sh<;>rfl
  .intro x v
   cases sh with
   |bad=>rfl
   |qW=>cases x with|fn f _ _=>cases f<;>rfl|_=>rfl
   |_=>cases x<;>rfl
  .intro x
   cases sh with
   |bad=>rfl
   |qW=>cases x with|fn f _ _=>cases f<;>rfl|_=>rfl
   |_=>cases x<;>rfl
theorem xd{a:AV}{AQ:Value}(h:VR AC a AQ)(hk:kn a=true):(a≠ .IX->AQ≠ .nilIface)/\((∀l,a≠ .agg l)->∀c,AQ≠ .agg c)/\((∀k n,a≠ .int k n)->(∀s,a≠ .str s)->Oh AQ=true):=by
 cases h with
 |HZ _=>simp[kn]at hk
 |FK _=>simp[kn]at hk
 |IX=>exact⟨λe=>absurd rfl e,λ_ c e=>YV,λ_ _=>rfl⟩
 |agg _=>exact⟨λ_ e=>YV,λe=>absurd rfl (e _),λ_ _=>rfl⟩
 |int _ _=>exact⟨λ_ e=>YV,λ_ c e=>YV,λe=>absurd rfl (e _ _)⟩
 |str _=>exact⟨λ_ e=>YV,λ_ c e=>YV,λ_ e=>absurd rfl (e _)⟩
 |_=>exact⟨λ_ e=>YV,λ_ c e=>YV,λ_ _=>rfl⟩
theorem am(hE:DG P E){t:TypeId}{ms:Array (String×TypeId)}(hu:DU E t=some (.interface ms)):(Op.equal t .nilIface .nilIface).run P w= .ok true w:=by
 have:∀D,(Op.equalIn (D+1) t .nilIface .nilIface).run P w= .ok true w:=λD=>by simp[Op.equalIn,Ah hE hu]
 exact this 9999
theorem agj{d:Nat}{t:TypeId}(h:Ay E d t= .iface):∃ms,DU E t=some (.interface ms):=by
 cases d with
 |zero=>simp[Ay]at h
 |succ d=>
  unfold Ay at h;split at h<;>first|(cases h;done)|skip
  .split at h<;>cases h
  .rename_i ms hu;exact⟨ms,hu⟩
  .split at h;.cases h
   .split at h<;>cases h
theorem akg{d n:Nat}{t:TypeId}{xs ys:List AV}{q:Bool}(h:eqv n (Ay E d t) (.agg xs) (.agg ys)=some q):t∈E.S:=by
 cases n with
 |zero=>simp[eqv]at h
 |succ n=>
  cases d with
  |zero=>simp[Ay,eqv]at h
  |succ d=>
   unfold Ay at h;split at h<;>first|(simp[eqv,Jy,Hl,Po,Ly,Gz,G1,E8]at h;done)|skip
   .split at h<;>simp[eqv,Jp]at h
   .split at h;.simp[eqv]at h
    .rename_i hm;exact(Ii _ _).1 hm
theorem ag2{d n:Nat}{t:TypeId}{q:Bool}(h:eqv n (Ay E d t) .IX .IX=some q):False:=by
 have:∀sh:Sh,eqv n sh .IX .IX=none:=by
  intro sh
  cases n with
  |zero=>rfl
  |succ n=>cases sh<;>rfl
 rw[this]at h;cases h
theorem T6(hE:DG P E){op:BinOp}{t:TypeId}{x y:Operand}{a b:AV}{xv yv:Value}{q:Bool}(hq:ij (Ay E 5 t) (VZ x ||VZ y) a b=some q)(ZI:VR AC a xv)(ZJ:VR AC b yv):(eqGuard op t x y xv yv).run P w= .ok () w/\(Op.equal t xv yv).run P w= .ok q w/\((∀k n,a≠ .int k n)->(∀s,a≠ .str s)->Oh xv=true):=by
 unfold ij at hq;split at hq
 .rename_i hn;cases hq;unfold acf at hn;split at hn
  .rename_i NW;split at hn;.rename_i hc;have e1:=ZI.ma;have e2:=ZJ.ma;obtain⟨ms,hui⟩:=agj NW;refine⟨agi op t x y hc _ _ e1 e2,?_,λ_ _=>by rw[e1];rfl⟩;rw[e1,e2];exact am hE hui
   .cases hn
  .cases hn
 .obtain⟨k1,k2⟩:=aez hq;obtain⟨p1,p2,p3⟩:=xd ZI k1;obtain⟨q1,q2,_⟩:=xd ZJ k2;refine⟨?_,Vw hE 5 t 20 10000 a b _ _ q PI hq ZI ZJ,p3⟩;by_cases aB:∃xs ys,a= .agg xs/\b= .agg ys;.obtain⟨xs,ys,rfl,rfl⟩:=aB;obtain⟨cs,e1,_⟩:=ZI.bF;obtain⟨IC,e2,_⟩:=ZJ.bF;rw[e1,e2];exact run_eqGuard_agg w op t x y cs IC (hE.aem t (akg hq)).2
  .refine J7 op t x y _ _ ?_ ?_
   .by_cases hn:a= .IX
    .by_cases hm:b= .IX;.subst hn;subst hm;exact absurd hq (λh=>ag2 h)
     .exact .inr (q1 hm)
    .exact .inl (p1 hn)
   .by_cases hn:∃xs,a= .agg xs;.obtain⟨xs,rfl⟩:=hn;exact .inr (q2 λl e=>aB ⟨xs,l,rfl,e⟩)
    .exact .inl (p2 λl e=>hn ⟨l,e⟩)
include hr AW
theorem Ade(hE:DG P E){op:BinOp}{t ae9:TypeId}{x y:Operand}(ho:o.op= .binOp op t x y ae9)(hx:exec (.bin op (BK x) (BK y) (VZ x ||VZ y) (Ay E 5 t)) h tm= .val v AA):GE E w0 AC w h ((execOp BQ o).run P w) v AA:=by
 simp only[exec]at hx;generalize uQ:ev tm (BK x)=a at hx;generalize hyv:ev tm (BK y)=b at hx;have ZI:=AW x;have ZJ:=AW y;rw[uQ]at ZI;rw[hyv]at ZJ
 cases RG:Hk op (Ay E 5 t) (VZ x ||VZ y) a b with
 |none=>rw[RG]at hx;simp[vo]at hx
 |some u=>
  rw[RG]at hx;simp only[vo,R.val.injEq]at hx;obtain⟨rfl,rfl⟩:=hx;have key:∃AQ,(eqGuard op t x y (BQ x) (BQ y)).run P w= .ok () w/\(binOp op t (BQ x) (BQ y)).run P w= .ok AQ w/\VR AC u AQ:=by
   by_cases hint:∃k n,a= .int k n
   .obtain⟨k,n,rfl⟩:=hint
    cases b with
    |int j m=>simp only[Hk]at RG;obtain⟨AQ,h1,h2⟩:=Aiz P w (t:=t) RG;rw[ZI.MK,ZJ.MK];exact⟨AQ,J7 _ _ _ _ _ _ (.inl W0) (.inl W0),h1,h2 AC⟩
    |_=>simp[Hk]at RG
   .by_cases uF:∃s,a= .str s
    .obtain⟨s,rfl⟩:=uF;obtain⟨sa,e1,h1⟩:=ZI.aY
     cases b with
     |str EU=>
      obtain⟨sb,e2,h2⟩:=ZJ.aY;simp only[Hk]at RG;rw[e1,e2];suffices hs:∃AQ,(binOp op t (.string sa) (.string sb)).run P w= .ok AQ w/\VR AC u AQ by obtain⟨AQ,p1,p2⟩:=hs;exact⟨AQ,J7 _ _ _ _ _ _ (.inl W0) (.inl W0),p1,p2⟩
      cases op with
      |add=>
       simp only[T3]at RG;split at RG
       .rename_i hle;have hle:s.length+EU.length<=1099511627776:=Al hle;cases RG;have l1:sa.size=s.length:=(by rw[<-h1,DC,WP];rfl);have l2:sb.size=EU.length:=(by rw[<-h2,DC,WP];rfl);refine⟨.string (sa++sb),?_,.str ?_⟩
        .simp only[binOp,Op.stringOp];rw[AM];.rfl
         .have:IntKind.i64.max=9223372036854775807:=PI;rw[this,l1,l2];omega
        .show(sa++sb).data.toList.map _=s++EU;rw[<-h1,<-h2,<-IG,ByteArray.data_append,jM]
       .cases RG
      |eql=>simp only[T3,DB]at RG;subst RG;exact⟨.bool (sa.toList==sb.toList),by simp only[binOp,Op.stringOp];rfl,by rw[Mw h1 h2];exact .bool _⟩
      |neq=>simp only[T3,DB]at RG;subst RG;exact⟨.bool (!(sa.toList==sb.toList)),by simp only[binOp,Op.stringOp];rfl,by rw[Mw h1 h2];exact .bool _⟩
      |_=>simp[T3]at RG
     |_=>simp[Hk]at RG
    .have hb:Xm op (Ay E 5 t) (VZ x ||VZ y) a b=some u:=by
      cases a<;>first
       |exact absurd ⟨_,_,rfl⟩ hint
       |exact absurd ⟨_,rfl⟩ uF
       |exact RG
     have hi:∀k n,a≠ .int k n:=λk n e=>hint ⟨k,n,e⟩;have hs:∀s,a≠ .str s:=λs e=>uF ⟨s,e⟩
     cases op with
     |eql=>
      simp only[Xm]at hb;split at hb;.rename_i q hq;cases hb;obtain⟨g1,g2,g3⟩:=T6 (w:=w) (op:= .eql) hE hq ZI ZJ;exact⟨.bool q,g1,by rw[akz _ _ _ (g3 hi hs),EH,g2];rfl,.bool _⟩
      .cases hb
     |neq=>
      simp only[Xm]at hb;split at hb;.rename_i q hq;cases hb;obtain⟨g1,g2,g3⟩:=T6 (w:=w) (op:= .neq) hE hq ZI ZJ;exact⟨.bool (not q),g1,by rw[ak0 _ _ _ (g3 hi hs),EH,g2];rfl,.bool _⟩
      .cases hb
     |_=>simp[Xm]at hb
  obtain⟨AQ,h1,h2,h3⟩:=key;refine .same hr ?_ h3;simp only[execOp,ho,EH,h1,h2,EO,IH]
end
theorem zq3{p:Prop}(h:p:=by
 have t1:¬((cn:Int)<0):=om
 have t2:¬((i.bytes:Int)*(cn:Int)>2^48):=by
  have:((cn*i.bytes:Nat):Int)<=281474976710656:=om
  rw[jR,Int.mul_comm]at this
  omega
 have t3:¬((ln:Int)<0):=om
 have t4:¬((ln:Int)>(cn:Int)):=om
 simp only[execOp,ho,Instr.makeSlice,EH,Ah hE hu,EO,el,ec,asInt,asIntOf,IH,Ea hE z1,YU ln om,YU cn h3]
 have KD:IntKind.i64.wrap (Int.ofNat cn)=(cn:Int):=YU cn h3
 have RJ:IntKind.i64.wrap (Int.ofNat ln)=(ln:Int):=YU ln om
 have gV:(decide ((cn:Int)<0) ||decide ((i.bytes:Int)*(cn:Int)>2^48) ||decide ((ln:Int)<0) ||decide ((ln:Int)>(cn:Int)))=false:=by
  simp only[CW t1,CW t2,CW t3,CW t4,jX]
 simp only[KD,RJ,gV,RR,KS,EH,run_askRoom,s1,EO,FL]
 by_cases h0:cn*s=0
 .have hn:cn=0:=by rcases Nat.mul_eq_zero.1 h0 with h|h;exact h;exact absurd h s2
  rw[AP h0]
  simp only[EH,IH,EO]
  have hm:((Array.range (cn*s)).map λi=>(#[]:Array Value)[i%(#[]:Array Value).size]!)=((Array.range (cn*s)).map λi=>u.cells[i%u.cells.size]!):=by simp[h0]
  rw[hm]
  simp[newRow]
 .rw[AM h0]
  simp only[EH,z2,EO,IH]
  simp[newRow]):p:=h
theorem qu{p:Prop}(h:p:=by
 have h:(n:Int)%(2^IntKind.i64.bits:Int)=n:=Int.emod_eq_of_lt om (by simp[IntKind.bits];omega)
 unfold IntKind.wrap
 rw[h]
 have:¬((n:Int)≥2^(IntKind.i64.bits- 1)):=by simp[IntKind.bits];omega
 simp[IntKind.signed,this]):p:=h
section
variable {P:Program}{E:Env}{w0:Array Obj}{AC:BF}{h AA:H}{w:World}{tm:T AV}{BQ:Operand->Value}{o:Oper}{v:AV}
variable (hr:HR E w0 AC h w.heap)(AW:R0 AC tm BQ)
include hr AW
omit hr AW in
theorem Ai0(k:IntKind)(n:Int):(BitVec.ofInt k.bits (if k.signed then -1 else k.max)^^^BitVec.ofInt k.bits n).toNat=Nat.sub (Nat.sub (pw k) 1) (MM k n):=by
 have h:BitVec.ofInt k.bits (if k.signed then -1 else k.max)=BitVec.allOnes k.bits:=by cases k<;>decide
 rw[h,BitVec.allOnes_xor,wZ]
theorem Ai1{op:UnOp}{t:TypeId}{x:Operand}(ho:o.op= .unOp op t x)(hx:exec (.un op (BK x)) h tm= .val v AA):GE E w0 AC w h ((execOp BQ o).run P w) v AA:=by
 simp only[exec]at hx;split at hx
 .rename_i k n hb;have ea:=VR.MK (hb ▸ AW x);split at hx;.cases hx;refine .same (AQ:= .int k (k.wrap (0- n))) hr ?_ (by rw[G5];exact .int _ _);simp[execOp,ho,ea,Op.unary,Op.intArith]
  .cases hx;refine .same (AQ:= .int k (k.wrap ((BitVec.ofInt k.bits (if k.signed then -1 else k.max)^^^BitVec.ofInt k.bits n).toNat))) hr ?_ (by rw[G5,Ai0];exact .int _ _);simp[execOp,ho,ea,Op.unary,Op.intBits]
  .cases hx
 .rename_i b hb;have ea:=VR.YF (hb ▸ AW x);split at hx;.cases hx;exact .same (AQ:= .bool (not b)) hr (by simp[execOp,ho,ea,Op.unary]) (.bool _)
  .cases hx
 .cases hx
omit hr AW in
theorem Xu:∀{l:List AV} {vs:List Value} {s:List Nat},CQ AC l vs->Jz l=some s->vs=s.map (λn=> .int .u8 (n:Int))/\∀n∈s,n<=255
 | [],vs,s,hv,hb=>by cases hv;simp only[Jz,DB]at hb;subst hb;exact⟨rfl,by simp⟩
 |a::l,vs,s,hv,hb=>by
  cases hv with
  |cons ha hs=>
   simp only[Jz]at hb;split at hb
   .rename_i n;split at hb
    .rename_i r hle hr;cases hb;obtain⟨h1,h2⟩:=Xu hs hr;rw[ha.MK,h1];refine⟨rfl,λm hm=>?_⟩;rcases DD.1 hm with e|hm;.subst e;exact Al hle
     .exact h2 m hm
    .cases hb
   .cases hb
omit hr AW in
theorem T7:∀(s:List Nat) (acc:ByteArray),(∀n∈s,n<=255)->((s.map λ(m:Nat)=>(m:Int)).foldl (λ(r:ByteArray) (n:Int)=>r.push (UInt8.ofNat n.toNat)) acc).data.toList.map (·.toNat)=acc.data.toList.map (·.toNat)++s
 | [],acc,_=>by simp
 |n::s,acc,hs=>by
  rw[FU,fR,T7 s _ (λm hm=>hs m (Ck _ hm)),FL];have:(acc.push (UInt8.ofNat n)).data.toList=acc.data.toList++[UInt8.ofNat n]:=by show(acc.data.push _).toList=_;simp
  rw[this,IG,NP];have hn:(UInt8.ofNat n).toNat=n:=by have:=hs n (DW ..);simp;omega
  simp[hn]
theorem Adf(hE:DG P E){s d e:TypeId}{x:Operand}(hs:DU E s=some (.slice e))(hd:DU E d=some .string)(he:DU E e=some (.int .u8))(ho:o.op= .convert s d x)(hx:exec (.gF (BK x)) h tm= .val v AA):GE E w0 AC w h ((execOp BQ o).run P w) v AA:=by
 simp only[exec]at hx;split at hx;.rename_i hb;have ea:=VR.Yi (hb ▸ AW x);cases hx;refine .same (AQ:= .string .empty) hr ?_ (.str rfl);simp[execOp,ho,ea,convert,Ah hE hs,Ah hE hd,Ah hE he,Conv.bytesToString]
 .rename_i b k n cap hb;obtain⟨l,off,BP,BY,ea,hle,Lt⟩:=VR.XR (hb ▸ AW x);split at hx
  .rename_i xs hc;split at hx
   .rename_i bs ss;cases hx;obtain⟨vs,h1,h2,h3⟩:=hr.KM BY hc off (λhn=>by
     rcases Lt with⟨_,e,ho⟩|⟨_,_,_,ho⟩;.exact ho om
     .exact ho hn)
    obtain⟨h4,h5⟩:=Xu h2 ss;have tX:=Fa P h3;rw[h1,h4]at tX;have gx:(bs.map λ(n:Nat)=>Value.int .u8 (n:Int))=(bs.map λ(m:Nat)=>(m:Int)).map (Value.int .u8):=W0;rw[gx]at tX;have PZ:=run_bytesToString (P:=P) w ⟨l.cb,off,none⟩ n BP (bs.map λ(m:Nat)=>(m:Int)) tX;refine .same (AQ:= .string ((bs.map λ(m:Nat)=>(m:Int)).foldl (λ(r:ByteArray) (n:Int)=>r.push (UInt8.ofNat n.toNat)) ByteArray.empty)) hr ?_ (.str ?_);.simp only[execOp,ho,ea,EH,run_convert_bytes_string w s d e _ n BP (I1 hE hs) (I1 hE he) (I1 hE hd),PZ,EO,IH]
    .rw[T7 bs _ h5];rfl
   .cases hx
  .cases hx
 .cases hx
theorem agk(hE:DG P E){t e:TypeId}{s:Nat}{z:List AV}{lo c:Operand}(hu:DU E t=some (.slice e))(hs:Cw E e=some s)(hz:Ft E e=some z)(ho:o.op= .makeSlice t lo c)(hx:exec (.eP (Dq E e) z (BK lo) (BK c)) h tm= .val v AA):GE E w0 AC w h ((execOp BQ o).run P w) v AA:=by
 simp only[exec]at hx;split at hx
 .rename_i k1 ln hl;have el:=VR.MK (hl ▸ AW lo);split at hx
  .rename_i k2 cn hc;have ec:=VR.MK (hc ▸ AW c);split at hx
   .rename_i h1 h2 h3;have h1:ln<=cn:=Al h1;have h2:cn*Dq E e<=281474976710656:=Al h2;have h3:cn<=281474976710656:=Al h3;cases hx;obtain⟨u,i,z1,z2,z3,z4,z5⟩:=Dy hE hz w;obtain⟨s1,s2⟩:=Cr hE hs w;have hi:i.size=s:=by
     unfold Cw at hs;rw[z1]at hs;simp only at hs;split at hs;.simp at hs
     .simpa using hs
    have sw:Dq E e=i.bytes:=(by unfold Dq;rw[z1]);rw[sw]at h2;obtain⟨hle,HY⟩:=hr.NZ e (v8 (z5 AC) cn (cn*s) (by rw[z3,hi]));have YU:∀n:Nat,n<=281474976710656->IntKind.i64.wrap (n:Int)=n:=(by intro n hn;exact qu);refine⟨_,.slice (some ⟨w.heap.size,0,none⟩) ln cn,w.alloc (.cells ((Array.range (cn*s)).map λi=>u.cells[i%u.cells.size]!) e),⟨hle,λ_ hb=>BF.CB _ _ hb⟩,.inl ?_,?_,HY,⟨rfl,rfl,rfl⟩⟩;.exact zq3
    .have JT:cn<Aa:=(by unfold Aa;omega);have:=VR.WE (b:=h.n) (o:=0) (n:=ln) (c:=cn) (off:=0) (BF.NM AC h.n ⟨w.heap.size,0,((Array.range (cn*s)).map λi=>u.cells[i%u.cells.size]!).size⟩) JT h1 (λ_=>rfl);simpa using this
   .cases hx
  .cases hx
 .cases hx
omit hr in
theorem Ik{x:Option Operand}{r:Option Nat}(h:Ei tm (x.map BK)=some r):(x=none/\r=none)\/∃y k n,x=some y/\r=some n/\BQ y= .int k ((n:Nat):Int):=by
 cases x with
 |none=>simp only[aj,Ei,DB]at h;subst h;exact .inl ⟨rfl,rfl⟩
 |some x=>
  simp only[KR,Ei]at h;split at h;.rename_i k n hb;cases h;have:=AW x;rw[hb]at this;exact .inr ⟨x,k,n,rfl,rfl,this.MK⟩
  .cases h
omit hr AW in
theorem B3{k:IntKind}{i y:Nat}{c:BoundsCode}(h:i<=y):(Instr.sliceBound (.int k (i:Int)) y c).run P w= .ok i w:=by simp[Instr.sliceBound,asIntOf,h]
omit hr in
theorem Xw{pS:Bool}{len cap KC:Nat}{lo hi mx:Option Operand}{l h m:Option Nat}{a b:Nat}{c:Option Nat}(hl:Ei tm (lo.map BK)=some l)(hh:Ei tm (hi.map BK)=some h)(hm:Ei tm (mx.map BK)=some m)(hb:Tr len cap l h m=some (a,b,c))(PC:(cap<Aa/\KC=cap)\/(Aa<=cap/\len<=KC)):(Instr.sliceBounds pS len KC (lo.map BQ) (hi.map BQ) (mx.map BQ)).run P w= .ok (a,b,c.getD KC) w/\a<=b/\b<=c.getD KC/\(∀d,c=some d->d<=KC/\(Aa<=cap->d<=len))/\(c=none->Aa<=cap/\b<=len):=by
 have main:∀top:Nat,top<=KC->(Aa<=cap->top<=len)->∀e:Option Nat,e.getD KC=KC->(∀d,e=some d->d<=KC/\(Aa<=cap->d<=len))->(e=none->Aa<=cap)->
   Q5 len top e l h m=some (a,b,c)->
   (Instr.sliceBounds pS len KC (lo.map BQ) (hi.map BQ) (mx.map BQ)).run P w= .ok (a,b,c.getD KC) w/\a<=b/\b<=c.getD KC/\(∀d,c=some d->d<=KC/\(Aa<=cap->d<=len))/\
   (c=none->Aa<=cap/\b<=len):=by
  intro top pI pJ e YN tC he3 hb
  unfold Q5 at hb
  rcases Ik (AW:=AW) hm with⟨rfl,rfl⟩|⟨ym,km,nm,rfl,rfl,em⟩
  .simp only at hb
   split at hb
   .rename_i b1 b2
    have b1:=Al b1
    have b2:=Al b2
    simp only[DB,fV]at hb
    obtain⟨rfl,rfl,rfl⟩:=hb
    have r1:h.getD len<=KC:=EM b1 pI
    refine⟨?_,b2,by rw[YN];exact r1,tC,λhn=>⟨he3 hn,EM b1 (pJ (he3 hn))⟩⟩
    rw[YN]
    rcases Ik (AW:=AW) hh with⟨rfl,rfl⟩|⟨yh,kh,nh,rfl,rfl,eh⟩
    .simp only[cS]at b2
     rcases Ik (AW:=AW) hl with⟨rfl,rfl⟩|⟨ae8,kl,nl,rfl,rfl,el⟩
     .simp[Instr.sliceBounds]
     .simp only[MC]at b2
      simp[Instr.sliceBounds,el,B3 b2]
    .simp only[MC]at b2 r1
     rcases Ik (AW:=AW) hl with⟨rfl,rfl⟩|⟨ae8,kl,nl,rfl,rfl,el⟩
     .simp[Instr.sliceBounds,eh,B3 r1]
     .simp only[MC]at b2
      simp[Instr.sliceBounds,eh,el,B3 r1,B3 b2]
   .cases hb
  .simp only at hb
   rcases Ik (AW:=AW) hh with⟨rfl,rfl⟩|⟨yh,kh,nh,rfl,rfl,eh⟩
   .simp at hb
   .simp only at hb
    split at hb
    .rename_i b1 b2 b3
     have b1:=Al b1
     have b2:=Al b2
     have b3:=Al b3
     simp only[DB,fV]at hb
     obtain⟨rfl,rfl,rfl⟩:=hb
     have r1:nm<=KC:=EM b1 pI
     refine⟨?_,b3,b2,λd hd=>by cases hd;exact⟨r1,λh=>EM b1 (pJ h)⟩,λhn=>by cases hn⟩
     rcases Ik (AW:=AW) hl with⟨rfl,rfl⟩|⟨ae8,kl,nl,rfl,rfl,el⟩
     .simp[Instr.sliceBounds,em,eh,B3 r1,B3 b2]
     .simp only[MC]at b3
      simp[Instr.sliceBounds,em,eh,el,B3 r1,B3 b2,B3 b3]
    .cases hb
 unfold Tr at hb;rcases PC with⟨h1,h2⟩|⟨h1,h2⟩
 .have hq:Nat.ble Aa cap=false:=by rw[ble_eq];exact CW om
  simp only[hq]at hb;exact main cap om (λh=>om) (some cap) (by simp[h2]) (λd hd=>by cases hd;exact⟨om,λh=>om⟩) (λhn=>by cases hn) hb
 .have hq:Nat.ble Aa cap=true:=by rw[ble_eq];exact CM h1
  simp only[hq]at hb;exact main len h2 (λ_=>BD _) none rfl (λd hd=>by cases hd) (λ_=>h1) hb
omit hr AW in
theorem wt{size b k n cap KC off:Nat}{lo hi mx:Option Nat}{loc:Loc}{a c:Nat}{m:Option Nat}{u:AV}(BY:AC b=some loc)(Le:Tr n cap lo hi mx=some (a,c,m))(hv:J1 size b k n cap lo hi mx=some u)(oW:a<=c)(bQ:c<=m.getD KC)(hd:∀d,m=some d->d<=KC/\(Aa<=cap->d<=n))(tn:m=none->Aa<=cap/\c<=n)(hX:cap<Aa->KC=cap/\(0<cap->off=loc.base+k))(hU:Aa<=cap->∃es,cap=Aa+es/\off+KC*es<=loc.RF/\(0<n->off=loc.base+k))(hnc:n<=KC):VR AC u (.slice (some (if m.getD KC=a then⟨loc.cb,off,none⟩else⟨loc.cb,off+a*size,none⟩)) (c- a) (m.getD KC- a)):=by
 unfold J1 at hv;rw[Le]at hv
 cases m with
 |some d=>
  simp only at hv;split at hv
  .rename_i BX;have BX:d+1<=Aa:=Al BX;cases hv;obtain⟨h1,h2⟩:=hd d rfl;simp only[MC]at bQ ⊢;have lN:d- a<Aa:=om;by_cases lF:d=a;.subst lF;have hb:Nat.beq d d=true:=W0;rw[AP rfl,hb];exact .WE BY lN pq (λh=>by simp only[Nat.sub_eq]at h;omega)
   .have hb:Nat.beq d a=false:=by
     cases hq:Nat.beq d a with
     |false=>rfl
     |true=>exact absurd (As hq) lF
    rw[AM lF,hb];refine .WE BY lN pq (λh=>?_);have ED:off=loc.base+k:=by
     rcases PP cap Aa with hc|hc;.have:=hX hc;exact this.2 om
     .obtain⟨es,_,_,h3⟩:=hU hc;have:=h2 hc;exact h3 om
    rw[ED];show _=loc.base+(k+a*size);omega
  .cases hv
 |none=>
  obtain⟨h1,h2⟩:=tn rfl;obtain⟨es,e1,e2,e3⟩:=hU h1;simp only at hv;split at hv
  .rename_i EJ;have EJ:cap=Aa+size:=As EJ;cases hv;have UO:es=size:=om;subst UO;rw[EJ];simp only[cS]at bQ ⊢;by_cases hca:KC=a;.rw[AP hca];refine .XQ (k:=es) BY pq ?_ (λh=>by simp only[Nat.sub_eq]at h;omega);have:(KC- a)*es<=KC*es:=Xt _ (Nat.sub_le _ _);omega
   .rw[AM hca];refine .XQ (k:=es) BY pq ?_ (λh=>?_);.have:a*es+(KC- a)*es=KC*es:=(by rw[<-TX];congr 1;omega);omega
    .simp only[Nat.sub_eq]at h;rw[e3 om];show _=loc.base+(k+a*es);omega
  .cases hv
theorem ag3(hE:DG P E){t e:TypeId}{s:Nat}{x:Operand}{lo hi mx:Option Operand}(hu:DU E t=some (.slice e))(hs:Cw E e=some s)(ho:o.op= .slice t x lo hi mx)(hx:exec (.XS s (BK x) (lo.map BK) (hi.map BK) (mx.map BK)) h tm= .val v AA):GE E w0 AC w h ((execOp BQ o).run P w) v AA:=by
 simp only[exec]at hx;split at hx
 .rename_i l hh m hl hhh hm;have VP:(execOp BQ o).run P w=((Instr.slice t (BQ x) (lo.map BQ) (hi.map BQ) (mx.map BQ)).run P w).andThen λv w=> .ok (.value v) w:=by simp only[execOp,ho,Instr.sliceAt,EH,Ah hE hu,EO,IH]
  split at hx
  .rename_i hb;have ea:=VR.Yi (hb ▸ AW x);split at hx
   .rename_i q hq;obtain⟨a,c,d⟩:=q;cases hx;obtain⟨r1,r2,r3,r4,r5⟩:=Xw (AW:=AW) (P:=P) (w:=w) (pS:=true) hl hhh hm hq (.inl ⟨by unfold Aa;omega,rfl⟩);have hz:d.getD 0=0:=by
     cases d with
     |none=>rfl
     |some d=>have:=(r4 d rfl).1;simp;omega
    rw[hz]at r3 r1;have ha:a=0:=om;have hc:c=0:=om;subst ha;subst hc;refine .same (AQ:= .slice none 0 0) hr ?_ .AS;rw[VP,ea];simp[Instr.slice,Ah hE hu,r1,(Cr hE hs w).1]
   .cases hx
  .rename_i b k n cap hb;obtain⟨loc,off,BP,BY,ea,hle,Lt⟩:=VR.XR (hb ▸ AW x)
   cases hv:J1 s b k n cap l hh m with
   |none=>rw[hv]at hx;simp[vo]at hx
   |some u=>
    rw[hv]at hx;simp only[vo,R.val.injEq]at hx;obtain⟨rfl,rfl⟩:=hx;have Le:∃a c d,Tr n cap l hh m=some (a,c,d):=by
     unfold J1 at hv
     cases hq:Tr n cap l hh m with
     |none=>rw[hq]at hv;cases hv
     |some q=>exact⟨q.1,q.2.1,q.2.2,rfl⟩
    obtain⟨a,c,d,Le⟩:=Le;have PC:(cap<Aa/\BP=cap)\/(Aa<=cap/\n<=BP):=by
     rcases Lt with⟨h1,h2,_⟩|⟨es,h1,_,_⟩;.exact .inl ⟨h1,h2⟩
     .exact .inr ⟨om,hle⟩
    obtain⟨r1,r2,r3,r4,r5⟩:=Xw (AW:=AW) (P:=P) (w:=w) (pS:=true) hl hhh hm Le PC;have hR:=wt BY Le hv r2 r3 r4 r5 (λh=>by
     rcases Lt with⟨h1,h2,h3⟩|⟨es,h1,_,_⟩;.exact⟨h2,h3⟩
     .omega) (λh=>by
     rcases Lt with⟨h1,h2,h3⟩|⟨es,h1,h2,h3⟩;.omega
     .exact⟨es,h1,h2,h3⟩) hle
    refine .same hr ?_ hR;rw[VP,ea];simp[Instr.slice,Ah hE hu,r1,(Cr hE hs w).1,Ds];split<;>rfl
  .cases hx
 .cases hx
end
theorem xe{p:Prop}(h:p:=by
 rename_i hb
 cases hx
 exact .same (AQ:=goInt 0) hr (key 0 ⟨_,_,VR.Yi (hb ▸ AW x)⟩) (.int _ _)):p:=h
section
variable {P:Program}{E:Env}{w0:Array Obj}{AC:BF}{h AA:H}{w:World}{tm:T AV}{BQ:Operand->Value}{o:Oper}{v:AV}
variable (hr:HR E w0 AC h w.heap)(AW:R0 AC tm BQ)
include hr AW
omit hr AW
theorem Bq{c:Call}{b:Builtin}(ho:o.op= .call c)(hc:c.callee= .builtin b):(execOp BQ o).run P w=(builtin b c.argTypes o.type (c.args.map λ| .const _=>true|_=>false) (c.args.map BQ)).run P w:=by simp only[execOp,ho,resolve,hc,EH,IH,EO,invoke];rfl
theorem Re{c:Call}{x y:Operand}(h:c.args.toList=[x,y]):c.args.map BQ= #[BQ x,BQ y]:=by
 have:c.args= #[x,y]:=by rw[<-Array.toArray_toList (xs:=c.args),h]
 rw[this];simp
theorem Xx{c:Call}{x:Operand}(h:c.args.toList=[x]):c.args.map BQ= #[BQ x]:=by
 have:c.args= #[x]:=by rw[<-Array.toArray_toList (xs:=c.args),h]
 rw[this];simp
theorem J8{a:Array TypeId}{t:TypeId}{r:List TypeId}(h:a.toList=t::r):a[0]?=some t:=by rw[<-UY,h];rfl
include hr AW
theorem an5(hE:DG P E){c:Call}{x:Operand}{t e:TypeId}(ho:o.op= .call c)(hc:c.callee= .builtin .len)(ha:c.args.toList=[x])(ht:c.argTypes.toList=[t])(hu:DU E t=some (.slice e))(hx:exec (.cB (BK x)) h tm= .val v AA):GE E w0 AC w h ((execOp BQ o).run P w) v AA:=by
 simp only[exec]at hx;have key:∀n:Nat,(∃a c,BQ x= .slice a n c)->(execOp BQ o).run P w= .ok (.value (goInt n)) w:=by rintro n ⟨a,k,e1⟩;rw[Bq ho hc,Xx ha,e1];simp[builtin,Builtin.len_,J8 ht,Ah hE hu]
 split at hx;.exact xe
 .rename_i b k n cap hb;obtain⟨l,off,BP,BY,ea,hle,Lt⟩:=VR.XR (hb ▸ AW x);cases hx;exact .same (AQ:=goInt n) hr (key n ⟨_,_,ea⟩) (.int _ _)
 .rename_i u hb;split at hx;.rename_i a0 n c0;have e1:BQ x= .slice a0 n c0:=VR.akt (hb ▸ AW x);cases hx;exact .same (AQ:=goInt n) hr (key n ⟨_,_,e1⟩) (.int _ _)
  .cases hx
 .cases hx
theorem an6(hE:DG P E){c:Call}{x:Operand}{t e:TypeId}(ho:o.op= .call c)(hc:c.callee= .builtin .cap)(ha:c.args.toList=[x])(ht:c.argTypes.toList=[t])(hu:DU E t=some (.slice e))(hx:exec (.kD (BK x)) h tm= .val v AA):GE E w0 AC w h ((execOp BQ o).run P w) v AA:=by
 simp only[exec]at hx;have key:∀n:Nat,(∃a c,BQ x= .slice a c n)->(execOp BQ o).run P w= .ok (.value (goInt n)) w:=by rintro n ⟨a,k,e1⟩;rw[Bq ho hc,Xx ha,e1];simp[builtin,Builtin.cap_,J8 ht,Ah hE hu]
 split at hx;.exact xe
 .rename_i b k n cap hb;obtain⟨l,off,BP,BY,ea,hle,Lt⟩:=VR.XR (hb ▸ AW x);split at hx;.cases hx
  .rename_i hn;have hn:cap<Aa:=Gu hn;cases hx;have MS:BP=cap:=by
    rcases Lt with⟨_,e,_⟩|⟨k,e,_⟩;.exact e
    .omega
   subst MS;exact .same (AQ:=goInt BP) hr (key _ ⟨_,_,ea⟩) (.int _ _)
 .cases hx
omit hr AW in
theorem GZ.length{l:List FD}{AT:List MapEntry}(h:GZ AC l AT):l.length=AT.length:=by
 induction h with
 |nil=>rfl
 |cons _ _ ih=>simp[ih]
omit AW in
theorem HR.ZO{r:Nat}{l:Loc}{es:List FD}{k:Nat}(BY:AC r=some l)(hb:H.get h r=some (.map es k)):∃BL:Array MapEntry,w.heap[l.cb]?=some (.map BL k)/\GZ AC es BL.toList:=by
 obtain⟨o,h1,h2⟩:=hr.FH _ _ _ BY hb
 cases h2 with
 |map h=>exact⟨_,h1,h⟩
theorem ww(hE:DG P E){c:Call}{x:Operand}{t a b:TypeId}(ho:o.op= .call c)(hc:c.callee= .builtin .len)(ha:c.args.toList=[x])(ht:c.argTypes.toList=[t])(hu:DU E t=some (.map a b))(hx:exec (.mQ (BK x)) h tm= .val v AA):GE E w0 AC w h ((execOp BQ o).run P w) v AA:=by
 simp only[exec]at hx;split at hx;.rename_i hb;cases hx;refine .same (AQ:=goInt 0) hr ?_ (.int _ _);have ea:=VR.iZ (hb ▸ AW x);rw[Bq ho hc,Xx ha,ea];simp[builtin,Builtin.len_,J8 ht,Ah hE hu]
 .rename_i r hb;obtain⟨l,BY,ea⟩:=VR.aS (hb ▸ AW x);split at hx
  .rename_i es k hg;cases hx;obtain⟨BL,h1,h2⟩:=hr.ZO BY hg;refine .same (AQ:=goInt BL.size) hr ?_ ?_;.rw[Bq ho hc,Xx ha,ea];simp[builtin,Builtin.len_,J8 ht,Ah hE hu,getObj,Sem.run,h1]
   .have:=h2.length;simp only[WP]at this;rw[this];exact .int _ _
  .cases hx
 .cases hx
omit hr AW in
theorem Pw{mx:Bool}{x y u:AV}(h:Gc mx x y=some u):∃k a b,x= .int k a/\y= .int k b/\u= .int k (match(match mx with|true=>ZL a b|false=>ZL b a)with|true=>b|false=>a):=by
 cases x with
 |int k a=>cases y with
  |int j b=>
   cases hk:MW k j with
   |true=>have XC:=Bp hk;subst XC;simp only[Gc,hk,DB]at h;exact⟨_,_,_,rfl,rfl,h.symm⟩
   |false=>simp[Gc,hk]at h
  |_=>simp[Gc]at h
 |_=>simp[Gc]at h
theorem Adg{c:Call}{x y:Operand}(ho:o.op= .call c)(hc:c.callee= .builtin .max)(ha:c.args.toList=[x,y])(hx:exec (.aT true (BK x) (BK y)) h tm= .val v AA):GE E w0 AC w h ((execOp BQ o).run P w) v AA:=by
 simp only[exec]at hx
 cases hv:Gc true (ev tm (BK x)) (ev tm (BK y))with
 |none=>rw[hv]at hx;simp[vo]at hx
 |some u=>
  rw[hv]at hx;simp only[vo,R.val.injEq]at hx;obtain⟨rfl,rfl⟩:=hx;obtain⟨k,a,b,hb,JT,rfl⟩:=Pw hv;have e1:=VR.MK (hb ▸ AW x);have e2:=VR.MK (JT ▸ AW y);refine .same (AQ:= .int k (if b>a then b else a)) hr ?_ ?_;.rw[Bq ho hc,Re ha,e1,e2];simp[builtin,Builtin.max_,Builtin.max2]
  .simp only[H4];by_cases hh:a<b;.simp only[hh,fW,WN];exact .int _ _
   .simp only[hh,decide_false,KS];exact .int _ _
theorem Adh{c:Call}{x y:Operand}(ho:o.op= .call c)(hc:c.callee= .builtin .min)(ha:c.args.toList=[x,y])(hx:exec (.aT false (BK x) (BK y)) h tm= .val v AA):GE E w0 AC w h ((execOp BQ o).run P w) v AA:=by
 simp only[exec]at hx
 cases hv:Gc false (ev tm (BK x)) (ev tm (BK y))with
 |none=>rw[hv]at hx;simp[vo]at hx
 |some u=>
  rw[hv]at hx;simp only[vo,R.val.injEq]at hx;obtain⟨rfl,rfl⟩:=hx;obtain⟨k,a,b,hb,JT,rfl⟩:=Pw hv;have e1:=VR.MK (hb ▸ AW x);have e2:=VR.MK (JT ▸ AW y);refine .same (AQ:= .int k (if b<a then b else a)) hr ?_ ?_;.rw[Bq ho hc,Re ha,e1,e2];simp[builtin,Builtin.min_,Builtin.min2]
  .simp only[H4];by_cases hh:b<a;.simp only[hh,fW,WN];exact .int _ _
   .simp only[hh,decide_false,KS];exact .int _ _
end
theorem xf{p:Prop}(h:p:=by
 have hs:=hs a rfl
 simp only[I6,h0,WN,KS]at hs
 simp[Builtin.append_,Ah hE ht,Ah hE hu,Cx hE hi,Ea hE hi,asInt,asIntOf,YU,VX,lQ,h0,hle,hz,hs]):p:=h
theorem xg{p:Prop}(h:p:=by
 simp[Builtin.append_,Ah hE ht,Ah hE hu,Cx hE hi,Ea hE hi,asInt,asIntOf,YU,VX,lQ,h0,hle,hz,ho,sZ,sX,Question.forced,newRow,grownCap,I6]):p:=h
theorem xh{p:Prop}(h:p:=by
 simp[Builtin.append_,Ah hE ht,Ah hE hu,Cx hE hi,Ea hE hi,hn,hle,h1,hz,ho,sZ,sX,Question.forced,newRow,grownCap]):p:=h
section
variable {P:Program}{E:Env}{w0:Array Obj}{AC:BF}{h AA:H}{w:World}{tm:T AV}{BQ:Operand->Value}{o:Oper}{v:AV}
theorem HR.rename(hr:HR E w0 AC h w.heap){b off k:Nat}{c:T AV}{l:Loc}{xs:List AV}{IC:Array Value}{e:TypeId}(BY:AC b=some l)(hb:H.get h b=some (.cells false k c))(hs:IC.size=l.RF)(hn:off+xs.length<=IC.size)(hv:∀i v,xs[i]?=some v->∃AQ,IC[off+i]?=some AQ/\VR AC v AQ):BF.le AC (AC.AX h.n ⟨l.cb,off,l.RF⟩)/\HR E w0 (AC.AX h.n ⟨l.cb,off,l.RF⟩) (Ev.NZ (H.del h b) xs) (w.heap.setIfInBounds l.cb (.cells IC e (0,0))):=by
 have hle:BF.le AC (AC.AX h.n ⟨l.cb,off,l.RF⟩):=BF.YY _ hr.fresh;have Le:=hr.bound _ _ BY;have YM:=hr.SG _ _ BY;have ajh:=hr.own _ _ _ BY hb rfl;have ex:∀{d:Nat} {z:DV},d≠h.n->H.get (Ev.NZ (H.del h b) xs) d=some z->H.get h d=some z/\d≠b:=by
  intro d z hd hz;unfold Ev.NZ at hz;rw[H.bP,AM (by rw[H.ad2];exact hd),H.abp]at hz;by_cases e:d=b;.rw[AP e]at hz;cases hz
  .rw[AM e]at hz;exact⟨hz,e⟩
 have en:H.get (Ev.NZ (H.del h b) xs) h.n=some (.cells false xs.length (JI 0 .leaf xs)):=by unfold Ev.NZ;rw[H.bP,AP (H.ad2 h b).symm]
 refine⟨hle,?_,?_,?_,?_,?_,?_,?_⟩
 .intro d AZ hd;show d<h.n+1;by_cases e:d=h.n;.omega
  .rw[BF.CB _ _ e]at hd;have:=hr.bound _ _ hd;omega
 .intro d AZ hd;by_cases e:d=h.n;.subst e;rw[BF.NM]at hd;cases hd;simpa using YM
  .rw[BF.CB _ _ e]at hd;simpa using hr.SG _ _ hd
 .intro d AZ z hd hz;by_cases e:d=h.n;.subst e;rw[BF.NM]at hd;cases hd;rw[en]at hz;cases hz;refine⟨.cells IC e (0,0),by simp[SR,YM],.cells (λ_=>rfl) hs hn λi v hi hg=>?_⟩;rw[K3,AP om,WK]at hg;obtain⟨AQ,h1,h2⟩:=hv i v hg;exact⟨AQ,h1,h2.mono hle⟩
  .rw[BF.CB _ _ e]at hd;obtain⟨hz,ZC⟩:=ex e hz;obtain⟨p,h1,h2⟩:=hr.FH _ _ _ hd hz;have BZ:l.cb≠AZ.cb:=λBG=>ZC (hr.inj _ _ _ _ _ _ BY hd hb hz rfl BG).symm;exact⟨p,by rw[SR,AM BZ];exact h1,h2.mono hle⟩
 .intro d MG k1 k2 z Yq hd MT hz iH MV he;by_cases e:d=h.n
  .by_cases BG:MG=h.n;.rw[e,BG]
   .subst e;rw[BF.NM]at hd;cases hd;rw[BF.CB _ _ BG]at MT;obtain⟨iH,ZC⟩:=ex BG iH;exact absurd (hr.inj _ _ _ _ _ _ BY MT hb iH rfl he).symm ZC
  .by_cases BG:MG=h.n;.subst BG;rw[BF.NM]at MT;cases MT;rw[BF.CB _ _ e]at hd;obtain⟨hz,ZC⟩:=ex e hz;exact absurd (hr.inj _ _ _ _ _ _ hd BY hz hb MV he) ZC
   .rw[BF.CB _ _ e]at hd;rw[BF.CB _ _ BG]at MT;exact hr.inj _ _ _ _ _ _ hd MT (ex e hz).1 (ex BG iH).1 MV he
 .intro d AZ z hd hz MV;by_cases e:d=h.n;.subst e;rw[BF.NM]at hd;cases hd;exact ajh
  .rw[BF.CB _ _ e]at hd;exact hr.own _ _ _ hd (ex e hz).1 MV
 .intro c hc;rw[<-hr.old c hc,SR,AM];have:=hr.own _ _ _ BY hb rfl;omega
 .simpa using hr.size
theorem Px{DQ n GY bytes:Nat}(BX:GY<DQ+n)(hb:(DQ+n)*(bytes+1)<=1099511627776):¬(281474976710656<Builtin.nextslicecap (DQ+n) GY*bytes)/\¬(9223372036854775807<((DQ:Int)+(n:Int))):=by have tW:DQ+n<=1099511627776:=EM (Nat.le_mul_of_pos_right _ (cU _)) hb;have TA:(DQ+n)*bytes<=1099511627776:=EM (RP _ (QD _)) hb;have RH:=growslice_fits (need:=DQ+n) (old:=GY) (bytes:=bytes) BX om;exact⟨om,om⟩
section
variable {t u ty e:TypeId}{d:TypeDesc}{i:TypeInfo}{base:Option Addr}{DQ GY n:Nat}{x:Value}{new old:Array Value}
variable (hE:DG P E)(ht:DU E t=some (.slice e))(hu:DU E u=some d)(hd:d= .string\/∃BG,d= .slice BG)(hi:Ev.inf E e=some i)
include hE ht hu hi
include hd in
theorem an7(hn:(Builtin.lenOf x).run P w= .ok n w)(h1:(Builtin.firstCells i.size n x).run P w= .ok new w)(hle:DQ+n<=GY){AY:World}(hs:∀a,base=some a->(storeCells (a.add (DQ*i.size)) new.toList).run P w= .ok () AY)(hw:base=none->AY=w):(Builtin.append_ #[t,u] ty #[.slice base DQ GY,x]).run P w= .ok (.slice base (DQ+n) GY) AY:=by
 rcases hd with rfl|⟨BG,rfl⟩
 .cases base with
  |none=>rw[hw rfl];simp[Builtin.append_,Ah hE ht,Ah hE hu,Cx hE hi,hn,hle,h1]
  |some a=>simp[Builtin.append_,Ah hE ht,Ah hE hu,Cx hE hi,hn,hle,h1,hs a rfl]
 .cases base with
  |none=>rw[hw rfl];simp[Builtin.append_,Ah hE ht,Ah hE hu,Cx hE hi,hn,hle,h1]
  |some a=>simp[Builtin.append_,Ah hE ht,Ah hE hu,Cx hE hi,hn,hle,h1,hs a rfl]
include hd in
theorem an8{z:Value}(hz:(zeroValue e).run P w.drew= .ok z w.drew)(hn:(Builtin.lenOf x).run P w= .ok n w)(h1:(Builtin.firstCells i.size n x).run P w.drew= .ok new w.drew)(ho:(Builtin.firstCells i.size DQ (.slice base DQ GY)).run P w.drew= .ok old w.drew)(BX:GY<DQ+n)(hb:(DQ+n)*(i.bytes+1)<=1099511627776):(Builtin.append_ #[t,u] ty #[.slice base DQ GY,x]).run P w= .ok (.slice (some ⟨w.heap.size,0,none⟩) (DQ+n) (grownCap w (DQ+n) GY e)) (w.drew.alloc (.cells (old++(new++Builtin.zeroCells z.cells (grownCap w (DQ+n) GY e- (DQ+n)))) e)):=by
 obtain⟨sX,sZ⟩:=Px BX hb;have hle:¬(DQ+n<=GY):=om
 rcases hd with rfl|⟨BG,rfl⟩;.exact xh
 .exact xh
def I6(z:Value)(size n:Nat):Array Value:=if n*size=0 then #[]else Builtin.zeroCells z.cells n
theorem akh{k j:IntKind}(hd:d= .int k)(hx:x= .int j (n:Int)){z:Value}(hz:∀w,(zeroValue e).run P w= .ok z w)(hn:n<=281474976710656)(FT:n*i.bytes<=281474976710656)(hle:DQ+n<=GY){AY:World}(hs:∀a,base=some a->(storeCells (a.add (DQ*i.size)) (I6 z i.size n).toList).run P w= .ok () AY)(hw:base=none->AY=w):(Builtin.append_ #[t,u] ty #[.slice base DQ GY,x]).run P w= .ok (.slice base (DQ+n) GY) AY:=by
 subst hd hx;have YU:IntKind.i64.wrap (n:Int)=n:=by exact qu
 have VX:¬((n:Int)<0):=om
 have lQ:¬(281474976710656<(n:Int)*(i.bytes:Int)):=by rw[<-jR];omega
 by_cases h0:n*i.size=0
 .cases base with
  |none=>rw[hw rfl];simp[Builtin.append_,Ah hE ht,Ah hE hu,Cx hE hi,Ea hE hi,asInt,asIntOf,YU,VX,lQ,h0,hle,hz,I6]
  |some a=>exact xf
 .cases base with
  |none=>rw[hw rfl];simp[Builtin.append_,Ah hE ht,Ah hE hu,Cx hE hi,Ea hE hi,asInt,asIntOf,YU,VX,lQ,h0,hle,hz,I6]
  |some a=>exact xf
theorem aki{k j:IntKind}(hd:d= .int k)(hx:x= .int j (n:Int)){z:Value}(hz:∀w,(zeroValue e).run P w= .ok z w)(hn:n<=281474976710656)(FT:n*i.bytes<=281474976710656)(ho:(Builtin.firstCells i.size DQ (.slice base DQ GY)).run P w.drew= .ok old w.drew)(BX:GY<DQ+n)(hb:(DQ+n)*(i.bytes+1)<=1099511627776):(Builtin.append_ #[t,u] ty #[.slice base DQ GY,x]).run P w= .ok (.slice (some ⟨w.heap.size,0,none⟩) (DQ+n) (grownCap w (DQ+n) GY e)) (w.drew.alloc (.cells (old++(I6 z i.size n++Builtin.zeroCells z.cells (grownCap w (DQ+n) GY e- (DQ+n)))) e)):=by
 obtain⟨sX,sZ⟩:=Px BX hb;have hle:¬(DQ+n<=GY):=om
 subst hd hx;have YU:IntKind.i64.wrap (n:Int)=n:=by exact qu
 have VX:¬((n:Int)<0):=om
 have lQ:¬(281474976710656<(n:Int)*(i.bytes:Int)):=by rw[<-jR];omega
 by_cases h0:n*i.size=0;.exact xg
 .exact xg
end
end
theorem xj{p:Prop}(h:p:=by
 refine⟨BU,AQ,AY,e2,.inl ?_,e4,e5⟩
 have hty:c.argTypes= #[t,u]:=by rw[<-Array.toArray_toList (xs:=c.argTypes),ht]
 rw[Bq ho hc,Re ha,e1,hty]
 simp only[builtin,EH,e3,EO,IH]):p:=h
section
variable {P:Program}{E:Env}{w0:Array Obj}{AC:BF}{h AA:H}{w:World}{tm:T AV}{BQ:Operand->Value}{o:Oper}{v:AV}
theorem HR.aj7(hr:HR E w0 AC h w.heap){xs:List AV}{cs:Array Value}(e:TypeId){vs:List Value}(hx:CQ AC xs vs)(hp:∃r,cs.toList=vs++r):BF.le AC (AC.AX h.n ⟨w.heap.size,0,cs.size⟩)/\HR E w0 (AC.AX h.n ⟨w.heap.size,0,cs.size⟩) (Ev.NZ h xs) (w.heap.push (.cells cs e (0,0))):=by
 have hle:=BF.YY ⟨w.heap.size,0,cs.size⟩ hr.fresh;obtain⟨r,HY⟩:=hp;have hlen:=hx.length;have NV:cs.size=vs.length+r.length:=by rw[<-WP,HY,DX]
 refine⟨hle,hr.new rfl (.cells (λ_=>rfl) rfl (by show 0+xs.length<=cs.size;omega) λi v hi hg=>?_) rfl⟩;rw[K3,AP om,WK]at hg;obtain⟨AQ,h1,h2⟩:=(hx.mono hle).get hg;refine⟨AQ,?_,h2⟩;show cs[0+i]?=some AQ;rw[MD,<-UY,HY,QC om];exact h1
theorem T8{P:Program}{w:World}{size n cap:Nat}{cb off:Nat}{vs:List Value}(hl:vs.length=n*size)(h:∀(j:Nat) (v:Value),vs[j]?=some v->w.cell? ⟨cb,off+j,none⟩=some v):(Builtin.firstCells size n (.slice (some ⟨cb,off,none⟩) n cap)).run P w= .ok vs.toArray w:=run_firstCells_some w size n ⟨cb,off,none⟩ n cap vs hl λj v hj=>by rw[Ds];exact h j v hj
structure rY (P:Program)(w:World)(size bytes n:Nat)(elem:TypeId)(zs:Nat->Array Value)(XL:Array Value)(R:Option Addr->Nat->Nat->Result Value):Prop where
 room:∀base DQ GY AY,DQ+n<=GY->(∀a,base=some a->(storeCells (a.add (DQ*size)) XL.toList).run P w= .ok () AY)->(base=none->AY=w)->
  R base DQ GY= .ok (.slice base (DQ+n) GY) AY
 grow:∀base DQ GY old,(Builtin.firstCells size DQ (.slice base DQ GY)).run P w.drew= .ok old w.drew->GY<DQ+n->(DQ+n)*(bytes+1)<=1099511627776->
  R base DQ GY= .ok (.slice (some ⟨w.heap.size,0,none⟩) (DQ+n) (grownCap w (DQ+n) GY elem))
   (w.drew.alloc (.cells (old++(XL++zs (grownCap w (DQ+n) GY elem- (DQ+n)))) elem))
 zsz:∀k,(zs k).size=k*size
theorem Py(hr:HR E w0 AC h w.heap){size bytes n:Nat}{elem:TypeId}{zs:Nat->Array Value}{new:List AV}{XL:Array Value}{R:Option Addr->Nat->Nat->Result Value}{s:AV}{EU:Value}(hR:rY P w size bytes n elem zs XL R)(hn:CQ AC new XL.toList)(hnl:new.length=n*size)(hs:VR AC s EU)(hx:Dx size bytes h s new n= .val v AA):∃base DQ GY,EU= .slice base DQ GY/\∃BU AQ AY,BF.mP h.n AC BU/\R base DQ GY= .ok AQ AY/\VR BU v AQ/\HR E w0 BU AA AY.heap/\QG w AY:=by
 have tj:XL.size=n*size:=by rw[<-WP,<-hn.length,hnl]
 have grow:∀(h0:H) (DQ GY:Nat) (base:Option Addr) (old:List AV) (eY:List Value),HR E w0 AC h0 w.heap->CQ AC old eY->eY.length=DQ*size->
   (Builtin.firstCells size DQ (.slice base DQ GY)).run P w.drew= .ok eY.toArray w.drew->GY<DQ+n->(DQ+n)*(bytes+1)<=1099511627776->
   ∃BU AQ AY,BF.mP h0.n AC BU/\R base DQ GY= .ok AQ AY/\VR BU (.AE h0.n 0 (DQ+n) (Aa+size)) AQ/\HR E w0 BU (Ev.NZ h0 (List.append old new)) AY.heap/\QG w AY:=by
  intro h0 DQ GY base old eY uB ho hol hf BX hb
  have hg:=hR.grow base DQ GY _ hf BX hb
  have dY:=grownCap_ge w (DQ+n) GY elem
  generalize grownCap w (DQ+n) GY elem=iY at hg dY
  obtain⟨hle,HY⟩:=uB.aj7 (cs:=eY.toArray++(XL++zs (iY- (DQ+n)))) elem (ho.append hn) ⟨(zs (iY- (DQ+n))).toList,by simp⟩
  refine⟨_,_,_,⟨hle,λ_ hb=>BF.CB _ _ hb⟩,hg,?_,HY,⟨rfl,rfl,rfl⟩⟩
  have DE:(eY.toArray++(XL++zs (iY- (DQ+n)))).size=iY*size:=by
   simp only[Array.size_append,List.size_toArray,hol,tj,hR.zsz]
   rw[<-TX,<-TX];congr 1;omega
  exact .XQ (BF.NM _ _ _) dY (by show 0+iY*size<=(eY.toArray++(XL++zs (iY- (DQ+n)))).size;rw[DE];omega) (λ_=>rfl)
 unfold Dx at hx
 cases n with
 |zero=>
  have ti:XL= #[]:=Array.eq_empty_of_size_eq_zero (by simpa using tj);subst ti;simp only at hx;split at hx;.cases hx;exact⟨none,0,0,hs.Yi,AC,_,w,.refl _ _,hR.room none 0 0 w (BD _) W0 (λ_=>rfl),.AS,hr,.refl _⟩
  .cases hx;obtain⟨l,off,BP,BY,ea,hle,Lt⟩:=hs.XR;refine⟨_,_,_,ea,AC,_,w,.refl _ _,hR.room _ _ _ w om (by intro a _;rfl) W0,?_,hr,.refl _⟩;rw[ea]at hs;exact hs
  .cases hx
 |succ n=>
  simp only at hx;split at hx
  .split at hx;.rename_i hb;have hb:(n+1)*(bytes+1)<=1099511627776:=Al hb;cases hx;have:=grow h 0 0 none [] [] hr .nil W0 (by simp[Builtin.firstCells]) om mJ;simp only[MD]at this;exact⟨none,0,0,hs.Yi,this⟩
   .cases hx
  .rename_i b k sl cap;obtain⟨l,off,BP,BY,ea,hle,Lt⟩:=hs.XR;refine⟨_,_,_,ea,?_⟩;split at hx;.cases hx
   .rename_i hb;have hb:(sl+(n+1))*(bytes+1)<=1099511627776:=Al hb;split at hx
    .rename_i gW;have gW:Aa<=cap:=Al gW;split at hx
     .rename_i old AZ c aD hold abt LA;have aD:cap=Aa+size:=As aD;subst aD;cases hx;rcases Lt with⟨hc,_⟩|⟨k2,TJ,RH,ED⟩;.omega
      .have TJ:k2=size:=om;subst TJ;obtain⟨vs,v1,v2,v3⟩:=hr.KM BY hold off (λhn=>ED (qy hn));have v1:vs.length=sl*k2:=v1;by_cases XF:sl+(n+1)<=BP
       .obtain⟨cs,e,b1,b2,b3,b4⟩:=hr.sE BY abt;have hmul:(sl+(n+1))*k2<=BP*k2:=Xt _ XF;rw[TX]at hmul;obtain⟨AY,s1,s2,s3⟩:=Er P XL.toList w l.cb (off+sl*k2) 0 cs e b1 uY (I2 hn LA);have uE:=hR.room (some ⟨l.cb,off,none⟩) sl BP AY XF (by intro a ha;cases ha;rw[Ds];exact s1) W0;have hlen:(List.append old new).length=sl*k2+(n+1)*k2:=(by show(old++new).length=_;rw[DX,hnl,v2.length,v1]);obtain⟨ajf,HY⟩:=hr.rename (off:=off) (xs:=List.append old new) (IC:=XN cs (off+sl*k2) XL.toList) (e:=e) BY abt (by rw[Ij,b2]) (by rw[Ij,hlen];omega) (by
         intro i v hi;rw[Qn _ _ _ _ uY];have hi:(old++new)[i]?=some v:=hi;by_cases BX:i<old.length;.rw[QC BX]at hi;obtain⟨AQ,g1,g2⟩:=v2.get hi;have iE:=v3 i AQ g1;rw[K4 b1]at iE;have:=v2.length;exact⟨AQ,by rw[AM om];exact iE,g2⟩
         .rw[OB om]at hi;obtain⟨AQ,g1,g2⟩:=hn.get hi;have:=v2.length;have FO:i- old.length<new.length:=(FE.1 hi).1;refine⟨AQ,?_,g2⟩;rw[AP uY,<-g1];congr 1;omega)
        refine⟨_,_,AY,⟨ajf,λ_ hb=>BF.CB _ _ hb⟩,uE,?_,?_,s3⟩;.exact .XQ (l:=⟨l.cb,off,l.RF⟩) (BF.NM _ _ _) XF RH (λ_=>rfl)
        .rw[s2,TV];exact HY
       .exact grow (H.del h b) sl BP _ old vs (hr.del b) v2 v1 (T8 v1 v3) om hb
     .cases hx
    .rename_i gW;have gW:cap<Aa:=Gu gW;have QL:BP=cap/\(0<cap->off=l.base+k):=by
      rcases Lt with⟨_,e1,e2⟩|⟨k2,e,_⟩;.exact⟨e1,e2⟩
      .omega
     obtain⟨rfl,ED⟩:=QL;split at hx
     .rename_i XF;have XF:sl+(n+1)<=BP:=Al XF;split at hx;.rename_i h1 lS;cases hx;obtain⟨AY,s1,s2,s3⟩:=hr.Yl P BY lS hn (off+sl*size) (λ_=>by have:=ED om;show _=l.base+(k+sl*size);omega);have uE:=hR.room (some ⟨l.cb,off,none⟩) sl BP AY XF (by intro a ha;cases ha;rw[Ds];exact s1) W0;exact⟨AC,_,AY,.refl _ _,uE,.WE BY gW XF ED,s2,s3⟩
      .cases hx
     .rename_i XF;have XF:BP<sl+(n+1):=Gu XF;split at hx;.rename_i old hold;cases hx;obtain⟨vs,v1,v2,v3⟩:=hr.KM BY hold off (λhn=>ED (by have:=qy hn;omega));exact grow h sl BP _ old vs hr v2 v1 (T8 v1 v3) XF hb
      .cases hx
  .cases hx
theorem T9{x:AV}{Cb:Value}{n:Nat}(hx:VR AC x Cb)(hl:NX x=some n):(Builtin.lenOf Cb).run P w= .ok n w:=by
 cases hx with
 |AS=>simp only[NX,DB]at hl;subst hl;rfl
 |WE _ _ _ _=>simp only[NX,DB]at hl;subst hl;rfl
 |XQ _ _ _ _=>simp only[NX,DB]at hl;subst hl;rfl
 |str hs=>simp only[NX,DB]at hl;subst hl;rw[<-hs,DC];rfl
 |_=>simp[NX]at hl
theorem Rf(AC:BF):∀(n:Nat) (s:List Nat) (l:List UInt8),l.map (·.toNat)=s->CQ AC (G3 n s) ((l.take n).map λb=>Value.int .u8 (b.toNat:Int))
 |0,s,l,_=>by simp[G3];exact .nil
 |n+1,s,[],h=>by simp at h;subst h;exact .nil
 |n+1,s,b::l,h=>by simp only[FU]at h;subst h;exact .cons (.int _ _) (Rf AC n _ l rfl)
theorem Pz(hr:HR E w0 AC h w.heap){size n:Nat}{x:AV}{Cb:Value}{l:List AV}(hx:VR AC x Cb)(hc:cellsOf size n h x=some l)(hn:∀k,NX x=some k->n<=k):∃vs:List Value,CQ AC l vs/\∀w1:World,w1.heap=w.heap->(Builtin.firstCells size n Cb).run P w1= .ok vs.toArray w1:=by
 have X6:∀(w1:World),w1.heap=w.heap->∀a,a.spot=none->w1.cell? a=w.cell? a:=by intro w1 h1 a _;simp only[World.cell?,h1]
 cases x with
 |AS=>simp only[cellsOf,DB]at hc;subst hc;exact⟨[],.nil,λw1 _=>by rw[hx.Yi];simp[Builtin.firstCells]⟩
 |AE b o m c=>
  obtain⟨lo,off,BP,BY,ea,hle,Lt⟩:=hx.XR;simp only[cellsOf]at hc;have hnm:n<=m:=hn m rfl;obtain⟨vs,v1,v2,v3⟩:=hr.KM BY hc off (λhp=>by
   have hp:=qy hp;rcases Lt with⟨_,e,ho⟩|⟨_,_,_,ho⟩;.exact ho om
   .exact ho om)
  have v1:vs.length=n*size:=v1;refine⟨vs,v2,λw1 h1=>?_⟩;rw[ea];exact run_firstCells_some w1 size n ⟨lo.cb,off,none⟩ m BP vs v1 λj v hj=>by rw[Ds,X6 w1 h1 _ rfl];exact v3 j v hj
 |str s=>
  obtain⟨b,ea,hs⟩:=hx.aY;simp only[cellsOf]at hc;split at hc;.cases hc;refine⟨_,Rf AC n s _ hs,λw1 _=>?_⟩;rw[ea];simp only[Builtin.firstCells,IH,Result.ok.injEq,and_true];apply fX;simp[List.map_take]
  .cases hc
 |_=>simp[cellsOf]at hc
theorem afx{b o n:Nat}{l:List AV}(hc:KM h b o n=some l):l.length=n:=by
 unfold KM at hc
 cases n with
 |zero=>cases hc;rfl
 |succ n=>
  simp only at hc;split at hc
  .split at hc;.exact(Og hc).1
   .cases hc
  .cases hc
theorem Jt:∀(n:Nat) (s:List Nat),n<=s.length->(G3 n s).length=n
 |0,s,_=>by simp[G3]
 |n+1,[],h=>by simp at h
 |n+1,b::s,h=>by simp only[FX]at h;simp[G3,Jt n s om]
theorem J9{size n k:Nat}{x:AV}{l:List AV}(hl:NX x=some k)(hn:n<=k)(hc:cellsOf size n h x=some l):l.length=n*size:=by
 cases x with
 |AS=>
      simp only[NX,cellsOf,DB]at hl hc;subst hl hc;have:n=0:=om
      subst this;simp
 |AE b o m c=>simp only[cellsOf]at hc;exact afx hc
 |str s=>
  simp only[NX,cellsOf,DB]at hl hc;subst hl;split at hc;.rename_i h1;have h1:=As h1;cases hc;rw[h1,Jt n s hn,RW]
  .cases hc
 |_=>simp[NX]at hl
theorem Vx(z:List AV):∀n,(rl z n).length=n*z.length
 |0=>by simp[rl]
 |n+1=>by show(z++rl z n).length=_;rw[DX,Vx z n,Ys];omega
theorem ach(hE:DG P E){e:TypeId}{z:List AV}(hz:Ft E e=some z):∃v i,Ev.inf E e=some i/\(∀w1:World,(zeroValue e).run P w1= .ok v w1)/\v.cells.size=i.size/\z.length=i.size/\∀AC,CQ AC z v.cells.toList:=by
 obtain⟨v,i,h1,h2,h3,h4,h5⟩:=Dy hE hz default;refine⟨v,i,h1,λw1=>?_,h3,h4,h5⟩;obtain⟨AQ,FB,Zx,VN,_⟩:=Dy hE hz w1;simp only[zeroValue,EH,Ea hE h1,EO]at h2 VN ⊢
 cases hzz:i.zero with
 |none=>rw[hzz]at h2;simp at h2
 |some z0=>rw[hzz]at h2;simp at h2 ⊢;exact h2
theorem Ua{e:TypeId}{s:Nat}{i:TypeInfo}(hs:Cw E e=some s)(hi:Ev.inf E e=some i):i.size=s/\s≠0:=by
 unfold Cw at hs;rw[hi]at hs;simp only at hs;split at hs;.simp at hs
 .rename_i hb;simp at hs;exact⟨hs,hs ▸ Em hb⟩
theorem Ri{e:TypeId}{i:TypeInfo}(hi:Ev.inf E e=some i):Dq E e=i.bytes:=by unfold Dq;rw[hi]
section
variable (hr:HR E w0 AC h w.heap)(AW:R0 AC tm BQ)
include hr AW
theorem Rj(hE:DG P E){c:Call}{s x:Operand}{t u e:TypeId}{d:TypeDesc}{n:Nat}{z:List AV}(ho:o.op= .call c)(hc:c.callee= .builtin .append)(ha:c.args.toList=[s,x])(ht:c.argTypes.toList=[t,u])(hu:DU E t=some (.slice e))(iB:DU E u=some d)(hd:d= .string\/∃BG,d= .slice BG)(hs:Cw E e=some n)(hz:Ft E e=some z)(hx:exec (.append n (Dq E e) (BK s) (BK x)) h tm= .val v AA):GE E w0 AC w h ((execOp BQ o).run P w) v AA:=by
 simp only[exec]at hx;obtain⟨zv,i,hi,pP,uS,pO,hzR⟩:=ach hE hz;obtain⟨FO,pC⟩:=Ua hs hi;subst FO;split at hx
 .rename_i k hl;split at hx;.rename_i new PG;have bU:=T9 (P:=P) (w:=w) (AW x) hl;obtain⟨vs,v1,v2⟩:=Pz (P:=P) hr (AW x) PG (λAZ XC=>by rw[hl]at XC;cases XC;exact BD _);have hlen:new.length=k*i.size:=(by exact J9 hl (BD _) PG);rw[Ri hi]at hx;have dQ:rY P w i.size i.bytes k e (Builtin.zeroCells zv.cells) vs.toArray (λb sl sc=>(Builtin.append_ #[t,u] o.type #[.slice b sl sc,BQ x]).run P w):=⟨λb sl sc AY h1 h2 h3=>an7 hE hu iB hd hi bU (v2 w rfl) h1 h2 h3,λb sl sc old h1 h2 h3=>an8 hE hu iB hd hi (pP _) bU (v2 w.drew rfl) h1 h2 h3,λk=>by rw[size_zeroCells,uS]⟩;obtain⟨b,sl,sc,e1,BU,AQ,AY,e2,e3,e4,e5⟩:=Py hr dQ (by simpa using v1) hlen (AW s) hx;exact xj
  .cases hx
 .cases hx
theorem agl(hE:DG P E){c:Call}{s x:Operand}{t u e:TypeId}{k:IntKind}{n:Nat}{z:List AV}(ho:o.op= .call c)(hc:c.callee= .builtin .append)(ha:c.args.toList=[s,x])(ht:c.argTypes.toList=[t,u])(hu:DU E t=some (.slice e))(iB:DU E u=some (.int k))(hs:Cw E e=some n)(hz:Ft E e=some z)(hx:exec (.gD (Dq E e) z (BK s) (BK x)) h tm= .val v AA):GE E w0 AC w h ((execOp BQ o).run P w) v AA:=by
 simp only[exec]at hx;obtain⟨zv,i,hi,pP,uS,pO,hzR⟩:=ach hE hz;obtain⟨FO,pC⟩:=Ua hs hi;subst FO;split at hx
 .rename_i j m hl;have ex:=VR.MK (hl ▸ AW x);split at hx
  .rename_i h1 h2;have h1:m*Dq E e<=281474976710656:=Al h1;have h2:m<=281474976710656:=Al h2;rw[Ri hi]at hx h1;have PG:CQ AC (rl z m) (I6 zv i.size m).toList:=by
    unfold I6;split;.rename_i h0;have:rl z m=[]:=List.eq_nil_of_length_eq_zero (by rw[Vx,pO];exact h0);rw[this];exact .nil
    .exact v8 (hzR AC) m _ rfl
   have dQ:rY P w i.size i.bytes m e (Builtin.zeroCells zv.cells) (I6 zv i.size m) (λb sl sc=>(Builtin.append_ #[t,u] o.type #[.slice b sl sc,BQ x]).run P w):=⟨λb sl sc AY q1 q2 q3=>akh hE hu iB hi rfl ex pP h2 h1 q1 q2 q3,λb sl sc old q1 q2 q3=>aki hE hu iB hi rfl ex pP h2 h1 q1 q2 q3,λk=>by rw[size_zeroCells,uS]⟩;rw[pO]at hx;obtain⟨b,sl,sc,e1,BU,AQ,AY,e2,e3,e4,e5⟩:=Py hr dQ PG (by rw[Vx,pO]) (AW s) hx;exact xj
  .cases hx
 .cases hx
theorem an9(hE:DG P E){c:Call}{d s:Operand}{t e:TypeId}{r:List TypeId}{n:Nat}(ho:o.op= .call c)(hc:c.callee= .builtin .copy)(ha:c.args.toList=[d,s])(ht:c.argTypes.toList=t::r)(hu:DU E t=some (.slice e))(hs:Cw E e=some n)(hx:exec (.copy n (BK d) (BK s)) h tm= .val v AA):GE E w0 AC w h ((execOp BQ o).run P w) v AA:=by
 simp only[exec]at hx;obtain⟨DE,pC⟩:=Cr hE hs w;split at hx
 .rename_i sn hl;have bU:=T9 (P:=P) (w:=w) (AW s) hl;split at hx
  .rename_i hd;have ed:=VR.Yi (hd ▸ AW d);cases hx;have tJ:∃cells,(Builtin.firstCells n 0 (BQ s)).run P w= .ok cells w:=by
    have:=AW s
    cases IP:ev tm (BK s)with
    |AS=>rw[IP]at this;rw[this.Yi];exact⟨_,by simp[Builtin.firstCells];rfl⟩
    |AE b o m BP=>rw[IP]at this;obtain⟨lo,off,BP,BY,ea,hle,Lt⟩:=this.XR;rw[ea];exact⟨_,run_firstCells_some w n 0 ⟨lo.cb,off,none⟩ m BP [] W0 W0⟩
    |str q=>rw[IP]at this;obtain⟨b,ea,hs⟩:=this.aY;rw[ea];exact⟨_,by simp[Builtin.firstCells];rfl⟩
    |_=>rw[IP]at hl;simp[NX]at hl
   obtain⟨cells,tJ⟩:=tJ;refine .same (AQ:=goInt 0) hr ?_ (.int _ _);rw[Bq ho hc,Re ha,ed];simp[builtin,Builtin.copy_,J8 ht,Ah hE hu,DE,bU,tJ]
  .rename_i b k dn cap hd;obtain⟨l,off,BP,BY,ed,hle,Lt⟩:=VR.XR (hd ▸ AW d);split at hx
   .rename_i xs eA;split at hx
    .rename_i h1 lS;cases hx;have pB:Lu sn dn=Nat.min sn dn:=by
      unfold Lu
      cases hb:Nat.ble sn dn with
      |true=>have:=Al hb;show sn=min sn dn;omega
      |false=>have:=Gu hb;show dn=min sn dn;omega
     have lP:Lu sn dn<=sn:=(by rw[pB];exact Nat.min_le_left _ _);have gu:Lu sn dn<=dn:=(by rw[pB];exact Nat.min_le_right _ _);obtain⟨vs,v1,v2⟩:=Pz (P:=P) hr (AW s) eA (λAZ XC=>by rw[hl]at XC;cases XC;exact lP);have hlen:=J9 hl lP eA;obtain⟨AY,s1,s2,s3⟩:=hr.Yl P BY lS v1 off (λhp=>by
      have hp:0<Lu sn dn*n:=(by rw[<-hlen];exact hp);have hp:=qy hp;rcases Lt with⟨_,e,ho⟩|⟨_,_,_,ho⟩;.exact ho om
      .exact ho om)
     refine⟨AC,goInt (Lu sn dn),AY,.refl _ _,.inl ?_,.int _ _,s2,s3⟩;rw[Bq ho hc,Re ha,ed];have v2:=v2 w rfl;rw[pB]at v2;simp[builtin,Builtin.copy_,J8 ht,Ah hE hu,DE,bU,v2,s1,pB]
    .cases hx
   .cases hx
  .cases hx
 .cases hx
end
theorem GZ.get{l:List FD}{AT:List MapEntry}(h:GZ AC l AT){i:Nat}{e:FD}(hi:l[i]?=some e):∃BG,AT[i]?=some BG/\ER AC e BG:=by
 induction h generalizing i with
 |nil=>simp at hi
 |cons he _ ih=>
  cases i with
  |zero=>simp at hi;subst hi;exact⟨_,rfl,he⟩
  |succ i=>simp at hi ⊢;exact ih hi
theorem GZ.append{a b:List FD}{BC AR:List MapEntry}(h:GZ AC a BC)(k:GZ AC b AR):GZ AC (a++b) (BC++AR):=by
 induction h with
 |nil=>exact k
 |cons he _ ih=>exact .cons he ih
theorem GZ.modify{l:List FD}{AT:List MapEntry}(h:GZ AC l AT){f:FD->FD}{g:MapEntry->MapEntry}{i:Nat}(hf:∀e BG,l[i]?=some e->AT[i]?=some BG->ER AC e BG->ER AC (f e) (g BG)):GZ AC (l.modify i f) (AT.modify i g):=by
 induction h generalizing i with
 |nil=>simp;exact .nil
 |cons he hs ih=>
  cases i with
  |zero=>simp only[List.modify_zero_cons];exact .cons (hf _ _ rfl rfl he) hs
  |succ i=>simp only[List.modify_succ_cons];exact .cons he (ih λe BG h1 h2 h3=>hf e BG (by simpa using h1) (by simpa using h2) h3)
theorem GZ.erase{l:List FD}{AT:List MapEntry}(h:GZ AC l AT)(i:Nat):GZ AC (l.eraseIdx i) (AT.eraseIdx i):=by
 induction h generalizing i with
 |nil=>simp;exact .nil
 |cons he hs ih=>
  cases i with
  |zero=>simpa using hs
  |succ i=>simpa using .cons he (ih i)
theorem Rl{f:AV->AV->Option Bool}{k:AV}:∀{es:List FD},G4 f k es=some none->∀e∈es,f k e.key=some false
 | [],_=>by simp
 |a::es,h=>by
  simp only[G4]at h;split at h;.cases h
  .rename_i h1;intro e he;rcases DD.1 he with rfl|he;.exact h1
   .exact Rl h e he
  .cases h
theorem Rm{f:AV->AV->Option Bool}{k:AV}{e:FD}:∀{es:List FD},G4 f k es=some (some e)->∃j,es[j]?=some e/\f k e.key=some true/\(∀m x,m<j->es[m]?=some x->f k x.key=some false)/\(∀v KX,Vq f k v es=some KX->KX=es.modify j (λe=>⟨k,v,e.born⟩)/\F7 k e.key=true)
 | [],h=>by simp[G4]at h
 |a::es,h=>by
  simp only[G4]at h;split at h
  .rename_i h1;cases h;refine⟨0,rfl,h1,λm x hm=>absurd hm om,λv KX hu=>?_⟩;simp only[Vq,h1]at hu;split at hu;.rename_i hk;cases hu;exact⟨by simp,hk⟩
   .cases hu
  .rename_i h1;obtain⟨j,g1,g2,g3,g4⟩:=Rm h;refine⟨j+1,by simpa using g1,g2,λm x hm hx=>?_,λv KX hu=>?_⟩
   .cases m with
    |zero=>simp at hx;subst hx;exact h1
    |succ m=>exact g3 m x om mI
   .simp only[Vq,h1]at hu;split at hu;.rename_i r hr;cases hu;obtain⟨q1,q2⟩:=g4 v r hr;exact⟨by rw[q1];simp,q2⟩
    .cases hu
  .cases h
theorem Rn{f:AV->AV->Option Bool}{k:AV}:∀{es KX:List FD},Z5 f k es=some KX->(G4 f k es=some none/\KX=es)\/(∃j e,G4 f k es=some (some e)/\es[j]?=some e/\f k e.key=some true/\(∀m x,m<j->es[m]?=some x->f k x.key=some false)/\KX=es.eraseIdx j)
 | [],KX,h=>by simp only[Z5,DB]at h;subst h;exact .inl ⟨rfl,rfl⟩
 |a::es,KX,h=>by
  simp only[Z5]at h;split at h;.rename_i h1;cases h;exact .inr ⟨0,a,by simp[G4,h1],rfl,h1,λm x hm=>absurd hm om,by simp⟩
  .rename_i h1;split at h
   .rename_i r hr;cases h;rcases Rn hr with⟨g1,rfl⟩|⟨j,e,g1,g2,g3,g4,rfl⟩;.exact .inl ⟨by simp[G4,h1,g1],rfl⟩
    .refine .inr ⟨j+1,e,by simp[G4,h1,g1],by simpa using g2,g3,λm x hm hx=>?_,by simp⟩
     cases m with
     |zero=>simp at hx;subst hx;exact h1
     |succ m=>exact g4 m x om mI
   .cases h
  .cases h
theorem Br(k:IntKind):MW k k=true:=by cases k<;>rfl
theorem Ub{a b:ByteArray}{s t:List Nat}(ha:a.data.toList.map (·.toNat)=s)(hb:b.data.toList.map (·.toNat)=t):(a==b)=Oa s t:=by rw[<-Mw ha hb,ByteArray.toList_eq,ByteArray.toList_eq];obtain⟨x⟩:=a;obtain⟨y⟩:=b;have:((⟨x⟩:ByteArray)==⟨y⟩)=(x==y):=rfl;rw[this,Bool.eq_iff_iff,beq_iff_eq,beq_iff_eq];exact⟨λh=>by rw[h],λh=>fX h⟩
theorem Oi{d:TypeDesc}{n:Nat}{sh:Sh}{a b:AV}{BC AR:Value}{q WC:Bool}(he:eqv n sh a b=some q)(ha:VR AC a BC)(hb:VR AC b AR)(hs:Instr.sameNow d BC AR=some WC):WC=q:=by
 obtain⟨k1,k2⟩:=aez he
 cases n with
 |zero=>simp[eqv]at he
 |succ n=>
  unfold Instr.sameNow at hs;split at hs
  .rename_i k x AZ y;split at hs
   .rename_i hk;subst hk;cases hs
    cases ha with
    |int=>cases hb with
     |int=>cases sh<;>simp[eqv,Hl,Jy,Po,Jp,Ly,Gz,G1,E8,Br]at he;rw[<-K5];exact he
     |HZ=>simp[kn]at k2
     |FK=>simp[kn]at k2
    |HZ=>simp[kn]at k1
    |FK=>simp[kn]at k1
   .cases hs
  .rename_i x y;cases hs
   cases ha with
   |str hx=>cases hb with
    |str hy=>cases sh<;>simp[eqv,Hl,Jy,Po,Jp,Ly,Gz,G1,E8]at he;rw[Ub hx hy];exact he
    |HZ=>simp[kn]at k2
    |FK=>simp[kn]at k2
   |HZ=>simp[kn]at k1
   |FK=>simp[kn]at k1
  .rename_i x y;cases hs
   cases ha with
   |bool=>cases hb with
    |bool=>cases sh<;>simp[eqv,Hl,Jy,Po,Jp,Ly,Gz,G1,E8]at he;subst he;cases x<;>cases y<;>rfl
    |HZ=>simp[kn]at k2
    |FK=>simp[kn]at k2
   |HZ=>simp[kn]at k1
   |FK=>simp[kn]at k1
  .cases hs
theorem Uc(hE:DG P E){t:TypeId}{d:TypeDesc}{k:AV}{AZ:Value}(hd:DU E t=some d)(hk:VR AC k AZ){es:List FD}{BL:List MapEntry}(EJ:GZ AC es BL):(∀(hn:∀e∈es,eqv 20 (Ay E 5 t) k e.key=some false),(Instr.findKey t AZ BL).run P w= .ok none w)/\(∀j e,es[j]?=some e->eqv 20 (Ay E 5 t) k e.key=some true->(∀m x,m<j->es[m]?=some x->eqv 20 (Ay E 5 t) k x.key=some false)->∃BG,BL[j]?=some BG/\(Instr.findKey t AZ BL).run P w= .ok (some (j,BG.val)) w):=by
 have eq:∀{e:FD} {BG:MapEntry} {b:Bool},ER AC e BG->eqv 20 (Ay E 5 t) k e.key=some b->(Op.equal t AZ BG.key).run P w= .ok b w:=by intro e BG b he hb;exact Vw hE 5 t 20 10000 k e.key _ _ b PI hb hk he.key
 have ag5:∀{es:List FD} {BL:List MapEntry},GZ AC es BL->(∀e∈es,eqv 20 (Ay E 5 t) k e.key=some false)->∀i,(Instr.findAsking t AZ BL i).run P w= .ok none w:=by
  intro es BL EJ;induction EJ with
  |nil=>intro _ i;rfl
  |cons he _ ih=>intro hn i;simp only[Instr.findAsking,EH,eq he (hn _ (DW ..)),EO,RR,KS];exact ih (λe he=>hn e (Ck _ he)) (i+1)
 have akd:∀{es:List FD} {BL:List MapEntry},GZ AC es BL->(∀e∈es,eqv 20 (Ay E 5 t) k e.key=some false)->∀i r,Instr.findNow d AZ BL i=some r->r=none:=by
  intro es BL EJ;induction EJ with
  |nil=>intro _ i r hr;simp only[Instr.findNow,DB]at hr;exact hr.symm
  |cons he _ ih=>
   intro hn i r hr;simp only[Instr.findNow]at hr;split at hr;.rename_i hs;have:=Oi (hn _ (DW ..)) hk he.key hs;cases this
   .exact ih (λe he=>hn e (Ck _ he)) (i+1) r hr
   .cases hr
 have ag6:∀{es:List FD} {BL:List MapEntry},GZ AC es BL->∀j e,es[j]?=some e->eqv 20 (Ay E 5 t) k e.key=some true->(∀m x,m<j->es[m]?=some x->eqv 20 (Ay E 5 t) k x.key=some false)->
   ∀i,∃BG,BL[j]?=some BG/\(Instr.findAsking t AZ BL i).run P w= .ok (some (i+j,BG.val)) w:=by
  intro es BL EJ
  induction EJ with
  |nil=>intro j e hj;simp at hj
  | @cons a BC l AT he _ ih=>
   intro j e hj ht hm i
   cases j with
   |zero=>
    simp at hj;subst hj
    exact⟨BC,rfl,by simp[Instr.findAsking,eq he ht]⟩
   |succ j=>
    obtain⟨BG,g1,g2⟩:=ih j e (by simpa using hj) ht (λm x BX hx=>hm (m+1) x om mI) (i+1)
    refine⟨BG,by simpa using g1,?_⟩
    simp only[Instr.findAsking,EH,eq he (hm 0 a om rfl),EO,RR,KS]
    rw[g2];congr 3;omega
 have ake:∀{es:List FD} {BL:List MapEntry},GZ AC es BL->∀j e,es[j]?=some e->eqv 20 (Ay E 5 t) k e.key=some true->(∀m x,m<j->es[m]?=some x->eqv 20 (Ay E 5 t) k x.key=some false)->
   ∀i r,Instr.findNow d AZ BL i=some r->∃BG,BL[j]?=some BG/\r=some (i+j,BG.val):=by
  intro es BL EJ
  induction EJ with
  |nil=>intro j e hj;simp at hj
  | @cons a BC l AT he _ ih=>
   intro j e hj ht hm i r hr
   simp only[Instr.findNow]at hr
   cases j with
   |zero=>
    simp at hj;subst hj
    split at hr
    .cases hr;exact⟨BC,rfl,rfl⟩
    .rename_i hs;have:=Oi ht hk he.key hs;cases this
    .cases hr
   |succ j=>
    split at hr
    .rename_i hs;have:=Oi (hm 0 a om rfl) hk he.key hs;cases this
    .obtain⟨BG,g1,g2⟩:=ih j e (by simpa using hj) ht (λm x BX hx=>hm (m+1) x om mI) (i+1) r hr
     exact⟨BG,by simpa using g1,by rw[g2];congr 2;omega⟩
    .cases hr
 refine⟨λhn=>?_,λj e hj ht hm=>?_⟩
 .simp only[Instr.findKey,EH,Ah hE hd,EO];split;.rename_i r hr;rw[akd EJ hn 0 r hr];rfl
  .exact ag5 EJ hn 0
 .simp only[Instr.findKey,EH,Ah hE hd,EO];obtain⟨BG,g1,g2⟩:=ag6 EJ j e hj ht hm 0;refine⟨BG,g1,?_⟩;split;.rename_i r hr;obtain⟨e2,q1,q2⟩:=ake EJ j e hj ht hm 0 r hr;rw[g1]at q1;cases q1;rw[q2,MD];rfl
  .rw[g2,MD]
end
theorem xm{p:Prop}(h:p:=by
 rename_i hu
 exact⟨by simp only[Instr.checkKey,EH,Ah hE hu,EO];cases AZ<;>rfl,_,hu⟩):p:=h
section
variable {P:Program}{E:Env}{w0:Array Obj}{AC:BF}{h AA:H}{w:World}{tm:T AV}{BQ:Operand->Value}{o:Oper}{v:AV}
theorem Ro{n:Nat}:∀{l:List (Nat×Nat×Sh)},Vp n l=true->∀p∈l,p.1<n
 | [],_=>by simp
 |a::l,h=>by
  unfold Vp at h;split at h
  .rename_i h1;intro p hp;rcases DD.1 hp with rfl|hp;.exact Al h1
   .exact Ro h p hp
  .cases h
theorem Mx(hE:DG P E){t:TypeId}{k:IntKind}(hu:DU E t=some (.int k))(b:Bool)(n:Nat)(x:Value):(Instr.checkKey b (n+1) t x).run P w= .ok () w:=by
 simp only[Instr.checkKey,EH,Ah hE hu,EO]
 cases x<;>rfl
theorem Ju(hE:DG P E){d:Nat}(b:Bool)(n:Nat){cs:Array Value}:∀(fs:List Field) (l:List (Nat×Nat×Sh)),fs.mapM (Hm E (Ay E d))=some l->fs.all (rJ E)=true->(∀p∈l,p.1<cs.size)->
  (forIn fs PUnit.unit (λ(f:Field) (_:PUnit)=>(do
   if f.name≠ "_" then Instr.checkKey b (n+1) f.type (<- part f.type cs f.offset)
   pure (ForInStep.yield PUnit.unit):Sem (ForInStep PUnit))):Sem PUnit).run P w= .ok PUnit.unit w
 | [],l,_,_,_=>by simp
 |f::fs,l,hl,ha,ho=>by
  simp only[nN,Option.bind_eq_bind,Option.bind_eq_some_iff]at hl
  obtain⟨p,h1,r,h2,h3⟩:=hl
  simp only[Option.pure_def,DB]at h3;subst h3
  simp only[List.all_cons,KQ]at ha
  have ih:=Ju hE b n fs r h2 ha.2 (λp hp=>ho p (Ck _ hp))
  have hi:=ha.1
  unfold rJ at hi
  split at hi
  .cases hi
  .rename_i tg
   split at hi
   .rename_i k hu
    unfold Hm at h1
    rw[tg]at h1
    simp only at h1
    split at h1
    .cases h1
     have BX:=ho _ (DW ..)
     simp only at BX
     have aB:Oc E f.type=some false:=by unfold Oc;rw[hu]
     have pE:(part f.type cs f.offset).run P w= .ok cs[f.offset] w:=by
      simp[part,Hp hE aB,SU BX]
     have BZ:f.name≠ "_" :=by intro e;rw[e]at tg;simp at tg
     simp only[List.forIn_cons,EH,AP BZ,pE,EO,Mx hE hu,IH,ih]
    .cases h1
   .cases hi
theorem Oj(hE:DG P E){t:TypeId}{sh:Sh}(hs:Hn E t=some sh):sh=Ay E 5 t:=by
 unfold Hn at hs;split at hs;.simp only[DB]at hs;exact hs.symm
 .simp only[DB]at hs;exact hs.symm
 .simp only[DB]at hs;exact hs.symm
 .split at hs;.simp only[DB]at hs;exact hs.symm
  .cases hs
 .cases hs
theorem ag4(n:Nat)(hE:DG P E){t:TypeId}{sh:Sh}{k:AV}{AZ:Value}(hs:Hn E t=some sh)(hk:Lz sh k=true)(hv:VR AC k AZ)(b:Bool):(Instr.checkKey b (n+2) t AZ).run P w= .ok () w/\∃d,DU E t=some d:=by
 have NW:=Oj hE hs;unfold Hn at hs;split at hs;.exact xm
 .rename_i j hu;exact⟨Mx hE hu b (n+1) AZ,_,hu⟩
 .exact xm
 .rename_i fs hu;refine⟨?_,_,hu⟩;split at hs
  .rename_i JF;unfold Ay at NW;rw[hu]at NW;simp only at NW;split at NW;.subst NW;simp[Lz]at hk
   .rename_i TK
    cases hm:fs.toList.mapM (Hm E (Ay E 4))with
    |none=>rw[hm]at NW;subst NW;simp[Lz]at hk
    |some l=>
     rw[hm]at NW;simp only at NW;subst NW;unfold Lz at hk;simp only at hk;split at hk;.rename_i xs;obtain⟨cs,rfl,dS⟩:=hv.bF;have hlen:=dS.length;simp only[WP]at hlen;have hf:=Ju (P:=P) (w:=w) hE b n (cs:=cs) fs.toList l hm JF (λp hp=>by rw[<-hlen];exact Ro hk p hp);rw[Instr.checkKey];simp only[EH,Ah hE hu,EO];rw[<-Array.forIn_toList];exact(HT (λr:Result PUnit=>r.andThen λa AY=>Sem.run P (pure ()) AY) hf).trans rfl
     .cases hk
  .cases hs
 .cases hs
theorem Rp(hE:DG P E){t:TypeId}{sh:Sh}{k:AV}{AZ:Value}(hs:Hn E t=some sh)(hk:Lz sh k=true)(hv:VR AC k AZ)(b:Bool):(Instr.checkKey b 10000 t AZ).run P w= .ok () w/\∃d,DU E t=some d:=ag4 9998 hE hs hk hv b
theorem Xz:∀{l m:List AV} {AT GF:List Value},J3 l m=true->CQ AC l AT->CQ AC m GF->AT=GF/\(∀n,(GF.zip AT).all (λx=>Instr.sameBits n x.1 x.2)=true)
 | [],[],_,_,_,h1,h2=>by cases h1;cases h2;simp
 | [],_::_,_,_,h,_,_=>by simp[J3]at h
 |_::_,[],_,_,h,_,_=>by simp[J3]at h
 |a::l,b::m,_,_,h,h1,h2=>by
  cases h1 with
  |cons ha hl=>
   cases h2 with
   |cons hb hm=>
    simp only[J3]at h;split at h
    .rename_i hi;obtain⟨e1,e2⟩:=Xz h hl hm
     cases a with
     |int k x=>cases b with
      |int j y=>
       simp only[Hl]at hi;split at hi;.rename_i hk;have hk:=Bp hk;subst hk;simp only[DB]at hi;rw[K5]at hi;have:=eq_of_beq hi;subst this;rw[ha.MK,hb.MK,e1];refine⟨rfl,λn=>?_⟩;have:=e2 n;rw[e1]at this;simp only[List.zip_cons_cons,List.all_cons,KQ];exact⟨by cases n<;>simp[Instr.sameBits],this⟩
       .cases hi
      |_=>simp[Hl]at hi
     |_=>simp[Hl]at hi
    .cases h
theorem Adi{k e:AV}{AZ BG:Value}(h:F7 k e=true)(hk:VR AC k AZ)(he:VR AC e BG):Instr.sameBits 10000 BG AZ=true:=by
 cases k with
 |int j a=>cases e with
  |int i b=>
   simp only[F7]at h;split at h;.rename_i hj;have:=Bp hj;subst this;rw[K5]at h;have:=eq_of_beq h;subst this;rw[hk.MK,he.MK];simp[Instr.sameBits]
   .cases h
  |_=>simp[F7]at h
 |bool a=>cases e with
  |bool b=>simp only[F7]at h;rw[hk.YF,he.YF];cases a<;>cases b<;>simp_all [dB,Instr.sameBits]
  |_=>simp[F7]at h
 |str a=>cases e with
  |str b=>simp only[F7]at h;obtain⟨x,rfl,hx⟩:=hk.aY;obtain⟨y,rfl,hy⟩:=he.aY;have:Oa b a=true:=(by rw[K2]at h ⊢;simp at h ⊢;exact h.symm);show(y==x)=true;rw[Ub hy hx];exact this
  |_=>simp[F7]at h
 |agg l=>cases e with
  |agg m=>simp only[F7]at h;obtain⟨x,rfl,hx⟩:=hk.bF;obtain⟨y,rfl,hy⟩:=he.bF;obtain⟨e1,e2⟩:=Xz h hx hy;have hxy:x=y:=fX e1;subst hxy;show(x.size==x.size&&(x.toList.zip x.toList).all λ(a,b)=>Instr.sameBits 9999 a b)=true;rw[beq_self_eq_true,Bool.true_and];exact e2 9999
  |_=>simp[F7]at h
 |_=>simp[F7]at h
theorem Ud{k e:AV}{AZ BG:Value}(h:F7 k e=true)(hk:VR AC k AZ)(he:VR AC e BG):(Instr.keyThatStays BG AZ).run P w= .ok AZ w:=by simp[Instr.keyThatStays,Adi h hk he]
theorem Hq(hE:DG P E){t:TypeId}{sh:Sh}{k:AV}{AZ:Value}(hs:Hn E t=some sh)(hv:VR AC k AZ){es:List FD}{BL:Array MapEntry}(EJ:GZ AC es BL.toList){r:Option FD}(hq:Jq sh k es=some r):
  (∀b,(Instr.checkKey b 10000 t AZ).run P w= .ok () w)/\
  (
     match r with
     |none=>(Instr.findKey t AZ BL.toList).run P w= .ok none w
     |some e=>∃j BG,es[j]?=some e/\BL[j]?=some BG/\ER AC e BG/\(Instr.findKey t AZ BL.toList).run P w= .ok (some (j,BG.val)) w/\
    ∀v KX,Vq (eqv 20 sh) k v es=some KX->KX=es.modify j (λe=>⟨k,v,e.born⟩)/\F7 k e.key=true):=by
 unfold Jq at hq
 split at hq
 .rename_i hk
  have hc:=λb=>(Rp (P:=P) (w:=w) hE hs hk hv b)
  obtain⟨d,hd⟩:=(hc true).2
  refine⟨λb=>(hc b).1,?_⟩
  have NW:=Oj hE hs
  subst NW
  obtain⟨f1,f2⟩:=Uc (w:=w) hE hd hv EJ
  cases r with
  |none=>exact f1 (Rl hq)
  |some e=>
   obtain⟨j,g1,g2,g3,g4⟩:=Rm hq
   obtain⟨BG,q1,q2⟩:=f2 j e g1 g2 g3
   obtain⟨e2,q3,q4⟩:=EJ.get g1
   rw[q1]at q3;cases q3
   exact⟨j,BG,g1,by simpa using q1,q4,q2,g4⟩
 .cases hq
variable (hr:HR E w0 AC h w.heap)(AW:R0 AC tm BQ)
include hr AW
omit hr AW in
theorem Cl{r:Nat}{es:Array MapEntry}{k:Nat}(hb:w.heap[r]?=some (.map es k)):(getObj r).run P w= .ok (.map es k) w:=by simp[getObj,Sem.run,hb]
def G6(w:World)(r:Nat)(ob:Obj):World:={w with heap:=w.heap.setIfInBounds r ob}
omit hr AW in
theorem Ej{r:Nat}{es:Array MapEntry}{k:Nat}(ob:Obj)(hb:w.heap[r]?=some (.map es k)):(setObj r ob).run P w= .ok () (G6 w r ob):=by simp[setObj,Sem.run,hb,G6]
theorem ag7(hE:DG P E){t kt e:TypeId}{sh:Sh}{z:AV}{m k:Operand}{ok:Bool}(hu:DU E t=some (.map kt e))(hs:Hn E kt=some sh)(hz:Pq E e=some z)(ho:o.op= .lookup t m k ok)(hx:exec (.lookup sh z (BK m) (BK k) ok) h tm= .val v AA):GE E w0 AC w h ((execOp BQ o).run P w) v AA:=by
 simp only[exec]at hx;obtain⟨zv,z1,z2⟩:=Q9 hE hz w;split at hx;.cases hx
 .rename_i es EJ;have key:∃BL:Array MapEntry,GZ AC es BL.toList/\((BQ m= .map none/\BL= #[])\/∃r c,BQ m= .map (some r)/\w.heap[r]?=some (.map BL c)):=by
   split at EJ;.rename_i hb;cases EJ;exact⟨#[],.nil,.inl ⟨VR.iZ (hb ▸ AW m),rfl⟩⟩
   .rename_i r hb;obtain⟨l,BY,ea⟩:=VR.aS (hb ▸ AW m);split at EJ;.rename_i es1 c hg;cases EJ;obtain⟨BL,h1,h2⟩:=HR.ZO hr BY hg;exact⟨BL,h2,.inr ⟨_,_,ea,h1⟩⟩
    .cases EJ
   .cases EJ
  obtain⟨BL,h1,h2⟩:=key
  have run:∀q u b,(∀b,(Instr.checkKey b 10000 kt (BQ k)).run P w= .ok () w)->(Instr.findKey kt (BQ k) BL.toList).run P w= .ok q w->
    ((∃i,q=some (i,u)/\b=true)\/(q=none/\u=zv/\b=false))->
    (execOp BQ o).run P w= .ok (.value (if ok=true then .tuple #[u,.bool b]else u)) w:=by
   intro q u b hc hf hq
   rcases h2 with⟨em,rfl⟩|⟨r,c,em,hb⟩
   .simp only[execOp,ho,Instr.lookup,EH,Ah hE hu,EO,em,IH,hc,hf]
    rcases hq with⟨i,rfl,rfl⟩|⟨rfl,rfl,rfl⟩
    .cases ok<;>simp
    .cases ok<;>simp[z1]
   .simp only[execOp,ho,Instr.lookup,EH,Ah hE hu,EO,em,IH,Cl hb,hc,hf]
    rcases hq with⟨i,rfl,rfl⟩|⟨rfl,rfl,rfl⟩
    .cases ok<;>simp
    .cases ok<;>simp[z1]
  split at hx
  .rename_i e1 hq;obtain⟨hc,j,BG,g1,g2,g3,g4,g5⟩:=Hq (P:=P) (w:=w) hE hs (AW k) h1 hq;cases hx;refine .same hr (run _ BG.val true hc g4 (.inl ⟨j,rfl,rfl⟩)) ?_
   cases ok with
   |true=>exact .BM (.cons g3.val (.cons (.bool _) .nil))
   |false=>exact g3.val
  .rename_i hq;obtain⟨hc,hf⟩:=Hq (P:=P) (w:=w) hE hs (AW k) h1 hq;cases hx;refine .same hr (run _ zv false hc hf (.inr ⟨rfl,rfl,rfl⟩)) ?_
   cases ok with
   |true=>exact .BM (.cons (z2 AC) (.cons (.bool _) .nil))
   |false=>exact z2 AC
  .cases hx
theorem HR.eN{r:Nat}{l:Loc}{es KX:List FD}{BL sP:Array MapEntry}{c BP:Nat}(BY:AC r=some l)(hg:H.get h r=some (.map es c))(h2:GZ AC KX sP.toList):HR E w0 AC (H.set h r (.map KX BP)) (w.heap.setIfInBounds l.cb (.map sP BP)):=hr.cJ BY hg rfl (.map h2) rfl
theorem aoe(hE:DG P E){t kt e:TypeId}{sh:Sh}{m k x:Operand}(hu:DU E t=some (.map kt e))(hs:Hn E kt=some sh)(ho:o.op= .mapUpdate t m k x)(hx:exec (.qU sh (BK m) (BK k) (BK x)) h tm= .val v AA):GE E w0 AC w h ((execOp BQ o).run P w) v AA:=by
 simp only[exec]at hx;split at hx
 .rename_i r hb;obtain⟨l,BY,ea⟩:=VR.aS (hb ▸ AW m);split at hx
  .rename_i es c hg;obtain⟨BL,h1,h2⟩:=HR.ZO hr BY hg;split at hx
   .rename_i e1 hq;obtain⟨hc,j,BG,g1,g2,g3,g4,g5⟩:=Hq (P:=P) (w:=w) hE hs (AW k) h2 hq;split at hx;.rename_i KX ZG;cases hx;obtain⟨q1,q2⟩:=g5 _ _ ZG;have HC:=Ud (P:=P) (w:=w) q2 (AW k) g3.key;have PG:GZ AC KX (BL.modify j λe=>{e with key:=BQ k,val:=BQ x}).toList:=(by rw[q1,Array.toList_modify];exact h2.modify λa BC _ _ h=>⟨AW k,AW x,h.born⟩);refine⟨AC,undef,G6 w l.cb (.map _ _),.refl _ _,.inr ⟨?_,rfl⟩,.FK _,HR.eN hr AW (BL:=BL) BY hg PG,⟨rfl,rfl,rfl⟩⟩;.simp only[execOp,ho,Instr.mapUpdate,EH,Ah hE hu,EO,ea,Cl h1,hc,g4,g2,KR,MC,HC,Ej _ h1,IH]
    .cases hx
   .rename_i hq;obtain⟨hc,hf⟩:=Hq (P:=P) (w:=w) hE hs (AW k) h2 hq;cases hx;have PG:GZ AC (List.append es [⟨ev tm (BK k),ev tm (BK x),c⟩]) (BL.push {key:=BQ k,val:=BQ x,born:=c}).toList:=(by rw[Array.toList_push];exact h2.append (.cons ⟨AW k,AW x,rfl⟩ .nil));refine⟨AC,undef,G6 w l.cb (.map _ _),.refl _ _,.inr ⟨?_,rfl⟩,.FK _,HR.eN hr AW (BL:=BL) BY hg PG,⟨rfl,rfl,rfl⟩⟩;.simp only[execOp,ho,Instr.mapUpdate,EH,Ah hE hu,EO,ea,Cl h1,hc,hf,Ej _ h1,IH]
   .cases hx
  .cases hx
 .cases hx
theorem aof(hE:DG P E){t kt e:TypeId}{sh:Sh}{z:AV}{m k:Operand}(hu:DU E t=some (.map kt e))(hs:Hn E kt=some sh)(hz:Pq E e=some z)(ho:o.op= .mapEntry t m k)(hx:exec (.qQ sh z (BK m) (BK k)) h tm= .val v AA):GE E w0 AC w h ((execOp BQ o).run P w) v AA:=by
 simp only[exec]at hx;obtain⟨zv,z1,z2⟩:=Q9 hE hz w;split at hx
 .rename_i r hb;obtain⟨l,BY,ea⟩:=VR.aS (hb ▸ AW m);split at hx
  .rename_i es c hg;obtain⟨BL,h1,h2⟩:=HR.ZO hr BY hg;split at hx
   .rename_i e1 hq;obtain⟨hc,j,BG,g1,g2,g3,g4,g5⟩:=Hq (P:=P) (w:=w) hE hs (AW k) h2 hq;split at hx;.rename_i KX ZG;cases hx;obtain⟨q1,q2⟩:=g5 _ _ ZG;have HC:=Ud (P:=P) (w:=w) q2 (AW k) g3.key;have PG:GZ AC KX (BL.modify j λe=>{e with key:=BQ k}).toList:=(by rw[q1,Array.toList_modify];refine h2.modify λa BC ha ha' h=>⟨AW k,?_,h.born⟩;rw[g1]at ha;cases ha;exact h.val);refine⟨AC,.tuple #[BG.val,goInt BG.born],G6 w l.cb (.map _ _),.refl _ _,.inl ?_,.BM (.cons g3.val (.cons (by rw[g3.born];exact .int _ _) .nil)),HR.eN hr AW (BL:=BL) BY hg PG,⟨rfl,rfl,rfl⟩⟩;.simp only[execOp,ho,Instr.mapEntry,EH,Ah hE hu,EO,ea,Cl h1,hc,g4,g2,KR,MC,HC,Ej _ h1,IH]
    .cases hx
   .rename_i hq;obtain⟨hc,hf⟩:=Hq (P:=P) (w:=w) hE hs (AW k) h2 hq;cases hx;have PG:GZ AC (List.append es [⟨ev tm (BK k),z,c⟩]) (BL.push {key:=BQ k,val:=zv,born:=c}).toList:=(by rw[Array.toList_push];exact h2.append (.cons ⟨AW k,z2 AC,rfl⟩ .nil));refine⟨AC,.tuple #[zv,goInt c],G6 w l.cb (.map _ _),.refl _ _,.inl ?_,.BM (.cons (z2 AC) (.cons (.int _ _) .nil)),HR.eN hr AW (BL:=BL) BY hg PG,⟨rfl,rfl,rfl⟩⟩;.simp only[execOp,ho,Instr.mapEntry,EH,Ah hE hu,EO,ea,Cl h1,hc,hf,z1,Ej _ h1,IH]
   .cases hx
  .cases hx
 .cases hx
omit hr AW in
theorem Ue{b:Nat}{v:AV}:∀{es KX:List FD},I0 b v es=some KX->∃j e,es[j]?=some e/\e.born=b/\(∀m x,m<j->es[m]?=some x->x.born≠b)/\KX=es.modify j (λe=>⟨e.key,v,e.born⟩)
 | [],_,h=>by simp[I0]at h
 |a::es,KX,h=>by
  simp only[I0]at h;split at h;.rename_i h1;cases h;exact⟨0,a,rfl,As h1,λm x hm=>absurd hm om,by simp⟩
  .rename_i h1;split at h
   .rename_i r hr;cases h;obtain⟨j,e,g1,g2,g3,rfl⟩:=Ue hr;refine⟨j+1,e,by simpa using g1,g2,λm x hm hx=>?_,by simp⟩
    cases m with
    |zero=>simp at hx;subst hx;exact Em h1
    |succ m=>exact g3 m x om mI
   .cases h
theorem ag8{t:TypeId}{m s x:Operand}(ho:o.op= .entryStore t m s x)(hx:exec (.qT (BK m) (BK s) (BK x)) h tm= .val v AA):GE E w0 AC w h ((execOp BQ o).run P w) v AA:=by
 simp only[exec]at hx;split at hx
 .rename_i r hb;obtain⟨l,BY,ea⟩:=VR.aS (hb ▸ AW m);split at hx
  .rename_i kk sn hsn;have es1:=VR.MK (hsn ▸ AW s);split at hx
   .rename_i es c hg;obtain⟨BL,h1,h2⟩:=HR.ZO hr BY hg;split at hx;.rename_i KX ZG;cases hx;obtain⟨j,e,g1,g2,g3,g4⟩:=Ue ZG;have tL:BL.findIdx? (λe=>(e.born:Int)==(sn:Int))=some j:=(by rw[Array.findIdx?_eq_some_iff_getElem];obtain⟨BG,q1,q2⟩:=h2.get g1;rw[UY]at q1;obtain⟨BX,q1⟩:=fY.1 q1;refine⟨BX,by rw[q1,<-q2.born,g2];simp,λm hm=>?_⟩;have te:m<es.length:=(by have:=(FE.1 g1).1;omega);obtain⟨Cb,p1,p2⟩:=h2.get (DA te);rw[UY]at p1;obtain⟨ab3,p1⟩:=fY.1 p1;have:=g3 m _ hm (DA te);rw[p1,<-p2.born];simp;omega);have PG:GZ AC KX (BL.modify j λe=>{e with val:=BQ x}).toList:=(by rw[g4,Array.toList_modify];exact h2.modify λa BC _ _ h=>⟨h.key,AW x,h.born⟩);refine⟨AC,undef,G6 w l.cb (.map _ _),.refl _ _,.inr ⟨?_,rfl⟩,.FK _,HR.eN hr AW (BL:=BL) BY hg PG,⟨rfl,rfl,rfl⟩⟩;simp only[execOp,ho,Instr.entryStore,EH,EO,ea,Cl h1,es1,asInt,asIntOf,IH];have ai5:BL.findIdx? (λe=>(e.born:Int)==Int.ofNat sn)=some j:=tL;simp only[ai5,Ej _ h1,EO]
    .cases hx
   .cases hx
  .cases hx
 .cases hx
theorem ag9(hE:DG P E){c:Call}{m k:Operand}{t kt e:TypeId}{r:List TypeId}{sh:Sh}(ho:o.op= .call c)(hc:c.callee= .builtin .delete)(ha:c.args.toList=[m,k])(ht:c.argTypes.toList=t::r)(hu:DU E t=some (.map kt e))(hs:Hn E kt=some sh)(hx:exec (.delete sh (BK m) (BK k)) h tm= .val v AA):GE E w0 AC w h ((execOp BQ o).run P w) v AA:=by
 simp only[exec]at hx;split at hx
 .rename_i r hb;obtain⟨l,BY,ea⟩:=VR.aS (hb ▸ AW m);split at hx
  .rename_i es cl hg;obtain⟨BL,h1,h2⟩:=HR.ZO hr BY hg;split at hx
   .rename_i KX tV hd;cases hx;rcases Rn hd with⟨g1,rfl⟩|⟨j,e0,g0,g1,g2,g3,rfl⟩;.have hq:Jq sh (ev tm (BK k)) KX=some none:=(by unfold Jq;rw[tV];exact g1);obtain⟨TC,hf⟩:=Hq (P:=P) (w:=w) hE hs (AW k) h2 hq;refine⟨AC,.tuple #[],G6 w l.cb (.map _ _),.refl _ _,.inl ?_,.BM .nil,HR.eN hr AW (BL:=BL) BY hg h2,⟨rfl,rfl,rfl⟩⟩;rw[Bq ho hc,Re ha,ea];simp[builtin,Builtin.delete_,J8 ht,Ah hE hu,Cl h1,TC,hf,Ej _ h1]
    .have hq:Jq sh (ev tm (BK k)) es=some (some e0):=(by unfold Jq;rw[tV];exact g0);obtain⟨TC,JU,BG,q1,q2,q3,q4,q5⟩:=Hq (P:=P) (w:=w) hE hs (AW k) h2 hq;have NW:=Oj hE hs;subst NW;obtain⟨d,dT⟩:=(Rp (P:=P) (w:=w) hE hs tV (AW k) true).2;obtain⟨e2,p1,p2⟩:=(Uc (w:=w) hE dT (AW k) h2).2 j e0 g1 g2 g3;have hjj:JU=j:=(by rw[q4]at p2;simp only[Result.ok.injEq,DB,fV]at p2;exact p2.1.1);subst hjj;refine⟨AC,.tuple #[],G6 w l.cb (.map _ _),.refl _ _,.inl ?_,.BM .nil,HR.eN hr AW (BL:=BL) (sP:=BL.eraseIdxIfInBounds JU) BY hg ?_,⟨rfl,rfl,rfl⟩⟩;.rw[Bq ho hc,Re ha,ea];simp[builtin,Builtin.delete_,J8 ht,Ah hE hu,Cl h1,TC,q4,Ej _ h1]
     .rw[Array.toList_eraseIdxIfInBounds];exact h2.erase JU
   .cases hx
  .cases hx
 .cases hx
