/- Part of the proof. -/
import Derived.Test.YtgkianlpkdfhkaaGreatT20
import Derived.ChangeSame
import Derived.DataReads
set_option linter.unusedVariables false
set_option linter.unusedSimpArgs false
set_option linter.unusedSectionVars false
namespace Go.Ev
open Go.ChangeShapes
noncomputable def ofG {α: Type}:Nat→List α→T α
 |_,[]=> .leaf
 |i,x::r=>T.set (ofG (i+1) r) i (some x)
theorem Xc {α: Type}: ∀(l:List α) (i j:Nat),T.get (ofG i l) j=if i≤j then l[j - i]? else none
 | [],i,j=>by simp only [ofG,T.get_leaf];split <;> simp
 |x::r,i,j=>by
  simp only [ofG,T.get_set,Xc r]
  by_cases h1:j=i
  ·subst h1;simp
  ·rw [if_neg h1]
   by_cases h2:i+1≤j
   ·rw [if_pos h2,if_pos (by omega),show j - i=(j - (i+1))+1 by omega,List.getElem?_cons_succ]
   ·rw [if_neg h2,if_neg (by omega)]
theorem Aaf {α: Type}(l:List α)(j:Nat):T.get (ofG 0 l) j=l[j]?:=by rw [Xc,if_pos (Nat.zero_le _),Nat.sub_zero]
section
variable {W:World}{a:Addr}{k cap:Nat}
theorem Zq {v:Value}(h:W.cell? a=some v):a.spot=none∧ ∃cs e fr,W.heap[a.block]?=some (.cells cs e fr)∧cs[a.off]?=some v:=by
 unfold World.cell? at h
 split at h
 ·rename_i cs e fr hb
  cases hs:a.spot with
  |none=>rw [hs]at h;exact⟨rfl,cs,e,fr,hb,h⟩
  |some _=>rw [hs]at h;cases h
 ·cases h
theorem vw {n:Nat}(h:a.spot=none):a.add n=⟨a.block,a.off+n,none⟩:=by
 unfold Addr.add
 obtain⟨b,o,s⟩:=a
 split
 ·rename_i h0;subst h0;simp only at h;subst h;rfl
 ·rfl
theorem Tw (hk:0<k)(hcap:0<cap){f:Nat→List Value}(h: ∀i,i<cap→W.cells? 0 (a.add (i*k)) k=some (f i)):
  ∃cs e fr,a.spot=none∧W.heap[a.block]?=some (.cells cs e fr)∧a.off+cap*k≤cs.size∧ ∀i j,i<cap→j<k→cs[a.off+(i*k+j)]?=(f i)[j]?:=by
 have h0:=World.cells?_some (h 0 hcap)
 have c0:=h0.2.2 0 hk
 have hl0:=h0.2.1
 rw [List.getElem?_eq_getElem (by omega)]at c0
 have e0:(a.add (0*k)).add 0=a:=by rw [Nat.zero_mul];rfl
 rw [e0]at c0
 obtain⟨hs,cs,e,fr,hb,-⟩:=Zq c0
 have key: ∀i j,i<cap→j<k→cs[a.off+(i*k+j)]?=(f i)[j]?:=by
  intro i j hi hj
  have h1:=(World.cells?_some (h i hi)).2.2 j hj
  rw [vw hs,B9,In hb]at h1
  rw [←h1,Nat.add_assoc]
 refine⟨cs,e,fr,hs,hb,?_,key⟩
 have h1:=key (cap - 1) (k - 1) (by omega) (by omega)
 have h2:=(World.cells?_some (h (cap - 1) (by omega))).2.1
 rw [List.getElem?_eq_getElem (by omega)]at h1
 have h3:=(Array.getElem?_eq_some_iff.1 h1).1
 have h4:cap*k=(cap - 1)*k+k:=by
  have:(cap - 1+1)*k=(cap - 1)*k+k:=by rw [Nat.add_mul,Nat.one_mul]
  rwa [show cap - 1+1=cap by omega]at this
 omega
end
section
variable {H:Type}{enc:TypeId×Value→H}{P:Program}{W:World}{held:Bool}{t e:TypeId}{fuel:Nat}
theorem O8 (ht:P.underlying t=some (.slice e)){v:Value}{y:DataW H×List MemPlace}(h:DataW.trod enc P W 0 (fun _=>true) held fuel t [v]=some y):
  v= .slice none 0 0∨ ∃a len cap n,v= .slice (some a) len cap∧len≤cap∧ ∀i,i<cap→ ∃c z,W.cells? 0 (a.add (i*P.cellsOf e)) (P.cellsOf e)=some c∧DataW.trod enc P W 0 (fun _=>true) held n e c=some z:=by
 rcases DataW.trod_slice ht h with⟨h1,-⟩|⟨a,len,cap,elems,rest,n,-,h1,-,-,hle,-,hlen,hel,hsp,-⟩
 ·left;simpa using h1
 ·right
  refine⟨a,len,cap,n,by simpa using h1,hle,fun i hi=>?_⟩
  obtain⟨hr1,hr2⟩:=hsp rfl
  have: ∃z,(W.cells? 0 (a.add (i*P.cellsOf e)) (P.cellsOf e)).bind (DataW.trod enc P W 0 (fun _=>true) held n e)=some z:=by
   by_cases hi2:i<len
   ·rw [hel i hi2]
    exact⟨_,List.getElem?_eq_getElem (by omega)⟩
   ·have:=hr2 (i - len) (by omega)
    rw [show len+(i - len)=i by omega]at this
    rw [this]
    exact⟨_,List.getElem?_eq_getElem (by omega)⟩
  obtain⟨z,hz⟩:=this
  rw [Option.bind_eq_some_iff]at hz
  obtain⟨c,h2,h3⟩:=hz
  exact⟨c,z,h2,h3⟩
theorem dt1 {cs:List Value}{o:Nat}{v:Value}(h:(cs.drop o).take 1= [v]):cs[o]?=some v:=by
 have:=congrArg (fun l=>l[0]?) h
 simpa [List.getElem?_take,List.getElem?_drop]using this
theorem Lw {k:IntKind}{cs:List Value}{o:Nat}{z:DataW H×List MemPlace}{sp:Nat→Bool}(ht:P.underlying t=some (.int k))(hc:P.cellsOf t=1)(h:DataW.trod enc P W 0 sp held fuel t ((cs.drop o).take (P.cellsOf t))=some z):
  ∃n,cs[o]?=some (.int k n)∧(Lit.int k n).wf=true:=by
 rw [hc]at h
 obtain⟨n,h1,-,h2⟩:=DataW.trod_int ht h
 exact⟨n,dt1 h1,h2⟩
end
structure TyA (P:Program):Prop where
 u3:P.underlying 3=some (.int .i64)
 c3:P.cellsOf 3=1
 u24:P.underlying 24=some (.slice 3)
 c24:P.cellsOf 24=1
 u25:P.underlying 25=some (.slice 38)
 u38: ∃fs,P.underlying 38=some (.struct fs)∧fs.map (fun f=>(f.type,f.offset))= #[(3,0),(3,1),(24,2)]
 c38:P.cellsOf 38=3
theorem fld {fs:Array Field}{A:Array (TypeId×Nat)}(h:fs.map (fun f=>(f.type,f.offset))=A){i:Nat}{t:TypeId}{o:Nat}(hi:A[i]?=some (t,o)): ∃f,fs[i]?=some f∧f.type=t∧f.offset=o:=by
 subst h
 rw [Array.getElem?_map,Option.map_eq_some_iff]at hi
 obtain⟨f,h1,h2⟩:=hi
 cases h2
 exact⟨f,h1,rfl,rfl⟩
section
variable {H:Type}{enc:TypeId×Value→H}{P:Program}{W:World}{held:Bool}
theorem jn {t:TypeId}{n0:Nat}{cs:List Value}{x:DataW H×List MemPlace}{A:Array (TypeId×Nat)}{sp:Nat→Bool}(hu: ∃fs,P.underlying t=some (.struct fs)∧fs.map (fun f=>(f.type,f.offset))=A)
  (h:DataW.trod enc P W 0 sp held n0 t cs=some x):cs.length=P.cellsOf t∧ ∃n,∀(i:Nat) (t':TypeId) (o:Nat),A[i]?=some (t',o)→ ∃z,DataW.trod enc P W 0 sp held n t' ((cs.drop o).take (P.cellsOf t'))=some z:=by
 obtain⟨fs,h1,h2⟩:=hu
 obtain⟨xs,n,-,-,hl,hlen,hf⟩:=DataW.trod_struct h1 h
 refine⟨hl,n,fun i t' o hi=>?_⟩
 obtain⟨f,h3,h4,h5⟩:=fld h2 hi
 have h6:=hf i f h3
 have h7:=(Array.getElem?_eq_some_iff.1 h3).1
 rw [h4,h5]at h6
 rw [h6]
 exact⟨_,List.getElem?_eq_getElem (by omega)⟩
theorem zk {α: Type}{n:Nat}(hn:0<n){R:Nat→α→Prop}(h: ∀i,i<n→ ∃y,R i y): ∃f:Nat→α,∀i,i<n→R i (f i):=by
 have: ∀i,∃y,i<n→R i y:=fun i=>by
  by_cases hi:i<n
  ·obtain⟨y,hy⟩:=h i hi;exact⟨y,fun _=>hy⟩
  ·obtain⟨y,-⟩:=h 0 hn;exact⟨y,fun q=>absurd q hi⟩
 exact Classical.axiomOfChoice this
theorem Qv {α: Type}(f:Nat→α)(n i:Nat)(x:α)(h:((List.range n).map f)[i]?=some x):i<n∧x=f i:=by
 rw [List.getElem?_map,Option.map_eq_some_iff]at h
 obtain⟨j,h1,h2⟩:=h
 obtain⟨h3,h4⟩:=List.getElem?_eq_some_iff.1 h1
 rw [List.length_range]at h3
 rw [List.getElem_range]at h4
 subst h4
 exact⟨h3,h2.symm⟩
theorem pu (l:List AV)(i:Nat):T.get (ofL 0 (.leaf:T AV) l) i=l[i]?:=G4 l i
def InO (W:World)(v:Value)(x:List Int×Option Loc):Prop:=
 match x.2 with
 |none=>x.1= []∧(v= .slice none 0 0∨ ∃a,v= .slice (some a) 0 0)
 |some l=> ∃cap cs e fr,v= .slice (some ⟨l.cb,l.base,none⟩) x.1.length cap∧x.1.length≤cap∧l.base+cap*1≤l.csz∧W.heap[l.cb]?=some (.cells cs e fr)∧cs.size=l.csz∧ ∀i y,x.1[i]?=some y→cs[l.base+i]?=some (.int .i64 y)
theorem Qw (T:TyA P){n0:Nat}{v:Value}{y:DataW H×List MemPlace}(h:DataW.trod enc P W 0 (fun _=>true) held n0 24 [v]=some y): ∃x,InO W v x:=by
 rcases O8 T.u24 h with rfl|⟨a,len,cap,n,rfl,hle,hc⟩
 ·exact⟨([],none),rfl,.inl rfl⟩
 ·by_cases hcap:cap=0
  ·subst hcap
   obtain rfl:len=0:=by omega
   exact⟨([],none),rfl,.inr ⟨a,rfl⟩⟩
  ·rw [T.c3]at hc
   have hc2: ∀i,i<cap→ ∃e:Int,W.cells? 0 (a.add (i*1)) 1=some [.int .i64 e]:=fun i hi=>by
    obtain⟨c,z,h1,h2⟩:=hc i hi
    obtain⟨e,h3,-⟩:=DataW.trod_int T.u3 h2
    exact⟨e,by rw [h1,h3]⟩
   obtain⟨f,hf⟩:=zk (Nat.pos_of_ne_zero hcap) hc2
   obtain⟨cs,e,fr,hs,hb,hsz,hk⟩:=Tw (k:=1) (f:=fun i=> [.int .i64 (f i)]) (by omega) (Nat.pos_of_ne_zero hcap) hf
   obtain⟨ab,ao,spt9⟩:=a
   simp only at hs hb hsz hk
   subst hs
   have hlen:((List.range len).map f).length=len:=by simp
   refine⟨((List.range len).map f,some ⟨ab,ao,cs.size⟩),cap,cs,e,fr,?_,?_,hsz,hb,rfl,fun i y hi=>?_⟩
   ·show _=Value.slice (some ⟨ab,ao,none⟩) ((List.range len).map f).length cap
    rw [hlen]
   ·show((List.range len).map f).length≤cap
    rw [hlen];exact hle
   ·obtain⟨h1,rfl⟩:=Qv f len i y hi
    have:=hk i 0 (by omega) (by omega)
    rw [Nat.mul_one,Nat.add_zero]at this
    exact this
abbrev Tx:=Int×Int×Value×(List Int×Option Loc)
def acV (y:Tx):List Value:= [.int .i64 y.1,.int .i64 y.2.1,y.2.2.1]
def AO (W:World)(v:Value)(x:List Tx×Option Loc):Prop:=
 (∀y∈x.1,InO W y.2.2.1 y.2.2.2)∧match x.2 with
 |none=>x.1= []∧(v= .slice none 0 0∨ ∃a,v= .slice (some a) 0 0)
 |some l=> ∃cap cs e fr,v= .slice (some ⟨l.cb,l.base,none⟩) x.1.length cap∧x.1.length≤cap∧l.base+cap*3≤l.csz∧W.heap[l.cb]?=some (.cells cs e fr)∧cs.size=l.csz∧ ∀i y,x.1[i]?=some y→ ∀j,j<3→cs[l.base+(i*3+j)]?=(acV y)[j]?
theorem jo (T:TyA P){n0:Nat}{cs:List Value}{x:DataW H×List MemPlace}(h:DataW.trod enc P W 0 (fun _=>true) held n0 38 cs=some x): ∃y:Tx,cs=acV y∧InO W y.2.2.1 y.2.2.2:=by
 obtain⟨hl,n,hf⟩:=jn T.u38 h
 rw [T.c38]at hl
 obtain⟨z0,h0⟩:=hf 0 3 0 rfl
 obtain⟨z1,h1⟩:=hf 1 3 1 rfl
 obtain⟨z2,h2⟩:=hf 2 24 2 rfl
 obtain⟨a,a1,-⟩:=Lw T.u3 T.c3 h0
 obtain⟨b,b1,-⟩:=Lw T.u3 T.c3 h1
 rw [T.c24]at h2
 have e2:(cs.drop 2).take 1= [cs[2]]:=by
  rw [List.drop_eq_getElem_cons (show 2<cs.length by omega)];rfl
 rw [e2]at h2
 obtain⟨x,hx⟩:=Qw T h2
 refine⟨(a,b,cs[2],x),List.ext_getElem? fun i=>?_,hx⟩
 rcases i with _|_|_|i
 ·exact a1
 ·exact b1
 ·exact List.getElem?_eq_getElem (by omega)
 ·rw [List.getElem?_eq_none (by omega)];rfl
theorem Zr (T:TyA P){n0:Nat}{v:Value}{y:DataW H×List MemPlace}(h:DataW.trod enc P W 0 (fun _=>true) held n0 25 [v]=some y): ∃x,AO W v x:=by
 rcases O8 T.u25 h with rfl|⟨a,len,cap,n,rfl,hle,hc⟩
 ·exact⟨([],none),(fun y hy=>by cases hy),rfl,.inl rfl⟩
 ·by_cases hcap:cap=0
  ·subst hcap
   obtain rfl:len=0:=by omega
   exact⟨([],none),(fun y hy=>by cases hy),rfl,.inr ⟨a,rfl⟩⟩
  ·rw [T.c38]at hc
   have hc2: ∀i,i<cap→ ∃y:Tx,W.cells? 0 (a.add (i*3)) 3=some (acV y)∧InO W y.2.2.1 y.2.2.2:=fun i hi=>by
    obtain⟨c,z,h1,h2⟩:=hc i hi
    obtain⟨y,rfl,h3⟩:=jo T h2
    exact⟨y,h1,h3⟩
   obtain⟨f,hf⟩:=zk (Nat.pos_of_ne_zero hcap) hc2
   obtain⟨cs,e,fr,hs,hb,hsz,hk⟩:=Tw (k:=3) (f:=fun i=>acV (f i)) (by omega) (Nat.pos_of_ne_zero hcap) fun i hi=>(hf i hi).1
   obtain⟨ab,ao,spt9⟩:=a
   simp only at hs hb hsz hk
   subst hs
   have hlen:((List.range len).map f).length=len:=by simp
   refine⟨((List.range len).map f,some ⟨ab,ao,cs.size⟩),(fun y hy=>?_),cap,cs,e,fr,?_,?_,hsz,hb,rfl,fun i y hi j hj=>?_⟩
   ·obtain⟨i,h1,rfl⟩:=List.mem_map.1 hy
    have:=List.mem_range.1 h1
    exact(hf i (by omega)).2
   ·show _=Value.slice (some ⟨ab,ao,none⟩) ((List.range len).map f).length cap
    rw [hlen]
   ·show((List.range len).map f).length≤cap
    rw [hlen];exact hle
   ·obtain⟨h1,rfl⟩:=Qv f len i y hi
    exact hk i j (by omega) hj
end
def Ed (rows:List (Option Loc×List AV)):Phi:=fun b=>(rows[b]?).bind (·.1)
noncomputable def Ms (rows:List (Option Loc×List AV)):H:=⟨rows.length,ofG 0 (rows.map fun r=>Lf r.2)⟩
theorem O9 {rows:List (Option Loc×List AV)}{b:Nat}:H.get (Ms rows) b=(rows[b]?).map fun r=>Lf r.2:=by
 show T.get (ofG 0 (rows.map fun r=>Lf r.2)) b=_
 rw [Aaf,List.getElem?_map]
theorem Xd {rows:List (Option Loc×List AV)}{b:Nat}{o:Option Loc}{c:List AV}(h:rows[b]?=some (o,c)):Rk (Ms rows) b c:=
 ⟨⟨true,by rw [O9,h];rfl⟩,(List.getElem?_eq_some_iff.1 h).1⟩
section
variable {P:Program}{E:Env}{W:World}
theorem pv {rows:List (Option Loc×List AV)}(hb: ∀(b:Nat) (l:Loc) (c:List AV),rows[b]?=some (some l,c)→ ∃o,W.heap[l.cb]?=some o∧BR E (Ed rows) l (Lf c) o):HR E W.heap (Ed rows) (Ms rows) W.heap:=by
 have key: ∀b l,Ed rows b=some l→ ∃c,rows[b]?=some (some l,c):=by
  intro b l h
  unfold Ed at h
  rw [Option.bind_eq_some_iff]at h
  obtain⟨⟨o,c⟩,h1,h2⟩:=h
  simp only at h2
  subst h2
  exact⟨c,h1⟩
 have ro: ∀b x,H.get (Ms rows) b=some x→roB x=true:=by
  intro b x h
  rw [O9,Option.map_eq_some_iff]at h
  obtain⟨r,-,rfl⟩:=h
  rfl
 refine⟨fun b l h=>?_,fun b l h=>?_,fun b l x h hx=>?_,fun b b' l l' x x' _ _ hx _ hr _=>?_,fun b l x _ hx hr=>?_,fun _ _=>rfl,Nat.le_refl _⟩
 ·obtain⟨c,h1⟩:=key b l h
  exact(List.getElem?_eq_some_iff.1 h1).1
 ·obtain⟨c,h1⟩:=key b l h
  obtain⟨o,h2,-⟩:=hb b l c h1
  rcases Nat.lt_or_ge l.cb W.heap.size with h'|h'
  ·exact h'
  ·rw [Array.getElem?_eq_none h']at h2;cases h2
 ·obtain⟨c,h1⟩:=key b l h
  rw [O9,h1]at hx
  cases hx
  exact hb b l c h1
 ·rw [ro b x hx]at hr;cases hr
 ·rw [ro b x hx]at hr;cases hr
theorem jp {φ: Phi}{l:Loc}{xs:List AV}{cs:Array Value}{e:TypeId}{fr:Nat×Nat}(hs:cs.size=l.csz)(hn:l.base+xs.length≤cs.size)(h: ∀(i:Nat) (v:AV),xs[i]?=some v→ ∃v',cs[l.base+i]?=some v'∧VR φ v v'):
  BR E φ l (Lf xs) (.cells cs e fr):=
 .cells (fun q=>by cases q) hs hn fun i v hi hv=>h i v (by rw [pu]at hv;exact hv)
theorem px {α: Type}{f:α→List AV}{k:Nat}(hk:0<k)(l:List α)(hl: ∀x∈l,(f x).length=k){i:Nat}{v:AV}(h:(l.flatMap f)[i]?=some v): ∃x,l[i / k]?=some x∧(f x)[i % k]?=some v∧i / k*k+i % k=i:=by
 have h1:i<(l.flatMap f).length:=(List.getElem?_eq_some_iff.1 h).1
 rw [Dg l hl]at h1
 have h2:i / k<l.length:=by rw [Nat.div_lt_iff_lt_mul hk];exact h1
 have h3:i / k*k+i % k=i:=by rw [Nat.mul_comm];exact Nat.div_add_mod i k
 refine⟨l[i / k],List.getElem?_eq_getElem h2,?_,h3⟩
 rw [←Dy l hl (i / k) (i % k) _ (List.getElem?_eq_getElem h2) (Nat.mod_lt _ hk),h3]
 exact h
def iAV (b:Nat)(v:Value)(x:List Int×Option Loc):AV:=match x.2 with
 |none=>(match v with
  | .slice none _ _=> .nils
  |_=> .opq v)
 |some _=> .slc b 0 x.1.length (Aa+1)
theorem jq {φ: Phi}{b:Nat}{v:Value}{x:List Int×Option Loc}(h:InO W v x)(hφ: φ b=x.2):VR φ (iAV b v x) v:=by
 obtain⟨xs,ol⟩:=x
 cases ol with
 |none=>
  obtain⟨-,rfl|⟨a,rfl⟩⟩:=h
  ·exact .nils
  ·exact .opq _
 |some l=>
  obtain⟨cap,cs,e,fr,rfl,h1,h2,-,-,-⟩:=h
  exact .slcU hφ h1 h2 fun _=>rfl
theorem Xe {φ: Phi}{v:Value}{x:List Int×Option Loc}{l:Loc}(h:InO W v x)(hl:x.2=some l): ∃o,W.heap[l.cb]?=some o∧BR E φ l (Lf (x.1.map eI)) o:=by
 obtain⟨xs,ol⟩:=x
 simp only at hl
 subst hl
 obtain⟨cap,cs,e,fr,rfl,h1,h2,h3,h4,h5⟩:=h
 simp only at h1 h5
 refine⟨_,h3,jp h4 (by rw [List.length_map];show l.base+xs.length≤cs.size;omega) fun i u hi=>?_⟩
 rw [List.getElem?_map,Option.map_eq_some_iff]at hi
 obtain⟨y,hy,rfl⟩:=hi
 exact⟨_,h5 i y hy,.int _ _⟩
theorem Xf {rows:List (Option Loc×List AV)}{b:Nat}{v:Value}{x:List Int×Option Loc}(h:InO W v x)(hr:rows[b]?=some (x.2,x.1.map eI)):IntsR (fun _=>0) (Ms rows) (iAV b v x) x.1:=by
 obtain⟨xs,ol⟩:=x
 cases ol with
 |none=>
  obtain⟨e,rfl|⟨a,rfl⟩⟩:=h
  ·exact⟨.inl ⟨e,rfl⟩⟩
  ·exact⟨.inr (.inl ⟨e,a,rfl⟩)⟩
 |some l=>exact⟨.inr (.inr ⟨b,_,rfl,Xd hr,rfl⟩)⟩
def vx (i:Nat)(y:Tx):Act:=((y.1,y.2.1,y.2.2.2.1),iAV (i+2) y.2.2.1 y.2.2.2)
def Ih (ys:List Tx):List Act:=ys.mapIdx vx
theorem Qx {ys:List Tx}{i:Nat}:(Ih ys)[i]?=(ys[i]?).map (vx i):=by unfold Ih;rw [List.getElem?_mapIdx]
def Ku (fx:List Int×Option Loc)(ax:List Tx×Option Loc):List (Option Loc×List AV):=(fx.2,fx.1.map eI)::(ax.2,(Ih ax.1).flatMap acC)::ax.1.map fun y=>(y.2.2.2.2,y.2.2.2.1.map eI)
theorem Vy {H1:Type}{enc:TypeId×Value→H1}{held:Bool}(Ty:TyA P){n0 n1:Nat}{v2 v3:Value}{y2 y3:DataW H1×List MemPlace}(h2:DataW.trod enc P W 0 (fun _=>true) held n0 24 [v2]=some y2)(h3:DataW.trod enc P W 0 (fun _=>true) held n1 25 [v3]=some y3):
  ∃(h0:H) (φ: Phi) (av2 av3:AV) (fl:List Int) (al:List Act),VR φ av2 v2∧VR φ av3 v3∧HR E W.heap φ h0 W.heap∧IntsR (fun _=>0) h0 av2 fl∧AcR (fun _=>0) h0 av3 al:=by
 obtain⟨fx,hf⟩:=Qw Ty h2
 obtain⟨ax,ha0,ha⟩:=Zr Ty h3
 have rowI: ∀i y,ax.1[i]?=some y→(Ku fx ax)[i+2]?=some (y.2.2.2.2,y.2.2.2.1.map eI):=by
  intro i y hi
  show(ax.1.map _)[i]?=_
  rw [List.getElem?_map,hi];rfl
 have phiI: ∀i y,ax.1[i]?=some y→Ed (Ku fx ax) (i+2)=y.2.2.2.2:=by
  intro i y hi
  unfold Ed
  rw [rowI i y hi];rfl
 have hlen:(Ih ax.1).length=ax.1.length:=by unfold Ih;rw [List.length_mapIdx]
 have hr:HR E W.heap (Ed (Ku fx ax)) (Ms (Ku fx ax)) W.heap:=by
  refine pv fun b l c hb=>?_
  rcases b with _|_|i
  ·have hb:some (fx.2,fx.1.map eI)=some (some l,c):=hb
   obtain⟨e1,e2⟩:=Prod.mk.inj (Option.some.inj hb)
   rw [←e2]
   exact Xe hf e1
  ·have hb:some (ax.2,(Ih ax.1).flatMap acC)=some (some l,c):=hb
   obtain⟨e1,e2⟩:=Prod.mk.inj (Option.some.inj hb)
   rw [←e2]
   rw [e1]at ha
   obtain⟨cap,cs,e,fr,rfl,g1,g2,g3,g4,g5⟩:=ha
   refine⟨_,g3,jp g4 ?_ fun i u hi=>?_⟩
   ·rw [Dg _ (Ng _),hlen]
    have:ax.1.length*3≤cap*3:=Nat.mul_le_mul_right 3 g1
    omega
   ·obtain⟨q,q1,q2,q3⟩:=px (by omega) _ (Ng _) hi
    rw [Qx,Option.map_eq_some_iff]at q1
    obtain⟨y,hy,rfl⟩:=q1
    have g6:=g5 (i / 3) y hy (i % 3) (Nat.mod_lt _ (by omega))
    rw [q3]at g6
    have hV:VRs (Ed (Ku fx ax)) (acC (vx (i / 3) y)) (acV y):= .cons (.int _ _) (.cons (.int _ _) (.cons (jq (ha0 y (List.mem_of_getElem? hy)) (phiI _ y hy)) .nil))
    obtain⟨u',h7,h8⟩:=hV.get q2
    exact⟨u',by rw [g6];exact h7,h8⟩
  ·have hb:(ax.1.map fun y=>(y.2.2.2.2,y.2.2.2.1.map eI))[i]?=some (some l,c):=hb
   rw [List.getElem?_map,Option.map_eq_some_iff]at hb
   obtain⟨y,hy,e⟩:=hb
   obtain⟨e1,e2⟩:=Prod.mk.inj e
   rw [←e2]
   exact Xe (ha0 y (List.mem_of_getElem? hy)) e1
 have el: ∀x∈Ih ax.1,IntsR (fun _=>0) (Ms (Ku fx ax)) x.2 x.1.2.2:=by
  intro x hx
  obtain⟨i,hi,e⟩:=List.getElem_of_mem hx
  have h1:(Ih ax.1)[i]?=some x:=by rw [List.getElem?_eq_getElem hi,e]
  rw [Qx,Option.map_eq_some_iff]at h1
  obtain⟨y,hy,rfl⟩:=h1
  exact Xf (ha0 y (List.mem_of_getElem? hy)) (rowI i y hy)
 have hv2:VR (Ed (Ku fx ax)) (iAV 0 v2 fx) v2:=jq hf rfl
 have hi2:IntsR (fun _=>0) (Ms (Ku fx ax)) (iAV 0 v2 fx) fx.1:=Xf hf rfl
 cases he:ax.2 with
 |none=>
  rw [he]at ha
  obtain⟨e,rfl|⟨a,rfl⟩⟩:=ha
  ·exact⟨_,_,_,.nils,_,Ih ax.1,hv2,.nils,hr,hi2,el,.inl ⟨by rw [e];rfl,rfl⟩⟩
  ·exact⟨_,_,_,.opq _,_,Ih ax.1,hv2,.opq _,hr,hi2,el,.inr (.inl ⟨by rw [e];rfl,a,rfl⟩)⟩
 |some l=>
  have hp:Ed (Ku fx ax) 1=some l:=he
  rw [he]at ha
  obtain⟨cap,cs,e,fr,rfl,g1,g2,g3,g4,g5⟩:=ha
  exact⟨_,_,_,.slc 1 0 ax.1.length (Aa+3),_,Ih ax.1,hv2,.slcU hp g1 g2 fun _=>rfl,hr,hi2,el,.inr (.inr ⟨1,Aa+3,by rw [hlen],Xd (b:=1) rfl,rfl⟩)⟩
end
end Go.Ev
