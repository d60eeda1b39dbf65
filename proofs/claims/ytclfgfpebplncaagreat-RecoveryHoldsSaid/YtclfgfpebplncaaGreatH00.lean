/- Part of the proof. -/
import GoSem.Step
import Derived.Calls
import Derived.Laws.Cells
import Derived.Laws.World
import Derived.Laws.Sem
import Derived.Laws.StructEq
import Derived.Laws.BytesString
import Derived.Laws.Append
import Derived.Laws.AppendOwn
set_option linter.unusedVariables false
set_option linter.unusedSimpArgs false
set_option linter.unusedSectionVars false
namespace Go.Ev
inductive AFn where
 |func (f:Nat)
 |yield (l:Nat)
inductive AV where
 |bool (b:Bool)
 |int (k:IntKind) (n:Int)
 |str (s:List Nat)
 |nilp
 |ptr (b o:Nat)
 |nils
 |slc (b o len cap:Nat)
 |nilm
 |map (r:Nat)
 |fn (f:AFn) (args cap:List AV)
 |nilf
 |ifc (t:Nat) (v:AV)
 |nili
 |agg (l:List AV)
 |tup (l:List AV)
 |opq (v:Value)
 |unk
def Aa:Nat:=4611686018427387904
inductive T (α: Type) where
 |leaf
 |node (l:T α) (v:Option α) (r:T α)
noncomputable def T.get {α: Type}(t:T α):Nat→Option α:=
 @T.rec α (fun _=>Nat→Option α) (fun _=>none)
  (fun _ v _ gl gr n=> @Nat.rec (fun _=>Option α) v (fun m _=> @Bool.rec (fun _=>Option α) (gr (Nat.div m 2)) (gl (Nat.div m 2)) (Nat.beq (Nat.mod m 2) 0)) n) t
noncomputable def T.single {α: Type}(x:Option α)(f:Nat):Nat→T α:=
 @Nat.rec (fun _=>Nat→T α) (fun _=> .leaf)
  (fun _ ih n=> @Nat.rec (fun _=>T α) (.node .leaf x .leaf) (fun m _=> @Bool.rec (fun _=>T α) (.node .leaf none (ih (Nat.div m 2))) (.node (ih (Nat.div m 2)) none .leaf) (Nat.beq (Nat.mod m 2) 0)) n) f
noncomputable def T.set {α: Type}(t:T α)(n:Nat)(x:Option α):T α:=
 @T.rec α (fun _=>Nat→T α) (fun n=>T.single x (Nat.succ n) n)
  (fun l v r gl gr n=> @Nat.rec (fun _=>T α) (.node l x r) (fun m _=> @Bool.rec (fun _=>T α) (.node l v (gr (Nat.div m 2))) (.node (gl (Nat.div m 2)) v r) (Nat.beq (Nat.mod m 2) 0)) n) t n
structure AEnt where
 key:AV
 val:AV
 born:Nat
inductive LS where
 |ready|busy|done|exhausted
inductive O where
 |t (i:Nat)
 |c (v:AV)
inductive Sh where
 |pbool
 |pint
 |pstr
 |ptr
 |iface
 |agg (parts:List (Nat×Nat×Sh))
 |nilS
 |nilM
 |nilF
 |bad
inductive COp where
 |mv (x:O)
 |pick (c a b:O)
 |alloc (cells:List AV)
 |box (n:Nat) (x:O)
 |build (zero:List AV) (parts:List (Nat×Nat×O))
 |bslice (len:Nat) (cells:List AV) (parts:List (Nat×Nat×O))
 |load1 (a:O)
 |loadN (n:Nat) (a:O)
 |store (n:Nat) (a x:O)
 |nilc (x:O)
 |bin (op:BinOp) (x y:O) (c:Bool) (sh:Sh)
 |un (op:UnOp) (x:O)
 |conv (k:IntKind) (x:O)
 |b2s (x:O)
 |cslice (x:O)
 |mkif (t:Nat) (x:O)
 |mkfn (f:AFn) (first cap:List O)
 |mkmap
 |mkslice (bytes:Nat) (zero:List AV) (l c:O)
 |sliceS (size:Nat) (x:O) (lo hi mx:Option O)
 |sliceA (n size:Nat) (x:O) (lo hi mx:Option O)
 |faddr (x:O) (off:Nat)
 |field1 (x:O) (off:Nat)
 |fieldN (x:O) (off n:Nat)
 |iaddrA (len size:Nat) (x ix:O)
 |iaddrS (size:Nat) (x ix:O)
 |index1 (len:Nat) (x ix:O)
 |indexT (x ix:O)
 |indexN (len size:Nat) (x ix:O)
 |lookup (sh:Sh) (zero:AV) (m k:O) (ok:Bool)
 |mupd (sh:Sh) (m k v:O)
 |ment (sh:Sh) (zero:AV) (m k:O)
 |mstore (m s v:O)
 |rangeM (x:O)
 |nextM (it:O)
 |entry (it:O)
 |tassert (x:O) (t:Nat) (zero:AV) (ok:Bool)
 |extract (x:O) (i:Nat)
 |callv (f:O) (args:List O)
 |append (size bytes:Nat) (s x:O)
 |appendZ (bytes:Nat) (zero:List AV) (s n:O)
 |copy (size:Nat) (d s:O)
 |lenS (x:O)
 |lenT (x:O)
 |capS (x:O)
 |lenM (x:O)
 |lenC (n:Nat)
 |maxmin (mx:Bool) (a b:O)
 |delete (sh:Sh) (m k:O)
 |recover
 |defer (f:O) (args:List O)
 |panic (x:O)
 |bad
structure CI where
 dst:Option Nat
 guard:Option (Nat×Bool)
 op:COp
structure DI where
 ci:CI
 names:List Nat
structure Ph where
 eff:DI
 pre:List DI
 chk:List DI
structure Alt where
 pre:List DI
 chk:List DI
 l:List Ph
inductive CC where
 |skip
 |ops (l:List CI)
 |drawn (pre chk:List DI) (l:List Ph)
 |alts (l:List Alt)
 |seq (a b:CC)
 |cond (c:O) (a b:CC)
 |block (id:Nat) (b:CC)
 |loop (b:CC)
 |rangeFunc (f:O) (params:List Nat) (assign body:CC)
 |exit (id:Nat)
 |scope (b:CC)
 |label (l:Nat)
 |goto (l:Nat)
 |ret
 |bad
inductive CRes where
 |tmp (t:Nat)
 |cell1 (a:Nat)
 |cellN (a n:Nat)
 |bad
structure CFn where
 ntmps:Nat
 results:List CRes
 body:CC
inductive ADef where
 |call (f:Nat) (args:List AV)
 |mark (b:Nat)
structure ALoop where
 state:LS
 pending:Option CC
 fn:Nat
 nt:Nat
 tmps:T AV
 params:List Nat
 assign:CC
 body:CC
 defers:Nat
inductive Blk where
 |cells (ro:Bool) (n:Nat) (c:T AV)
 |map (es:List AEnt) (clock:Nat)
 |miter (m:Option Nat) (since:Nat) (seen:List Nat) (stepped:Nat)
 |loop (l:ALoop)
 |dfr (ds:Option (List ADef))
structure H where
 n:Nat
 t:T Blk
noncomputable def H.get (h:H)(b:Nat):Option Blk:=T.get h.t b
noncomputable def H.set (h:H)(b:Nat)(x:Blk):H:=⟨h.n,T.set h.t b (some x)⟩
noncomputable def H.del (h:H)(b:Nat):H:=⟨h.n,T.set h.t b none⟩
noncomputable def H.new (h:H)(x:Blk):H:=⟨Nat.succ h.n,T.set h.t h.n (some x)⟩
inductive AItem where
 |code (c:CC)
 |inBlock (id:Nat)
 |inLoop (b:CC)
 |inScope (b:CC)
 |ops (l:List CI)
 |drawn (p:Ph) (l:List Ph)
 |inRF (l:Nat)
 |endRF (l:Nat)
 |beginRound
 |gone
inductive AMode where
 |run
 |returning
 |panicking (chain:List (AV×Bool))
structure AFr where
 fn:Nat
 nt:Nat
 tm:T AV
 todo:List AItem
 defers:List ADef
 mode:AMode
 dfd:Bool
 ro:Option Nat
structure Conf where
 fr:AFr
 cs:List AFr
 h:H
def pw (k:IntKind):Nat:=
 match k with
 | .i8| .u8=>256
 | .i16| .u16=>65536
 | .i32| .u32=>4294967296
 | .i64| .u64=>18446744073709551616
def hf (k:IntKind):Nat:=
 match k with
 | .i8=>128
 | .i16=>32768
 | .i32=>2147483648
 | .i64=>9223372036854775808
 | .u8=>256
 | .u16=>65536
 | .u32=>4294967296
 | .u64=>18446744073709551616
def kEq (j:IntKind):IntKind→Bool:=
 match j with
 | .i8=>fun| .i8=>true|_=>false
 | .i16=>fun| .i16=>true|_=>false
 | .i32=>fun| .i32=>true|_=>false
 | .i64=>fun| .i64=>true|_=>false
 | .u8=>fun| .u8=>true|_=>false
 | .u16=>fun| .u16=>true|_=>false
 | .u32=>fun| .u32=>true|_=>false
 | .u64=>fun| .u64=>true|_=>false
def wrN (p f r:Nat):Int:=match Nat.ble f r with|true=>Int.negSucc (Nat.sub (Nat.sub p r) 1)|false=>Int.ofNat r
def toU (k:IntKind)(n:Int):Nat:=
 match n with
 | .ofNat m=>Nat.mod m (pw k)
 | .negSucc m=>Nat.sub (Nat.sub (pw k) 1) (Nat.mod m (pw k))
def wr (k:IntKind)(n:Int):Int:=wrN (pw k) (hf k) (toU k n)
def iEq (a:Int):Int→Bool:=
 match a with
 | .ofNat a=>fun| .ofNat b=>Nat.beq a b| .negSucc _=>false
 | .negSucc a=>fun| .ofNat _=>false| .negSucc b=>Nat.beq a b
def iLt (a:Int):Int→Bool:=
 match a with
 | .ofNat a=>fun| .ofNat b=>Nat.ble (Nat.succ a) b| .negSucc _=>false
 | .negSucc a=>fun| .ofNat _=>true| .negSucc b=>Nat.ble (Nat.succ b) a
def bits (k:IntKind):Nat:=
 match k with
 | .i8| .u8=>8
 | .i16| .u16=>16
 | .i32| .u32=>32
 | .i64| .u64=>64
def K2 (a b:Nat):Nat:=match Nat.ble a b with|true=>a|false=>b
def Ec (op:BinOp):IntKind→Int→IntKind→Int→Option AV:=
 match op with
 | .shl=>fun k a _ b=>match b with
  | .ofNat n=>some (.int k (wr k (Int.mul a (Int.ofNat (Nat.pow 2 (K2 n (bits k)))))))
  | .negSucc _=>none
 | .shr=>fun k a _ b=>match b with
  | .ofNat n=>some (.int k (Int.fdiv a (Int.ofNat (Nat.pow 2 (K2 n (bits k))))))
  | .negSucc _=>none
 | .add=>fun k a j b=>match kEq k j with|true=>some (.int k (wr k (Int.add a b)))|false=>none
 | .sub=>fun k a j b=>match kEq k j with|true=>some (.int k (wr k (Int.sub a b)))|false=>none
 | .mul=>fun k a j b=>match kEq k j with|true=>some (.int k (wr k (Int.mul a b)))|false=>none
 | .quo=>fun k a j b=>match kEq k j with
  |true=>(match iEq b (Int.ofNat 0)with|true=>none|false=>some (.int k (wr k (Int.tdiv a b))))
  |false=>none
 | .rem=>fun k a j b=>match kEq k j with
  |true=>(match iEq b (Int.ofNat 0)with|true=>none|false=>some (.int k (Int.tmod a b)))
  |false=>none
 | .and=>fun k a j b=>match kEq k j with|true=>some (.int k (wr k (Int.ofNat (Nat.land (toU k a) (toU k b)))))|false=>none
 | .or=>fun k a j b=>match kEq k j with|true=>some (.int k (wr k (Int.ofNat (Nat.lor (toU k a) (toU k b)))))|false=>none
 | .xor=>fun k a j b=>match kEq k j with|true=>some (.int k (wr k (Int.ofNat (Nat.xor (toU k a) (toU k b)))))|false=>none
 | .andNot=>fun k a j b=>match kEq k j with
  |true=>some (.int k (wr k (Int.ofNat (Nat.land (toU k a) (Nat.sub (Nat.sub (pw k) 1) (toU k b))))))
  |false=>none
 | .eql=>fun k a j b=>match kEq k j with|true=>some (.bool (iEq a b))|false=>none
 | .neq=>fun k a j b=>match kEq k j with|true=>some (.bool (not (iEq a b)))|false=>none
 | .lss=>fun k a j b=>match kEq k j with|true=>some (.bool (iLt a b))|false=>none
 | .leq=>fun k a j b=>match kEq k j with|true=>some (.bool (not (iLt b a)))|false=>none
 | .gtr=>fun k a j b=>match kEq k j with|true=>some (.bool (iLt b a))|false=>none
 | .geq=>fun k a j b=>match kEq k j with|true=>some (.bool (not (iLt a b)))|false=>none
def Ng:List Nat→List Nat→Bool
 | []=>fun| []=>true|_::_=>false
 |a::r=>fun| []=>false|b::s=>match Nat.beq a b with|true=>Ng r s|false=>false
def Ss (op:BinOp):List Nat→List Nat→Option AV:=
 match op with
 | .add=>fun a b=>(match Nat.ble (Nat.add a.length b.length) 1099511627776 with|true=>some (.str (List.append a b))|false=>none)
 | .eql=>fun a b=>some (.bool (Ng a b))
 | .neq=>fun a b=>some (.bool (not (Ng a b)))
 |_=>fun _ _=>none
def bEq (a b:Bool):Bool:=match a with|true=>b|false=>not b
def Gf (x:AV):AV→Option Bool:=
 match x with
 | .int k a=>fun y=>match y with
  | .int j b=>(match kEq k j with|true=>some (iEq a b)|false=>none)
  |_=>none
 |_=>fun _=>none
def I7 (x:AV):AV→Option Bool:=
 match x with
 | .bool a=>fun y=>match y with| .bool b=>some (bEq a b)|_=>none
 |_=>fun _=>none
def Oh (x:AV):AV→Option Bool:=
 match x with
 | .str a=>fun y=>match y with| .str b=>some (Ng a b)|_=>none
 |_=>fun _=>none
def Iy (x:AV):AV→Option Bool:=
 match x with
 | .nilp=>fun y=>match y with| .nilp=>some true| .ptr _ _=>some false|_=>none
 | .ptr b o=>fun y=>match y with
  | .nilp=>some false
  | .ptr b' o'=>(match Nat.beq b b' with|true=>some (Nat.beq o o')|false=>none)
  |_=>none
 |_=>fun _=>none
def Gg (x:AV):AV→Option Bool:=
 match x with
 | .nils=>fun y=>match y with| .nils=>some true| .slc _ _ _ _=>some false|_=>none
 | .slc _ _ _ _=>fun y=>match y with| .nils=>some false|_=>none
 |_=>fun _=>none
def Gh (x:AV):AV→Option Bool:=
 match x with
 | .nilm=>fun y=>match y with| .nilm=>some true| .map _=>some false|_=>none
 | .map _=>fun y=>match y with| .nilm=>some false|_=>none
 |_=>fun _=>none
def Es (x:AV):AV→Option Bool:=
 match x with
 | .nilf=>fun y=>match y with| .nilf=>some true| .fn (.func _) _ _=>some false|_=>none
 | .fn (.func _) _ _=>fun y=>match y with| .nilf=>some false|_=>none
 |_=>fun _=>none
def K5 (x:AV):AV→Option Bool:=
 match x with
 | .nili=>fun y=>match y with| .ifc _ _=>some false|_=>none
 | .ifc _ _=>fun y=>match y with| .nili=>some false|_=>none
 |_=>fun _=>none
def Xy (l:List AV)(off size:Nat):Option AV:=
 match size with
 |0=>l[off]?
 |Nat.succ n=>some (.agg (List.take (Nat.succ n) (List.drop off l)))
def H7 (f:Sh→AV→AV→Option Bool)(xs ys:List AV):List (Nat×Nat×Sh)→Option Bool
 | []=>some true
 |p::r=>match Xy xs p.1 p.2.1,Xy ys p.1 p.2.1 with
  |some a,some b=>match f p.2.2 a b with
   |some true=>H7 f xs ys r
   |some false=>some false
   |none=>none
  |_,_=>none
def eqv (d:Nat):Sh→AV→AV→Option Bool:=
 match d with
 |0=>fun _ _ _=>none
 |Nat.succ d=>fun sh=>match sh with
  | .pint=>fun x y=>Gf x y
  | .pbool=>fun x y=>I7 x y
  | .pstr=>fun x y=>Oh x y
  | .ptr=>fun x y=>Iy x y
  | .iface=>fun x y=>K5 x y
  | .nilS=>fun x y=>Gg x y
  | .nilM=>fun x y=>Gh x y
  | .nilF=>fun x y=>Es x y
  | .bad=>fun _ _=>none
  | .agg parts=>fun x y=>match x with
   | .agg xs=>match y with
    | .agg ys=>H7 (eqv d) xs ys parts
    |_=>none
   |_=>none
def Uf (sh:Sh)(c:Bool)(x y:AV):Bool:=
 match sh with
 | .iface=>(match c,x,y with
  |true,.nili,.nili=>true
  |_,_,_=>false)
 |_=>false
def Vx (sh:Sh)(c:Bool)(x y:AV):Option Bool:=
 match Uf sh c x y with
 |true=>some true
 |false=>eqv 20 sh x y
def St (op:BinOp)(sh:Sh)(c:Bool)(x y:AV):Option AV:=
 match op with
 | .eql=>(match Vx sh c x y with
  |some b=>some (.bool b)
  |none=>none)
 | .neq=>(match Vx sh c x y with
  |some b=>some (.bool (not b))
  |none=>none)
 |_=>none
def F0 (op:BinOp)(sh:Sh)(c:Bool)(x:AV):AV→Option AV:=
 match x with
 | .int k a=>fun y=>match y with
  | .int j b=>Ec op k a j b
  |_=>none
 | .str a=>fun y=>match y with
  | .str b=>Ss op a b
  |_=>none
 |x=>fun y=>St op sh c x y
noncomputable def ev (tm:T AV)(o:O):AV:=
 match o with
 | .t i=>match T.get tm i with
  |some v=>v
  |none=> .unk
 | .c v=>v
noncomputable def evs (tm:T AV):List O→List AV
 | []=> []
 |x::r=>ev tm x::evs tm r
noncomputable def ofL (i:Nat)(t:T AV):List AV→T AV
 | []=>t
 |x::r=>ofL (Nat.succ i) (T.set t i (some x)) r
noncomputable def loadN (c:T AV):Nat→Nat→Option (List AV)
 |0=>fun _=>some []
 |Nat.succ n=>fun o=>match T.get c o with
  |some v=>match loadN c n (Nat.succ o)with
   |some l=>some (v::l)
   |none=>none
  |none=>none
noncomputable def K8 (o:Nat)(c:T AV):List AV→T AV
 | []=>c
 |v::r=>K8 (Nat.succ o) (T.set c o (some v)) r
def Bc (v:AV):Option (List AV):=
 match v with
 | .agg l=>some l
 | .tup _=>none
 | .unk=>none
 | .opq (.agg _)=>none
 | .opq (.tuple _)=>none
 |v=>some [v]
def F1 (xs:List AV):List AV→Nat→List AV
 |l,0=>List.append xs (List.drop xs.length l)
 | [],Nat.succ _=> []
 |a::l,Nat.succ n=>a::F1 xs l n
noncomputable def fill (tm:T AV):List (Nat×Nat×O)→List AV→Option (List AV)
 | []=>fun cells=>some cells
 |p::r=>fun cells=>
  match Bc (ev tm p.2.2)with
  |some l=>(match Nat.beq l.length p.2.1,Nat.ble (Nat.add p.1 p.2.1) cells.length with
   |true,true=>fill tm r (F1 l cells p.1)
   |_,_=>none)
  |none=>none
inductive R where
 |val (v:AV) (h:H)
 |call (f:AFn) (args:List AV)
 |dfr (f:Nat) (args:List AV)
 |pan (v:AV)
 |recover
 |next (l:List (AV×H))
 |fail
def vo (h:H)(o:Option AV):R:=
 match o with
 |some v=> .val v h
 |none=> .fail
def rl (l:List AV):Nat→List AV
 |0=> []
 |Nat.succ k=>List.append l (rl l k)
def lenV (v:AV):Option Nat:=
 match v with
 | .nils=>some 0
 | .slc _ _ n _=>some n
 | .str s=>some s.length
 |_=>none
def Gi:Nat→List Nat→List AV
 |0,_=> []
 |Nat.succ _,[]=> []
 |Nat.succ n,b::r=> .int .u8 (Int.ofNat b)::Gi n r
noncomputable def cellsAt (h:H)(b o n:Nat):Option (List AV):=
 match n with
 |0=>some []
 |n=>match H.get h b with
  |some (.cells _ k c)=>match Nat.ble (Nat.add o n) k with
   |true=>loadN c n o
   |false=>none
  |_=>none
noncomputable def cellsOf (size n:Nat)(h:H)(v:AV):Option (List AV):=
 match v with
 | .nils=>some []
 | .slc b o _ _=>cellsAt h b o (Nat.mul n size)
 | .str s=>(match Nat.beq size 1 with|true=>some (Gi n s)|false=>none)
 |_=>none
def Bm (v:AV):Bool:=
 match v with
 | .agg _=>false
 | .tup _=>false
 | .unk=>false
 | .opq (.agg _)=>false
 | .opq (.tuple _)=>false
 |_=>true
def Ar:List AV→Bool
 | []=>true
 |v::r=>match Bm v with|true=>Ar r|false=>false
noncomputable def putBlk (h:H)(b o:Nat)(l:List AV):Option H:=
 match l with
 | []=>some h
 |l=>match H.get h b with
  |some (.cells false k c)=>match Nat.ble (Nat.add o l.length) k,Ar l with
   |true,true=>some (H.set h b (.cells false k (K8 o c l)))
   |_,_=>none
  |_=>none
noncomputable def newCells (h:H)(l:List AV):H:=H.new h (.cells false l.length (ofL 0 .leaf l))
noncomputable def Dn (size bytes:Nat)(h:H)(s:AV)(new:List AV)(n:Nat):R:=
 match n with
 |0=>match s with
  | .nils=> .val s h
  | .slc _ _ _ _=> .val s h
  |_=> .fail
 |Nat.succ n=>match s with
  | .nils=>match Nat.ble (Nat.mul (Nat.succ n) (Nat.succ bytes)) 1099511627776 with
   |true=> .val (.slc h.n 0 (Nat.succ n) (Nat.add Aa size)) (newCells h new)
   |false=> .fail
  | .slc b o sl cap=>
   match Nat.ble (Nat.mul (Nat.add sl (Nat.succ n)) (Nat.succ bytes)) 1099511627776 with
   |false=> .fail
   |true=>match Nat.ble Aa cap with
    |true=>match Nat.beq cap (Nat.add Aa size),cellsAt h b o (Nat.mul sl size),H.get h b,Ar new with
     |true,some old,some (.cells false _ _),true=> .val (.slc h.n 0 (Nat.add sl (Nat.succ n)) cap) (newCells (H.del h b) (List.append old new))
     |_,_,_,_=> .fail
    |false=>match Nat.ble (Nat.add sl (Nat.succ n)) cap with
     |true=>match putBlk h b (Nat.add o (Nat.mul sl size)) new with
      |some h'=> .val (.slc b o (Nat.add sl (Nat.succ n)) cap) h'
      |none=> .fail
     |false=>match cellsAt h b o (Nat.mul sl size)with
      |some old=> .val (.slc h.n 0 (Nat.add sl (Nat.succ n)) (Nat.add Aa size)) (newCells h (List.append old new))
      |none=> .fail
  |_=> .fail
def I8:List AV→Option (List Nat)
 | []=>some []
 |v::r=>match v with
  | .int .u8 (Int.ofNat n)=>match Nat.ble n 255,I8 r with
   |true,some l=>some (n::l)
   |_,_=>none
  |_=>none
def F2 (mx:Bool)(x:AV):AV→Option AV:=
 match x with
 | .int k a=>fun y=>match y with
  | .int j b=>(match kEq k j with
   |true=>some (.int k (match(match mx with|true=>iLt a b|false=>iLt b a)with|true=>b|false=>a))
   |false=>none)
  |_=>none
 |_=>fun _=>none
noncomputable def C3 (tm:T AV)(o:Option O):Option (Option Nat):=
 match o with
 |none=>some none
 |some x=>match ev tm x with
  | .int _ (Int.ofNat n)=>some (some n)
  |_=>none
def Oi (len top:Nat)(e lo hi mx:Option Nat):Option (Nat×Nat×Option Nat):=
 match mx with
 |some m=>match hi with
  |none=>none
  |some h=>match Nat.ble m top,Nat.ble h m,Nat.ble (lo.getD 0) h with
   |true,true,true=>some (lo.getD 0,h,some m)
   |_,_,_=>none
 |none=>match Nat.ble (hi.getD len) top,Nat.ble (lo.getD 0) (hi.getD len)with
  |true,true=>some (lo.getD 0,hi.getD len,e)
  |_,_=>none
def Nh (len cap:Nat)(lo hi mx:Option Nat):Option (Nat×Nat×Option Nat):=
 match Nat.ble Aa cap with
 |true=>Oi len len none lo hi mx
 |false=>Oi len cap (some cap) lo hi mx
def Fl (size b o len cap:Nat)(lo hi mx:Option Nat):Option AV:=
 match Nh len cap lo hi mx with
 |some (l,h,some m)=>(match Nat.ble (Nat.succ m) Aa with
  |true=>some (.slc b (match Nat.beq m l with|true=>o|false=>Nat.add o (Nat.mul l size)) (Nat.sub h l) (Nat.sub m l))
  |false=>none)
 |some (l,h,none)=>(match Nat.beq cap (Nat.add Aa size)with
  |true=>some (.slc b (Nat.add o (Nat.mul l size)) (Nat.sub h l) cap)
  |false=>none)
 |none=>none
def I9:List AV→List AV→Bool
 | []=>fun| []=>true|_::_=>false
 |x::r=>fun| []=>false|y::s=>match Gf x y with|some true=>I9 r s|_=>false
def Fs (x:AV):AV→Bool:=
 match x with
 | .int k a=>fun y=>match y with| .int j b=>(match kEq k j with|true=>iEq a b|false=>false)|_=>false
 | .bool a=>fun y=>match y with| .bool b=>bEq a b|_=>false
 | .str a=>fun y=>match y with| .str b=>Ng a b|_=>false
 | .agg l=>fun y=>match y with| .agg m=>I9 l m|_=>false
 |_=>fun _=>false
def Ug (n:Nat):List (Nat×Nat×Sh)→Bool
 | []=>true
 |p::r=>match Nat.ble (Nat.succ p.1) n with|true=>Ug n r|false=>false
def Oj (sh:Sh):AV→Bool:=
 match sh with
 | .pint=>fun k=>match k with| .int _ _=>true|_=>false
 | .pbool=>fun k=>match k with| .bool _=>true|_=>false
 | .pstr=>fun k=>match k with| .str _=>true|_=>false
 | .agg parts=>fun k=>match k with| .agg l=>Ug l.length parts|_=>false
 |_=>fun _=>false
def Gz (f:AV→AV→Option Bool)(k:AV):List AEnt→Option (Option AEnt)
 | []=>some none
 |e::r=>match f k e.key with
  |some true=>some (some e)
  |some false=>Gz f k r
  |none=>none
def Ja (sh:Sh)(k:AV)(es:List AEnt):Option (Option AEnt):=
 match Oj sh k with
 |true=>Gz (eqv 20 sh) k es
 |false=>none
def Uh (f:AV→AV→Option Bool)(k v:AV):List AEnt→Option (List AEnt)
 | []=>none
 |e::r=>match f k e.key with
  |some true=>(match Fs k e.key with
   |true=>some (⟨k,v,e.born⟩::r)
   |false=>none)
  |some false=>match Uh f k v r with
   |some r=>some (e::r)
   |none=>none
  |none=>none
def Xz (f:AV→AV→Option Bool)(k:AV):List AEnt→Option (List AEnt)
 | []=>some []
 |e::r=>match f k e.key with
  |some true=>some r
  |some false=>match Xz f k r with
   |some r=>some (e::r)
   |none=>none
  |none=>none
def H8 (b:Nat)(v:AV):List AEnt→Option (List AEnt)
 | []=>none
 |e::r=>match Nat.beq e.born b with
  |true=>some (⟨e.key,v,e.born⟩::r)
  |false=>match H8 b v r with
   |some r=>some (e::r)
   |none=>none
def Ni (n:Nat):List Nat→Bool
 | []=>false
 |a::r=>match Nat.beq a n with|true=>true|false=>Ni n r
def Ol (since:Nat)(seen:List Nat):List AEnt→Option (List AEnt)
 | []=>some []
 |e::r=>match Ol since seen r with
  |none=>none
  |some l=>match Ni e.born seen with
   |true=>some l
   |false=>match Nat.ble (Nat.succ e.born) since with
    |true=>some (e::l)
    |false=>none
def J8 (stepped:Nat)(seen:List Nat)(es:List AEnt):Bool:=
 match seen,es with
 | [],_=>true
 |_,[]=>true
 |_,es=>es.any fun e=>Nat.ble (Nat.succ e.born) stepped
def Hn (b:Nat):List AEnt→Option AEnt
 | []=>none
 |e::r=>match Nat.beq e.born b with|true=>some e|false=>Hn b r
noncomputable def exec (op:COp):H→T AV→R:=
 match op with
 | .mv x=>fun h tm=> .val (ev tm x) h
 | .pick c a b=>fun h tm=>match ev tm c with
  | .bool true=> .val (ev tm a) h
  | .bool false=> .val (ev tm b) h
  |_=> .fail
 | .alloc cells=>fun h _=> .val (.ptr h.n 0) (newCells h cells)
 | .box n x=>fun h tm=>match Bc (ev tm x)with
  |some l=>(match Nat.beq l.length n with
   |true=> .val (.ptr h.n 0) (newCells h l)
   |false=> .fail)
  |none=> .fail
 | .build zero parts=>fun h tm=>match fill tm parts zero with
  |some l=> .val (.agg l) h
  |none=> .fail
 | .bslice len cells parts=>fun h tm=>match fill tm parts cells with
  |some l=> .val (.slc h.n 0 len len) (newCells h l)
  |none=> .fail
 | .load1 a=>fun h tm=>match ev tm a with
  | .ptr b o=>match H.get h b with
   |some (.cells _ n c)=>(match Nat.ble (Nat.succ o) n with
    |true=>vo h (T.get c o)
    |false=> .fail)
   |_=> .fail
  |_=> .fail
 | .loadN n a=>fun h tm=>match ev tm a with
  | .ptr b o=>match cellsAt h b o n with
   |some l=> .val (.agg l) h
   |none=> .fail
  |_=> .fail
 | .store n a x=>fun h tm=>match ev tm a with
  | .ptr b o=>(match Bc (ev tm x)with
   |some l=>(match Nat.beq l.length n with
    |true=>(match putBlk h b o l with
     |some h'=> .val .unk h'
     |none=> .fail)
    |false=> .fail)
   |none=> .fail)
  |_=> .fail
 | .nilc x=>fun h tm=>match ev tm x with
  | .ptr b o=> .val (.ptr b o) h
  | .fn (.func f) a c=> .val (.fn (.func f) a c) h
  | .ifc t v=> .val (.ifc t v) h
  |_=> .fail
 | .bin op x y c sh=>fun h tm=>vo h (F0 op sh c (ev tm x) (ev tm y))
 | .un op x=>fun h tm=>match ev tm x with
  | .int k n=>(match op with
   | .neg=> .val (.int k (wr k (Int.sub 0 n))) h
   | .xor=> .val (.int k (wr k (Int.ofNat (Nat.sub (Nat.sub (pw k) 1) (toU k n))))) h
   |_=> .fail)
  | .bool b=>(match op with
   | .not=> .val (.bool (not b)) h
   |_=> .fail)
  |_=> .fail
 | .conv k x=>fun h tm=>match ev tm x with
  | .int _ n=> .val (.int k (wr k n)) h
  |_=> .fail
 | .b2s x=>fun h tm=>match ev tm x with
  | .nils=> .val (.str []) h
  | .slc b o n _=>match cellsAt h b o n with
   |some l=>match I8 l with
    |some s=> .val (.str s) h
    |none=> .fail
   |none=> .fail
  |_=> .fail
 | .cslice x=>fun h tm=>match ev tm x with
  | .slc b o n c=>(match H.get h b with
   |some (.cells false _ _)=> .val (.slc b o n c) (H.del h b)
   |_=> .fail)
  |_=> .fail
 | .mkif t x=>fun h tm=> .val (.ifc t (ev tm x)) h
 | .mkfn f first cap=>fun h tm=> .val (.fn f (evs tm first) (evs tm cap)) h
 | .mkmap=>fun h _=> .val (.map h.n) (H.new h (.map [] 0))
 | .mkslice bytes zero l c=>fun h tm=>match ev tm l with
  | .int _ (Int.ofNat l)=>match ev tm c with
   | .int _ (Int.ofNat c)=>match Nat.ble l c,Nat.ble (Nat.mul c bytes) 281474976710656,Nat.ble c 281474976710656 with
    |true,true,true=> .val (.slc h.n 0 l c) (newCells h (rl zero c))
    |_,_,_=> .fail
   |_=> .fail
  |_=> .fail
 | .sliceS size x lo hi mx=>fun h tm=>match C3 tm lo,C3 tm hi,C3 tm mx with
  |some lo,some hi,some mx=>(match ev tm x with
   | .nils=>(match Nh 0 0 lo hi mx with|some _=> .val .nils h|none=> .fail)
   | .slc b o n c=>vo h (Fl size b o n c lo hi mx)
   |_=> .fail)
  |_,_,_=> .fail
 | .sliceA n size x lo hi mx=>fun h tm=>match C3 tm lo,C3 tm hi,C3 tm mx with
  |some lo,some hi,some mx=>(match ev tm x with
   | .ptr b o=>(match Nat.ble Aa n with
    |true=> .fail
    |false=>vo h (Fl size b o n n lo hi mx))
   |_=> .fail)
  |_,_,_=> .fail
 | .faddr x off=>fun h tm=>match ev tm x with
  | .ptr b o=> .val (.ptr b (Nat.add o off)) h
  |_=> .fail
 | .field1 x off=>fun h tm=>match ev tm x with
  | .agg l=>vo h (l[off]?)
  |_=> .fail
 | .fieldN x off n=>fun h tm=>match ev tm x with
  | .agg l=> .val (.agg (List.take n (List.drop off l))) h
  |_=> .fail
 | .iaddrA len size x ix=>fun h tm=>match ev tm x with
  | .ptr b o=>match ev tm ix with
   | .int _ (Int.ofNat i)=>match Nat.ble (Nat.succ i) len with
    |true=> .val (.ptr b (Nat.add o (Nat.mul i size))) h
    |false=> .fail
   |_=> .fail
  |_=> .fail
 | .iaddrS size x ix=>fun h tm=>match ev tm x with
  | .slc b o n _=>match ev tm ix with
   | .int _ (Int.ofNat i)=>match Nat.ble (Nat.succ i) n with
    |true=> .val (.ptr b (Nat.add o (Nat.mul i size))) h
    |false=> .fail
   |_=> .fail
  |_=> .fail
 | .index1 len x ix=>fun h tm=>match ev tm x with
  | .agg l=>match ev tm ix with
   | .int _ (Int.ofNat i)=>match Nat.ble (Nat.succ i) len with
    |true=>vo h (l[i]?)
    |false=> .fail
   |_=> .fail
  |_=> .fail
 | .indexT x ix=>fun h tm=>match ev tm x with
  | .str l=>match ev tm ix with
   | .int _ (Int.ofNat i)=>(match l[i]? with
    |some b=> .val (.int .u8 (Int.ofNat b)) h
    |none=> .fail)
   |_=> .fail
  |_=> .fail
 | .indexN len size x ix=>fun h tm=>match ev tm x with
  | .agg l=>match ev tm ix with
   | .int _ (Int.ofNat i)=>match Nat.ble (Nat.succ i) len with
    |true=> .val (.agg (List.take size (List.drop (Nat.mul i size) l))) h
    |false=> .fail
   |_=> .fail
  |_=> .fail
 | .lookup sh zero m k ok=>fun h tm=>
  match(match ev tm m with
   | .nilm=>some []
   | .map r=>(match H.get h r with
    |some (.map es _)=>some es
    |_=>none)
   |_=>none)with
  |none=> .fail
  |some es=>match Ja sh (ev tm k) es with
   |some (some e)=> .val (match ok with|true=> .tup [e.val,.bool true]|false=>e.val) h
   |some none=> .val (match ok with|true=> .tup [zero,.bool false]|false=>zero) h
   |none=> .fail
 | .mupd sh m k v=>fun h tm=>match ev tm m with
  | .map r=>match H.get h r with
   |some (.map es clock)=>match Ja sh (ev tm k) es with
    |some (some _)=>match Uh (eqv 20 sh) (ev tm k) (ev tm v) es with
     |some es=> .val .unk (H.set h r (.map es clock))
     |none=> .fail
    |some none=> .val .unk (H.set h r (.map (List.append es [⟨ev tm k,ev tm v,clock⟩]) (Nat.succ clock)))
    |none=> .fail
   |_=> .fail
  |_=> .fail
 | .ment sh zero m k=>fun h tm=>match ev tm m with
  | .map r=>match H.get h r with
   |some (.map es clock)=>match Ja sh (ev tm k) es with
    |some (some e)=>match Uh (eqv 20 sh) (ev tm k) e.val es with
     |some es=> .val (.tup [e.val,.int .i64 (Int.ofNat e.born)]) (H.set h r (.map es clock))
     |none=> .fail
    |some none=> .val (.tup [zero,.int .i64 (Int.ofNat clock)]) (H.set h r (.map (List.append es [⟨ev tm k,zero,clock⟩]) (Nat.succ clock)))
    |none=> .fail
   |_=> .fail
  |_=> .fail
 | .mstore m s v=>fun h tm=>match ev tm m with
  | .map r=>match ev tm s with
   | .int _ (Int.ofNat s)=>match H.get h r with
    |some (.map es clock)=>match H8 s (ev tm v) es with
     |some es=> .val .unk (H.set h r (.map es clock))
     |none=> .fail
    |_=> .fail
   |_=> .fail
  |_=> .fail
 | .rangeM x=>fun h tm=>match ev tm x with
  | .nilm=> .val (.ptr h.n 0) (H.new h (.miter none 0 [] 0))
  | .map m=>match H.get h m with
   |some (.map _ clock)=> .val (.ptr h.n 0) (H.new h (.miter (some m) clock [] clock))
   |_=> .fail
  |_=> .fail
 | .nextM it=>fun h tm=>match ev tm it with
  | .ptr r 0=>match H.get h r with
   |some (.miter none _ _ _)=> .val (.tup [.bool false]) h
   |some (.miter (some m) since seen stepped)=>match H.get h m with
    |some (.map es clock)=>match Ol since seen es,J8 stepped seen es with
     |some [],true=> .val (.tup [.bool false]) h
     |some (e::l),true=> .next (List.map (fun e=>(.tup [.bool true,e.key,e.val],H.set h r (.miter (some m) since (List.append seen [e.born]) clock))) (e::l))
     |_,_=> .fail
    |_=> .fail
   |_=> .fail
  |_=> .fail
 | .entry it=>fun h tm=>match ev tm it with
  | .ptr r 0=>match H.get h r with
   |some (.miter (some m) _ seen stepped)=>match H.get h m,List.getLast? seen with
    |some (.map es clock),some s=>match Nat.beq clock stepped,Hn s es with
     |true,some e=> .val (.tup [e.key,e.val]) h
     |_,_=> .fail
    |_,_=> .fail
   |_=> .fail
  |_=> .fail
 | .tassert x t zero ok=>fun h tm=>match ev tm x with
  | .ifc u v=>(match Nat.beq u t with
   |true=> .val (match ok with|true=> .tup [v,.bool true]|false=>v) h
   |false=>match ok with|true=> .val (.tup [zero,.bool false]) h|false=> .fail)
  | .nili=>(match ok with|true=> .val (.tup [zero,.bool false]) h|false=> .fail)
  |_=> .fail
 | .extract x i=>fun h tm=>match ev tm x with
  | .tup l=>vo h (l[i]?)
  |_=> .fail
 | .callv f args=>fun _ tm=>match ev tm f with
  | .fn g first cap=> .call g (List.append first (List.append (evs tm args) cap))
  |_=> .fail
 | .append size bytes s x=>fun h tm=>match lenV (ev tm x)with
  |some n=>match cellsOf size n h (ev tm x)with
   |some new=>Dn size bytes h (ev tm s) new n
   |none=> .fail
  |none=> .fail
 | .appendZ bytes zero s n=>fun h tm=>match ev tm n with
  | .int _ (Int.ofNat n)=>match Nat.ble (Nat.mul n bytes) 281474976710656,Nat.ble n 281474976710656 with
   |true,true=>Dn zero.length bytes h (ev tm s) (rl zero n) n
   |_,_=> .fail
  |_=> .fail
 | .copy size d s=>fun h tm=>match lenV (ev tm s)with
  |some sn=>(match ev tm d with
   | .nils=> .val (.int .i64 0) h
   | .slc b o dn _=>match cellsOf size (K2 sn dn) h (ev tm s)with
    |some l=>match putBlk h b o l with
     |some h'=> .val (.int .i64 (Int.ofNat (K2 sn dn))) h'
     |none=> .fail
    |none=> .fail
   |_=> .fail)
  |none=> .fail
 | .lenS x=>fun h tm=>match ev tm x with
  | .nils=> .val (.int .i64 (Int.ofNat 0)) h
  | .slc _ _ n _=> .val (.int .i64 (Int.ofNat n)) h
  | .opq u=>(match u with
   | .slice _ n _=> .val (.int .i64 (Int.ofNat n)) h
   |_=> .fail)
  |_=> .fail
 | .lenT x=>fun h tm=>match ev tm x with
  | .str s=> .val (.int .i64 (Int.ofNat s.length)) h
  |_=> .fail
 | .capS x=>fun h tm=>match ev tm x with
  | .nils=> .val (.int .i64 (Int.ofNat 0)) h
  | .slc _ _ _ c=>(match Nat.ble Aa c with|true=> .fail|false=> .val (.int .i64 (Int.ofNat c)) h)
  |_=> .fail
 | .lenM x=>fun h tm=>match ev tm x with
  | .nilm=> .val (.int .i64 (Int.ofNat 0)) h
  | .map r=>match H.get h r with
   |some (.map es _)=> .val (.int .i64 (Int.ofNat es.length)) h
   |_=> .fail
  |_=> .fail
 | .lenC n=>fun h _=> .val (.int .i64 (Int.ofNat n)) h
 | .maxmin mx a b=>fun h tm=>vo h (F2 mx (ev tm a) (ev tm b))
 | .delete sh m k=>fun h tm=>match ev tm m with
  | .map r=>match H.get h r with
   |some (.map es clock)=>match Oj sh (ev tm k),Xz (eqv 20 sh) (ev tm k) es with
    |true,some es=> .val (.tup []) (H.set h r (.map es clock))
    |_,_=> .fail
   |_=> .fail
  |_=> .fail
 | .recover=>fun _ _=> .recover
 | .defer f args=>fun _ tm=>match ev tm f with
  | .fn (.func g) first cap=> .dfr g (List.append first (List.append (evs tm args) cap))
  |_=> .fail
 | .panic x=>fun _ tm=>match ev tm x with
  | .ifc t v=> .pan (.ifc t v)
  |_=> .fail
 | .bad=>fun _ _=> .fail
def Ui:Nat→Value→AV
 |0,_=> .unk
 |d+1,v=>match v with
  | .bool b=> .bool b
  | .int k n=> .int k n
  | .string s=> .str (s.data.toList.map (·.toNat))
  | .pointer none=> .nilp
  | .slice none 0 0=> .nils
  | .map none=> .nilm
  | .nilFunc=> .nilf
  | .nilIface=> .nili
  | .iface t v=> .ifc t (Ui d v)
  | .agg cs=> .agg (cs.toList.map (Ui d))
  | .tuple cs=> .tup (cs.toList.map (Ui d))
  |_=> .unk
def opd (x:Operand):O:=
 match x with
 | .tmp t=> .t t
 | .const v=> .c (Ui 10 v)
 | .global _=> .c .unk
 | .func f=> .c (.fn (.func f) [] [])
structure Env where
 I:T TypeInfo
 S:List Nat
noncomputable section
variable (E:Env)
def inf (t:TypeId):Option TypeInfo:=T.get E.I t
def und (t:TypeId):Option TypeDesc:=
 match inf E t with
 |some i=>(match i.desc with
  | .named _ u=>(match inf E u with
   |some j=>some j.desc
   |none=>none)
  |d=>some d)
 |none=>none
def Om (t:TypeId):Option AV:=match inf E t with
 |some i=>(match i.zero with
  |some v=>some (Ui 10 v)
  |none=>none)
 |none=>none
def sz (t:TypeId):Option Nat:=match inf E t with
 |some i=>some i.size
 |none=>none
def Fa (t:TypeId):Option (List AV):=match inf E t with
 |some i=>(match i.zero with
  |some v=>(match Nat.beq v.cells.size i.size with
   |true=>some (v.cells.toList.map (Ui 10))
   |false=>none)
  |none=>none)
 |none=>none
def Jb (t:TypeId):Option Bool:=match und E t with
 |some (.struct _)=>some true
 |some (.array _ _)=>some true
 |some _=>some false
 |none=>none
def Cl (t:TypeId):Option Nat:=match inf E t with
 |some i=>(match Nat.beq i.size 0 with
  |true=>none
  |false=>some i.size)
 |none=>none
def ny (t:TypeId):Option Nat:=match Jb E t with
 |some true=>Cl E t
 |some false=>some 0
 |none=>none
def G1 (f : Nat → Sh) (fd : Field) : Option (Nat × Nat × Sh) := match fd.name == "_" with
 |true=>none
 |false=>(match ny E fd.type with
  |some n=>some (fd.offset,n,f fd.type)
  |none=>none)
def Av:Nat→TypeId→Sh
 |0,_=> .bad
 |d+1,t=>match und E t with
  |some .bool=> .pbool
  |some (.int _)=> .pint
  |some .string=> .pstr
  |some (.pointer e)=>(match Cl E e with|some _=> .ptr|none=> .bad)
  |some (.interface _)=> .iface
  |some (.struct fs)=>(match Ni t E.S with
   |false=> .bad
   |true=>match fs.toList.mapM (G1 E (Av d))with
    |some l=> .agg l
    |none=> .bad)
  |some (.slice _)=> .nilS
  |some (.map _ _)=> .nilM
  |some (.func _ _ _)=> .nilF
  |_=> .bad
def Adq (f : Field) : Bool := match f.name == "_" with
 |true=>false
 |false=>(match und E f.type with
  |some (.int _)=>true
  |_=>false)
def G3 (t:TypeId):Option Sh:=match und E t with
 |some .bool=>some (Av E 5 t)
 |some (.int _)=>some (Av E 5 t)
 |some .string=>some (Av E 5 t)
 |some (.struct fs)=>(match fs.toList.all (Adq E)with
  |true=>some (Av E 5 t)
  |false=>none)
 |_=>none
def Ab4 (fs:Array Field)(p:Nat×Operand):Option (Nat×Nat×O):=match fs[p.1]? with
 |some f=>(match sz E f.type with
  |some n=>some (f.offset,n,opd p.2)
  |none=>none)
 |none=>none
def Uj (t:TypeId)(parts:List (Nat×Operand)):Option (List (Nat×Nat×O)):=
 match und E t with
 |some (.struct fs)=>(match fs.toList.all (fun f=>(sz E f.type).isSome)with|true=>parts.mapM (Ab4 E fs)|false=>none)
 |some (.array _ e)=>(match sz E e with
  |some n=>some (parts.map fun p=>(p.1*n,n,opd p.2))
  |none=>none)
 |_=>none
def Dg (t:TypeId):Nat:=match inf E t with|some i=>i.bytes|none=>0
def szD (t:TypeId):Nat:=match inf E t with|some i=>i.size|none=>0
def isC (x:Operand):Bool:=
 match x with
 | .const _=>true
 |_=>false
def Aou (f:Fn):Option AFn:=
 match f with
 | .func f=>some (.func f)
 |_=>none
def L0 (b:Builtin)(args:List Operand)(ts:List TypeId):COp:=
 match b with
 | .append=>(match args,ts with
  | [s,x],st::xt=>match und E st with
   |some (.slice e)=>match Cl E e,Fa E e with
    |some n,some z=>(match xt with
     | [t]=>(match und E t with
      |some (.int _)=> .appendZ (Dg E e) z (opd s) (opd x)
      |some (.slice _)=> .append n (Dg E e) (opd s) (opd x)
      |some .string=> .append n (Dg E e) (opd s) (opd x)
      |_=> .bad)
     |_=> .bad)
    |_,_=> .bad
   |_=> .bad
  |_,_=> .bad)
 | .copy=>(match args,ts with
  | [d,s],dt::_=>match und E dt with
   |some (.slice e)=>match Cl E e with
    |some n=> .copy n (opd d) (opd s)
    |none=> .bad
   |_=> .bad
  |_,_=> .bad)
 | .len=>(match args,ts with
  | [x],[t]=>match und E t with
   |some .string=> .lenT (opd x)
   |some (.slice _)=> .lenS (opd x)
   |some (.map _ _)=> .lenM (opd x)
   |some (.array n _)=> .lenC n
   |some (.pointer a)=>match und E a with
    |some (.array n _)=> .lenC n
    |_=> .bad
   |_=> .bad
  |_,_=> .bad)
 | .cap=>(match args,ts with
  | [x],[t]=>match und E t with
   |some (.slice _)=> .capS (opd x)
   |_=> .bad
  |_,_=> .bad)
 | .max=>(match args with| [a,b]=> .maxmin true (opd a) (opd b)|_=> .bad)
 | .min=>(match args with| [a,b]=> .maxmin false (opd a) (opd b)|_=> .bad)
 | .delete=>(match args,ts with
  | [m,k],mt::_=>match und E mt with
   |some (.map kt _)=>match G3 E kt with
    |some sh=> .delete sh (opd m) (opd k)
    |none=> .bad
   |_=> .bad
  |_,_=> .bad)
 | .recover=>(match args with| []=> .recover|_=> .bad)
 | .panic=>(match args with| [x]=> .panic (opd x)|_=> .bad)
 |_=> .bad
def An (o:Op):COp:=
 match o with
 | .move x=> .mv (opd x)
 | .assign x=> .mv (opd x)
 | .pick c a b=> .pick (opd c) (opd a) (opd b)
 | .alloc e=>(match Fa E e with|some z=> .alloc z|none=> .bad)
 | .box e x=> .box ((szD E e)) (opd x)
 | .build t parts=>(match Fa E t,Uj E t parts.toList,Jb E t with
  |some z,some ps,some true=> .build z ps
  |_,_,_=> .bad)
 | .buildSlice t n parts=>(match und E t with
  |some (.slice e)=>match Cl E e,Fa E e,Nat.ble (n*(szD E e)) 16777216 with
   |some s,some z,true=> .bslice n (rl z n) (parts.toList.map fun p=>(p.1*s,s,opd p.2))
   |_,_,_=> .bad
  |_=> .bad)
 | .load t a=>(match inf E t with
  |some i=>match Jb E t with
   |some true=> .loadN i.size (opd a)
   |some false=> .load1 (opd a)
   |none=> .bad
  |none=> .bad)
 | .store t a x=>(match inf E t with
  |some i=> .store i.size (opd a) (opd x)
  |none=> .bad)
 | .nilCheck x=> .nilc (opd x)
 | .binOp op t x y _=> .bin op (opd x) (opd y) (isC x || isC y) (Av E 5 t)
 | .unOp op _ x=> .un op (opd x)
 | .convert s d x=>(match und E s with
  |some (.int _)=>(match und E d with|some (.int k)=> .conv k (opd x)|_=> .bad)
  |some (.slice e)=>(match und E d with
   |some .string=>(match und E e with|some (.int .u8)=> .b2s (opd x)|_=> .bad)
   |some (.slice e')=>(match Nat.beq s d,und E e' with|true,some (.int .u8)=> .cslice (opd x)|_,_=> .bad)
   |_=> .bad)
  |_=> .bad)
 | .makeInterface t x=>(match und E t with
  |some (.interface _)=> .bad
  |some _=> .mkif t (opd x)
  |none=> .bad)
 | .makeFunc fn a c=>(match Aou fn with
  |some f=> .mkfn f (a.toList.map opd) (c.toList.map opd)
  |none=> .bad)
 | .makeMap _ r=>(match r with|none=> .mkmap|some _=> .bad)
 | .makeSlice t l c=>(match und E t with
  |some (.slice e)=>match Cl E e,Fa E e with
   |some _,some z=> .mkslice ((Dg E e)) z (opd l) (opd c)
   |_,_=> .bad
  |_=> .bad)
 | .slice t x lo hi mx=>(match und E t with
  |some (.array n e)=>(match Cl E e with|some s=> .sliceA n s (opd x) (lo.map opd) (hi.map opd) (mx.map opd)|none=> .bad)
  |some (.slice e)=>(match Cl E e with|some s=> .sliceS s (opd x) (lo.map opd) (hi.map opd) (mx.map opd)|none=> .bad)
  |some (.pointer a)=>(match und E a with
   |some (.array n e)=>(match Cl E e with|some s=> .sliceA n s (opd x) (lo.map opd) (hi.map opd) (mx.map opd)|none=> .bad)
   |_=> .bad)
  |_=> .bad)
 | .fieldAddr s x f=>(match und E s with
  |some (.struct fs)=>match fs[f]? with
   |some fd=>match Cl E fd.type with
    |some _=> .faddr (opd x) fd.offset
    |none=> .bad
   |none=> .bad
  |_=> .bad)
 | .field t x f=>(match und E t with
  |some (.struct fs)=>match fs[f]? with
   |some fd=>match inf E fd.type,Jb E fd.type with
    |some i,some true=> .fieldN (opd x) fd.offset i.size
    |some _,some false=> .field1 (opd x) fd.offset
    |_,_=> .bad
   |none=> .bad
  |_=> .bad)
 | .indexAddr t x ix=>(match und E t with
  |some (.array n e)=>(match Cl E e with|some s=> .iaddrA n s (opd x) (opd ix)|none=> .bad)
  |some (.slice e)=>(match Cl E e with|some s=> .iaddrS s (opd x) (opd ix)|none=> .bad)
  |_=> .bad)
 | .index t x ix=>(match und E t with
  |some (.array n e)=>match inf E e,Jb E e with
   |some i,some true=> .indexN n i.size (opd x) (opd ix)
   |some i,some false=>(match Nat.beq i.size 1 with|true=> .index1 n (opd x) (opd ix)|false=> .bad)
   |_,_=> .bad
  |some .string=> .indexT (opd x) (opd ix)
  |_=> .bad)
 | .lookup t m k ok=>(match und E t with
  |some (.map kt e)=>match G3 E kt,Om E e with
   |some sh,some z=> .lookup sh z (opd m) (opd k) ok
   |_,_=> .bad
  |_=> .bad)
 | .mapUpdate t m k x=>(match und E t with
  |some (.map kt _)=>match G3 E kt with
   |some sh=> .mupd sh (opd m) (opd k) (opd x)
   |none=> .bad
  |_=> .bad)
 | .mapEntry t m k=>(match und E t with
  |some (.map kt e)=>match G3 E kt,Om E e with
   |some sh,some z=> .ment sh z (opd m) (opd k)
   |_,_=> .bad
  |_=> .bad)
 | .entryStore _ m s x=> .mstore (opd m) (opd s) (opd x)
 | .range t x=>(match und E t with
  |some (.map _ _)=> .rangeM (opd x)
  |_=> .bad)
 | .next it isString=>(match isString with|false=> .nextM (opd it)|true=> .bad)
 | .entry it=> .entry (opd it)
 | .typeAssert x _ t ok=>(match und E t with
  |some (.interface _)=> .bad
  |some _=>(match Om E t with
   |some z=> .tassert (opd x) t z ok
   |none=> .bad)
  |none=> .bad)
 | .extract x i=> .extract (opd x) i
 | .call c=>(match c.callee with
  | .value f=> .callv (opd f) (c.args.toList.map opd)
  | .invoke _ _=> .bad
  | .builtin b=>L0 E b c.args.toList c.argTypes.toList)
 | .defer c=>(match c.callee with
  | .value f=> .defer (opd f) (c.args.toList.map opd)
  |_=> .bad)
 | .panic x=> .panic (opd x)
 |_=> .bad
def Oo (nt:Nat)(d:Option Nat):Bool:=
 match d with
 |none=>true
 |some d=>Nat.ble (Nat.succ d) nt
def L1 (ops:Array Oper)(g:Option (Nat×Bool)):Option (Option (Nat×Bool)):=
 match g with
 |none=>some none
 |some (j,b)=>match(ops[j]?).bind (·.dst)with
  |some d=>some (some (d,b))
  |none=>none
def L2 (nt:Nat)(ops:Array Oper)(o:Oper):CI:=
 match Oo nt o.dst,L1 ops o.guard with
 |true,some g=>⟨o.dst,g,An E o.op⟩
 |_,_=>⟨none,none,.bad⟩
def cls (c:COp):Nat:=
 match c with
 | .mv _=>0
 | .pick _ _ _=>0
 | .build _ _=>0
 | .nilc _=>0
 | .bin _ _ _ _ _=>0
 | .un _ _=>0
 | .conv _ _=>0
 | .mkif _ _=>0
 | .mkfn _ _ _=>0
 | .sliceS _ _ _ _ _=>0
 | .sliceA _ _ _ _ _ _=>0
 | .faddr _ _=>0
 | .field1 _ _=>0
 | .fieldN _ _ _=>0
 | .iaddrA _ _ _ _=>0
 | .iaddrS _ _ _=>0
 | .index1 _ _ _=>0
 | .indexT _ _=>0
 | .indexN _ _ _ _=>0
 | .tassert _ _ _ _=>0
 | .extract _ _=>0
 | .lenS _=>0
 | .lenT _=>0
 | .capS _=>0
 | .lenC _=>0
 | .maxmin _ _ _=>0
 | .load1 _=>1
 | .loadN _ _=>1
 | .b2s _=>1
 | .lookup _ _ _ _ _=>1
 | .lenM _=>1
 | .alloc _=>2
 | .box _ _=>2
 | .bslice _ _ _=>2
 | .mkmap=>2
 | .mkslice _ _ _ _=>2
 |_=>3
def tb (m n:Nat):Bool:=Nat.beq (Nat.land (Nat.shiftRight m n) 1) 1
def B5 (nt:Nat)(ops:Array Oper)(j:Nat):CI:=match ops[j]? with|some o=>L2 E nt ops o|none=>⟨none,none,.bad⟩
def Adr (l:List Operand):List Nat:=l.filterMap fun| .tmp t=>some t|_=>none
def Pq (ops:Array Oper)(j:Nat):List Nat:=
 match ops[j]? with
 |some o=>List.append (match o.guard with|some (g,_)=>(match(ops[g]?).bind (·.dst)with|some d=> [d]|none=> [])|none=> []) (Adr o.op.operands.toList)
 |none=> []
structure Row where
 j:Nat
 d:DI
 bits:Nat
structure Reg where
 ops:Array Oper
 bits:Nat→Nat
def Ab5 (nt:Nat)(ops:Array Oper)(b:Nat→Nat)(j:Nat):Row:=⟨j,⟨B5 E nt ops j,Pq ops j⟩,b j⟩
def A1 (nt:Nat)(R:Reg):List Row:=(List.range R.ops.size).map (Ab5 E nt R.ops R.bits)
def Nj (r:Row):Nat:=cls r.d.ci.op
def Su (r:Row):Bool:=Nat.beq (Nj r) 3
def Cr (l:List Row):List Row:=l.filter Su
def Du (l:List Row):List Row:=l.filter fun r=>!Su r
def cnt (es:List Row)(r:Row):Nat:=(es.filter fun e=>tb r.bits e.j).length
def Oq (l:List Row):Bool:=l.any fun r=>Nat.beq (Nj r) 2
def Ft (ne es:List Row)(k:Nat):List Row:=ne.filter fun r=>Nat.beq (cnt es r) k
def Z7 (ne es:List Row)(e:Row)(k:Nat):List Row:=ne.filter fun r=>match Nat.beq (Nj r) 2 with
 |true=>false
 |false=>match Nat.ble (cnt es r) k with
  |true=>!(tb e.bits r.j)
  |false=>Nat.beq (cnt es r) (Nat.succ k) && Nat.beq (Nj r) 1 && Oq (Ft ne es (Nat.succ k))
def Uk (ne es:List Row):List Row:=ne.filter fun r=>Nat.beq (cnt es r) 0 && Nat.beq (Nj r) 1 && Oq (Ft ne es 0)
def Ho (r:Row):DI:=r.d
def Bp (ne es:List Row):List Row→Nat→List Ph
 | [],_=> []
 |e::r,k=>⟨e.d,(Ft ne es (Nat.succ k)).map Ho,(Z7 ne es e k).map Ho⟩::Bp ne es r (Nat.succ k)
def Ab6 (d:Nat)(o:Option Nat):Bool:=match o with|none=>true|some e=>!(Nat.beq d e)
def Ul (i r:Row):Bool:=match i.d.ci.dst with
 |none=>true
 |some d=>match Nat.beq r.j i.j with
  |true=>!(Ni d i.d.names)
  |false=>Ab6 d r.d.ci.dst && (!(Ni d r.d.names) || tb r.bits i.j)
def L3:List Row→Bool
 | []=>true
 |e::r=>r.all (fun f=>tb f.bits e.j) && L3 r
def X0 (l es:List Row)(i:Row):Bool:=
 l.all (Ul i) && (es.take (cnt es i)).all (fun e=>tb i.bits e.j) && (!(Nat.beq (Nj i) 2) || (es.drop (cnt es i)).all fun e=>tb e.bits i.j)
def oa (l es:List Row)(i:Row):Bool:=l.all fun k=>!(tb i.bits k.j) || !(Nat.beq (cnt es i) (cnt es k)) || Nat.ble (Nat.succ k.j) i.j
def Fu (l:List Row):Bool:=
 l.all (fun r=>!(tb r.bits r.j)) && (Du l).all (oa (Du l) (Cr l)) && (Du l).all (X0 l (Cr l)) && L3 (Cr l)
def P7 (b:Array Nat)(j:Nat):Nat:=b.getD j 0
def Nk (ops:Array Oper):Reg:=⟨ops,P7 (Region.before ops)⟩
def P8 (ops:Array Oper):Bool:=(List.range ops.size).all fun j=>Nat.ble (Nat.succ (P7 (Region.before ops) j)) (Nat.pow 2 j)
def K9 (b:Nat→Nat)(i e:Nat):Nat→Nat:=fun j=>match Nat.beq j e || tb (b j) e with
 |true=>Nat.lor (Nat.lor (b j) (Nat.pow 2 i)) (b i)
 |false=>b j
def Ab7 (l:List Row):Option (Nat×Nat):=
 match(l.filter fun r=>Nat.beq (Nj r) 2).filterMap fun i=>match(Cr l).filter fun e=>!(tb i.bits e.j) && !(tb e.bits i.j)with
  | []=>none
  |e::_=>some (i.j,e.j)with
 | []=>none
 |p::_=>some p
def Fb (nt:Nat)(ops:Array Oper):Nat→(Nat→Nat)→List (Nat→Nat)
 |0,b=> [b]
 |f+1,b=>match Ab7 (A1 E nt ⟨ops,b⟩)with
  |none=> [b]
  |some (i,e)=>match Nat.ble (Nat.succ i) ops.size && Nat.ble (Nat.succ e) ops.size && !(Nat.beq i e)with
   |true=>List.append (Fb nt ops f (K9 b i e)) (Fb nt ops f (K9 b e i))
   |false=> [b]
def Ahf (l:List Row):Alt:=⟨(Ft (Du l) (Cr l) 0).map Ho,(Uk (Du l) (Cr l)).map Ho,Bp (Du l) (Cr l) (Cr l) 0⟩
def Et (nt:Nat)(ops:Array Oper)(draw:Bool):CC:=
 match draw with
 |false=> .ops (ops.toList.map (L2 E nt ops))
 |true=>match P8 ops with
  |false=> .bad
  |true=>match Fu (A1 E nt (Nk ops))with
   |true=> .drawn ((Ft (Du (A1 E nt (Nk ops))) (Cr (A1 E nt (Nk ops))) 0).map Ho) ((Uk (Du (A1 E nt (Nk ops))) (Cr (A1 E nt (Nk ops)))).map Ho)
    (Bp (Du (A1 E nt (Nk ops))) (Cr (A1 E nt (Nk ops))) (Cr (A1 E nt (Nk ops))) 0)
   |false=>match(Fb E nt ops 8 (Nk ops).bits).all fun b=>Fu (A1 E nt ⟨ops,b⟩)with
    |true=> .alts ((Fb E nt ops 8 (Nk ops).bits).map fun b=>Ahf (A1 E nt ⟨ops,b⟩))
    |false=> .bad
def Be (nt:Nat):Code→CC
 | .skip=> .skip
 | .region _ ops draw=>Et E nt ops draw
 | .seq a b=> .seq (Be nt a) (Be nt b)
 | .cond c a b=> .cond (opd c) (Be nt a) (Be nt b)
 | .block id b=> .block id (Be nt b)
 | .loop b=> .loop (Be nt b)
 | .rangeFunc f ps a b=>match ps.toList.all (fun p=>Nat.ble (Nat.succ p) nt)with
  |true=> .rangeFunc (opd f) ps.toList (Be nt a) (Be nt b)
  |false=> .bad
 | .exit id=> .exit id
 | .scope b=> .scope (Be nt b)
 | .label l=> .label l
 | .goto l=> .goto l
 | .ret=> .ret
 | .refuse _=> .bad
def Pr (r:ResultVar):CRes:=
 match r with
 | .tmp t=> .tmp t
 | .cell a t=>match inf E t with
  |some i=>match Jb E t with
   |some true=> .cellN a i.size
   |some false=> .cell1 a
   |none=> .bad
  |none=> .bad
def Vy (f:Func)(c:Code):CFn:=⟨f.ntmps,f.results.toList.map (Pr E),Be E f.ntmps c⟩
def Ps:Nat→List Func→T CFn→T CFn
 |_,[],t=>t
 |i,f::r,t=>Ps (Nat.succ i) r (match f.body with
  |some c=>T.set t i (some (Vy E f c))
  |none=>t)
end
noncomputable def J9:Nat→List TypeInfo→T TypeInfo→T TypeInfo
 |_,[],t=>t
 |n,i::r,t=>J9 (Nat.succ n) r (T.set t n (some i))
inductive Out where
 |one (c:Conf)
 |many (l:List Conf)
 |done (fn:Nat) (v:AV) (h:H)
 |fail
noncomputable def put (tm:T AV)(d:Option Nat)(v:AV):T AV:=
 match d with
 |none=>tm
 |some d=>T.set tm d (some v)
noncomputable def wanted (tm:T AV)(g:Option (Nat×Bool)):Option Bool:=
 match g with
 |none=>some true
 |some (t,b)=>match T.get tm t with
  |some (.bool c)=>some (bEq c b)
  |some (.tup [])=>some false
  |_=>none
def findLabel:CC→Nat→Option CC
 | .seq a b,l=>match findLabel a l with
  |some r=>some (.seq r b)
  |none=>findLabel b l
 | .label l',l=>match Nat.beq l' l with|true=>some .skip|false=>none
 |_,_=>none
def exitTo (id:Nat):List AItem→Option (List AItem)
 | []=>none
 |i::k=>match i with
  | .inBlock id'=>match Nat.beq id' id with|true=>some k|false=>exitTo id k
  |_=>exitTo id k
def gotoIn (l:Nat):List AItem→Option (List AItem)
 | []=>none
 |i::k=>match i with
  | .inScope b=>match findLabel b l with
   |some r=>some (.code r:: .inScope b::k)
   |none=>gotoIn l k
  |_=>gotoIn l k
noncomputable def only (tm:T AV):List Nat→T AV
 | []=> .leaf
 |t::r=>match T.get tm t with
  |some v=>T.set (only tm r) t (some v)
  |none=>only tm r
noncomputable def G4:List DI→T AV→H→Option (T AV×H)
 | []=>fun tm h=>some (tm,h)
 |i::r=>fun tm h=>match wanted (only tm i.names) i.ci.guard with
  |some true=>match exec i.ci.op h (only tm i.names)with
   | .val v h'=>G4 r (put tm i.ci.dst v) h'
   |_=>none
  |some false=>G4 r (put tm i.ci.dst (.tup [])) h
  |none=>none
def yk (f:AFn):AFn→Bool:=
 match f with
 | .func a=>fun| .func b=>Nat.beq a b| .yield _=>false
 | .yield _=>fun _=>false
def Hp (f:AV→AV→Bool):List AV→List AV→Bool
 | []=>fun| []=>true|_::_=>false
 |a::r=>fun| []=>false|b::s=>match f a b with|true=>Hp f r s|false=>false
def vEq (u w:Value):Bool:=
 match u with
 | .slice (some a) n c=>(match w with
  | .slice (some a') n' c'=>(match Nat.beq a.block a'.block,Nat.beq a.off a'.off,Nat.beq n n',Nat.beq c c' with
   |true,true,true,true=>(match a.spot with
    |none=>(match a'.spot with|none=>true|some _=>false)
    |some s=>(match a'.spot with|none=>false|some s'=>Nat.beq s s'))
   |_,_,_,_=>false)
  |_=>false)
 |_=>false
def F3 (d:Nat):AV→AV→Bool:=
 match d with
 |0=>fun _ _=>false
 |Nat.succ d=>fun x=>match x with
  | .bool a=>fun y=>match y with| .bool b=>bEq a b|_=>false
  | .int k a=>fun y=>match y with| .int j b=>(match kEq k j with|true=>iEq a b|false=>false)|_=>false
  | .str a=>fun y=>match y with| .str b=>Ng a b|_=>false
  | .nilp=>fun y=>match y with| .nilp=>true|_=>false
  | .ptr b o=>fun y=>match y with| .ptr b' o'=>(match Nat.beq b b' with|true=>Nat.beq o o'|false=>false)|_=>false
  | .nils=>fun y=>match y with| .nils=>true|_=>false
  | .slc b o n c=>fun y=>match y with
   | .slc b' o' n' c'=>(match Nat.beq b b',Nat.beq o o',Nat.beq n n',Nat.beq c c' with|true,true,true,true=>true|_,_,_,_=>false)
   |_=>false
  | .nilm=>fun y=>match y with| .nilm=>true|_=>false
  | .map r=>fun y=>match y with| .map r'=>Nat.beq r r'|_=>false
  | .fn f a c=>fun y=>match y with
   | .fn g a' c'=>(match yk f g,Hp (F3 d) a a',Hp (F3 d) c c' with|true,true,true=>true|_,_,_=>false)
   |_=>false
  | .nilf=>fun y=>match y with| .nilf=>true|_=>false
  | .ifc t v=>fun y=>match y with| .ifc u w=>(match Nat.beq t u with|true=>F3 d v w|false=>false)|_=>false
  | .nili=>fun y=>match y with| .nili=>true|_=>false
  | .agg l=>fun y=>match y with| .agg l'=>Hp (F3 d) l l'|_=>false
  | .tup l=>fun y=>match y with| .tup l'=>Hp (F3 d) l l'|_=>false
  | .opq u=>fun y=>match y with| .opq w=>vEq u w|_=>false
  | .unk=>fun _=>false
noncomputable def Ot:List DI→T AV→T AV
 | []=>fun tm=>tm
 |i::r=>fun tm=>Ot r (match i.ci.dst with|some d=>T.set tm d none|none=>tm)
noncomputable def holds (tm:T AV)(d:Option Nat)(v:AV):Bool:=
 match d with
 |none=>true
 |some d=>match T.get tm d with
  |some u=>F3 20 v u
  |none=>false
noncomputable def check (i:DI)(tm:T AV)(h:H):Bool:=
 match wanted (only tm i.names) i.ci.guard with
 |some false=>holds tm i.ci.dst (.tup [])
 |none=>false
 |some true=>match exec i.ci.op h (only tm i.names)with
  | .val v _=>holds tm i.ci.dst v
  |_=>false
noncomputable def checks:List DI→T AV→H→Bool
 | []=>fun _ _=>true
 |i::r=>fun tm h=>match check i tm h with
  |true=>checks r tm h
  |false=>false
noncomputable def results (tm:T AV)(h:H):List CRes→Option (List AV)
 | []=>some []
 |x::r=>match results tm h r with
  |none=>none
  |some l=>match x with
   | .tmp t=>some (ev tm (.t t)::l)
   | .cell1 a=>match ev tm (.t a)with
    | .ptr b o=>match H.get h b with
     |some (.cells _ k c)=>match Nat.ble (Nat.succ o) k,T.get c o with
      |true,some v=>some (v::l)
      |_,_=>none
     |_=>none
    |_=>none
   | .cellN a n=>match ev tm (.t a)with
    | .ptr b o=>match cellsAt h b o n with
     |some v=>some (.agg v::l)
     |none=>none
    |_=>none
   | .bad=>none
def single (l:List AV):AV:=
 match l with
 | [v]=>v
 |l=> .tup l
def settle (m:AMode):AMode:=
 match m with
 | .panicking ((_,true)::_)=> .returning
 |m=>m
def raise (m:AMode)(l:List (AV×Bool)):AMode:=
 match m with
 | .panicking c=> .panicking (List.append l c)
 |_=> .panicking l
inductive OR where
 |fin (tm:T AV) (h:H)
 |at_ (i:CI) (r:List CI) (tm:T AV) (h:H) (x:R)
 |fail
noncomputable def Dh:List CI→T AV→H→OR
 | []=>fun tm h=> .fin tm h
 |i::r=>fun tm h=>match wanted tm i.guard with
  |some true=>(match exec i.op h tm with
   | .val v h'=>Dh r (put tm i.dst v) h'
   | .fail=> .fail
   |x=> .at_ i r tm h x)
  |some false=>Dh r (put tm i.dst (.tup [])) h
  |none=> .fail
noncomputable def Cu:List Nat→List AV→T AV→Option (T AV)
 | [],[],tm=>some tm
 |p::ps,a::as,tm=>Cu ps as (T.set tm p (some a))
 |_,_,_=>none
noncomputable def Da (pre chk:List DI)(l:List Ph)(k:List AItem)(fn nt:Nat)(tm:T AV)(defers:List ADef)(dfd:Bool)(ro:Option Nat)(cs:List AFr)(h:H):Out:=
 match G4 pre tm h with
 |none=> .fail
 |some (tm,h)=>match checks chk tm h with
  |false=> .fail
  |true=>match l with
   | []=> .one ⟨⟨fn,nt,tm,k,defers,.run,dfd,ro⟩,cs,h⟩
   |p::l=> .one ⟨⟨fn,nt,tm,.drawn p l::k,defers,.run,dfd,ro⟩,cs,h⟩
noncomputable def Iz:List Out→Out
 | []=> .many []
 |o::r=>match o with
  | .one c=>(match Iz r with
   | .many l=> .many (c::l)
   |_=> .fail)
  |_=> .fail
noncomputable def finish (v:AV)(cs:List AFr)(h:H)(c:AFr):Out:=
 match c with
 |⟨fn,nt,tm,todo,defers,mode,dfd,ro⟩=>match mode with
  | .run=>match todo with
   | []=> .fail
   |i::k=>match i with
    | .ops l=>(match l with
     | []=> .fail
     |i::r=>match i with
      |⟨dst,_,op⟩=>match op with
       | .bad=> .fail
       |_=> .one ⟨⟨fn,nt,put tm dst v,.ops r::k,defers,.run,dfd,ro⟩,cs,h⟩)
    | .drawn p l=>(match p with
     |⟨⟨⟨dst,_,op⟩,_⟩,pre,chk⟩=>match op with
      | .bad=> .fail
      |_=>Da pre chk l k fn nt (put tm dst v) defers dfd ro cs h)
    | .inRF l=> .one ⟨⟨fn,nt,tm,.endRF l::k,defers,.run,dfd,ro⟩,cs,h⟩
    |_=> .fail
  |_=> .fail
noncomputable def memo (K:T (List AV×AV))(f:Nat)(args:List AV):Option AV:=
 match T.get K f with
 |none=>none
 |some p=>match Hp (F3 20) p.1 args with
  |true=>some p.2
  |false=>none
noncomputable def Vz (dfd:Bool)(K:T (List AV×AV))(f:Nat)(args:List AV):Option AV:=
 match dfd with
 |true=>none
 |false=>memo K f args
section
variable (F:T CFn)(K:T (List AV×AV))
noncomputable def B8 (f:AFn):List AV→Bool→AFr→List AFr→H→Out:=
 match f with
 | .func f=>fun args dfd fr cs h=>match T.get F f with
  |some g=>match Vz dfd K f args with
   |some v=>finish v cs h fr
   |none=>match Nat.ble args.length g.ntmps with
    |true=> .one ⟨⟨f,g.ntmps,ofL 0 .leaf args,[.code g.body],[],.run,dfd,none⟩,fr::cs,h⟩
    |false=> .fail
  |none=> .fail
 | .yield l=>fun args dfd fr cs h=>match H.get h l with
  |some (.loop r)=>match Cu r.params args r.tmps with
   |some tm=> .one ⟨⟨r.fn,r.nt,tm,[.code r.assign,.beginRound,.code r.body],[],.run,dfd,some l⟩,fr::cs,h⟩
   |none=> .fail
  |_=> .fail
noncomputable def P9 (dfd:Bool)(v:AV)(cs:List AFr)(h:H):Out:=
 match cs with
 | []=> .fail
 |c::cs=>match dfd with
  |true=>match c with
   |⟨fn,nt,tm,todo,defers,mode,d,ro⟩=> .one ⟨⟨fn,nt,tm,todo,defers,settle mode,d,ro⟩,cs,h⟩
  |false=>finish v cs h c
noncomputable def doReturn (fn:Nat)(dfd:Bool)(v:AV)(cs:List AFr)(h:H):Out:=
 match cs with
 | []=>match dfd with
  |false=> .done fn v h
  |true=> .fail
 |cs=>P9 dfd v cs h
noncomputable def leave (jump:Option CC)(fn nt:Nat)(tm:T AV)(todo:List AItem)(defers:List ADef)(dfd:Bool)(ro:Option Nat)(cs:List AFr)(h:H):Out:=
 match ro with
 |none=> .one ⟨⟨fn,nt,tm,todo,defers,.returning,dfd,none⟩,cs,h⟩
 |some l=>match H.get h l with
  |some (.loop ⟨_,_,f,n,t,ps,a,b,d⟩)=>match jump with
   |none=>P9 dfd (.bool true) cs (H.set h l (.loop ⟨.ready,none,f,n,t,ps,a,b,d⟩))
   |some j=>match Nat.beq n nt with
    |true=>P9 dfd (.bool false) cs (H.set h l (.loop ⟨.done,some j,f,n,t,ps,a,b,d⟩))
    |false=> .fail
  |_=> .fail
noncomputable def V0 (o:OR)(k:List AItem)(fn nt:Nat)(defers:List ADef)(dfd:Bool)(ro:Option Nat)(cs:List AFr):Out:=
 match o with
 | .fail=> .fail
 | .fin tm h=> .one ⟨⟨fn,nt,tm,k,defers,.run,dfd,ro⟩,cs,h⟩
 | .at_ i r tm h x=>match x with
  | .call f args=>B8 F K f args false ⟨fn,nt,tm,.ops (i::r)::k,defers,.run,dfd,ro⟩ cs h
  | .dfr f args=>(match ro with
   |none=> .one ⟨⟨fn,nt,put tm i.dst (.tup []),.ops r::k,.call f args::defers,.run,dfd,none⟩,cs,h⟩
   |some _=> .fail)
  | .pan v=> .one ⟨⟨fn,nt,tm,.ops (i::r)::k,defers,.panicking [(v,false)],dfd,ro⟩,cs,h⟩
  | .recover=>(match ro with
   |some _=> .fail
   |none=>match dfd with
    |false=> .one ⟨⟨fn,nt,put tm i.dst .nili,.ops r::k,defers,.run,false,none⟩,cs,h⟩
    |true=>match cs with
     | []=> .fail
     |c::cs=>match c with
      |⟨fn',nt',tm',todo',defers',mode',d',ro'⟩=>match mode' with
       | .panicking ((v,false)::o)=> .one ⟨⟨fn,nt,put tm i.dst v,.ops r::k,defers,.run,true,none⟩,⟨fn',nt',tm',todo',defers',.panicking ((v,true)::o),d',ro'⟩::cs,h⟩
       |m=> .one ⟨⟨fn,nt,put tm i.dst .nili,.ops r::k,defers,.run,true,none⟩,⟨fn',nt',tm',todo',defers',m,d',ro'⟩::cs,h⟩)
  | .next l=> .many (List.map (fun x=>⟨⟨fn,nt,put tm i.dst x.1,.ops r::k,defers,.run,dfd,ro⟩,cs,x.2⟩) l)
  | .val _ _=> .fail
  | .fail=> .fail
noncomputable def enterLoop (fn nt:Nat)(tm:T AV)(ps:List Nat)(a b:CC)(ro:Option Nat)(h:H):Option (Nat×List ADef×H):=
 match ro with
 |none=>some (Nat.succ h.n,[.mark h.n],H.new (H.new h (.dfr (some []))) (.loop ⟨.ready,none,fn,nt,tm,ps,a,b,h.n⟩))
 |some l=>match H.get h l with
  |some (.loop r)=>some (h.n,[],H.new h (.loop ⟨.ready,none,fn,nt,tm,ps,a,b,r.defers⟩))
  |_=>none
noncomputable def Cg (c:CC):List AItem→Nat→Nat→T AV→List ADef→Bool→Option Nat→List AFr→H→Out:=
 match c with
 | .skip=>fun k fn nt tm defers dfd ro cs h=> .one ⟨⟨fn,nt,tm,k,defers,.run,dfd,ro⟩,cs,h⟩
 | .label _=>fun k fn nt tm defers dfd ro cs h=> .one ⟨⟨fn,nt,tm,k,defers,.run,dfd,ro⟩,cs,h⟩
 | .ret=>fun k fn nt tm defers dfd ro cs h=>leave (some .ret) fn nt tm (.code .ret::k) defers dfd ro cs h
 | .ops l=>fun k fn nt tm defers dfd ro cs h=>V0 F K (Dh l tm h) k fn nt defers dfd ro cs
 | .drawn pre chk l=>fun k fn nt tm defers dfd ro cs h=>Da pre chk l k fn nt tm defers dfd ro cs h
 | .alts l=>fun k fn nt tm defers dfd ro cs h=>Iz (l.map fun a=>Da a.pre a.chk a.l k fn nt tm defers dfd ro cs h)
 | .seq a b=>fun k fn nt tm defers dfd ro cs h=> .one ⟨⟨fn,nt,tm,.code a:: .code b::k,defers,.run,dfd,ro⟩,cs,h⟩
 | .cond x a b=>fun k fn nt tm defers dfd ro cs h=>match ev tm x with
  | .bool true=> .one ⟨⟨fn,nt,tm,.code a::k,defers,.run,dfd,ro⟩,cs,h⟩
  | .bool false=> .one ⟨⟨fn,nt,tm,.code b::k,defers,.run,dfd,ro⟩,cs,h⟩
  |_=> .fail
 | .block id b=>fun k fn nt tm defers dfd ro cs h=> .one ⟨⟨fn,nt,tm,.code b:: .inBlock id::k,defers,.run,dfd,ro⟩,cs,h⟩
 | .loop b=>fun k fn nt tm defers dfd ro cs h=> .one ⟨⟨fn,nt,tm,.code b:: .inLoop b::k,defers,.run,dfd,ro⟩,cs,h⟩
 | .scope b=>fun k fn nt tm defers dfd ro cs h=> .one ⟨⟨fn,nt,tm,.code b:: .inScope b::k,defers,.run,dfd,ro⟩,cs,h⟩
 | .exit id=>fun k fn nt tm defers dfd ro cs h=>match exitTo id k with
  |some k=> .one ⟨⟨fn,nt,tm,k,defers,.run,dfd,ro⟩,cs,h⟩
  |none=>(match ro with|some _=>leave (some (.exit id)) fn nt tm [] defers dfd ro cs h|none=> .fail)
 | .goto l=>fun k fn nt tm defers dfd ro cs h=>match gotoIn l k with
  |some k=> .one ⟨⟨fn,nt,tm,k,defers,.run,dfd,ro⟩,cs,h⟩
  |none=>(match ro with|some _=>leave (some (.goto l)) fn nt tm [] defers dfd ro cs h|none=> .fail)
 | .rangeFunc f ps a b=>fun k fn nt tm defers dfd ro cs h=>match enterLoop fn nt tm ps a b ro h with
  |none=> .fail
  |some (l,mark,h)=>(match ev tm f with
   | .fn g first cap=>B8 F K g (List.append first (.fn (.yield l) [] []::cap)) false ⟨fn,nt,tm,.inRF l::k,List.append mark defers,.run,dfd,ro⟩ cs h
   |_=> .fail)
 | .bad=>fun _ _ _ _ _ _ _ _ _=> .fail
noncomputable def Bu (i:AItem):List AItem→Nat→Nat→T AV→List ADef→Bool→Option Nat→List AFr→H→Out:=
 match i with
 | .code c=>fun k fn nt tm defers dfd ro cs h=>Cg F K c k fn nt tm defers dfd ro cs h
 | .inBlock _=>fun k fn nt tm defers dfd ro cs h=> .one ⟨⟨fn,nt,tm,k,defers,.run,dfd,ro⟩,cs,h⟩
 | .inScope _=>fun k fn nt tm defers dfd ro cs h=> .one ⟨⟨fn,nt,tm,k,defers,.run,dfd,ro⟩,cs,h⟩
 | .inLoop b=>fun k fn nt tm defers dfd ro cs h=> .one ⟨⟨fn,nt,tm,.code b:: .inLoop b::k,defers,.run,dfd,ro⟩,cs,h⟩
 | .ops l=>fun k fn nt tm defers dfd ro cs h=>V0 F K (Dh l tm h) k fn nt defers dfd ro cs
 | .drawn p l=>fun k fn nt tm defers dfd ro cs h=>match wanted (only tm p.eff.names) p.eff.ci.guard with
  |none=> .fail
  |some false=>Da p.pre p.chk l k fn nt (put tm p.eff.ci.dst (.tup [])) defers dfd ro cs h
  |some true=>(match exec p.eff.ci.op h (only tm p.eff.names)with
   | .val v h=>Da p.pre p.chk l k fn nt (put tm p.eff.ci.dst v) defers dfd ro cs h
   | .call f args=>B8 F K f args false ⟨fn,nt,tm,.drawn p l::k,defers,.run,dfd,ro⟩ cs h
   |_=> .fail)
 | .inRF _=>fun _ _ _ _ _ _ _ _ _=> .fail
 | .gone=>fun _ _ _ _ _ _ _ _ _=> .fail
 | .endRF l=>fun k fn nt tm defers dfd ro cs h=>match H.get h l with
  |some (.loop ⟨st,p,f,n,t,ps,a,b,d⟩)=>(match st with
   | .busy=> .fail
   |_=>match p with
    |some j=>(match Nat.beq n nt with
     |true=> .one ⟨⟨fn,nt,tm,.code j::k,defers,.run,dfd,ro⟩,cs,H.set h l (.loop ⟨.exhausted,p,f,n,t,ps,a,b,d⟩)⟩
     |false=> .fail)
    |none=> .one ⟨⟨fn,nt,tm,k,defers,.run,dfd,ro⟩,cs,H.set h l (.loop ⟨.exhausted,p,f,n,t,ps,a,b,d⟩)⟩)
  |_=> .fail
 | .beginRound=>fun k fn nt tm defers dfd ro cs h=>match ro with
  |none=> .fail
  |some l=>match H.get h l with
   |some (.loop ⟨st,p,f,n,t,ps,a,b,d⟩)=>(match st with
    | .ready=> .one ⟨⟨fn,nt,tm,k,defers,.run,dfd,ro⟩,cs,H.set h l (.loop ⟨.busy,p,f,n,t,ps,a,b,d⟩)⟩
    |_=> .fail)
   |_=> .fail
noncomputable def unwind (fn nt:Nat)(tm:T AV)(todo:List AItem)(mode:AMode)(dfd:Bool)(ro:Option Nat)(cs:List AFr)(h:H)(defers:List ADef):Out:=
 match defers with
 |d::ds=>(match d with
  | .mark b=>(match H.get h b with
   |some (.dfr (some l))=> .one ⟨⟨fn,nt,tm,todo,List.append l ds,mode,dfd,ro⟩,cs,H.set h b (.dfr none)⟩
   |_=> .fail)
  | .call f args=>B8 F K (.func f) args true ⟨fn,nt,tm,todo,ds,mode,dfd,ro⟩ cs h)
 | []=>match mode with
  | .run=> .fail
  | .panicking chain=>(match T.get F fn with
   |none=> .fail
   |some _=>match cs with
    | []=> .fail
    |c::cs=>match c with
     |⟨fn,nt,tm,todo,defers,mode,dfd,ro⟩=>match todo with
      | .drawn p _::_=> .one ⟨⟨fn,nt,Ot p.chk tm,[.gone],defers,raise mode chain,dfd,ro⟩,cs,h⟩
      |_=> .one ⟨⟨fn,nt,tm,todo,defers,raise mode chain,dfd,ro⟩,cs,h⟩)
  | .returning=>match T.get F fn with
   |none=> .fail
   |some g=>match results tm h g.results with
    |some l=>doReturn fn dfd (single l) cs h
    |none=> .fail
noncomputable def step (c:Conf):Out:=
 match c with
 |⟨⟨fn,nt,tm,todo,defers,mode,dfd,ro⟩,cs,h⟩=>match mode with
  | .run=>(match todo with
   | []=>leave none fn nt tm [] defers dfd ro cs h
   |i::k=>Bu F K i k fn nt tm defers dfd ro cs h)
  |m=>unwind F K fn nt tm todo m dfd ro cs h defers
inductive Safe (Q:Nat→AV→H→Prop):Conf→Prop where
 |one {c c':Conf}:step F K c= .one c'→Safe Q c'→Safe Q c
 |many {c:Conf} {l:List Conf}:step F K c= .many l→(∀c'∈l,Safe Q c')→Safe Q c
 |done {c:Conf} {fn:Nat} {v:AV} {h:H}:step F K c= .done fn v h→Q fn v h→Safe Q c
end
variable {E:Env}{a b bytes cap cap' cb d f n nt off r s sCap sLen size:Nat}{c tm:T AV}{cs tmps:Array Value}{e kt t u:TypeId}{e' k' v' x':Value}{es:List AEnt}{h h':H}{i:TypeInfo}{ix m x y:Operand}{j k:IntKind}{l xs z:List AV}{l' vs:List Value}{lo mx:Option Operand}{o:Oper}{ok q:Bool}{op:BinOp}{p:Prop}{sh:Sh}{v:AV}{w':World}{w0:Array Obj}{ρ:Operand→Value}
theorem Ads (h:p:=by
 by_cases h:m % 2=0
 ·have:Nat.beq (Nat.mod m 2) 0=true:=by rw [show Nat.mod m 2=0 from h];rfl
  rw [this,if_pos h];rfl
 ·have:Nat.beq (Nat.mod m 2) 0=false:=by
   cases hb:Nat.beq (Nat.mod m 2) 0 with
   |false=>rfl
   |true=>exact absurd (Nat.eq_of_beq_eq_true hb) h
  rw [this,if_neg h];rfl):p:=h
theorem yn (h:p:=by
 by_cases e:m=n
 ·subst e;simp
 ·rw [if_neg (by omega),if_neg (by omega)]):p:=h
section
variable {α:Type}
theorem T.get_leaf (n:Nat):T.get (T.leaf:T α) n=none:=rfl
theorem T.get_node_zero (l:T α)(v:Option α)(r:T α):T.get (.node l v r) 0=v:=rfl
theorem T.get_node_succ (l:T α)(v:Option α)(r:T α)(m:Nat):T.get (.node l v r) (m+1)=if m % 2=0 then T.get l (m / 2)else T.get r (m / 2):=by show(@Bool.rec (fun _=>Option α) (T.get r (Nat.div m 2)) (T.get l (Nat.div m 2)) (Nat.beq (Nat.mod m 2) 0))=_;exact Ads
theorem T.single_zero (x:Option α)(f:Nat):T.single x (f+1) 0= .node .leaf x .leaf:=rfl
theorem T.single_succ (x:Option α)(f m:Nat):T.single x (f+1) (m+1)=if m % 2=0 then .node (T.single x f (m / 2)) none .leaf else .node .leaf none (T.single x f (m / 2)):=by show(@Bool.rec (fun _=>T α) (.node .leaf none (T.single x f (Nat.div m 2))) (.node (T.single x f (Nat.div m 2)) none .leaf) (Nat.beq (Nat.mod m 2) 0))=_;exact Ads
theorem T.set_leaf (n:Nat)(x:Option α):T.set (.leaf:T α) n x=T.single x (n+1) n:=rfl
theorem T.set_node_zero (l:T α)(v:Option α)(r:T α)(x:Option α):T.set (.node l v r) 0 x= .node l x r:=rfl
theorem T.set_node_succ (l:T α)(v:Option α)(r:T α)(m:Nat)(x:Option α):T.set (.node l v r) (m+1) x=if m % 2=0 then .node (T.set l (m / 2) x) v r else .node l v (T.set r (m / 2) x):=by show(@Bool.rec (fun _=>T α) (.node l v (T.set r (Nat.div m 2) x)) (.node (T.set l (Nat.div m 2) x) v r) (Nat.beq (Nat.mod m 2) 0))=_;exact Ads
theorem T.get_single (x:Option α): ∀(f n m:Nat),n<f→T.get (T.single x f n) m=if m=n then x else none
 |0,n,m,h=>by omega
 |f+1,0,m,_=>by
  cases m with
  |zero=>rfl
  |succ m=>rw [T.single_zero,T.get_node_succ];simp [T.get_leaf]
 |f+1,n+1,m,h=>by
  rw [T.single_succ];by_cases hn:n % 2=0
  ·rw [if_pos hn]
   cases m with
   |zero=>rw [T.get_node_zero];simp
   |succ m=>
    rw [T.get_node_succ];by_cases hm:m % 2=0;·rw [if_pos hm,T.get_single x f (n / 2) (m / 2) (by omega)];exact yn
    ·rw [if_neg hm,T.get_leaf,if_neg (by omega)]
  ·rw [if_neg hn]
   cases m with
   |zero=>rw [T.get_node_zero];simp
   |succ m=>
    rw [T.get_node_succ];by_cases hm:m % 2=0;·rw [if_pos hm,T.get_leaf,if_neg (by omega)]
    ·rw [if_neg hm,T.get_single x f (n / 2) (m / 2) (by omega)];exact yn
theorem T.get_set (t:T α)(x:Option α): ∀(n m:Nat),T.get (T.set t n x) m=if m=n then x else T.get t m:=by
 induction t with
 |leaf=>intro n m;rw [T.set_leaf,T.get_single x (n+1) n m (by omega)];rfl
 |node l v r ihl ihr=>
  intro n m
  cases n with
  |zero=>
   rw [T.set_node_zero]
   cases m with
   |zero=>rfl
   |succ m=>rw [T.get_node_succ,T.get_node_succ,if_neg (by omega: ¬m+1=0)]
  |succ n=>
   rw [T.set_node_succ];by_cases hn:n % 2=0
   ·rw [if_pos hn]
    cases m with
    |zero=>rw [T.get_node_zero,T.get_node_zero,if_neg (by omega)]
    |succ m=>
     rw [T.get_node_succ,T.get_node_succ];by_cases hm:m % 2=0;·rw [if_pos hm,if_pos hm,ihl];exact yn
     ·rw [if_neg hm,if_neg hm,if_neg (by omega)]
   ·rw [if_neg hn]
    cases m with
    |zero=>rw [T.get_node_zero,T.get_node_zero,if_neg (by omega)]
    |succ m=>
     rw [T.get_node_succ,T.get_node_succ];by_cases hm:m % 2=0;·rw [if_pos hm,if_pos hm,if_neg (by omega)]
     ·rw [if_neg hm,if_neg hm,ihr];exact yn
end
theorem Am (h:Nat.beq a b=true):a=b:=Nat.eq_of_beq_eq_true h
theorem D8 (h:Nat.beq a b=false):a≠b:=Nat.ne_of_beq_eq_false h
theorem Ak (h:Nat.ble a b=true):a≤b:=Nat.le_of_ble_eq_true h
theorem Eu (h:Nat.ble a b=false):b<a:=by
 rcases Nat.lt_or_ge b a with h'|h';·exact h'
 ·rw [Nat.ble_eq_true_of_le h']at h;exact absurd h (by simp)
theorem Bi (h:kEq j k=true):j=k:=by cases j <;> cases k <;> first|rfl|exact absurd h (by decide)
theorem Ew (a b:Int):iEq a b=decide (a=b):=by
 cases a <;> cases b
 ·rename_i m n;show Nat.beq m n=_;by_cases h:m=n;·subst h;simp
  ·have: ¬(Int.ofNat m=Int.ofNat n):=fun e=>h (Int.ofNat.inj e);rw [decide_eq_false this]
   cases hb:Nat.beq m n with
   |false=>rfl
   |true=>exact absurd (Am hb) h
 ·rename_i m n;show false=_;symm;apply decide_eq_false;intro e;cases e
 ·rename_i m n;show false=_;symm;apply decide_eq_false;intro e;cases e
 ·rename_i m n;show Nat.beq m n=_;by_cases h:m=n;·subst h;simp
  ·have: ¬(Int.negSucc m=Int.negSucc n):=fun e=>h (Int.negSucc.inj e);rw [decide_eq_false this]
   cases hb:Nat.beq m n with
   |false=>rfl
   |true=>exact absurd (Am hb) h
theorem ble_eq (a b:Nat):Nat.ble a b=decide (a≤b):=by
 cases h:Nat.ble a b with
 |true=>simp [Ak h]
 |false=>have:=Eu h;symm;apply decide_eq_false;omega
theorem Hf (a b:Int):iLt a b=decide (a<b):=by
 cases a <;> cases b;·rename_i m n;show Nat.ble (m+1) n=_;rw [ble_eq];exact decide_eq_decide.2 ⟨fun h=>by show((m:Int))<(n:Int);omega,fun h=>by have:((m:Int))<(n:Int):=h;omega⟩
 ·rename_i m n;show false=_;symm;apply decide_eq_false;intro h;have:=Int.negSucc_lt_zero n;have:(0:Int)≤Int.ofNat m:=Int.natCast_nonneg m;omega
 ·rename_i m n;show true=_;symm;apply decide_eq_true;have:=Int.negSucc_lt_zero m;have:(0:Int)≤Int.ofNat n:=Int.natCast_nonneg n;omega
 ·rename_i m n;show Nat.ble (n+1) m=_;rw [ble_eq];exact decide_eq_decide.2 ⟨fun h=>by rw [Int.negSucc_eq,Int.negSucc_eq];omega,fun h=>by rw [Int.negSucc_eq,Int.negSucc_eq]at h;omega⟩
theorem Z8 (k:IntKind):bits k=k.bits:=by cases k <;> rfl
theorem oc (k:IntKind):pw k=2 ^ k.bits:=by cases k <;> rfl
theorem od (k:IntKind)(n:Int):(toU k n:Int)=n % (2 ^ k.bits:Int):=by
 have hp:((pw k:Nat):Int)=(2 ^ k.bits:Int):=by rw [oc];simp
 rw [←hp];have hpos:0<pw k:=by cases k <;> decide
 cases n with
 |ofNat m=>show((m % pw k:Nat):Int)=_;simp
 |negSucc m=>show((pw k - 1 - m % pw k:Nat):Int)=_;have hlt:=Nat.mod_lt m hpos;rw [Int.negSucc_emod m (by omega:(0:Int)<(pw k:Int))];omega
theorem Adt (k:IntKind)(n:Int):toU k n<pw k:=by
 have hpos:0<pw k:=by cases k <;> decide
 cases n with
 |ofNat m=>exact Nat.mod_lt m hpos
 |negSucc m=>show pw k - 1 - m % pw k<pw k;omega
theorem Gj (k:IntKind)(n:Int):wr k n=k.wrap n:=by
 have h:=od k n;have hl:=Adt k n;unfold wr IntKind.wrap wrN;rw [←h];generalize toU k n=r at hl
 cases k <;> simp only [hf,pw,IntKind.signed,IntKind.bits]at hl ⊢ <;> simp only [ble_eq] <;> (split <;> rename_i hb <;> simp only [decide_eq_true_eq,decide_eq_false_iff_not]at hb <;> simp <;> omega)
theorem Ka (a b:Nat):K2 a b=min a b:=by
 unfold K2;split <;> rename_i h;·have:=Ak h;omega
 ·have:=Eu h;omega
theorem Kb: ∀(a b:List Nat),Ng a b=decide (a=b)
 | [],[]=>rfl
 | [],_::_=>by simp [Ng]
 |_::_,[]=>by simp [Ng]
 |a::r,b::s=>by
  show(match Nat.beq a b with|true=>Ng r s|false=>false)=_
  cases h:Nat.beq a b with
  |true=>rw [Kb r s];have:=Am h;subst this;simp
  |false=>have:=D8 h;simp [this]
theorem X1 (a b:Bool):bEq a b=decide (a=b):=by cases a <;> cases b <;> rfl
theorem Hq (n:Nat): ∀l:List Nat,Ni n l=true↔n∈l
 | []=>by simp [Ni]
 |a::r=>by
  show(match Nat.beq a n with|true=>true|false=>Ni n r)=true↔_
  cases h:Nat.beq a n with
  |true=>have:=Am h;subst this;simp
  |false=>have:=D8 h;simp [Hq n r,Ne.symm this]
structure Loc where
 cb:Nat
 base:Nat
 csz:Nat
abbrev Phi:=Nat→Option Loc
mutual
inductive VR (φ: Phi):AV→Value→Prop where
 |bool (b:Bool):VR φ (.bool b) (.bool b)
 |int (k:IntKind) (n:Int):VR φ (.int k n) (.int k n)
 |str {s:List Nat} {b:ByteArray} (h:b.data.toList.map (·.toNat)=s):VR φ (.str s) (.string b)
 |nilp:VR φ .nilp (.pointer none)
 |ptr {b o:Nat} {l:Loc} (h:φ b=some l):VR φ (.ptr b o) (.pointer (some ⟨l.cb,l.base+o,none⟩))
 |nils:VR φ .nils (.slice none 0 0)
 |slcX {b o n c:Nat} {l:Loc} {off:Nat} (h:φ b=some l) (hc:c<Aa) (hl:n≤c) (ho:0<c→off=l.base+o):
   VR φ (.slc b o n c) (.slice (some ⟨l.cb,off,none⟩) n c)
 |slcU {b o n c k:Nat} {l:Loc} {off:Nat} (h:φ b=some l) (hl:n≤c) (hr:off+c*k≤l.csz) (ho:0<n→off=l.base+o):
   VR φ (.slc b o n (Aa+k)) (.slice (some ⟨l.cb,off,none⟩) n c)
 |nilm:VR φ .nilm (.map none)
 |map {r:Nat} {l:Loc} (h:φ r=some l):VR φ (.map r) (.map (some l.cb))
 |fnF {f:Nat} {a c:List AV} {a' c':Array Value} (ha:VRs φ a a'.toList) (hc:VRs φ c c'.toList):VR φ (.fn (.func f) a c) (.func (.func f) a' c')
 |fnY {r:Nat} {l:Loc} (h:φ r=some l):VR φ (.fn (.yield r) [] []) (.func (.yield l.cb) #[] #[])
 |nilf:VR φ .nilf .nilFunc
 |ifc {t:Nat} {v:AV} {v':Value} (h:VR φ v v'):VR φ (.ifc t v) (.iface t v')
 |nili:VR φ .nili .nilIface
 |agg {l:List AV} {c:Array Value} (h:VRs φ l c.toList):VR φ (.agg l) (.agg c)
 |tup {l:List AV} {c:Array Value} (h:VRs φ l c.toList):VR φ (.tup l) (.tuple c)
 |opq (v:Value):VR φ (.opq v) v
 |unk (v:Value):VR φ .unk v
inductive VRs (φ: Phi):List AV→List Value→Prop where
 |nil:VRs φ [] []
 |cons {v:AV} {v':Value} {l:List AV} {l':List Value} (h:VR φ v v') (hs:VRs φ l l'):VRs φ (v::l) (v'::l')
end
def Phi.le (φ φ':Phi):Prop:= ∀b l,φ b=some l→φ' b=some l
theorem Phi.le.refl (φ: Phi):Phi.le φ φ:= fun _ _ h=>h
theorem Phi.le.trans {a b c:Phi}(h:Phi.le a b)(k:Phi.le b c):Phi.le a c:=fun x l hx=>k x l (h x l hx)
mutual
theorem VR.mono {φ φ':Phi}(hp:Phi.le φ φ'){v:AV}{v':Value}(h:VR φ v v'):VR φ' v v':= match h with
 | .bool b=> .bool b
 | .int k n=> .int k n
 | .str h=> .str h
 | .nilp=> .nilp
 | .ptr h=> .ptr (hp _ _ h)
 | .nils=> .nils
 | .slcX h a b c=> .slcX (hp _ _ h) a b c
 | .slcU h a b c=> .slcU (hp _ _ h) a b c
 | .nilm=> .nilm
 | .map h=> .map (hp _ _ h)
 | .fnF a c=> .fnF (VRs.mono hp a) (VRs.mono hp c)
 | .fnY h=> .fnY (hp _ _ h)
 | .nilf=> .nilf
 | .ifc h=> .ifc (VR.mono hp h)
 | .nili=> .nili
 | .agg h=> .agg (VRs.mono hp h)
 | .tup h=> .tup (VRs.mono hp h)
 | .opq v=> .opq v
 | .unk v=> .unk v
theorem VRs.mono {φ φ':Phi}(hp:Phi.le φ φ'){l:List AV}{l':List Value}(h:VRs φ l l'):VRs φ' l l':= match h with
 | .nil=> .nil
 | .cons a b=> .cons (VR.mono hp a) (VRs.mono hp b)
end
section lists
variable {φ:Phi}
theorem VRs.length {l:List AV}{l':List Value}(h:VRs φ l l'):l.length=l'.length:=by
 induction l generalizing l' with
 |nil=>cases h;rfl
 |cons a l ih=>cases h with|cons _ hs=>simp [ih hs]
theorem VRs.append {a b:List AV}{a' b':List Value}(h:VRs φ a a')(k:VRs φ b b'):VRs φ (a++b) (a'++b'):=by
 induction a generalizing a' with
 |nil=>cases h;exact k
 |cons x a ih=>cases h with|cons hv hs=>exact .cons hv (ih hs)
theorem VRs.get {l:List AV}{l':List Value}(h:VRs φ l l'){i:Nat}{v:AV}(hi:l[i]?=some v): ∃v',l'[i]?=some v'∧VR φ v v':=by
 induction l generalizing l' i with
 |nil=>simp at hi
 |cons x l ih=>
  cases h with
  |cons hv hs=>
   cases i with
   |zero=>simp at hi;subst hi;exact⟨_,rfl,hv⟩
   |succ i=>simp at hi ⊢;exact ih hs hi
theorem VRs.drop {l:List AV}{l':List Value}(h:VRs φ l l')(n:Nat):VRs φ (l.drop n) (l'.drop n):=by
 induction n generalizing l l' with
 |zero=>simpa using h
 |succ n ih=>
  cases h with
  |nil=>simpa using VRs.nil
  |cons _ hs=>simpa using ih hs
theorem VRs.take {l:List AV}{l':List Value}(h:VRs φ l l')(n:Nat):VRs φ (l.take n) (l'.take n):=by
 induction n generalizing l l' with
 |zero=>simpa using VRs.nil
 |succ n ih=>
  cases h with
  |nil=>simpa using VRs.nil
  |cons hv hs=>simpa using VRs.cons hv (ih hs)
theorem VRs.of_get {l:List AV}: ∀{l':List Value},l.length=l'.length→(∀(i:Nat) (v:AV),l[i]?=some v→ ∃v',l'[i]?=some v'∧VR φ v v')→VRs φ l l':=by
 induction l with
 |nil=>intro l' hl _;cases l' with|nil=>exact .nil|cons _ _=>simp at hl
 |cons a l ih=>
  intro l' hl h
  cases l' with
  |nil=>simp at hl
  |cons a' l'=>
   refine .cons ?_ (ih (by simpa using hl) fun i v hi=>?_);·obtain⟨v',h1,h2⟩:=h 0 a rfl;simp at h1;subst h1;exact h2
   ·obtain⟨v',h1,h2⟩:=h (i+1) v (by simpa using hi);exact⟨v',by simpa using h1,h2⟩
end lists
structure Like (w w':World):Prop where
 os:w'.os=w.os
 tape:w'.tape=w.tape
 output:w'.output=w.output
theorem Like.refl (w:World):Like w w:=⟨rfl,rfl,rfl⟩
theorem Like.trans {a b c:World}(h:Like a b)(k:Like b c):Like a c:=⟨k.os.trans h.os,k.tape.trans h.tape,k.output.trans h.output⟩
structure TR (φ: Phi)(nt:Nat)(tm:T AV)(tmps:Array Value):Prop where
 size:tmps.size=nt
 val: ∀t v,T.get tm t=some v→VR φ v (tmps.getD t undef)
theorem TR.mono {φ φ':Phi}(hp:Phi.le φ φ'){nt:Nat}{tm:T AV}{tmps:Array Value}(h:TR φ nt tm tmps):TR φ' nt tm tmps:= ⟨h.size,fun t v ht=>(h.val t v ht).mono hp⟩
theorem Jc (a:Array Value)(d:Nat)(v u:Value)(t:Nat)(hd:d<a.size):(a.setIfInBounds d v).getD t u=if t=d then v else a.getD t u:=by
 simp only [Array.getD_eq_getD_getElem?,Array.getElem?_setIfInBounds];by_cases h:t=d;·subst h;simp [hd]
 ·rw [if_neg (by omega),if_neg h]
theorem TR.put {φ: Phi}{nt:Nat}{tm:T AV}{tmps:Array Value}(h:TR φ nt tm tmps){d:Option Nat}(hd:Oo nt d=true){v:AV}{v':Value}(hv:VR φ v v'): TR φ nt (Ev.put tm d v) (match d with|some d=>tmps.setIfInBounds d v'|none=>tmps):=by
 cases d with
 |none=>exact h
 |some d=>
  have hlt:d<tmps.size:=by rw [h.size];exact Ak hd
  refine⟨by simpa using h.size,fun t u ht=>?_⟩;simp only [Ev.put,T.get_set]at ht;show VR φ u ((tmps.setIfInBounds d v').getD t undef);rw [Jc _ _ _ _ _ hlt];by_cases e:t=d;·rw [if_pos e]at ht ⊢;cases ht;exact hv
  ·rw [if_neg e]at ht ⊢;exact h.val t u ht
theorem Qa (φ: Phi): ∀(d:Nat) (v:Value),VR φ (Ui d v) v
 |0,v=> .unk v
 |d+1,v=>by
  have hs: ∀l:List Value,VRs φ (l.map (Ui d)) l:=by
   intro l;induction l with
   |nil=>exact .nil
   |cons a l ih=>exact .cons (Qa φ d a) ih
  cases v with
  |bool b=>exact .bool b
  |int k n=>exact .int k n
  |float k b=>exact .unk _
  |complex k a b=>exact .unk _
  |string s=>exact .str rfl
  |pointer a=>cases a with
   |none=>exact .nilp
   |some a=>exact .unk _
  |slice a l c=>cases a with
   |none=>cases l with
    |zero=>cases c with
     |zero=>exact .nils
     |succ c=>exact .unk _
    |succ l=>exact .unk _
   |some a=>exact .unk _
  |map r=>cases r with
   |none=>exact .nilm
   |some r=>exact .unk _
  |chan r=>exact .unk _
  |func f a c=>exact .unk _
  |nilFunc=>exact .nilf
  |iface t v=>exact .ifc (Qa φ d v)
  |nilIface=>exact .nili
  |agg cs=>exact .agg (hs _)
  |tuple cs=>exact .tup (hs _)
def RhoR (φ: Phi)(tm:T AV)(ρ: Operand→Value):Prop:= ∀x,VR φ (ev tm (opd x)) (ρ x)
theorem TR.rho {φ: Phi}{nt:Nat}{tm:T AV}{a:Act}(h:TR φ nt tm a.tmps):RhoR φ tm a.eval:=by
 intro x
 cases x with
 |tmp t=>
  show VR φ (match T.get tm t with|some v=>v|none=> .unk) (a.tmps.getD t undef)
  cases ht:T.get tm t with
  |none=>exact .unk _
  |some v=>exact h.val t v ht
 |const v=>exact Qa φ 10 v
 |global g=>exact .unk _
 |func f=>exact .fnF .nil .nil
theorem RhoR.list {φ: Phi}{tm:T AV}{ρ: Operand→Value}(h:RhoR φ tm ρ)(l:List Operand):VRs φ (evs tm (l.map opd)) (l.map ρ):=by
 induction l with
 |nil=>exact .nil
 |cons a l ih=>exact .cons (h a) ih
structure ER (φ: Phi)(e:AEnt)(e':MapEntry):Prop where
 key:VR φ e.key e'.key
 val:VR φ e.val e'.val
 born:e.born=e'.born
inductive ERs (φ: Phi):List AEnt→List MapEntry→Prop where
 |nil:ERs φ [] []
 |cons {e:AEnt} {e':MapEntry} {l:List AEnt} {l':List MapEntry} (h:ER φ e e') (hs:ERs φ l l'):ERs φ (e::l) (e'::l')
theorem ERs.mono {φ φ':Phi}(hp:Phi.le φ φ'){l:List AEnt}{l':List MapEntry}(h:ERs φ l l'):ERs φ' l l':=by
 induction h with
 |nil=>exact .nil
 |cons h _ ih=>exact .cons ⟨h.key.mono hp,h.val.mono hp,h.born⟩ ih
inductive DR (φ: Phi):ADef→Deferred→Prop where
 |call {f:Nat} {args:List AV} {c as:Array Value} (h:VRs φ args (as.toList++c.toList)):DR φ (.call f args) {target:= .fn (.func f) c,args:=as}
 |mark {b:Nat} {l:Loc} (h:φ b=some l):DR φ (.mark b) {target:= .collected l.cb,args:= #[]}
inductive DRs (φ: Phi):List ADef→List Deferred→Prop where
 |nil:DRs φ [] []
 |cons {d:ADef} {d':Deferred} {l:List ADef} {l':List Deferred} (h:DR φ d d') (hs:DRs φ l l'):DRs φ (d::l) (d'::l')
theorem DR.mono {φ φ':Phi}(hp:Phi.le φ φ'){d:ADef}{d':Deferred}(h:DR φ d d'):DR φ' d d':=by
 cases h with
 |call h=>exact .call (h.mono hp)
 |mark h=>exact .mark (hp _ _ h)
theorem DRs.mono {φ φ':Phi}(hp:Phi.le φ φ'){l:List ADef}{l':List Deferred}(h:DRs φ l l'):DRs φ' l l':=by
 induction h with
 |nil=>exact .nil
 |cons h _ ih=>exact .cons (h.mono hp) ih
theorem DRs.append {φ: Phi}{a b:List ADef}{a' b':List Deferred}(h:DRs φ a a')(k:DRs φ b b'):DRs φ (a++b) (a'++b'):=by
 induction h with
 |nil=>exact k
 |cons h _ ih=>exact .cons h ih
def lsR:LS→LoopState
 | .ready=> .ready
 | .busy=> .busy
 | .done=> .done
 | .exhausted=> .exhausted
structure LR (E:Env)(φ: Phi)(l:ALoop)(l':Loop):Prop where
 state:l'.state=lsR l.state
 pending:l.pending=l'.pending.map (Be E l.nt)
 fn:l'.fn=l.fn
 tmps:TR φ l.nt l.tmps l'.tmps
 params:l.params=l'.params.toList
 plt: ∀p∈l.params,p<l.nt
 assign:l.assign=Be E l.nt l'.assign
 body:l.body=Be E l.nt l'.body
 defers: ∃d,φ l.defers=some d∧d.cb=l'.defers
def roB:Blk→Bool
 | .cells ro _ _=>ro
 |_=>false
inductive OptR (φ: Phi):Option Nat→Option Nat→Prop where
 |none:OptR φ none none
 |some {r:Nat} {l:Loc} (h:φ r=some l):OptR φ (some r) (some l.cb)
inductive BR (E:Env)(φ: Phi)(l:Loc):Blk→Obj→Prop where
 |cells {ro:Bool} {n:Nat} {c:T AV} {cs:Array Value} {e:TypeId} {fr:Nat×Nat} (hf:ro=false→fr=(0,0)) (hs:cs.size=l.csz) (hn:l.base+n≤cs.size)
   (h: ∀i v,i<n→T.get c i=some v→ ∃v',cs[l.base+i]?=some v'∧VR φ v v'):BR E φ l (.cells ro n c) (.cells cs e fr)
 |map {es:List AEnt} {es':Array MapEntry} {k:Nat} (h:ERs φ es es'.toList):BR E φ l (.map es k) (.map es' k)
 |miter {m m':Option Nat} {since st:Nat} {seen:List Nat} (hb:l.base=0) (h:OptR φ m m'):BR E φ l (.miter m since seen st) (.mapIter m' since seen.toArray st)
 |loop {x:ALoop} {x':Loop} (h:LR E φ x x'):BR E φ l (.loop x) (.loop x')
 |dfrN:BR E φ l (.dfr none) (.deferred none)
 |dfrS {ds:List ADef} {ds':List Deferred} (h:DRs φ ds ds'):BR E φ l (.dfr (some ds)) (.deferred (some ds'))
theorem OptR.mono {φ φ':Phi}(hp:Phi.le φ φ'){a b:Option Nat}(h:OptR φ a b):OptR φ' a b:=by
 cases h with
 |none=>exact .none
 |some h=>exact .some (hp _ _ h)
theorem LR.mono {E:Env}{φ φ':Phi}(hp:Phi.le φ φ'){x:ALoop}{x':Loop}(h:LR E φ x x'):LR E φ' x x':= ⟨h.state,h.pending,h.fn,h.tmps.mono hp,h.params,h.plt,h.assign,h.body,let⟨d,a,b⟩:=h.defers;⟨d,hp _ _ a,b⟩⟩
theorem BR.mono {E:Env}{φ φ':Phi}(hp:Phi.le φ φ'){l:Loc}{x:Blk}{o:Obj}(h:BR E φ l x o):BR E φ' l x o:=by
 cases h with
 |cells hf hs hn h=>exact .cells hf hs hn fun i v hi hv=>let⟨v',a,b⟩:=h i v hi hv;⟨v',a,b.mono hp⟩
 |map h=>exact .map (h.mono hp)
 |miter hb h=>exact .miter hb (h.mono hp)
 |loop h=>exact .loop (h.mono hp)
 |dfrN=>exact .dfrN
 |dfrS h=>exact .dfrS (h.mono hp)
structure HR (E:Env)(w0:Array Obj)(φ: Phi)(h:H)(m:Array Obj):Prop where
 bound: ∀b l,φ b=some l→b<h.n
 cbound: ∀b l,φ b=some l→l.cb<m.size
 blk: ∀b l x,φ b=some l→H.get h b=some x→ ∃o,m[l.cb]?=some o∧BR E φ l x o
 inj: ∀b b' l l' x x',φ b=some l→φ b'=some l'→H.get h b=some x→H.get h b'=some x'→roB x=false→l.cb=l'.cb→b=b'
 own: ∀b l x,φ b=some l→H.get h b=some x→roB x=false→w0.size≤l.cb
 old: ∀cb,cb<w0.size→m[cb]?=w0[cb]?
 size:w0.size≤m.size
theorem Ahg {p:Prop}(h:p:=by
 by_cases h1:i+1≤j∧j<i+1+l.length
 ·rw [if_pos h1,if_pos (by simp;omega)]
  obtain⟨k,rfl⟩: ∃k,j=i+1+k:=⟨j - (i+1),by omega⟩
  rw [show i+1+k - (i+1)=k by omega,show i+1+k - i=k+1 by omega];simp
 ·rw [if_neg h1]
  by_cases h2:j=i
  ·subst h2;rw [if_pos rfl,if_pos (by simp)];simp
  ·rw [if_neg h2,if_neg (by simp;omega)]):p:=h
def Phi.upd (φ: Phi)(b:Nat)(l:Loc):Phi:=fun x=>if x=b then some l else φ x
theorem Phi.upd_same (φ: Phi)(b:Nat)(l:Loc):φ.upd b l b=some l:=if_pos rfl
theorem Phi.upd_ne (φ: Phi){b x:Nat}(l:Loc)(h:x≠b):φ.upd b l x=φ x:=if_neg h
theorem Phi.le_upd {φ: Phi}{b:Nat}(l:Loc)(h:φ b=none):Phi.le φ (φ.upd b l):=by
 intro x k hx;by_cases e:x=b;·subst e;rw [h]at hx;cases hx
 ·rw [Phi.upd_ne _ _ e];exact hx
structure Phi.le1 (n:Nat)(φ φ':Phi):Prop where
 le:Phi.le φ φ'
 ne: ∀b,b≠n→φ' b=φ b
theorem Phi.le1.refl (n:Nat)(φ: Phi):Phi.le1 n φ φ:= ⟨.refl _,fun _ _=>rfl⟩
theorem H.get_set (h:H)(b b':Nat)(x:Blk):H.get (H.set h b x) b'=if b'=b then some x else H.get h b':=T.get_set _ _ _ _
theorem H.get_del (h:H)(b b':Nat):H.get (H.del h b) b'=if b'=b then none else H.get h b':=T.get_set _ _ _ _
theorem H.get_new (h:H)(b':Nat)(x:Blk):H.get (H.new h x) b'=if b'=h.n then some x else H.get h b':=T.get_set _ _ _ _
theorem H.n_del (h:H)(b:Nat):(H.del h b).n=h.n:=rfl
section
variable {E:Env}{w0:Array Obj}{φ:Phi}{h:H}{m:Array Obj}
theorem HR.fresh (hr:HR E w0 φ h m):φ h.n=none:=by
 cases e:φ h.n with
 |none=>rfl
 |some l=>exact absurd (hr.bound _ _ e) (Nat.lt_irrefl _)
theorem HR.alloc (hr:HR E w0 φ h m){h':H}{b:Nat}{x:Blk}{o:Obj}{l:Loc}(hl:l.cb=m.size)(hφ: φ b=none)(hn:h.n≤h'.n)(hb:b<h'.n) (hx:H.get h' b=some x) (hs: ∀c k,φ c=some k→H.get h' c=H.get h c) (hR:BR E (φ.upd b l) l x o) (hro:roB x=false): HR E w0 (φ.upd b l) h' (m.push o):=by
 have hle:=Phi.le_upd l hφ;refine⟨?_,?_,?_,?_,?_,?_,?_⟩
 ·intro c k hc;by_cases e:c=b;·subst e;exact hb
  ·rw [Phi.upd_ne _ _ e]at hc;exact Nat.lt_of_lt_of_le (hr.bound _ _ hc) hn
 ·intro c k hc;by_cases e:c=b;·subst e;rw [Phi.upd_same]at hc;cases hc;simp [hl]
  ·rw [Phi.upd_ne _ _ e]at hc;have:=hr.cbound _ _ hc;simp;omega
 ·intro c k y hc hy;by_cases e:c=b;·subst e;rw [Phi.upd_same]at hc;cases hc;rw [hx]at hy;cases hy;exact⟨o,by rw [hl];simp,hR⟩
  ·rw [Phi.upd_ne _ _ e]at hc;rw [hs _ _ hc]at hy;obtain⟨p,h1,h2⟩:=hr.blk _ _ _ hc hy;have:=hr.cbound _ _ hc;exact⟨p,by rw [Array.getElem?_push_lt this,←h1,Array.getElem?_eq_getElem this],h2.mono hle⟩
 ·intro c c' k k' y y' hc hc' hy hy' hr1 he;by_cases e:c=b
  ·by_cases e':c'=b;·rw [e,e']
   ·subst e;rw [Phi.upd_same]at hc;cases hc;rw [Phi.upd_ne _ _ e']at hc';have:=hr.cbound _ _ hc';omega
  ·by_cases e':c'=b;·subst e';rw [Phi.upd_same]at hc';cases hc';rw [Phi.upd_ne _ _ e]at hc;have:=hr.cbound _ _ hc;omega
   ·rw [Phi.upd_ne _ _ e]at hc;rw [Phi.upd_ne _ _ e']at hc';rw [hs _ _ hc]at hy;rw [hs _ _ hc']at hy';exact hr.inj _ _ _ _ _ _ hc hc' hy hy' hr1 he
 ·intro c k y hc hy hr1;by_cases e:c=b;·subst e;rw [Phi.upd_same]at hc;cases hc;have:=hr.size;omega
  ·rw [Phi.upd_ne _ _ e]at hc;rw [hs _ _ hc]at hy;exact hr.own _ _ _ hc hy hr1
 ·intro c hc;rw [←hr.old c hc];have:c<m.size:=Nat.lt_of_lt_of_le hc hr.size;rw [Array.getElem?_push_lt this,Array.getElem?_eq_getElem this]
 ·have:=hr.size;simp;omega
theorem HR.new (hr:HR E w0 φ h m){x:Blk}{o:Obj}{l:Loc}(hl:l.cb=m.size)(hR:BR E (φ.upd h.n l) l x o)(hro:roB x=false): HR E w0 (φ.upd h.n l) (H.new h x) (m.push o):= hr.alloc hl hr.fresh (Nat.le_succ _) (Nat.lt_succ_self _) (by rw [H.get_new,if_pos rfl]) (fun c k hc=>by rw [H.get_new,if_neg (Nat.ne_of_lt (hr.bound _ _ hc))]) hR hro
theorem HR.over (hr:HR E w0 φ h m){b:Nat}{x x':Blk}{o':Obj}{l:Loc}(hφ: φ b=some l)(hx:H.get h b=some x)(hro:roB x=false) (hR:BR E φ l x' o') (hro':roB x'=false):HR E w0 φ (H.set h b x') (m.setIfInBounds l.cb o'):=by
 refine⟨hr.bound,?_,?_,?_,?_,?_,?_⟩;·intro c k hc;simpa using hr.cbound _ _ hc
 ·intro c k y hc hy;rw [H.get_set]at hy;by_cases e:c=b;·subst e;rw [hφ]at hc;cases hc;rw [if_pos rfl]at hy;cases hy;exact⟨o',by simp [Array.getElem?_setIfInBounds,hr.cbound _ _ hφ],hR⟩
  ·rw [if_neg e]at hy;obtain⟨p,h1,h2⟩:=hr.blk _ _ _ hc hy;have hne:l.cb≠k.cb:=fun e'=>e (hr.inj _ _ _ _ _ _ hφ hc hx hy hro e').symm;exact⟨p,by rw [Array.getElem?_setIfInBounds,if_neg hne];exact h1,h2⟩
 ·intro c c' k k' y y' hc hc' hy hy' hr1 he;have ex: ∀{d:Nat} {z:Blk},H.get (H.set h b x') d=some z→ ∃z',H.get h d=some z'∧roB z'=roB z:=by
   intro d z hz;rw [H.get_set]at hz;by_cases e:d=b;·subst e;rw [if_pos rfl]at hz;cases hz;exact⟨x,hx,by rw [hro,hro']⟩
   ·rw [if_neg e]at hz;exact⟨z,hz,rfl⟩
  obtain⟨z,h1,h2⟩:=ex hy;obtain⟨z',h3,_⟩:=ex hy';exact hr.inj _ _ _ _ _ _ hc hc' h1 h3 (by rw [h2,hr1]) he
 ·intro c k y hc hy hr1;rw [H.get_set]at hy;by_cases e:c=b;·subst e;exact hr.own _ _ _ hc hx hro
  ·rw [if_neg e]at hy;exact hr.own _ _ _ hc hy hr1
 ·intro c hc;rw [←hr.old c hc,Array.getElem?_setIfInBounds,if_neg];have:=hr.own _ _ _ hφ hx hro;omega
 ·simpa using hr.size
theorem HR.del (hr:HR E w0 φ h m)(b:Nat):HR E w0 φ (H.del h b) m:=by
 have ex: ∀{d:Nat} {z:Blk},H.get (H.del h b) d=some z→H.get h d=some z:=by
  intro d z hz;rw [H.get_del]at hz;by_cases e:d=b;·rw [if_pos e]at hz;cases hz
  ·rwa [if_neg e]at hz
 exact⟨hr.bound,hr.cbound,fun c k y hc hy=>hr.blk _ _ _ hc (ex hy),fun c c' k k' y y' hc hc' hy hy'=>hr.inj _ _ _ _ _ _ hc hc' (ex hy) (ex hy'), fun c k y hc hy=>hr.own _ _ _ hc (ex hy),hr.old,hr.size⟩
theorem Kc: ∀(l:List AV) (i:Nat) (t:T AV) (j:Nat),T.get (ofL i t l) j=if i≤j∧j<i+l.length then l[j - i]? else T.get t j
 | [],i,t,j=>by simp [ofL];omega
 |a::l,i,t,j=>by rw [ofL,Kc l (i+1),T.get_set];exact Ahg
theorem La: ∀(l:List AV) (i:Nat) (t:T AV) (j:Nat),T.get (K8 i t l) j=if i≤j∧j<i+l.length then l[j - i]? else T.get t j
 | [],i,t,j=>by simp [K8];omega
 |a::l,i,t,j=>by rw [K8,La l (i+1),T.get_set];exact Ahg
theorem Nl {c:T AV}: ∀{n o:Nat} {l:List AV},loadN c n o=some l→l.length=n∧ ∀j,j<n→T.get c (o+j)=l[j]?
 |0,o,l,h=>by simp only [loadN,Option.some.injEq]at h;subst h;exact⟨rfl,fun j hj=>absurd hj (by omega)⟩
 |n+1,o,l,h=>by
  simp only [loadN]at h
  cases h1:T.get c o with
  |none=>rw [h1]at h;simp at h
  |some v=>
   rw [h1]at h;simp only at h
   cases h2:loadN c n (o+1)with
   |none=>rw [show Nat.succ o=o+1 from rfl,h2]at h;simp at h
   |some r=>
    rw [show Nat.succ o=o+1 from rfl,h2]at h;simp only [Option.some.injEq]at h;subst h;obtain⟨hl,hg⟩:=Nl h2;refine⟨by simp [hl],fun j hj=>?_⟩
    cases j with
    |zero=>simpa using h1
    |succ j=>have:=hg j (by omega);rw [show o+(j+1)=o+1+j by omega];simpa using this
theorem BR.cells_new {l:Loc}{xs:List AV}{cs:Array Value}{e:TypeId}(hl:l.base=0)(hc:l.csz=cs.size)(h:VRs φ xs cs.toList): BR E φ l (.cells false xs.length (ofL 0 .leaf xs)) (.cells cs e (0,0)):=by have hlen:=h.length;simp only [Array.length_toList]at hlen;refine .cells (fun _=>rfl) hc.symm (by omega) fun i v hi hv=>?_;rw [Kc,if_pos (by omega),Nat.sub_zero]at hv;obtain⟨v',h1,h2⟩:=h.get hv;exact⟨v',by rw [hl,Nat.zero_add];simpa using h1,h2⟩
theorem HR.newCells (hr:HR E w0 φ h m){xs:List AV}{cs:Array Value}(e:TypeId)(hx:VRs φ xs cs.toList): Phi.le φ (φ.upd h.n ⟨m.size,0,cs.size⟩)∧HR E w0 (φ.upd h.n ⟨m.size,0,cs.size⟩) (Ev.newCells h xs) (m.push (.cells cs e (0,0))):=by have hle:=Phi.le_upd ⟨m.size,0,cs.size⟩ hr.fresh;exact⟨hle,hr.new rfl (BR.cells_new rfl rfl (hx.mono hle)) rfl⟩
end
theorem Adu {p:Prop}(h:p:=by
 rcases Nat.lt_or_ge cb w.heap.size with h'|h'
 ·exact h'
 ·rw [Array.getElem?_eq_none h']at h;cases h):p:=h
structure EnvOk (P:Program)(E:Env):Prop where
 inf: ∀t i,inf E t=some i→P.info? t=some i
 stood: ∀t,t∈E.S→P.stoodInHeld t=false∧P.eqGuardType P.depth t=false
 mixed:P.follows .mixedOrders=true
section env
variable {P:Program}{E:Env}(hE:EnvOk P E)
include hE
theorem H9 {t:TypeId}{d:TypeDesc}(h:und E t=some d):P.underlying t=some d:=by
 unfold und at h
 cases h1:Ev.inf E t with
 |none=>rw [h1]at h;simp at h
 |some i=>
  rw [h1]at h;have hi:=hE.inf _ _ h1;simp only at h;unfold Program.underlying;rw [hi];split at h
  ·rename_i n u hd
   cases h2:Ev.inf E u with
   |none=>rw [h2]at h;simp at h
   |some j=>rw [h2]at h;have hj:=hE.inf _ _ h2;obtain⟨desc,_⟩:=i;simp only at hd;subst hd;simp only [hj,Option.map_some];exact h
  ·rename_i hd;obtain⟨desc,_⟩:=i;simp only at hd h ⊢;split;·rename_i heq;simp only [Option.some.injEq,TypeInfo.mk.injEq]at heq;exact absurd heq.1 (hd _ _)
   ·rename_i heq;simp only [Option.some.injEq]at heq;subst heq;exact h
   ·rename_i heq;simp at heq
theorem Ad {t:TypeId}{d:TypeDesc}(h:und E t=some d)(w:World):(underlying t).run P w= .ok d w:=by simp only [underlying,Sem.run_bind,run_program,Result.andThen_ok,H9 hE h,Sem.run_pure]
theorem Dx {t:TypeId}{i:TypeInfo}(h:Ev.inf E t=some i)(w:World):(typeInfo t).run P w= .ok i w:=by simp only [typeInfo,Sem.run_bind,run_program,Result.andThen_ok,hE.inf _ _ h,Sem.run_pure]
theorem Bv {t:TypeId}{i:TypeInfo}(h:Ev.inf E t=some i)(w:World):(sizeOf t).run P w= .ok i.size w:=by simp only [sizeOf,Sem.run_bind,Dx hE h,Result.andThen_ok,Sem.run_pure]
theorem oe {t:TypeId}{n:Nat}(h:sz E t=some n)(w:World):(sizeOf t).run P w= .ok n w:=by
 unfold sz at h
 cases h1:Ev.inf E t with
 |none=>rw [h1]at h;simp at h
 |some i=>rw [h1]at h;simp at h;subst h;exact Bv hE h1 w
theorem B3 {t:TypeId}{n:Nat}(h:Cl E t=some n)(w:World):(sizeOf t).run P w= .ok n w∧n≠0:=by
 unfold Cl at h
 cases h1:Ev.inf E t with
 |none=>rw [h1]at h;simp at h
 |some i=>
  rw [h1]at h;simp only at h;split at h;·simp at h
  ·rename_i hb;simp at h;subst h;exact⟨Bv hE h1 w,D8 hb⟩
theorem Ed {t:TypeId}{b:Bool}(h:Jb E t=some b)(w:World):(isAgg t).run P w= .ok b w:=by
 unfold Jb at h
 cases h1:und E t with
 |none=>rw [h1]at h;simp at h
 |some d=>
  rw [h1]at h;simp only [isAgg,Sem.run_bind,Ad hE h1,Result.andThen_ok]
  cases d <;> simp at h <;> subst h <;> rfl
theorem Qb {t:TypeId}{z:AV}(h:Om E t=some z)(w:World): ∃v,(zeroValue t).run P w= .ok v w∧ ∀φ,VR φ z v:=by
 unfold Om at h
 cases h1:Ev.inf E t with
 |none=>rw [h1]at h;simp at h
 |some i=>
  rw [h1]at h;simp only at h
  cases h2:i.zero with
  |none=>rw [h2]at h;simp at h
  |some v=>rw [h2]at h;simp at h;subst h;exact⟨v,by simp only [zeroValue,Sem.run_bind,Dx hE h1,Result.andThen_ok,h2,Sem.run_pure],fun φ=> Qa φ 10 v⟩
omit hE in
theorem d9 (φ: Phi)(l:List Value):VRs φ (l.map (Ui 10)) l:=by
 induction l with
 |nil=>exact .nil
 |cons a l ih=>exact .cons (Qa φ 10 a) ih
theorem Do {t:TypeId}{z:List AV}(h:Fa E t=some z)(w:World): ∃v i,Ev.inf E t=some i∧(zeroValue t).run P w= .ok v w∧v.cells.size=i.size∧z.length=i.size∧ ∀φ,VRs φ z v.cells.toList:=by
 unfold Fa at h
 cases h1:Ev.inf E t with
 |none=>rw [h1]at h;simp at h
 |some i=>
  rw [h1]at h;simp only at h
  cases h2:i.zero with
  |none=>rw [h2]at h;simp at h
  |some v=>
   rw [h2]at h;simp only at h;split at h;·rename_i hb;simp at h;subst h;have:=Am hb;refine⟨v,i,rfl,by simp only [zeroValue,Sem.run_bind,Dx hE h1,Result.andThen_ok,h2,Sem.run_pure],this,by simp [this],fun φ=> ?_⟩;have hl:=d9 φ v.cells.toList;simpa using hl
   ·simp at h
end env
theorem Cw (cb o n:Nat):(⟨cb,o,none⟩:Addr).add n=⟨cb,o+n,none⟩:=by
 unfold Addr.add;split;·rename_i h;subst h;rfl
 ·rfl
theorem Kd {w:World}{cb:Nat}{cs:Array Value}{e:TypeId}{f:Nat×Nat}(h:w.heap[cb]?=some (.cells cs e f))(o:Nat): w.cell? ⟨cb,o,none⟩=cs[o]?:=by simp [World.cell?,h]
theorem eg {w:World}{cb:Nat}{cs:Array Value}{e:TypeId}(h:w.heap[cb]?=some (.cells cs e (0,0)))(o:Nat): w.frozen? ⟨cb,o,none⟩=false:=by simp [World.frozen?,h]
theorem Ex (P:Program){w:World}{cb o:Nat}{l:List Value}(h: ∀(j:Nat) (v:Value),l[j]?=some v→w.cell? ⟨cb,o+j,none⟩=some v): (loadCells ⟨cb,o,none⟩ l.length).run P w= .ok l.toArray w:= run_loadCells_list w _ l fun j v hj=>by rw [Cw];exact h j v hj
def ovl (cs:Array Value)(o:Nat):List Value→Array Value
 | []=>cs
 |v::r=>ovl (cs.setIfInBounds o v) (o+1) r
theorem Hr: ∀(l:List Value) (cs:Array Value) (o:Nat),(ovl cs o l).size=cs.size
 | [],cs,o=>rfl
 |v::r,cs,o=>by rw [ovl,Hr r];simp
theorem Pt: ∀(l:List Value) (cs:Array Value) (o j:Nat),o+l.length≤cs.size→(ovl cs o l)[j]?=if o≤j∧j<o+l.length then l[j - o]? else cs[j]?
 | [],cs,o,j,_=>by simp [ovl];omega
 |v::r,cs,o,j,h=>by
  simp only [List.length_cons]at h;rw [ovl,Pt r _ (o+1) j (by simp;omega)];by_cases h1:o+1≤j∧j<o+1+r.length;·rw [if_pos h1,if_pos (by simp;omega)];obtain⟨k,rfl⟩: ∃k,j=o+1+k:=⟨j - (o+1),by omega⟩;rw [show o+1+k - (o+1)=k by omega,show o+1+k - o=k+1 by omega];simp
  ·rw [if_neg h1];by_cases h2:j=o;·subst h2;rw [if_pos (by simp)];rw [Array.getElem?_setIfInBounds,if_pos rfl,if_pos (by omega)];simp
   ·rw [if_neg (by simp;omega),Array.getElem?_setIfInBounds,if_neg (by omega)]
theorem Um {w:World}{cb o:Nat}{cs:Array Value}{e:TypeId}{f:Nat×Nat}(h:w.heap[cb]?=some (.cells cs e f))(v:Value): (w.setCell ⟨cb,o,none⟩ v).heap=w.heap.setIfInBounds cb (.cells (cs.setIfInBounds o v) e f):=by
 have hlt:cb<w.heap.size:=by exact Adu
 simp only [World.setCell];apply Array.ext_getElem?;intro i;rw [Array.getElem?_modify,Array.getElem?_setIfInBounds];by_cases hi:cb=i;·subst hi;rw [if_pos rfl,if_pos rfl,if_pos hlt,h];rfl
 ·simp [hi]
theorem Ee (P:Program): ∀(l:List Value) (w:World) (cb o i:Nat) (cs:Array Value) (e:TypeId),w.heap[cb]?=some (.cells cs e (0,0))→ o+i+l.length≤cs.size→(∀v∈l,v.oneCell'=true)→ ∃w',(storeCells ⟨cb,o,none⟩ l i).run P w= .ok () w'∧w'.heap=w.heap.setIfInBounds cb (.cells (ovl cs (o+i) l) e (0,0))∧Like w w'
 | [],w,cb,o,i,cs,e,h,hl,hp=>by
  refine⟨w,rfl,?_,.refl _⟩;apply Array.ext_getElem?;intro j;rw [Array.getElem?_setIfInBounds];by_cases hj:cb=j;·subst hj;rw [if_pos rfl,h];have hlt:cb<w.heap.size:=(by exact Adu);rw [if_pos hlt];rfl
  ·rw [if_neg hj]
 |v::r,w,cb,o,i,cs,e,h,hl,hp=>by
  simp only [List.length_cons]at hl;have hlt:cb<w.heap.size:=by exact Adu
  have hc:w.cell? ⟨cb,o+i,none⟩=some cs[o+i]:=by rw [Kd h,Array.getElem?_eq_getElem (by omega)]
  have hw:=Um h (o:=o+i) v;obtain⟨w',h1,h2,h3⟩:=Ee P r (w.setCell ⟨cb,o+i,none⟩ v) cb o (i+1) (cs.setIfInBounds (o+i) v) e (by rw [hw,Array.getElem?_setIfInBounds,if_pos rfl,if_pos hlt]) (by simp;omega) (fun u hu=>hp u (List.mem_cons_of_mem _ hu));refine⟨w',?_,?_,Like.trans ?_ h3⟩;·simp only [storeCells,Sem.run_bind,Cw,run_store P w _ v .plain (hp v (List.mem_cons_self ..)),hc,eg h,Bool.false_eq_true,if_false,Result.andThen_ok];exact h1
  ·rw [h2,hw];apply Array.ext_getElem?;intro j;simp only [Array.getElem?_setIfInBounds,Array.size_setIfInBounds];by_cases hj:cb=j;·subst hj;rw [if_pos rfl,if_pos hlt,if_pos rfl,if_pos hlt];rfl
   ·simp [hj]
  ·unfold World.setCell;split <;> exact⟨rfl,rfl,rfl⟩
theorem ek {φ: Phi}{v:AV}{v':Value}(h:VR φ v v')(hp:Bm v=true):v'.oneCell'=true:=by
 cases h with
 |agg _=>simp [Bm]at hp
 |tup _=>simp [Bm]at hp
 |unk _=>simp [Bm]at hp
 |opq _=>cases v' <;> first|rfl|simp [Bm]at hp
 |_=>rfl
theorem Ia {φ: Phi}: ∀{l:List AV} {l':List Value},VRs φ l l'→Ar l=true→ ∀v∈l',v.oneCell'=true
 | [],_,h,_=>by cases h;simp
 |a::l,_,h,hp=>by
  cases h with
  |cons hv hs=>
   unfold Ar at hp;split at hp
   ·rename_i h1;intro u hu;rcases List.mem_cons.1 hu with e|hu;·subst e;exact ek hv h1
    ·exact Ia hs hp u hu
   ·simp at hp
section
variable {E:Env}{w0:Array Obj}{φ:Phi}{h:H}{w:World}
theorem HR.cellsOf_blk (hr:HR E w0 φ h w.heap){b n:Nat}{ro:Bool}{c:T AV}{l:Loc}(hφ: φ b=some l)(hb:H.get h b=some (.cells ro n c)): ∃cs e fr,w.heap[l.cb]?=some (.cells cs e fr)∧cs.size=l.csz∧l.base+n≤cs.size∧ ∀i v,i<n→T.get c i=some v→ ∃v',cs[l.base+i]?=some v'∧VR φ v v':=by
 obtain⟨o,h1,h2⟩:=hr.blk _ _ _ hφ hb
 cases h2 with
 |cells hf hs hn h=>exact⟨_,_,_,h1,hs,hn,h⟩
theorem HR.cellsOf_blkW (hr:HR E w0 φ h w.heap){b n:Nat}{c:T AV}{l:Loc}(hφ: φ b=some l)(hb:H.get h b=some (.cells false n c)): ∃cs e,w.heap[l.cb]?=some (.cells cs e (0,0))∧cs.size=l.csz∧l.base+n≤cs.size∧ ∀i v,i<n→T.get c i=some v→ ∃v',cs[l.base+i]?=some v'∧VR φ v v':=by
 obtain⟨o,h1,h2⟩:=hr.blk _ _ _ hφ hb
 cases h2 with
 |cells hf hs hn h=>cases hf rfl;exact⟨_,_,h1,hs,hn,h⟩
theorem HR.cellsAt (hr:HR E w0 φ h w.heap){b o n:Nat}{xs:List AV}{l:Loc}(hφ: φ b=some l)(hc:Ev.cellsAt h b o n=some xs)(off:Nat)(ho:0<n→off=l.base+o): ∃vs:List Value,vs.length=n∧VRs φ xs vs∧ ∀(j:Nat) (v:Value),vs[j]?=some v→w.cell? ⟨l.cb,off+j,none⟩=some v:=by
 unfold Ev.cellsAt at hc
 cases n with
 |zero=>simp at hc;subst hc;exact⟨[],rfl,.nil,by simp⟩
 |succ n=>
  simp only at hc
  cases hb:H.get h b with
  |none=>rw [hb]at hc;simp at hc
  |some x=>
   rw [hb]at hc
   cases x with
   |cells ro k c=>
    simp only at hc;split at hc
    ·rename_i hk;have hk:=Ak hk;have hk:o+(n+1)≤k:=hk;obtain⟨hl,hg⟩:=Nl hc;obtain⟨cs,e,_,h1,_,h3,h4⟩:=hr.cellsOf_blk hφ hb;have ho':=ho (by omega);refine⟨(List.range (n+1)).map fun j=>cs[l.base+(o+j)]?.getD undef,by simp,?_,?_⟩;·refine VRs.of_get (by simp [hl]) fun i v hi=>?_;have hlt:i<n+1:=(by rw [←hl];exact(List.getElem?_eq_some_iff.1 hi).1);obtain⟨v',h5,h6⟩:=h4 (o+i) v (by omega) (by rw [hg i hlt];exact hi);exact⟨v',by simp [hlt,h5],h6⟩
     ·intro j v hj;have hlt:j<n+1:=(by have:=(List.getElem?_eq_some_iff.1 hj).1;simpa using this);simp only [List.getElem?_map,List.getElem?_range hlt,Option.map_some,Option.some.injEq]at hj;have hin:l.base+(o+j)<cs.size:=(by omega);rw [Array.getElem?_eq_getElem hin]at hj;rw [ho',Kd h1,Nat.add_assoc,Array.getElem?_eq_getElem hin];simpa using hj
    ·simp at hc
   |_=>simp at hc
theorem HR.putBlk (P:Program)(hr:HR E w0 φ h w.heap){b o:Nat}{xs:List AV}{h':H}{l:Loc}(hφ: φ b=some l)(hp:Ev.putBlk h b o xs=some h') {vs:List Value} (hv:VRs φ xs vs) (off:Nat) (ho:0<xs.length→off=l.base+o): ∃w',(storeCells ⟨l.cb,off,none⟩ vs).run P w= .ok () w'∧HR E w0 φ h' w'.heap∧Like w w':=by
 unfold Ev.putBlk at hp
 cases xs with
 |nil=>simp at hp;subst hp;cases hv;exact⟨w,rfl,hr,.refl _⟩
 |cons x xs=>
  simp only at hp
  cases hb:H.get h b with
  |none=>rw [hb]at hp;simp at hp
  |some y=>
   rw [hb]at hp
   cases y with
   |cells ro k c=>
    cases ro with
    |true=>simp at hp
    |false=>
     simp only at hp;split at hp
     ·rename_i hk hpl;have hk:o+(x::xs).length≤k:=Ak hk;simp only [Option.some.injEq]at hp;subst hp;obtain⟨cs,e,h1,h2,h3,h4⟩:=hr.cellsOf_blkW hφ hb;have hlen:=hv.length;have ho':=ho (by simp);obtain⟨w',r1,r2,r3⟩:=Ee P vs w l.cb off 0 cs e h1 (by omega) (Ia hv hpl);refine⟨w',r1,?_,r3⟩;rw [r2];refine hr.over hφ hb rfl (.cells (fun _=>rfl) (by rw [Hr,h2]) (by rw [Hr];exact h3) fun i v hi hg=>?_) rfl;rw [Nat.add_zero,Pt _ _ _ _ (by omega)];rw [La]at hg;by_cases hin:o≤i∧i<o+(x::xs).length;·rw [if_pos hin]at hg;rw [if_pos (by omega)];obtain⟨v',h5,h6⟩:=hv.get hg;exact⟨v',by rw [←h5];congr 1;omega,h6⟩
      ·rw [if_neg hin]at hg;rw [if_neg (by omega)];exact h4 i v hi hg
     ·simp at hp
   |_=>simp at hp
end
section inv
variable {φ:Phi}{v':Value}
theorem VR.bool_inv {b:Bool}(h:VR φ (.bool b) v'):v'= .bool b:=by cases h;rfl
theorem VR.int_inv {k:IntKind}{n:Int}(h:VR φ (.int k n) v'):v'= .int k n:=by cases h;rfl
theorem VR.str_inv {s:List Nat}(h:VR φ (.str s) v'): ∃b,v'= .string b∧b.data.toList.map (·.toNat)=s:=by cases h with|str h=>exact⟨_,rfl,h⟩
theorem VR.nilp_inv (h:VR φ .nilp v'):v'= .pointer none:=by cases h;rfl
theorem VR.ptr_inv {b o:Nat}(h:VR φ (.ptr b o) v'): ∃l,φ b=some l∧v'= .pointer (some ⟨l.cb,l.base+o,none⟩):=by cases h with|ptr h=>exact⟨_,h,rfl⟩
theorem VR.opq_inv {u:Value}(h:VR φ (.opq u) v'):v'=u:=by cases h;rfl
theorem VR.nils_inv (h:VR φ .nils v'):v'= .slice none 0 0:=by cases h;rfl
theorem VR.slc_inv {b o n c:Nat}(h:VR φ (.slc b o n c) v'): ∃l off c',φ b=some l∧v'= .slice (some ⟨l.cb,off,none⟩) n c'∧n≤c'∧ ((c<Aa∧c'=c∧(0<c→off=l.base+o))∨(∃k,c=Aa+k∧off+c'*k≤l.csz∧(0<n→off=l.base+o))):=by
 cases h with
 |slcX h hc hl ho=>exact⟨_,_,_,h,rfl,hl,.inl ⟨hc,rfl,ho⟩⟩
 |slcU h hl hr ho=>exact⟨_,_,_,h,rfl,hl,.inr ⟨_,rfl,hr,ho⟩⟩
theorem VR.nilm_inv (h:VR φ .nilm v'):v'= .map none:=by cases h;rfl
theorem VR.map_inv {r:Nat}(h:VR φ (.map r) v'): ∃l,φ r=some l∧v'= .map (some l.cb):=by cases h with|map h=>exact⟨_,h,rfl⟩
theorem VR.fnF_inv {f:Nat}{a c:List AV}(h:VR φ (.fn (.func f) a c) v'): ∃a' c':Array Value,v'= .func (.func f) a' c'∧VRs φ a a'.toList∧VRs φ c c'.toList:=by cases h with|fnF ha hc=>exact⟨_,_,rfl,ha,hc⟩
theorem VR.nilf_inv (h:VR φ .nilf v'):v'= .nilFunc:=by cases h;rfl
theorem VR.ifc_inv {t:Nat}{v:AV}(h:VR φ (.ifc t v) v'): ∃u,v'= .iface t u∧VR φ v u:=by cases h with|ifc h=>exact⟨_,rfl,h⟩
theorem VR.nili_inv (h:VR φ .nili v'):v'= .nilIface:=by cases h;rfl
theorem VR.agg_inv {l:List AV}(h:VR φ (.agg l) v'): ∃c:Array Value,v'= .agg c∧VRs φ l c.toList:=by cases h with|agg h=>exact⟨_,rfl,h⟩
theorem VR.tup_inv {l:List AV}(h:VR φ (.tup l) v'): ∃c:Array Value,v'= .tuple c∧VRs φ l c.toList:=by cases h with|tup h=>exact⟨_,rfl,h⟩
end inv
def Sim1 (E:Env)(w0:Array Obj)(φ: Phi)(w:World)(h:H)(r:Result Next)(v:AV)(h':H):Prop:=
 ∃φ' v' w',Phi.le1 h.n φ φ'∧(r= .ok (.value v') w'∨(r= .ok .skip w'∧v'=undef))∧VR φ' v v'∧HR E w0 φ' h' w'.heap∧Like w w'
section
variable {P:Program}{E:Env}{w0:Array Obj}{φ:Phi}{h h':H}{w:World}{tm:T AV}{ρ:Operand→Value}{o:Oper}{v:AV}
theorem Sim1.same {r:Result Next}{v':Value}{w':World}(hr:HR E w0 φ h w'.heap)(e:r= .ok (.value v') w')(hv:VR φ v v')(hl:Like w w':=by exact⟨rfl,rfl,rfl⟩):Sim1 E w0 φ w h r v h:= ⟨φ,v',w',.refl _ _,.inl e,hv,hr,hl⟩
theorem Ib {v:AV}{v':Value}{l:List AV}(hv:VR φ v v')(hc:Bc v=some l):VRs φ l v'.cells.toList:=by
 cases hv with
 |agg h=>simp only [Bc,Option.some.injEq]at hc;subst hc;exact h
 |tup h=>simp [Bc]at hc
 |unk _=>simp [Bc]at hc
 |opq _=>
  cases v' <;> first
   |(simp [Bc]at hc;done)
   |(simp only [Bc,Option.some.injEq]at hc;subst hc;exact .cons (.opq _) .nil)
 |_=>simp only [Bc,Option.some.injEq]at hc;subst hc;exact .cons (by first|assumption|(constructor <;> assumption)|constructor) .nil
variable (hr:HR E w0 φ h w.heap)(hρ: RhoR φ tm ρ)
include hr hρ
theorem og {x:Operand}(e:(execOp ρ o).run P w=(pure (.value (ρ x)):Sem Next).run P w)(hx:exec (.mv (opd x)) h tm= .val v h'):Sim1 E w0 φ w h ((execOp ρ o).run P w) v h':=by simp only [exec,R.val.injEq]at hx;obtain⟨rfl,rfl⟩:=hx;exact .same hr e (hρ x)
theorem oh {c a b:Operand}(ho:o.op= .pick c a b)(hx:exec (.pick (opd c) (opd a) (opd b)) h tm= .val v h'):Sim1 E w0 φ w h ((execOp ρ o).run P w) v h':=by
 simp only [exec]at hx;split at hx;·rename_i hc;have ec:=VR.bool_inv (hc ▸ hρ c);simp only [R.val.injEq]at hx;obtain⟨rfl,rfl⟩:=hx;exact .same hr (by simp [execOp,ho,ec,asBool]) (hρ a)
 ·rename_i hc;have ec:=VR.bool_inv (hc ▸ hρ c);simp only [R.val.injEq]at hx;obtain⟨rfl,rfl⟩:=hx;exact .same hr (by simp [execOp,ho,ec,asBool]) (hρ b)
 ·cases hx
omit hr hρ in
theorem Ic (e:TypeId)(u:Value):(newVar e u).run P w= .ok ⟨w.heap.size,0,none⟩ (w.alloc (.cells u.cells e)):=by simp [newVar,newRow]
theorem yo {e:TypeId}{n:Nat}{x:Operand}(ho:o.op= .box e x)(hx:exec (.box n (opd x)) h tm= .val v h'):Sim1 E w0 φ w h ((execOp ρ o).run P w) v h':=by
 simp only [exec]at hx;split at hx
 ·rename_i l hl;split at hx
  ·simp only [R.val.injEq]at hx;obtain⟨rfl,rfl⟩:=hx;obtain⟨hle,hr'⟩:=hr.newCells e (Ib (hρ x) hl);refine⟨_,.pointer (some ⟨w.heap.size,0,none⟩),w.alloc (.cells (ρ x).cells e),⟨hle,fun _ hb=>Phi.upd_ne _ _ hb⟩,.inl ?_,?_,hr',⟨rfl,rfl,rfl⟩⟩;·simp [execOp,ho,Instr.box,Ic]
   ·have:=VR.ptr (b:=h.n) (o:=0) (Phi.upd_same φ h.n ⟨w.heap.size,0,(ρ x).cells.size⟩);simpa using this
  ·cases hx
 ·cases hx
theorem ep (hE:EnvOk P E){e:TypeId}{z:List AV}(hz:Fa E e=some z)(ho:o.op= .alloc e)(hx:exec (.alloc z) h tm= .val v h'):Sim1 E w0 φ w h ((execOp ρ o).run P w) v h':=by
 simp only [exec,R.val.injEq]at hx;obtain⟨rfl,rfl⟩:=hx;obtain⟨u,i,h1,h2,h3,h4,h5⟩:=Do hE hz w;obtain⟨hle,hr'⟩:=hr.newCells e (h5 φ);refine⟨_,.pointer (some ⟨w.heap.size,0,none⟩),w.alloc (.cells u.cells e),⟨hle,fun _ hb=>Phi.upd_ne _ _ hb⟩,.inl ?_,?_,hr',⟨rfl,rfl,rfl⟩⟩;·simp [execOp,ho,Instr.alloc,h2,Ic]
 ·have:=VR.ptr (b:=h.n) (o:=0) (Phi.upd_same φ h.n ⟨w.heap.size,0,u.cells.size⟩);simpa using this
omit hr hρ
theorem Fc: ∀(xs l:List AV) (o i:Nat),o+xs.length≤l.length→(F1 xs l o)[i]?=if o≤i∧i<o+xs.length then xs[i - o]? else l[i]?
 |xs,l,0,i,hl=>by
  have:F1 xs l 0=xs++l.drop xs.length:=by cases l <;> rfl
  rw [this];by_cases h:i<xs.length;·rw [if_pos (by omega),Nat.sub_zero,List.getElem?_append_left h]
  ·rw [if_neg (by omega),List.getElem?_append_right (by omega),List.getElem?_drop];congr 1;omega
 |xs,[],o+1,i,hl=>by simp at hl
 |xs,a::l,o+1,i,hl=>by
  simp only [List.length_cons]at hl;show(a::F1 xs l o)[i]?=_
  cases i with
  |zero=>rw [if_neg (by omega)];rfl
  |succ i=>
   rw [List.getElem?_cons_succ,Fc xs l o i (by omega),List.getElem?_cons_succ];by_cases h:o≤i∧i<o+xs.length;·rw [if_pos h,if_pos (by omega)];congr 1;omega
   ·rw [if_neg h,if_neg (by omega)]
theorem Ou: ∀(xs l:List AV) (o:Nat),o+xs.length≤l.length→(F1 xs l o).length=l.length
 |xs,l,0,hl=>by
  have:F1 xs l 0=xs++l.drop xs.length:=by cases l <;> rfl
  rw [this];simp;omega
 |xs,[],o+1,hl=>by simp at hl
 |xs,a::l,o+1,hl=>by simp only [List.length_cons]at hl;show(a::F1 xs l o).length=_;simp [Ou xs l o (by omega)]
theorem Ahh {xs l:List AV}{xs':List Value}{cs:Array Value}{o:Nat}(hx:VRs φ xs xs')(hl:VRs φ l cs.toList)(hb:o+xs.length≤l.length): VRs φ (F1 xs l o) (ovl cs o xs').toList:=by
 have h1:=hx.length;have h2:=hl.length;simp only [Array.length_toList]at h2;refine VRs.of_get (by rw [Ou _ _ _ hb];simp [Hr,h2]) fun i v hi=>?_;rw [Fc _ _ _ _ hb]at hi;rw [Array.getElem?_toList,Pt _ _ _ _ (by omega)];by_cases h:o≤i∧i<o+xs.length;·rw [if_pos h]at hi;rw [if_pos (by omega)];exact hx.get hi
 ·rw [if_neg h]at hi;rw [if_neg (by omega),←Array.getElem?_toList];exact hl.get hi
theorem Qc: ∀(l:List Value) (cs:Array Value) (o k:Nat),(l.zipIdx k).foldl (fun cs (x:Value×Nat)=>cs.setIfInBounds (o+x.2) x.1) cs=ovl cs (o+k) l
 | [],cs,o,k=>rfl
 |v::r,cs,o,k=>by rw [List.zipIdx_cons,List.foldl_cons,Qc r,ovl,Nat.add_assoc]
include hr hρ
omit hr in
theorem Jd (place:Nat→Option (Nat×Nat)): ∀(parts:List (Nat×Operand)) (ps:List (Nat×Nat×O)) (cells:List AV) (cs:Array Value) (l:List AV), parts.map (fun p=>(place p.1).map fun q=>(q.1,q.2,opd p.2))=ps.map some→VRs φ cells cs.toList→fill tm ps cells=some l→ ∃cs',Instr.fill place cs (parts.map fun p=>(p.1,ρ p.2))=some cs'∧VRs φ l cs'.toList
 | [],ps,cells,cs,l,hp,hc,hf=>by
  cases ps with
  |nil=>simp only [fill,Option.some.injEq]at hf;subst hf;exact⟨cs,rfl,hc⟩
  |cons _ _=>simp at hp
 |p::parts,ps,cells,cs,l,hp,hc,hf=>by
  cases ps with
  |nil=>simp at hp
  |cons q ps=>
   simp only [List.map_cons,List.cons.injEq]at hp;obtain⟨h1,h2⟩:=hp
   cases hpl:place p.1 with
   |none=>rw [hpl]at h1;simp at h1
   |some os=>
    rw [hpl]at h1;simp only [Option.map_some,Option.some.injEq]at h1;subst h1;simp only [fill]at hf;split at hf
    ·rename_i xs hxs;split at hf;·rename_i hb1 hb2;have hb1:xs.length=os.2:=Am hb1;have hb2:os.1+os.2≤cells.length:=Ak hb2;have hv:=Ib (hρ p.2) hxs;have hlen:=hv.length;have hcl:=hc.length;simp only [Array.length_toList]at hlen hcl;obtain⟨cs',h3,h4⟩:=Jd place parts ps _ (ovl cs os.1 (ρ p.2).cells.toList) l h2 (Ahh hv hc (by omega)) hf;refine⟨cs',?_,h4⟩;rw [List.map_cons,Instr.fill,hpl];simp only;rw [if_neg (by simp;omega)];rw [←h3];congr 1;have:=Qc (ρ p.2).cells.toList cs os.1 0;rw [←Array.foldl_toList,Array.toList_zipIdx];exact this
     ·simp at hf
    ·simp at hf
omit hr hρ in
theorem Sv {α β: Type}{f:α→Option β}: ∀{l:List α} {r:List β},l.mapM f=some r→l.map f=r.map some
 | [],r,h=>by simp at h;subst h;rfl
 |a::l,r,h=>by
  rw [List.mapM_cons]at h
  cases h1:f a with
  |none=>rw [h1]at h;simp at h
  |some b=>
   rw [h1]at h
   cases h2:l.mapM f with
   |none=>rw [h2]at h;simp at h
   |some t=>rw [h2]at h;simp at h;subst h;simp [h1,Sv h2]
omit hr hρ in
theorem Qd (hE:EnvOk P E): ∀(fs:List Field),fs.all (fun f=>(sz E f.type).isSome)=true→
  (fs.mapM (fun f=>(do pure (f.offset,←sizeOf f.type):Sem (Nat×Nat)))).run P w= .ok (fs.map fun f=>(f.offset,szD E f.type)) w
 | [],_=>rfl
 |f::fs,hf=>by
  simp only [List.all_cons,Bool.and_eq_true]at hf
  cases h1:sz E f.type with
  |none=>rw [h1]at hf;simp at hf
  |some n=>
   have hn:szD E f.type=n:=by
    unfold sz at h1;unfold szD
    cases h2:Ev.inf E f.type with
    |none=>rw [h2]at h1;simp at h1
    |some i=>rw [h2]at h1;simpa using h1
   rw [List.mapM_cons]
   simp only [Sem.run_bind,oe hE h1,Result.andThen_ok,Sem.run_pure,Qd hE fs hf.2,List.map_cons,hn]
theorem eu (hE:EnvOk P E){t:TypeId}{parts:Array (Nat×Operand)}{z:List AV}{ps:List (Nat×Nat×O)}(hz:Fa E t=some z)(hp:Uj E t parts.toList=some ps) (ho:o.op= .build t parts) (hx:exec (.build z ps) h tm= .val v h'):Sim1 E w0 φ w h ((execOp ρ o).run P w) v h':=by
 simp only [exec]at hx;split at hx
 ·rename_i l hl;simp only [R.val.injEq]at hx;obtain⟨rfl,rfl⟩:=hx;obtain⟨u,i,h1,h2,h3,h4,h5⟩:=Do hE hz w;unfold Uj at hp;split at hp
  ·rename_i fs hu;split at hp
   ·rename_i hall;have hmm:=Sv hp;obtain⟨cs',h6,h7⟩:=Jd (hρ:= hρ) (fun(i:Nat)=>(fs.map fun f=>(f.offset,szD E f.type))[i]?) parts.toList ps z u.cells l (by
     rw [←hmm];apply List.map_congr_left;intro p _;unfold Ab4
     cases hf:fs[p.1]? with
     |none=>simp [hf]
     |some f=>
      simp only [Array.getElem?_map,hf,Option.map_some]
      cases h8:sz E f.type with
      |none=>have hm:f∈fs.toList:=(by have:=Array.mem_of_getElem? hf;simpa using this);have:=(List.all_eq_true.1 hall) f hm;rw [h8]at this;simp at this
      |some n=>
       have hn:szD E f.type=n:=by
        unfold sz at h8;unfold szD
        cases h9:Ev.inf E f.type with
        |none=>rw [h9]at h8;simp at h8
        |some i=>rw [h9]at h8;simpa using h8
       simp [hn]) (h5 φ) hl
    refine .same (v':= .agg cs') hr ?_ (.agg h7);simp only [execOp,ho,Instr.build,Sem.run_bind,h2,Result.andThen_ok,Ad hE hu];have hpr:=Qd (w:=w) hE fs.toList hall;rw [Array.mapM_eq_mapM_toList,Sem.run_map,hpr];simp only [Result.andThen_ok];have hfn:(fun(i:Nat)=>(fs.toList.map fun f=>(f.offset,szD E f.type)).toArray[i]?)=(fun(i:Nat)=>(fs.map fun f=>(f.offset,szD E f.type))[i]?):=(by funext i;simp);have hpt:(parts.map fun(x:Nat×Operand)=>(x.1,ρ x.2)).toList=parts.toList.map fun p=>(p.1,ρ p.2):=by simp
    rw [hpt,hfn,h6];rfl
   ·simp at hp
  ·rename_i n e hu;split at hp
   ·rename_i m hm;simp only [Option.some.injEq]at hp;subst hp;obtain⟨cs',h6,h7⟩:=Jd (hρ:= hρ) (fun(i:Nat)=>some (i*m,m)) parts.toList _ z u.cells l (by simp) (h5 φ) hl;refine .same (v':= .agg cs') hr ?_ (.agg h7);simp only [execOp,ho,Instr.build,Sem.run_bind,h2,Result.andThen_ok,Ad hE hu,oe hE hm];have hpt:(parts.map fun(x:Nat×Operand)=>(x.1,ρ x.2)).toList=parts.toList.map fun p=>(p.1,ρ p.2):=by simp
    rw [hpt,h6];rfl
   ·simp at hp
  ·simp at hp
 ·cases hx
end
theorem Ahi {p:Prop}(h:p:=by
 simp only [execOp,ho,Instr.buildSlice,Sem.run_bind,Ad hE hu,Result.andThen_ok,h6,hlim,if_false,Sem.run_pure]
 by_cases h0:n*s=0
 ·have hn:n=0:=by rcases Nat.mul_eq_zero.1 h0 with h|h;exact h;exact absurd h h7
  rw [if_pos h0]
  simp only [Sem.run_bind,Sem.run_pure,Result.andThen_ok]
  rw [h0]at h8 ⊢
  rw [hpt]
  have:((Array.range 0).map fun i=>(#[]:Array Value)[i % (#[]:Array Value).size]!)=((Array.range 0).map fun i=>u.cells[i % u.cells.size]!):=by simp
  rw [this,h8]
  simp [newRow]
 ·rw [if_neg h0]
  simp only [Sem.run_bind,h2,Result.andThen_ok,Sem.run_pure]
  rw [hpt,h8]
  simp [newRow]):p:=h
theorem Adv {p:Prop}(h:p:=by
 simp only [R.val.injEq]at hx;obtain⟨rfl,rfl⟩:=hx
 exact .same (v':=ρ x) hr (by simp [execOp,ho,ea]) (hb ▸ hρ x)):p:=h
theorem Ahj {p:Prop}(h:p:=by
 simp only [execOp,ho,Instr.typeAssert,Sem.run_bind,Ad hE hu,Result.andThen_ok,ea]
 cases d <;> first|(simp;done)|exact absurd rfl (hd _)):p:=h
theorem Ab8 {p:Prop}(h:p:=by
 unfold Cl at hs;rw [h1]at hs;simp only at hs
 split at hs
 ·simp at hs
 ·simpa using hs):p:=h
section
variable {P:Program}{E:Env}{w0:Array Obj}{φ:Phi}{h h':H}{w:World}{tm:T AV}{ρ:Operand→Value}{o:Oper}{v:AV}
variable (hr:HR E w0 φ h w.heap)(hρ: RhoR φ tm ρ)
include hr hρ
omit hr hρ in
theorem X2 (z:List AV): ∀(n i:Nat),i<n*z.length→(rl z n)[i]?=z[i % z.length]?
 |0,i,hi=>by simp at hi
 |n+1,i,hi=>by
  show(z++rl z n)[i]?=_;by_cases hlt:i<z.length;·rw [List.getElem?_append_left hlt,Nat.mod_eq_of_lt hlt]
  ·have hge:z.length≤i:=(by omega);rw [List.getElem?_append_right hge,X2 z n (i - z.length) (by rw [Nat.succ_mul]at hi;omega),←Nat.mod_eq_sub_mod hge]
omit hr hρ in
theorem oj {z:List AV}{c:Array Value}(hz:VRs φ z c.toList)(n:Nat)(k:Nat)(hk:k=n*c.size):VRs φ (rl z n) ((Array.range k).map fun i=>c[i % c.size]!).toList:=by
 have hl:=hz.length;simp only [Array.length_toList]at hl;have hlen:(rl z n).length=n*z.length:=by
  clear hk;induction n with
  |zero=>simp [rl]
  |succ n ih=>show(z++rl z n).length=_;simp [ih,Nat.succ_mul];omega
 refine VRs.of_get (by rw [hlen];simp [hk,hl]) fun i v hi=>?_;have hlt:i<n*z.length:=by rw [←hlen];exact(List.getElem?_eq_some_iff.1 hi).1
 rw [X2 z n i hlt]at hi;obtain⟨v',h1,h2⟩:=hz.get hi;refine⟨v',?_,h2⟩;have hm:i % c.size<c.size:=by have:=(List.getElem?_eq_some_iff.1 h1).1;rw [hl]at this;simpa using this
 have hlt':i<k:=by rw [hk,←hl];exact hlt
 simp only [Array.getElem?_toList,Array.getElem?_map,Array.getElem?_range,hlt',if_true,Option.map_some];rw [hl,Array.getElem?_toList]at h1;rw [getElem!_def,h1]
theorem X3 (hE:EnvOk P E){t e:TypeId}{n s:Nat}{parts:Array (Nat×Operand)}{z:List AV}(hu:und E t=some (.slice e))(hs:Cl E e=some s)(hz:Fa E e=some z) (hb:n*szD E e≤16777216) (ho:o.op= .buildSlice t n parts) (hx:exec (.bslice n (rl z n) (parts.toList.map fun p=>(p.1*s,s,opd p.2))) h tm= .val v h'): Sim1 E w0 φ w h ((execOp ρ o).run P w) v h':=by
 simp only [exec]at hx;split at hx
 ·rename_i l hl;simp only [R.val.injEq]at hx;obtain⟨rfl,rfl⟩:=hx;obtain⟨u,i,h1,h2,h3,h4,h5⟩:=Do hE hz w;obtain⟨h6,h7⟩:=B3 hE hs w;have hi:i.size=s:=by exact Ab8
  have hsz:szD E e=s:=by unfold szD;rw [h1];exact hi
  obtain⟨cs',h8,h9⟩:=Jd (hρ:= hρ) (fun(i:Nat)=>some (i*s,s)) parts.toList _ _ ((Array.range (n*s)).map fun i=>u.cells[i % u.cells.size]!) l (by simp) (oj (h5 φ) n (n*s) (by rw [h3,hi])) hl;obtain⟨hle,hr'⟩:=hr.newCells e h9;have hpt:(parts.map fun(x:Nat×Operand)=>(x.1,ρ x.2)).toList=parts.toList.map fun p=>(p.1,ρ p.2):=by simp
  have hlim: ¬(n*s>2 ^ 24):=by rw [hsz]at hb;omega
  refine⟨_,.slice (some ⟨w.heap.size,0,none⟩) n n,w.alloc (.cells cs' e),⟨hle,fun _ hb=>Phi.upd_ne _ _ hb⟩,.inl ?_,?_,hr',⟨rfl,rfl,rfl⟩⟩;·exact Ahi
  ·have hb':n<Aa:=(by have:n≤n*s:=Nat.le_mul_of_pos_right n (Nat.pos_of_ne_zero h7);unfold Aa;omega);have:=VR.slcX (b:=h.n) (o:=0) (n:=n) (c:=n) (off:=0) (Phi.upd_same φ h.n ⟨w.heap.size,0,cs'.size⟩) hb' (Nat.le_refl _) (fun _=>rfl);simpa using this
 ·cases hx
theorem fc (hE:EnvOk P E){t:TypeId}{a:Operand}(ha:Jb E t=some false)(ho:o.op= .load t a)(hx:exec (.load1 (opd a)) h tm= .val v h'):Sim1 E w0 φ w h ((execOp ρ o).run P w) v h':=by
 simp only [exec]at hx;split at hx
 ·rename_i b k hb;obtain⟨l,hφ,ea⟩:=VR.ptr_inv (hb ▸ hρ a);split at hx
  ·rename_i ro n c hc;split at hx
   ·rename_i hk;have hk:k+1≤n:=Ak hk
    cases hg:T.get c k with
    |none=>rw [hg]at hx;simp [vo]at hx
    |some u=>rw [hg]at hx;simp only [vo,R.val.injEq]at hx;obtain⟨rfl,rfl⟩:=hx;obtain⟨cs,e,_,h1,h2,h3,h4⟩:=hr.cellsOf_blk hφ hc;obtain⟨v',h5,h6⟩:=h4 k _ (by omega) hg;refine .same (v':=v') hr ?_ h6;simp [execOp,ho,Instr.loadAt,Instr.sureAddr,loadVar,ea,Ed hE ha,Kd h1,h5]
   ·cases hx
  ·cases hx
 ·cases hx
theorem fe (hE:EnvOk P E){t:TypeId}{i:TypeInfo}{a:Operand}(hi:Ev.inf E t=some i)(ha:Jb E t=some true)(ho:o.op= .load t a) (hx:exec (.loadN i.size (opd a)) h tm= .val v h'):Sim1 E w0 φ w h ((execOp ρ o).run P w) v h':=by
 simp only [exec]at hx;split at hx
 ·rename_i b k hb;obtain⟨l,hφ,ea⟩:=VR.ptr_inv (hb ▸ hρ a);split at hx;·rename_i xs hc;simp only [R.val.injEq]at hx;obtain⟨rfl,rfl⟩:=hx;obtain⟨vs,h1,h2,h3⟩:=hr.cellsAt hφ hc (l.base+k) (fun _=>rfl);refine .same (v':= .agg vs.toArray) hr ?_ (.agg (by simpa using h2));have:=Ex P h3;rw [h1]at this;simp [execOp,ho,Instr.loadAt,Instr.sureAddr,loadVar,ea,Ed hE ha,Bv hE hi,this]
  ·cases hx
 ·cases hx
theorem ff (hE:EnvOk P E){t:TypeId}{i:TypeInfo}{a x:Operand}(hi:Ev.inf E t=some i)(ho:o.op= .store t a x) (hx:exec (.store i.size (opd a) (opd x)) h tm= .val v h'):Sim1 E w0 φ w h ((execOp ρ o).run P w) v h':=by
 simp only [exec]at hx;split at hx
 ·rename_i b k hb;obtain⟨l,hφ,ea⟩:=VR.ptr_inv (hb ▸ hρ a);split at hx
  ·rename_i xs hc;split at hx
   ·rename_i hlen;have hlen:xs.length=i.size:=Am hlen;split at hx;·rename_i h2 hp;simp only [R.val.injEq]at hx;obtain⟨rfl,rfl⟩:=hx;have hv:=Ib (hρ x) hc;have hl:=hv.length;simp only [Array.length_toList]at hl;obtain⟨w',r1,r2,r3⟩:=hr.putBlk P hφ hp hv (l.base+k) (fun _=>rfl);refine⟨φ,undef,w',.refl _ _,.inr ⟨?_,rfl⟩,.unk _,r2,r3⟩;have hne: ¬((ρ x).cells.size≠i.size):=(by omega);simp [execOp,ho,Instr.storeAt,Instr.sureAddr,storeVar,ea,Bv hE hi,r1];omega
    ·cases hx
   ·cases hx
  ·cases hx
 ·cases hx
theorem om {x:Operand}(ho:o.op= .nilCheck x)(hx:exec (.nilc (opd x)) h tm= .val v h'):Sim1 E w0 φ w h ((execOp ρ o).run P w) v h':=by
 simp only [exec]at hx;split at hx;·rename_i b k hb;obtain⟨l,hφ,ea⟩:=VR.ptr_inv (hb ▸ hρ x);exact Adv
 ·rename_i f a c hb;obtain⟨a',c',ea,_,_⟩:=VR.fnF_inv (hb ▸ hρ x);exact Adv
 ·rename_i t u hb;obtain⟨u',ea,_⟩:=VR.ifc_inv (hb ▸ hρ x);exact Adv
 ·cases hx
theorem oq (hE:EnvOk P E){t:TypeId}{d:TypeDesc}{x:Operand}(hu:und E t=some d)(hd: ∀ms,d≠ .interface ms)(ho:o.op= .makeInterface t x) (hx:exec (.mkif t (opd x)) h tm= .val v h'):Sim1 E w0 φ w h ((execOp ρ o).run P w) v h':=by
 simp only [exec,R.val.injEq]at hx;obtain⟨rfl,rfl⟩:=hx;refine .same (v':= .iface t (ρ x)) hr ?_ (.ifc (hρ x));simp only [execOp,ho,Instr.makeInterface,Sem.run_bind,Ad hE hu,Result.andThen_ok]
 cases d <;> first|rfl|exact absurd rfl (hd _)
theorem ot {f:FuncId}{a c:Array Operand}(ho:o.op= .makeFunc (.func f) a c)(hx:exec (.mkfn (.func f) (a.toList.map opd) (c.toList.map opd)) h tm= .val v h'): Sim1 E w0 φ w h ((execOp ρ o).run P w) v h':=by simp only [exec,R.val.injEq]at hx;obtain⟨rfl,rfl⟩:=hx;refine .same (v':= .func (.func f) (a.map ρ) (c.map ρ)) hr ?_ (.fnF (by simpa using hρ.list a.toList) (by simpa using hρ.list c.toList));simp [execOp,ho,Instr.makeFunc]
theorem fg {t:TypeId}(ho:o.op= .makeMap t none)(hx:exec .mkmap h tm= .val v h'):Sim1 E w0 φ w h ((execOp ρ o).run P w) v h':=by simp only [exec,R.val.injEq]at hx;obtain⟨rfl,rfl⟩:=hx;have hle:=Phi.le_upd ⟨w.heap.size,0,0⟩ hr.fresh;refine⟨_,.map (some w.heap.size),w.alloc (.map #[] 0),⟨hle,fun _ hb=>Phi.upd_ne _ _ hb⟩,.inl ?_,.map (l:=⟨w.heap.size,0,0⟩) (Phi.upd_same _ _ _),hr.new rfl (.map (by simpa using ERs.nil)) rfl,⟨rfl,rfl,rfl⟩⟩;simp [execOp,ho,Instr.makeMap]
theorem fh (hE:EnvOk P E){s:TypeId}{fs:Array Field}{f n:Nat}{fd:Field}{x:Operand}(hu:und E s=some (.struct fs))(hf:fs[f]?=some fd)(hs:Cl E fd.type=some n) (ho:o.op= .fieldAddr s x f) (hx:exec (.faddr (opd x) fd.offset) h tm= .val v h'):Sim1 E w0 φ w h ((execOp ρ o).run P w) v h':=by
 simp only [exec]at hx;split at hx;·rename_i b k hb;obtain⟨l,hφ,ea⟩:=VR.ptr_inv (hb ▸ hρ x);simp only [R.val.injEq]at hx;obtain⟨rfl,rfl⟩:=hx;obtain⟨h1,h2⟩:=B3 hE hs w;refine .same (v':= .pointer (some ⟨l.cb,l.base+(k+fd.offset),none⟩)) hr ?_ (.ptr hφ);simp [execOp,ho,Instr.fieldAt,Instr.sureAddr,ea,Ad hE hu,hf,fieldPlace,h1,h2,Cw,Nat.add_assoc]
 ·cases hx
theorem X4 (hE:EnvOk P E){s:TypeId}{fs:Array Field}{f:Nat}{fd:Field}{x:Operand}(hu:und E s=some (.struct fs))(hf:fs[f]?=some fd)(ha:Jb E fd.type=some false) (ho:o.op= .field s x f) (hx:exec (.field1 (opd x) fd.offset) h tm= .val v h'):Sim1 E w0 φ w h ((execOp ρ o).run P w) v h':=by
 simp only [exec]at hx;split at hx
 ·rename_i l hb;obtain⟨c,ea,hc⟩:=VR.agg_inv (hb ▸ hρ x)
  cases hg:l[fd.offset]? with
  |none=>rw [hg]at hx;simp [vo]at hx
  |some u=>rw [hg]at hx;simp only [vo,R.val.injEq]at hx;obtain⟨rfl,rfl⟩:=hx;obtain⟨v',h1,h2⟩:=hc.get hg;refine .same (v':=v') hr ?_ h2;rw [Array.getElem?_toList]at h1;simp [execOp,ho,Instr.field,asAgg,ea,Ad hE hu,hf,part,Ed hE ha,h1]
 ·cases hx
omit hr hρ in
theorem Nm {l:List AV}{c:Array Value}(hc:VRs φ l c.toList)(a n:Nat):VRs φ (List.take n (List.drop a l)) (c.extract a (a+n)).toList:=by have:=(hc.drop a).take n;rw [Array.toList_extract,List.extract_eq_take_drop];rwa [Nat.add_sub_cancel_left]
theorem X5 (hE:EnvOk P E){s:TypeId}{fs:Array Field}{f:Nat}{fd:Field}{i:TypeInfo}{x:Operand}(hu:und E s=some (.struct fs))(hf:fs[f]?=some fd)(ha:Jb E fd.type=some true) (hi:Ev.inf E fd.type=some i) (ho:o.op= .field s x f) (hx:exec (.fieldN (opd x) fd.offset i.size) h tm= .val v h'):Sim1 E w0 φ w h ((execOp ρ o).run P w) v h':=by
 simp only [exec]at hx;split at hx;·rename_i l hb;obtain⟨c,ea,hc⟩:=VR.agg_inv (hb ▸ hρ x);simp only [R.val.injEq]at hx;obtain⟨rfl,rfl⟩:=hx;refine .same (v':= .agg (c.extract fd.offset (fd.offset+i.size))) hr ?_ (.agg (Nm hc _ _));simp [execOp,ho,Instr.field,asAgg,ea,Ad hE hu,hf,part,Ed hE ha,Bv hE hi]
 ·cases hx
theorem V1 {x:Operand}{i:Nat}(ho:o.op= .extract x i)(hx:exec (.extract (opd x) i) h tm= .val v h'):Sim1 E w0 φ w h ((execOp ρ o).run P w) v h':=by
 simp only [exec]at hx;split at hx
 ·rename_i l hb;obtain⟨c,ea,hc⟩:=VR.tup_inv (hb ▸ hρ x)
  cases hg:l[i]? with
  |none=>rw [hg]at hx;simp [vo]at hx
  |some u=>rw [hg]at hx;simp only [vo,R.val.injEq]at hx;obtain⟨rfl,rfl⟩:=hx;obtain⟨v',h1,h2⟩:=hc.get hg;rw [Array.getElem?_toList]at h1;exact .same (v':=v') hr (by simp [execOp,ho,Instr.extract,ea,h1]) h2
 ·cases hx
theorem ou (hE:EnvOk P E){s d:TypeId}{j k:IntKind}{x:Operand}(hs:und E s=some (.int j))(hd:und E d=some (.int k))(ho:o.op= .convert s d x) (hx:exec (.conv k (opd x)) h tm= .val v h'):Sim1 E w0 φ w h ((execOp ρ o).run P w) v h':=by
 simp only [exec]at hx;split at hx;·rename_i i n hb;have ea:=VR.int_inv (hb ▸ hρ x);simp only [R.val.injEq]at hx;obtain⟨rfl,rfl⟩:=hx;refine .same (v':= .int k (k.wrap n)) hr ?_ (Gj k n ▸ .int _ _);simp [execOp,ho,convert,Ad hE hs,Ad hE hd,ea,Conv.intToInt]
 ·cases hx
theorem X6 (hE:EnvOk P E){t e:TypeId}{n s:Nat}{x ix:Operand}(hu:und E t=some (.array n e))(hs:Cl E e=some s)(ho:o.op= .indexAddr t x ix) (hx:exec (.iaddrA n s (opd x) (opd ix)) h tm= .val v h'):Sim1 E w0 φ w h ((execOp ρ o).run P w) v h':=by
 simp only [exec]at hx;split at hx
 ·rename_i b k hb;obtain⟨l,hφ,ea⟩:=VR.ptr_inv (hb ▸ hρ x);split at hx
  ·rename_i kk i hi;have ei:=VR.int_inv (hi ▸ hρ ix);split at hx;·rename_i hlt;have hlt:i+1≤n:=Ak hlt;simp only [R.val.injEq]at hx;obtain⟨rfl,rfl⟩:=hx;refine .same (v':= .pointer (some ⟨l.cb,l.base+(k+i*s),none⟩)) hr ?_ (.ptr hφ);have h1:i<n:=(by omega);simp [execOp,ho,Instr.indexAt,Instr.sureAddr,asIntOf,ea,ei,Ad hE hu,(B3 hE hs w).1,Cw,Nat.add_assoc,h1]
   ·cases hx
  ·cases hx
 ·cases hx
theorem X7 (hE:EnvOk P E){t e:TypeId}{s:Nat}{x ix:Operand}(hu:und E t=some (.slice e))(hs:Cl E e=some s)(ho:o.op= .indexAddr t x ix) (hx:exec (.iaddrS s (opd x) (opd ix)) h tm= .val v h'):Sim1 E w0 φ w h ((execOp ρ o).run P w) v h':=by
 simp only [exec]at hx;split at hx
 ·rename_i b k n cap hb;obtain⟨l,off,c',hφ,ea,hle,hor⟩:=VR.slc_inv (hb ▸ hρ x);split at hx
  ·rename_i kk i hi;have ei:=VR.int_inv (hi ▸ hρ ix);split at hx
   ·rename_i hlt;have hlt:i+1≤n:=Ak hlt;simp only [R.val.injEq]at hx;obtain⟨rfl,rfl⟩:=hx;have hoff:off=l.base+k:=by
     rcases hor with⟨_,e,ho⟩|⟨_,_,_,ho⟩;·exact ho (by omega)
     ·exact ho (by omega)
    refine .same (v':= .pointer (some ⟨l.cb,l.base+(k+i*s),none⟩)) hr ?_ (.ptr hφ);have h1:i<n:=(by omega);simp [execOp,ho,Instr.indexAt,asIntOf,ea,ei,Ad hE hu,(B3 hE hs w).1,Cw,Nat.add_assoc,h1,hoff]
   ·cases hx
  ·cases hx
 ·cases hx
theorem X8 (hE:EnvOk P E){t e:TypeId}{n:Nat}{i:TypeInfo}{x ix:Operand}(hu:und E t=some (.array n e))(hi:Ev.inf E e=some i)(h1:i.size=1)(ha:Jb E e=some false)(ho:o.op= .index t x ix) (hx:exec (.index1 n (opd x) (opd ix)) h tm= .val v h'):Sim1 E w0 φ w h ((execOp ρ o).run P w) v h':=by
 simp only [exec]at hx;split at hx
 ·rename_i l hb;obtain⟨c,ea,hc⟩:=VR.agg_inv (hb ▸ hρ x);split at hx
  ·rename_i kk j hj;have ei:=VR.int_inv (hj ▸ hρ ix);split at hx
   ·rename_i hlt;have hlt:j+1≤n:=Ak hlt
    cases hg:l[j]? with
    |none=>rw [hg]at hx;simp [vo]at hx
    |some u=>rw [hg]at hx;simp only [vo,R.val.injEq]at hx;obtain⟨rfl,rfl⟩:=hx;obtain⟨v',h2,h3⟩:=hc.get hg;rw [Array.getElem?_toList]at h2;have h4:j<n:=(by omega);refine .same (v':=v') hr ?_ h3;simp [execOp,ho,Instr.index,asIntOf,ea,ei,Ad hE hu,Bv hE hi,h1,h4,part,Ed hE ha,h2]
   ·cases hx
  ·cases hx
 ·cases hx
theorem X9 (hE:EnvOk P E){t:TypeId}{x ix:Operand}(hu:und E t=some .string)(ho:o.op= .index t x ix) (hx:exec (.indexT (opd x) (opd ix)) h tm= .val v h'):Sim1 E w0 φ w h ((execOp ρ o).run P w) v h':=by
 simp only [exec]at hx;split at hx
 ·rename_i l hb;obtain⟨s,ea,hc⟩:=VR.str_inv (hb ▸ hρ x);split at hx
  ·rename_i kk j hj;have ei:=VR.int_inv (hj ▸ hρ ix);split at hx
   ·rename_i u hg;simp only [R.val.injEq]at hx;obtain⟨rfl,rfl⟩:=hx;rw [←hc,List.getElem?_map,Array.getElem?_toList]at hg
    cases hs:s.data[j]? with
    |none=>rw [hs]at hg;cases hg
    |some b=>rw [hs]at hg;simp only [Option.map_some,Option.some.injEq]at hg;subst hg;have hsb:s[j]?=some b:=(by obtain⟨h1,h2⟩:=Array.getElem?_eq_some_iff.1 hs;have h3:j<s.size:=h1;rw [getElem?_pos s j h3];exact congrArg some h2);refine .same (v':= .int .u8 b.toNat) hr ?_ (.int _ _);simp [execOp,ho,Instr.index,asIntOf,ea,ei,Ad hE hu,hsb]
   ·cases hx
  ·cases hx
 ·cases hx
theorem Ya (hE:EnvOk P E){t e:TypeId}{n:Nat}{i:TypeInfo}{x ix:Operand}(hu:und E t=some (.array n e))(hi:Ev.inf E e=some i)(ha:Jb E e=some true)(ho:o.op= .index t x ix) (hx:exec (.indexN n i.size (opd x) (opd ix)) h tm= .val v h'):Sim1 E w0 φ w h ((execOp ρ o).run P w) v h':=by
 simp only [exec]at hx;split at hx
 ·rename_i l hb;obtain⟨c,ea,hc⟩:=VR.agg_inv (hb ▸ hρ x);split at hx
  ·rename_i kk j hj;have ei:=VR.int_inv (hj ▸ hρ ix);split at hx;·rename_i hlt;have hlt:j+1≤n:=Ak hlt;simp only [R.val.injEq]at hx;obtain⟨rfl,rfl⟩:=hx;have h4:j<n:=(by omega);refine .same (v':= .agg (c.extract (j*i.size) (j*i.size+i.size))) hr ?_ (.agg (Nm hc _ _));simp [execOp,ho,Instr.index,asIntOf,ea,ei,Ad hE hu,Bv hE hi,h4,part,Ed hE ha]
   ·cases hx
  ·cases hx
 ·cases hx
theorem V2 (hE:EnvOk P E){xt t:TypeId}{d:TypeDesc}{z:AV}{ok:Bool}{x:Operand}(hu:und E t=some d)(hd: ∀ms,d≠ .interface ms)(hz:Om E t=some z)(ho:o.op= .typeAssert x xt t ok) (hx:exec (.tassert (opd x) t z ok) h tm= .val v h'):Sim1 E w0 φ w h ((execOp ρ o).run P w) v h':=by
 obtain⟨z',z1,z2⟩:=Qb hE hz w;simp only [exec]at hx;split at hx
 ·rename_i u y hb;obtain⟨y',ea,hy⟩:=VR.ifc_inv (hb ▸ hρ x);split at hx
  ·rename_i hut;have hut:u=t:=Am hut;subst hut;simp only [R.val.injEq]at hx;obtain⟨rfl,rfl⟩:=hx
   cases ok with
   |true=>refine .same (v':= .tuple #[y',.bool true]) hr ?_ (.tup (.cons hy (.cons (.bool _) .nil)));exact Ahj
   |false=>refine .same (v':=y') hr ?_ hy;exact Ahj
  ·rename_i hut;have hut:u≠t:=D8 hut
   cases ok with
   |true=>
    simp only [R.val.injEq]at hx;obtain⟨rfl,rfl⟩:=hx;refine .same (v':= .tuple #[z',.bool false]) hr ?_ (.tup (.cons (z2 φ) (.cons (.bool _) .nil)));simp only [execOp,ho,Instr.typeAssert,Sem.run_bind,Ad hE hu,Result.andThen_ok,ea]
    cases d <;> first|(simp [hut,z1];done)|exact absurd rfl (hd _)
   |false=>cases hx
 ·rename_i hb;have ea:=VR.nili_inv (hb ▸ hρ x)
  cases ok with
  |true=>
   simp only [R.val.injEq]at hx;obtain⟨rfl,rfl⟩:=hx;refine .same (v':= .tuple #[z',.bool false]) hr ?_ (.tup (.cons (z2 φ) (.cons (.bool _) .nil)));simp only [execOp,ho,Instr.typeAssert,Sem.run_bind,Ad hE hu,Result.andThen_ok,ea]
   cases d <;> first|(simp [z1];done)|exact absurd rfl (hd _)
  |false=>cases hx
 ·cases hx
end
section arith
variable (P:Program)(w:World)
theorem Je (k:IntKind)(n:Int):(BitVec.ofInt k.bits n).toNat=toU k n:=by
 have h:((2 ^ k.bits:Nat):Int)=(2:Int) ^ k.bits:=by simp
 rw [BitVec.toNat_ofInt,h,←od];simp
theorem Ahk (k:IntKind)(a b:Int):(BitVec.ofInt k.bits a &&& BitVec.ofInt k.bits b).toNat=Nat.land (toU k a) (toU k b):=by rw [BitVec.toNat_and,Je,Je];rfl
theorem Aov (k:IntKind)(a b:Int):(BitVec.ofInt k.bits a ||| BitVec.ofInt k.bits b).toNat=Nat.lor (toU k a) (toU k b):=by rw [BitVec.toNat_or,Je,Je];rfl
theorem Ahl (k:IntKind)(a b:Int):(BitVec.ofInt k.bits a ^^^ BitVec.ofInt k.bits b).toNat=Nat.xor (toU k a) (toU k b):=by rw [BitVec.toNat_xor,Je,Je];rfl
theorem Ab9 (k:IntKind)(b:Int):(~~~ BitVec.ofInt k.bits b).toNat=Nat.sub (Nat.sub (pw k) 1) (toU k b):=by rw [BitVec.toNat_not,Je,←oc];rfl
theorem ow (k:IntKind)(a b:Int):(BitVec.ofInt k.bits a &&& ~~~ BitVec.ofInt k.bits b).toNat=Nat.land (toU k a) (Nat.sub (Nat.sub (pw k) 1) (toU k b)):=by rw [BitVec.toNat_and,Je,Ab9];rfl
theorem Ke (a b:Int):iEq a b=(a == b):=by rw [Ew];by_cases h:a=b <;> simp [h]
theorem yq (a b:Int):(not (iEq a b))=(a !=b):=by rw [Ke];rfl
theorem ox (a b:Int):(not (iLt b a))=decide (a≤b):=by
 rw [Hf];by_cases h:a≤b
 ·have: ¬b<a:=by omega
  simp [h,this]
 ·have:b<a:=by omega
  simp [h,this]
theorem Qe (n:Nat): ¬((n:Int)<0):=by omega
theorem Adw {t:TypeId}{op:BinOp}{k j:IntKind}{a b:Int}{v:AV}(h:Ec op k a j b=some v): ∃v',(binOp op t (.int k a) (.int j b)).run P w= .ok v' w∧ ∀φ,VR φ v v':=by
 cases op <;> simp only [Ec]at h
 case shl=>
  split at h
  ·rename_i n;simp only [Option.some.injEq]at h;subst h;refine⟨.int k (k.wrap (a*2 ^ (min n k.bits))),?_,fun φ=> ?_⟩;·simp [binOp,Op.shift,Qe]
   ·rw [Gj,Ka,Z8];have:Int.mul a (Int.ofNat (Nat.pow 2 (min n k.bits)))=a*2 ^ (min n k.bits):=(by show a*((2 ^ (min n k.bits):Nat):Int)=_;simp);rw [this];exact .int _ _
  ·cases h
 case shr=>
  split at h
  ·rename_i n;simp only [Option.some.injEq]at h;subst h;refine⟨.int k (a.fdiv (2 ^ (min n k.bits))),?_,fun φ=> ?_⟩;·simp [binOp,Op.shift,Qe]
   ·rw [Ka,Z8];have:Int.ofNat (Nat.pow 2 (min n k.bits))=2 ^ (min n k.bits):=(by show((2 ^ (min n k.bits):Nat):Int)=_;simp);rw [this];exact .int _ _
  ·cases h
 case quo=>
  split at h
  ·rename_i hk;have hk:=Bi hk;subst hk;split at h;·cases h
   ·rename_i hz;have hz: ¬b=0:=(by rw [Ew]at hz;simpa using hz);simp only [Option.some.injEq]at h;subst h;exact⟨.int k (k.wrap (a.tdiv b)),by simp [binOp,Op.intDiv,hz],fun φ=> by rw [Gj];exact .int _ _⟩
  ·cases h
 case rem=>
  split at h
  ·rename_i hk;have hk:=Bi hk;subst hk;split at h;·cases h
   ·rename_i hz;have hz: ¬b=0:=(by rw [Ew]at hz;simpa using hz);simp only [Option.some.injEq]at h;subst h;exact⟨.int k (a.tmod b),by simp [binOp,Op.intDiv,hz],fun φ=> .int _ _⟩
  ·cases h
 case add=>
  split at h;·rename_i hk;have hk:=Bi hk;subst hk;simp only [Option.some.injEq]at h;subst h;exact⟨.int k (k.wrap (a+b)),by simp [binOp,Op.intArith],fun φ=> by rw [Gj];exact .int _ _⟩
  ·cases h
 case sub=>
  split at h;·rename_i hk;have hk:=Bi hk;subst hk;simp only [Option.some.injEq]at h;subst h;exact⟨.int k (k.wrap (a - b)),by simp [binOp,Op.intArith],fun φ=> by rw [Gj];exact .int _ _⟩
  ·cases h
 case mul=>
  split at h;·rename_i hk;have hk:=Bi hk;subst hk;simp only [Option.some.injEq]at h;subst h;exact⟨.int k (k.wrap (a*b)),by simp [binOp,Op.intArith],fun φ=> by rw [Gj];exact .int _ _⟩
  ·cases h
 case and=>
  split at h;·rename_i hk;have hk:=Bi hk;subst hk;simp only [Option.some.injEq]at h;subst h;exact⟨.int k (k.wrap ((BitVec.ofInt k.bits a &&& BitVec.ofInt k.bits b).toNat)),by simp [binOp,Op.intBits],fun φ=> by rw [Gj,Ahk];exact .int _ _⟩
  ·cases h
 case or=>
  split at h;·rename_i hk;have hk:=Bi hk;subst hk;simp only [Option.some.injEq]at h;subst h;exact⟨.int k (k.wrap ((BitVec.ofInt k.bits a ||| BitVec.ofInt k.bits b).toNat)),by simp [binOp,Op.intBits],fun φ=> by rw [Gj,Aov];exact .int _ _⟩
  ·cases h
 case xor=>
  split at h;·rename_i hk;have hk:=Bi hk;subst hk;simp only [Option.some.injEq]at h;subst h;exact⟨.int k (k.wrap ((BitVec.ofInt k.bits a ^^^ BitVec.ofInt k.bits b).toNat)),by simp [binOp,Op.intBits],fun φ=> by rw [Gj,Ahl];exact .int _ _⟩
  ·cases h
 case andNot=>
  split at h;·rename_i hk;have hk:=Bi hk;subst hk;simp only [Option.some.injEq]at h;subst h;exact⟨.int k (k.wrap ((BitVec.ofInt k.bits a &&& ~~~ BitVec.ofInt k.bits b).toNat)),by simp [binOp,Op.intBits],fun φ=> by rw [Gj,ow];exact .int _ _⟩
  ·cases h
 case eql=>
  split at h;·rename_i hk;have hk:=Bi hk;subst hk;simp only [Option.some.injEq]at h;subst h;exact⟨.bool (a == b),by simp [binOp,Op.intCmp],fun φ=> by rw [Ke];exact .bool _⟩
  ·cases h
 case neq=>
  split at h;·rename_i hk;have hk:=Bi hk;subst hk;simp only [Option.some.injEq]at h;subst h;exact⟨.bool (a !=b),by simp [binOp,Op.intCmp],fun φ=> by rw [yq];exact .bool _⟩
  ·cases h
 case lss=>
  split at h;·rename_i hk;have hk:=Bi hk;subst hk;simp only [Option.some.injEq]at h;subst h;exact⟨.bool (decide (a<b)),by simp [binOp,Op.intCmp],fun φ=> by rw [Hf];exact .bool _⟩
  ·cases h
 case leq=>
  split at h;·rename_i hk;have hk:=Bi hk;subst hk;simp only [Option.some.injEq]at h;subst h;exact⟨.bool (decide (a≤b)),by simp [binOp,Op.intCmp],fun φ=> by rw [ox];exact .bool _⟩
  ·cases h
 case gtr=>
  split at h;·rename_i hk;have hk:=Bi hk;subst hk;simp only [Option.some.injEq]at h;subst h;exact⟨.bool (decide (b<a)),by simp [binOp,Op.intCmp],fun φ=> by rw [Hf];exact .bool _⟩
  ·cases h
 case geq=>
  split at h;·rename_i hk;have hk:=Bi hk;subst hk;simp only [Option.some.injEq]at h;subst h;exact⟨.bool (decide (b≤a)),by simp [binOp,Op.intCmp],fun φ=> by rw [ox];exact .bool _⟩
  ·cases h
end arith
theorem L4 {a b:ByteArray}{s t:List Nat}(ha:a.data.toList.map (·.toNat)=s)(hb:b.data.toList.map (·.toNat)=t):(a.toList == b.toList)=Ng s t:=by
 rw [Kb,ByteArray.toList_eq,ByteArray.toList_eq,←ha,←hb];have:(a.data.toList.map (·.toNat)=b.data.toList.map (·.toNat))↔a.data.toList=b.data.toList:= ⟨fun h=>List.map_inj_right (fun x y h=>UInt8.toNat_inj.1 h) |>.1 h,fun h=>by rw [h]⟩;by_cases h:a.data.toList=b.data.toList;·rw [decide_eq_true (this.2 h),h];simp
 ·rw [decide_eq_false (fun e=>h (this.1 e))]
  cases hq:(a.data.toList == b.data.toList)with
  |false=>rfl
  |true=>exact absurd (eq_of_beq hq) h
section
variable {P:Program}{E:Env}(hE:EnvOk P E){φ:Phi}{w:World}
include hE
theorem oy {t:TypeId}{off n:Nat}{xs:List AV}{cs:Array Value}{a:AV}(hs:ny E t=some n)(hx:VRs φ xs cs.toList)(hg:Xy xs off n=some a): ∃v,(part t cs off).run P w= .ok v w∧VR φ a v:=by
 unfold ny at hs;split at hs;·rename_i ha;obtain⟨h1,h2⟩:=B3 hE hs w;obtain⟨m,rfl⟩: ∃m,n=m+1:=⟨n - 1,by omega⟩;simp only [Xy,Option.some.injEq]at hg;subst hg;exact⟨.agg (cs.extract off (off+(m+1))),by simp [part,Ed hE ha,h1],.agg (Nm hx _ _)⟩
 ·rename_i ha;simp only [Option.some.injEq]at hs;subst hs;simp only [Xy]at hg;obtain⟨v,h1,h2⟩:=hx.get hg;rw [Array.getElem?_toList]at h1;exact⟨v,by simp [part,Ed hE ha,h1],h2⟩
 ·cases hs
theorem Ov {d D n:Nat}(ih: ∀(t:TypeId) (x y:AV) (x' y':Value) (b:Bool),eqv n (Av E d t) x y=some b→VR φ x x'→VR φ y y'→(Op.equalIn D t x' y').run P w= .ok b w) {xs ys:List AV} {cs cs':Array Value} (hx:VRs φ xs cs.toList) (hy:VRs φ ys cs'.toList): ∀(fs:List Field) (l:List (Nat×Nat×Sh)) (b:Bool), fs.mapM (G1 E (Av E d))=some l→H7 (eqv n) xs ys l=some b→(Op.eqFields D cs cs' fs).run P w= .ok b w
 | [],l,b,hl,he=>by simp at hl;subst hl;simp only [H7,Option.some.injEq]at he;subst he;rfl
 |f::fs,l,b,hl,he=>by
  rw [List.mapM_cons]at hl
  cases h1:G1 E (Av E d) f with
  |none=>rw [h1]at hl;simp at hl
  |some q=>
   rw [h1]at hl
   cases h2:fs.mapM (G1 E (Av E d))with
   |none=>rw [h2]at hl;simp at hl
   |some r=>
    rw [h2]at hl;simp at hl;subst hl;unfold G1 at h1;split at h1;·cases h1
    ·rename_i hn;have hn : f.name ≠ "_" := by simpa using hn
     split at h1
     ·rename_i m hm;simp only [Option.some.injEq]at h1;subst h1;simp only [H7]at he;split at he
      ·rename_i a c ha hc;obtain⟨va,a1,a2⟩:=oy hE (w:=w) hm hx ha;obtain⟨vc,c1,c2⟩:=oy hE (w:=w) hm hy hc
       cases hq:eqv n (Av E d f.type) a c with
       |none=>rw [hq]at he;simp at he
       |some q=>
        rw [hq]at he;have e1:=ih _ _ _ _ _ _ hq a2 c2;rw [Op.eqFields,if_pos hn];simp only [Sem.run_bind,a1,c1,e1,Result.andThen_ok]
        cases q with
        |true=>simp only [Bool.not_true,Bool.false_eq_true,if_false];exact Ov ih hx hy fs r b h2 he
        |false=>simp only [Option.some.injEq]at he;subst he;rfl
      ·cases he
     ·cases h1
theorem Un: ∀(d:Nat) (t:TypeId) (n D:Nat) (x y:AV) (x' y':Value) (b:Bool),d≤D→eqv n (Av E d t) x y=some b→VR φ x x'→VR φ y y'→ (Op.equalIn D t x' y').run P w= .ok b w
 |0,t,n,D,x,y,x',y',b,_,h,_,_=>by cases n <;> simp [Av,eqv]at h
 |d+1,t,n,D,x,y,x',y',b,hd,h,hx,hy=>by
  cases n with
  |zero=>simp [eqv]at h
  |succ n=>
   obtain⟨D,rfl⟩: ∃k,D=k+1:=⟨D - 1,by omega⟩;unfold Av at h;split at h
   ·rename_i hu;simp only [eqv]at h
    cases x with
    |bool a=>cases y with
     |bool c=>
      simp only [I7,Option.some.injEq]at h;subst h;rw [hx.bool_inv,hy.bool_inv,run_equalIn_bool' w D t _ _ (H9 hE hu),X1]
      cases a <;> cases c <;> rfl
     |_=>simp [I7]at h
    |_=>simp [I7]at h
   ·rename_i k hu;simp only [eqv]at h
    cases x with
    |int k a=>cases y with
     |int j c=>
      simp only [Gf]at h;split at h;·rename_i hk;have hk:=Bi hk;subst hk;simp only [Option.some.injEq]at h;subst h;rw [hx.int_inv,hy.int_inv,run_equalIn_int w D t _ _ _ _ (H9 hE hu),Ke]
      ·cases h
     |_=>simp [Gf]at h
    |_=>simp [Gf]at h
   ·rename_i hu;simp only [eqv]at h
    cases x with
    |str a=>cases y with
     |str c=>simp only [Oh,Option.some.injEq]at h;subst h;obtain⟨a,e1,h1⟩:=hx.str_inv;obtain⟨c,e2,h2⟩:=hy.str_inv;rw [e1,e2,run_equalIn_string w D t _ _ (H9 hE hu),L4 h1 h2]
     |_=>simp [Oh]at h
    |_=>simp [Oh]at h
   ·rename_i e hu;split at h
    ·rename_i m hm;obtain⟨s1,s2⟩:=B3 hE hm w;simp only [eqv]at h
     cases x with
     |nilp=>
      rw [hx.nilp_inv]
      cases y with
      |nilp=>simp only [Iy,Option.some.injEq]at h;subst h;rw [hy.nilp_inv];simp [Op.equalIn,Ad hE hu]
      |ptr c o=>simp only [Iy,Option.some.injEq]at h;subst h;obtain⟨l,_,e⟩:=hy.ptr_inv;rw [e];simp [Op.equalIn,Ad hE hu]
      |_=>simp [Iy]at h
     |ptr c o=>
      obtain⟨l,hl,e1⟩:=hx.ptr_inv;rw [e1]
      cases y with
      |nilp=>simp only [Iy,Option.some.injEq]at h;subst h;rw [hy.nilp_inv];simp [Op.equalIn,Ad hE hu]
      |ptr c' o'=>
       simp only [Iy]at h;obtain⟨l',hl',e2⟩:=hy.ptr_inv;rw [e2];split at h
       ·rename_i hb;have hb:=Am hb;subst hb;rw [hl]at hl';cases hl';simp only [Option.some.injEq]at h;subst h;simp only [Op.equalIn,Sem.run_bind,Ad hE hu,Result.andThen_ok,s1,ne_eq,s2,not_false_eq_true,if_true,sameAddr,beq_self_eq_true];simp only [Sem.run_pure];congr 1;by_cases ho:o=o';·subst ho;simp
        ·have:Nat.beq o o'=false:=by
          cases hq:Nat.beq o o' with
          |false=>rfl
          |true=>exact absurd (Am hq) ho
         rw [this];simp [ho]
       ·cases h
      |_=>simp [Iy]at h
     |_=>simp [Iy]at h
    ·simp [eqv]at h
   ·rename_i ms hu;simp only [eqv]at h
    cases x with
    |ifc u a=>
     obtain⟨u,e1,_⟩:=hx.ifc_inv;rw [e1]
     cases y with
     |nili=>simp only [K5,Option.some.injEq]at h;subst h;rw [hy.nili_inv];simp [Op.equalIn,Ad hE hu]
     |_=>simp [K5]at h
    |nili=>
     rw [hx.nili_inv]
     cases y with
     |ifc u a=>simp only [K5,Option.some.injEq]at h;subst h;obtain⟨u,e1,_⟩:=hy.ifc_inv;rw [e1];simp [Op.equalIn,Ad hE hu]
     |_=>simp [K5]at h
    |_=>simp [K5]at h
   ·rename_i fs hu;split at h;·simp [eqv]at h
    ·rename_i hm;split at h
     ·rename_i l hl;simp only [eqv]at h
      cases x with
      |agg xs=>cases y with
       |agg ys=>simp only []at h;obtain⟨cs,e1,h1⟩:=hx.agg_inv;obtain⟨cs',e2,h2⟩:=hy.agg_inv;rw [e1,e2];have hfs:P.fieldsOf t=fs:=(by unfold Program.fieldsOf;rw [H9 hE hu]);rw [run_equalIn_struct w D t cs cs' (by rw [hfs];exact H9 hE hu) (hE.stood t ((Hq _ _).1 hm)).1,hfs];exact Ov hE (fun t x y x' y' b h hx hy=>Un d t n D x y x' y' b (by omega) h hx hy) h1 h2 fs.toList l b hl h
       |_=>simp at h
      |_=>simp at h
     ·simp [eqv]at h
   ·rename_i e hu;simp only [eqv]at h
    cases x with
    |nils=>
     rw [hx.nils_inv]
     cases y with
     |nils=>simp only [Gg,Option.some.injEq]at h;subst h;rw [hy.nils_inv];simp [Op.equalIn,Ad hE hu]
     |slc _ _ _ _=>simp only [Gg,Option.some.injEq]at h;subst h;obtain⟨l,off,c',_,e2,_,_⟩:=hy.slc_inv;rw [e2];simp [Op.equalIn,Ad hE hu]
     |_=>simp [Gg]at h
    |slc _ _ _ _=>
     obtain⟨l,off,c',_,e2,_,_⟩:=hx.slc_inv;rw [e2]
     cases y with
     |nils=>simp only [Gg,Option.some.injEq]at h;subst h;rw [hy.nils_inv];simp [Op.equalIn,Ad hE hu]
     |_=>simp [Gg]at h
    |_=>simp [Gg]at h
   ·rename_i k e hu;simp only [eqv]at h
    cases x with
    |nilm=>
     rw [hx.nilm_inv]
     cases y with
     |nilm=>simp only [Gh,Option.some.injEq]at h;subst h;rw [hy.nilm_inv];simp [Op.equalIn,Ad hE hu]
     |map _=>simp only [Gh,Option.some.injEq]at h;subst h;obtain⟨l,_,e2⟩:=hy.map_inv;rw [e2];simp [Op.equalIn,Ad hE hu]
     |_=>simp [Gh]at h
    |map _=>
     obtain⟨l,_,e2⟩:=hx.map_inv;rw [e2]
     cases y with
     |nilm=>simp only [Gh,Option.some.injEq]at h;subst h;rw [hy.nilm_inv];simp [Op.equalIn,Ad hE hu]
     |_=>simp [Gh]at h
    |_=>simp [Gh]at h
   ·rename_i ps rs vv hu;simp only [eqv]at h
    cases x with
    |nilf=>
     rw [hx.nilf_inv]
     cases y with
     |nilf=>simp only [Es,Option.some.injEq]at h;subst h;rw [hy.nilf_inv];simp [Op.equalIn,Ad hE hu]
     |fn f a c=>
      cases f with
      |func f=>simp only [Es,Option.some.injEq]at h;subst h;obtain⟨a',c',e2,_,_⟩:=hy.fnF_inv;rw [e2];simp [Op.equalIn,Ad hE hu]
      |yield l=>simp [Es]at h
     |_=>simp [Es]at h
    |fn f a c=>
     cases f with
     |func f=>
      obtain⟨a',c',e2,_,_⟩:=hx.fnF_inv;rw [e2]
      cases y with
      |nilf=>simp only [Es,Option.some.injEq]at h;subst h;rw [hy.nilf_inv];simp [Op.equalIn,Ad hE hu]
      |_=>simp [Es]at h
     |yield l=>simp [Es]at h
    |_=>simp [Es]at h
   ·simp [eqv]at h
end
section
variable {P:Program}{E:Env}{w0:Array Obj}{φ:Phi}{h h':H}{w:World}{tm:T AV}{ρ:Operand→Value}{o:Oper}{v:AV}
variable (hr:HR E w0 φ h w.heap)(hρ: RhoR φ tm ρ)
include hr hρ
omit hr hρ
theorem Jf (op:BinOp)(t:TypeId)(x y:Operand)(a b:Value)(h1:a≠ .nilIface∨b≠ .nilIface)(h2:(∀c,a≠ .agg c)∨(∀c,b≠ .agg c)): (eqGuard op t x y a b).run P w= .ok () w:=by
 unfold eqGuard
 cases op <;> first|rfl|skip
 all_goals
  simp only [Bool.not_true,Bool.false_eq_true,if_false];split;·rcases h1 with h1|h1 <;> exact absurd rfl h1
  ·rcases h2 with h2|h2 <;> exact absurd rfl (h2 _)
  ·rfl
theorem V3 (op:BinOp)(t:TypeId)(x y:Operand)(hc:(isC x || isC y)=true)(a b:Value)(ha:a= .nilIface)(hb:b= .nilIface): (eqGuard op t x y a b).run P w= .ok () w:=by
 subst ha;subst hb;unfold eqGuard
 cases op <;> first|rfl|skip
 all_goals
  simp only [Bool.not_true,Bool.false_eq_true,if_false]
  cases x <;> cases y <;> simp [isC]at hc ⊢
def Nn (v:Value):Bool:=
 match v with
 | .int _ _=>false
 | .float _ _=>false
 | .complex _ _ _=>false
 | .string _=>false
 |_=>true
theorem fj (t:TypeId)(x y:Value)(hp:Nn x=true):binOp .eql t x y=(do pure (.bool (←Op.equal t x y)):Sem Value):=by
 cases x <;> first|rfl|(simp [Nn]at hp)
theorem fo (t:TypeId)(x y:Value)(hp:Nn x=true):binOp .neq t x y=(do pure (.bool (!(←Op.equal t x y))):Sem Value):=by
 cases x <;> first|rfl|(simp [Nn]at hp)
def kn (v:AV):Bool:=
 match v with
 | .opq _=>false
 | .unk=>false
 |_=>true
theorem Ahm {f:AV→AV→Option Bool}(h1: ∀v y,f (.opq v) y=none)(h2: ∀y,f .unk y=none)(h3: ∀x v,f x (.opq v)=none)(h4: ∀x,f x .unk=none) {a b:AV} {q:Bool} (h:f a b=some q):kn a=true∧kn b=true:=by
 constructor
 ·cases a with
  |opq v=>rw [h1]at h;cases h
  |unk=>rw [h2]at h;cases h
  |_=>rfl
 ·cases b with
  |opq v=>rw [h3]at h;cases h
  |unk=>rw [h4]at h;cases h
  |_=>rfl
theorem oz {n:Nat}{sh:Sh}{a b:AV}{q:Bool}(h:eqv n sh a b=some q):kn a=true∧kn b=true:=by
 cases n with
 |zero=>simp [eqv]at h
 |succ n=>
  refine Ahm (f:=eqv (n+1) sh) ?_ ?_ ?_ ?_ h;·intro v y;cases sh <;> rfl
  ·intro y;cases sh <;> rfl
  ·intro x v
   cases sh with
   |bad=>rfl
   |nilF=>cases x with|fn f _ _=>cases f <;> rfl|_=>rfl
   |_=>cases x <;> rfl
  ·intro x
   cases sh with
   |bad=>rfl
   |nilF=>cases x with|fn f _ _=>cases f <;> rfl|_=>rfl
   |_=>cases x <;> rfl
theorem Ahn {a:AV}{v':Value}(h:VR φ a v')(hk:kn a=true):(a≠ .nili→v'≠ .nilIface)∧((∀l,a≠ .agg l)→ ∀c,v'≠ .agg c)∧ ((∀k n,a≠ .int k n)→(∀s,a≠ .str s)→Nn v'=true):=by
 cases h with
 |opq _=>simp [kn]at hk
 |unk _=>simp [kn]at hk
 |nili=>exact⟨fun e=>absurd rfl e,fun _ c e=>(by cases e),fun _ _=>rfl⟩
 |agg _=>exact⟨fun _ e=>(by cases e),fun e=>absurd rfl (e _),fun _ _=>rfl⟩
 |int _ _=>exact⟨fun _ e=>(by cases e),fun _ c e=>(by cases e),fun e=>absurd rfl (e _ _)⟩
 |str _=>exact⟨fun _ e=>(by cases e),fun _ c e=>(by cases e),fun _ e=>absurd rfl (e _)⟩
 |_=>exact⟨fun _ e=>(by cases e),fun _ c e=>(by cases e),fun _ _=>rfl⟩
theorem Yb (hE:EnvOk P E){t:TypeId}{ms:Array (String×TypeId)}(hu:und E t=some (.interface ms)):(Op.equal t .nilIface .nilIface).run P w= .ok true w:=by
 have: ∀D,(Op.equalIn (D+1) t .nilIface .nilIface).run P w= .ok true w:=fun D=>by simp [Op.equalIn,Ad hE hu]
 exact this 9999
theorem V4 {d:Nat}{t:TypeId}(h:Av E d t= .iface): ∃ms,und E t=some (.interface ms):=by
 cases d with
 |zero=>simp [Av]at h
 |succ d=>
  unfold Av at h;split at h <;> first|(cases h;done)|skip
  ·split at h <;> cases h
  ·rename_i ms hu;exact⟨ms,hu⟩
  ·split at h;·cases h
   ·split at h <;> cases h
theorem fq {d n:Nat}{t:TypeId}{xs ys:List AV}{q:Bool}(h:eqv n (Av E d t) (.agg xs) (.agg ys)=some q):t∈E.S:=by
 cases n with
 |zero=>simp [eqv]at h
 |succ n=>
  cases d with
  |zero=>simp [Av,eqv]at h
  |succ d=>
   unfold Av at h;split at h <;> first|(simp [eqv,I7,Gf,Oh,K5,Gg,Gh,Es]at h;done)|skip
   ·split at h <;> simp [eqv,Iy]at h
   ·split at h;·simp [eqv]at h
    ·rename_i hm;exact(Hq _ _).1 hm
theorem Yc {d n:Nat}{t:TypeId}{q:Bool}(h:eqv n (Av E d t) .nili .nili=some q):False:=by
 have: ∀sh:Sh,eqv n sh .nili .nili=none:=by
  intro sh
  cases n with
  |zero=>rfl
  |succ n=>cases sh <;> rfl
 rw [this]at h;cases h
theorem Sw (hE:EnvOk P E){op:BinOp}{t:TypeId}{x y:Operand}{a b:AV}{xv yv:Value}{q:Bool}(hq:Vx (Av E 5 t) (isC x || isC y) a b=some q)(hxR:VR φ a xv)(hyR:VR φ b yv): (eqGuard op t x y xv yv).run P w= .ok () w∧(Op.equal t xv yv).run P w= .ok q w∧((∀k n,a≠ .int k n)→(∀s,a≠ .str s)→Nn xv=true):=by
 unfold Vx at hq;split at hq
 ·rename_i hn;simp only [Option.some.injEq]at hq;subst hq;unfold Uf at hn;split at hn
  ·rename_i hsh;split at hn;·rename_i hc;have e1:=hxR.nili_inv;have e2:=hyR.nili_inv;obtain⟨ms,hui⟩:=V4 hsh;refine⟨V3 op t x y hc _ _ e1 e2,?_,fun _ _=>by rw [e1];rfl⟩;rw [e1,e2];exact Yb hE hui
   ·cases hn
  ·cases hn
 ·obtain⟨k1,k2⟩:=oz hq;obtain⟨p1,p2,p3⟩:=Ahn hxR k1;obtain⟨q1,q2,_⟩:=Ahn hyR k2;refine⟨?_,Un hE 5 t 20 10000 a b _ _ q (by decide) hq hxR hyR,p3⟩;by_cases hag: ∃xs ys,a= .agg xs∧b= .agg ys;·obtain⟨xs,ys,rfl,rfl⟩:=hag;obtain⟨cs,e1,_⟩:=hxR.agg_inv;obtain⟨cs',e2,_⟩:=hyR.agg_inv;rw [e1,e2];exact run_eqGuard_agg w op t x y cs cs' (hE.stood t (fq hq)).2
  ·refine Jf op t x y _ _ ?_ ?_
   ·by_cases hn:a= .nili
    ·by_cases hm:b= .nili;·subst hn;subst hm;exact absurd hq (fun h=>Yc h)
     ·exact .inr (q1 hm)
    ·exact .inl (p1 hn)
   ·by_cases hn: ∃xs,a= .agg xs;·obtain⟨xs,rfl⟩:=hn;exact .inr (q2 fun l e=>hag ⟨xs,l,rfl,e⟩)
    ·exact .inl (p2 fun l e=>hn ⟨l,e⟩)
include hr hρ
theorem yr (hE:EnvOk P E){op:BinOp}{t yt:TypeId}{x y:Operand}(ho:o.op= .binOp op t x y yt) (hx:exec (.bin op (opd x) (opd y) (isC x || isC y) (Av E 5 t)) h tm= .val v h'):Sim1 E w0 φ w h ((execOp ρ o).run P w) v h':=by
 simp only [exec]at hx;generalize hxv:ev tm (opd x)=a at hx;generalize hyv:ev tm (opd y)=b at hx;have hxR:=hρ x;have hyR:=hρ y;rw [hxv]at hxR;rw [hyv]at hyR
 cases hbv:F0 op (Av E 5 t) (isC x || isC y) a b with
 |none=>rw [hbv]at hx;simp [vo]at hx
 |some u=>
  rw [hbv]at hx;simp only [vo,R.val.injEq]at hx;obtain⟨rfl,rfl⟩:=hx;have key: ∃v',(eqGuard op t x y (ρ x) (ρ y)).run P w= .ok () w∧(binOp op t (ρ x) (ρ y)).run P w= .ok v' w∧VR φ u v':=by
   by_cases hint: ∃k n,a= .int k n
   ·obtain⟨k,n,rfl⟩:=hint
    cases b with
    |int j m=>simp only [F0]at hbv;obtain⟨v',h1,h2⟩:=Adw P w (t:=t) hbv;rw [hxR.int_inv,hyR.int_inv];exact⟨v',Jf _ _ _ _ _ _ (.inl (by simp)) (.inl (by simp)),h1,h2 φ⟩
    |_=>simp [F0]at hbv
   ·by_cases hstr: ∃s,a= .str s
    ·obtain⟨s,rfl⟩:=hstr;obtain⟨sa,e1,h1⟩:=hxR.str_inv
     cases b with
     |str s'=>
      obtain⟨sb,e2,h2⟩:=hyR.str_inv;simp only [F0]at hbv;rw [e1,e2];suffices hs: ∃v',(binOp op t (.string sa) (.string sb)).run P w= .ok v' w∧VR φ u v' by obtain⟨v',p1,p2⟩:=hs;exact⟨v',Jf _ _ _ _ _ _ (.inl (by simp)) (.inl (by simp)),p1,p2⟩
      cases op with
      |add=>
       simp only [Ss]at hbv;split at hbv
       ·rename_i hle;have hle:s.length+s'.length≤1099511627776:=Ak hle;simp only [Option.some.injEq]at hbv;subst hbv;have l1:sa.size=s.length:=(by rw [←h1,List.length_map,Array.length_toList];rfl);have l2:sb.size=s'.length:=(by rw [←h2,List.length_map,Array.length_toList];rfl);refine⟨.string (sa++sb),?_,.str ?_⟩
        ·simp only [binOp,Op.stringOp];rw [if_neg];·rfl
         ·have:IntKind.i64.max=9223372036854775807:=(by decide);rw [this,l1,l2];omega
        ·show(sa++sb).data.toList.map _=s++s';rw [←h1,←h2,←List.map_append,ByteArray.data_append,Array.toList_append]
       ·cases hbv
      |eql=>simp only [Ss,Option.some.injEq]at hbv;subst hbv;exact⟨.bool (sa.toList == sb.toList),by simp only [binOp,Op.stringOp];rfl,by rw [L4 h1 h2];exact .bool _⟩
      |neq=>simp only [Ss,Option.some.injEq]at hbv;subst hbv;exact⟨.bool (!(sa.toList == sb.toList)),by simp only [binOp,Op.stringOp];rfl,by rw [L4 h1 h2];exact .bool _⟩
      |_=>simp [Ss]at hbv
     |_=>simp [F0]at hbv
    ·have hb:St op (Av E 5 t) (isC x || isC y) a b=some u:=by
      cases a <;> first
       |exact absurd ⟨_,_,rfl⟩ hint
       |exact absurd ⟨_,rfl⟩ hstr
       |exact hbv
     have hi: ∀k n,a≠ .int k n:=fun k n e=>hint ⟨k,n,e⟩;have hs: ∀s,a≠ .str s:=fun s e=>hstr ⟨s,e⟩
     cases op with
     |eql=>
      simp only [St]at hb;split at hb;·rename_i q hq;simp only [Option.some.injEq]at hb;subst hb;obtain⟨g1,g2,g3⟩:=Sw (w:=w) (op:= .eql) hE hq hxR hyR;exact⟨.bool q,g1,by rw [fj _ _ _ (g3 hi hs),Sem.run_bind,g2];rfl,.bool _⟩
      ·cases hb
     |neq=>
      simp only [St]at hb;split at hb;·rename_i q hq;simp only [Option.some.injEq]at hb;subst hb;obtain⟨g1,g2,g3⟩:=Sw (w:=w) (op:= .neq) hE hq hxR hyR;exact⟨.bool (not q),g1,by rw [fo _ _ _ (g3 hi hs),Sem.run_bind,g2];rfl,.bool _⟩
      ·cases hb
     |_=>simp [St]at hb
  obtain⟨v',h1,h2,h3⟩:=key;refine .same hr ?_ h3;simp only [execOp,ho,Sem.run_bind,h1,h2,Result.andThen_ok,Sem.run_pure]
end
theorem zq3 {p:Prop}(h:p:=by
 have t1: ¬((cn:Int)<0):=by omega
 have t2: ¬((i.bytes:Int)*(cn:Int)>2 ^ 48):=by
  have:((cn*i.bytes:Nat):Int)≤281474976710656:=by omega
  rw [Int.natCast_mul,Int.mul_comm]at this
  omega
 have t3: ¬((ln:Int)<0):=by omega
 have t4: ¬((ln:Int)>(cn:Int)):=by omega
 simp only [execOp,ho,Instr.makeSlice,Sem.run_bind,Ad hE hu,Result.andThen_ok,el,ec,asInt,asIntOf,Sem.run_pure,Dx hE z1,hwr ln (by omega),hwr cn h3]
 have hc1:IntKind.i64.wrap (Int.ofNat cn)=(cn:Int):=hwr cn h3
 have hl1:IntKind.i64.wrap (Int.ofNat ln)=(ln:Int):=hwr ln (by omega)
 have hcond:(decide ((cn:Int)<0) || decide ((i.bytes:Int)*(cn:Int)>2 ^ 48) || decide ((ln:Int)<0) || decide ((ln:Int)>(cn:Int)))=false:=by
  simp only [decide_eq_false t1,decide_eq_false t2,decide_eq_false t3,decide_eq_false t4,Bool.or_false]
 simp only [hc1,hl1,hcond,Bool.false_eq_true,if_false,Sem.run_bind,run_askRoom,s1,Result.andThen_ok,Int.toNat_natCast]
 by_cases h0:cn*s=0
 ·have hn:cn=0:=by rcases Nat.mul_eq_zero.1 h0 with h|h;exact h;exact absurd h s2
  rw [if_pos h0]
  simp only [Sem.run_bind,Sem.run_pure,Result.andThen_ok]
  have hm:((Array.range (cn*s)).map fun i=>(#[]:Array Value)[i % (#[]:Array Value).size]!)=((Array.range (cn*s)).map fun i=>u.cells[i % u.cells.size]!):=by simp [h0]
  rw [hm]
  simp [newRow]
 ·rw [if_neg h0]
  simp only [Sem.run_bind,z2,Result.andThen_ok,Sem.run_pure]
  simp [newRow]):p:=h
theorem zq7 {p:Prop}(h:p:=by
 have h:(n:Int) % (2 ^ IntKind.i64.bits:Int)=n:=Int.emod_eq_of_lt (by omega) (by simp [IntKind.bits];omega)
 unfold IntKind.wrap
 rw [h]
 have: ¬((n:Int) ≥ 2 ^ (IntKind.i64.bits - 1)):=by simp [IntKind.bits];omega
 simp [IntKind.signed,this]):p:=h
theorem Aca {p:Prop}(h:p:=by
 unfold Cl at hs;rw [z1]at hs;simp only at hs
 split at hs
 ·simp at hs
 ·simpa using hs):p:=h
section
variable {P:Program}{E:Env}{w0:Array Obj}{φ:Phi}{h h':H}{w:World}{tm:T AV}{ρ:Operand→Value}{o:Oper}{v:AV}
variable (hr:HR E w0 φ h w.heap)(hρ: RhoR φ tm ρ)
include hr hρ
omit hr hρ in
theorem Adx (k:IntKind)(n:Int):(BitVec.ofInt k.bits (if k.signed then -1 else k.max) ^^^ BitVec.ofInt k.bits n).toNat=Nat.sub (Nat.sub (pw k) 1) (toU k n):=by
 have h:BitVec.ofInt k.bits (if k.signed then -1 else k.max)=BitVec.allOnes k.bits:=by cases k <;> decide
 rw [h,BitVec.allOnes_xor,Ab9]
theorem Ady {op:UnOp}{t:TypeId}{x:Operand}(ho:o.op= .unOp op t x)(hx:exec (.un op (opd x)) h tm= .val v h'):Sim1 E w0 φ w h ((execOp ρ o).run P w) v h':=by
 simp only [exec]at hx;split at hx
 ·rename_i k n hb;have ea:=VR.int_inv (hb ▸ hρ x);split at hx;·simp only [R.val.injEq]at hx;obtain⟨rfl,rfl⟩:=hx;refine .same (v':= .int k (k.wrap (0 - n))) hr ?_ (by rw [Gj];exact .int _ _);simp [execOp,ho,ea,Op.unary,Op.intArith]
  ·simp only [R.val.injEq]at hx;obtain⟨rfl,rfl⟩:=hx;refine .same (v':= .int k (k.wrap ((BitVec.ofInt k.bits (if k.signed then -1 else k.max) ^^^ BitVec.ofInt k.bits n).toNat))) hr ?_ (by rw [Gj,Adx];exact .int _ _);simp [execOp,ho,ea,Op.unary,Op.intBits]
  ·cases hx
 ·rename_i b hb;have ea:=VR.bool_inv (hb ▸ hρ x);split at hx;·simp only [R.val.injEq]at hx;obtain⟨rfl,rfl⟩:=hx;exact .same (v':= .bool (not b)) hr (by simp [execOp,ho,ea,Op.unary]) (.bool _)
  ·cases hx
 ·cases hx
omit hr hρ in
theorem V5: ∀{l:List AV} {vs:List Value} {s:List Nat},VRs φ l vs→I8 l=some s→vs=s.map (fun n=> .int .u8 (n:Int))∧ ∀n∈s,n≤255
 | [],vs,s,hv,hb=>by cases hv;simp only [I8,Option.some.injEq]at hb;subst hb;exact⟨rfl,by simp⟩
 |a::l,vs,s,hv,hb=>by
  cases hv with
  |cons ha hs=>
   simp only [I8]at hb;split at hb
   ·rename_i n;split at hb
    ·rename_i r hle hr;simp only [Option.some.injEq]at hb;subst hb;obtain⟨h1,h2⟩:=V5 hs hr;rw [ha.int_inv,h1];refine⟨rfl,fun m hm=>?_⟩;rcases List.mem_cons.1 hm with e|hm;·subst e;exact Ak hle
     ·exact h2 m hm
    ·cases hb
   ·cases hb
omit hr hρ in
theorem Sx: ∀(s:List Nat) (acc:ByteArray),(∀n∈s,n≤255)→ ((s.map fun(m:Nat)=>(m:Int)).foldl (fun(r:ByteArray) (n:Int)=>r.push (UInt8.ofNat n.toNat)) acc).data.toList.map (·.toNat)=acc.data.toList.map (·.toNat)++s
 | [],acc,_=>by simp
 |n::s,acc,hs=>by
  rw [List.map_cons,List.foldl_cons,Sx s _ (fun m hm=>hs m (List.mem_cons_of_mem _ hm)),Int.toNat_natCast];have:(acc.push (UInt8.ofNat n)).data.toList=acc.data.toList++ [UInt8.ofNat n]:=by show(acc.data.push _).toList=_;simp
  rw [this,List.map_append,List.append_assoc];have hn:(UInt8.ofNat n).toNat=n:=by have:=hs n (List.mem_cons_self ..);simp;omega
  simp [hn]
theorem yu (hE:EnvOk P E){s d e:TypeId}{x:Operand}(hs:und E s=some (.slice e))(hd:und E d=some .string)(he:und E e=some (.int .u8))(ho:o.op= .convert s d x) (hx:exec (.b2s (opd x)) h tm= .val v h'):Sim1 E w0 φ w h ((execOp ρ o).run P w) v h':=by
 simp only [exec]at hx;split at hx;·rename_i hb;have ea:=VR.nils_inv (hb ▸ hρ x);simp only [R.val.injEq]at hx;obtain⟨rfl,rfl⟩:=hx;refine .same (v':= .string .empty) hr ?_ (.str rfl);simp [execOp,ho,ea,convert,Ad hE hs,Ad hE hd,Ad hE he,Conv.bytesToString]
 ·rename_i b k n cap hb;obtain⟨l,off,c',hφ,ea,hle,hor⟩:=VR.slc_inv (hb ▸ hρ x);split at hx
  ·rename_i xs hc;split at hx
   ·rename_i bs hbs;simp only [R.val.injEq]at hx;obtain⟨rfl,rfl⟩:=hx;obtain⟨vs,h1,h2,h3⟩:=hr.cellsAt hφ hc off (fun hn=>by
     rcases hor with⟨_,e,ho⟩|⟨_,_,_,ho⟩;·exact ho (by omega)
     ·exact ho hn)
    obtain⟨h4,h5⟩:=V5 h2 hbs;have hload:=Ex P h3;rw [h1,h4]at hload;have hmm:(bs.map fun(n:Nat)=>Value.int .u8 (n:Int))=(bs.map fun(m:Nat)=>(m:Int)).map (Value.int .u8):=(by simp);rw [hmm]at hload;have hrun:=run_bytesToString (P:=P) w ⟨l.cb,off,none⟩ n c' (bs.map fun(m:Nat)=>(m:Int)) hload;refine .same (v':= .string ((bs.map fun(m:Nat)=>(m:Int)).foldl (fun(r:ByteArray) (n:Int)=>r.push (UInt8.ofNat n.toNat)) ByteArray.empty)) hr ?_ (.str ?_);·simp only [execOp,ho,ea,Sem.run_bind,run_convert_bytes_string w s d e _ n c' (H9 hE hs) (H9 hE he) (H9 hE hd),hrun,Result.andThen_ok,Sem.run_pure]
    ·rw [Sx bs _ h5];rfl
   ·cases hx
  ·cases hx
 ·cases hx
theorem Yd (hE:EnvOk P E){s e e':TypeId}{x:Operand}(hs:und E s=some (.slice e))(hs':und E s=some (.slice e'))(he:und E e'=some (.int .u8))(ho:o.op= .convert s s x) (hx:exec (.cslice (opd x)) h tm= .val v h'):Sim1 E w0 φ w h ((execOp ρ o).run P w) v h':=by
 simp only [exec]at hx;split at hx
 ·rename_i b k n cap hb;have hxR:=hb ▸ hρ x;obtain⟨l,off,c',hφ,ea,hle,hor⟩:=VR.slc_inv hxR;split at hx
  ·rename_i nn c hc;simp only [R.val.injEq]at hx;obtain⟨rfl,rfl⟩:=hx;obtain⟨cs,et,h1,h2,h3,h4⟩:=hr.cellsOf_blkW hφ hc;refine⟨φ,ρ x,w.freeze ⟨l.cb,cs.size,none⟩ 1,.refl _ _,.inl ?_,hxR,?_,⟨rfl,rfl,rfl⟩⟩;·have hsh:w.shape? l.cb=some (et,cs.size):=(by simp [World.shape?,h1]);simp [execOp,ho,ea,convert,Ad hE hs',Ad hE he,markStringish,hsh]
   ·have hd:=hr.del b;have hlt:=hr.cbound _ _ hφ;refine⟨hd.bound,?_,?_,hd.inj,hd.own,?_,?_⟩;·intro c k hk;simpa [World.freeze]using hd.cbound c k hk
    ·intro c k y hk hy;have hne:l.cb≠k.cb:=by
      intro e';rw [H.get_del]at hy;by_cases hcb:c=b;·rw [if_pos hcb]at hy;cases hy
      ·rw [if_neg hcb]at hy;exact hcb (hr.inj _ _ _ _ _ _ hφ hk hc hy rfl e').symm
     obtain⟨p,p1,p2⟩:=hd.blk c k y hk hy;refine⟨p,?_,p2⟩;simp only [World.freeze,Nat.one_ne_zero,if_false,Array.getElem?_modify];rw [if_neg hne];exact p1
    ·intro c hcw;have:=hr.own _ _ _ hφ hc rfl;simp only [World.freeze,Nat.one_ne_zero,if_false,Array.getElem?_modify];rw [if_neg (by omega)];exact hr.old c hcw
    ·simpa [World.freeze]using hr.size
  ·cases hx
 ·cases hx
theorem V6 (hE:EnvOk P E){t e:TypeId}{s:Nat}{z:List AV}{lo c:Operand}(hu:und E t=some (.slice e))(hs:Cl E e=some s)(hz:Fa E e=some z)(ho:o.op= .makeSlice t lo c) (hx:exec (.mkslice (Dg E e) z (opd lo) (opd c)) h tm= .val v h'):Sim1 E w0 φ w h ((execOp ρ o).run P w) v h':=by
 simp only [exec]at hx;split at hx
 ·rename_i k1 ln hl;have el:=VR.int_inv (hl ▸ hρ lo);split at hx
  ·rename_i k2 cn hc;have ec:=VR.int_inv (hc ▸ hρ c);split at hx
   ·rename_i h1 h2 h3;have h1:ln≤cn:=Ak h1;have h2:cn*Dg E e≤281474976710656:=Ak h2;have h3:cn≤281474976710656:=Ak h3;simp only [R.val.injEq]at hx;obtain⟨rfl,rfl⟩:=hx;obtain⟨u,i,z1,z2,z3,z4,z5⟩:=Do hE hz w;obtain⟨s1,s2⟩:=B3 hE hs w;have hi:i.size=s:=(by exact Aca);have hbt:Dg E e=i.bytes:=(by unfold Dg;rw [z1]);rw [hbt]at h2;obtain⟨hle,hr'⟩:=hr.newCells e (oj (z5 φ) cn (cn*s) (by rw [z3,hi]));have hwr: ∀n:Nat,n≤281474976710656→IntKind.i64.wrap (n:Int)=n:=(by intro n hn;exact zq7);refine⟨_,.slice (some ⟨w.heap.size,0,none⟩) ln cn,w.alloc (.cells ((Array.range (cn*s)).map fun i=>u.cells[i % u.cells.size]!) e),⟨hle,fun _ hb=>Phi.upd_ne _ _ hb⟩,.inl ?_,?_,hr',⟨rfl,rfl,rfl⟩⟩;·exact zq3
    ·have hb':cn<Aa:=(by unfold Aa;omega);have:=VR.slcX (b:=h.n) (o:=0) (n:=ln) (c:=cn) (off:=0) (Phi.upd_same φ h.n ⟨w.heap.size,0,((Array.range (cn*s)).map fun i=>u.cells[i % u.cells.size]!).size⟩) hb' h1 (fun _=>rfl);simpa using this
   ·cases hx
  ·cases hx
 ·cases hx
omit hr in
theorem Ht {x:Option Operand}{r:Option Nat}(h:C3 tm (x.map opd)=some r):(x=none∧r=none)∨ ∃y k n,x=some y∧r=some n∧ρ y= .int k ((n:Nat):Int):=by
 cases x with
 |none=>simp only [Option.map_none,C3,Option.some.injEq]at h;subst h;exact .inl ⟨rfl,rfl⟩
 |some x=>
  simp only [Option.map_some,C3]at h;split at h;·rename_i k n hb;simp only [Option.some.injEq]at h;subst h;have:=hρ x;rw [hb]at this;exact .inr ⟨x,k,n,rfl,rfl,this.int_inv⟩
  ·cases h
omit hr hρ in
theorem Bq {k:IntKind}{i y:Nat}{c:BoundsCode}(h:i≤y):(Instr.sliceBound (.int k (i:Int)) y c).run P w= .ok i w:=by simp [Instr.sliceBound,asIntOf,h]
omit hr in
theorem Qf {isS:Bool}{len cap cap':Nat}{lo hi mx:Option Operand}{l h m:Option Nat}{a b:Nat}{c:Option Nat} (hl:C3 tm (lo.map opd)=some l) (hh:C3 tm (hi.map opd)=some h) (hm:C3 tm (mx.map opd)=some m) (hb:Nh len cap l h m=some (a,b,c)) (hcap:(cap<Aa∧cap'=cap)∨(Aa≤cap∧len≤cap')): (Instr.sliceBounds isS len cap' (lo.map ρ) (hi.map ρ) (mx.map ρ)).run P w= .ok (a,b,c.getD cap') w∧a≤b∧b≤c.getD cap'∧(∀d,c=some d→d≤cap'∧(Aa≤cap→d≤len))∧ (c=none→Aa≤cap∧b≤len):=by
 have main: ∀top:Nat,top≤cap'→(Aa≤cap→top≤len)→ ∀e:Option Nat,e.getD cap'=cap'→(∀d,e=some d→d≤cap'∧(Aa≤cap→d≤len))→(e=none→Aa≤cap)→
   Oi len top e l h m=some (a,b,c)→
   (Instr.sliceBounds isS len cap' (lo.map ρ) (hi.map ρ) (mx.map ρ)).run P w= .ok (a,b,c.getD cap') w∧a≤b∧b≤c.getD cap'∧(∀d,c=some d→d≤cap'∧(Aa≤cap→d≤len))∧
   (c=none→Aa≤cap∧b≤len):=by
  intro top ht1 ht2 e he1 he2 he3 hb
  unfold Oi at hb
  rcases Ht (hρ:= hρ) hm with⟨rfl,rfl⟩|⟨ym,km,nm,rfl,rfl,em⟩
  ·simp only at hb
   split at hb
   ·rename_i b1 b2
    have b1:=Ak b1
    have b2:=Ak b2
    simp only [Option.some.injEq,Prod.mk.injEq]at hb
    obtain⟨rfl,rfl,rfl⟩:=hb
    have r1:h.getD len≤cap':=Nat.le_trans b1 ht1
    refine⟨?_,b2,by rw [he1];exact r1,he2,fun hn=>⟨he3 hn,Nat.le_trans b1 (ht2 (he3 hn))⟩⟩
    rw [he1]
    rcases Ht (hρ:= hρ) hh with⟨rfl,rfl⟩|⟨yh,kh,nh,rfl,rfl,eh⟩
    ·simp only [Option.getD_none]at b2
     rcases Ht (hρ:= hρ) hl with⟨rfl,rfl⟩|⟨yl,kl,nl,rfl,rfl,el⟩
     ·simp [Instr.sliceBounds]
     ·simp only [Option.getD_some]at b2
      simp [Instr.sliceBounds,el,Bq b2]
    ·simp only [Option.getD_some]at b2 r1
     rcases Ht (hρ:= hρ) hl with⟨rfl,rfl⟩|⟨yl,kl,nl,rfl,rfl,el⟩
     ·simp [Instr.sliceBounds,eh,Bq r1]
     ·simp only [Option.getD_some]at b2
      simp [Instr.sliceBounds,eh,el,Bq r1,Bq b2]
   ·cases hb
  ·simp only at hb
   rcases Ht (hρ:= hρ) hh with⟨rfl,rfl⟩|⟨yh,kh,nh,rfl,rfl,eh⟩
   ·simp at hb
   ·simp only at hb
    split at hb
    ·rename_i b1 b2 b3
     have b1:=Ak b1
     have b2:=Ak b2
     have b3:=Ak b3
     simp only [Option.some.injEq,Prod.mk.injEq]at hb
     obtain⟨rfl,rfl,rfl⟩:=hb
     have r1:nm≤cap':=Nat.le_trans b1 ht1
     refine⟨?_,b3,b2,fun d hd=>by cases hd;exact⟨r1,fun h=>Nat.le_trans b1 (ht2 h)⟩,fun hn=>by cases hn⟩
     rcases Ht (hρ:= hρ) hl with⟨rfl,rfl⟩|⟨yl,kl,nl,rfl,rfl,el⟩
     ·simp [Instr.sliceBounds,em,eh,Bq r1,Bq b2]
     ·simp only [Option.getD_some]at b3
      simp [Instr.sliceBounds,em,eh,el,Bq r1,Bq b2,Bq b3]
    ·cases hb
 unfold Nh at hb;rcases hcap with⟨h1,h2⟩|⟨h1,h2⟩
 ·have hq:Nat.ble Aa cap=false:=by rw [ble_eq];exact decide_eq_false (by omega)
  simp only [hq]at hb;exact main cap (by omega) (fun h=>by omega) (some cap) (by simp [h2]) (fun d hd=>by cases hd;exact⟨by omega,fun h=>by omega⟩) (fun hn=>by cases hn) hb
 ·have hq:Nat.ble Aa cap=true:=by rw [ble_eq];exact decide_eq_true h1
  simp only [hq]at hb;exact main len h2 (fun _=>Nat.le_refl _) none rfl (fun d hd=>by cases hd) (fun _=>h1) hb
omit hr hρ in
theorem V7 {size b k n cap cap' off:Nat}{lo hi mx:Option Nat}{loc:Loc}{a c:Nat}{m:Option Nat}{u:AV}(hφ: φ b=some loc)(hbn:Nh n cap lo hi mx=some (a,c,m)) (hv:Fl size b k n cap lo hi mx=some u) (hac:a≤c) (hcm:c≤m.getD cap') (hd: ∀d,m=some d→d≤cap'∧(Aa≤cap→d≤n)) (hnone:m=none→Aa≤cap∧c≤n) (hX:cap<Aa→cap'=cap∧(0<cap→off=loc.base+k)) (hU:Aa≤cap→ ∃es,cap=Aa+es∧off+cap'*es≤loc.csz∧(0<n→off=loc.base+k)) (hnc:n≤cap'): VR φ u (.slice (some (if m.getD cap'=a then⟨loc.cb,off,none⟩else⟨loc.cb,off+a*size,none⟩)) (c - a) (m.getD cap' - a)):=by
 unfold Fl at hv;rw [hbn]at hv
 cases m with
 |some d=>
  simp only at hv;split at hv
  ·rename_i hlt;have hlt:d+1≤Aa:=Ak hlt;simp only [Option.some.injEq]at hv;subst hv;obtain⟨h1,h2⟩:=hd d rfl;simp only [Option.getD_some]at hcm ⊢;have hlim:d - a<Aa:=(by omega);by_cases hda:d=a;·subst hda;have hb:Nat.beq d d=true:=(by simp);rw [if_pos rfl,hb];exact .slcX hφ hlim (by simp only [Nat.sub_eq];omega) (fun h=>by simp only [Nat.sub_eq]at h;omega)
   ·have hb:Nat.beq d a=false:=by
     cases hq:Nat.beq d a with
     |false=>rfl
     |true=>exact absurd (Am hq) hda
    rw [if_neg hda,hb];refine .slcX hφ hlim (by simp only [Nat.sub_eq];omega) (fun h=>?_);have hoff:off=loc.base+k:=by
     rcases Nat.lt_or_ge cap Aa with hc|hc;·have:=hX hc;exact this.2 (by omega)
     ·obtain⟨es,_,_,h3⟩:=hU hc;have:=h2 hc;exact h3 (by omega)
    rw [hoff];show _=loc.base+(k+a*size);omega
  ·cases hv
 |none=>
  obtain⟨h1,h2⟩:=hnone rfl;obtain⟨es,e1,e2,e3⟩:=hU h1;simp only at hv;split at hv
  ·rename_i hes;have hes:cap=Aa+size:=Am hes;simp only [Option.some.injEq]at hv;subst hv;have hse:es=size:=(by omega);subst hse;rw [hes];simp only [Option.getD_none]at hcm ⊢;by_cases hca:cap'=a;·rw [if_pos hca];refine .slcU (k:=es) hφ (by simp only [Nat.sub_eq];omega) ?_ (fun h=>by simp only [Nat.sub_eq]at h;omega);have:(cap' - a)*es≤cap'*es:=Nat.mul_le_mul_right _ (Nat.sub_le _ _);omega
   ·rw [if_neg hca];refine .slcU (k:=es) hφ (by simp only [Nat.sub_eq];omega) ?_ (fun h=>?_);·have:a*es+(cap' - a)*es=cap'*es:=(by rw [←Nat.add_mul];congr 1;omega);omega
    ·simp only [Nat.sub_eq]at h;rw [e3 (by omega)];show _=loc.base+(k+a*es);omega
  ·cases hv
theorem Ye (hE:EnvOk P E){t e:TypeId}{s:Nat}{x:Operand}{lo hi mx:Option Operand}(hu:und E t=some (.slice e))(hs:Cl E e=some s)(ho:o.op= .slice t x lo hi mx) (hx:exec (.sliceS s (opd x) (lo.map opd) (hi.map opd) (mx.map opd)) h tm= .val v h'):Sim1 E w0 φ w h ((execOp ρ o).run P w) v h':=by
 simp only [exec]at hx;split at hx
 ·rename_i l hh m hl hhh hm;have hat:(execOp ρ o).run P w=((Instr.slice t (ρ x) (lo.map ρ) (hi.map ρ) (mx.map ρ)).run P w).andThen fun v w=> .ok (.value v) w:=by simp only [execOp,ho,Instr.sliceAt,Sem.run_bind,Ad hE hu,Result.andThen_ok,Sem.run_pure]
  split at hx
  ·rename_i hb;have ea:=VR.nils_inv (hb ▸ hρ x);split at hx
   ·rename_i q hq;obtain⟨a,c,d⟩:=q;simp only [R.val.injEq]at hx;obtain⟨rfl,rfl⟩:=hx;obtain⟨r1,r2,r3,r4,r5⟩:=Qf (hρ:= hρ) (P:=P) (w:=w) (isS:=true) hl hhh hm hq (.inl ⟨by unfold Aa;omega,rfl⟩);have hz:d.getD 0=0:=by
     cases d with
     |none=>rfl
     |some d=>have:=(r4 d rfl).1;simp;omega
    rw [hz]at r3 r1;have ha:a=0:=(by omega);have hc:c=0:=(by omega);subst ha;subst hc;refine .same (v':= .slice none 0 0) hr ?_ .nils;rw [hat,ea];simp [Instr.slice,Ad hE hu,r1,(B3 hE hs w).1]
   ·cases hx
  ·rename_i b k n cap hb;obtain⟨loc,off,c',hφ,ea,hle,hor⟩:=VR.slc_inv (hb ▸ hρ x)
   cases hv:Fl s b k n cap l hh m with
   |none=>rw [hv]at hx;simp [vo]at hx
   |some u=>
    rw [hv]at hx;simp only [vo,R.val.injEq]at hx;obtain⟨rfl,rfl⟩:=hx;have hbn: ∃a c d,Nh n cap l hh m=some (a,c,d):=by
     unfold Fl at hv
     cases hq:Nh n cap l hh m with
     |none=>rw [hq]at hv;cases hv
     |some q=>exact⟨q.1,q.2.1,q.2.2,rfl⟩
    obtain⟨a,c,d,hbn⟩:=hbn;have hcap:(cap<Aa∧c'=cap)∨(Aa≤cap∧n≤c'):=by
     rcases hor with⟨h1,h2,_⟩|⟨es,h1,_,_⟩;·exact .inl ⟨h1,h2⟩
     ·exact .inr ⟨by omega,hle⟩
    obtain⟨r1,r2,r3,r4,r5⟩:=Qf (hρ:= hρ) (P:=P) (w:=w) (isS:=true) hl hhh hm hbn hcap;have hR:=V7 hφ hbn hv r2 r3 r4 r5 (fun h=>by
     rcases hor with⟨h1,h2,h3⟩|⟨es,h1,_,_⟩;·exact⟨h2,h3⟩
     ·omega) (fun h=>by
     rcases hor with⟨h1,h2,h3⟩|⟨es,h1,h2,h3⟩;·omega
     ·exact⟨es,h1,h2,h3⟩) hle
    refine .same hr ?_ hR;rw [hat,ea];simp [Instr.slice,Ad hE hu,r1,(B3 hE hs w).1,Cw];split <;> rfl
  ·cases hx
 ·cases hx
end
theorem Aho {p:Prop}(h:p:=by
 rename_i hb
 simp only [R.val.injEq]at hx;obtain⟨rfl,rfl⟩:=hx
 exact .same (v':=goInt 0) hr (key 0 ⟨_,_,VR.nils_inv (hb ▸ hρ x)⟩) (.int _ _)):p:=h
section
variable {P:Program}{E:Env}{w0:Array Obj}{φ:Phi}{h h':H}{w:World}{tm:T AV}{ρ:Operand→Value}{o:Oper}{v:AV}
variable (hr:HR E w0 φ h w.heap)(hρ: RhoR φ tm ρ)
include hr hρ
theorem Qg (hE:EnvOk P E){t e:TypeId}{n s:Nat}{x:Operand}{lo hi mx:Option Operand}(hu:und E t=some (.array n e)∨ ∃a,und E t=some (.pointer a)∧und E a=some (.array n e))(hs:Cl E e=some s) (ho:o.op= .slice t x lo hi mx) (hx:exec (.sliceA n s (opd x) (lo.map opd) (hi.map opd) (mx.map opd)) h tm= .val v h'):Sim1 E w0 φ w h ((execOp ρ o).run P w) v h':=by
 simp only [exec]at hx;split at hx
 ·rename_i l hh m hl hhh hm;split at hx
  ·rename_i b k hb;obtain⟨loc,hφ,ea⟩:=VR.ptr_inv (hb ▸ hρ x);split at hx;·cases hx
   ·rename_i hn;have hn:n<Aa:=Eu hn
    cases hv:Fl s b k n n l hh m with
    |none=>rw [hv]at hx;simp [vo]at hx
    |some u=>
     rw [hv]at hx;simp only [vo,R.val.injEq]at hx;obtain⟨rfl,rfl⟩:=hx;have hbn: ∃a c d,Nh n n l hh m=some (a,c,d):=by
      unfold Fl at hv
      cases hq:Nh n n l hh m with
      |none=>rw [hq]at hv;cases hv
      |some q=>exact⟨q.1,q.2.1,q.2.2,rfl⟩
     obtain⟨a,c,d,hbn⟩:=hbn;obtain⟨r1,r2,r3,r4,r5⟩:=Qf (hρ:= hρ) (P:=P) (w:=w) (isS:=false) hl hhh hm hbn (.inl ⟨hn,rfl⟩);have hR:=V7 (off:=loc.base+k) hφ hbn hv r2 r3 r4 r5 (fun _=>⟨rfl,fun _=>rfl⟩) (fun h=>by omega) (Nat.le_refl _);refine .same hr ?_ hR;rcases hu with hu|⟨at',hu,hu'⟩;·simp [execOp,ho,Instr.sliceAt,Ad hE hu,Instr.sureAddr,ea,r1,(B3 hE hs w).1,Cw]
     ·simp [execOp,ho,Instr.sliceAt,Instr.slice,Ad hE hu,Ad hE hu',asAddr,ea,r1,(B3 hE hs w).1,Cw]
  ·cases hx
 ·cases hx
omit hr hρ
theorem A9 {c:Call}{b:Builtin}(ho:o.op= .call c)(hc:c.callee= .builtin b): (execOp ρ o).run P w=(builtin b c.argTypes o.type (c.args.map fun| .const _=>true|_=>false) (c.args.map ρ)).run P w:=by simp only [execOp,ho,resolve,hc,Sem.run_bind,Sem.run_pure,Result.andThen_ok,invoke];rfl
theorem Qh {c:Call}{x y:Operand}(h:c.args.toList= [x,y]):c.args.map ρ= #[ρ x,ρ y]:=by
 have:c.args= #[x,y]:=by rw [←Array.toArray_toList (xs:=c.args),h]
 rw [this];simp
theorem Qi {c:Call}{x:Operand}(h:c.args.toList= [x]):c.args.map ρ= #[ρ x]:=by
 have:c.args= #[x]:=by rw [←Array.toArray_toList (xs:=c.args),h]
 rw [this];simp
theorem Gl {a:Array TypeId}{t:TypeId}{r:List TypeId}(h:a.toList=t::r):a[0]?=some t:=by rw [←Array.getElem?_toList,h];rfl
include hr hρ
theorem o0 (hE:EnvOk P E){c:Call}{x:Operand}{t e:TypeId}(ho:o.op= .call c)(hc:c.callee= .builtin .len)(ha:c.args.toList= [x])(ht:c.argTypes.toList= [t]) (hu:und E t=some (.slice e)) (hx:exec (.lenS (opd x)) h tm= .val v h'):Sim1 E w0 φ w h ((execOp ρ o).run P w) v h':=by
 simp only [exec]at hx;have key: ∀n:Nat,(∃a c,ρ x= .slice a n c)→(execOp ρ o).run P w= .ok (.value (goInt n)) w:=by rintro n ⟨a,k,e1⟩;rw [A9 ho hc,Qi ha,e1];simp [builtin,Builtin.len_,Gl ht,Ad hE hu]
 split at hx;·exact Aho
 ·rename_i b k n cap hb;obtain⟨l,off,c',hφ,ea,hle,hor⟩:=VR.slc_inv (hb ▸ hρ x);simp only [R.val.injEq]at hx;obtain⟨rfl,rfl⟩:=hx;exact .same (v':=goInt n) hr (key n ⟨_,_,ea⟩) (.int _ _)
 ·rename_i u hb;split at hx;·rename_i a0 n c0;have e1:ρ x= .slice a0 n c0:=VR.opq_inv (hb ▸ hρ x);simp only [R.val.injEq]at hx;obtain⟨rfl,rfl⟩:=hx;exact .same (v':=goInt n) hr (key n ⟨_,_,e1⟩) (.int _ _)
  ·cases hx
 ·cases hx
theorem o6 (hE:EnvOk P E){c:Call}{x:Operand}{t:TypeId}(ho:o.op= .call c)(hc:c.callee= .builtin .len)(ha:c.args.toList= [x])(ht:c.argTypes.toList= [t]) (hu:und E t=some .string) (hx:exec (.lenT (opd x)) h tm= .val v h'):Sim1 E w0 φ w h ((execOp ρ o).run P w) v h':=by
 simp only [exec]at hx;split at hx
 ·rename_i s hb;obtain⟨b,ea,hs⟩:=VR.str_inv (hb ▸ hρ x);simp only [R.val.injEq]at hx;obtain⟨rfl,rfl⟩:=hx;have hl:b.size=s.length:=by rw [←hs,List.length_map];rfl
  refine .same (v':=goInt s.length) hr ?_ (.int _ _);rw [A9 ho hc,Qi ha,ea];simp [builtin,Builtin.len_,Gl ht,Ad hE hu,hl]
 ·cases hx
theorem o7 (hE:EnvOk P E){c:Call}{x:Operand}{t e:TypeId}(ho:o.op= .call c)(hc:c.callee= .builtin .cap)(ha:c.args.toList= [x])(ht:c.argTypes.toList= [t]) (hu:und E t=some (.slice e)) (hx:exec (.capS (opd x)) h tm= .val v h'):Sim1 E w0 φ w h ((execOp ρ o).run P w) v h':=by
 simp only [exec]at hx;have key: ∀n:Nat,(∃a c,ρ x= .slice a c n)→(execOp ρ o).run P w= .ok (.value (goInt n)) w:=by rintro n ⟨a,k,e1⟩;rw [A9 ho hc,Qi ha,e1];simp [builtin,Builtin.cap_,Gl ht,Ad hE hu]
 split at hx;·exact Aho
 ·rename_i b k n cap hb;obtain⟨l,off,c',hφ,ea,hle,hor⟩:=VR.slc_inv (hb ▸ hρ x);split at hx;·cases hx
  ·rename_i hn;have hn:cap<Aa:=Eu hn;simp only [R.val.injEq]at hx;obtain⟨rfl,rfl⟩:=hx;have hcc:c'=cap:=by
    rcases hor with⟨_,e,_⟩|⟨k,e,_⟩;·exact e
    ·omega
   subst hcc;exact .same (v':=goInt c') hr (key _ ⟨_,_,ea⟩) (.int _ _)
 ·cases hx
omit hr hρ in
theorem ERs.length {l:List AEnt}{l':List MapEntry}(h:ERs φ l l'):l.length=l'.length:=by
 induction h with
 |nil=>rfl
 |cons _ _ ih=>simp [ih]
omit hρ in
theorem HR.map_at {r:Nat}{l:Loc}{es:List AEnt}{k:Nat}(hφ: φ r=some l)(hb:H.get h r=some (.map es k)): ∃es':Array MapEntry,w.heap[l.cb]?=some (.map es' k)∧ERs φ es es'.toList:=by
 obtain⟨o,h1,h2⟩:=hr.blk _ _ _ hφ hb
 cases h2 with
 |map h=>exact⟨_,h1,h⟩
theorem o8 (hE:EnvOk P E){c:Call}{x:Operand}{t a b:TypeId}(ho:o.op= .call c)(hc:c.callee= .builtin .len)(ha:c.args.toList= [x])(ht:c.argTypes.toList= [t]) (hu:und E t=some (.map a b)) (hx:exec (.lenM (opd x)) h tm= .val v h'):Sim1 E w0 φ w h ((execOp ρ o).run P w) v h':=by
 simp only [exec]at hx;split at hx;·rename_i hb;simp only [R.val.injEq]at hx;obtain⟨rfl,rfl⟩:=hx;refine .same (v':=goInt 0) hr ?_ (.int _ _);have ea:=VR.nilm_inv (hb ▸ hρ x);rw [A9 ho hc,Qi ha,ea];simp [builtin,Builtin.len_,Gl ht,Ad hE hu]
 ·rename_i r hb;obtain⟨l,hφ,ea⟩:=VR.map_inv (hb ▸ hρ x);split at hx
  ·rename_i es k hg;simp only [R.val.injEq]at hx;obtain⟨rfl,rfl⟩:=hx;obtain⟨es',h1,h2⟩:=hr.map_at hφ hg;refine .same (v':=goInt es'.size) hr ?_ ?_;·rw [A9 ho hc,Qi ha,ea];simp [builtin,Builtin.len_,Gl ht,Ad hE hu,getObj,Sem.run,h1]
   ·have:=h2.length;simp only [Array.length_toList]at this;rw [this];exact .int _ _
  ·cases hx
 ·cases hx
theorem V8 (hE:EnvOk P E){c:Call}{x:Operand}{t e:TypeId}{n:Nat}(ho:o.op= .call c)(hc:c.callee= .builtin .len)(ha:c.args.toList= [x])(ht:c.argTypes.toList= [t]) (hu:und E t=some (.array n e)∨ ∃a,und E t=some (.pointer a)∧und E a=some (.array n e)) (hx:exec (.lenC n) h tm= .val v h'):Sim1 E w0 φ w h ((execOp ρ o).run P w) v h':=by
 simp only [exec,R.val.injEq]at hx;obtain⟨rfl,rfl⟩:=hx;refine .same (v':=goInt n) hr ?_ (.int _ _);rw [A9 ho hc,Qi ha];rcases hu with hu|⟨a,hu,hu'⟩;·simp [builtin,Builtin.len_,Gl ht,Ad hE hu]
 ·simp [builtin,Builtin.len_,Gl ht,Ad hE hu,Ad hE hu']
omit hr hρ in
theorem Ow {mx:Bool}{x y u:AV}(h:F2 mx x y=some u): ∃k a b,x= .int k a∧y= .int k b∧u= .int k (match(match mx with|true=>iLt a b|false=>iLt b a)with|true=>b|false=>a):=by
 cases x with
 |int k a=>cases y with
  |int j b=>
   cases hk:kEq k j with
   |true=>have hk':=Bi hk;subst hk';simp only [F2,hk,Option.some.injEq]at h;exact⟨_,_,_,rfl,rfl,h.symm⟩
   |false=>simp [F2,hk]at h
  |_=>simp [F2]at h
 |_=>simp [F2]at h
theorem yx {c:Call}{x y:Operand}(ho:o.op= .call c)(hc:c.callee= .builtin .max)(ha:c.args.toList= [x,y]) (hx:exec (.maxmin true (opd x) (opd y)) h tm= .val v h'):Sim1 E w0 φ w h ((execOp ρ o).run P w) v h':=by
 simp only [exec]at hx
 cases hv:F2 true (ev tm (opd x)) (ev tm (opd y))with
 |none=>rw [hv]at hx;simp [vo]at hx
 |some u=>
  rw [hv]at hx;simp only [vo,R.val.injEq]at hx;obtain⟨rfl,rfl⟩:=hx;obtain⟨k,a,b,hb,hb',rfl⟩:=Ow hv;have e1:=VR.int_inv (hb ▸ hρ x);have e2:=VR.int_inv (hb' ▸ hρ y);refine .same (v':= .int k (if b>a then b else a)) hr ?_ ?_;·rw [A9 ho hc,Qh ha,e1,e2];simp [builtin,Builtin.max_,Builtin.max2]
  ·simp only [Hf];by_cases hh:a<b;·simp only [hh,decide_true,if_true];exact .int _ _
   ·simp only [hh,decide_false,if_false];exact .int _ _
theorem yz {c:Call}{x y:Operand}(ho:o.op= .call c)(hc:c.callee= .builtin .min)(ha:c.args.toList= [x,y]) (hx:exec (.maxmin false (opd x) (opd y)) h tm= .val v h'):Sim1 E w0 φ w h ((execOp ρ o).run P w) v h':=by
 simp only [exec]at hx
 cases hv:F2 false (ev tm (opd x)) (ev tm (opd y))with
 |none=>rw [hv]at hx;simp [vo]at hx
 |some u=>
  rw [hv]at hx;simp only [vo,R.val.injEq]at hx;obtain⟨rfl,rfl⟩:=hx;obtain⟨k,a,b,hb,hb',rfl⟩:=Ow hv;have e1:=VR.int_inv (hb ▸ hρ x);have e2:=VR.int_inv (hb' ▸ hρ y);refine .same (v':= .int k (if b<a then b else a)) hr ?_ ?_;·rw [A9 ho hc,Qh ha,e1,e2];simp [builtin,Builtin.min_,Builtin.min2]
  ·simp only [Hf];by_cases hh:b<a;·simp only [hh,decide_true,if_true];exact .int _ _
   ·simp only [hh,decide_false,if_false];exact .int _ _
end
theorem Ahp {p:Prop}(h:p:=by
 have hs:=hs a rfl
 simp only [Id,h0,if_true,if_false]at hs
 simp [Builtin.append_,Ad hE ht,Ad hE hu,Bv hE hi,Dx hE hi,asInt,asIntOf,hwr,hnn,hnb',h0,hle,hz,hs]):p:=h
theorem Ahq {p:Prop}(h:p:=by
 simp [Builtin.append_,Ad hE ht,Ad hE hu,Bv hE hi,Dx hE hi,asInt,asIntOf,hwr,hnn,hnb',h0,hle,hz,ho,h63',h48',Question.forced,newRow,grownCap,Id]):p:=h
theorem Ahr {p:Prop}(h:p:=by
 simp [Builtin.append_,Ad hE ht,Ad hE hu,Bv hE hi,Dx hE hi,hn,hle,h1,hz,ho,h63',h48',Question.forced,newRow,grownCap]):p:=h
section
variable {P:Program}{E:Env}{w0:Array Obj}{φ:Phi}{h h':H}{w:World}{tm:T AV}{ρ:Operand→Value}{o:Oper}{v:AV}
theorem HR.rename (hr:HR E w0 φ h w.heap){b off k:Nat}{c:T AV}{l:Loc}{xs:List AV}{cs':Array Value}{e:TypeId}(hφ: φ b=some l)(hb:H.get h b=some (.cells false k c)) (hs:cs'.size=l.csz) (hn:off+xs.length≤cs'.size) (hv: ∀i v,xs[i]?=some v→ ∃v',cs'[off+i]?=some v'∧VR φ v v'): Phi.le φ (φ.upd h.n ⟨l.cb,off,l.csz⟩)∧HR E w0 (φ.upd h.n ⟨l.cb,off,l.csz⟩) (Ev.newCells (H.del h b) xs) (w.heap.setIfInBounds l.cb (.cells cs' e (0,0))):=by
 have hle:Phi.le φ (φ.upd h.n ⟨l.cb,off,l.csz⟩):=Phi.le_upd _ hr.fresh;have hbn:=hr.bound _ _ hφ;have hcb:=hr.cbound _ _ hφ;have hown:=hr.own _ _ _ hφ hb rfl;have ex: ∀{d:Nat} {z:Blk},d≠h.n→H.get (Ev.newCells (H.del h b) xs) d=some z→H.get h d=some z∧d≠b:=by
  intro d z hd hz;unfold Ev.newCells at hz;rw [H.get_new,if_neg (by rw [H.n_del];exact hd),H.get_del]at hz;by_cases e:d=b;·rw [if_pos e]at hz;cases hz
  ·rw [if_neg e]at hz;exact⟨hz,e⟩
 have en:H.get (Ev.newCells (H.del h b) xs) h.n=some (.cells false xs.length (ofL 0 .leaf xs)):=by unfold Ev.newCells;rw [H.get_new,if_pos (H.n_del h b).symm]
 refine⟨hle,?_,?_,?_,?_,?_,?_,?_⟩
 ·intro d k' hd;show d<h.n+1;by_cases e:d=h.n;·omega
  ·rw [Phi.upd_ne _ _ e]at hd;have:=hr.bound _ _ hd;omega
 ·intro d k' hd;by_cases e:d=h.n;·subst e;rw [Phi.upd_same]at hd;cases hd;simpa using hcb
  ·rw [Phi.upd_ne _ _ e]at hd;simpa using hr.cbound _ _ hd
 ·intro d k' z hd hz;by_cases e:d=h.n;·subst e;rw [Phi.upd_same]at hd;cases hd;rw [en]at hz;cases hz;refine⟨.cells cs' e (0,0),by simp [Array.getElem?_setIfInBounds,hcb],.cells (fun _=>rfl) hs hn fun i v hi hg=>?_⟩;rw [Kc,if_pos (by omega),Nat.sub_zero]at hg;obtain⟨v',h1,h2⟩:=hv i v hg;exact⟨v',h1,h2.mono hle⟩
  ·rw [Phi.upd_ne _ _ e]at hd;obtain⟨hz,hdb⟩:=ex e hz;obtain⟨p,h1,h2⟩:=hr.blk _ _ _ hd hz;have hne:l.cb≠k'.cb:=fun e'=>hdb (hr.inj _ _ _ _ _ _ hφ hd hb hz rfl e').symm;exact⟨p,by rw [Array.getElem?_setIfInBounds,if_neg hne];exact h1,h2.mono hle⟩
 ·intro d d' k1 k2 z z' hd hd' hz hz' hr1 he;by_cases e:d=h.n
  ·by_cases e':d'=h.n;·rw [e,e']
   ·subst e;rw [Phi.upd_same]at hd;cases hd;rw [Phi.upd_ne _ _ e']at hd';obtain⟨hz',hdb⟩:=ex e' hz';exact absurd (hr.inj _ _ _ _ _ _ hφ hd' hb hz' rfl he).symm hdb
  ·by_cases e':d'=h.n;·subst e';rw [Phi.upd_same]at hd';cases hd';rw [Phi.upd_ne _ _ e]at hd;obtain⟨hz,hdb⟩:=ex e hz;exact absurd (hr.inj _ _ _ _ _ _ hd hφ hz hb hr1 he) hdb
   ·rw [Phi.upd_ne _ _ e]at hd;rw [Phi.upd_ne _ _ e']at hd';exact hr.inj _ _ _ _ _ _ hd hd' (ex e hz).1 (ex e' hz').1 hr1 he
 ·intro d k' z hd hz hr1;by_cases e:d=h.n;·subst e;rw [Phi.upd_same]at hd;cases hd;exact hown
  ·rw [Phi.upd_ne _ _ e]at hd;exact hr.own _ _ _ hd (ex e hz).1 hr1
 ·intro c hc;rw [←hr.old c hc,Array.getElem?_setIfInBounds,if_neg];have:=hr.own _ _ _ hφ hb rfl;omega
 ·simpa using hr.size
theorem Ox {sLen n sCap bytes:Nat}(hlt:sCap<sLen+n)(hb:(sLen+n)*(bytes+1)≤1099511627776): ¬(281474976710656<Builtin.nextslicecap (sLen+n) sCap*bytes)∧ ¬(9223372036854775807<((sLen:Int)+(n:Int))):=by have hle1:sLen+n≤1099511627776:=Nat.le_trans (Nat.le_mul_of_pos_right _ (Nat.succ_pos _)) hb;have hb1:(sLen+n)*bytes≤1099511627776:=Nat.le_trans (Nat.mul_le_mul_left _ (Nat.le_succ _)) hb;have hfit:=growslice_fits (need:=sLen+n) (old:=sCap) (bytes:=bytes) hlt (by omega);exact⟨by omega,by omega⟩
section
variable {t u ty e:TypeId}{d:TypeDesc}{i:TypeInfo}{base:Option Addr}{sLen sCap n:Nat}{x:Value}{new old:Array Value}
variable (hE:EnvOk P E)(ht:und E t=some (.slice e))(hu:und E u=some d)(hd:d= .string∨ ∃e',d= .slice e')(hi:Ev.inf E e=some i)
include hE ht hu hi
include hd in
theorem o9 (hn:(Builtin.lenOf x).run P w= .ok n w)(h1:(Builtin.firstCells i.size n x).run P w= .ok new w)(hle:sLen+n≤sCap) {w':World} (hs: ∀a,base=some a→(storeCells (a.add (sLen*i.size)) new.toList).run P w= .ok () w') (hw:base=none→w'=w): (Builtin.append_ #[t,u] ty #[.slice base sLen sCap,x]).run P w= .ok (.slice base (sLen+n) sCap) w':=by
 rcases hd with rfl|⟨e',rfl⟩
 ·cases base with
  |none=>rw [hw rfl];simp [Builtin.append_,Ad hE ht,Ad hE hu,Bv hE hi,hn,hle,h1]
  |some a=>simp [Builtin.append_,Ad hE ht,Ad hE hu,Bv hE hi,hn,hle,h1,hs a rfl]
 ·cases base with
  |none=>rw [hw rfl];simp [Builtin.append_,Ad hE ht,Ad hE hu,Bv hE hi,hn,hle,h1]
  |some a=>simp [Builtin.append_,Ad hE ht,Ad hE hu,Bv hE hi,hn,hle,h1,hs a rfl]
include hd in
theorem pc {z:Value}(hz:(zeroValue e).run P w.drew= .ok z w.drew)(hn:(Builtin.lenOf x).run P w= .ok n w)(h1:(Builtin.firstCells i.size n x).run P w.drew= .ok new w.drew) (ho:(Builtin.firstCells i.size sLen (.slice base sLen sCap)).run P w.drew= .ok old w.drew) (hlt:sCap<sLen+n) (hb:(sLen+n)*(i.bytes+1)≤1099511627776): (Builtin.append_ #[t,u] ty #[.slice base sLen sCap,x]).run P w= .ok (.slice (some ⟨w.heap.size,0,none⟩) (sLen+n) (grownCap w (sLen+n) sCap e)) (w.drew.alloc (.cells (old++(new++Builtin.zeroCells z.cells (grownCap w (sLen+n) sCap e - (sLen+n)))) e)):=by
 obtain⟨h48',h63'⟩:=Ox hlt hb;have hle: ¬(sLen+n≤sCap):=by omega
 rcases hd with rfl|⟨e',rfl⟩;·exact Ahr
 ·exact Ahr
def Id (z:Value)(size n:Nat):Array Value:=if n*size=0 then #[]else Builtin.zeroCells z.cells n
theorem ft {k j:IntKind}(hd:d= .int k)(hx:x= .int j (n:Int)){z:Value}(hz: ∀w,(zeroValue e).run P w= .ok z w)(hn:n≤281474976710656)(hnb:n*i.bytes≤281474976710656)(hle:sLen+n≤sCap) {w':World} (hs: ∀a,base=some a→(storeCells (a.add (sLen*i.size)) (Id z i.size n).toList).run P w= .ok () w') (hw:base=none→w'=w): (Builtin.append_ #[t,u] ty #[.slice base sLen sCap,x]).run P w= .ok (.slice base (sLen+n) sCap) w':=by
 subst hd hx;have hwr:IntKind.i64.wrap (n:Int)=n:=by exact zq7
 have hnn: ¬((n:Int)<0):=by omega
 have hnb': ¬(281474976710656<(n:Int)*(i.bytes:Int)):=by rw [←Int.natCast_mul];omega
 by_cases h0:n*i.size=0
 ·cases base with
  |none=>rw [hw rfl];simp [Builtin.append_,Ad hE ht,Ad hE hu,Bv hE hi,Dx hE hi,asInt,asIntOf,hwr,hnn,hnb',h0,hle,hz,Id]
  |some a=>exact Ahp
 ·cases base with
  |none=>rw [hw rfl];simp [Builtin.append_,Ad hE ht,Ad hE hu,Bv hE hi,Dx hE hi,asInt,asIntOf,hwr,hnn,hnb',h0,hle,hz,Id]
  |some a=>exact Ahp
theorem fu {k j:IntKind}(hd:d= .int k)(hx:x= .int j (n:Int)){z:Value}(hz: ∀w,(zeroValue e).run P w= .ok z w)(hn:n≤281474976710656)(hnb:n*i.bytes≤281474976710656) (ho:(Builtin.firstCells i.size sLen (.slice base sLen sCap)).run P w.drew= .ok old w.drew) (hlt:sCap<sLen+n) (hb:(sLen+n)*(i.bytes+1)≤1099511627776): (Builtin.append_ #[t,u] ty #[.slice base sLen sCap,x]).run P w= .ok (.slice (some ⟨w.heap.size,0,none⟩) (sLen+n) (grownCap w (sLen+n) sCap e)) (w.drew.alloc (.cells (old++(Id z i.size n++Builtin.zeroCells z.cells (grownCap w (sLen+n) sCap e - (sLen+n)))) e)):=by
 obtain⟨h48',h63'⟩:=Ox hlt hb;have hle: ¬(sLen+n≤sCap):=by omega
 subst hd hx;have hwr:IntKind.i64.wrap (n:Int)=n:=by exact zq7
 have hnn: ¬((n:Int)<0):=by omega
 have hnb': ¬(281474976710656<(n:Int)*(i.bytes:Int)):=by rw [←Int.natCast_mul];omega
 by_cases h0:n*i.size=0;·exact Ahq
 ·exact Ahq
end
end
theorem Ahs {p:Prop}(h:p:=by
 refine⟨φ',v',w',e2,.inl ?_,e4,e5⟩
 have hty:c.argTypes= #[t,u]:=by rw [←Array.toArray_toList (xs:=c.argTypes),ht]
 rw [A9 ho hc,Qh ha,e1,hty]
 simp only [builtin,Sem.run_bind,e3,Result.andThen_ok,Sem.run_pure]):p:=h
section
variable {P:Program}{E:Env}{w0:Array Obj}{φ:Phi}{h h':H}{w:World}{tm:T AV}{ρ:Operand→Value}{o:Oper}{v:AV}
theorem HR.newPre (hr:HR E w0 φ h w.heap){xs:List AV}{cs:Array Value}(e:TypeId){vs:List Value}(hx:VRs φ xs vs)(hp: ∃r,cs.toList=vs++r): Phi.le φ (φ.upd h.n ⟨w.heap.size,0,cs.size⟩)∧HR E w0 (φ.upd h.n ⟨w.heap.size,0,cs.size⟩) (Ev.newCells h xs) (w.heap.push (.cells cs e (0,0))):=by
 have hle:=Phi.le_upd ⟨w.heap.size,0,cs.size⟩ hr.fresh;obtain⟨r,hr'⟩:=hp;have hlen:=hx.length;have hcl:cs.size=vs.length+r.length:=by rw [←Array.length_toList,hr',List.length_append]
 refine⟨hle,hr.new rfl (.cells (fun _=>rfl) rfl (by show 0+xs.length≤cs.size;omega) fun i v hi hg=>?_) rfl⟩;rw [Kc,if_pos (by omega),Nat.sub_zero]at hg;obtain⟨v',h1,h2⟩:=(hx.mono hle).get hg;refine⟨v',?_,h2⟩;show cs[0+i]?=some v';rw [Nat.zero_add,←Array.getElem?_toList,hr',List.getElem?_append_left (by omega)];exact h1
theorem Sy {P:Program}{w:World}{size n cap:Nat}{cb off:Nat}{vs:List Value}(hl:vs.length=n*size)(h: ∀(j:Nat) (v:Value),vs[j]?=some v→w.cell? ⟨cb,off+j,none⟩=some v): (Builtin.firstCells size n (.slice (some ⟨cb,off,none⟩) n cap)).run P w= .ok vs.toArray w:= run_firstCells_some w size n ⟨cb,off,none⟩ n cap vs hl fun j v hj=>by rw [Cw];exact h j v hj
structure AppR (P:Program)(w:World)(size bytes n:Nat)(elem:TypeId)(zs:Nat→Array Value)(new':Array Value)(R:Option Addr→Nat→Nat→Result Value):Prop where
 room: ∀base sLen sCap w',sLen+n≤sCap→(∀a,base=some a→(storeCells (a.add (sLen*size)) new'.toList).run P w= .ok () w')→(base=none→w'=w)→
  R base sLen sCap= .ok (.slice base (sLen+n) sCap) w'
 grow: ∀base sLen sCap old,(Builtin.firstCells size sLen (.slice base sLen sCap)).run P w.drew= .ok old w.drew→sCap<sLen+n→(sLen+n)*(bytes+1)≤1099511627776→
  R base sLen sCap= .ok (.slice (some ⟨w.heap.size,0,none⟩) (sLen+n) (grownCap w (sLen+n) sCap elem))
   (w.drew.alloc (.cells (old++(new'++zs (grownCap w (sLen+n) sCap elem - (sLen+n)))) elem))
 zsz: ∀k,(zs k).size=k*size
theorem Oy (hr:HR E w0 φ h w.heap){size bytes n:Nat}{elem:TypeId}{zs:Nat→Array Value}{new:List AV}{new':Array Value}{R:Option Addr→Nat→Nat→Result Value}{s:AV}{s':Value} (hR:AppR P w size bytes n elem zs new' R) (hn:VRs φ new new'.toList) (hnl:new.length=n*size) (hs:VR φ s s') (hx:Dn size bytes h s new n= .val v h'): ∃base sLen sCap,s'= .slice base sLen sCap∧ ∃φ' v' w',Phi.le1 h.n φ φ'∧R base sLen sCap= .ok v' w'∧VR φ' v v'∧HR E w0 φ' h' w'.heap∧Like w w':=by
 have hnl':new'.size=n*size:=by rw [←Array.length_toList,←hn.length,hnl]
 have grow: ∀(h0:H) (sLen sCap:Nat) (base:Option Addr) (old:List AV) (ovs:List Value),HR E w0 φ h0 w.heap→VRs φ old ovs→ovs.length=sLen*size→
   (Builtin.firstCells size sLen (.slice base sLen sCap)).run P w.drew= .ok ovs.toArray w.drew→sCap<sLen+n→(sLen+n)*(bytes+1)≤1099511627776→
   ∃φ' v' w',Phi.le1 h0.n φ φ'∧R base sLen sCap= .ok v' w'∧VR φ' (.slc h0.n 0 (sLen+n) (Aa+size)) v'∧HR E w0 φ' (Ev.newCells h0 (List.append old new)) w'.heap∧Like w w':=by
  intro h0 sLen sCap base old ovs hr0 ho hol hf hlt hb
  have hg:=hR.grow base sLen sCap _ hf hlt hb
  have hge:=grownCap_ge w (sLen+n) sCap elem
  generalize grownCap w (sLen+n) sCap elem=newCap at hg hge
  obtain⟨hle,hr'⟩:=hr0.newPre (cs:=ovs.toArray++(new'++zs (newCap - (sLen+n)))) elem (ho.append hn) ⟨(zs (newCap - (sLen+n))).toList,by simp⟩
  refine⟨_,_,_,⟨hle,fun _ hb=>Phi.upd_ne _ _ hb⟩,hg,?_,hr',⟨rfl,rfl,rfl⟩⟩
  have hsz:(ovs.toArray++(new'++zs (newCap - (sLen+n)))).size=newCap*size:=by
   simp only [Array.size_append,List.size_toArray,hol,hnl',hR.zsz]
   rw [←Nat.add_mul,←Nat.add_mul];congr 1;omega
  exact .slcU (Phi.upd_same _ _ _) hge (by show 0+newCap*size≤(ovs.toArray++(new'++zs (newCap - (sLen+n)))).size;rw [hsz];omega) (fun _=>rfl)
 unfold Dn at hx
 cases n with
 |zero=>
  have hnil:new'= #[]:=Array.eq_empty_of_size_eq_zero (by simpa using hnl');subst hnil;simp only at hx;split at hx;·simp only [Ev.R.val.injEq]at hx;obtain⟨rfl,rfl⟩:=hx;exact⟨none,0,0,hs.nils_inv,φ,_,w,.refl _ _,hR.room none 0 0 w (Nat.le_refl _) (by simp) (fun _=>rfl),.nils,hr,.refl _⟩
  ·simp only [Ev.R.val.injEq]at hx;obtain⟨rfl,rfl⟩:=hx;obtain⟨l,off,c',hφ,ea,hle,hor⟩:=hs.slc_inv;refine⟨_,_,_,ea,φ,_,w,.refl _ _,hR.room _ _ _ w (by omega) (by intro a _;rfl) (by simp),?_,hr,.refl _⟩;rw [ea]at hs;exact hs
  ·cases hx
 |succ n=>
  simp only at hx;split at hx
  ·split at hx;·rename_i hb;have hb:(n+1)*(bytes+1)≤1099511627776:=Ak hb;simp only [Ev.R.val.injEq]at hx;obtain⟨rfl,rfl⟩:=hx;have:=grow h 0 0 none [] [] hr .nil (by simp) (by simp [Builtin.firstCells]) (by omega) (by simpa using hb);simp only [Nat.zero_add]at this;exact⟨none,0,0,hs.nils_inv,this⟩
   ·cases hx
  ·rename_i b k sl cap;obtain⟨l,off,c',hφ,ea,hle,hor⟩:=hs.slc_inv;refine⟨_,_,_,ea,?_⟩;split at hx;·cases hx
   ·rename_i hb;have hb:(sl+(n+1))*(bytes+1)≤1099511627776:=Ak hb;split at hx
    ·rename_i hcu;have hcu:Aa≤cap:=Ak hcu;split at hx
     ·rename_i old k' c hce hold hblk hpl;have hce:cap=Aa+size:=Am hce;subst hce;simp only [Ev.R.val.injEq]at hx;obtain⟨rfl,rfl⟩:=hx;rcases hor with⟨hc,_⟩|⟨k2,hk2,hfit,hoff⟩;·omega
      ·have hk2:k2=size:=(by omega);subst hk2;obtain⟨vs,v1,v2,v3⟩:=hr.cellsAt hφ hold off (fun hn=>hoff (Nat.pos_of_mul_pos_right hn));have v1:vs.length=sl*k2:=v1;by_cases hroom:sl+(n+1)≤c'
       ·obtain⟨cs,e,b1,b2,b3,b4⟩:=hr.cellsOf_blkW hφ hblk;have hmul:(sl+(n+1))*k2≤c'*k2:=Nat.mul_le_mul_right _ hroom;rw [Nat.add_mul]at hmul;obtain⟨w',s1,s2,s3⟩:=Ee P new'.toList w l.cb (off+sl*k2) 0 cs e b1 (by rw [Array.length_toList,hnl'];omega) (Ia hn hpl);have hrm:=hR.room (some ⟨l.cb,off,none⟩) sl c' w' hroom (by intro a ha;cases ha;rw [Cw];exact s1) (by simp);have hlen:(List.append old new).length=sl*k2+(n+1)*k2:=(by show(old++new).length=_;rw [List.length_append,hnl,v2.length,v1]);obtain⟨hle',hr'⟩:=hr.rename (off:=off) (xs:=List.append old new) (cs':=ovl cs (off+sl*k2) new'.toList) (e:=e) hφ hblk (by rw [Hr,b2]) (by rw [Hr,hlen];omega) (by
         intro i v hi;rw [Pt _ _ _ _ (by rw [Array.length_toList,hnl'];omega)];have hi:(old++new)[i]?=some v:=hi;by_cases hlt:i<old.length;·rw [List.getElem?_append_left hlt]at hi;obtain⟨v',g1,g2⟩:=v2.get hi;have hv3:=v3 i v' g1;rw [Kd b1]at hv3;have:=v2.length;exact⟨v',by rw [if_neg (by omega)];exact hv3,g2⟩
         ·rw [List.getElem?_append_right (by omega)]at hi;obtain⟨v',g1,g2⟩:=hn.get hi;have:=v2.length;have hin:i - old.length<new.length:=(List.getElem?_eq_some_iff.1 hi).1;refine⟨v',?_,g2⟩;rw [if_pos (by rw [Array.length_toList,hnl'];omega),←g1];congr 1;omega)
        refine⟨_,_,w',⟨hle',fun _ hb=>Phi.upd_ne _ _ hb⟩,hrm,?_,?_,s3⟩;·exact .slcU (l:=⟨l.cb,off,l.csz⟩) (Phi.upd_same _ _ _) hroom hfit (fun _=>rfl)
        ·rw [s2,Nat.add_zero];exact hr'
       ·exact grow (H.del h b) sl c' _ old vs (hr.del b) v2 v1 (Sy v1 v3) (by omega) hb
     ·cases hx
    ·rename_i hcu;have hcu:cap<Aa:=Eu hcu;have hc':c'=cap∧(0<cap→off=l.base+k):=by
      rcases hor with⟨_,e1,e2⟩|⟨k2,e,_⟩;·exact⟨e1,e2⟩
      ·omega
     obtain⟨rfl,hoff⟩:=hc';split at hx
     ·rename_i hroom;have hroom:sl+(n+1)≤c':=Ak hroom;split at hx;·rename_i h1 hput;simp only [Ev.R.val.injEq]at hx;obtain⟨rfl,rfl⟩:=hx;obtain⟨w',s1,s2,s3⟩:=hr.putBlk P hφ hput hn (off+sl*size) (fun _=>by have:=hoff (by omega);show _=l.base+(k+sl*size);omega);have hrm:=hR.room (some ⟨l.cb,off,none⟩) sl c' w' hroom (by intro a ha;cases ha;rw [Cw];exact s1) (by simp);exact⟨φ,_,w',.refl _ _,hrm,.slcX hφ hcu hroom hoff,s2,s3⟩
      ·cases hx
     ·rename_i hroom;have hroom:c'<sl+(n+1):=Eu hroom;split at hx;·rename_i old hold;simp only [Ev.R.val.injEq]at hx;obtain⟨rfl,rfl⟩:=hx;obtain⟨vs,v1,v2,v3⟩:=hr.cellsAt hφ hold off (fun hn=>hoff (by have:=Nat.pos_of_mul_pos_right hn;omega));exact grow h sl c' _ old vs hr v2 v1 (Sy v1 v3) hroom hb
      ·cases hx
  ·cases hx
theorem Sz {x:AV}{x':Value}{n:Nat}(hx:VR φ x x')(hl:lenV x=some n):(Builtin.lenOf x').run P w= .ok n w:=by
 cases hx with
 |nils=>simp only [lenV,Option.some.injEq]at hl;subst hl;rfl
 |slcX _ _ _ _=>simp only [lenV,Option.some.injEq]at hl;subst hl;rfl
 |slcU _ _ _ _=>simp only [lenV,Option.some.injEq]at hl;subst hl;rfl
 |str hs=>simp only [lenV,Option.some.injEq]at hl;subst hl;rw [←hs,List.length_map];rfl
 |_=>simp [lenV]at hl
theorem Qj (φ: Phi): ∀(n:Nat) (s:List Nat) (l:List UInt8),l.map (·.toNat)=s→VRs φ (Gi n s) ((l.take n).map fun b=>Value.int .u8 (b.toNat:Int))
 |0,s,l,_=>by simp [Gi];exact .nil
 |n+1,s,[],h=>by simp at h;subst h;exact .nil
 |n+1,s,b::l,h=>by simp only [List.map_cons]at h;subst h;exact .cons (.int _ _) (Qj φ n _ l rfl)
theorem Oz (hr:HR E w0 φ h w.heap){size n:Nat}{x:AV}{x':Value}{l:List AV}(hx:VR φ x x')(hc:cellsOf size n h x=some l)(hn: ∀k,lenV x=some k→n≤k): ∃vs:List Value,VRs φ l vs∧ ∀w1:World,w1.heap=w.heap→(Builtin.firstCells size n x').run P w1= .ok vs.toArray w1:=by
 have hcell: ∀(w1:World),w1.heap=w.heap→ ∀a,a.spot=none→w1.cell? a=w.cell? a:=by intro w1 h1 a _;simp only [World.cell?,h1]
 cases x with
 |nils=>simp only [cellsOf,Option.some.injEq]at hc;subst hc;exact⟨[],.nil,fun w1 _=>by rw [hx.nils_inv];simp [Builtin.firstCells]⟩
 |slc b o m c=>
  obtain⟨lo,off,c',hφ,ea,hle,hor⟩:=hx.slc_inv;simp only [cellsOf]at hc;have hnm:n≤m:=hn m rfl;obtain⟨vs,v1,v2,v3⟩:=hr.cellsAt hφ hc off (fun hp=>by
   have hp:=Nat.pos_of_mul_pos_right hp;rcases hor with⟨_,e,ho⟩|⟨_,_,_,ho⟩;·exact ho (by omega)
   ·exact ho (by omega))
  have v1:vs.length=n*size:=v1;refine⟨vs,v2,fun w1 h1=>?_⟩;rw [ea];exact run_firstCells_some w1 size n ⟨lo.cb,off,none⟩ m c' vs v1 fun j v hj=>by rw [Cw,hcell w1 h1 _ rfl];exact v3 j v hj
 |str s=>
  obtain⟨b,ea,hs⟩:=hx.str_inv;simp only [cellsOf]at hc;split at hc;·simp only [Option.some.injEq]at hc;subst hc;refine⟨_,Qj φ n s _ hs,fun w1 _=>?_⟩;rw [ea];simp only [Builtin.firstCells,Sem.run_pure,Result.ok.injEq,and_true];apply Array.ext';simp [List.map_take]
  ·cases hc
 |_=>simp [cellsOf]at hc
theorem Qk {b o n:Nat}{l:List AV}(hc:cellsAt h b o n=some l):l.length=n:=by
 unfold cellsAt at hc
 cases n with
 |zero=>simp only [Option.some.injEq]at hc;subst hc;rfl
 |succ n=>
  simp only at hc;split at hc
  ·split at hc;·exact(Nl hc).1
   ·cases hc
  ·cases hc
theorem I0: ∀(n:Nat) (s:List Nat),n≤s.length→(Gi n s).length=n
 |0,s,_=>by simp [Gi]
 |n+1,[],h=>by simp at h
 |n+1,b::s,h=>by simp only [List.length_cons]at h;simp [Gi,I0 n s (by omega)]
theorem Jg {size n k:Nat}{x:AV}{l:List AV}(hl:lenV x=some k)(hn:n≤k)(hc:cellsOf size n h x=some l):l.length=n*size:=by
 cases x with
 |nils=>
      simp only [lenV,cellsOf,Option.some.injEq]at hl hc;subst hl hc;have:n=0:=by omega
      subst this;simp
 |slc b o m c=>simp only [cellsOf]at hc;exact Qk hc
 |str s=>
  simp only [lenV,cellsOf,Option.some.injEq]at hl hc;subst hl;split at hc;·rename_i h1;have h1:=Am h1;simp only [Option.some.injEq]at hc;subst hc;rw [h1,I0 n s hn,Nat.mul_one]
  ·cases hc
 |_=>simp [lenV]at hl
theorem Uo (z:List AV): ∀n,(rl z n).length=n*z.length
 |0=>by simp [rl]
 |n+1=>by show(z++rl z n).length=_;rw [List.length_append,Uo z n,Nat.succ_mul];omega
theorem Z9 (hE:EnvOk P E){e:TypeId}{z:List AV}(hz:Fa E e=some z): ∃v i,Ev.inf E e=some i∧(∀w1:World,(zeroValue e).run P w1= .ok v w1)∧v.cells.size=i.size∧z.length=i.size∧ ∀φ,VRs φ z v.cells.toList:=by
 obtain⟨v,i,h1,h2,h3,h4,h5⟩:=Do hE hz default;refine⟨v,i,h1,fun w1=>?_,h3,h4,h5⟩;obtain⟨v',i',h1',h2',_⟩:=Do hE hz w1;simp only [zeroValue,Sem.run_bind,Dx hE h1,Result.andThen_ok]at h2 h2' ⊢
 cases hzz:i.zero with
 |none=>rw [hzz]at h2;simp at h2
 |some z0=>rw [hzz]at h2;simp at h2 ⊢;exact h2
theorem S4 {e:TypeId}{s:Nat}{i:TypeInfo}(hs:Cl E e=some s)(hi:Ev.inf E e=some i):i.size=s∧s≠0:=by
 unfold Cl at hs;rw [hi]at hs;simp only at hs;split at hs;·simp at hs
 ·rename_i hb;simp at hs;exact⟨hs,hs ▸ D8 hb⟩
theorem Ql {e:TypeId}{i:TypeInfo}(hi:Ev.inf E e=some i):Dg E e=i.bytes:=by unfold Dg;rw [hi]
section
variable (hr:HR E w0 φ h w.heap)(hρ: RhoR φ tm ρ)
include hr hρ
theorem Qm (hE:EnvOk P E){c:Call}{s x:Operand}{t u e:TypeId}{d:TypeDesc}{n:Nat}{z:List AV}(ho:o.op= .call c)(hc:c.callee= .builtin .append)(ha:c.args.toList= [s,x])(ht:c.argTypes.toList= [t,u]) (hu:und E t=some (.slice e)) (hu':und E u=some d) (hd:d= .string∨ ∃e',d= .slice e') (hs:Cl E e=some n) (hz:Fa E e=some z) (hx:exec (.append n (Dg E e) (opd s) (opd x)) h tm= .val v h'):Sim1 E w0 φ w h ((execOp ρ o).run P w) v h':=by
 simp only [exec]at hx;obtain⟨zv,i,hi,hzr,hzs,hzl,hzR⟩:=Z9 hE hz;obtain⟨hin,hn0⟩:=S4 hs hi;subst hin;split at hx
 ·rename_i k hl;split at hx;·rename_i new hnew;have hlx:=Sz (P:=P) (w:=w) (hρ x) hl;obtain⟨vs,v1,v2⟩:=Oz (P:=P) hr (hρ x) hnew (fun k' hk'=>by rw [hl]at hk';cases hk';exact Nat.le_refl _);have hlen:new.length=k*i.size:=(by exact Jg hl (Nat.le_refl _) hnew);rw [Ql hi]at hx;have happ:AppR P w i.size i.bytes k e (Builtin.zeroCells zv.cells) vs.toArray (fun b sl sc=>(Builtin.append_ #[t,u] o.type #[.slice b sl sc,ρ x]).run P w):= ⟨fun b sl sc w' h1 h2 h3=>o9 hE hu hu' hd hi hlx (v2 w rfl) h1 h2 h3, fun b sl sc old h1 h2 h3=>pc hE hu hu' hd hi (hzr _) hlx (v2 w.drew rfl) h1 h2 h3,fun k=>by rw [size_zeroCells,hzs]⟩;obtain⟨b,sl,sc,e1,φ',v',w',e2,e3,e4,e5⟩:=Oy hr happ (by simpa using v1) hlen (hρ s) hx;exact Ahs
  ·cases hx
 ·cases hx
theorem V9 (hE:EnvOk P E){c:Call}{s x:Operand}{t u e:TypeId}{k:IntKind}{n:Nat}{z:List AV}(ho:o.op= .call c)(hc:c.callee= .builtin .append)(ha:c.args.toList= [s,x])(ht:c.argTypes.toList= [t,u]) (hu:und E t=some (.slice e)) (hu':und E u=some (.int k)) (hs:Cl E e=some n) (hz:Fa E e=some z) (hx:exec (.appendZ (Dg E e) z (opd s) (opd x)) h tm= .val v h'):Sim1 E w0 φ w h ((execOp ρ o).run P w) v h':=by
 simp only [exec]at hx;obtain⟨zv,i,hi,hzr,hzs,hzl,hzR⟩:=Z9 hE hz;obtain⟨hin,hn0⟩:=S4 hs hi;subst hin;split at hx
 ·rename_i j m hl;have ex:=VR.int_inv (hl ▸ hρ x);split at hx
  ·rename_i h1 h2;have h1:m*Dg E e≤281474976710656:=Ak h1;have h2:m≤281474976710656:=Ak h2;rw [Ql hi]at hx h1;have hnew:VRs φ (rl z m) (Id zv i.size m).toList:=by
    unfold Id;split;·rename_i h0;have:rl z m= []:=List.eq_nil_of_length_eq_zero (by rw [Uo,hzl];exact h0);rw [this];exact .nil
    ·exact oj (hzR φ) m _ rfl
   have happ:AppR P w i.size i.bytes m e (Builtin.zeroCells zv.cells) (Id zv i.size m) (fun b sl sc=>(Builtin.append_ #[t,u] o.type #[.slice b sl sc,ρ x]).run P w):= ⟨fun b sl sc w' q1 q2 q3=>ft hE hu hu' hi rfl ex hzr h2 h1 q1 q2 q3, fun b sl sc old q1 q2 q3=>fu hE hu hu' hi rfl ex hzr h2 h1 q1 q2 q3,fun k=>by rw [size_zeroCells,hzs]⟩;rw [hzl]at hx;obtain⟨b,sl,sc,e1,φ',v',w',e2,e3,e4,e5⟩:=Oy hr happ hnew (by rw [Uo,hzl]) (hρ s) hx;exact Ahs
  ·cases hx
 ·cases hx
theorem ph (hE:EnvOk P E){c:Call}{d s:Operand}{t e:TypeId}{r:List TypeId}{n:Nat}(ho:o.op= .call c)(hc:c.callee= .builtin .copy)(ha:c.args.toList= [d,s])(ht:c.argTypes.toList=t::r) (hu:und E t=some (.slice e)) (hs:Cl E e=some n) (hx:exec (.copy n (opd d) (opd s)) h tm= .val v h'):Sim1 E w0 φ w h ((execOp ρ o).run P w) v h':=by
 simp only [exec]at hx;obtain⟨hsz,hn0⟩:=B3 hE hs w;split at hx
 ·rename_i sn hl;have hlx:=Sz (P:=P) (w:=w) (hρ s) hl;split at hx
  ·rename_i hd;have ed:=VR.nils_inv (hd ▸ hρ d);simp only [Ev.R.val.injEq]at hx;obtain⟨rfl,rfl⟩:=hx;have hfc: ∃cells,(Builtin.firstCells n 0 (ρ s)).run P w= .ok cells w:=by
    have:=hρ s
    cases hev:ev tm (opd s)with
    |nils=>rw [hev]at this;rw [this.nils_inv];exact⟨_,by simp [Builtin.firstCells];rfl⟩
    |slc b o m c'=>rw [hev]at this;obtain⟨lo,off,c',hφ,ea,hle,hor⟩:=this.slc_inv;rw [ea];exact⟨_,run_firstCells_some w n 0 ⟨lo.cb,off,none⟩ m c' [] (by simp) (by simp)⟩
    |str q=>rw [hev]at this;obtain⟨b,ea,hs⟩:=this.str_inv;rw [ea];exact⟨_,by simp [Builtin.firstCells];rfl⟩
    |_=>rw [hev]at hl;simp [lenV]at hl
   obtain⟨cells,hfc⟩:=hfc;refine .same (v':=goInt 0) hr ?_ (.int _ _);rw [A9 ho hc,Qh ha,ed];simp [builtin,Builtin.copy_,Gl ht,Ad hE hu,hsz,hlx,hfc]
  ·rename_i b k dn cap hd;obtain⟨l,off,c',hφ,ed,hle,hor⟩:=VR.slc_inv (hd ▸ hρ d);split at hx
   ·rename_i xs hxs;split at hx
    ·rename_i h1 hput;simp only [Ev.R.val.injEq]at hx;obtain⟨rfl,rfl⟩:=hx;have hmin:K2 sn dn=Nat.min sn dn:=by
      unfold K2
      cases hb:Nat.ble sn dn with
      |true=>have:=Ak hb;show sn=min sn dn;omega
      |false=>have:=Eu hb;show dn=min sn dn;omega
     have hms:K2 sn dn≤sn:=(by rw [hmin];exact Nat.min_le_left _ _);have hmd:K2 sn dn≤dn:=(by rw [hmin];exact Nat.min_le_right _ _);obtain⟨vs,v1,v2⟩:=Oz (P:=P) hr (hρ s) hxs (fun k' hk'=>by rw [hl]at hk';cases hk';exact hms);have hlen:=Jg hl hms hxs;obtain⟨w',s1,s2,s3⟩:=hr.putBlk P hφ hput v1 off (fun hp=>by
      have hp:0<K2 sn dn*n:=(by rw [←hlen];exact hp);have hp:=Nat.pos_of_mul_pos_right hp;rcases hor with⟨_,e,ho⟩|⟨_,_,_,ho⟩;·exact ho (by omega)
      ·exact ho (by omega))
     refine⟨φ,goInt (K2 sn dn),w',.refl _ _,.inl ?_,.int _ _,s2,s3⟩;rw [A9 ho hc,Qh ha,ed];have v2:=v2 w rfl;rw [hmin]at v2;simp [builtin,Builtin.copy_,Gl ht,Ad hE hu,hsz,hlx,v2,s1,hmin]
    ·cases hx
   ·cases hx
  ·cases hx
 ·cases hx
end
theorem ERs.get {l:List AEnt}{l':List MapEntry}(h:ERs φ l l'){i:Nat}{e:AEnt}(hi:l[i]?=some e): ∃e',l'[i]?=some e'∧ER φ e e':=by
 induction h generalizing i with
 |nil=>simp at hi
 |cons he _ ih=>
  cases i with
  |zero=>simp at hi;subst hi;exact⟨_,rfl,he⟩
  |succ i=>simp at hi ⊢;exact ih hi
theorem ERs.append {a b:List AEnt}{a' b':List MapEntry}(h:ERs φ a a')(k:ERs φ b b'):ERs φ (a++b) (a'++b'):=by
 induction h with
 |nil=>exact k
 |cons he _ ih=>exact .cons he ih
theorem ERs.modify {l:List AEnt}{l':List MapEntry}(h:ERs φ l l'){f:AEnt→AEnt}{g:MapEntry→MapEntry}{i:Nat}(hf: ∀e e',l[i]?=some e→l'[i]?=some e'→ER φ e e'→ER φ (f e) (g e')): ERs φ (l.modify i f) (l'.modify i g):=by
 induction h generalizing i with
 |nil=>simp;exact .nil
 |cons he hs ih=>
  cases i with
  |zero=>simp only [List.modify_zero_cons];exact .cons (hf _ _ rfl rfl he) hs
  |succ i=>simp only [List.modify_succ_cons];exact .cons he (ih fun e e' h1 h2 h3=>hf e e' (by simpa using h1) (by simpa using h2) h3)
theorem ERs.erase {l:List AEnt}{l':List MapEntry}(h:ERs φ l l')(i:Nat):ERs φ (l.eraseIdx i) (l'.eraseIdx i):=by
 induction h generalizing i with
 |nil=>simp;exact .nil
 |cons he hs ih=>
  cases i with
  |zero=>simpa using hs
  |succ i=>simpa using .cons he (ih i)
theorem Qn {f:AV→AV→Option Bool}{k:AV}: ∀{es:List AEnt},Gz f k es=some none→ ∀e∈es,f k e.key=some false
 | [],_=>by simp
 |a::es,h=>by
  simp only [Gz]at h;split at h;·cases h
  ·rename_i h1;intro e he;rcases List.mem_cons.1 he with rfl|he;·exact h1
   ·exact Qn h e he
  ·cases h
theorem Qo {f:AV→AV→Option Bool}{k:AV}{e:AEnt}: ∀{es:List AEnt},Gz f k es=some (some e)→ ∃j,es[j]?=some e∧f k e.key=some true∧(∀m x,m<j→es[m]?=some x→f k x.key=some false)∧ (∀v es2,Uh f k v es=some es2→es2=es.modify j (fun e=>⟨k,v,e.born⟩)∧Fs k e.key=true)
 | [],h=>by simp [Gz]at h
 |a::es,h=>by
  simp only [Gz]at h;split at h
  ·rename_i h1;simp only [Option.some.injEq]at h;subst h;refine⟨0,rfl,h1,fun m x hm=>absurd hm (by omega),fun v es2 hu=>?_⟩;simp only [Uh,h1]at hu;split at hu;·rename_i hk;simp only [Option.some.injEq]at hu;subst hu;exact⟨by simp,hk⟩
   ·cases hu
  ·rename_i h1;obtain⟨j,g1,g2,g3,g4⟩:=Qo h;refine⟨j+1,by simpa using g1,g2,fun m x hm hx=>?_,fun v es2 hu=>?_⟩
   ·cases m with
    |zero=>simp at hx;subst hx;exact h1
    |succ m=>exact g3 m x (by omega) (by simpa using hx)
   ·simp only [Uh,h1]at hu;split at hu;·rename_i r hr;simp only [Option.some.injEq]at hu;subst hu;obtain⟨q1,q2⟩:=g4 v r hr;exact⟨by rw [q1];simp,q2⟩
    ·cases hu
  ·cases h
theorem Qp {f:AV→AV→Option Bool}{k:AV}: ∀{es es2:List AEnt},Xz f k es=some es2→ (Gz f k es=some none∧es2=es)∨(∃j e,Gz f k es=some (some e)∧es[j]?=some e∧f k e.key=some true∧(∀m x,m<j→es[m]?=some x→f k x.key=some false)∧es2=es.eraseIdx j)
 | [],es2,h=>by simp only [Xz,Option.some.injEq]at h;subst h;exact .inl ⟨rfl,rfl⟩
 |a::es,es2,h=>by
  simp only [Xz]at h;split at h;·rename_i h1;simp only [Option.some.injEq]at h;subst h;exact .inr ⟨0,a,by simp [Gz,h1],rfl,h1,fun m x hm=>absurd hm (by omega),by simp⟩
  ·rename_i h1;split at h
   ·rename_i r hr;simp only [Option.some.injEq]at h;subst h;rcases Qp hr with⟨g1,rfl⟩|⟨j,e,g1,g2,g3,g4,rfl⟩;·exact .inl ⟨by simp [Gz,h1,g1],rfl⟩
    ·refine .inr ⟨j+1,e,by simp [Gz,h1,g1],by simpa using g2,g3,fun m x hm hx=>?_,by simp⟩
     cases m with
     |zero=>simp at hx;subst hx;exact h1
     |succ m=>exact g4 m x (by omega) (by simpa using hx)
   ·cases h
  ·cases h
theorem Bb (k:IntKind):kEq k k=true:=by cases k <;> rfl
theorem S6 {a b:ByteArray}{s t:List Nat}(ha:a.data.toList.map (·.toNat)=s)(hb:b.data.toList.map (·.toNat)=t):(a == b)=Ng s t:=by rw [←L4 ha hb,ByteArray.toList_eq,ByteArray.toList_eq];obtain⟨x⟩:=a;obtain⟨y⟩:=b;have:((⟨x⟩:ByteArray) == ⟨y⟩)=(x == y):=rfl;rw [this,Bool.eq_iff_iff,beq_iff_eq,beq_iff_eq];exact⟨fun h=>by rw [h],fun h=>Array.ext' h⟩
theorem No {d:TypeDesc}{n:Nat}{sh:Sh}{a b:AV}{a' b':Value}{q q':Bool}(he:eqv n sh a b=some q)(ha:VR φ a a')(hb:VR φ b b')(hs:Instr.sameNow d a' b'=some q'):q'=q:=by
 obtain⟨k1,k2⟩:=oz he
 cases n with
 |zero=>simp [eqv]at he
 |succ n=>
  unfold Instr.sameNow at hs;split at hs
  ·rename_i k x k' y;split at hs
   ·rename_i hk;subst hk;simp only [Option.some.injEq]at hs;subst hs
    cases ha with
    |int=>cases hb with
     |int=>cases sh <;> simp [eqv,Gf,I7,Oh,Iy,K5,Gg,Gh,Es,Bb]at he;rw [←Ke];exact he
     |opq=>simp [kn]at k2
     |unk=>simp [kn]at k2
    |opq=>simp [kn]at k1
    |unk=>simp [kn]at k1
   ·cases hs
  ·rename_i x y;simp only [Option.some.injEq]at hs;subst hs
   cases ha with
   |str hx=>cases hb with
    |str hy=>cases sh <;> simp [eqv,Gf,I7,Oh,Iy,K5,Gg,Gh,Es]at he;rw [S6 hx hy];exact he
    |opq=>simp [kn]at k2
    |unk=>simp [kn]at k2
   |opq=>simp [kn]at k1
   |unk=>simp [kn]at k1
  ·rename_i x y;simp only [Option.some.injEq]at hs;subst hs
   cases ha with
   |bool=>cases hb with
    |bool=>cases sh <;> simp [eqv,Gf,I7,Oh,Iy,K5,Gg,Gh,Es]at he;subst he;cases x <;> cases y <;> rfl
    |opq=>simp [kn]at k2
    |unk=>simp [kn]at k2
   |opq=>simp [kn]at k1
   |unk=>simp [kn]at k1
  ·cases hs
theorem S7 (hE:EnvOk P E){t:TypeId}{d:TypeDesc}{k:AV}{k':Value}(hd:und E t=some d)(hk:VR φ k k'){es:List AEnt}{es':List MapEntry}(hes:ERs φ es es'): (∀(hn: ∀e∈es,eqv 20 (Av E 5 t) k e.key=some false),(Instr.findKey t k' es').run P w= .ok none w)∧ (∀j e,es[j]?=some e→eqv 20 (Av E 5 t) k e.key=some true→(∀m x,m<j→es[m]?=some x→eqv 20 (Av E 5 t) k x.key=some false)→ ∃e',es'[j]?=some e'∧(Instr.findKey t k' es').run P w= .ok (some (j,e'.val)) w):=by
 have eq: ∀{e:AEnt} {e':MapEntry} {b:Bool},ER φ e e'→eqv 20 (Av E 5 t) k e.key=some b→(Op.equal t k' e'.key).run P w= .ok b w:=by intro e e' b he hb;exact Un hE 5 t 20 10000 k e.key _ _ b (by decide) hb hk he.key
 have askN: ∀{es:List AEnt} {es':List MapEntry},ERs φ es es'→(∀e∈es,eqv 20 (Av E 5 t) k e.key=some false)→ ∀i,(Instr.findAsking t k' es' i).run P w= .ok none w:=by
  intro es es' hes;induction hes with
  |nil=>intro _ i;rfl
  |cons he _ ih=>intro hn i;simp only [Instr.findAsking,Sem.run_bind,eq he (hn _ (List.mem_cons_self ..)),Result.andThen_ok,Bool.false_eq_true,if_false];exact ih (fun e he=>hn e (List.mem_cons_of_mem _ he)) (i+1)
 have nowN: ∀{es:List AEnt} {es':List MapEntry},ERs φ es es'→(∀e∈es,eqv 20 (Av E 5 t) k e.key=some false)→ ∀i r,Instr.findNow d k' es' i=some r→r=none:=by
  intro es es' hes;induction hes with
  |nil=>intro _ i r hr;simp only [Instr.findNow,Option.some.injEq]at hr;exact hr.symm
  |cons he _ ih=>
   intro hn i r hr;simp only [Instr.findNow]at hr;split at hr;·rename_i hs;have:=No (hn _ (List.mem_cons_self ..)) hk he.key hs;cases this
   ·exact ih (fun e he=>hn e (List.mem_cons_of_mem _ he)) (i+1) r hr
   ·cases hr
 have askS: ∀{es:List AEnt} {es':List MapEntry},ERs φ es es'→ ∀j e,es[j]?=some e→eqv 20 (Av E 5 t) k e.key=some true→(∀m x,m<j→es[m]?=some x→eqv 20 (Av E 5 t) k x.key=some false)→
   ∀i,∃e',es'[j]?=some e'∧(Instr.findAsking t k' es' i).run P w= .ok (some (i+j,e'.val)) w:=by
  intro es es' hes
  induction hes with
  |nil=>intro j e hj;simp at hj
  | @cons a a' l l' he _ ih=>
   intro j e hj ht hm i
   cases j with
   |zero=>
    simp at hj;subst hj
    exact⟨a',rfl,by simp [Instr.findAsking,eq he ht]⟩
   |succ j=>
    obtain⟨e',g1,g2⟩:=ih j e (by simpa using hj) ht (fun m x hlt hx=>hm (m+1) x (by omega) (by simpa using hx)) (i+1)
    refine⟨e',by simpa using g1,?_⟩
    simp only [Instr.findAsking,Sem.run_bind,eq he (hm 0 a (by omega) rfl),Result.andThen_ok,Bool.false_eq_true,if_false]
    rw [g2];congr 3;omega
 have nowS: ∀{es:List AEnt} {es':List MapEntry},ERs φ es es'→ ∀j e,es[j]?=some e→eqv 20 (Av E 5 t) k e.key=some true→(∀m x,m<j→es[m]?=some x→eqv 20 (Av E 5 t) k x.key=some false)→
   ∀i r,Instr.findNow d k' es' i=some r→ ∃e',es'[j]?=some e'∧r=some (i+j,e'.val):=by
  intro es es' hes
  induction hes with
  |nil=>intro j e hj;simp at hj
  | @cons a a' l l' he _ ih=>
   intro j e hj ht hm i r hr
   simp only [Instr.findNow]at hr
   cases j with
   |zero=>
    simp at hj;subst hj
    split at hr
    ·simp only [Option.some.injEq]at hr;subst hr;exact⟨a',rfl,rfl⟩
    ·rename_i hs;have:=No ht hk he.key hs;cases this
    ·cases hr
   |succ j=>
    split at hr
    ·rename_i hs;have:=No (hm 0 a (by omega) rfl) hk he.key hs;cases this
    ·obtain⟨e',g1,g2⟩:=ih j e (by simpa using hj) ht (fun m x hlt hx=>hm (m+1) x (by omega) (by simpa using hx)) (i+1) r hr
     exact⟨e',by simpa using g1,by rw [g2];congr 2;omega⟩
    ·cases hr
 refine⟨fun hn=>?_,fun j e hj ht hm=>?_⟩
 ·simp only [Instr.findKey,Sem.run_bind,Ad hE hd,Result.andThen_ok];split;·rename_i r hr;rw [nowN hes hn 0 r hr];rfl
  ·exact askN hes hn 0
 ·simp only [Instr.findKey,Sem.run_bind,Ad hE hd,Result.andThen_ok];obtain⟨e',g1,g2⟩:=askS hes j e hj ht hm 0;refine⟨e',g1,?_⟩;split;·rename_i r hr;obtain⟨e2,q1,q2⟩:=nowS hes j e hj ht hm 0 r hr;rw [g1]at q1;cases q1;rw [q2,Nat.zero_add];rfl
  ·rw [g2,Nat.zero_add]
end
theorem Aht {p:Prop}(h:p:=by
 rename_i hu
 exact⟨by simp only [Instr.checkKey,Sem.run_bind,Ad hE hu,Result.andThen_ok];cases k' <;> rfl,_,hu⟩):p:=h
section
variable {P:Program}{E:Env}{w0:Array Obj}{φ:Phi}{h h':H}{w:World}{tm:T AV}{ρ:Operand→Value}{o:Oper}{v:AV}
theorem Qq {n:Nat}: ∀{l:List (Nat×Nat×Sh)},Ug n l=true→ ∀p∈l,p.1<n
 | [],_=>by simp
 |a::l,h=>by
  unfold Ug at h;split at h
  ·rename_i h1;intro p hp;rcases List.mem_cons.1 hp with rfl|hp;·exact Ak h1
   ·exact Qq h p hp
  ·cases h
theorem L5 (hE:EnvOk P E){t:TypeId}{k:IntKind}(hu:und E t=some (.int k))(b:Bool)(n:Nat)(x:Value):(Instr.checkKey b (n+1) t x).run P w= .ok () w:=by
 simp only [Instr.checkKey,Sem.run_bind,Ad hE hu,Result.andThen_ok]
 cases x <;> rfl
theorem I3 (hE:EnvOk P E){d:Nat}(b:Bool)(n:Nat){cs:Array Value}: ∀(fs:List Field) (l:List (Nat×Nat×Sh)),fs.mapM (G1 E (Av E d))=some l→fs.all (Adq E)=true→(∀p∈l,p.1<cs.size)→
  (forIn fs PUnit.unit (fun(f:Field) (_:PUnit)=>(do
   if f.name ≠ "_" then Instr.checkKey b (n + 1) f.type (← part f.type cs f.offset)
   pure (ForInStep.yield PUnit.unit):Sem (ForInStep PUnit))):Sem PUnit).run P w= .ok PUnit.unit w
 | [],l,_,_,_=>by simp
 |f::fs,l,hl,ha,ho=>by
  simp only [List.mapM_cons,Option.bind_eq_bind,Option.bind_eq_some_iff]at hl
  obtain⟨p,h1,r,h2,h3⟩:=hl
  simp only [Option.pure_def,Option.some.injEq]at h3;subst h3
  simp only [List.all_cons,Bool.and_eq_true]at ha
  have ih:=I3 hE b n fs r h2 ha.2 (fun p hp=>ho p (List.mem_cons_of_mem _ hp))
  have hi:=ha.1
  unfold Adq at hi
  split at hi
  ·cases hi
  ·rename_i hname
   split at hi
   ·rename_i k hu
    unfold G1 at h1
    rw [hname]at h1
    simp only at h1
    split at h1
    ·simp only [Option.some.injEq]at h1;subst h1
     have hlt:=ho _ (List.mem_cons_self ..)
     simp only at hlt
     have hag:Jb E f.type=some false:=by unfold Jb;rw [hu]
     have hpart:(part f.type cs f.offset).run P w= .ok cs[f.offset] w:=by
      simp [part,Ed hE hag,Array.getElem?_eq_getElem hlt]
     have hne : f.name ≠ "_" := by intro e; rw [e] at hname; simp at hname
     simp only [List.forIn_cons,Sem.run_bind,if_pos hne,hpart,Result.andThen_ok,L5 hE hu,Sem.run_pure,ih]
    ·cases h1
   ·cases hi
theorem Np (hE:EnvOk P E){t:TypeId}{sh:Sh}(hs:G3 E t=some sh):sh=Av E 5 t:=by
 unfold G3 at hs;split at hs;·simp only [Option.some.injEq]at hs;exact hs.symm
 ·simp only [Option.some.injEq]at hs;exact hs.symm
 ·simp only [Option.some.injEq]at hs;exact hs.symm
 ·split at hs;·simp only [Option.some.injEq]at hs;exact hs.symm
  ·cases hs
 ·cases hs
theorem Yf (n:Nat)(hE:EnvOk P E){t:TypeId}{sh:Sh}{k:AV}{k':Value}(hs:G3 E t=some sh)(hk:Oj sh k=true)(hv:VR φ k k')(b:Bool): (Instr.checkKey b (n+2) t k').run P w= .ok () w∧ ∃d,und E t=some d:=by
 have hsh:=Np hE hs;unfold G3 at hs;split at hs;·exact Aht
 ·rename_i j hu;exact⟨L5 hE hu b (n+1) k',_,hu⟩
 ·exact Aht
 ·rename_i fs hu;refine⟨?_,_,hu⟩;split at hs
  ·rename_i hall;unfold Av at hsh;rw [hu]at hsh;simp only at hsh;split at hsh;·subst hsh;simp [Oj]at hk
   ·rename_i hmem
    cases hm:fs.toList.mapM (G1 E (Av E 4))with
    |none=>rw [hm]at hsh;subst hsh;simp [Oj]at hk
    |some l=>
     rw [hm]at hsh;simp only at hsh;subst hsh;unfold Oj at hk;simp only at hk;split at hk;·rename_i xs;obtain⟨cs,rfl,hcs⟩:=hv.agg_inv;have hlen:=hcs.length;simp only [Array.length_toList]at hlen;have hf:=I3 (P:=P) (w:=w) hE b n (cs:=cs) fs.toList l hm hall (fun p hp=>by rw [←hlen];exact Qq hk p hp);rw [Instr.checkKey];simp only [Sem.run_bind,Ad hE hu,Result.andThen_ok];rw [←Array.forIn_toList];exact(congrArg (fun r:Result PUnit=>r.andThen fun a w'=>Sem.run P (pure ()) w') hf).trans rfl
     ·cases hk
  ·cases hs
 ·cases hs
theorem Qr (hE:EnvOk P E){t:TypeId}{sh:Sh}{k:AV}{k':Value}(hs:G3 E t=some sh)(hk:Oj sh k=true)(hv:VR φ k k')(b:Bool): (Instr.checkKey b 10000 t k').run P w= .ok () w∧ ∃d,und E t=some d:=Yf 9998 hE hs hk hv b
theorem Wa: ∀{l m:List AV} {l' m':List Value},I9 l m=true→VRs φ l l'→VRs φ m m'→l'=m'∧(∀n,(m'.zip l').all (fun x=>Instr.sameBits n x.1 x.2)=true)
 | [],[],_,_,_,h1,h2=>by cases h1;cases h2;simp
 | [],_::_,_,_,h,_,_=>by simp [I9]at h
 |_::_,[],_,_,h,_,_=>by simp [I9]at h
 |a::l,b::m,_,_,h,h1,h2=>by
  cases h1 with
  |cons ha hl=>
   cases h2 with
   |cons hb hm=>
    simp only [I9]at h;split at h
    ·rename_i hi;obtain⟨e1,e2⟩:=Wa h hl hm
     cases a with
     |int k x=>cases b with
      |int j y=>
       simp only [Gf]at hi;split at hi;·rename_i hk;have hk:=Bi hk;subst hk;simp only [Option.some.injEq]at hi;rw [Ke]at hi;have:=eq_of_beq hi;subst this;rw [ha.int_inv,hb.int_inv,e1];refine⟨rfl,fun n=>?_⟩;have:=e2 n;rw [e1]at this;simp only [List.zip_cons_cons,List.all_cons,Bool.and_eq_true];exact⟨by cases n <;> simp [Instr.sameBits],this⟩
       ·cases hi
      |_=>simp [Gf]at hi
     |_=>simp [Gf]at hi
    ·cases h
theorem y7 {k e:AV}{k' e':Value}(h:Fs k e=true)(hk:VR φ k k')(he:VR φ e e'):Instr.sameBits 10000 e' k'=true:=by
 cases k with
 |int j a=>cases e with
  |int i b=>
   simp only [Fs]at h;split at h;·rename_i hj;have:=Bi hj;subst this;rw [Ke]at h;have:=eq_of_beq h;subst this;rw [hk.int_inv,he.int_inv];simp [Instr.sameBits]
   ·cases h
  |_=>simp [Fs]at h
 |bool a=>cases e with
  |bool b=>simp only [Fs]at h;rw [hk.bool_inv,he.bool_inv];cases a <;> cases b <;> simp_all [bEq,Instr.sameBits]
  |_=>simp [Fs]at h
 |str a=>cases e with
  |str b=>simp only [Fs]at h;obtain⟨x,rfl,hx⟩:=hk.str_inv;obtain⟨y,rfl,hy⟩:=he.str_inv;have:Ng b a=true:=(by rw [Kb]at h ⊢;simp at h ⊢;exact h.symm);show(y == x)=true;rw [S6 hy hx];exact this
  |_=>simp [Fs]at h
 |agg l=>cases e with
  |agg m=>simp only [Fs]at h;obtain⟨x,rfl,hx⟩:=hk.agg_inv;obtain⟨y,rfl,hy⟩:=he.agg_inv;obtain⟨e1,e2⟩:=Wa h hx hy;have hxy:x=y:=Array.ext' e1;subst hxy;show(x.size == x.size && (x.toList.zip x.toList).all fun(a,b)=>Instr.sameBits 9999 a b)=true;rw [beq_self_eq_true,Bool.true_and];exact e2 9999
  |_=>simp [Fs]at h
 |_=>simp [Fs]at h
theorem S8 {k e:AV}{k' e':Value}(h:Fs k e=true)(hk:VR φ k k')(he:VR φ e e'):(Instr.keyThatStays e' k').run P w= .ok k' w:=by simp [Instr.keyThatStays,y7 h hk he]
end
theorem Acb {p:Prop}(h:p:=by
 rcases hq with⟨i,rfl,rfl⟩|⟨rfl,rfl,rfl⟩
 ·cases ok <;> simp
 ·cases ok <;> simp [z1]):p:=h
section
variable {P:Program}{E:Env}{w0:Array Obj}{φ:Phi}{h h':H}{w:World}{tm:T AV}{ρ:Operand→Value}{o:Oper}{v:AV}
theorem G5 (hE:EnvOk P E){t:TypeId}{sh:Sh}{k:AV}{k':Value}(hs:G3 E t=some sh)(hv:VR φ k k'){es:List AEnt}{es':Array MapEntry}(hes:ERs φ es es'.toList){r:Option AEnt}(hq:Ja sh k es=some r):
  (∀b,(Instr.checkKey b 10000 t k').run P w= .ok () w)∧
  (
     match r with
     |none=>(Instr.findKey t k' es'.toList).run P w= .ok none w
     |some e=> ∃j e',es[j]?=some e∧es'[j]?=some e'∧ER φ e e'∧(Instr.findKey t k' es'.toList).run P w= .ok (some (j,e'.val)) w∧
    ∀v es2,Uh (eqv 20 sh) k v es=some es2→es2=es.modify j (fun e=>⟨k,v,e.born⟩)∧Fs k e.key=true):=by
 unfold Ja at hq
 split at hq
 ·rename_i hk
  have hc:=fun b=>(Qr (P:=P) (w:=w) hE hs hk hv b)
  obtain⟨d,hd⟩:=(hc true).2
  refine⟨fun b=>(hc b).1,?_⟩
  have hsh:=Np hE hs
  subst hsh
  obtain⟨f1,f2⟩:=S7 (w:=w) hE hd hv hes
  cases r with
  |none=>exact f1 (Qn hq)
  |some e=>
   obtain⟨j,g1,g2,g3,g4⟩:=Qo hq
   obtain⟨e',q1,q2⟩:=f2 j e g1 g2 g3
   obtain⟨e2,q3,q4⟩:=hes.get g1
   rw [q1]at q3;cases q3
   exact⟨j,e',g1,by simpa using q1,q4,q2,g4⟩
 ·cases hq
variable (hr:HR E w0 φ h w.heap)(hρ: RhoR φ tm ρ)
include hr hρ
omit hr hρ in
theorem Ci {r:Nat}{es:Array MapEntry}{k:Nat}(hb:w.heap[r]?=some (.map es k)):(getObj r).run P w= .ok (.map es k) w:=by simp [getObj,Sem.run,hb]
def Gm (w:World)(r:Nat)(ob:Obj):World:= {w with heap:=w.heap.setIfInBounds r ob}
omit hr hρ in
theorem D5 {r:Nat}{es:Array MapEntry}{k:Nat}(ob:Obj)(hb:w.heap[r]?=some (.map es k)):(setObj r ob).run P w= .ok () (Gm w r ob):=by simp [setObj,Sem.run,hb,Gm]
theorem Yg (hE:EnvOk P E){t kt e:TypeId}{sh:Sh}{z:AV}{m k:Operand}{ok:Bool}(hu:und E t=some (.map kt e))(hs:G3 E kt=some sh)(hz:Om E e=some z)(ho:o.op= .lookup t m k ok) (hx:exec (.lookup sh z (opd m) (opd k) ok) h tm= .val v h'):Sim1 E w0 φ w h ((execOp ρ o).run P w) v h':=by
 simp only [exec]at hx;obtain⟨zv,z1,z2⟩:=Qb hE hz w;split at hx;·cases hx
 ·rename_i es hes;have key: ∃es':Array MapEntry,ERs φ es es'.toList∧((ρ m= .map none∧es'= #[])∨ ∃r c,ρ m= .map (some r)∧w.heap[r]?=some (.map es' c)):=by
   split at hes;·rename_i hb;simp only [Option.some.injEq]at hes;subst hes;exact⟨#[],.nil,.inl ⟨VR.nilm_inv (hb ▸ hρ m),rfl⟩⟩
   ·rename_i r hb;obtain⟨l,hφ,ea⟩:=VR.map_inv (hb ▸ hρ m);split at hes;·rename_i es1 c hg;simp only [Option.some.injEq]at hes;subst hes;obtain⟨es',h1,h2⟩:=HR.map_at hr hφ hg;exact⟨es',h2,.inr ⟨_,_,ea,h1⟩⟩
    ·cases hes
   ·cases hes
  obtain⟨es',h1,h2⟩:=key
  have run: ∀q u b,(∀b,(Instr.checkKey b 10000 kt (ρ k)).run P w= .ok () w)→(Instr.findKey kt (ρ k) es'.toList).run P w= .ok q w→
    ((∃i,q=some (i,u)∧b=true)∨(q=none∧u=zv∧b=false))→
    (execOp ρ o).run P w= .ok (.value (if ok=true then .tuple #[u,.bool b]else u)) w:=by
   intro q u b hc hf hq
   rcases h2 with⟨em,rfl⟩|⟨r,c,em,hb⟩
   ·simp only [execOp,ho,Instr.lookup,Sem.run_bind,Ad hE hu,Result.andThen_ok,em,Sem.run_pure,hc,hf]
    exact Acb
   ·simp only [execOp,ho,Instr.lookup,Sem.run_bind,Ad hE hu,Result.andThen_ok,em,Sem.run_pure,Ci hb,hc,hf]
    exact Acb
  split at hx
  ·rename_i e1 hq;obtain⟨hc,j,e',g1,g2,g3,g4,g5⟩:=G5 (P:=P) (w:=w) hE hs (hρ k) h1 hq;simp only [Ev.R.val.injEq]at hx;obtain⟨rfl,rfl⟩:=hx;refine .same hr (run _ e'.val true hc g4 (.inl ⟨j,rfl,rfl⟩)) ?_
   cases ok with
   |true=>exact .tup (.cons g3.val (.cons (.bool _) .nil))
   |false=>exact g3.val
  ·rename_i hq;obtain⟨hc,hf⟩:=G5 (P:=P) (w:=w) hE hs (hρ k) h1 hq;simp only [Ev.R.val.injEq]at hx;obtain⟨rfl,rfl⟩:=hx;refine .same hr (run _ zv false hc hf (.inr ⟨rfl,rfl,rfl⟩)) ?_
   cases ok with
   |true=>exact .tup (.cons (z2 φ) (.cons (.bool _) .nil))
   |false=>exact z2 φ
  ·cases hx
theorem HR.mapOver {r:Nat}{l:Loc}{es es2:List AEnt}{es' es2':Array MapEntry}{c c':Nat}(hφ: φ r=some l)(hg:H.get h r=some (.map es c))(h2:ERs φ es2 es2'.toList): HR E w0 φ (H.set h r (.map es2 c')) (w.heap.setIfInBounds l.cb (.map es2' c')):= hr.over hφ hg rfl (.map h2) rfl
theorem pi (hE:EnvOk P E){t kt e:TypeId}{sh:Sh}{m k x:Operand}(hu:und E t=some (.map kt e))(hs:G3 E kt=some sh)(ho:o.op= .mapUpdate t m k x) (hx:exec (.mupd sh (opd m) (opd k) (opd x)) h tm= .val v h'):Sim1 E w0 φ w h ((execOp ρ o).run P w) v h':=by
 simp only [exec]at hx;split at hx
 ·rename_i r hb;obtain⟨l,hφ,ea⟩:=VR.map_inv (hb ▸ hρ m);split at hx
  ·rename_i es c hg;obtain⟨es',h1,h2⟩:=HR.map_at hr hφ hg;split at hx
   ·rename_i e1 hq;obtain⟨hc,j,e',g1,g2,g3,g4,g5⟩:=G5 (P:=P) (w:=w) hE hs (hρ k) h2 hq;split at hx;·rename_i es2 hu2;simp only [Ev.R.val.injEq]at hx;obtain⟨rfl,rfl⟩:=hx;obtain⟨q1,q2⟩:=g5 _ _ hu2;have hst:=S8 (P:=P) (w:=w) q2 (hρ k) g3.key;have hnew:ERs φ es2 (es'.modify j fun e=> {e with key:=ρ k,val:=ρ x}).toList:=(by rw [q1,Array.toList_modify];exact h2.modify fun a a' _ _ h=>⟨hρ k,hρ x,h.born⟩);refine⟨φ,undef,Gm w l.cb (.map _ _),.refl _ _,.inr ⟨?_,rfl⟩,.unk _,HR.mapOver hr hρ (es':=es') hφ hg hnew,⟨rfl,rfl,rfl⟩⟩;·simp only [execOp,ho,Instr.mapUpdate,Sem.run_bind,Ad hE hu,Result.andThen_ok,ea,Ci h1,hc,g4,g2,Option.map_some,Option.getD_some,hst,D5 _ h1,Sem.run_pure]
    ·cases hx
   ·rename_i hq;obtain⟨hc,hf⟩:=G5 (P:=P) (w:=w) hE hs (hρ k) h2 hq;simp only [Ev.R.val.injEq]at hx;obtain⟨rfl,rfl⟩:=hx;have hnew:ERs φ (List.append es [⟨ev tm (opd k),ev tm (opd x),c⟩]) (es'.push {key:=ρ k,val:=ρ x,born:=c}).toList:=(by rw [Array.toList_push];exact h2.append (.cons ⟨hρ k,hρ x,rfl⟩ .nil));refine⟨φ,undef,Gm w l.cb (.map _ _),.refl _ _,.inr ⟨?_,rfl⟩,.unk _,HR.mapOver hr hρ (es':=es') hφ hg hnew,⟨rfl,rfl,rfl⟩⟩;·simp only [execOp,ho,Instr.mapUpdate,Sem.run_bind,Ad hE hu,Result.andThen_ok,ea,Ci h1,hc,hf,D5 _ h1,Sem.run_pure]
   ·cases hx
  ·cases hx
 ·cases hx
theorem pj (hE:EnvOk P E){t kt e:TypeId}{sh:Sh}{z:AV}{m k:Operand}(hu:und E t=some (.map kt e))(hs:G3 E kt=some sh)(hz:Om E e=some z)(ho:o.op= .mapEntry t m k) (hx:exec (.ment sh z (opd m) (opd k)) h tm= .val v h'):Sim1 E w0 φ w h ((execOp ρ o).run P w) v h':=by
 simp only [exec]at hx;obtain⟨zv,z1,z2⟩:=Qb hE hz w;split at hx
 ·rename_i r hb;obtain⟨l,hφ,ea⟩:=VR.map_inv (hb ▸ hρ m);split at hx
  ·rename_i es c hg;obtain⟨es',h1,h2⟩:=HR.map_at hr hφ hg;split at hx
   ·rename_i e1 hq;obtain⟨hc,j,e',g1,g2,g3,g4,g5⟩:=G5 (P:=P) (w:=w) hE hs (hρ k) h2 hq;split at hx;·rename_i es2 hu2;simp only [Ev.R.val.injEq]at hx;obtain⟨rfl,rfl⟩:=hx;obtain⟨q1,q2⟩:=g5 _ _ hu2;have hst:=S8 (P:=P) (w:=w) q2 (hρ k) g3.key;have hnew:ERs φ es2 (es'.modify j fun e=> {e with key:=ρ k}).toList:=(by rw [q1,Array.toList_modify];refine h2.modify fun a a' ha ha' h=>⟨hρ k,?_,h.born⟩;rw [g1]at ha;cases ha;exact h.val);refine⟨φ,.tuple #[e'.val,goInt e'.born],Gm w l.cb (.map _ _),.refl _ _,.inl ?_,.tup (.cons g3.val (.cons (by rw [g3.born];exact .int _ _) .nil)),HR.mapOver hr hρ (es':=es') hφ hg hnew,⟨rfl,rfl,rfl⟩⟩;·simp only [execOp,ho,Instr.mapEntry,Sem.run_bind,Ad hE hu,Result.andThen_ok,ea,Ci h1,hc,g4,g2,Option.map_some,Option.getD_some,hst,D5 _ h1,Sem.run_pure]
    ·cases hx
   ·rename_i hq;obtain⟨hc,hf⟩:=G5 (P:=P) (w:=w) hE hs (hρ k) h2 hq;simp only [Ev.R.val.injEq]at hx;obtain⟨rfl,rfl⟩:=hx;have hnew:ERs φ (List.append es [⟨ev tm (opd k),z,c⟩]) (es'.push {key:=ρ k,val:=zv,born:=c}).toList:=(by rw [Array.toList_push];exact h2.append (.cons ⟨hρ k,z2 φ,rfl⟩ .nil));refine⟨φ,.tuple #[zv,goInt c],Gm w l.cb (.map _ _),.refl _ _,.inl ?_,.tup (.cons (z2 φ) (.cons (.int _ _) .nil)),HR.mapOver hr hρ (es':=es') hφ hg hnew,⟨rfl,rfl,rfl⟩⟩;·simp only [execOp,ho,Instr.mapEntry,Sem.run_bind,Ad hE hu,Result.andThen_ok,ea,Ci h1,hc,hf,z1,D5 _ h1,Sem.run_pure]
   ·cases hx
  ·cases hx
 ·cases hx
omit hr hρ in
theorem S9 {b:Nat}{v:AV}: ∀{es es2:List AEnt},H8 b v es=some es2→ ∃j e,es[j]?=some e∧e.born=b∧(∀m x,m<j→es[m]?=some x→x.born≠b)∧es2=es.modify j (fun e=>⟨e.key,v,e.born⟩)
 | [],_,h=>by simp [H8]at h
 |a::es,es2,h=>by
  simp only [H8]at h;split at h;·rename_i h1;simp only [Option.some.injEq]at h;subst h;exact⟨0,a,rfl,Am h1,fun m x hm=>absurd hm (by omega),by simp⟩
  ·rename_i h1;split at h
   ·rename_i r hr;simp only [Option.some.injEq]at h;subst h;obtain⟨j,e,g1,g2,g3,rfl⟩:=S9 hr;refine⟨j+1,e,by simpa using g1,g2,fun m x hm hx=>?_,by simp⟩
    cases m with
    |zero=>simp at hx;subst hx;exact D8 h1
    |succ m=>exact g3 m x (by omega) (by simpa using hx)
   ·cases h
theorem Yh {t:TypeId}{m s x:Operand}(ho:o.op= .entryStore t m s x)(hx:exec (.mstore (opd m) (opd s) (opd x)) h tm= .val v h'):Sim1 E w0 φ w h ((execOp ρ o).run P w) v h':=by
 simp only [exec]at hx;split at hx
 ·rename_i r hb;obtain⟨l,hφ,ea⟩:=VR.map_inv (hb ▸ hρ m);split at hx
  ·rename_i kk sn hsn;have es1:=VR.int_inv (hsn ▸ hρ s);split at hx
   ·rename_i es c hg;obtain⟨es',h1,h2⟩:=HR.map_at hr hφ hg;split at hx;·rename_i es2 hu2;simp only [Ev.R.val.injEq]at hx;obtain⟨rfl,rfl⟩:=hx;obtain⟨j,e,g1,g2,g3,g4⟩:=S9 hu2;have hfind:es'.findIdx? (fun e=>(e.born:Int) == (sn:Int))=some j:=(by rw [Array.findIdx?_eq_some_iff_getElem];obtain⟨e',q1,q2⟩:=h2.get g1;rw [Array.getElem?_toList]at q1;obtain⟨hlt,q1⟩:=Array.getElem?_eq_some_iff.1 q1;refine⟨hlt,by rw [q1,←q2.born,g2];simp,fun m hm=>?_⟩;have hml:m<es.length:=(by have:=(List.getElem?_eq_some_iff.1 g1).1;omega);obtain⟨x',p1,p2⟩:=h2.get (List.getElem?_eq_getElem hml);rw [Array.getElem?_toList]at p1;obtain⟨hlt',p1⟩:=Array.getElem?_eq_some_iff.1 p1;have:=g3 m _ hm (List.getElem?_eq_getElem hml);rw [p1,←p2.born];simp;omega);have hnew:ERs φ es2 (es'.modify j fun e=> {e with val:=ρ x}).toList:=(by rw [g4,Array.toList_modify];exact h2.modify fun a a' _ _ h=>⟨h.key,hρ x,h.born⟩);refine⟨φ,undef,Gm w l.cb (.map _ _),.refl _ _,.inr ⟨?_,rfl⟩,.unk _,HR.mapOver hr hρ (es':=es') hφ hg hnew,⟨rfl,rfl,rfl⟩⟩;simp only [execOp,ho,Instr.entryStore,Sem.run_bind,Result.andThen_ok,ea,Ci h1,es1,asInt,asIntOf,Sem.run_pure];have hfind':es'.findIdx? (fun e=>(e.born:Int) == Int.ofNat sn)=some j:=hfind;simp only [hfind',D5 _ h1,Result.andThen_ok]
    ·cases hx
   ·cases hx
  ·cases hx
 ·cases hx
theorem Yi (hE:EnvOk P E){c:Call}{m k:Operand}{t kt e:TypeId}{r:List TypeId}{sh:Sh}(ho:o.op= .call c)(hc:c.callee= .builtin .delete)(ha:c.args.toList= [m,k])(ht:c.argTypes.toList=t::r) (hu:und E t=some (.map kt e)) (hs:G3 E kt=some sh) (hx:exec (.delete sh (opd m) (opd k)) h tm= .val v h'):Sim1 E w0 φ w h ((execOp ρ o).run P w) v h':=by
 simp only [exec]at hx;split at hx
 ·rename_i r hb;obtain⟨l,hφ,ea⟩:=VR.map_inv (hb ▸ hρ m);split at hx
  ·rename_i es cl hg;obtain⟨es',h1,h2⟩:=HR.map_at hr hφ hg;split at hx
   ·rename_i es2 hko hd;simp only [Ev.R.val.injEq]at hx;obtain⟨rfl,rfl⟩:=hx;rcases Qp hd with⟨g1,rfl⟩|⟨j,e0,g0,g1,g2,g3,rfl⟩;·have hq:Ja sh (ev tm (opd k)) es2=some none:=(by unfold Ja;rw [hko];exact g1);obtain⟨hck,hf⟩:=G5 (P:=P) (w:=w) hE hs (hρ k) h2 hq;refine⟨φ,.tuple #[],Gm w l.cb (.map _ _),.refl _ _,.inl ?_,.tup .nil,HR.mapOver hr hρ (es':=es') hφ hg h2,⟨rfl,rfl,rfl⟩⟩;rw [A9 ho hc,Qh ha,ea];simp [builtin,Builtin.delete_,Gl ht,Ad hE hu,Ci h1,hck,hf,D5 _ h1]
    ·have hq:Ja sh (ev tm (opd k)) es=some (some e0):=(by unfold Ja;rw [hko];exact g0);obtain⟨hck,j',e',q1,q2,q3,q4,q5⟩:=G5 (P:=P) (w:=w) hE hs (hρ k) h2 hq;have hsh:=Np hE hs;subst hsh;obtain⟨d,hdd⟩:=(Qr (P:=P) (w:=w) hE hs hko (hρ k) true).2;obtain⟨e2,p1,p2⟩:=(S7 (w:=w) hE hdd (hρ k) h2).2 j e0 g1 g2 g3;have hjj:j'=j:=(by rw [q4]at p2;simp only [Result.ok.injEq,Option.some.injEq,Prod.mk.injEq]at p2;exact p2.1.1);subst hjj;refine⟨φ,.tuple #[],Gm w l.cb (.map _ _),.refl _ _,.inl ?_,.tup .nil,HR.mapOver hr hρ (es':=es') (es2':=es'.eraseIdxIfInBounds j') hφ hg ?_,⟨rfl,rfl,rfl⟩⟩;·rw [A9 ho hc,Qh ha,ea];simp [builtin,Builtin.delete_,Gl ht,Ad hE hu,Ci h1,hck,q4,D5 _ h1]
     ·rw [Array.toList_eraseIdxIfInBounds];exact h2.erase j'
   ·cases hx
  ·cases hx
 ·cases hx
