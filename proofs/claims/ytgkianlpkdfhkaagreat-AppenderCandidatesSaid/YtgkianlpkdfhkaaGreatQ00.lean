/- Part of the proof. -/
import GoSem.Step
set_option linter.unusedVariables false
set_option linter.unusedSimpArgs false
set_option linter.unusedSectionVars false
namespace Go.Ev
inductive AFn where
 |func (f:Nat)
 |yield (l:Nat)
inductive AV where
 |bool (b:Bool)
 |int (k:IntKind) (n:Int)
 |str (s:List Nat)
 |nilp
 |ptr (b o:Nat)
 |nils
 |slc (b o len cap:Nat)
 |nilm
 |map (r:Nat)
 |fn (f:AFn) (args cap:List AV)
 |nilf
 |ifc (t:Nat) (v:AV)
 |nili
 |agg (l:List AV)
 |tup (l:List AV)
 |opq (v:Value)
 |unk
def Aa:Nat:=4611686018427387904
inductive T (α: Type) where
 |leaf
 |node (l:T α) (v:Option α) (r:T α)
noncomputable def T.get {α: Type}(t:T α):Nat→Option α:=
 @T.rec α (fun _=>Nat→Option α) (fun _=>none)
  (fun _ v _ gl gr n=> @Nat.rec (fun _=>Option α) v (fun m _=> @Bool.rec (fun _=>Option α) (gr (Nat.div m 2)) (gl (Nat.div m 2)) (Nat.beq (Nat.mod m 2) 0)) n) t
noncomputable def T.single {α: Type}(x:Option α)(f:Nat):Nat→T α:=
 @Nat.rec (fun _=>Nat→T α) (fun _=> .leaf)
  (fun _ ih n=> @Nat.rec (fun _=>T α) (.node .leaf x .leaf) (fun m _=> @Bool.rec (fun _=>T α) (.node .leaf none (ih (Nat.div m 2))) (.node (ih (Nat.div m 2)) none .leaf) (Nat.beq (Nat.mod m 2) 0)) n) f
noncomputable def T.set {α: Type}(t:T α)(n:Nat)(x:Option α):T α:=
 @T.rec α (fun _=>Nat→T α) (fun n=>T.single x (Nat.succ n) n)
  (fun l v r gl gr n=> @Nat.rec (fun _=>T α) (.node l x r) (fun m _=> @Bool.rec (fun _=>T α) (.node l v (gr (Nat.div m 2))) (.node (gl (Nat.div m 2)) v r) (Nat.beq (Nat.mod m 2) 0)) n) t n
structure AEnt where
 key:AV
 val:AV
 born:Nat
inductive LS where
 |ready|busy|done|exhausted
inductive O where
 |t (i:Nat)
 |c (v:AV)
inductive Sh where
 |pbool
 |pint
 |pstr
 |ptr
 |iface
 |agg (parts:List (Nat×Nat×Sh))
 |nilS
 |nilM
 |nilF
 |bad
inductive COp where
 |mv (x:O)
 |pick (c a b:O)
 |alloc (cells:List AV)
 |box (n:Nat) (x:O)
 |build (zero:List AV) (parts:List (Nat×Nat×O))
 |bslice (len:Nat) (cells:List AV) (parts:List (Nat×Nat×O))
 |load1 (a:O)
 |loadN (n:Nat) (a:O)
 |store (n:Nat) (a x:O)
 |nilc (x:O)
 |bin (op:BinOp) (x y:O) (c:Bool) (sh:Sh)
 |un (op:UnOp) (x:O)
 |conv (k:IntKind) (x:O)
 |b2s (x:O)
 |cslice (x:O)
 |mkif (t:Nat) (x:O)
 |mkfn (f:AFn) (first cap:List O)
 |mkmap
 |mkslice (bytes:Nat) (zero:List AV) (l c:O)
 |sliceS (size:Nat) (x:O) (lo hi mx:Option O)
 |sliceA (n size:Nat) (x:O) (lo hi mx:Option O)
 |faddr (x:O) (off:Nat)
 |field1 (x:O) (off:Nat)
 |fieldN (x:O) (off n:Nat)
 |iaddrA (len size:Nat) (x ix:O)
 |iaddrS (size:Nat) (x ix:O)
 |index1 (len:Nat) (x ix:O)
 |indexT (x ix:O)
 |indexN (len size:Nat) (x ix:O)
 |lookup (sh:Sh) (zero:AV) (m k:O) (ok:Bool)
 |mupd (sh:Sh) (m k v:O)
 |ment (sh:Sh) (zero:AV) (m k:O)
 |mstore (m s v:O)
 |rangeM (x:O)
 |nextM (it:O)
 |entry (it:O)
 |tassert (x:O) (t:Nat) (zero:AV) (ok:Bool)
 |extract (x:O) (i:Nat)
 |callv (f:O) (args:List O)
 |append (size bytes:Nat) (s x:O)
 |appendZ (bytes:Nat) (zero:List AV) (s n:O)
 |copy (size:Nat) (d s:O)
 |lenS (x:O)
 |lenT (x:O)
 |capS (x:O)
 |lenM (x:O)
 |lenC (n:Nat)
 |maxmin (mx:Bool) (a b:O)
 |delete (sh:Sh) (m k:O)
 |recover
 |defer (f:O) (args:List O)
 |panic (x:O)
 |bad
structure CI where
 dst:Option Nat
 guard:Option (Nat×Bool)
 op:COp
structure DI where
 ci:CI
 names:List Nat
structure Ph where
 eff:DI
 pre:List DI
 chk:List DI
structure Alt where
 pre:List DI
 chk:List DI
 l:List Ph
inductive CC where
 |skip
 |ops (l:List CI)
 |drawn (pre chk:List DI) (l:List Ph)
 |alts (l:List Alt)
 |seq (a b:CC)
 |cond (c:O) (a b:CC)
 |block (id:Nat) (b:CC)
 |loop (b:CC)
 |rangeFunc (f:O) (params:List Nat) (assign body:CC)
 |exit (id:Nat)
 |scope (b:CC)
 |label (l:Nat)
 |goto (l:Nat)
 |ret
 |bad
inductive CRes where
 |tmp (t:Nat)
 |cell1 (a:Nat)
 |cellN (a n:Nat)
 |bad
structure CFn where
 ntmps:Nat
 results:List CRes
 body:CC
inductive ADef where
 |call (f:Nat) (args:List AV)
 |mark (b:Nat)
structure ALoop where
 state:LS
 pending:Option CC
 fn:Nat
 nt:Nat
 tmps:T AV
 params:List Nat
 assign:CC
 body:CC
 defers:Nat
inductive Blk where
 |cells (ro:Bool) (n:Nat) (c:T AV)
 |map (es:List AEnt) (clock:Nat)
 |miter (m:Option Nat) (since:Nat) (seen:List Nat) (stepped:Nat)
 |loop (l:ALoop)
 |dfr (ds:Option (List ADef))
structure H where
 n:Nat
 t:T Blk
noncomputable def H.get (h:H)(b:Nat):Option Blk:=T.get h.t b
noncomputable def H.set (h:H)(b:Nat)(x:Blk):H:=⟨h.n,T.set h.t b (some x)⟩
noncomputable def H.del (h:H)(b:Nat):H:=⟨h.n,T.set h.t b none⟩
noncomputable def H.new (h:H)(x:Blk):H:=⟨Nat.succ h.n,T.set h.t h.n (some x)⟩
inductive AItem where
 |code (c:CC)
 |inBlock (id:Nat)
 |inLoop (b:CC)
 |inScope (b:CC)
 |ops (l:List CI)
 |drawn (p:Ph) (l:List Ph)
 |inRF (l:Nat)
 |endRF (l:Nat)
 |beginRound
 |gone
inductive AMode where
 |run
 |returning
 |panicking (chain:List (AV×Bool))
structure AFr where
 fn:Nat
 nt:Nat
 tm:T AV
 todo:List AItem
 defers:List ADef
 mode:AMode
 dfd:Bool
 ro:Option Nat
structure Conf where
 fr:AFr
 cs:List AFr
 h:H
def pw (k:IntKind):Nat:=
 match k with
 | .i8| .u8=>256
 | .i16| .u16=>65536
 | .i32| .u32=>4294967296
 | .i64| .u64=>18446744073709551616
def hf (k:IntKind):Nat:=
 match k with
 | .i8=>128
 | .i16=>32768
 | .i32=>2147483648
 | .i64=>9223372036854775808
 | .u8=>256
 | .u16=>65536
 | .u32=>4294967296
 | .u64=>18446744073709551616
def kEq (j:IntKind):IntKind→Bool:=
 match j with
 | .i8=>fun| .i8=>true|_=>false
 | .i16=>fun| .i16=>true|_=>false
 | .i32=>fun| .i32=>true|_=>false
 | .i64=>fun| .i64=>true|_=>false
 | .u8=>fun| .u8=>true|_=>false
 | .u16=>fun| .u16=>true|_=>false
 | .u32=>fun| .u32=>true|_=>false
 | .u64=>fun| .u64=>true|_=>false
def wrN (p f r:Nat):Int:=match Nat.ble f r with|true=>Int.negSucc (Nat.sub (Nat.sub p r) 1)|false=>Int.ofNat r
def toU (k:IntKind)(n:Int):Nat:=
 match n with
 | .ofNat m=>Nat.mod m (pw k)
 | .negSucc m=>Nat.sub (Nat.sub (pw k) 1) (Nat.mod m (pw k))
def wr (k:IntKind)(n:Int):Int:=wrN (pw k) (hf k) (toU k n)
def iEq (a:Int):Int→Bool:=
 match a with
 | .ofNat a=>fun| .ofNat b=>Nat.beq a b| .negSucc _=>false
 | .negSucc a=>fun| .ofNat _=>false| .negSucc b=>Nat.beq a b
def iLt (a:Int):Int→Bool:=
 match a with
 | .ofNat a=>fun| .ofNat b=>Nat.ble (Nat.succ a) b| .negSucc _=>false
 | .negSucc a=>fun| .ofNat _=>true| .negSucc b=>Nat.ble (Nat.succ b) a
def bits (k:IntKind):Nat:=
 match k with
 | .i8| .u8=>8
 | .i16| .u16=>16
 | .i32| .u32=>32
 | .i64| .u64=>64
def Jj (a b:Nat):Nat:=match Nat.ble a b with|true=>a|false=>b
def Dq (op:BinOp):IntKind→Int→IntKind→Int→Option AV:=
 match op with
 | .shl=>fun k a _ b=>match b with
  | .ofNat n=>some (.int k (wr k (Int.mul a (Int.ofNat (Nat.pow 2 (Jj n (bits k)))))))
  | .negSucc _=>none
 | .shr=>fun k a _ b=>match b with
  | .ofNat n=>some (.int k (Int.fdiv a (Int.ofNat (Nat.pow 2 (Jj n (bits k))))))
  | .negSucc _=>none
 | .add=>fun k a j b=>match kEq k j with|true=>some (.int k (wr k (Int.add a b)))|false=>none
 | .sub=>fun k a j b=>match kEq k j with|true=>some (.int k (wr k (Int.sub a b)))|false=>none
 | .mul=>fun k a j b=>match kEq k j with|true=>some (.int k (wr k (Int.mul a b)))|false=>none
 | .quo=>fun k a j b=>match kEq k j with
  |true=>(match iEq b (Int.ofNat 0)with|true=>none|false=>some (.int k (wr k (Int.tdiv a b))))
  |false=>none
 | .rem=>fun k a j b=>match kEq k j with
  |true=>(match iEq b (Int.ofNat 0)with|true=>none|false=>some (.int k (Int.tmod a b)))
  |false=>none
 | .and=>fun k a j b=>match kEq k j with|true=>some (.int k (wr k (Int.ofNat (Nat.land (toU k a) (toU k b)))))|false=>none
 | .or=>fun k a j b=>match kEq k j with|true=>some (.int k (wr k (Int.ofNat (Nat.lor (toU k a) (toU k b)))))|false=>none
 | .xor=>fun k a j b=>match kEq k j with|true=>some (.int k (wr k (Int.ofNat (Nat.xor (toU k a) (toU k b)))))|false=>none
 | .andNot=>fun k a j b=>match kEq k j with
  |true=>some (.int k (wr k (Int.ofNat (Nat.land (toU k a) (Nat.sub (Nat.sub (pw k) 1) (toU k b))))))
  |false=>none
 | .eql=>fun k a j b=>match kEq k j with|true=>some (.bool (iEq a b))|false=>none
 | .neq=>fun k a j b=>match kEq k j with|true=>some (.bool (not (iEq a b)))|false=>none
 | .lss=>fun k a j b=>match kEq k j with|true=>some (.bool (iLt a b))|false=>none
 | .leq=>fun k a j b=>match kEq k j with|true=>some (.bool (not (iLt b a)))|false=>none
 | .gtr=>fun k a j b=>match kEq k j with|true=>some (.bool (iLt b a))|false=>none
 | .geq=>fun k a j b=>match kEq k j with|true=>some (.bool (not (iLt a b)))|false=>none
def K8:List Nat→List Nat→Bool
 | []=>fun| []=>true|_::_=>false
 |a::r=>fun| []=>false|b::s=>match Nat.beq a b with|true=>K8 r s|false=>false
def S5 (op:BinOp):List Nat→List Nat→Option AV:=
 match op with
 | .add=>fun a b=>(match Nat.ble (Nat.add a.length b.length) 1099511627776 with|true=>some (.str (List.append a b))|false=>none)
 | .eql=>fun a b=>some (.bool (K8 a b))
 | .neq=>fun a b=>some (.bool (not (K8 a b)))
 |_=>fun _ _=>none
def bEq (a b:Bool):Bool:=match a with|true=>b|false=>not b
def Hw (x:AV):AV→Option Bool:=
 match x with
 | .int k a=>fun y=>match y with
  | .int j b=>(match kEq k j with|true=>some (iEq a b)|false=>none)
  |_=>none
 |_=>fun _=>none
def H4 (x:AV):AV→Option Bool:=
 match x with
 | .bool a=>fun y=>match y with| .bool b=>some (bEq a b)|_=>none
 |_=>fun _=>none
def L8 (x:AV):AV→Option Bool:=
 match x with
 | .str a=>fun y=>match y with| .str b=>some (K8 a b)|_=>none
 |_=>fun _=>none
def Hx (x:AV):AV→Option Bool:=
 match x with
 | .nilp=>fun y=>match y with| .nilp=>some true| .ptr _ _=>some false|_=>none
 | .ptr b o=>fun y=>match y with
  | .nilp=>some false
  | .ptr b' o'=>(match Nat.beq b b' with|true=>some (Nat.beq o o')|false=>none)
  |_=>none
 |_=>fun _=>none
def Fl (x:AV):AV→Option Bool:=
 match x with
 | .nils=>fun y=>match y with| .nils=>some true| .slc _ _ _ _=>some false|_=>none
 | .slc _ _ _ _=>fun y=>match y with| .nils=>some false|_=>none
 |_=>fun _=>none
def Fm (x:AV):AV→Option Bool:=
 match x with
 | .nilm=>fun y=>match y with| .nilm=>some true| .map _=>some false|_=>none
 | .map _=>fun y=>match y with| .nilm=>some false|_=>none
 |_=>fun _=>none
def D5 (x:AV):AV→Option Bool:=
 match x with
 | .nilf=>fun y=>match y with| .nilf=>some true| .fn (.func _) _ _=>some false|_=>none
 | .fn (.func _) _ _=>fun y=>match y with| .nilf=>some false|_=>none
 |_=>fun _=>none
def Jl (x:AV):AV→Option Bool:=
 match x with
 | .nili=>fun y=>match y with| .ifc _ _=>some false|_=>none
 | .ifc _ _=>fun y=>match y with| .nili=>some false|_=>none
 |_=>fun _=>none
def cy (l:List AV)(off size:Nat):Option AV:=
 match size with
 |0=>l[off]?
 |Nat.succ n=>some (.agg (List.take (Nat.succ n) (List.drop off l)))
def J6 (f:Sh→AV→AV→Option Bool)(xs ys:List AV):List (Nat×Nat×Sh)→Option Bool
 | []=>some true
 |p::r=>match cy xs p.1 p.2.1,cy ys p.1 p.2.1 with
  |some a,some b=>match f p.2.2 a b with
   |some true=>J6 f xs ys r
   |some false=>some false
   |none=>none
  |_,_=>none
def eqv (d:Nat):Sh→AV→AV→Option Bool:=
 match d with
 |0=>fun _ _ _=>none
 |Nat.succ d=>fun sh=>match sh with
  | .pint=>fun x y=>Hw x y
  | .pbool=>fun x y=>H4 x y
  | .pstr=>fun x y=>L8 x y
  | .ptr=>fun x y=>Hx x y
  | .iface=>fun x y=>Jl x y
  | .nilS=>fun x y=>Fl x y
  | .nilM=>fun x y=>Fm x y
  | .nilF=>fun x y=>D5 x y
  | .bad=>fun _ _=>none
  | .agg parts=>fun x y=>match x with
   | .agg xs=>match y with
    | .agg ys=>J6 (eqv d) xs ys parts
    |_=>none
   |_=>none
def W5 (sh:Sh)(c:Bool)(x y:AV):Bool:=
 match sh with
 | .iface=>(match c,x,y with
  |true,.nili,.nili=>true
  |_,_,_=>false)
 |_=>false
def W6 (sh:Sh)(c:Bool)(x y:AV):Option Bool:=
 match W5 sh c x y with
 |true=>some true
 |false=>eqv 20 sh x y
def S6 (op:BinOp)(sh:Sh)(c:Bool)(x y:AV):Option AV:=
 match op with
 | .eql=>(match W6 sh c x y with
  |some b=>some (.bool b)
  |none=>none)
 | .neq=>(match W6 sh c x y with
  |some b=>some (.bool (not b))
  |none=>none)
 |_=>none
def F5 (op:BinOp)(sh:Sh)(c:Bool)(x:AV):AV→Option AV:=
 match x with
 | .int k a=>fun y=>match y with
  | .int j b=>Dq op k a j b
  |_=>none
 | .str a=>fun y=>match y with
  | .str b=>S5 op a b
  |_=>none
 |x=>fun y=>S6 op sh c x y
noncomputable def ev (tm:T AV)(o:O):AV:=
 match o with
 | .t i=>match T.get tm i with
  |some v=>v
  |none=> .unk
 | .c v=>v
noncomputable def evs (tm:T AV):List O→List AV
 | []=> []
 |x::r=>ev tm x::evs tm r
noncomputable def ofL (i:Nat)(t:T AV):List AV→T AV
 | []=>t
 |x::r=>ofL (Nat.succ i) (T.set t i (some x)) r
noncomputable def loadN (c:T AV):Nat→Nat→Option (List AV)
 |0=>fun _=>some []
 |Nat.succ n=>fun o=>match T.get c o with
  |some v=>match loadN c n (Nat.succ o)with
   |some l=>some (v::l)
   |none=>none
  |none=>none
noncomputable def Jp (o:Nat)(c:T AV):List AV→T AV
 | []=>c
 |v::r=>Jp (Nat.succ o) (T.set c o (some v)) r
def A9 (v:AV):Option (List AV):=
 match v with
 | .agg l=>some l
 | .tup _=>none
 | .unk=>none
 | .opq (.agg _)=>none
 | .opq (.tuple _)=>none
 |v=>some [v]
def E7 (xs:List AV):List AV→Nat→List AV
 |l,0=>List.append xs (List.drop xs.length l)
 | [],Nat.succ _=> []
 |a::l,Nat.succ n=>a::E7 xs l n
noncomputable def fill (tm:T AV):List (Nat×Nat×O)→List AV→Option (List AV)
 | []=>fun cells=>some cells
 |p::r=>fun cells=>
  match A9 (ev tm p.2.2)with
  |some l=>(match Nat.beq l.length p.2.1,Nat.ble (Nat.add p.1 p.2.1) cells.length with
   |true,true=>fill tm r (E7 l cells p.1)
   |_,_=>none)
  |none=>none
inductive R where
 |val (v:AV) (h:H)
 |call (f:AFn) (args:List AV)
 |dfr (f:Nat) (args:List AV)
 |pan (v:AV)
 |recover
 |next (l:List (AV×H))
 |fail
def vo (h:H)(o:Option AV):R:=
 match o with
 |some v=> .val v h
 |none=> .fail
def rl (l:List AV):Nat→List AV
 |0=> []
 |Nat.succ k=>List.append l (rl l k)
def lenV (v:AV):Option Nat:=
 match v with
 | .nils=>some 0
 | .slc _ _ n _=>some n
 | .str s=>some s.length
 |_=>none
def Fo:Nat→List Nat→List AV
 |0,_=> []
 |Nat.succ _,[]=> []
 |Nat.succ n,b::r=> .int .u8 (Int.ofNat b)::Fo n r
noncomputable def cellsAt (h:H)(b o n:Nat):Option (List AV):=
 match n with
 |0=>some []
 |n=>match H.get h b with
  |some (.cells _ k c)=>match Nat.ble (Nat.add o n) k with
   |true=>loadN c n o
   |false=>none
  |_=>none
noncomputable def cellsOf (size n:Nat)(h:H)(v:AV):Option (List AV):=
 match v with
 | .nils=>some []
 | .slc b o _ _=>cellsAt h b o (Nat.mul n size)
 | .str s=>(match Nat.beq size 1 with|true=>some (Fo n s)|false=>none)
 |_=>none
def Dr (v:AV):Bool:=
 match v with
 | .agg _=>false
 | .tup _=>false
 | .unk=>false
 | .opq (.agg _)=>false
 | .opq (.tuple _)=>false
 |_=>true
def Ar:List AV→Bool
 | []=>true
 |v::r=>match Dr v with|true=>Ar r|false=>false
noncomputable def putBlk (h:H)(b o:Nat)(l:List AV):Option H:=
 match l with
 | []=>some h
 |l=>match H.get h b with
  |some (.cells false k c)=>match Nat.ble (Nat.add o l.length) k,Ar l with
   |true,true=>some (H.set h b (.cells false k (Jp o c l)))
   |_,_=>none
  |_=>none
noncomputable def newCells (h:H)(l:List AV):H:=H.new h (.cells false l.length (ofL 0 .leaf l))
noncomputable def De (size bytes:Nat)(h:H)(s:AV)(new:List AV)(n:Nat):R:=
 match n with
 |0=>match s with
  | .nils=> .val s h
  | .slc _ _ _ _=> .val s h
  |_=> .fail
 |Nat.succ n=>match s with
  | .nils=>match Nat.ble (Nat.mul (Nat.succ n) (Nat.succ bytes)) 1099511627776 with
   |true=> .val (.slc h.n 0 (Nat.succ n) (Nat.add Aa size)) (newCells h new)
   |false=> .fail
  | .slc b o sl cap=>
   match Nat.ble (Nat.mul (Nat.add sl (Nat.succ n)) (Nat.succ bytes)) 1099511627776 with
   |false=> .fail
   |true=>match Nat.ble Aa cap with
    |true=>match Nat.beq cap (Nat.add Aa size),cellsAt h b o (Nat.mul sl size),H.get h b,Ar new with
     |true,some old,some (.cells false _ _),true=> .val (.slc h.n 0 (Nat.add sl (Nat.succ n)) cap) (newCells (H.del h b) (List.append old new))
     |_,_,_,_=> .fail
    |false=>match Nat.ble (Nat.add sl (Nat.succ n)) cap with
     |true=>match putBlk h b (Nat.add o (Nat.mul sl size)) new with
      |some h'=> .val (.slc b o (Nat.add sl (Nat.succ n)) cap) h'
      |none=> .fail
     |false=>match cellsAt h b o (Nat.mul sl size)with
      |some old=> .val (.slc h.n 0 (Nat.add sl (Nat.succ n)) (Nat.add Aa size)) (newCells h (List.append old new))
      |none=> .fail
  |_=> .fail
def Nw:List AV→Option (List Nat)
 | []=>some []
 |v::r=>match v with
  | .int .u8 (Int.ofNat n)=>match Nat.ble n 255,Nw r with
   |true,some l=>some (n::l)
   |_,_=>none
  |_=>none
def E8 (mx:Bool)(x:AV):AV→Option AV:=
 match x with
 | .int k a=>fun y=>match y with
  | .int j b=>(match kEq k j with
   |true=>some (.int k (match(match mx with|true=>iLt a b|false=>iLt b a)with|true=>b|false=>a))
   |false=>none)
  |_=>none
 |_=>fun _=>none
noncomputable def C4 (tm:T AV)(o:Option O):Option (Option Nat):=
 match o with
 |none=>some none
 |some x=>match ev tm x with
  | .int _ (Int.ofNat n)=>some (some n)
  |_=>none
def Nx (len top:Nat)(e lo hi mx:Option Nat):Option (Nat×Nat×Option Nat):=
 match mx with
 |some m=>match hi with
  |none=>none
  |some h=>match Nat.ble m top,Nat.ble h m,Nat.ble (lo.getD 0) h with
   |true,true,true=>some (lo.getD 0,h,some m)
   |_,_,_=>none
 |none=>match Nat.ble (hi.getD len) top,Nat.ble (lo.getD 0) (hi.getD len)with
  |true,true=>some (lo.getD 0,hi.getD len,e)
  |_,_=>none
def M6 (len cap:Nat)(lo hi mx:Option Nat):Option (Nat×Nat×Option Nat):=
 match Nat.ble Aa cap with
 |true=>Nx len len none lo hi mx
 |false=>Nx len cap (some cap) lo hi mx
def Fp (size b o len cap:Nat)(lo hi mx:Option Nat):Option AV:=
 match M6 len cap lo hi mx with
 |some (l,h,some m)=>(match Nat.ble (Nat.succ m) Aa with
  |true=>some (.slc b (match Nat.beq m l with|true=>o|false=>Nat.add o (Nat.mul l size)) (Nat.sub h l) (Nat.sub m l))
  |false=>none)
 |some (l,h,none)=>(match Nat.beq cap (Nat.add Aa size)with
  |true=>some (.slc b (Nat.add o (Nat.mul l size)) (Nat.sub h l) cap)
  |false=>none)
 |none=>none
def K9:List AV→List AV→Bool
 | []=>fun| []=>true|_::_=>false
 |x::r=>fun| []=>false|y::s=>match Hw x y with|some true=>K9 r s|_=>false
def E2 (x:AV):AV→Bool:=
 match x with
 | .int k a=>fun y=>match y with| .int j b=>(match kEq k j with|true=>iEq a b|false=>false)|_=>false
 | .bool a=>fun y=>match y with| .bool b=>bEq a b|_=>false
 | .str a=>fun y=>match y with| .str b=>K8 a b|_=>false
 | .agg l=>fun y=>match y with| .agg m=>K9 l m|_=>false
 |_=>fun _=>false
def Rs (n:Nat):List (Nat×Nat×Sh)→Bool
 | []=>true
 |p::r=>match Nat.ble (Nat.succ p.1) n with|true=>Rs n r|false=>false
def L9 (sh:Sh):AV→Bool:=
 match sh with
 | .pint=>fun k=>match k with| .int _ _=>true|_=>false
 | .pbool=>fun k=>match k with| .bool _=>true|_=>false
 | .pstr=>fun k=>match k with| .str _=>true|_=>false
 | .agg parts=>fun k=>match k with| .agg l=>Rs l.length parts|_=>false
 |_=>fun _=>false
def F6 (f:AV→AV→Option Bool)(k:AV):List AEnt→Option (Option AEnt)
 | []=>some none
 |e::r=>match f k e.key with
  |some true=>some (some e)
  |some false=>F6 f k r
  |none=>none
def H5 (sh:Sh)(k:AV)(es:List AEnt):Option (Option AEnt):=
 match L9 sh k with
 |true=>F6 (eqv 20 sh) k es
 |false=>none
def Rt (f:AV→AV→Option Bool)(k v:AV):List AEnt→Option (List AEnt)
 | []=>none
 |e::r=>match f k e.key with
  |some true=>(match E2 k e.key with
   |true=>some (⟨k,v,e.born⟩::r)
   |false=>none)
  |some false=>match Rt f k v r with
   |some r=>some (e::r)
   |none=>none
  |none=>none
def U1 (f:AV→AV→Option Bool)(k:AV):List AEnt→Option (List AEnt)
 | []=>some []
 |e::r=>match f k e.key with
  |some true=>some r
  |some false=>match U1 f k r with
   |some r=>some (e::r)
   |none=>none
  |none=>none
def G9 (b:Nat)(v:AV):List AEnt→Option (List AEnt)
 | []=>none
 |e::r=>match Nat.beq e.born b with
  |true=>some (⟨e.key,v,e.born⟩::r)
  |false=>match G9 b v r with
   |some r=>some (e::r)
   |none=>none
def La (n:Nat):List Nat→Bool
 | []=>false
 |a::r=>match Nat.beq a n with|true=>true|false=>La n r
def Ma (since:Nat)(seen:List Nat):List AEnt→Option (List AEnt)
 | []=>some []
 |e::r=>match Ma since seen r with
  |none=>none
  |some l=>match La e.born seen with
   |true=>some l
   |false=>match Nat.ble (Nat.succ e.born) since with
    |true=>some (e::l)
    |false=>none
def I0 (stepped:Nat)(seen:List Nat)(es:List AEnt):Bool:=
 match seen,es with
 | [],_=>true
 |_,[]=>true
 |_,es=>es.any fun e=>Nat.ble (Nat.succ e.born) stepped
def Gq (b:Nat):List AEnt→Option AEnt
 | []=>none
 |e::r=>match Nat.beq e.born b with|true=>some e|false=>Gq b r
noncomputable def exec (op:COp):H→T AV→R:=
 match op with
 | .mv x=>fun h tm=> .val (ev tm x) h
 | .pick c a b=>fun h tm=>match ev tm c with
  | .bool true=> .val (ev tm a) h
  | .bool false=> .val (ev tm b) h
  |_=> .fail
 | .alloc cells=>fun h _=> .val (.ptr h.n 0) (newCells h cells)
 | .box n x=>fun h tm=>match A9 (ev tm x)with
  |some l=>(match Nat.beq l.length n with
   |true=> .val (.ptr h.n 0) (newCells h l)
   |false=> .fail)
  |none=> .fail
 | .build zero parts=>fun h tm=>match fill tm parts zero with
  |some l=> .val (.agg l) h
  |none=> .fail
 | .bslice len cells parts=>fun h tm=>match fill tm parts cells with
  |some l=> .val (.slc h.n 0 len len) (newCells h l)
  |none=> .fail
 | .load1 a=>fun h tm=>match ev tm a with
  | .ptr b o=>match H.get h b with
   |some (.cells _ n c)=>(match Nat.ble (Nat.succ o) n with
    |true=>vo h (T.get c o)
    |false=> .fail)
   |_=> .fail
  |_=> .fail
 | .loadN n a=>fun h tm=>match ev tm a with
  | .ptr b o=>match cellsAt h b o n with
   |some l=> .val (.agg l) h
   |none=> .fail
  |_=> .fail
 | .store n a x=>fun h tm=>match ev tm a with
  | .ptr b o=>(match A9 (ev tm x)with
   |some l=>(match Nat.beq l.length n with
    |true=>(match putBlk h b o l with
     |some h'=> .val .unk h'
     |none=> .fail)
    |false=> .fail)
   |none=> .fail)
  |_=> .fail
 | .nilc x=>fun h tm=>match ev tm x with
  | .ptr b o=> .val (.ptr b o) h
  | .fn (.func f) a c=> .val (.fn (.func f) a c) h
  | .ifc t v=> .val (.ifc t v) h
  |_=> .fail
 | .bin op x y c sh=>fun h tm=>vo h (F5 op sh c (ev tm x) (ev tm y))
 | .un op x=>fun h tm=>match ev tm x with
  | .int k n=>(match op with
   | .neg=> .val (.int k (wr k (Int.sub 0 n))) h
   | .xor=> .val (.int k (wr k (Int.ofNat (Nat.sub (Nat.sub (pw k) 1) (toU k n))))) h
   |_=> .fail)
  | .bool b=>(match op with
   | .not=> .val (.bool (not b)) h
   |_=> .fail)
  |_=> .fail
 | .conv k x=>fun h tm=>match ev tm x with
  | .int _ n=> .val (.int k (wr k n)) h
  |_=> .fail
 | .b2s x=>fun h tm=>match ev tm x with
  | .nils=> .val (.str []) h
  | .slc b o n _=>match cellsAt h b o n with
   |some l=>match Nw l with
    |some s=> .val (.str s) h
    |none=> .fail
   |none=> .fail
  |_=> .fail
 | .cslice x=>fun h tm=>match ev tm x with
  | .slc b o n c=>(match H.get h b with
   |some (.cells false _ _)=> .val (.slc b o n c) (H.del h b)
   |_=> .fail)
  |_=> .fail
 | .mkif t x=>fun h tm=> .val (.ifc t (ev tm x)) h
 | .mkfn f first cap=>fun h tm=> .val (.fn f (evs tm first) (evs tm cap)) h
 | .mkmap=>fun h _=> .val (.map h.n) (H.new h (.map [] 0))
 | .mkslice bytes zero l c=>fun h tm=>match ev tm l with
  | .int _ (Int.ofNat l)=>match ev tm c with
   | .int _ (Int.ofNat c)=>match Nat.ble l c,Nat.ble (Nat.mul c bytes) 281474976710656,Nat.ble c 281474976710656 with
    |true,true,true=> .val (.slc h.n 0 l c) (newCells h (rl zero c))
    |_,_,_=> .fail
   |_=> .fail
  |_=> .fail
 | .sliceS size x lo hi mx=>fun h tm=>match C4 tm lo,C4 tm hi,C4 tm mx with
  |some lo,some hi,some mx=>(match ev tm x with
   | .nils=>(match M6 0 0 lo hi mx with|some _=> .val .nils h|none=> .fail)
   | .slc b o n c=>vo h (Fp size b o n c lo hi mx)
   |_=> .fail)
  |_,_,_=> .fail
 | .sliceA n size x lo hi mx=>fun h tm=>match C4 tm lo,C4 tm hi,C4 tm mx with
  |some lo,some hi,some mx=>(match ev tm x with
   | .ptr b o=>(match Nat.ble Aa n with
    |true=> .fail
    |false=>vo h (Fp size b o n n lo hi mx))
   |_=> .fail)
  |_,_,_=> .fail
 | .faddr x off=>fun h tm=>match ev tm x with
  | .ptr b o=> .val (.ptr b (Nat.add o off)) h
  |_=> .fail
 | .field1 x off=>fun h tm=>match ev tm x with
  | .agg l=>vo h (l[off]?)
  |_=> .fail
 | .fieldN x off n=>fun h tm=>match ev tm x with
  | .agg l=> .val (.agg (List.take n (List.drop off l))) h
  |_=> .fail
 | .iaddrA len size x ix=>fun h tm=>match ev tm x with
  | .ptr b o=>match ev tm ix with
   | .int _ (Int.ofNat i)=>match Nat.ble (Nat.succ i) len with
    |true=> .val (.ptr b (Nat.add o (Nat.mul i size))) h
    |false=> .fail
   |_=> .fail
  |_=> .fail
 | .iaddrS size x ix=>fun h tm=>match ev tm x with
  | .slc b o n _=>match ev tm ix with
   | .int _ (Int.ofNat i)=>match Nat.ble (Nat.succ i) n with
    |true=> .val (.ptr b (Nat.add o (Nat.mul i size))) h
    |false=> .fail
   |_=> .fail
  |_=> .fail
 | .index1 len x ix=>fun h tm=>match ev tm x with
  | .agg l=>match ev tm ix with
   | .int _ (Int.ofNat i)=>match Nat.ble (Nat.succ i) len with
    |true=>vo h (l[i]?)
    |false=> .fail
   |_=> .fail
  |_=> .fail
 | .indexT x ix=>fun h tm=>match ev tm x with
  | .str l=>match ev tm ix with
   | .int _ (Int.ofNat i)=>(match l[i]? with
    |some b=> .val (.int .u8 (Int.ofNat b)) h
    |none=> .fail)
   |_=> .fail
  |_=> .fail
 | .indexN len size x ix=>fun h tm=>match ev tm x with
  | .agg l=>match ev tm ix with
   | .int _ (Int.ofNat i)=>match Nat.ble (Nat.succ i) len with
    |true=> .val (.agg (List.take size (List.drop (Nat.mul i size) l))) h
    |false=> .fail
   |_=> .fail
  |_=> .fail
 | .lookup sh zero m k ok=>fun h tm=>
  match(match ev tm m with
   | .nilm=>some []
   | .map r=>(match H.get h r with
    |some (.map es _)=>some es
    |_=>none)
   |_=>none)with
  |none=> .fail
  |some es=>match H5 sh (ev tm k) es with
   |some (some e)=> .val (match ok with|true=> .tup [e.val,.bool true]|false=>e.val) h
   |some none=> .val (match ok with|true=> .tup [zero,.bool false]|false=>zero) h
   |none=> .fail
 | .mupd sh m k v=>fun h tm=>match ev tm m with
  | .map r=>match H.get h r with
   |some (.map es clock)=>match H5 sh (ev tm k) es with
    |some (some _)=>match Rt (eqv 20 sh) (ev tm k) (ev tm v) es with
     |some es=> .val .unk (H.set h r (.map es clock))
     |none=> .fail
    |some none=> .val .unk (H.set h r (.map (List.append es [⟨ev tm k,ev tm v,clock⟩]) (Nat.succ clock)))
    |none=> .fail
   |_=> .fail
  |_=> .fail
 | .ment sh zero m k=>fun h tm=>match ev tm m with
  | .map r=>match H.get h r with
   |some (.map es clock)=>match H5 sh (ev tm k) es with
    |some (some e)=>match Rt (eqv 20 sh) (ev tm k) e.val es with
     |some es=> .val (.tup [e.val,.int .i64 (Int.ofNat e.born)]) (H.set h r (.map es clock))
     |none=> .fail
    |some none=> .val (.tup [zero,.int .i64 (Int.ofNat clock)]) (H.set h r (.map (List.append es [⟨ev tm k,zero,clock⟩]) (Nat.succ clock)))
    |none=> .fail
   |_=> .fail
  |_=> .fail
 | .mstore m s v=>fun h tm=>match ev tm m with
  | .map r=>match ev tm s with
   | .int _ (Int.ofNat s)=>match H.get h r with
    |some (.map es clock)=>match G9 s (ev tm v) es with
     |some es=> .val .unk (H.set h r (.map es clock))
     |none=> .fail
    |_=> .fail
   |_=> .fail
  |_=> .fail
 | .rangeM x=>fun h tm=>match ev tm x with
  | .nilm=> .val (.ptr h.n 0) (H.new h (.miter none 0 [] 0))
  | .map m=>match H.get h m with
   |some (.map _ clock)=> .val (.ptr h.n 0) (H.new h (.miter (some m) clock [] clock))
   |_=> .fail
  |_=> .fail
 | .nextM it=>fun h tm=>match ev tm it with
  | .ptr r 0=>match H.get h r with
   |some (.miter none _ _ _)=> .val (.tup [.bool false]) h
   |some (.miter (some m) since seen stepped)=>match H.get h m with
    |some (.map es clock)=>match Ma since seen es,I0 stepped seen es with
     |some [],true=> .val (.tup [.bool false]) h
     |some (e::l),true=> .next (List.map (fun e=>(.tup [.bool true,e.key,e.val],H.set h r (.miter (some m) since (List.append seen [e.born]) clock))) (e::l))
     |_,_=> .fail
    |_=> .fail
   |_=> .fail
  |_=> .fail
 | .entry it=>fun h tm=>match ev tm it with
  | .ptr r 0=>match H.get h r with
   |some (.miter (some m) _ seen stepped)=>match H.get h m,List.getLast? seen with
    |some (.map es clock),some s=>match Nat.beq clock stepped,Gq s es with
     |true,some e=> .val (.tup [e.key,e.val]) h
     |_,_=> .fail
    |_,_=> .fail
   |_=> .fail
  |_=> .fail
 | .tassert x t zero ok=>fun h tm=>match ev tm x with
  | .ifc u v=>(match Nat.beq u t with
   |true=> .val (match ok with|true=> .tup [v,.bool true]|false=>v) h
   |false=>match ok with|true=> .val (.tup [zero,.bool false]) h|false=> .fail)
  | .nili=>(match ok with|true=> .val (.tup [zero,.bool false]) h|false=> .fail)
  |_=> .fail
 | .extract x i=>fun h tm=>match ev tm x with
  | .tup l=>vo h (l[i]?)
  |_=> .fail
 | .callv f args=>fun _ tm=>match ev tm f with
  | .fn g first cap=> .call g (List.append first (List.append (evs tm args) cap))
  |_=> .fail
 | .append size bytes s x=>fun h tm=>match lenV (ev tm x)with
  |some n=>match cellsOf size n h (ev tm x)with
   |some new=>De size bytes h (ev tm s) new n
   |none=> .fail
  |none=> .fail
 | .appendZ bytes zero s n=>fun h tm=>match ev tm n with
  | .int _ (Int.ofNat n)=>match Nat.ble (Nat.mul n bytes) 281474976710656,Nat.ble n 281474976710656 with
   |true,true=>De zero.length bytes h (ev tm s) (rl zero n) n
   |_,_=> .fail
  |_=> .fail
 | .copy size d s=>fun h tm=>match lenV (ev tm s)with
  |some sn=>(match ev tm d with
   | .nils=> .val (.int .i64 0) h
   | .slc b o dn _=>match cellsOf size (Jj sn dn) h (ev tm s)with
    |some l=>match putBlk h b o l with
     |some h'=> .val (.int .i64 (Int.ofNat (Jj sn dn))) h'
     |none=> .fail
    |none=> .fail
   |_=> .fail)
  |none=> .fail
 | .lenS x=>fun h tm=>match ev tm x with
  | .nils=> .val (.int .i64 (Int.ofNat 0)) h
  | .slc _ _ n _=> .val (.int .i64 (Int.ofNat n)) h
  | .opq u=>(match u with
   | .slice _ n _=> .val (.int .i64 (Int.ofNat n)) h
   |_=> .fail)
  |_=> .fail
 | .lenT x=>fun h tm=>match ev tm x with
  | .str s=> .val (.int .i64 (Int.ofNat s.length)) h
  |_=> .fail
 | .capS x=>fun h tm=>match ev tm x with
  | .nils=> .val (.int .i64 (Int.ofNat 0)) h
  | .slc _ _ _ c=>(match Nat.ble Aa c with|true=> .fail|false=> .val (.int .i64 (Int.ofNat c)) h)
  |_=> .fail
 | .lenM x=>fun h tm=>match ev tm x with
  | .nilm=> .val (.int .i64 (Int.ofNat 0)) h
  | .map r=>match H.get h r with
   |some (.map es _)=> .val (.int .i64 (Int.ofNat es.length)) h
   |_=> .fail
  |_=> .fail
 | .lenC n=>fun h _=> .val (.int .i64 (Int.ofNat n)) h
 | .maxmin mx a b=>fun h tm=>vo h (E8 mx (ev tm a) (ev tm b))
 | .delete sh m k=>fun h tm=>match ev tm m with
  | .map r=>match H.get h r with
   |some (.map es clock)=>match L9 sh (ev tm k),U1 (eqv 20 sh) (ev tm k) es with
    |true,some es=> .val (.tup []) (H.set h r (.map es clock))
    |_,_=> .fail
   |_=> .fail
  |_=> .fail
 | .recover=>fun _ _=> .recover
 | .defer f args=>fun _ tm=>match ev tm f with
  | .fn (.func g) first cap=> .dfr g (List.append first (List.append (evs tm args) cap))
  |_=> .fail
 | .panic x=>fun _ tm=>match ev tm x with
  | .ifc t v=> .pan (.ifc t v)
  |_=> .fail
 | .bad=>fun _ _=> .fail
def Ru:Nat→Value→AV
 |0,_=> .unk
 |d+1,v=>match v with
  | .bool b=> .bool b
  | .int k n=> .int k n
  | .string s=> .str (s.data.toList.map (·.toNat))
  | .pointer none=> .nilp
  | .slice none 0 0=> .nils
  | .map none=> .nilm
  | .nilFunc=> .nilf
  | .nilIface=> .nili
  | .iface t v=> .ifc t (Ru d v)
  | .agg cs=> .agg (cs.toList.map (Ru d))
  | .tuple cs=> .tup (cs.toList.map (Ru d))
  |_=> .unk
def opd (x:Operand):O:=
 match x with
 | .tmp t=> .t t
 | .const v=> .c (Ru 10 v)
 | .global _=> .c .unk
 | .func f=> .c (.fn (.func f) [] [])
structure Env where
 I:T TypeInfo
 S:List Nat
noncomputable section
variable (E:Env)
def inf (t:TypeId):Option TypeInfo:=T.get E.I t
def und (t:TypeId):Option TypeDesc:=
 match inf E t with
 |some i=>(match i.desc with
  | .named _ u=>(match inf E u with
   |some j=>some j.desc
   |none=>none)
  |d=>some d)
 |none=>none
def Mb (t:TypeId):Option AV:=match inf E t with
 |some i=>(match i.zero with
  |some v=>some (Ru 10 v)
  |none=>none)
 |none=>none
def sz (t:TypeId):Option Nat:=match inf E t with
 |some i=>some i.size
 |none=>none
def Em (t:TypeId):Option (List AV):=match inf E t with
 |some i=>(match i.zero with
  |some v=>(match Nat.beq v.cells.size i.size with
   |true=>some (v.cells.toList.map (Ru 10))
   |false=>none)
  |none=>none)
 |none=>none
def H6 (t:TypeId):Option Bool:=match und E t with
 |some (.struct _)=>some true
 |some (.array _ _)=>some true
 |some _=>some false
 |none=>none
def Bu (t:TypeId):Option Nat:=match inf E t with
 |some i=>(match Nat.beq i.size 0 with
  |true=>none
  |false=>some i.size)
 |none=>none
def cz (t:TypeId):Option Nat:=match H6 E t with
 |some true=>Bu E t
 |some false=>some 0
 |none=>none
def F7 (f : Nat → Sh) (fd : Field) : Option (Nat × Nat × Sh) := match fd.name == "_" with
 |true=>none
 |false=>(match cz E fd.type with
  |some n=>some (fd.offset,n,f fd.type)
  |none=>none)
def Aq:Nat→TypeId→Sh
 |0,_=> .bad
 |d+1,t=>match und E t with
  |some .bool=> .pbool
  |some (.int _)=> .pint
  |some .string=> .pstr
  |some (.pointer e)=>(match Bu E e with|some _=> .ptr|none=> .bad)
  |some (.interface _)=> .iface
  |some (.struct fs)=>(match La t E.S with
   |false=> .bad
   |true=>match fs.toList.mapM (F7 E (Aq d))with
    |some l=> .agg l
    |none=> .bad)
  |some (.slice _)=> .nilS
  |some (.map _ _)=> .nilM
  |some (.func _ _ _)=> .nilF
  |_=> .bad
def uo (f : Field) : Bool := match f.name == "_" with
 |true=>false
 |false=>(match und E f.type with
  |some (.int _)=>true
  |_=>false)
def F8 (t:TypeId):Option Sh:=match und E t with
 |some .bool=>some (Aq E 5 t)
 |some (.int _)=>some (Aq E 5 t)
 |some .string=>some (Aq E 5 t)
 |some (.struct fs)=>(match fs.toList.all (uo E)with
  |true=>some (Aq E 5 t)
  |false=>none)
 |_=>none
def tj (fs:Array Field)(p:Nat×Operand):Option (Nat×Nat×O):=match fs[p.1]? with
 |some f=>(match sz E f.type with
  |some n=>some (f.offset,n,opd p.2)
  |none=>none)
 |none=>none
def Rv (t:TypeId)(parts:List (Nat×Operand)):Option (List (Nat×Nat×O)):=
 match und E t with
 |some (.struct fs)=>(match fs.toList.all (fun f=>(sz E f.type).isSome)with|true=>parts.mapM (tj E fs)|false=>none)
 |some (.array _ e)=>(match sz E e with
  |some n=>some (parts.map fun p=>(p.1*n,n,opd p.2))
  |none=>none)
 |_=>none
def C9 (t:TypeId):Nat:=match inf E t with|some i=>i.bytes|none=>0
def szD (t:TypeId):Nat:=match inf E t with|some i=>i.size|none=>0
def isC (x:Operand):Bool:=
 match x with
 | .const _=>true
 |_=>false
def Aaw (f:Fn):Option AFn:=
 match f with
 | .func f=>some (.func f)
 |_=>none
def J7 (b:Builtin)(args:List Operand)(ts:List TypeId):COp:=
 match b with
 | .append=>(match args,ts with
  | [s,x],st::xt=>match und E st with
   |some (.slice e)=>match Bu E e,Em E e with
    |some n,some z=>(match xt with
     | [t]=>(match und E t with
      |some (.int _)=> .appendZ (C9 E e) z (opd s) (opd x)
      |some (.slice _)=> .append n (C9 E e) (opd s) (opd x)
      |some .string=> .append n (C9 E e) (opd s) (opd x)
      |_=> .bad)
     |_=> .bad)
    |_,_=> .bad
   |_=> .bad
  |_,_=> .bad)
 | .copy=>(match args,ts with
  | [d,s],dt::_=>match und E dt with
   |some (.slice e)=>match Bu E e with
    |some n=> .copy n (opd d) (opd s)
    |none=> .bad
   |_=> .bad
  |_,_=> .bad)
 | .len=>(match args,ts with
  | [x],[t]=>match und E t with
   |some .string=> .lenT (opd x)
   |some (.slice _)=> .lenS (opd x)
   |some (.map _ _)=> .lenM (opd x)
   |some (.array n _)=> .lenC n
   |some (.pointer a)=>match und E a with
    |some (.array n _)=> .lenC n
    |_=> .bad
   |_=> .bad
  |_,_=> .bad)
 | .cap=>(match args,ts with
  | [x],[t]=>match und E t with
   |some (.slice _)=> .capS (opd x)
   |_=> .bad
  |_,_=> .bad)
 | .max=>(match args with| [a,b]=> .maxmin true (opd a) (opd b)|_=> .bad)
 | .min=>(match args with| [a,b]=> .maxmin false (opd a) (opd b)|_=> .bad)
 | .delete=>(match args,ts with
  | [m,k],mt::_=>match und E mt with
   |some (.map kt _)=>match F8 E kt with
    |some sh=> .delete sh (opd m) (opd k)
    |none=> .bad
   |_=> .bad
  |_,_=> .bad)
 | .recover=>(match args with| []=> .recover|_=> .bad)
 | .panic=>(match args with| [x]=> .panic (opd x)|_=> .bad)
 |_=> .bad
def Ak (o:Op):COp:=
 match o with
 | .move x=> .mv (opd x)
 | .assign x=> .mv (opd x)
 | .pick c a b=> .pick (opd c) (opd a) (opd b)
 | .alloc e=>(match Em E e with|some z=> .alloc z|none=> .bad)
 | .box e x=> .box ((szD E e)) (opd x)
 | .build t parts=>(match Em E t,Rv E t parts.toList,H6 E t with
  |some z,some ps,some true=> .build z ps
  |_,_,_=> .bad)
 | .buildSlice t n parts=>(match und E t with
  |some (.slice e)=>match Bu E e,Em E e,Nat.ble (n*(szD E e)) 16777216 with
   |some s,some z,true=> .bslice n (rl z n) (parts.toList.map fun p=>(p.1*s,s,opd p.2))
   |_,_,_=> .bad
  |_=> .bad)
 | .load t a=>(match inf E t with
  |some i=>match H6 E t with
   |some true=> .loadN i.size (opd a)
   |some false=> .load1 (opd a)
   |none=> .bad
  |none=> .bad)
 | .store t a x=>(match inf E t with
  |some i=> .store i.size (opd a) (opd x)
  |none=> .bad)
 | .nilCheck x=> .nilc (opd x)
 | .binOp op t x y _=> .bin op (opd x) (opd y) (isC x || isC y) (Aq E 5 t)
 | .unOp op _ x=> .un op (opd x)
 | .convert s d x=>(match und E s with
  |some (.int _)=>(match und E d with|some (.int k)=> .conv k (opd x)|_=> .bad)
  |some (.slice e)=>(match und E d with
   |some .string=>(match und E e with|some (.int .u8)=> .b2s (opd x)|_=> .bad)
   |some (.slice e')=>(match Nat.beq s d,und E e' with|true,some (.int .u8)=> .cslice (opd x)|_,_=> .bad)
   |_=> .bad)
  |_=> .bad)
 | .makeInterface t x=>(match und E t with
  |some (.interface _)=> .bad
  |some _=> .mkif t (opd x)
  |none=> .bad)
 | .makeFunc fn a c=>(match Aaw fn with
  |some f=> .mkfn f (a.toList.map opd) (c.toList.map opd)
  |none=> .bad)
 | .makeMap _ r=>(match r with|none=> .mkmap|some _=> .bad)
 | .makeSlice t l c=>(match und E t with
  |some (.slice e)=>match Bu E e,Em E e with
   |some _,some z=> .mkslice ((C9 E e)) z (opd l) (opd c)
   |_,_=> .bad
  |_=> .bad)
 | .slice t x lo hi mx=>(match und E t with
  |some (.array n e)=>(match Bu E e with|some s=> .sliceA n s (opd x) (lo.map opd) (hi.map opd) (mx.map opd)|none=> .bad)
  |some (.slice e)=>(match Bu E e with|some s=> .sliceS s (opd x) (lo.map opd) (hi.map opd) (mx.map opd)|none=> .bad)
  |some (.pointer a)=>(match und E a with
   |some (.array n e)=>(match Bu E e with|some s=> .sliceA n s (opd x) (lo.map opd) (hi.map opd) (mx.map opd)|none=> .bad)
   |_=> .bad)
  |_=> .bad)
 | .fieldAddr s x f=>(match und E s with
  |some (.struct fs)=>match fs[f]? with
   |some fd=>match Bu E fd.type with
    |some _=> .faddr (opd x) fd.offset
    |none=> .bad
   |none=> .bad
  |_=> .bad)
 | .field t x f=>(match und E t with
  |some (.struct fs)=>match fs[f]? with
   |some fd=>match inf E fd.type,H6 E fd.type with
    |some i,some true=> .fieldN (opd x) fd.offset i.size
    |some _,some false=> .field1 (opd x) fd.offset
    |_,_=> .bad
   |none=> .bad
  |_=> .bad)
 | .indexAddr t x ix=>(match und E t with
  |some (.array n e)=>(match Bu E e with|some s=> .iaddrA n s (opd x) (opd ix)|none=> .bad)
  |some (.slice e)=>(match Bu E e with|some s=> .iaddrS s (opd x) (opd ix)|none=> .bad)
  |_=> .bad)
 | .index t x ix=>(match und E t with
  |some (.array n e)=>match inf E e,H6 E e with
   |some i,some true=> .indexN n i.size (opd x) (opd ix)
   |some i,some false=>(match Nat.beq i.size 1 with|true=> .index1 n (opd x) (opd ix)|false=> .bad)
   |_,_=> .bad
  |some .string=> .indexT (opd x) (opd ix)
  |_=> .bad)
 | .lookup t m k ok=>(match und E t with
  |some (.map kt e)=>match F8 E kt,Mb E e with
   |some sh,some z=> .lookup sh z (opd m) (opd k) ok
   |_,_=> .bad
  |_=> .bad)
 | .mapUpdate t m k x=>(match und E t with
  |some (.map kt _)=>match F8 E kt with
   |some sh=> .mupd sh (opd m) (opd k) (opd x)
   |none=> .bad
  |_=> .bad)
 | .mapEntry t m k=>(match und E t with
  |some (.map kt e)=>match F8 E kt,Mb E e with
   |some sh,some z=> .ment sh z (opd m) (opd k)
   |_,_=> .bad
  |_=> .bad)
 | .entryStore _ m s x=> .mstore (opd m) (opd s) (opd x)
 | .range t x=>(match und E t with
  |some (.map _ _)=> .rangeM (opd x)
  |_=> .bad)
 | .next it isString=>(match isString with|false=> .nextM (opd it)|true=> .bad)
 | .entry it=> .entry (opd it)
 | .typeAssert x _ t ok=>(match und E t with
  |some (.interface _)=> .bad
  |some _=>(match Mb E t with
   |some z=> .tassert (opd x) t z ok
   |none=> .bad)
  |none=> .bad)
 | .extract x i=> .extract (opd x) i
 | .call c=>(match c.callee with
  | .value f=> .callv (opd f) (c.args.toList.map opd)
  | .invoke _ _=> .bad
  | .builtin b=>J7 E b c.args.toList c.argTypes.toList)
 | .defer c=>(match c.callee with
  | .value f=> .defer (opd f) (c.args.toList.map opd)
  |_=> .bad)
 | .panic x=> .panic (opd x)
 |_=> .bad
def Mc (nt:Nat)(d:Option Nat):Bool:=
 match d with
 |none=>true
 |some d=>Nat.ble (Nat.succ d) nt
def J8 (ops:Array Oper)(g:Option (Nat×Bool)):Option (Option (Nat×Bool)):=
 match g with
 |none=>some none
 |some (j,b)=>match(ops[j]?).bind (·.dst)with
  |some d=>some (some (d,b))
  |none=>none
def J9 (nt:Nat)(ops:Array Oper)(o:Oper):CI:=
 match Mc nt o.dst,J8 ops o.guard with
 |true,some g=>⟨o.dst,g,Ak E o.op⟩
 |_,_=>⟨none,none,.bad⟩
def cls (c:COp):Nat:=
 match c with
 | .mv _=>0
 | .pick _ _ _=>0
 | .build _ _=>0
 | .nilc _=>0
 | .bin _ _ _ _ _=>0
 | .un _ _=>0
 | .conv _ _=>0
 | .mkif _ _=>0
 | .mkfn _ _ _=>0
 | .sliceS _ _ _ _ _=>0
 | .sliceA _ _ _ _ _ _=>0
 | .faddr _ _=>0
 | .field1 _ _=>0
 | .fieldN _ _ _=>0
 | .iaddrA _ _ _ _=>0
 | .iaddrS _ _ _=>0
 | .index1 _ _ _=>0
 | .indexT _ _=>0
 | .indexN _ _ _ _=>0
 | .tassert _ _ _ _=>0
 | .extract _ _=>0
 | .lenS _=>0
 | .lenT _=>0
 | .capS _=>0
 | .lenC _=>0
 | .maxmin _ _ _=>0
 | .load1 _=>1
 | .loadN _ _=>1
 | .b2s _=>1
 | .lookup _ _ _ _ _=>1
 | .lenM _=>1
 | .alloc _=>2
 | .box _ _=>2
 | .bslice _ _ _=>2
 | .mkmap=>2
 | .mkslice _ _ _ _=>2
 |_=>3
def tb (m n:Nat):Bool:=Nat.beq (Nat.land (Nat.shiftRight m n) 1) 1
def Bj (nt:Nat)(ops:Array Oper)(j:Nat):CI:=match ops[j]? with|some o=>J9 E nt ops o|none=>⟨none,none,.bad⟩
def up (l:List Operand):List Nat:=l.filterMap fun| .tmp t=>some t|_=>none
def Nb (ops:Array Oper)(j:Nat):List Nat:=
 match ops[j]? with
 |some o=>List.append (match o.guard with|some (g,_)=>(match(ops[g]?).bind (·.dst)with|some d=> [d]|none=> [])|none=> []) (up o.op.operands.toList)
 |none=> []
structure Row where
 j:Nat
 d:DI
 bits:Nat
structure Reg where
 ops:Array Oper
 bits:Nat→Nat
def tl (nt:Nat)(ops:Array Oper)(b:Nat→Nat)(j:Nat):Row:=⟨j,⟨Bj E nt ops j,Nb ops j⟩,b j⟩
def Au (nt:Nat)(R:Reg):List Row:=(List.range R.ops.size).map (tl E nt R.ops R.bits)
def Lb (r:Row):Nat:=cls r.d.ci.op
def Qd (r:Row):Bool:=Nat.beq (Lb r) 3
def Cq (l:List Row):List Row:=l.filter Qd
def Dh (l:List Row):List Row:=l.filter fun r=>!Qd r
def cnt (es:List Row)(r:Row):Nat:=(es.filter fun e=>tb r.bits e.j).length
def Md (l:List Row):Bool:=l.any fun r=>Nat.beq (Lb r) 2
def E3 (ne es:List Row)(k:Nat):List Row:=ne.filter fun r=>Nat.beq (cnt es r) k
def W7 (ne es:List Row)(e:Row)(k:Nat):List Row:=ne.filter fun r=>match Nat.beq (Lb r) 2 with
 |true=>false
 |false=>match Nat.ble (cnt es r) k with
  |true=>!(tb e.bits r.j)
  |false=>Nat.beq (cnt es r) (Nat.succ k) && Nat.beq (Lb r) 1 && Md (E3 ne es (Nat.succ k))
def Rw (ne es:List Row):List Row:=ne.filter fun r=>Nat.beq (cnt es r) 0 && Nat.beq (Lb r) 1 && Md (E3 ne es 0)
def Gr (r:Row):DI:=r.d
def Ba (ne es:List Row):List Row→Nat→List Ph
 | [],_=> []
 |e::r,k=>⟨e.d,(E3 ne es (Nat.succ k)).map Gr,(W7 ne es e k).map Gr⟩::Ba ne es r (Nat.succ k)
def tn (d:Nat)(o:Option Nat):Bool:=match o with|none=>true|some e=>!(Nat.beq d e)
def Rx (i r:Row):Bool:=match i.d.ci.dst with
 |none=>true
 |some d=>match Nat.beq r.j i.j with
  |true=>!(La d i.d.names)
  |false=>tn d r.d.ci.dst && (!(La d r.d.names) || tb r.bits i.j)
def Ka:List Row→Bool
 | []=>true
 |e::r=>r.all (fun f=>tb f.bits e.j) && Ka r
def U2 (l es:List Row)(i:Row):Bool:=
 l.all (Rx i) && (es.take (cnt es i)).all (fun e=>tb i.bits e.j) && (!(Nat.beq (Lb i) 2) || (es.drop (cnt es i)).all fun e=>tb e.bits i.j)
def de (l es:List Row)(i:Row):Bool:=l.all fun k=>!(tb i.bits k.j) || !(Nat.beq (cnt es i) (cnt es k)) || Nat.ble (Nat.succ k.j) i.j
def E4 (l:List Row):Bool:=
 l.all (fun r=>!(tb r.bits r.j)) && (Dh l).all (de (Dh l) (Cq l)) && (Dh l).all (U2 l (Cq l)) && Ka (Cq l)
def Ny (b:Array Nat)(j:Nat):Nat:=b.getD j 0
def Lc (ops:Array Oper):Reg:=⟨ops,Ny (Region.before ops)⟩
def Nz (ops:Array Oper):Bool:=(List.range ops.size).all fun j=>Nat.ble (Nat.succ (Ny (Region.before ops) j)) (Nat.pow 2 j)
def Jq (b:Nat→Nat)(i e:Nat):Nat→Nat:=fun j=>match Nat.beq j e || tb (b j) e with
 |true=>Nat.lor (Nat.lor (b j) (Nat.pow 2 i)) (b i)
 |false=>b j
def tp (l:List Row):Option (Nat×Nat):=
 match(l.filter fun r=>Nat.beq (Lb r) 2).filterMap fun i=>match(Cq l).filter fun e=>!(tb i.bits e.j) && !(tb e.bits i.j)with
  | []=>none
  |e::_=>some (i.j,e.j)with
 | []=>none
 |p::_=>some p
def En (nt:Nat)(ops:Array Oper):Nat→(Nat→Nat)→List (Nat→Nat)
 |0,b=> [b]
 |f+1,b=>match tp (Au E nt ⟨ops,b⟩)with
  |none=> [b]
  |some (i,e)=>match Nat.ble (Nat.succ i) ops.size && Nat.ble (Nat.succ e) ops.size && !(Nat.beq i e)with
   |true=>List.append (En nt ops f (Jq b i e)) (En nt ops f (Jq b e i))
   |false=> [b]
def yn (l:List Row):Alt:=⟨(E3 (Dh l) (Cq l) 0).map Gr,(Rw (Dh l) (Cq l)).map Gr,Ba (Dh l) (Cq l) (Cq l) 0⟩
def D6 (nt:Nat)(ops:Array Oper)(draw:Bool):CC:=
 match draw with
 |false=> .ops (ops.toList.map (J9 E nt ops))
 |true=>match Nz ops with
  |false=> .bad
  |true=>match E4 (Au E nt (Lc ops))with
   |true=> .drawn ((E3 (Dh (Au E nt (Lc ops))) (Cq (Au E nt (Lc ops))) 0).map Gr) ((Rw (Dh (Au E nt (Lc ops))) (Cq (Au E nt (Lc ops)))).map Gr)
    (Ba (Dh (Au E nt (Lc ops))) (Cq (Au E nt (Lc ops))) (Cq (Au E nt (Lc ops))) 0)
   |false=>match(En E nt ops 8 (Lc ops).bits).all fun b=>E4 (Au E nt ⟨ops,b⟩)with
    |true=> .alts ((En E nt ops 8 (Lc ops).bits).map fun b=>yn (Au E nt ⟨ops,b⟩))
    |false=> .bad
def A3 (nt:Nat):Code→CC
 | .skip=> .skip
 | .region _ ops draw=>D6 E nt ops draw
 | .seq a b=> .seq (A3 nt a) (A3 nt b)
 | .cond c a b=> .cond (opd c) (A3 nt a) (A3 nt b)
 | .block id b=> .block id (A3 nt b)
 | .loop b=> .loop (A3 nt b)
 | .rangeFunc f ps a b=>match ps.toList.all (fun p=>Nat.ble (Nat.succ p) nt)with
  |true=> .rangeFunc (opd f) ps.toList (A3 nt a) (A3 nt b)
  |false=> .bad
 | .exit id=> .exit id
 | .scope b=> .scope (A3 nt b)
 | .label l=> .label l
 | .goto l=> .goto l
 | .ret=> .ret
 | .refuse _=> .bad
def Nd (r:ResultVar):CRes:=
 match r with
 | .tmp t=> .tmp t
 | .cell a t=>match inf E t with
  |some i=>match H6 E t with
   |some true=> .cellN a i.size
   |some false=> .cell1 a
   |none=> .bad
  |none=> .bad
def W8 (f:Func)(c:Code):CFn:=⟨f.ntmps,f.results.toList.map (Nd E),A3 E f.ntmps c⟩
def Nf:Nat→List Func→T CFn→T CFn
 |_,[],t=>t
 |i,f::r,t=>Nf (Nat.succ i) r (match f.body with
  |some c=>T.set t i (some (W8 E f c))
  |none=>t)
end
noncomputable def I1:Nat→List TypeInfo→T TypeInfo→T TypeInfo
 |_,[],t=>t
 |n,i::r,t=>I1 (Nat.succ n) r (T.set t n (some i))
inductive Out where
 |one (c:Conf)
 |many (l:List Conf)
 |done (fn:Nat) (v:AV) (h:H)
 |fail
noncomputable def put (tm:T AV)(d:Option Nat)(v:AV):T AV:=
 match d with
 |none=>tm
 |some d=>T.set tm d (some v)
noncomputable def wanted (tm:T AV)(g:Option (Nat×Bool)):Option Bool:=
 match g with
 |none=>some true
 |some (t,b)=>match T.get tm t with
  |some (.bool c)=>some (bEq c b)
  |some (.tup [])=>some false
  |_=>none
def findLabel:CC→Nat→Option CC
 | .seq a b,l=>match findLabel a l with
  |some r=>some (.seq r b)
  |none=>findLabel b l
 | .label l',l=>match Nat.beq l' l with|true=>some .skip|false=>none
 |_,_=>none
def exitTo (id:Nat):List AItem→Option (List AItem)
 | []=>none
 |i::k=>match i with
  | .inBlock id'=>match Nat.beq id' id with|true=>some k|false=>exitTo id k
  |_=>exitTo id k
def gotoIn (l:Nat):List AItem→Option (List AItem)
 | []=>none
 |i::k=>match i with
  | .inScope b=>match findLabel b l with
   |some r=>some (.code r:: .inScope b::k)
   |none=>gotoIn l k
  |_=>gotoIn l k
noncomputable def only (tm:T AV):List Nat→T AV
 | []=> .leaf
 |t::r=>match T.get tm t with
  |some v=>T.set (only tm r) t (some v)
  |none=>only tm r
noncomputable def Gs:List DI→T AV→H→Option (T AV×H)
 | []=>fun tm h=>some (tm,h)
 |i::r=>fun tm h=>match wanted (only tm i.names) i.ci.guard with
  |some true=>match exec i.ci.op h (only tm i.names)with
   | .val v h'=>Gs r (put tm i.ci.dst v) h'
   |_=>none
  |some false=>Gs r (put tm i.ci.dst (.tup [])) h
  |none=>none
def oj (f:AFn):AFn→Bool:=
 match f with
 | .func a=>fun| .func b=>Nat.beq a b| .yield _=>false
 | .yield _=>fun _=>false
def Gt (f:AV→AV→Bool):List AV→List AV→Bool
 | []=>fun| []=>true|_::_=>false
 |a::r=>fun| []=>false|b::s=>match f a b with|true=>Gt f r s|false=>false
def vEq (u w:Value):Bool:=
 match u with
 | .slice (some a) n c=>(match w with
  | .slice (some a') n' c'=>(match Nat.beq a.block a'.block,Nat.beq a.off a'.off,Nat.beq n n',Nat.beq c c' with
   |true,true,true,true=>(match a.spot with
    |none=>(match a'.spot with|none=>true|some _=>false)
    |some s=>(match a'.spot with|none=>false|some s'=>Nat.beq s s'))
   |_,_,_,_=>false)
  |_=>false)
 |_=>false
def E9 (d:Nat):AV→AV→Bool:=
 match d with
 |0=>fun _ _=>false
 |Nat.succ d=>fun x=>match x with
  | .bool a=>fun y=>match y with| .bool b=>bEq a b|_=>false
  | .int k a=>fun y=>match y with| .int j b=>(match kEq k j with|true=>iEq a b|false=>false)|_=>false
  | .str a=>fun y=>match y with| .str b=>K8 a b|_=>false
  | .nilp=>fun y=>match y with| .nilp=>true|_=>false
  | .ptr b o=>fun y=>match y with| .ptr b' o'=>(match Nat.beq b b' with|true=>Nat.beq o o'|false=>false)|_=>false
  | .nils=>fun y=>match y with| .nils=>true|_=>false
  | .slc b o n c=>fun y=>match y with
   | .slc b' o' n' c'=>(match Nat.beq b b',Nat.beq o o',Nat.beq n n',Nat.beq c c' with|true,true,true,true=>true|_,_,_,_=>false)
   |_=>false
  | .nilm=>fun y=>match y with| .nilm=>true|_=>false
  | .map r=>fun y=>match y with| .map r'=>Nat.beq r r'|_=>false
  | .fn f a c=>fun y=>match y with
   | .fn g a' c'=>(match oj f g,Gt (E9 d) a a',Gt (E9 d) c c' with|true,true,true=>true|_,_,_=>false)
   |_=>false
  | .nilf=>fun y=>match y with| .nilf=>true|_=>false
  | .ifc t v=>fun y=>match y with| .ifc u w=>(match Nat.beq t u with|true=>E9 d v w|false=>false)|_=>false
  | .nili=>fun y=>match y with| .nili=>true|_=>false
  | .agg l=>fun y=>match y with| .agg l'=>Gt (E9 d) l l'|_=>false
  | .tup l=>fun y=>match y with| .tup l'=>Gt (E9 d) l l'|_=>false
  | .opq u=>fun y=>match y with| .opq w=>vEq u w|_=>false
  | .unk=>fun _=>false
noncomputable def Me:List DI→T AV→T AV
 | []=>fun tm=>tm
 |i::r=>fun tm=>Me r (match i.ci.dst with|some d=>T.set tm d none|none=>tm)
noncomputable def holds (tm:T AV)(d:Option Nat)(v:AV):Bool:=
 match d with
 |none=>true
 |some d=>match T.get tm d with
  |some u=>E9 20 v u
  |none=>false
noncomputable def check (i:DI)(tm:T AV)(h:H):Bool:=
 match wanted (only tm i.names) i.ci.guard with
 |some false=>holds tm i.ci.dst (.tup [])
 |none=>false
 |some true=>match exec i.ci.op h (only tm i.names)with
  | .val v _=>holds tm i.ci.dst v
  |_=>false
noncomputable def checks:List DI→T AV→H→Bool
 | []=>fun _ _=>true
 |i::r=>fun tm h=>match check i tm h with
  |true=>checks r tm h
  |false=>false
noncomputable def results (tm:T AV)(h:H):List CRes→Option (List AV)
 | []=>some []
 |x::r=>match results tm h r with
  |none=>none
  |some l=>match x with
   | .tmp t=>some (ev tm (.t t)::l)
   | .cell1 a=>match ev tm (.t a)with
    | .ptr b o=>match H.get h b with
     |some (.cells _ k c)=>match Nat.ble (Nat.succ o) k,T.get c o with
      |true,some v=>some (v::l)
      |_,_=>none
     |_=>none
    |_=>none
   | .cellN a n=>match ev tm (.t a)with
    | .ptr b o=>match cellsAt h b o n with
     |some v=>some (.agg v::l)
     |none=>none
    |_=>none
   | .bad=>none
def single (l:List AV):AV:=
 match l with
 | [v]=>v
 |l=> .tup l
def settle (m:AMode):AMode:=
 match m with
 | .panicking ((_,true)::_)=> .returning
 |m=>m
def raise (m:AMode)(l:List (AV×Bool)):AMode:=
 match m with
 | .panicking c=> .panicking (List.append l c)
 |_=> .panicking l
inductive OR where
 |fin (tm:T AV) (h:H)
 |at_ (i:CI) (r:List CI) (tm:T AV) (h:H) (x:R)
 |fail
noncomputable def C8:List CI→T AV→H→OR
 | []=>fun tm h=> .fin tm h
 |i::r=>fun tm h=>match wanted tm i.guard with
  |some true=>(match exec i.op h tm with
   | .val v h'=>C8 r (put tm i.dst v) h'
   | .fail=> .fail
   |x=> .at_ i r tm h x)
  |some false=>C8 r (put tm i.dst (.tup [])) h
  |none=> .fail
noncomputable def Cr:List Nat→List AV→T AV→Option (T AV)
 | [],[],tm=>some tm
 |p::ps,a::as,tm=>Cr ps as (T.set tm p (some a))
 |_,_,_=>none
noncomputable def Ds (pre chk:List DI)(l:List Ph)(k:List AItem)(fn nt:Nat)(tm:T AV)(defers:List ADef)(dfd:Bool)(ro:Option Nat)(cs:List AFr)(h:H):Out:=
 match Gs pre tm h with
 |none=> .fail
 |some (tm,h)=>match checks chk tm h with
  |false=> .fail
  |true=>match l with
   | []=> .one ⟨⟨fn,nt,tm,k,defers,.run,dfd,ro⟩,cs,h⟩
   |p::l=> .one ⟨⟨fn,nt,tm,.drawn p l::k,defers,.run,dfd,ro⟩,cs,h⟩
noncomputable def S7:List Out→Out
 | []=> .many []
 |o::r=>match o with
  | .one c=>(match S7 r with
   | .many l=> .many (c::l)
   |_=> .fail)
  |_=> .fail
noncomputable def finish (v:AV)(cs:List AFr)(h:H)(c:AFr):Out:=
 match c with
 |⟨fn,nt,tm,todo,defers,mode,dfd,ro⟩=>match mode with
  | .run=>match todo with
   | []=> .fail
   |i::k=>match i with
    | .ops l=>(match l with
     | []=> .fail
     |i::r=>match i with
      |⟨dst,_,op⟩=>match op with
       | .bad=> .fail
       |_=> .one ⟨⟨fn,nt,put tm dst v,.ops r::k,defers,.run,dfd,ro⟩,cs,h⟩)
    | .drawn p l=>(match p with
     |⟨⟨⟨dst,_,op⟩,_⟩,pre,chk⟩=>match op with
      | .bad=> .fail
      |_=>Ds pre chk l k fn nt (put tm dst v) defers dfd ro cs h)
    | .inRF l=> .one ⟨⟨fn,nt,tm,.endRF l::k,defers,.run,dfd,ro⟩,cs,h⟩
    |_=> .fail
  |_=> .fail
noncomputable def memo (K:T (List AV×AV))(f:Nat)(args:List AV):Option AV:=
 match T.get K f with
 |none=>none
 |some p=>match Gt (E9 20) p.1 args with
  |true=>some p.2
  |false=>none
noncomputable def S8 (dfd:Bool)(K:T (List AV×AV))(f:Nat)(args:List AV):Option AV:=
 match dfd with
 |true=>none
 |false=>memo K f args
section
variable (F:T CFn)(K:T (List AV×AV))
noncomputable def Br (f:AFn):List AV→Bool→AFr→List AFr→H→Out:=
 match f with
 | .func f=>fun args dfd fr cs h=>match T.get F f with
  |some g=>match S8 dfd K f args with
   |some v=>finish v cs h fr
   |none=>match Nat.ble args.length g.ntmps with
    |true=> .one ⟨⟨f,g.ntmps,ofL 0 .leaf args,[.code g.body],[],.run,dfd,none⟩,fr::cs,h⟩
    |false=> .fail
  |none=> .fail
 | .yield l=>fun args dfd fr cs h=>match H.get h l with
  |some (.loop r)=>match Cr r.params args r.tmps with
   |some tm=> .one ⟨⟨r.fn,r.nt,tm,[.code r.assign,.beginRound,.code r.body],[],.run,dfd,some l⟩,fr::cs,h⟩
   |none=> .fail
  |_=> .fail
noncomputable def N0 (dfd:Bool)(v:AV)(cs:List AFr)(h:H):Out:=
 match cs with
 | []=> .fail
 |c::cs=>match dfd with
  |true=>match c with
   |⟨fn,nt,tm,todo,defers,mode,d,ro⟩=> .one ⟨⟨fn,nt,tm,todo,defers,settle mode,d,ro⟩,cs,h⟩
  |false=>finish v cs h c
noncomputable def doReturn (fn:Nat)(dfd:Bool)(v:AV)(cs:List AFr)(h:H):Out:=
 match cs with
 | []=>match dfd with
  |false=> .done fn v h
  |true=> .fail
 |cs=>N0 dfd v cs h
noncomputable def leave (jump:Option CC)(fn nt:Nat)(tm:T AV)(todo:List AItem)(defers:List ADef)(dfd:Bool)(ro:Option Nat)(cs:List AFr)(h:H):Out:=
 match ro with
 |none=> .one ⟨⟨fn,nt,tm,todo,defers,.returning,dfd,none⟩,cs,h⟩
 |some l=>match H.get h l with
  |some (.loop ⟨_,_,f,n,t,ps,a,b,d⟩)=>match jump with
   |none=>N0 dfd (.bool true) cs (H.set h l (.loop ⟨.ready,none,f,n,t,ps,a,b,d⟩))
   |some j=>match Nat.beq n nt with
    |true=>N0 dfd (.bool false) cs (H.set h l (.loop ⟨.done,some j,f,n,t,ps,a,b,d⟩))
    |false=> .fail
  |_=> .fail
noncomputable def S9 (o:OR)(k:List AItem)(fn nt:Nat)(defers:List ADef)(dfd:Bool)(ro:Option Nat)(cs:List AFr):Out:=
 match o with
 | .fail=> .fail
 | .fin tm h=> .one ⟨⟨fn,nt,tm,k,defers,.run,dfd,ro⟩,cs,h⟩
 | .at_ i r tm h x=>match x with
  | .call f args=>Br F K f args false ⟨fn,nt,tm,.ops (i::r)::k,defers,.run,dfd,ro⟩ cs h
  | .dfr f args=>(match ro with
   |none=> .one ⟨⟨fn,nt,put tm i.dst (.tup []),.ops r::k,.call f args::defers,.run,dfd,none⟩,cs,h⟩
   |some _=> .fail)
  | .pan v=> .one ⟨⟨fn,nt,tm,.ops (i::r)::k,defers,.panicking [(v,false)],dfd,ro⟩,cs,h⟩
  | .recover=>(match ro with
   |some _=> .fail
   |none=>match dfd with
    |false=> .one ⟨⟨fn,nt,put tm i.dst .nili,.ops r::k,defers,.run,false,none⟩,cs,h⟩
    |true=>match cs with
     | []=> .fail
     |c::cs=>match c with
      |⟨fn',nt',tm',todo',defers',mode',d',ro'⟩=>match mode' with
       | .panicking ((v,false)::o)=> .one ⟨⟨fn,nt,put tm i.dst v,.ops r::k,defers,.run,true,none⟩,⟨fn',nt',tm',todo',defers',.panicking ((v,true)::o),d',ro'⟩::cs,h⟩
       |m=> .one ⟨⟨fn,nt,put tm i.dst .nili,.ops r::k,defers,.run,true,none⟩,⟨fn',nt',tm',todo',defers',m,d',ro'⟩::cs,h⟩)
  | .next l=> .many (List.map (fun x=>⟨⟨fn,nt,put tm i.dst x.1,.ops r::k,defers,.run,dfd,ro⟩,cs,x.2⟩) l)
  | .val _ _=> .fail
  | .fail=> .fail
noncomputable def enterLoop (fn nt:Nat)(tm:T AV)(ps:List Nat)(a b:CC)(ro:Option Nat)(h:H):Option (Nat×List ADef×H):=
 match ro with
 |none=>some (Nat.succ h.n,[.mark h.n],H.new (H.new h (.dfr (some []))) (.loop ⟨.ready,none,fn,nt,tm,ps,a,b,h.n⟩))
 |some l=>match H.get h l with
  |some (.loop r)=>some (h.n,[],H.new h (.loop ⟨.ready,none,fn,nt,tm,ps,a,b,r.defers⟩))
  |_=>none
noncomputable def Bv (c:CC):List AItem→Nat→Nat→T AV→List ADef→Bool→Option Nat→List AFr→H→Out:=
 match c with
 | .skip=>fun k fn nt tm defers dfd ro cs h=> .one ⟨⟨fn,nt,tm,k,defers,.run,dfd,ro⟩,cs,h⟩
 | .label _=>fun k fn nt tm defers dfd ro cs h=> .one ⟨⟨fn,nt,tm,k,defers,.run,dfd,ro⟩,cs,h⟩
 | .ret=>fun k fn nt tm defers dfd ro cs h=>leave (some .ret) fn nt tm (.code .ret::k) defers dfd ro cs h
 | .ops l=>fun k fn nt tm defers dfd ro cs h=>S9 F K (C8 l tm h) k fn nt defers dfd ro cs
 | .drawn pre chk l=>fun k fn nt tm defers dfd ro cs h=>Ds pre chk l k fn nt tm defers dfd ro cs h
 | .alts l=>fun k fn nt tm defers dfd ro cs h=>S7 (l.map fun a=>Ds a.pre a.chk a.l k fn nt tm defers dfd ro cs h)
 | .seq a b=>fun k fn nt tm defers dfd ro cs h=> .one ⟨⟨fn,nt,tm,.code a:: .code b::k,defers,.run,dfd,ro⟩,cs,h⟩
 | .cond x a b=>fun k fn nt tm defers dfd ro cs h=>match ev tm x with
  | .bool true=> .one ⟨⟨fn,nt,tm,.code a::k,defers,.run,dfd,ro⟩,cs,h⟩
  | .bool false=> .one ⟨⟨fn,nt,tm,.code b::k,defers,.run,dfd,ro⟩,cs,h⟩
  |_=> .fail
 | .block id b=>fun k fn nt tm defers dfd ro cs h=> .one ⟨⟨fn,nt,tm,.code b:: .inBlock id::k,defers,.run,dfd,ro⟩,cs,h⟩
 | .loop b=>fun k fn nt tm defers dfd ro cs h=> .one ⟨⟨fn,nt,tm,.code b:: .inLoop b::k,defers,.run,dfd,ro⟩,cs,h⟩
 | .scope b=>fun k fn nt tm defers dfd ro cs h=> .one ⟨⟨fn,nt,tm,.code b:: .inScope b::k,defers,.run,dfd,ro⟩,cs,h⟩
 | .exit id=>fun k fn nt tm defers dfd ro cs h=>match exitTo id k with
  |some k=> .one ⟨⟨fn,nt,tm,k,defers,.run,dfd,ro⟩,cs,h⟩
  |none=>(match ro with|some _=>leave (some (.exit id)) fn nt tm [] defers dfd ro cs h|none=> .fail)
 | .goto l=>fun k fn nt tm defers dfd ro cs h=>match gotoIn l k with
  |some k=> .one ⟨⟨fn,nt,tm,k,defers,.run,dfd,ro⟩,cs,h⟩
  |none=>(match ro with|some _=>leave (some (.goto l)) fn nt tm [] defers dfd ro cs h|none=> .fail)
 | .rangeFunc f ps a b=>fun k fn nt tm defers dfd ro cs h=>match enterLoop fn nt tm ps a b ro h with
  |none=> .fail
  |some (l,mark,h)=>(match ev tm f with
   | .fn g first cap=>Br F K g (List.append first (.fn (.yield l) [] []::cap)) false ⟨fn,nt,tm,.inRF l::k,List.append mark defers,.run,dfd,ro⟩ cs h
   |_=> .fail)
 | .bad=>fun _ _ _ _ _ _ _ _ _=> .fail
noncomputable def Bg (i:AItem):List AItem→Nat→Nat→T AV→List ADef→Bool→Option Nat→List AFr→H→Out:=
 match i with
 | .code c=>fun k fn nt tm defers dfd ro cs h=>Bv F K c k fn nt tm defers dfd ro cs h
 | .inBlock _=>fun k fn nt tm defers dfd ro cs h=> .one ⟨⟨fn,nt,tm,k,defers,.run,dfd,ro⟩,cs,h⟩
 | .inScope _=>fun k fn nt tm defers dfd ro cs h=> .one ⟨⟨fn,nt,tm,k,defers,.run,dfd,ro⟩,cs,h⟩
 | .inLoop b=>fun k fn nt tm defers dfd ro cs h=> .one ⟨⟨fn,nt,tm,.code b:: .inLoop b::k,defers,.run,dfd,ro⟩,cs,h⟩
 | .ops l=>fun k fn nt tm defers dfd ro cs h=>S9 F K (C8 l tm h) k fn nt defers dfd ro cs
 | .drawn p l=>fun k fn nt tm defers dfd ro cs h=>match wanted (only tm p.eff.names) p.eff.ci.guard with
  |none=> .fail
  |some false=>Ds p.pre p.chk l k fn nt (put tm p.eff.ci.dst (.tup [])) defers dfd ro cs h
  |some true=>(match exec p.eff.ci.op h (only tm p.eff.names)with
   | .val v h=>Ds p.pre p.chk l k fn nt (put tm p.eff.ci.dst v) defers dfd ro cs h
   | .call f args=>Br F K f args false ⟨fn,nt,tm,.drawn p l::k,defers,.run,dfd,ro⟩ cs h
   |_=> .fail)
 | .inRF _=>fun _ _ _ _ _ _ _ _ _=> .fail
 | .gone=>fun _ _ _ _ _ _ _ _ _=> .fail
 | .endRF l=>fun k fn nt tm defers dfd ro cs h=>match H.get h l with
  |some (.loop ⟨st,p,f,n,t,ps,a,b,d⟩)=>(match st with
   | .busy=> .fail
   |_=>match p with
    |some j=>(match Nat.beq n nt with
     |true=> .one ⟨⟨fn,nt,tm,.code j::k,defers,.run,dfd,ro⟩,cs,H.set h l (.loop ⟨.exhausted,p,f,n,t,ps,a,b,d⟩)⟩
     |false=> .fail)
    |none=> .one ⟨⟨fn,nt,tm,k,defers,.run,dfd,ro⟩,cs,H.set h l (.loop ⟨.exhausted,p,f,n,t,ps,a,b,d⟩)⟩)
  |_=> .fail
 | .beginRound=>fun k fn nt tm defers dfd ro cs h=>match ro with
  |none=> .fail
  |some l=>match H.get h l with
   |some (.loop ⟨st,p,f,n,t,ps,a,b,d⟩)=>(match st with
    | .ready=> .one ⟨⟨fn,nt,tm,k,defers,.run,dfd,ro⟩,cs,H.set h l (.loop ⟨.busy,p,f,n,t,ps,a,b,d⟩)⟩
    |_=> .fail)
   |_=> .fail
noncomputable def unwind (fn nt:Nat)(tm:T AV)(todo:List AItem)(mode:AMode)(dfd:Bool)(ro:Option Nat)(cs:List AFr)(h:H)(defers:List ADef):Out:=
 match defers with
 |d::ds=>(match d with
  | .mark b=>(match H.get h b with
   |some (.dfr (some l))=> .one ⟨⟨fn,nt,tm,todo,List.append l ds,mode,dfd,ro⟩,cs,H.set h b (.dfr none)⟩
   |_=> .fail)
  | .call f args=>Br F K (.func f) args true ⟨fn,nt,tm,todo,ds,mode,dfd,ro⟩ cs h)
 | []=>match mode with
  | .run=> .fail
  | .panicking chain=>(match T.get F fn with
   |none=> .fail
   |some _=>match cs with
    | []=> .fail
    |c::cs=>match c with
     |⟨fn,nt,tm,todo,defers,mode,dfd,ro⟩=>match todo with
      | .drawn p _::_=> .one ⟨⟨fn,nt,Me p.chk tm,[.gone],defers,raise mode chain,dfd,ro⟩,cs,h⟩
      |_=> .one ⟨⟨fn,nt,tm,todo,defers,raise mode chain,dfd,ro⟩,cs,h⟩)
  | .returning=>match T.get F fn with
   |none=> .fail
   |some g=>match results tm h g.results with
    |some l=>doReturn fn dfd (single l) cs h
    |none=> .fail
noncomputable def step (c:Conf):Out:=
 match c with
 |⟨⟨fn,nt,tm,todo,defers,mode,dfd,ro⟩,cs,h⟩=>match mode with
  | .run=>(match todo with
   | []=>leave none fn nt tm [] defers dfd ro cs h
   |i::k=>Bg F K i k fn nt tm defers dfd ro cs h)
  |m=>unwind F K fn nt tm todo m dfd ro cs h defers
inductive Safe (Q:Nat→AV→H→Prop):Conf→Prop where
 |one {c c':Conf}:step F K c= .one c'→Safe Q c'→Safe Q c
 |many {c:Conf} {l:List Conf}:step F K c= .many l→(∀c'∈l,Safe Q c')→Safe Q c
 |done {c:Conf} {fn:Nat} {v:AV} {h:H}:step F K c= .done fn v h→Q fn v h→Safe Q c
end
end Go.Ev
