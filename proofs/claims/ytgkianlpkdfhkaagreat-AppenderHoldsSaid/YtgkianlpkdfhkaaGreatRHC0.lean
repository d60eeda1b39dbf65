/- Confs written down. -/
import Derived.Test.YtgkianlpkdfhkaaGreatRHA
set_option linter.unusedVariables false
set_option maxRecDepth 1000000
namespace Go.Proofs.YtgkianlpkdfhkaaGreat.evRun
open Go.Ev
abbrev I (n:Nat):AV:= .int .i64 (.ofNat n)
abbrev J (n:Nat):AV:= .int .u64 (.ofNat n)
abbrev Y (n:Nat):AV:= .int .u8 (.ofNat n)
abbrev W1:Nat:=4611686018427387905
abbrev W0:Nat:=4611686018427387904
def yBg:Nat→Nat→Nat→List AV
 |0,_,_=> []
 |f+1,i,x=> .int .u8 (.ofNat (Nat.mod (Nat.shiftRight x (Nat.mul 8 i)) 256))::yBg f (Nat.succ i) x
abbrev yB (n x:Nat):List AV:=yBg n 0 x
noncomputable def k0:Conf:=Yx (Ev.start FF 9 [])
theorem sW:Uw (Ev.start FF 9 [])=true:=by kernel_rfl
