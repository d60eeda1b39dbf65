/- The call of digest.table, run. -/
import Derived.Test.YtgkianlpkdfhkaaGreatRHA
set_option linter.unusedVariables false
set_option maxRecDepth 1000000
namespace Go.Proofs.YtgkianlpkdfhkaaGreat.evRun
open Go.Ev
theorem rT:Su FF .leaf (qIs 200 tabV) 33000 cT=true:=by kernel_rfl
theorem hK:MemOk Tryz.prog KK:=MemOk.leaf.add hT (Tt sT) (Wo hE hT MemOk.leaf rT) (by kernel_rfl) (by kernel_rfl)
