/- The call of digest.table, run. -/
import Derived.Test.YtclfgfpebplncaaGreatRHA
set_option linter.unusedVariables false
set_option maxRecDepth 1000000
namespace Go.Proofs.YtclfgfpebplncaaGreat.evRun
open Go.Ev
theorem rT:Sk FF .leaf (qIs 254 tabV) 33000 cT=true:=by kernel_rfl
theorem hK:MemOk Tryz.prog KK:=MemOk.leaf.add hT (Tk sT) (Wm hE hT MemOk.leaf rT) (by kernel_rfl) (by kernel_rfl)
