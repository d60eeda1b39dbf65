/- The call of digest.table, run. -/
import Derived.Test.YtgkianlpkdfhkaaGreatRMA
set_option linter.unusedVariables false
set_option maxRecDepth 1000000
namespace Go.Proofs.YtgkianlpkdfhkaaGreat.evRun
open Go.Ev
theorem rT:O7 FF .leaf (qIs 200 tabV) 33000 cT=true:=by kernel_rfl
theorem hK:MemOk Tryz.prog KK:=MemOk.leaf.add hT (P7 sT) (Sn hE hT MemOk.leaf rT) (by kernel_rfl) (by kernel_rfl)
end Go.Proofs.YtgkianlpkdfhkaaGreat.evRun
