/- The last segment of the run. -/
import Derived.Test.YtgkianlpkdfhkaaGreatRHC0
set_option linter.unusedVariables false
set_option maxRecDepth 1000000
namespace Go.Proofs.YtgkianlpkdfhkaaGreat.evRun
open Go.Ev
theorem s0:Su FF KK (qIs 9 (.bool true)) 26100 k0=true:=by kernel_rfl
