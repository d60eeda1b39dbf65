/- The last segment of the run. -/
import Derived.Test.YtclfgfpebplncaaGreatRHC0
set_option linter.unusedVariables false
set_option maxRecDepth 1000000
namespace Go.Proofs.YtclfgfpebplncaaGreat.evRun
open Go.Ev
theorem s6:Sk FF KK (qIs 7 (.bool true)) 26100 k6=true:=by kernel_rfl
