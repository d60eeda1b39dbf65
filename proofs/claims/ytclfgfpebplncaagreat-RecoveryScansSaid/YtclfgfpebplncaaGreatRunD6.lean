/- The last segment of the run. -/
import Derived.Test.YtclfgfpebplncaaGreatRunC0
set_option linter.unusedVariables false
set_option maxRecDepth 1000000
namespace Go.Proofs.YtclfgfpebplncaaGreat.evRun
open Go.Ev
theorem s6:Rh FF KK (qIs 7 (.bool true)) 26100 k6=true:=by kernel_rfl
end Go.Proofs.YtclfgfpebplncaaGreat.evRun
