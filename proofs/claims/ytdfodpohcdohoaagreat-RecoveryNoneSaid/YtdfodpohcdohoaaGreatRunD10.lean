/- The last segment of the run. -/
import Derived.Test.YtdfodpohcdohoaaGreatRunC1
set_option linter.unusedVariables false
set_option maxRecDepth 1000000
namespace Go.Proofs.YtdfodpohcdohoaaGreat.evRun
open Go.Ev

theorem s10 : runQ FF KK (qIs 9 (.bool true)) 16100 k10 = true := by kernel_rfl

end Go.Proofs.YtdfodpohcdohoaaGreat.evRun
