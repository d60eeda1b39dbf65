/- A segment of the run. -/
import Derived.Test.YtdfodpohcdohoaaGreatRunC1
set_option linter.unusedVariables false
set_option maxRecDepth 1000000
namespace Go.Proofs.YtdfodpohcdohoaaGreat.evRun
open Go.Ev

theorem s0 : segD FF KK 2 0 323 [0, 1, 4] [2, 3, 4, 5, 6, 7, 8, 45, 49, 50, 51, 52, 58, 59, 60, 61, 93, 101, 113, 116, 117, 200, 303, 320, 321, 322] 323 10743 k0 = some (List.replicate 1 (some k1)) := by kernel_rfl

end Go.Proofs.YtdfodpohcdohoaaGreat.evRun
