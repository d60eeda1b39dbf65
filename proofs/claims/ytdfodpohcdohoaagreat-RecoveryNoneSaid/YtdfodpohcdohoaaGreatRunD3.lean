/- A segment of the run. -/
import Derived.Test.YtdfodpohcdohoaaGreatRunC1
set_option linter.unusedVariables false
set_option maxRecDepth 1000000
namespace Go.Proofs.YtdfodpohcdohoaaGreat.evRun
open Go.Ev

theorem s3 : segD FF KK 2 0 1066 [0, 1, 4, 6, 7, 8, 9, 10, 11, 12, 13, 14, 15, 16, 17, 18, 19, 20] [2, 3, 4, 5, 6, 7, 8, 45, 49, 50, 51, 52, 58, 59, 60, 61, 93, 101, 113, 116, 117, 200, 303, 320, 393, 464, 560, 643, 668, 669, 671, 672, 673, 674, 675, 680, 733, 786, 839, 892, 945, 995, 1001, 1063, 1064, 1065] 1066 15342 k3 = some (List.replicate 1 (some k4)) := by kernel_rfl

end Go.Proofs.YtdfodpohcdohoaaGreat.evRun
