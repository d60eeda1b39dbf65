/- A segment of the run. -/
import Derived.Test.YtdfodpohcdohoaaGreatRunC1
set_option linter.unusedVariables false
set_option maxRecDepth 1000000
namespace Go.Proofs.YtdfodpohcdohoaaGreat.evRun
open Go.Ev

theorem s9 : segD FF KK 2 0 2187 [0, 1, 4, 6, 7, 8, 9, 10, 11, 12, 13, 14, 15, 16, 17, 18, 19, 20] [2, 3, 4, 5, 6, 7, 8, 45, 49, 50, 51, 52, 58, 59, 60, 61, 93, 101, 113, 116, 117, 200, 303, 320, 393, 464, 560, 643, 1316, 1328, 1330, 1331, 1789, 1790, 1792, 1793, 1794, 1795, 1796, 1801, 1854, 1907, 1960, 2013, 2066, 2116, 2122, 2184, 2185, 2186] 2187 15342 k9 = some (List.replicate 1 (some k10)) := by kernel_rfl

end Go.Proofs.YtdfodpohcdohoaaGreat.evRun
