/- A segment of the run. -/
import Derived.Test.YtclfgfpebplncaaGreatRHC0
set_option linter.unusedVariables false
set_option maxRecDepth 1000000
namespace Go.Proofs.YtclfgfpebplncaaGreat.evRun
open Go.Ev
theorem s2:Xx FF KK 2 0 1296 [[0,2],[0,4,5,6,9,12,13,73,74,77],[1]] [3,4,5,6,200,303,393,464,560,643,668,669,671,672,675,995,1118,1254,1265,1295] 1296 11924 k2=some (List.replicate 16 (some k3)):=by kernel_rfl
