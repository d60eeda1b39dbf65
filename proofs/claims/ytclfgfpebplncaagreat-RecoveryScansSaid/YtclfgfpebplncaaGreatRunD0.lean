/- A segment of the run. -/
import Derived.Test.YtclfgfpebplncaaGreatRunC0
set_option linter.unusedVariables false
set_option maxRecDepth 1000000
namespace Go.Proofs.YtclfgfpebplncaaGreat.evRun
open Go.Ev
theorem s0:U9 FF KK 2 0 683 [0,2,3,4,5,11,12,13,14,15,16,17,18,19,20,21,22,23,25,26,27,28] [2,3,4,5,6,7,8,45,49,50,51,52,58,59,60,61,93,101,113,116,117,200,303,320,393,464,560,643,668,669,671,672,673,674,675,677,680,682] 683 25944 k0=some (List.replicate 1 (some k1)):=by kernel_rfl
end Go.Proofs.YtclfgfpebplncaaGreat.evRun
