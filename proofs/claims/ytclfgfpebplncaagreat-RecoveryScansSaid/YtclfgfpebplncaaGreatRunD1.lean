/- A segment of the run. -/
import Derived.Test.YtclfgfpebplncaaGreatRunC0
set_option linter.unusedVariables false
set_option maxRecDepth 1000000
namespace Go.Proofs.YtclfgfpebplncaaGreat.evRun
open Go.Ev
theorem s1:U9 FF KK 2 0 948 [0,2,3,4,5,6,7,8,9,10,11,12,13,14,15,16,17,18,19,20,21,22,23,24,25,26,27,28,29,30,31,32,33,34,35,36,37,38,39,40,41,42,43,44,45,46,47,48,49,50,51,52,53,54,55] [2,3,4,5,6,7,8,45,49,50,51,52,58,59,60,61,93,101,113,116,117,200,303,320,393,464,560,643,668,669,671,672,673,674,675,677,680,733,786,839,892,894,940,941,942,945,947] 948 22219 k1=some (List.replicate 1 (some k2)):=by kernel_rfl
end Go.Proofs.YtclfgfpebplncaaGreat.evRun
