/- A segment of the run. -/
import Derived.Test.YtclfgfpebplncaaGreatRHC0
set_option linter.unusedVariables false
set_option maxRecDepth 1000000
namespace Go.Proofs.YtclfgfpebplncaaGreat.evRun
open Go.Ev
theorem s1:Xx FF KK 2 0 948 [[0,2,3,4,5,14,15,20,21,28],[0,4,5,6,7],[1]] [3,4,5,6,200,303,393,464,560,643,668,669,671,672,673,674,675,677,680,733,786,839,892,942,945,947] 948 22219 k1=some (List.replicate 1 (some k2)):=by kernel_rfl
