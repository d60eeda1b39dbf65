/- A segment of the run. -/
import Derived.Test.YtclfgfpebplncaaGreatRHC0
set_option linter.unusedVariables false
set_option maxRecDepth 1000000
namespace Go.Proofs.YtclfgfpebplncaaGreat.evRun
open Go.Ev
theorem s0:Xx FF KK 2 0 683 [[0,2,3,4,5,14,15,20,21,28],[0,4,5,6,7],[1]] [3,4,5,6,200,303,393,464,560,643,668,669,671,672,673,674,675,677,680,682] 683 25944 k0=some (List.replicate 1 (some k1)):=by kernel_rfl
