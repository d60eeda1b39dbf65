/- A segment of the run. -/
import Derived.Test.YtclfgfpebplncaaGreatRHC0
set_option linter.unusedVariables false
set_option maxRecDepth 1000000
namespace Go.Proofs.YtclfgfpebplncaaGreat.evRun
open Go.Ev
theorem s4:Xx FF KK 2 0 1804 [[0,2,3,4,5,14,15,20,21,28],[4,5,7],[1,8,9,10,11,12]] [3,4,5,6,303,393,464,560,643,1316,1328,1330,1331,1789,1790,1793,1794,1795,1796,1798,1801,1803] 1804 22071 k4=some (List.replicate 1 (some k5)):=by kernel_rfl
