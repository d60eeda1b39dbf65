/- A segment of the run. -/
import Derived.Test.YtclfgfpebplncaaGreatRunC0
set_option linter.unusedVariables false
set_option maxRecDepth 1000000
namespace Go.Proofs.YtclfgfpebplncaaGreat.evRun
open Go.Ev
theorem s4:U9 FF KK 2 0 1804 [0,2,3,4,5,11,12,13,14,15,16,17,18,19,20,21,22,23,25,26,27,28] [2,3,4,5,6,7,8,45,49,50,51,52,58,59,60,61,93,101,113,116,117,200,303,320,393,464,560,643,1316,1328,1330,1331,1789,1790,1792,1793,1794,1795,1796,1798,1801,1803] 1804 22071 k4=some (List.replicate 1 (some k5)):=by kernel_rfl
end Go.Proofs.YtclfgfpebplncaaGreat.evRun
