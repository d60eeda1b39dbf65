/- A segment of the run. -/
import Derived.Test.YtclfgfpebplncaaGreatRHC0
set_option linter.unusedVariables false
set_option maxRecDepth 1000000
namespace Go.Proofs.YtclfgfpebplncaaGreat.evRun
open Go.Ev
theorem s5:Xx FF KK 2 0 2069 [[0,2,3,4,5,14,15,20,21,28],[4,5,7],[1,8,9,10,11,12]] [3,4,1316,1328,1330,1331,1789,1790,1793,1794,1795,1796,1798,1801,1854,1907,1960,2013,2063,2066,2068] 2069 22219 k5=some (List.replicate 1 (some k6)):=by kernel_rfl
