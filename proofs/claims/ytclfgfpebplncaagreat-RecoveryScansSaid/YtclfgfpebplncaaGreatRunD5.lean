/- A segment of the run. -/
import Derived.Test.YtclfgfpebplncaaGreatRunC0
set_option linter.unusedVariables false
set_option maxRecDepth 1000000
namespace Go.Proofs.YtclfgfpebplncaaGreat.evRun
open Go.Ev
theorem s5:U9 FF KK 2 0 2069 [0,2,3,4,5,6,7,8,9,10,11,12,13,14,15,16,17,18,19,20,21,22,23,24,25,26,27,28,29,30,31,32,33,34,35,36,37,38,39,40,41,42,43,44,45,46,47,48,49,50,51,52,53,54,55] [2,3,4,5,6,7,8,45,49,50,51,52,58,59,60,61,93,101,113,116,117,200,303,320,393,464,560,643,1316,1328,1330,1331,1789,1790,1792,1793,1794,1795,1796,1798,1801,1854,1907,1960,2013,2015,2061,2062,2063,2066,2068] 2069 22219 k5=some (List.replicate 1 (some k6)):=by kernel_rfl
end Go.Proofs.YtclfgfpebplncaaGreat.evRun
