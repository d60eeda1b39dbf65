/- A segment of the run. -/
import Derived.Test.YtclfgfpebplncaaGreatRunC0
set_option linter.unusedVariables false
set_option maxRecDepth 1000000
namespace Go.Proofs.YtclfgfpebplncaaGreat.evRun
open Go.Ev
theorem s3:U9 FF KK 2 0 1445 [0,2,3,4,5,6,7,8,9,10,11,12,13,14,15,16,17,18,19,20,21,22,23,24,25,26,27,28,29,30,31,32,33,34,35,36,37,38,39,40,41,42,43,44,45,46,47,48,49,50,51,52,53,54] [2,3,4,5,6,7,8,45,49,50,51,52,58,59,60,61,93,101,113,116,117,200,303,320,393,464,560,643,1316,1328,1330,1331,1333,1336,1389,1391,1437,1438,1439,1442,1444] 1445 9855 k3=some (List.replicate 2 (some k4)):=by kernel_rfl
end Go.Proofs.YtclfgfpebplncaaGreat.evRun
