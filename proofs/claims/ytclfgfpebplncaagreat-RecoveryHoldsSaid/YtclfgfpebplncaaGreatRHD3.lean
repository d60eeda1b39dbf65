/- A segment of the run. -/
import Derived.Test.YtclfgfpebplncaaGreatRHC0
set_option linter.unusedVariables false
set_option maxRecDepth 1000000
namespace Go.Proofs.YtclfgfpebplncaaGreat.evRun
open Go.Ev
theorem s3:Xx FF KK 2 0 1445 [[0,2,3,4,5,14,15,20,21,28],[0],[1,8,9]] [3,4,5,6,200,303,393,464,560,643,1316,1328,1330,1331,1333,1336,1389,1439,1442,1444] 1445 9855 k3=some (List.replicate 2 (some k4)):=by kernel_rfl
