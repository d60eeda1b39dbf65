/- A segment of the run. -/
import Derived.Test.YtclfgfpebplncaaGreatRunC0
set_option linter.unusedVariables false
set_option maxRecDepth 1000000
namespace Go.Proofs.YtclfgfpebplncaaGreat.evRun
open Go.Ev
theorem s2:U9 FF KK 2 0 1296 [0,2] [2,3,4,5,6,7,8,45,49,50,51,52,58,59,60,61,93,101,113,116,117,200,303,320,393,464,560,643,668,669,671,672,673,674,675,680,733,786,839,892,945,995,1001,1118,1252,1254,1265,1295] 1296 11924 k2=some (List.replicate 16 (some k3)):=by kernel_rfl
end Go.Proofs.YtclfgfpebplncaaGreat.evRun
