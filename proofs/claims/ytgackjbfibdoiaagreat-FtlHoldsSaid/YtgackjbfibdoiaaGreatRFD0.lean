import Derived.Test.YtgackjbfibdoiaaGreatRFA
set_option linter.all false
set_option maxRecDepth 1000000
namespace Go.Proofs.YtgackjbfibdoiaaGreat.evRun
open Go.Ev
theorem s0:vm FF KK 3 0 695 [[0,1],[4],[2],[5,7,9,86]] [4,5,6,7,8,9,45,98,330,331,366,367,368,394,401,547,671,689,693,694] 695 22002 k0=some (List.replicate 1 (some k1)):=by kernel_rfl
