import Derived.Test.YtgackjbfibdoiaaGreatRFA
set_option linter.all false
set_option maxRecDepth 1000000
namespace Go.Proofs.YtgackjbfibdoiaaGreat.evRun
open Go.Ev
theorem s2:vm FF KK 7 0 1679 [[1],[4,6,8,9],[0,4,5,6,7],[0,1],[],[4],[],[5,9,120]] [5,6,45,331,368,1465,1466,1467,1469,1470,1471,1472,1473,1531,1584,1676,1677,1678] 1679 21891 k2=some (List.replicate 1 (some k3)):=by kernel_rfl
