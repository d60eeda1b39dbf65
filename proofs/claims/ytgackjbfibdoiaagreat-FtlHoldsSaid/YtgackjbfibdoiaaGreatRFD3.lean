import Derived.Test.YtgackjbfibdoiaaGreatRFA
set_option linter.all false
set_option maxRecDepth 1000000
namespace Go.Proofs.YtgackjbfibdoiaaGreat.evRun
open Go.Ev
theorem s3:vm FF KK 7 0 1856 [[0],[0,1],[0,4,5,14,104,105],[0,1],[],[4],[],[5,9,120]] [5,6,45,331,368,1465,1466,1467,1849,1851,1855] 1856 4391 k3=some (List.replicate 16 (some k4)):=by kernel_rfl
