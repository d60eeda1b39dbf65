import Derived.Test.YtgackjbfibdoiaaGreatRFA
set_option linter.all false
set_option maxRecDepth 1000000
namespace Go.Proofs.YtgackjbfibdoiaaGreat.evRun
open Go.Ev
theorem s1:vm FF KK 7 0 1323 [[0,1,4],[],[],[0,1],[],[4],[],[5,9,114]] [4,5,6,7,8,9,45,331,368,547,671,976,977,978,979,993,996,1148,1196,1232,1272,1276,1321,1322] 1323 20931 k1=some (List.replicate 1 (some k2)):=by kernel_rfl
