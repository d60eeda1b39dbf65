import Derived.Test.YtgackjbfibdoiaaGreatRFA
set_option linter.all false
set_option maxRecDepth 1000000
namespace Go.Proofs.YtgackjbfibdoiaaGreat.evRun
open Go.Ev
theorem s4:Tu FF KK (mm 10 (.bool true)) 22100 k4=true:=by kernel_rfl
