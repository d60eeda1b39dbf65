import Derived.Test.YtgackjbfibdoiaaGreatRFD0
import Derived.Test.YtgackjbfibdoiaaGreatRFD1
import Derived.Test.YtgackjbfibdoiaaGreatRFD2
import Derived.Test.YtgackjbfibdoiaaGreatRFD3
import Derived.Test.YtgackjbfibdoiaaGreatRFD4
set_option linter.all false
set_option maxRecDepth 1000000
namespace Go.Proofs.YtgackjbfibdoiaaGreat.evRun
open Go.Ev
theorem g4:Good Tryz.prog EE (λfn v=>fn=10/\v= .bool true) k4:=Ya hE hT hK s4
theorem g3:Good Tryz.prog EE (λfn v=>fn=10/\v= .bool true) k3:=Lr hE hT hK s3 g4
theorem g2:Good Tryz.prog EE (λfn v=>fn=10/\v= .bool true) k2:=Lr hE hT hK s2 g3
theorem g1:Good Tryz.prog EE (λfn v=>fn=10/\v= .bool true) k1:=Lr hE hT hK s1 g2
theorem g0:Good Tryz.prog EE (λfn v=>fn=10/\v= .bool true) k0:=Lr hE hT hK s0 g1
noncomputable def KW:T (List AV×AV):=T.set KK 10 (some ([],.bool true))
theorem hW:ND Tryz.prog KW:=hK.add hT (Uo amd) g0 (by kernel_rfl) (by kernel_rfl)
