/- The segments joined. -/
import Derived.Test.YtclfgfpebplncaaGreatRHB
import Derived.Test.YtclfgfpebplncaaGreatRHD0
import Derived.Test.YtclfgfpebplncaaGreatRHD1
import Derived.Test.YtclfgfpebplncaaGreatRHD2
import Derived.Test.YtclfgfpebplncaaGreatRHD3
import Derived.Test.YtclfgfpebplncaaGreatRHD4
import Derived.Test.YtclfgfpebplncaaGreatRHD5
import Derived.Test.YtclfgfpebplncaaGreatRHD6
set_option linter.unusedVariables false
set_option maxRecDepth 1000000
namespace Go.Proofs.YtclfgfpebplncaaGreat.evRun
open Go.Ev
theorem g6:Good Tryz.prog EE (fun fn v=>fn=7∧v= .bool true) k6:=Wm hE hT hK s6
theorem g5:Good Tryz.prog EE (fun fn v=>fn=7∧v= .bool true) k5:=Gd hE hT hK s5 g6
theorem g4:Good Tryz.prog EE (fun fn v=>fn=7∧v= .bool true) k4:=Gd hE hT hK s4 g5
theorem g3:Good Tryz.prog EE (fun fn v=>fn=7∧v= .bool true) k3:=Gd hE hT hK s3 g4
theorem g2:Good Tryz.prog EE (fun fn v=>fn=7∧v= .bool true) k2:=Gd hE hT hK s2 g3
theorem g1:Good Tryz.prog EE (fun fn v=>fn=7∧v= .bool true) k1:=Gd hE hT hK s1 g2
theorem g0:Good Tryz.prog EE (fun fn v=>fn=7∧v= .bool true) k0:=Gd hE hT hK s0 g1
noncomputable def KW:T (List AV×AV):=T.set KK 7 (some ([],.bool true))
theorem hW:MemOk Tryz.prog KW:=hK.add hT (Tk sW) g0 (by kernel_rfl) (by kernel_rfl)
