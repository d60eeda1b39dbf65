/- The segments joined. -/
import Derived.Test.YtclfgfpebplncaaGreatRunB
import Derived.Test.YtclfgfpebplncaaGreatRunD0
import Derived.Test.YtclfgfpebplncaaGreatRunD1
import Derived.Test.YtclfgfpebplncaaGreatRunD2
import Derived.Test.YtclfgfpebplncaaGreatRunD3
import Derived.Test.YtclfgfpebplncaaGreatRunD4
import Derived.Test.YtclfgfpebplncaaGreatRunD5
import Derived.Test.YtclfgfpebplncaaGreatRunD6
set_option linter.unusedVariables false
set_option maxRecDepth 1000000
namespace Go.Proofs.YtclfgfpebplncaaGreat.evRun
open Go.Ev
theorem g6:Good Tryz.prog EE (fun fn v=>fn=7∧v= .bool true) k6:=Va hE hT hK s6
theorem g5:Good Tryz.prog EE (fun fn v=>fn=7∧v= .bool true) k5:=F7 hE hT hK s5 g6
theorem g4:Good Tryz.prog EE (fun fn v=>fn=7∧v= .bool true) k4:=F7 hE hT hK s4 g5
theorem g3:Good Tryz.prog EE (fun fn v=>fn=7∧v= .bool true) k3:=F7 hE hT hK s3 g4
theorem g2:Good Tryz.prog EE (fun fn v=>fn=7∧v= .bool true) k2:=F7 hE hT hK s2 g3
theorem g1:Good Tryz.prog EE (fun fn v=>fn=7∧v= .bool true) k1:=F7 hE hT hK s1 g2
theorem g0:Good Tryz.prog EE (fun fn v=>fn=7∧v= .bool true) k0:=F7 hE hT hK s0 g1
noncomputable def KW:T (List AV×AV):=T.set KK 7 (some ([],.bool true))
theorem hW:MemOk Tryz.prog KW:=hK.add hT (R9 sW) g0 (by kernel_rfl) (by kernel_rfl)
end Go.Proofs.YtclfgfpebplncaaGreat.evRun
