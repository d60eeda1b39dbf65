/- The segments joined. -/
import Derived.Test.YtgkianlpkdfhkaaGreatRHB
import Derived.Test.YtgkianlpkdfhkaaGreatRHD0
set_option linter.unusedVariables false
set_option maxRecDepth 1000000
namespace Go.Proofs.YtgkianlpkdfhkaaGreat.evRun
open Go.Ev
theorem g0:Good Tryz.prog EE (fun fn v=>fn=9∧v= .bool true) k0:=Wo hE hT hK s0
noncomputable def KW:T (List AV×AV):=T.set KK 9 (some ([],.bool true))
theorem hW:MemOk Tryz.prog KW:=hK.add hT (Tt sW) g0 (by kernel_rfl) (by kernel_rfl)
