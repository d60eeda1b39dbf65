/- The segments joined. -/
import Derived.Test.YtgkianlpkdfhkaaGreatRMB
import Derived.Test.YtgkianlpkdfhkaaGreatRMD0
set_option linter.unusedVariables false
set_option maxRecDepth 1000000
namespace Go.Proofs.YtgkianlpkdfhkaaGreat.evRun
open Go.Ev
theorem g0:Good Tryz.prog EE (fun fn v=>fn=9∧v= .bool true) k0:=Sn hE hT hK s0
noncomputable def KW:T (List AV×AV):=T.set KK 9 (some ([],.bool true))
theorem hW:MemOk Tryz.prog KW:=hK.add hT (P7 sW) g0 (by kernel_rfl) (by kernel_rfl)
end Go.Proofs.YtgkianlpkdfhkaaGreat.evRun
