/- The segments joined. -/
import Derived.Test.YtdfodpohcdohoaaGreatRunB
import Derived.Test.YtdfodpohcdohoaaGreatRunD0
import Derived.Test.YtdfodpohcdohoaaGreatRunD1
import Derived.Test.YtdfodpohcdohoaaGreatRunD2
import Derived.Test.YtdfodpohcdohoaaGreatRunD3
import Derived.Test.YtdfodpohcdohoaaGreatRunD4
import Derived.Test.YtdfodpohcdohoaaGreatRunD5
import Derived.Test.YtdfodpohcdohoaaGreatRunD6
import Derived.Test.YtdfodpohcdohoaaGreatRunD7
import Derived.Test.YtdfodpohcdohoaaGreatRunD8
import Derived.Test.YtdfodpohcdohoaaGreatRunD9
import Derived.Test.YtdfodpohcdohoaaGreatRunD10
set_option linter.unusedVariables false
set_option maxRecDepth 1000000
namespace Go.Proofs.YtdfodpohcdohoaaGreat.evRun
open Go.Ev

theorem g10 : Good Tryz.prog EE (fun fn v => fn = 9 ∧ v = .bool true) k10 := good_run hE hT hK s10
theorem g9 : Good Tryz.prog EE (fun fn v => fn = 9 ∧ v = .bool true) k9 := good_segD hE hT hK s9 g10
theorem g8 : Good Tryz.prog EE (fun fn v => fn = 9 ∧ v = .bool true) k8 := good_segD hE hT hK s8 g9
theorem g7 : Good Tryz.prog EE (fun fn v => fn = 9 ∧ v = .bool true) k7 := good_segD hE hT hK s7 g8
theorem g6 : Good Tryz.prog EE (fun fn v => fn = 9 ∧ v = .bool true) k6 := good_segD hE hT hK s6 g7
theorem g5 : Good Tryz.prog EE (fun fn v => fn = 9 ∧ v = .bool true) k5 := good_segD hE hT hK s5 g6
theorem g4 : Good Tryz.prog EE (fun fn v => fn = 9 ∧ v = .bool true) k4 := good_segD hE hT hK s4 g5
theorem g3 : Good Tryz.prog EE (fun fn v => fn = 9 ∧ v = .bool true) k3 := good_segD hE hT hK s3 g4
theorem g2 : Good Tryz.prog EE (fun fn v => fn = 9 ∧ v = .bool true) k2 := good_segD hE hT hK s2 g3
theorem g1 : Good Tryz.prog EE (fun fn v => fn = 9 ∧ v = .bool true) k1 := good_segD hE hT hK s1 g2
theorem g0 : Good Tryz.prog EE (fun fn v => fn = 9 ∧ v = .bool true) k0 := good_segD hE hT hK s0 g1
noncomputable def KW : T (List AV × AV) := T.set KK 9 (some ([], .bool true))
/-- The layer's examples: the call is known. -/
theorem hW : MemOk Tryz.prog KW := hK.add hT (confOf_eq sW) g0 (by kernel_rfl) (by kernel_rfl)

end Go.Proofs.YtdfodpohcdohoaaGreat.evRun
