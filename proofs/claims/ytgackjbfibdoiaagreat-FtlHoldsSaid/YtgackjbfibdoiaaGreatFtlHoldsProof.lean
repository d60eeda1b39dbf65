/-
  FtlHolds returns true for all arguments and leaves them alone.
  Conditions: none.
-/
import Derived.Test.YtgackjbfibdoiaaGreatH16
set_option maxRecDepth 1000000
namespace Go.Proofs.YtgackjbfibdoiaaGreat.ftlHolds
open Go.ChangeShapes Go.WideShapes Go.ChangeAt Go.RowKit Go.Ev Go.Proofs.YtgackjbfibdoiaaGreat.evRun
theorem j1:joinedFacts Tryz.checked.prog 3 Tryz.f3 Rows.ftlHoldsSpec Rows.ftlHoldsRow=true:=by kernel_rfl
theorem cJ:Rows.ftlHoldsRow.holds Tryz.pinned (OpenSpec.ofChange Rows.ftlHoldsSpec):=OpenClaim.holds_of_wide 3 Tryz.f3 rfl rfl rfl rfl rfl rfl rfl ⟨rfl,rfl,rfl,rfl,rfl⟩ rfl rfl rfl rfl rfl (by kernel_rfl) Tryz.func3 j1 (of_decide_eq_true (by kernel_rfl)) (by unfold Func.isWrapper;first|(rw[if_pos (by decide+kernel)];kernel_rfl)|(rw[if_neg (by decide+kernel)];exact⟨rfl,rfl⟩)) (λos started H enc _=>lifted os started H enc)
theorem proved:Rows.FtlHoldsSaid:=cJ
