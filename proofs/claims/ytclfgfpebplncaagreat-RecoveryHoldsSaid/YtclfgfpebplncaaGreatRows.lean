/-
  No cell of these rows narrows 'for every input' (looked for: loops, veiled, ifaces, maps, wideKeys, modest, calm, conditions, laid).
  DERIVED. THE GIVEN ROWS OF THIS SEAT. 3 by the template 'for every input the law returns true; each argument reads behind the call as it read before'; 0 by the template 'total and deterministic' (their statements: YtclfgfpebplncaaGreatTotals.lean).
  GIVEN WITH THE SEED: the statements are not yours to turn. If you find one false, say at which input.
  Laid BY PROGRAM, IN A SANDBOX (cutbox-rows.mjs): the forced cells as the released guide's own fill.sh prints them over the translation b98f4d43cd256d40… (all of the seat's roots in one cut). By AI agents, Wed Nov 11 2026. No macro, syntax, notation, axiom, sorry.
-/
import Derived.Test.YtclfgfpebplncaaGreatChecked
import GoSem.Claim
import GoSem.ClaimJoined
import GoSem.ClaimMapViews
import Derived.JoinedTies
import Derived.KernelRfl
namespace Go.Proofs.YtclfgfpebplncaaGreat
/- THE CELL 'sum', in the pinned program and in every row, IS THE sha256 OF THE DUMP (.gsa) THAT YtclfgfpebplncaaGreatProg.lean LOADS. Nothing in Lean hashes anything: it is a label: what it is worth is what the hold of that sum in a sandbox is worth. -/
noncomputable def Tryz.pinned : Pinned := { name := "ytclfgfpebplncaagreat", sum := "b98f4d43cd256d40680ac629b9008eea908ee5193fdca94033346b68aa9cb936", checked := Tryz.checked }
namespace Rows
def none {H : Type} : Left H := { results := [], args := [] }

/-- 'capsulelaw11.RecoveryScans': WHATEVER THE INPUT: true; the input reads as it did. -/
def recoveryScansSpec : ChangeSpec := { name := "recoveryScans", fn := fun _ => fun
  | [d1, d2, d3, d4] => { results := [.lit (.bool true)], args := [d1, d2, d3, d4] }
  | _ => none }
def recoveryScansRow : OpenClaim := { program := "ytclfgfpebplncaagreat", sum := "b98f4d43cd256d40680ac629b9008eea908ee5193fdca94033346b68aa9cb936", func := "capsule/capsulelaw11.RecoveryScans", spec := "recoveryScans", unfollowed := true, recurses := true, plainKeys := false, apart := false }
def RecoveryScansSaid : Prop := recoveryScansRow.holds Tryz.pinned (OpenSpec.ofChange recoveryScansSpec)

/-- ITS FALSE NEIGHBOUR: 'it returns false'. Refute it at one input. -/
def recoveryScansWrong : ChangeSpec := { name := "recoveryScans", fn := fun _ => fun
  | [d1, d2, d3, d4] => { results := [.lit (.bool false)], args := [d1, d2, d3, d4] }
  | _ => none }
def RecoveryScansWrongFalsely : Prop := recoveryScansRow.holds Tryz.pinned (OpenSpec.ofChange recoveryScansWrong)

/-- 'capsulelaw11.RecoveryPages': WHATEVER THE INPUT: true; the input reads as it did. -/
def recoveryPagesSpec : ChangeSpec := { name := "recoveryPages", fn := fun _ => fun
  | [d1, d2, d3] => { results := [.lit (.bool true)], args := [d1, d2, d3] }
  | _ => none }
def recoveryPagesRow : OpenClaim := { program := "ytclfgfpebplncaagreat", sum := "b98f4d43cd256d40680ac629b9008eea908ee5193fdca94033346b68aa9cb936", func := "capsule/capsulelaw11.RecoveryPages", spec := "recoveryPages", unfollowed := true, recurses := true, plainKeys := false, apart := false }
def RecoveryPagesSaid : Prop := recoveryPagesRow.holds Tryz.pinned (OpenSpec.ofChange recoveryPagesSpec)

/-- ITS FALSE NEIGHBOUR: 'it returns false'. Refute it at one input. -/
def recoveryPagesWrong : ChangeSpec := { name := "recoveryPages", fn := fun _ => fun
  | [d1, d2, d3] => { results := [.lit (.bool false)], args := [d1, d2, d3] }
  | _ => none }
def RecoveryPagesWrongFalsely : Prop := recoveryPagesRow.holds Tryz.pinned (OpenSpec.ofChange recoveryPagesWrong)

/-- 'capsulelaw11.RecoveryHolds': WHATEVER THE INPUT: true; the input reads as it did. -/
def recoveryHoldsSpec : ChangeSpec := { name := "recoveryHolds", fn := fun _ => fun
  | [d1, d2, d3, d4] => { results := [.lit (.bool true)], args := [d1, d2, d3, d4] }
  | _ => none }
def recoveryHoldsRow : OpenClaim := { program := "ytclfgfpebplncaagreat", sum := "b98f4d43cd256d40680ac629b9008eea908ee5193fdca94033346b68aa9cb936", func := "capsule/capsulelaw11.RecoveryHolds", spec := "recoveryHolds", unfollowed := true, recurses := true, plainKeys := false, apart := false }
def RecoveryHoldsSaid : Prop := recoveryHoldsRow.holds Tryz.pinned (OpenSpec.ofChange recoveryHoldsSpec)

/-- ITS FALSE NEIGHBOUR: 'it returns false'. Refute it at one input. -/
def recoveryHoldsWrong : ChangeSpec := { name := "recoveryHolds", fn := fun _ => fun
  | [d1, d2, d3, d4] => { results := [.lit (.bool false)], args := [d1, d2, d3, d4] }
  | _ => none }
def RecoveryHoldsWrongFalsely : Prop := recoveryHoldsRow.holds Tryz.pinned (OpenSpec.ofChange recoveryHoldsWrong)

/- THE SECOND FORM. 'bulk': how many values and letters a reading holds, each counted each time it is reached (what is shared counts as often as it is met; a slice's spare places count too). A statement '..UptoSaid' is the law's where the arguments, and the package variables that the reading takes, are together of bulk at most 1048576: NARROWER than '..Said'. Prove '..Said' where nothing that the law and all that it calls make is longer than what came in: it says more and counts as full. Else prove '..UptoSaid'. A law counts once. -/
mutual
def uptoBulk {H : Type} : DataW H → Nat
  | .lit (.string bytes) => bytes.length + 1
  | .lit _ => 1
  | .nil => 1
  | .ptr d => uptoBulk d + 1
  | .slice elems spare => uptoBulkAll elems + uptoBulkAll spare + 1
  | .agg parts => uptoBulkAll parts + 1
  | .iface _ d => uptoBulk d + 1
  | .map entries => uptoBulkEntries entries + 1
  | .held _ => 1
def uptoBulkAll {H : Type} : List (DataW H) → Nat
  | [] => 0
  | d :: r => uptoBulk d + uptoBulkAll r
def uptoBulkEntries {H : Type} : List (Lit × DataW H) → Nat
  | [] => 0
  | x :: r => uptoBulkEntry x + uptoBulkEntries r
def uptoBulkEntry {H : Type} : Lit × DataW H → Nat
  | (.string bytes, d) => bytes.length + uptoBulk d + 1
  | (_, d) => uptoBulk d + 1
 end
def uptoSmall : (H : Type) → List (DataW H) → Bool := fun _ ds => decide (uptoBulkAll ds ≤ 1048576)
def OpenSpec.upto (s : _root_.Go.ChangeSpec) : _root_.Go.OpenSpec := { _root_.Go.OpenSpec.ofChange s with cond := some uptoSmall }

/-- 'capsulelaw11.RecoveryScans', WHERE WHAT IT READS IS OF BULK AT MOST 1048576: true; the input reads as it did. -/
def recoveryScansUptoRow : OpenClaim := { program := "ytclfgfpebplncaagreat", sum := "b98f4d43cd256d40680ac629b9008eea908ee5193fdca94033346b68aa9cb936", func := "capsule/capsulelaw11.RecoveryScans", spec := "recoveryScans", unfollowed := true, recurses := true, plainKeys := false, apart := false, narrowed := true }
def RecoveryScansUptoSaid : Prop := recoveryScansUptoRow.holds Tryz.pinned (OpenSpec.upto recoveryScansSpec)

/-- 'capsulelaw11.RecoveryPages', WHERE WHAT IT READS IS OF BULK AT MOST 1048576: true; the input reads as it did. -/
def recoveryPagesUptoRow : OpenClaim := { program := "ytclfgfpebplncaagreat", sum := "b98f4d43cd256d40680ac629b9008eea908ee5193fdca94033346b68aa9cb936", func := "capsule/capsulelaw11.RecoveryPages", spec := "recoveryPages", unfollowed := true, recurses := true, plainKeys := false, apart := false, narrowed := true }
def RecoveryPagesUptoSaid : Prop := recoveryPagesUptoRow.holds Tryz.pinned (OpenSpec.upto recoveryPagesSpec)

/-- 'capsulelaw11.RecoveryHolds', WHERE WHAT IT READS IS OF BULK AT MOST 1048576: true; the input reads as it did. -/
def recoveryHoldsUptoRow : OpenClaim := { program := "ytclfgfpebplncaagreat", sum := "b98f4d43cd256d40680ac629b9008eea908ee5193fdca94033346b68aa9cb936", func := "capsule/capsulelaw11.RecoveryHolds", spec := "recoveryHolds", unfollowed := true, recurses := true, plainKeys := false, apart := false, narrowed := true }
def RecoveryHoldsUptoSaid : Prop := recoveryHoldsUptoRow.holds Tryz.pinned (OpenSpec.upto recoveryHoldsSpec)

end Rows
end Go.Proofs.YtclfgfpebplncaaGreat
