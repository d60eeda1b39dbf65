/-
  No cell of these rows narrows 'for every input' (looked for: loops, veiled, ifaces, maps, wideKeys, modest, calm, conditions, laid).
  DERIVED. THE GIVEN ROWS OF THIS SEAT. 5 by the template 'for every input the law returns true; each argument reads behind the call as it read before'; 0 by the template 'total and deterministic' (their statements: YtgackjbfibdoiaaGreatTotals.lean).
  GIVEN WITH THE SEED: the statements are not yours to turn. If you find one false, say at which input.
  Laid BY PROGRAM, IN A SANDBOX (cutbox-rows.mjs): the forced cells as the released guide's own fill.sh prints them over the translation 85abd9a68bd20250… (all of the seat's roots in one cut). By AI agents, Wed Nov 11 2026. No macro, syntax, notation, axiom, sorry.
-/
import Derived.Test.YtgackjbfibdoiaaGreatChecked
import GoSem.Claim
import GoSem.ClaimJoined
import GoSem.ClaimMapViews
import Derived.JoinedTies
import Derived.KernelRfl
namespace Go.Proofs.YtgackjbfibdoiaaGreat
/- THE CELL 'sum', in the pinned program and in every row, IS THE sha256 OF THE DUMP (.gsa) THAT YtgackjbfibdoiaaGreatProg.lean LOADS. Nothing in Lean hashes anything: it is a label: what it is worth is what the hold of that sum in a sandbox is worth. -/
noncomputable def Tryz.pinned : Pinned := { name := "ytgackjbfibdoiaagreat", sum := "85abd9a68bd2025086b52e90ddd7b08996c62c8dec817b68fb24b549092730d3", checked := Tryz.checked }
namespace Rows
def none {H : Type} : Left H := { results := [], args := [] }

/-- 'capsulelaw12.FtlHolds': WHATEVER THE INPUT: true; the input reads as it did. -/
def ftlHoldsSpec : ChangeSpec := { name := "ftlHolds", fn := fun _ => fun
  | [d1, d2, d3, d4, d5, d6] => { results := [.lit (.bool true)], args := [d1, d2, d3, d4, d5, d6] }
  | _ => none }
def ftlHoldsRow : OpenClaim := { program := "ytgackjbfibdoiaagreat", sum := "85abd9a68bd2025086b52e90ddd7b08996c62c8dec817b68fb24b549092730d3", func := "capsule/capsulelaw12.FtlHolds", spec := "ftlHolds", unfollowed := true, recurses := true, plainKeys := false, apart := false }
def FtlHoldsSaid : Prop := ftlHoldsRow.holds Tryz.pinned (OpenSpec.ofChange ftlHoldsSpec)

/-- ITS FALSE NEIGHBOUR: 'it returns false'. Refute it at one input. -/
def ftlHoldsWrong : ChangeSpec := { name := "ftlHolds", fn := fun _ => fun
  | [d1, d2, d3, d4, d5, d6] => { results := [.lit (.bool false)], args := [d1, d2, d3, d4, d5, d6] }
  | _ => none }
def FtlHoldsWrongFalsely : Prop := ftlHoldsRow.holds Tryz.pinned (OpenSpec.ofChange ftlHoldsWrong)

/-- 'capsulelaw12.FtlPlays': WHATEVER THE INPUT: true; the input reads as it did. -/
def ftlPlaysSpec : ChangeSpec := { name := "ftlPlays", fn := fun _ => fun
  | [d1, d2, d3, d4] => { results := [.lit (.bool true)], args := [d1, d2, d3, d4] }
  | _ => none }
def ftlPlaysRow : OpenClaim := { program := "ytgackjbfibdoiaagreat", sum := "85abd9a68bd2025086b52e90ddd7b08996c62c8dec817b68fb24b549092730d3", func := "capsule/capsulelaw12.FtlPlays", spec := "ftlPlays", unfollowed := true, recurses := true, plainKeys := false, apart := false }
def FtlPlaysSaid : Prop := ftlPlaysRow.holds Tryz.pinned (OpenSpec.ofChange ftlPlaysSpec)

/-- ITS FALSE NEIGHBOUR: 'it returns false'. Refute it at one input. -/
def ftlPlaysWrong : ChangeSpec := { name := "ftlPlays", fn := fun _ => fun
  | [d1, d2, d3, d4] => { results := [.lit (.bool false)], args := [d1, d2, d3, d4] }
  | _ => none }
def FtlPlaysWrongFalsely : Prop := ftlPlaysRow.holds Tryz.pinned (OpenSpec.ofChange ftlPlaysWrong)

/-- 'capsulelaw12.FtlWears': WHATEVER THE INPUT: true; the input reads as it did. -/
def ftlWearsSpec : ChangeSpec := { name := "ftlWears", fn := fun _ => fun
  | [d1, d2, d3, d4] => { results := [.lit (.bool true)], args := [d1, d2, d3, d4] }
  | _ => none }
def ftlWearsRow : OpenClaim := { program := "ytgackjbfibdoiaagreat", sum := "85abd9a68bd2025086b52e90ddd7b08996c62c8dec817b68fb24b549092730d3", func := "capsule/capsulelaw12.FtlWears", spec := "ftlWears", unfollowed := true, recurses := true, plainKeys := false, apart := false }
def FtlWearsSaid : Prop := ftlWearsRow.holds Tryz.pinned (OpenSpec.ofChange ftlWearsSpec)

/-- ITS FALSE NEIGHBOUR: 'it returns false'. Refute it at one input. -/
def ftlWearsWrong : ChangeSpec := { name := "ftlWears", fn := fun _ => fun
  | [d1, d2, d3, d4] => { results := [.lit (.bool false)], args := [d1, d2, d3, d4] }
  | _ => none }
def FtlWearsWrongFalsely : Prop := ftlWearsRow.holds Tryz.pinned (OpenSpec.ofChange ftlWearsWrong)

/-- 'capsulelaw12.FtlAgain': WHATEVER THE INPUT: true; the input reads as it did. -/
def ftlAgainSpec : ChangeSpec := { name := "ftlAgain", fn := fun _ => fun
  | [d1, d2, d3] => { results := [.lit (.bool true)], args := [d1, d2, d3] }
  | _ => none }
def ftlAgainRow : OpenClaim := { program := "ytgackjbfibdoiaagreat", sum := "85abd9a68bd2025086b52e90ddd7b08996c62c8dec817b68fb24b549092730d3", func := "capsule/capsulelaw12.FtlAgain", spec := "ftlAgain", inPlace := ["maps.clone"], unfollowed := true, recurses := true, plainKeys := false, apart := false }
def FtlAgainSaid : Prop := ftlAgainRow.holds Tryz.pinned (OpenSpec.ofChange ftlAgainSpec)

/-- ITS FALSE NEIGHBOUR: 'it returns false'. Refute it at one input. -/
def ftlAgainWrong : ChangeSpec := { name := "ftlAgain", fn := fun _ => fun
  | [d1, d2, d3] => { results := [.lit (.bool false)], args := [d1, d2, d3] }
  | _ => none }
def FtlAgainWrongFalsely : Prop := ftlAgainRow.holds Tryz.pinned (OpenSpec.ofChange ftlAgainWrong)

/-- 'capsulelaw12.FtlCopies': WHATEVER THE INPUT: true; the input reads as it did. -/
def ftlCopiesSpec : ChangeSpec := { name := "ftlCopies", fn := fun _ => fun
  | [d1, d2, d3, d4] => { results := [.lit (.bool true)], args := [d1, d2, d3, d4] }
  | _ => none }
def ftlCopiesRow : OpenClaim := { program := "ytgackjbfibdoiaagreat", sum := "85abd9a68bd2025086b52e90ddd7b08996c62c8dec817b68fb24b549092730d3", func := "capsule/capsulelaw12.FtlCopies", spec := "ftlCopies", inPlace := ["maps.clone"], unfollowed := true, recurses := true, plainKeys := false, apart := false }
def FtlCopiesSaid : Prop := ftlCopiesRow.holds Tryz.pinned (OpenSpec.ofChange ftlCopiesSpec)

/-- ITS FALSE NEIGHBOUR: 'it returns false'. Refute it at one input. -/
def ftlCopiesWrong : ChangeSpec := { name := "ftlCopies", fn := fun _ => fun
  | [d1, d2, d3, d4] => { results := [.lit (.bool false)], args := [d1, d2, d3, d4] }
  | _ => none }
def FtlCopiesWrongFalsely : Prop := ftlCopiesRow.holds Tryz.pinned (OpenSpec.ofChange ftlCopiesWrong)

/- THE SECOND FORM. 'bulk': how many values and letters a reading holds, each counted each time it is reached (what is shared counts as often as it is met; a slice's spare places count too). A statement '..UptoSaid' is the law's where the arguments, and the package variables that the reading takes, are together of bulk at most 1048576: NARROWER than '..Said'. Prove '..Said' where nothing that the law and all that it calls make is longer than what came in: it says more and counts as full. Else prove '..UptoSaid'. A law counts once. -/
mutual
def uptoBulk {H : Type} : DataW H → Nat
  | .lit (.string bytes) => bytes.length + 1
  | .lit _ => 1
  | .nil => 1
  | .ptr d => uptoBulk d + 1
  | .slice elems spare => uptoBulkAll elems + uptoBulkAll spare + 1
  | .agg parts => uptoBulkAll parts + 1
  | .iface _ d => uptoBulk d + 1
  | .map entries => uptoBulkEntries entries + 1
  | .held _ => 1
def uptoBulkAll {H : Type} : List (DataW H) → Nat
  | [] => 0
  | d :: r => uptoBulk d + uptoBulkAll r
def uptoBulkEntries {H : Type} : List (Lit × DataW H) → Nat
  | [] => 0
  | x :: r => uptoBulkEntry x + uptoBulkEntries r
def uptoBulkEntry {H : Type} : Lit × DataW H → Nat
  | (.string bytes, d) => bytes.length + uptoBulk d + 1
  | (_, d) => uptoBulk d + 1
 end
def uptoSmall : (H : Type) → List (DataW H) → Bool := fun _ ds => decide (uptoBulkAll ds ≤ 1048576)
def OpenSpec.upto (s : _root_.Go.ChangeSpec) : _root_.Go.OpenSpec := { _root_.Go.OpenSpec.ofChange s with cond := some uptoSmall }

/-- 'capsulelaw12.FtlHolds', WHERE WHAT IT READS IS OF BULK AT MOST 1048576: true; the input reads as it did. -/
def ftlHoldsUptoRow : OpenClaim := { program := "ytgackjbfibdoiaagreat", sum := "85abd9a68bd2025086b52e90ddd7b08996c62c8dec817b68fb24b549092730d3", func := "capsule/capsulelaw12.FtlHolds", spec := "ftlHolds", unfollowed := true, recurses := true, plainKeys := false, apart := false, narrowed := true }
def FtlHoldsUptoSaid : Prop := ftlHoldsUptoRow.holds Tryz.pinned (OpenSpec.upto ftlHoldsSpec)

/-- 'capsulelaw12.FtlPlays', WHERE WHAT IT READS IS OF BULK AT MOST 1048576: true; the input reads as it did. -/
def ftlPlaysUptoRow : OpenClaim := { program := "ytgackjbfibdoiaagreat", sum := "85abd9a68bd2025086b52e90ddd7b08996c62c8dec817b68fb24b549092730d3", func := "capsule/capsulelaw12.FtlPlays", spec := "ftlPlays", unfollowed := true, recurses := true, plainKeys := false, apart := false, narrowed := true }
def FtlPlaysUptoSaid : Prop := ftlPlaysUptoRow.holds Tryz.pinned (OpenSpec.upto ftlPlaysSpec)

/-- 'capsulelaw12.FtlWears', WHERE WHAT IT READS IS OF BULK AT MOST 1048576: true; the input reads as it did. -/
def ftlWearsUptoRow : OpenClaim := { program := "ytgackjbfibdoiaagreat", sum := "85abd9a68bd2025086b52e90ddd7b08996c62c8dec817b68fb24b549092730d3", func := "capsule/capsulelaw12.FtlWears", spec := "ftlWears", unfollowed := true, recurses := true, plainKeys := false, apart := false, narrowed := true }
def FtlWearsUptoSaid : Prop := ftlWearsUptoRow.holds Tryz.pinned (OpenSpec.upto ftlWearsSpec)

/-- 'capsulelaw12.FtlAgain', WHERE WHAT IT READS IS OF BULK AT MOST 1048576: true; the input reads as it did. -/
def ftlAgainUptoRow : OpenClaim := { program := "ytgackjbfibdoiaagreat", sum := "85abd9a68bd2025086b52e90ddd7b08996c62c8dec817b68fb24b549092730d3", func := "capsule/capsulelaw12.FtlAgain", spec := "ftlAgain", inPlace := ["maps.clone"], unfollowed := true, recurses := true, plainKeys := false, apart := false, narrowed := true }
def FtlAgainUptoSaid : Prop := ftlAgainUptoRow.holds Tryz.pinned (OpenSpec.upto ftlAgainSpec)

/-- 'capsulelaw12.FtlCopies', WHERE WHAT IT READS IS OF BULK AT MOST 1048576: true; the input reads as it did. -/
def ftlCopiesUptoRow : OpenClaim := { program := "ytgackjbfibdoiaagreat", sum := "85abd9a68bd2025086b52e90ddd7b08996c62c8dec817b68fb24b549092730d3", func := "capsule/capsulelaw12.FtlCopies", spec := "ftlCopies", inPlace := ["maps.clone"], unfollowed := true, recurses := true, plainKeys := false, apart := false, narrowed := true }
def FtlCopiesUptoSaid : Prop := ftlCopiesUptoRow.holds Tryz.pinned (OpenSpec.upto ftlCopiesSpec)

end Rows
end Go.Proofs.YtgackjbfibdoiaaGreat
