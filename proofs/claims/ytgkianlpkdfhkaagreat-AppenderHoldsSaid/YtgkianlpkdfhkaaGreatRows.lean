/-
  No cell of these rows narrows 'for every input' (looked for: loops, veiled, ifaces, maps, wideKeys, modest, calm, conditions, laid).
  DERIVED. THE GIVEN ROWS OF THIS SEAT. 4 by the template 'for every input the law returns true; each argument reads behind the call as it read before'; 0 by the template 'total and deterministic' (their statements: YtgkianlpkdfhkaaGreatTotals.lean).
  GIVEN WITH THE SEED: the statements are not yours to turn. If you find one false, say at which input.
  Laid BY PROGRAM, IN A SANDBOX (cutbox-rows.mjs): the forced cells as the released guide's own fill.sh prints them over the translation 68d5c610cefa179e… (all of the seat's roots in one cut). By AI agents, Wed Nov 11 2026. No macro, syntax, notation, axiom, sorry.
-/
import Derived.Test.YtgkianlpkdfhkaaGreatChecked
import GoSem.Claim
import GoSem.ClaimJoined
import GoSem.ClaimMapViews
import Derived.JoinedTies
import Derived.KernelRfl
namespace Go.Proofs.YtgkianlpkdfhkaaGreat
/- THE CELL 'sum', in the pinned program and in every row, IS THE sha256 OF THE DUMP (.gsa) THAT YtgkianlpkdfhkaaGreatProg.lean LOADS. Nothing in Lean hashes anything: it is a label: what it is worth is what the hold of that sum in a sandbox is worth. -/
noncomputable def Tryz.pinned : Pinned := { name := "ytgkianlpkdfhkaagreat", sum := "68d5c610cefa179e0a6c01bdc0d6cebe5f20515cc0d4e5c600e531983b824c55", checked := Tryz.checked }
namespace Rows
def none {H : Type} : Left H := { results := [], args := [] }

/-- 'capsulelaw10.AppenderPlays': WHATEVER THE INPUT: true; the input reads as it did. -/
def appenderPlaysSpec : ChangeSpec := { name := "appenderPlays", fn := fun _ => fun
  | [d1, d2, d3, d4] => { results := [.lit (.bool true)], args := [d1, d2, d3, d4] }
  | _ => none }
def appenderPlaysRow : OpenClaim := { program := "ytgkianlpkdfhkaagreat", sum := "68d5c610cefa179e0a6c01bdc0d6cebe5f20515cc0d4e5c600e531983b824c55", func := "capsule/capsulelaw10.AppenderPlays", spec := "appenderPlays", unfollowed := true, recurses := true, plainKeys := false, apart := false }
def AppenderPlaysSaid : Prop := appenderPlaysRow.holds Tryz.pinned (OpenSpec.ofChange appenderPlaysSpec)

/-- ITS FALSE NEIGHBOUR: 'it returns false'. Refute it at one input. -/
def appenderPlaysWrong : ChangeSpec := { name := "appenderPlays", fn := fun _ => fun
  | [d1, d2, d3, d4] => { results := [.lit (.bool false)], args := [d1, d2, d3, d4] }
  | _ => none }
def AppenderPlaysWrongFalsely : Prop := appenderPlaysRow.holds Tryz.pinned (OpenSpec.ofChange appenderPlaysWrong)

/-- 'capsulelaw10.AppenderMoves': WHATEVER THE INPUT: true; the input reads as it did. -/
def appenderMovesSpec : ChangeSpec := { name := "appenderMoves", fn := fun _ => fun
  | [d1, d2, d3] => { results := [.lit (.bool true)], args := [d1, d2, d3] }
  | _ => none }
def appenderMovesRow : OpenClaim := { program := "ytgkianlpkdfhkaagreat", sum := "68d5c610cefa179e0a6c01bdc0d6cebe5f20515cc0d4e5c600e531983b824c55", func := "capsule/capsulelaw10.AppenderMoves", spec := "appenderMoves", unfollowed := true, recurses := true, plainKeys := false, apart := false }
def AppenderMovesSaid : Prop := appenderMovesRow.holds Tryz.pinned (OpenSpec.ofChange appenderMovesSpec)

/-- ITS FALSE NEIGHBOUR: 'it returns false'. Refute it at one input. -/
def appenderMovesWrong : ChangeSpec := { name := "appenderMoves", fn := fun _ => fun
  | [d1, d2, d3] => { results := [.lit (.bool false)], args := [d1, d2, d3] }
  | _ => none }
def AppenderMovesWrongFalsely : Prop := appenderMovesRow.holds Tryz.pinned (OpenSpec.ofChange appenderMovesWrong)

/-- 'capsulelaw10.AppenderCandidates': WHATEVER THE INPUT: true; the input reads as it did. -/
def appenderCandidatesSpec : ChangeSpec := { name := "appenderCandidates", fn := fun _ => fun
  | [d1, d2, d3, d4] => { results := [.lit (.bool true)], args := [d1, d2, d3, d4] }
  | _ => none }
def appenderCandidatesRow : OpenClaim := { program := "ytgkianlpkdfhkaagreat", sum := "68d5c610cefa179e0a6c01bdc0d6cebe5f20515cc0d4e5c600e531983b824c55", func := "capsule/capsulelaw10.AppenderCandidates", spec := "appenderCandidates", unfollowed := true, recurses := true, plainKeys := false, apart := false }
def AppenderCandidatesSaid : Prop := appenderCandidatesRow.holds Tryz.pinned (OpenSpec.ofChange appenderCandidatesSpec)

/-- ITS FALSE NEIGHBOUR: 'it returns false'. Refute it at one input. -/
def appenderCandidatesWrong : ChangeSpec := { name := "appenderCandidates", fn := fun _ => fun
  | [d1, d2, d3, d4] => { results := [.lit (.bool false)], args := [d1, d2, d3, d4] }
  | _ => none }
def AppenderCandidatesWrongFalsely : Prop := appenderCandidatesRow.holds Tryz.pinned (OpenSpec.ofChange appenderCandidatesWrong)

/-- 'capsulelaw10.AppenderHolds': WHATEVER THE INPUT: true; the input reads as it did. -/
def appenderHoldsSpec : ChangeSpec := { name := "appenderHolds", fn := fun _ => fun
  | [d1, d2, d3, d4] => { results := [.lit (.bool true)], args := [d1, d2, d3, d4] }
  | _ => none }
def appenderHoldsRow : OpenClaim := { program := "ytgkianlpkdfhkaagreat", sum := "68d5c610cefa179e0a6c01bdc0d6cebe5f20515cc0d4e5c600e531983b824c55", func := "capsule/capsulelaw10.AppenderHolds", spec := "appenderHolds", unfollowed := true, recurses := true, plainKeys := false, apart := false }
def AppenderHoldsSaid : Prop := appenderHoldsRow.holds Tryz.pinned (OpenSpec.ofChange appenderHoldsSpec)

/-- ITS FALSE NEIGHBOUR: 'it returns false'. Refute it at one input. -/
def appenderHoldsWrong : ChangeSpec := { name := "appenderHolds", fn := fun _ => fun
  | [d1, d2, d3, d4] => { results := [.lit (.bool false)], args := [d1, d2, d3, d4] }
  | _ => none }
def AppenderHoldsWrongFalsely : Prop := appenderHoldsRow.holds Tryz.pinned (OpenSpec.ofChange appenderHoldsWrong)

/- THE SECOND FORM. 'bulk': how many values and letters a reading holds, each counted each time it is reached (what is shared counts as often as it is met; a slice's spare places count too). A statement '..UptoSaid' is the law's where the arguments, and the package variables that the reading takes, are together of bulk at most 1048576: NARROWER than '..Said'. Prove '..Said' where nothing that the law and all that it calls make is longer than what came in: it says more and counts as full. Else prove '..UptoSaid'. A law counts once. -/
mutual
def uptoBulk {H : Type} : DataW H → Nat
  | .lit (.string bytes) => bytes.length + 1
  | .lit _ => 1
  | .nil => 1
  | .ptr d => uptoBulk d + 1
  | .slice elems spare => uptoBulkAll elems + uptoBulkAll spare + 1
  | .agg parts => uptoBulkAll parts + 1
  | .iface _ d => uptoBulk d + 1
  | .map entries => uptoBulkEntries entries + 1
  | .held _ => 1
def uptoBulkAll {H : Type} : List (DataW H) → Nat
  | [] => 0
  | d :: r => uptoBulk d + uptoBulkAll r
def uptoBulkEntries {H : Type} : List (Lit × DataW H) → Nat
  | [] => 0
  | x :: r => uptoBulkEntry x + uptoBulkEntries r
def uptoBulkEntry {H : Type} : Lit × DataW H → Nat
  | (.string bytes, d) => bytes.length + uptoBulk d + 1
  | (_, d) => uptoBulk d + 1
 end
def uptoSmall : (H : Type) → List (DataW H) → Bool := fun _ ds => decide (uptoBulkAll ds ≤ 1048576)
def OpenSpec.upto (s : _root_.Go.ChangeSpec) : _root_.Go.OpenSpec := { _root_.Go.OpenSpec.ofChange s with cond := some uptoSmall }

/-- 'capsulelaw10.AppenderPlays', WHERE WHAT IT READS IS OF BULK AT MOST 1048576: true; the input reads as it did. -/
def appenderPlaysUptoRow : OpenClaim := { program := "ytgkianlpkdfhkaagreat", sum := "68d5c610cefa179e0a6c01bdc0d6cebe5f20515cc0d4e5c600e531983b824c55", func := "capsule/capsulelaw10.AppenderPlays", spec := "appenderPlays", unfollowed := true, recurses := true, plainKeys := false, apart := false, narrowed := true }
def AppenderPlaysUptoSaid : Prop := appenderPlaysUptoRow.holds Tryz.pinned (OpenSpec.upto appenderPlaysSpec)

/-- 'capsulelaw10.AppenderMoves', WHERE WHAT IT READS IS OF BULK AT MOST 1048576: true; the input reads as it did. -/
def appenderMovesUptoRow : OpenClaim := { program := "ytgkianlpkdfhkaagreat", sum := "68d5c610cefa179e0a6c01bdc0d6cebe5f20515cc0d4e5c600e531983b824c55", func := "capsule/capsulelaw10.AppenderMoves", spec := "appenderMoves", unfollowed := true, recurses := true, plainKeys := false, apart := false, narrowed := true }
def AppenderMovesUptoSaid : Prop := appenderMovesUptoRow.holds Tryz.pinned (OpenSpec.upto appenderMovesSpec)

/-- 'capsulelaw10.AppenderCandidates', WHERE WHAT IT READS IS OF BULK AT MOST 1048576: true; the input reads as it did. -/
def appenderCandidatesUptoRow : OpenClaim := { program := "ytgkianlpkdfhkaagreat", sum := "68d5c610cefa179e0a6c01bdc0d6cebe5f20515cc0d4e5c600e531983b824c55", func := "capsule/capsulelaw10.AppenderCandidates", spec := "appenderCandidates", unfollowed := true, recurses := true, plainKeys := false, apart := false, narrowed := true }
def AppenderCandidatesUptoSaid : Prop := appenderCandidatesUptoRow.holds Tryz.pinned (OpenSpec.upto appenderCandidatesSpec)

/-- 'capsulelaw10.AppenderHolds', WHERE WHAT IT READS IS OF BULK AT MOST 1048576: true; the input reads as it did. -/
def appenderHoldsUptoRow : OpenClaim := { program := "ytgkianlpkdfhkaagreat", sum := "68d5c610cefa179e0a6c01bdc0d6cebe5f20515cc0d4e5c600e531983b824c55", func := "capsule/capsulelaw10.AppenderHolds", spec := "appenderHolds", unfollowed := true, recurses := true, plainKeys := false, apart := false, narrowed := true }
def AppenderHoldsUptoSaid : Prop := appenderHoldsUptoRow.holds Tryz.pinned (OpenSpec.upto appenderHoldsSpec)

end Rows
end Go.Proofs.YtgkianlpkdfhkaaGreat
