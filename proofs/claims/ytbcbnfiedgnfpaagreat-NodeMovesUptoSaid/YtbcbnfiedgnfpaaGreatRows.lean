/-
  No cell of these rows narrows 'for every input' (looked for: loops, veiled, ifaces, maps, wideKeys, modest, calm, conditions, laid).
  DERIVED. THE GIVEN ROWS OF THIS SEAT. 10 by the template 'for every input the law returns true; each argument reads behind the call as it read before'; 0 by the template 'total and deterministic' (their statements: YtbcbnfiedgnfpaaGreatTotals.lean).
  GIVEN WITH THE SEED: the statements are not yours to turn. If you find one false, say at which input.
  Laid BY PROGRAM, IN A SANDBOX (cutbox-rows.mjs): the forced cells as the released guide's own fill.sh prints them over the translation d5b0edd06fe44409… (all of the seat's roots in one cut). By AI agents, Wed Nov 11 2026. No macro, syntax, notation, axiom, sorry.
-/
import Derived.Test.YtbcbnfiedgnfpaaGreatChecked
import GoSem.Claim
import GoSem.ClaimJoined
import GoSem.ClaimMapViews
import Derived.JoinedTies
import Derived.KernelRfl
namespace Go.Proofs.YtbcbnfiedgnfpaaGreat
/- THE CELL 'sum', in the pinned program and in every row, IS THE sha256 OF THE DUMP (.gsa) THAT YtbcbnfiedgnfpaaGreatProg.lean LOADS. Nothing in Lean hashes anything: it is a label: what it is worth is what the hold of that sum in a sandbox is worth. -/
noncomputable def Tryz.pinned : Pinned := { name := "ytbcbnfiedgnfpaagreat", sum := "d5b0edd06fe44409c728ccd53bb15e4ac270925bfe484a0499478825e83fdcaf", checked := Tryz.checked }
namespace Rows
def none {H : Type} : Left H := { results := [], args := [] }

/-- 'eddylaw20.NodePasses': WHATEVER THE INPUT: true; the input reads as it did. -/
def nodePassesSpec : ChangeSpec := { name := "nodePasses", fn := fun _ => fun
  | [d1, d2] => { results := [.lit (.bool true)], args := [d1, d2] }
  | _ => none }
def nodePassesRow : OpenClaim := { program := "ytbcbnfiedgnfpaagreat", sum := "d5b0edd06fe44409c728ccd53bb15e4ac270925bfe484a0499478825e83fdcaf", func := "eddy/eddylaw20.NodePasses", spec := "nodePasses", inPlace := ["slices.overlaps[eddy/api.Half]", "slices.overlaps[eddy/api.Seen]", "slices.overlaps[eddy/api.Line]"], unfollowed := true, recurses := true, apart := false }
def NodePassesSaid : Prop := nodePassesRow.holds Tryz.pinned (OpenSpec.ofChange nodePassesSpec)

/-- ITS FALSE NEIGHBOUR: 'it returns false'. Refute it at one input. -/
def nodePassesWrong : ChangeSpec := { name := "nodePasses", fn := fun _ => fun
  | [d1, d2] => { results := [.lit (.bool false)], args := [d1, d2] }
  | _ => none }
def NodePassesWrongFalsely : Prop := nodePassesRow.holds Tryz.pinned (OpenSpec.ofChange nodePassesWrong)

/-- 'eddylaw20.NodeMoves': WHATEVER THE INPUT: true; the input reads as it did. -/
def nodeMovesSpec : ChangeSpec := { name := "nodeMoves", fn := fun _ => fun
  | [d1, d2, d3] => { results := [.lit (.bool true)], args := [d1, d2, d3] }
  | _ => none }
def nodeMovesRow : OpenClaim := { program := "ytbcbnfiedgnfpaagreat", sum := "d5b0edd06fe44409c728ccd53bb15e4ac270925bfe484a0499478825e83fdcaf", func := "eddy/eddylaw20.NodeMoves", spec := "nodeMoves", inPlace := ["slices.overlaps[eddy/api.Half]", "slices.overlaps[eddy/api.Seen]", "slices.overlaps[eddy/api.Line]"], unfollowed := true, recurses := true, apart := false }
def NodeMovesSaid : Prop := nodeMovesRow.holds Tryz.pinned (OpenSpec.ofChange nodeMovesSpec)

/-- ITS FALSE NEIGHBOUR: 'it returns false'. Refute it at one input. -/
def nodeMovesWrong : ChangeSpec := { name := "nodeMoves", fn := fun _ => fun
  | [d1, d2, d3] => { results := [.lit (.bool false)], args := [d1, d2, d3] }
  | _ => none }
def NodeMovesWrongFalsely : Prop := nodeMovesRow.holds Tryz.pinned (OpenSpec.ofChange nodeMovesWrong)

/-- 'eddylaw20.NodePairs': WHATEVER THE INPUT: true; the input reads as it did. -/
def nodePairsSpec : ChangeSpec := { name := "nodePairs", fn := fun _ => fun
  | [d1, d2, d3, d4, d5, d6, d7] => { results := [.lit (.bool true)], args := [d1, d2, d3, d4, d5, d6, d7] }
  | _ => none }
def nodePairsRow : OpenClaim := { program := "ytbcbnfiedgnfpaagreat", sum := "d5b0edd06fe44409c728ccd53bb15e4ac270925bfe484a0499478825e83fdcaf", func := "eddy/eddylaw20.NodePairs", spec := "nodePairs", inPlace := ["slices.overlaps[eddy/api.Half]", "slices.overlaps[eddy/api.Seen]", "slices.overlaps[eddy/api.Line]"], unfollowed := true, recurses := true, apart := false }
def NodePairsSaid : Prop := nodePairsRow.holds Tryz.pinned (OpenSpec.ofChange nodePairsSpec)

/-- ITS FALSE NEIGHBOUR: 'it returns false'. Refute it at one input. -/
def nodePairsWrong : ChangeSpec := { name := "nodePairs", fn := fun _ => fun
  | [d1, d2, d3, d4, d5, d6, d7] => { results := [.lit (.bool false)], args := [d1, d2, d3, d4, d5, d6, d7] }
  | _ => none }
def NodePairsWrongFalsely : Prop := nodePairsRow.holds Tryz.pinned (OpenSpec.ofChange nodePairsWrong)

/-- 'eddylaw20.NodeTells': WHATEVER THE INPUT: true; the input reads as it did. -/
def nodeTellsSpec : ChangeSpec := { name := "nodeTells", fn := fun _ => fun
  | [d1, d2, d3] => { results := [.lit (.bool true)], args := [d1, d2, d3] }
  | _ => none }
def nodeTellsRow : OpenClaim := { program := "ytbcbnfiedgnfpaagreat", sum := "d5b0edd06fe44409c728ccd53bb15e4ac270925bfe484a0499478825e83fdcaf", func := "eddy/eddylaw20.NodeTells", spec := "nodeTells", inPlace := ["slices.overlaps[eddy/api.Half]", "slices.overlaps[eddy/api.Seen]", "slices.overlaps[eddy/api.Line]"], unfollowed := true, recurses := true, apart := false }
def NodeTellsSaid : Prop := nodeTellsRow.holds Tryz.pinned (OpenSpec.ofChange nodeTellsSpec)

/-- ITS FALSE NEIGHBOUR: 'it returns false'. Refute it at one input. -/
def nodeTellsWrong : ChangeSpec := { name := "nodeTells", fn := fun _ => fun
  | [d1, d2, d3] => { results := [.lit (.bool false)], args := [d1, d2, d3] }
  | _ => none }
def NodeTellsWrongFalsely : Prop := nodeTellsRow.holds Tryz.pinned (OpenSpec.ofChange nodeTellsWrong)

/-- 'eddylaw20.NodeFits': WHATEVER THE INPUT: true; the input reads as it did. -/
def nodeFitsSpec : ChangeSpec := { name := "nodeFits", fn := fun _ => fun
  | [d1, d2, d3, d4] => { results := [.lit (.bool true)], args := [d1, d2, d3, d4] }
  | _ => none }
def nodeFitsRow : OpenClaim := { program := "ytbcbnfiedgnfpaagreat", sum := "d5b0edd06fe44409c728ccd53bb15e4ac270925bfe484a0499478825e83fdcaf", func := "eddy/eddylaw20.NodeFits", spec := "nodeFits", inPlace := ["slices.overlaps[eddy/api.Half]", "slices.overlaps[eddy/api.Seen]", "slices.overlaps[eddy/api.Line]"], unfollowed := true, recurses := true, apart := false }
def NodeFitsSaid : Prop := nodeFitsRow.holds Tryz.pinned (OpenSpec.ofChange nodeFitsSpec)

/-- ITS FALSE NEIGHBOUR: 'it returns false'. Refute it at one input. -/
def nodeFitsWrong : ChangeSpec := { name := "nodeFits", fn := fun _ => fun
  | [d1, d2, d3, d4] => { results := [.lit (.bool false)], args := [d1, d2, d3, d4] }
  | _ => none }
def NodeFitsWrongFalsely : Prop := nodeFitsRow.holds Tryz.pinned (OpenSpec.ofChange nodeFitsWrong)

/-- 'eddylaw20.NodeTicks': WHATEVER THE INPUT: true; the input reads as it did. -/
def nodeTicksSpec : ChangeSpec := { name := "nodeTicks", fn := fun _ => fun
  | [d] => { results := [.lit (.bool true)], args := [d] }
  | _ => none }
def nodeTicksRow : OpenClaim := { program := "ytbcbnfiedgnfpaagreat", sum := "d5b0edd06fe44409c728ccd53bb15e4ac270925bfe484a0499478825e83fdcaf", func := "eddy/eddylaw20.NodeTicks", spec := "nodeTicks", inPlace := ["slices.overlaps[eddy/api.Half]", "slices.overlaps[eddy/api.Seen]", "slices.overlaps[eddy/api.Line]"], unfollowed := true, recurses := true, apart := false }
def NodeTicksSaid : Prop := nodeTicksRow.holds Tryz.pinned (OpenSpec.ofChange nodeTicksSpec)

/-- ITS FALSE NEIGHBOUR: 'it returns false'. Refute it at one input. -/
def nodeTicksWrong : ChangeSpec := { name := "nodeTicks", fn := fun _ => fun
  | [d] => { results := [.lit (.bool false)], args := [d] }
  | _ => none }
def NodeTicksWrongFalsely : Prop := nodeTicksRow.holds Tryz.pinned (OpenSpec.ofChange nodeTicksWrong)

/-- 'eddylaw20.NodeReceives': WHATEVER THE INPUT: true; the input reads as it did. -/
def nodeReceivesSpec : ChangeSpec := { name := "nodeReceives", fn := fun _ => fun
  | [d1, d2] => { results := [.lit (.bool true)], args := [d1, d2] }
  | _ => none }
def nodeReceivesRow : OpenClaim := { program := "ytbcbnfiedgnfpaagreat", sum := "d5b0edd06fe44409c728ccd53bb15e4ac270925bfe484a0499478825e83fdcaf", func := "eddy/eddylaw20.NodeReceives", spec := "nodeReceives", inPlace := ["slices.overlaps[eddy/api.Half]", "slices.overlaps[eddy/api.Seen]", "slices.overlaps[eddy/api.Line]"], unfollowed := true, recurses := true, apart := false }
def NodeReceivesSaid : Prop := nodeReceivesRow.holds Tryz.pinned (OpenSpec.ofChange nodeReceivesSpec)

/-- ITS FALSE NEIGHBOUR: 'it returns false'. Refute it at one input. -/
def nodeReceivesWrong : ChangeSpec := { name := "nodeReceives", fn := fun _ => fun
  | [d1, d2] => { results := [.lit (.bool false)], args := [d1, d2] }
  | _ => none }
def NodeReceivesWrongFalsely : Prop := nodeReceivesRow.holds Tryz.pinned (OpenSpec.ofChange nodeReceivesWrong)

/-- 'eddylaw20.NodeCalls': WHATEVER THE INPUT: true; the input reads as it did. -/
def nodeCallsSpec : ChangeSpec := { name := "nodeCalls", fn := fun _ => fun
  | [d1, d2] => { results := [.lit (.bool true)], args := [d1, d2] }
  | _ => none }
def nodeCallsRow : OpenClaim := { program := "ytbcbnfiedgnfpaagreat", sum := "d5b0edd06fe44409c728ccd53bb15e4ac270925bfe484a0499478825e83fdcaf", func := "eddy/eddylaw20.NodeCalls", spec := "nodeCalls", inPlace := ["slices.overlaps[eddy/api.Half]", "slices.overlaps[eddy/api.Seen]", "slices.overlaps[eddy/api.Line]"], unfollowed := true, recurses := true, apart := false }
def NodeCallsSaid : Prop := nodeCallsRow.holds Tryz.pinned (OpenSpec.ofChange nodeCallsSpec)

/-- ITS FALSE NEIGHBOUR: 'it returns false'. Refute it at one input. -/
def nodeCallsWrong : ChangeSpec := { name := "nodeCalls", fn := fun _ => fun
  | [d1, d2] => { results := [.lit (.bool false)], args := [d1, d2] }
  | _ => none }
def NodeCallsWrongFalsely : Prop := nodeCallsRow.holds Tryz.pinned (OpenSpec.ofChange nodeCallsWrong)

/-- 'eddylaw20.NodePlays': WHATEVER THE INPUT: true; the input reads as it did. -/
def nodePlaysSpec : ChangeSpec := { name := "nodePlays", fn := fun _ => fun
  | [d1, d2] => { results := [.lit (.bool true)], args := [d1, d2] }
  | _ => none }
def nodePlaysRow : OpenClaim := { program := "ytbcbnfiedgnfpaagreat", sum := "d5b0edd06fe44409c728ccd53bb15e4ac270925bfe484a0499478825e83fdcaf", func := "eddy/eddylaw20.NodePlays", spec := "nodePlays", inPlace := ["slices.overlaps[eddy/api.Half]", "slices.overlaps[eddy/api.Seen]", "slices.overlaps[eddy/api.Line]"], unfollowed := true, recurses := true, apart := false }
def NodePlaysSaid : Prop := nodePlaysRow.holds Tryz.pinned (OpenSpec.ofChange nodePlaysSpec)

/-- ITS FALSE NEIGHBOUR: 'it returns false'. Refute it at one input. -/
def nodePlaysWrong : ChangeSpec := { name := "nodePlays", fn := fun _ => fun
  | [d1, d2] => { results := [.lit (.bool false)], args := [d1, d2] }
  | _ => none }
def NodePlaysWrongFalsely : Prop := nodePlaysRow.holds Tryz.pinned (OpenSpec.ofChange nodePlaysWrong)

/-- 'eddylaw20.NodeNever': WHATEVER THE INPUT: true; the input reads as it did. -/
def nodeNeverSpec : ChangeSpec := { name := "nodeNever", fn := fun _ => fun
  | [d1, d2] => { results := [.lit (.bool true)], args := [d1, d2] }
  | _ => none }
def nodeNeverRow : OpenClaim := { program := "ytbcbnfiedgnfpaagreat", sum := "d5b0edd06fe44409c728ccd53bb15e4ac270925bfe484a0499478825e83fdcaf", func := "eddy/eddylaw20.NodeNever", spec := "nodeNever", inPlace := ["slices.overlaps[eddy/api.Half]", "slices.overlaps[eddy/api.Seen]", "slices.overlaps[eddy/api.Line]"], unfollowed := true, recurses := true, apart := false }
def NodeNeverSaid : Prop := nodeNeverRow.holds Tryz.pinned (OpenSpec.ofChange nodeNeverSpec)

/-- ITS FALSE NEIGHBOUR: 'it returns false'. Refute it at one input. -/
def nodeNeverWrong : ChangeSpec := { name := "nodeNever", fn := fun _ => fun
  | [d1, d2] => { results := [.lit (.bool false)], args := [d1, d2] }
  | _ => none }
def NodeNeverWrongFalsely : Prop := nodeNeverRow.holds Tryz.pinned (OpenSpec.ofChange nodeNeverWrong)

/- THE SECOND FORM. 'bulk': how many values and letters a reading holds, each counted each time it is reached (what is shared counts as often as it is met; a slice's spare places count too). A statement '..UptoSaid' is the law's where the arguments, and the package variables that the reading takes, are together of bulk at most 1048576: NARROWER than '..Said'. Prove '..Said' where nothing that the law and all that it calls make is longer than what came in: it says more and counts as full. Else prove '..UptoSaid'. A law counts once. -/
mutual
def uptoBulk {H : Type} : DataW H → Nat
  | .lit (.string bytes) => bytes.length + 1
  | .lit _ => 1
  | .nil => 1
  | .ptr d => uptoBulk d + 1
  | .slice elems spare => uptoBulkAll elems + uptoBulkAll spare + 1
  | .agg parts => uptoBulkAll parts + 1
  | .iface _ d => uptoBulk d + 1
  | .map entries => uptoBulkEntries entries + 1
  | .held _ => 1
def uptoBulkAll {H : Type} : List (DataW H) → Nat
  | [] => 0
  | d :: r => uptoBulk d + uptoBulkAll r
def uptoBulkEntries {H : Type} : List (Lit × DataW H) → Nat
  | [] => 0
  | x :: r => uptoBulkEntry x + uptoBulkEntries r
def uptoBulkEntry {H : Type} : Lit × DataW H → Nat
  | (.string bytes, d) => bytes.length + uptoBulk d + 1
  | (_, d) => uptoBulk d + 1
 end
def uptoSmall : (H : Type) → List (DataW H) → Bool := fun _ ds => decide (uptoBulkAll ds ≤ 1048576)
def OpenSpec.upto (s : _root_.Go.ChangeSpec) : _root_.Go.OpenSpec := { _root_.Go.OpenSpec.ofChange s with cond := some uptoSmall }

/-- 'eddylaw20.NodePasses', WHERE WHAT IT READS IS OF BULK AT MOST 1048576: true; the input reads as it did. -/
def nodePassesUptoRow : OpenClaim := { program := "ytbcbnfiedgnfpaagreat", sum := "d5b0edd06fe44409c728ccd53bb15e4ac270925bfe484a0499478825e83fdcaf", func := "eddy/eddylaw20.NodePasses", spec := "nodePasses", inPlace := ["slices.overlaps[eddy/api.Half]", "slices.overlaps[eddy/api.Seen]", "slices.overlaps[eddy/api.Line]"], unfollowed := true, recurses := true, apart := false, narrowed := true }
def NodePassesUptoSaid : Prop := nodePassesUptoRow.holds Tryz.pinned (OpenSpec.upto nodePassesSpec)

/-- 'eddylaw20.NodeMoves', WHERE WHAT IT READS IS OF BULK AT MOST 1048576: true; the input reads as it did. -/
def nodeMovesUptoRow : OpenClaim := { program := "ytbcbnfiedgnfpaagreat", sum := "d5b0edd06fe44409c728ccd53bb15e4ac270925bfe484a0499478825e83fdcaf", func := "eddy/eddylaw20.NodeMoves", spec := "nodeMoves", inPlace := ["slices.overlaps[eddy/api.Half]", "slices.overlaps[eddy/api.Seen]", "slices.overlaps[eddy/api.Line]"], unfollowed := true, recurses := true, apart := false, narrowed := true }
def NodeMovesUptoSaid : Prop := nodeMovesUptoRow.holds Tryz.pinned (OpenSpec.upto nodeMovesSpec)

/-- 'eddylaw20.NodePairs', WHERE WHAT IT READS IS OF BULK AT MOST 1048576: true; the input reads as it did. -/
def nodePairsUptoRow : OpenClaim := { program := "ytbcbnfiedgnfpaagreat", sum := "d5b0edd06fe44409c728ccd53bb15e4ac270925bfe484a0499478825e83fdcaf", func := "eddy/eddylaw20.NodePairs", spec := "nodePairs", inPlace := ["slices.overlaps[eddy/api.Half]", "slices.overlaps[eddy/api.Seen]", "slices.overlaps[eddy/api.Line]"], unfollowed := true, recurses := true, apart := false, narrowed := true }
def NodePairsUptoSaid : Prop := nodePairsUptoRow.holds Tryz.pinned (OpenSpec.upto nodePairsSpec)

/-- 'eddylaw20.NodeTells', WHERE WHAT IT READS IS OF BULK AT MOST 1048576: true; the input reads as it did. -/
def nodeTellsUptoRow : OpenClaim := { program := "ytbcbnfiedgnfpaagreat", sum := "d5b0edd06fe44409c728ccd53bb15e4ac270925bfe484a0499478825e83fdcaf", func := "eddy/eddylaw20.NodeTells", spec := "nodeTells", inPlace := ["slices.overlaps[eddy/api.Half]", "slices.overlaps[eddy/api.Seen]", "slices.overlaps[eddy/api.Line]"], unfollowed := true, recurses := true, apart := false, narrowed := true }
def NodeTellsUptoSaid : Prop := nodeTellsUptoRow.holds Tryz.pinned (OpenSpec.upto nodeTellsSpec)

/-- 'eddylaw20.NodeFits', WHERE WHAT IT READS IS OF BULK AT MOST 1048576: true; the input reads as it did. -/
def nodeFitsUptoRow : OpenClaim := { program := "ytbcbnfiedgnfpaagreat", sum := "d5b0edd06fe44409c728ccd53bb15e4ac270925bfe484a0499478825e83fdcaf", func := "eddy/eddylaw20.NodeFits", spec := "nodeFits", inPlace := ["slices.overlaps[eddy/api.Half]", "slices.overlaps[eddy/api.Seen]", "slices.overlaps[eddy/api.Line]"], unfollowed := true, recurses := true, apart := false, narrowed := true }
def NodeFitsUptoSaid : Prop := nodeFitsUptoRow.holds Tryz.pinned (OpenSpec.upto nodeFitsSpec)

/-- 'eddylaw20.NodeTicks', WHERE WHAT IT READS IS OF BULK AT MOST 1048576: true; the input reads as it did. -/
def nodeTicksUptoRow : OpenClaim := { program := "ytbcbnfiedgnfpaagreat", sum := "d5b0edd06fe44409c728ccd53bb15e4ac270925bfe484a0499478825e83fdcaf", func := "eddy/eddylaw20.NodeTicks", spec := "nodeTicks", inPlace := ["slices.overlaps[eddy/api.Half]", "slices.overlaps[eddy/api.Seen]", "slices.overlaps[eddy/api.Line]"], unfollowed := true, recurses := true, apart := false, narrowed := true }
def NodeTicksUptoSaid : Prop := nodeTicksUptoRow.holds Tryz.pinned (OpenSpec.upto nodeTicksSpec)

/-- 'eddylaw20.NodeReceives', WHERE WHAT IT READS IS OF BULK AT MOST 1048576: true; the input reads as it did. -/
def nodeReceivesUptoRow : OpenClaim := { program := "ytbcbnfiedgnfpaagreat", sum := "d5b0edd06fe44409c728ccd53bb15e4ac270925bfe484a0499478825e83fdcaf", func := "eddy/eddylaw20.NodeReceives", spec := "nodeReceives", inPlace := ["slices.overlaps[eddy/api.Half]", "slices.overlaps[eddy/api.Seen]", "slices.overlaps[eddy/api.Line]"], unfollowed := true, recurses := true, apart := false, narrowed := true }
def NodeReceivesUptoSaid : Prop := nodeReceivesUptoRow.holds Tryz.pinned (OpenSpec.upto nodeReceivesSpec)

/-- 'eddylaw20.NodeCalls', WHERE WHAT IT READS IS OF BULK AT MOST 1048576: true; the input reads as it did. -/
def nodeCallsUptoRow : OpenClaim := { program := "ytbcbnfiedgnfpaagreat", sum := "d5b0edd06fe44409c728ccd53bb15e4ac270925bfe484a0499478825e83fdcaf", func := "eddy/eddylaw20.NodeCalls", spec := "nodeCalls", inPlace := ["slices.overlaps[eddy/api.Half]", "slices.overlaps[eddy/api.Seen]", "slices.overlaps[eddy/api.Line]"], unfollowed := true, recurses := true, apart := false, narrowed := true }
def NodeCallsUptoSaid : Prop := nodeCallsUptoRow.holds Tryz.pinned (OpenSpec.upto nodeCallsSpec)

/-- 'eddylaw20.NodePlays', WHERE WHAT IT READS IS OF BULK AT MOST 1048576: true; the input reads as it did. -/
def nodePlaysUptoRow : OpenClaim := { program := "ytbcbnfiedgnfpaagreat", sum := "d5b0edd06fe44409c728ccd53bb15e4ac270925bfe484a0499478825e83fdcaf", func := "eddy/eddylaw20.NodePlays", spec := "nodePlays", inPlace := ["slices.overlaps[eddy/api.Half]", "slices.overlaps[eddy/api.Seen]", "slices.overlaps[eddy/api.Line]"], unfollowed := true, recurses := true, apart := false, narrowed := true }
def NodePlaysUptoSaid : Prop := nodePlaysUptoRow.holds Tryz.pinned (OpenSpec.upto nodePlaysSpec)

/-- 'eddylaw20.NodeNever', WHERE WHAT IT READS IS OF BULK AT MOST 1048576: true; the input reads as it did. -/
def nodeNeverUptoRow : OpenClaim := { program := "ytbcbnfiedgnfpaagreat", sum := "d5b0edd06fe44409c728ccd53bb15e4ac270925bfe484a0499478825e83fdcaf", func := "eddy/eddylaw20.NodeNever", spec := "nodeNever", inPlace := ["slices.overlaps[eddy/api.Half]", "slices.overlaps[eddy/api.Seen]", "slices.overlaps[eddy/api.Line]"], unfollowed := true, recurses := true, apart := false, narrowed := true }
def NodeNeverUptoSaid : Prop := nodeNeverUptoRow.holds Tryz.pinned (OpenSpec.upto nodeNeverSpec)

end Rows
end Go.Proofs.YtbcbnfiedgnfpaaGreat
