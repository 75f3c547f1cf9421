/-
  No cell of these rows narrows 'for every input' (looked for: loops, veiled, ifaces, maps, wideKeys, modest, calm, conditions, laid).
  DERIVED. THE GIVEN ROWS OF THIS SEAT. 5 by the template 'for every input the law returns true; each argument reads behind the call as it read before'; 0 by the template 'total and deterministic' (their statements: YtogkcokgcoookaaTotals.lean).
  GIVEN WITH THE SEED: the statements are not yours to turn. If you find one false, say at which input.
  Laid BY PROGRAM, IN A SANDBOX (cutbox-rows.mjs): the forced cells as the released guide's own fill.sh prints them over the translation 7aeb282ae27a4a05… (all of the seat's roots in one cut). By AI agents, Wed Nov 11 2026. No macro, syntax, notation, axiom, sorry.
-/
import Derived.Test.YtogkcokgcoookaaChecked
import GoSem.Claim
import GoSem.ClaimJoined
import GoSem.ClaimMapViews
import Derived.JoinedTies
import Derived.KernelRfl
namespace Go.Proofs.Ytogkcokgcoookaa
/- THE CELL 'sum', in the pinned program and in every row, IS THE sha256 OF THE DUMP (.gsa) THAT YtogkcokgcoookaaProg.lean LOADS. Nothing in Lean hashes anything: it is a label: what it is worth is what the hold of that sum in a sandbox is worth. -/
noncomputable def Try.pinned : Pinned := { name := "ytogkcokgcoookaa", sum := "7aeb282ae27a4a0569f7a46eaacde2b661413e773554b6893256b04c962a626b", checked := Try.checked }
namespace Rows
def none {H : Type} : Left H := { results := [], args := [] }

/-- 'eddylaw10.HalfGrows': WHATEVER THE INPUT: true; the input reads as it did. -/
def halfGrowsSpec : ChangeSpec := { name := "halfGrows", fn := fun _ => fun
  | [d1, d2, d3, d4] => { results := [.lit (.bool true)], args := [d1, d2, d3, d4] }
  | _ => none }
def halfGrowsRow : OpenClaim := { program := "ytogkcokgcoookaa", sum := "7aeb282ae27a4a0569f7a46eaacde2b661413e773554b6893256b04c962a626b", func := "eddy/eddylaw10.HalfGrows", spec := "halfGrows", inPlace := ["slices.overlaps[eddy/api.Line]"], unfollowed := true, recurses := true, apart := false }
def HalfGrowsSaid : Prop := halfGrowsRow.holds Try.pinned (OpenSpec.ofChange halfGrowsSpec)

/-- ITS FALSE NEIGHBOUR: 'it returns false'. Refute it at one input. -/
def halfGrowsWrong : ChangeSpec := { name := "halfGrows", fn := fun _ => fun
  | [d1, d2, d3, d4] => { results := [.lit (.bool false)], args := [d1, d2, d3, d4] }
  | _ => none }
def HalfGrowsWrongFalsely : Prop := halfGrowsRow.holds Try.pinned (OpenSpec.ofChange halfGrowsWrong)

/-- 'eddylaw10.HalfWrites': WHATEVER THE INPUT: true; the input reads as it did. -/
def halfWritesSpec : ChangeSpec := { name := "halfWrites", fn := fun _ => fun
  | [d1, d2, d3, d4, d5] => { results := [.lit (.bool true)], args := [d1, d2, d3, d4, d5] }
  | _ => none }
def halfWritesRow : OpenClaim := { program := "ytogkcokgcoookaa", sum := "7aeb282ae27a4a0569f7a46eaacde2b661413e773554b6893256b04c962a626b", func := "eddy/eddylaw10.HalfWrites", spec := "halfWrites", inPlace := ["slices.overlaps[eddy/api.Line]"], unfollowed := true, recurses := true, apart := false }
def HalfWritesSaid : Prop := halfWritesRow.holds Try.pinned (OpenSpec.ofChange halfWritesSpec)

/-- ITS FALSE NEIGHBOUR: 'it returns false'. Refute it at one input. -/
def halfWritesWrong : ChangeSpec := { name := "halfWrites", fn := fun _ => fun
  | [d1, d2, d3, d4, d5] => { results := [.lit (.bool false)], args := [d1, d2, d3, d4, d5] }
  | _ => none }
def HalfWritesWrongFalsely : Prop := halfWritesRow.holds Try.pinned (OpenSpec.ofChange halfWritesWrong)

/-- 'eddylaw10.HalfFits': WHATEVER THE INPUT: true; the input reads as it did. -/
def halfFitsSpec : ChangeSpec := { name := "halfFits", fn := fun _ => fun
  | [d1, d2, d3, d4] => { results := [.lit (.bool true)], args := [d1, d2, d3, d4] }
  | _ => none }
def halfFitsRow : OpenClaim := { program := "ytogkcokgcoookaa", sum := "7aeb282ae27a4a0569f7a46eaacde2b661413e773554b6893256b04c962a626b", func := "eddy/eddylaw10.HalfFits", spec := "halfFits", inPlace := ["slices.overlaps[eddy/api.Line]"], unfollowed := true, recurses := true, apart := false }
def HalfFitsSaid : Prop := halfFitsRow.holds Try.pinned (OpenSpec.ofChange halfFitsSpec)

/-- ITS FALSE NEIGHBOUR: 'it returns false'. Refute it at one input. -/
def halfFitsWrong : ChangeSpec := { name := "halfFits", fn := fun _ => fun
  | [d1, d2, d3, d4] => { results := [.lit (.bool false)], args := [d1, d2, d3, d4] }
  | _ => none }
def HalfFitsWrongFalsely : Prop := halfFitsRow.holds Try.pinned (OpenSpec.ofChange halfFitsWrong)

/-- 'eddylaw10.HalfKeeps': WHATEVER THE INPUT: true; the input reads as it did. -/
def halfKeepsSpec : ChangeSpec := { name := "halfKeeps", fn := fun _ => fun
  | [d1, d2, d3] => { results := [.lit (.bool true)], args := [d1, d2, d3] }
  | _ => none }
def halfKeepsRow : OpenClaim := { program := "ytogkcokgcoookaa", sum := "7aeb282ae27a4a0569f7a46eaacde2b661413e773554b6893256b04c962a626b", func := "eddy/eddylaw10.HalfKeeps", spec := "halfKeeps", inPlace := ["slices.overlaps[eddy/api.Line]", "slices.overlaps[eddy/api.Half]"], unfollowed := true, recurses := true, apart := false }
def HalfKeepsSaid : Prop := halfKeepsRow.holds Try.pinned (OpenSpec.ofChange halfKeepsSpec)

/-- ITS FALSE NEIGHBOUR: 'it returns false'. Refute it at one input. -/
def halfKeepsWrong : ChangeSpec := { name := "halfKeeps", fn := fun _ => fun
  | [d1, d2, d3] => { results := [.lit (.bool false)], args := [d1, d2, d3] }
  | _ => none }
def HalfKeepsWrongFalsely : Prop := halfKeepsRow.holds Try.pinned (OpenSpec.ofChange halfKeepsWrong)

/-- 'eddylaw10.HalfLists': WHATEVER THE INPUT: true; the input reads as it did. -/
def halfListsSpec : ChangeSpec := { name := "halfLists", fn := fun _ => fun
  | [d1, d2, d3, d4] => { results := [.lit (.bool true)], args := [d1, d2, d3, d4] }
  | _ => none }
def halfListsRow : OpenClaim := { program := "ytogkcokgcoookaa", sum := "7aeb282ae27a4a0569f7a46eaacde2b661413e773554b6893256b04c962a626b", func := "eddy/eddylaw10.HalfLists", spec := "halfLists", inPlace := ["slices.overlaps[eddy/api.Line]", "slices.overlaps[eddy/api.Half]"], unfollowed := true, recurses := true, apart := false }
def HalfListsSaid : Prop := halfListsRow.holds Try.pinned (OpenSpec.ofChange halfListsSpec)

/-- ITS FALSE NEIGHBOUR: 'it returns false'. Refute it at one input. -/
def halfListsWrong : ChangeSpec := { name := "halfLists", fn := fun _ => fun
  | [d1, d2, d3, d4] => { results := [.lit (.bool false)], args := [d1, d2, d3, d4] }
  | _ => none }
def HalfListsWrongFalsely : Prop := halfListsRow.holds Try.pinned (OpenSpec.ofChange halfListsWrong)

/- THE SECOND FORM. 'bulk': how many values and letters a reading holds, each counted each time it is reached (what is shared counts as often as it is met; a slice's spare places count too). A statement '..UptoSaid' is the law's where the arguments, and the package variables that the reading takes, are together of bulk at most 1048576: NARROWER than '..Said'. Prove '..Said' where nothing that the law and all that it calls make is longer than what came in: it says more and counts as full. Else prove '..UptoSaid'. A law counts once. -/
mutual
def uptoBulk {H : Type} : DataW H → Nat
  | .lit (.string bytes) => bytes.length + 1
  | .lit _ => 1
  | .nil => 1
  | .ptr d => uptoBulk d + 1
  | .slice elems spare => uptoBulkAll elems + uptoBulkAll spare + 1
  | .agg parts => uptoBulkAll parts + 1
  | .iface _ d => uptoBulk d + 1
  | .map entries => uptoBulkEntries entries + 1
  | .held _ => 1
def uptoBulkAll {H : Type} : List (DataW H) → Nat
  | [] => 0
  | d :: r => uptoBulk d + uptoBulkAll r
def uptoBulkEntries {H : Type} : List (Lit × DataW H) → Nat
  | [] => 0
  | x :: r => uptoBulkEntry x + uptoBulkEntries r
def uptoBulkEntry {H : Type} : Lit × DataW H → Nat
  | (.string bytes, d) => bytes.length + uptoBulk d + 1
  | (_, d) => uptoBulk d + 1
 end
def uptoSmall : (H : Type) → List (DataW H) → Bool := fun _ ds => decide (uptoBulkAll ds ≤ 1048576)
def OpenSpec.upto (s : _root_.Go.ChangeSpec) : _root_.Go.OpenSpec := { _root_.Go.OpenSpec.ofChange s with cond := some uptoSmall }

/-- 'eddylaw10.HalfGrows', WHERE WHAT IT READS IS OF BULK AT MOST 1048576: true; the input reads as it did. -/
def halfGrowsUptoRow : OpenClaim := { program := "ytogkcokgcoookaa", sum := "7aeb282ae27a4a0569f7a46eaacde2b661413e773554b6893256b04c962a626b", func := "eddy/eddylaw10.HalfGrows", spec := "halfGrows", inPlace := ["slices.overlaps[eddy/api.Line]"], unfollowed := true, recurses := true, apart := false, narrowed := true }
def HalfGrowsUptoSaid : Prop := halfGrowsUptoRow.holds Try.pinned (OpenSpec.upto halfGrowsSpec)

/-- 'eddylaw10.HalfWrites', WHERE WHAT IT READS IS OF BULK AT MOST 1048576: true; the input reads as it did. -/
def halfWritesUptoRow : OpenClaim := { program := "ytogkcokgcoookaa", sum := "7aeb282ae27a4a0569f7a46eaacde2b661413e773554b6893256b04c962a626b", func := "eddy/eddylaw10.HalfWrites", spec := "halfWrites", inPlace := ["slices.overlaps[eddy/api.Line]"], unfollowed := true, recurses := true, apart := false, narrowed := true }
def HalfWritesUptoSaid : Prop := halfWritesUptoRow.holds Try.pinned (OpenSpec.upto halfWritesSpec)

/-- 'eddylaw10.HalfFits', WHERE WHAT IT READS IS OF BULK AT MOST 1048576: true; the input reads as it did. -/
def halfFitsUptoRow : OpenClaim := { program := "ytogkcokgcoookaa", sum := "7aeb282ae27a4a0569f7a46eaacde2b661413e773554b6893256b04c962a626b", func := "eddy/eddylaw10.HalfFits", spec := "halfFits", inPlace := ["slices.overlaps[eddy/api.Line]"], unfollowed := true, recurses := true, apart := false, narrowed := true }
def HalfFitsUptoSaid : Prop := halfFitsUptoRow.holds Try.pinned (OpenSpec.upto halfFitsSpec)

/-- 'eddylaw10.HalfKeeps', WHERE WHAT IT READS IS OF BULK AT MOST 1048576: true; the input reads as it did. -/
def halfKeepsUptoRow : OpenClaim := { program := "ytogkcokgcoookaa", sum := "7aeb282ae27a4a0569f7a46eaacde2b661413e773554b6893256b04c962a626b", func := "eddy/eddylaw10.HalfKeeps", spec := "halfKeeps", inPlace := ["slices.overlaps[eddy/api.Line]", "slices.overlaps[eddy/api.Half]"], unfollowed := true, recurses := true, apart := false, narrowed := true }
def HalfKeepsUptoSaid : Prop := halfKeepsUptoRow.holds Try.pinned (OpenSpec.upto halfKeepsSpec)

/-- 'eddylaw10.HalfLists', WHERE WHAT IT READS IS OF BULK AT MOST 1048576: true; the input reads as it did. -/
def halfListsUptoRow : OpenClaim := { program := "ytogkcokgcoookaa", sum := "7aeb282ae27a4a0569f7a46eaacde2b661413e773554b6893256b04c962a626b", func := "eddy/eddylaw10.HalfLists", spec := "halfLists", inPlace := ["slices.overlaps[eddy/api.Line]", "slices.overlaps[eddy/api.Half]"], unfollowed := true, recurses := true, apart := false, narrowed := true }
def HalfListsUptoSaid : Prop := halfListsUptoRow.holds Try.pinned (OpenSpec.upto halfListsSpec)

end Rows
end Go.Proofs.Ytogkcokgcoookaa
