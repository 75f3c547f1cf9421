/-
  No cell of these rows narrows 'for every input' (looked for: loops, veiled, ifaces, maps, wideKeys, modest, calm, conditions, laid).
  DERIVED. THE GIVEN ROWS OF THIS SEAT. 9 by the template 'for every input the law returns true; each argument reads behind the call as it read before'; 0 by the template 'total and deterministic' (their statements: YtkbcnapfcojekaaTotals.lean).
  GIVEN WITH THE SEED: the statements are not yours to turn. If you find one false, say at which input.
  Laid BY PROGRAM, IN A SANDBOX (cutbox-rows.mjs): the forced cells as the released guide's own fill.sh prints them over the translation 310ed137086cdb4a… (all of the seat's roots in one cut). By AI agents, Wed Nov 11 2026. No macro, syntax, notation, axiom, sorry.
-/
import Derived.Test.YtkbcnapfcojekaaChecked
import GoSem.Claim
import GoSem.ClaimJoined
import GoSem.ClaimMapViews
import Derived.JoinedTies
import Derived.KernelRfl
namespace Go.Proofs.Ytkbcnapfcojekaa
/- THE CELL 'sum', in the pinned program and in every row, IS THE sha256 OF THE DUMP (.gsa) THAT YtkbcnapfcojekaaProg.lean LOADS. Nothing in Lean hashes anything: it is a label: what it is worth is what the hold of that sum in a sandbox is worth. -/
noncomputable def Try.pinned : Pinned := { name := "ytkbcnapfcojekaa", sum := "310ed137086cdb4a99532babb34d14a3f5e39ccba55fbe8d323a52968435a3b5", checked := Try.checked }
namespace Rows
def none {H : Type} : Left H := { results := [], args := [] }

/-- 'eddylaw07.DiskCuts': WHATEVER THE INPUT: true; the input reads as it did. -/
def diskCutsSpec : ChangeSpec := { name := "diskCuts", fn := fun _ => fun
  | [d1, d2, d3] => { results := [.lit (.bool true)], args := [d1, d2, d3] }
  | _ => none }
def diskCutsRow : OpenClaim := { program := "ytkbcnapfcojekaa", sum := "310ed137086cdb4a99532babb34d14a3f5e39ccba55fbe8d323a52968435a3b5", func := "eddy/eddylaw07.DiskCuts", spec := "diskCuts", unfollowed := true, recurses := true, plainKeys := false, apart := false }
def DiskCutsSaid : Prop := diskCutsRow.holds Try.pinned (OpenSpec.ofChange diskCutsSpec)

/-- ITS FALSE NEIGHBOUR: 'it returns false'. Refute it at one input. -/
def diskCutsWrong : ChangeSpec := { name := "diskCuts", fn := fun _ => fun
  | [d1, d2, d3] => { results := [.lit (.bool false)], args := [d1, d2, d3] }
  | _ => none }
def DiskCutsWrongFalsely : Prop := diskCutsRow.holds Try.pinned (OpenSpec.ofChange diskCutsWrong)

/-- 'eddylaw07.DiskNobody': WHATEVER THE INPUT: true; the input reads as it did. -/
def diskNobodySpec : ChangeSpec := { name := "diskNobody", fn := fun _ => fun
  | [d1, d2] => { results := [.lit (.bool true)], args := [d1, d2] }
  | _ => none }
def diskNobodyRow : OpenClaim := { program := "ytkbcnapfcojekaa", sum := "310ed137086cdb4a99532babb34d14a3f5e39ccba55fbe8d323a52968435a3b5", func := "eddy/eddylaw07.DiskNobody", spec := "diskNobody", unfollowed := true, recurses := true, plainKeys := false, apart := false }
def DiskNobodySaid : Prop := diskNobodyRow.holds Try.pinned (OpenSpec.ofChange diskNobodySpec)

/-- ITS FALSE NEIGHBOUR: 'it returns false'. Refute it at one input. -/
def diskNobodyWrong : ChangeSpec := { name := "diskNobody", fn := fun _ => fun
  | [d1, d2] => { results := [.lit (.bool false)], args := [d1, d2] }
  | _ => none }
def DiskNobodyWrongFalsely : Prop := diskNobodyRow.holds Try.pinned (OpenSpec.ofChange diskNobodyWrong)

/-- 'eddylaw28.AuditCounts': WHATEVER THE INPUT: true; the input reads as it did. -/
def auditCountsSpec : ChangeSpec := { name := "auditCounts", fn := fun _ => fun
  | [d1, d2] => { results := [.lit (.bool true)], args := [d1, d2] }
  | _ => none }
def auditCountsRow : OpenClaim := { program := "ytkbcnapfcojekaa", sum := "310ed137086cdb4a99532babb34d14a3f5e39ccba55fbe8d323a52968435a3b5", func := "eddy/eddylaw28.AuditCounts", spec := "auditCounts", unfollowed := true, recurses := true, plainKeys := false, apart := false }
def AuditCountsSaid : Prop := auditCountsRow.holds Try.pinned (OpenSpec.ofChange auditCountsSpec)

/-- ITS FALSE NEIGHBOUR: 'it returns false'. Refute it at one input. -/
def auditCountsWrong : ChangeSpec := { name := "auditCounts", fn := fun _ => fun
  | [d1, d2] => { results := [.lit (.bool false)], args := [d1, d2] }
  | _ => none }
def AuditCountsWrongFalsely : Prop := auditCountsRow.holds Try.pinned (OpenSpec.ofChange auditCountsWrong)

/-- 'eddylaw14.ShakeSees': WHATEVER THE INPUT: true; the input reads as it did. -/
def shakeSeesSpec : ChangeSpec := { name := "shakeSees", fn := fun _ => fun
  | [d1, d2, d3, d4, d5] => { results := [.lit (.bool true)], args := [d1, d2, d3, d4, d5] }
  | _ => none }
def shakeSeesRow : OpenClaim := { program := "ytkbcnapfcojekaa", sum := "310ed137086cdb4a99532babb34d14a3f5e39ccba55fbe8d323a52968435a3b5", func := "eddy/eddylaw14.ShakeSees", spec := "shakeSees", inPlace := ["slices.overlaps[eddy/api.Seen]"], unfollowed := true, recurses := true, plainKeys := false, apart := false }
def ShakeSeesSaid : Prop := shakeSeesRow.holds Try.pinned (OpenSpec.ofChange shakeSeesSpec)

/-- ITS FALSE NEIGHBOUR: 'it returns false'. Refute it at one input. -/
def shakeSeesWrong : ChangeSpec := { name := "shakeSees", fn := fun _ => fun
  | [d1, d2, d3, d4, d5] => { results := [.lit (.bool false)], args := [d1, d2, d3, d4, d5] }
  | _ => none }
def ShakeSeesWrongFalsely : Prop := shakeSeesRow.holds Try.pinned (OpenSpec.ofChange shakeSeesWrong)

/-- 'eddylaw14.ShakeNever': WHATEVER THE INPUT: true; the input reads as it did. -/
def shakeNeverSpec : ChangeSpec := { name := "shakeNever", fn := fun _ => fun
  | [d1, d2, d3] => { results := [.lit (.bool true)], args := [d1, d2, d3] }
  | _ => none }
def shakeNeverRow : OpenClaim := { program := "ytkbcnapfcojekaa", sum := "310ed137086cdb4a99532babb34d14a3f5e39ccba55fbe8d323a52968435a3b5", func := "eddy/eddylaw14.ShakeNever", spec := "shakeNever", inPlace := ["slices.overlaps[eddy/api.Seen]"], unfollowed := true, recurses := true, plainKeys := false, apart := false }
def ShakeNeverSaid : Prop := shakeNeverRow.holds Try.pinned (OpenSpec.ofChange shakeNeverSpec)

/-- ITS FALSE NEIGHBOUR: 'it returns false'. Refute it at one input. -/
def shakeNeverWrong : ChangeSpec := { name := "shakeNever", fn := fun _ => fun
  | [d1, d2, d3] => { results := [.lit (.bool false)], args := [d1, d2, d3] }
  | _ => none }
def ShakeNeverWrongFalsely : Prop := shakeNeverRow.holds Try.pinned (OpenSpec.ofChange shakeNeverWrong)

/-- 'eddylaw14.ShakeTurns': WHATEVER THE INPUT: true; the input reads as it did. -/
def shakeTurnsSpec : ChangeSpec := { name := "shakeTurns", fn := fun _ => fun
  | [d1, d2, d3, d4, d5] => { results := [.lit (.bool true)], args := [d1, d2, d3, d4, d5] }
  | _ => none }
def shakeTurnsRow : OpenClaim := { program := "ytkbcnapfcojekaa", sum := "310ed137086cdb4a99532babb34d14a3f5e39ccba55fbe8d323a52968435a3b5", func := "eddy/eddylaw14.ShakeTurns", spec := "shakeTurns", inPlace := ["slices.overlaps[eddy/api.Seen]"], unfollowed := true, recurses := true, plainKeys := false, apart := false }
def ShakeTurnsSaid : Prop := shakeTurnsRow.holds Try.pinned (OpenSpec.ofChange shakeTurnsSpec)

/-- ITS FALSE NEIGHBOUR: 'it returns false'. Refute it at one input. -/
def shakeTurnsWrong : ChangeSpec := { name := "shakeTurns", fn := fun _ => fun
  | [d1, d2, d3, d4, d5] => { results := [.lit (.bool false)], args := [d1, d2, d3, d4, d5] }
  | _ => none }
def ShakeTurnsWrongFalsely : Prop := shakeTurnsRow.holds Try.pinned (OpenSpec.ofChange shakeTurnsWrong)

/-- 'eddylaw14.ShakeFinds': WHATEVER THE INPUT: true; the input reads as it did. -/
def shakeFindsSpec : ChangeSpec := { name := "shakeFinds", fn := fun _ => fun
  | [d1, d2, d3, d4, d5, d6] => { results := [.lit (.bool true)], args := [d1, d2, d3, d4, d5, d6] }
  | _ => none }
def shakeFindsRow : OpenClaim := { program := "ytkbcnapfcojekaa", sum := "310ed137086cdb4a99532babb34d14a3f5e39ccba55fbe8d323a52968435a3b5", func := "eddy/eddylaw14.ShakeFinds", spec := "shakeFinds", inPlace := ["slices.overlaps[eddy/api.Seen]"], unfollowed := true, recurses := true, plainKeys := false, apart := false }
def ShakeFindsSaid : Prop := shakeFindsRow.holds Try.pinned (OpenSpec.ofChange shakeFindsSpec)

/-- ITS FALSE NEIGHBOUR: 'it returns false'. Refute it at one input. -/
def shakeFindsWrong : ChangeSpec := { name := "shakeFinds", fn := fun _ => fun
  | [d1, d2, d3, d4, d5, d6] => { results := [.lit (.bool false)], args := [d1, d2, d3, d4, d5, d6] }
  | _ => none }
def ShakeFindsWrongFalsely : Prop := shakeFindsRow.holds Try.pinned (OpenSpec.ofChange shakeFindsWrong)

/-- 'eddylaw14.ShakeFits': WHATEVER THE INPUT: true; the input reads as it did. -/
def shakeFitsSpec : ChangeSpec := { name := "shakeFits", fn := fun _ => fun
  | [d1, d2, d3, d4, d5, d6] => { results := [.lit (.bool true)], args := [d1, d2, d3, d4, d5, d6] }
  | _ => none }
def shakeFitsRow : OpenClaim := { program := "ytkbcnapfcojekaa", sum := "310ed137086cdb4a99532babb34d14a3f5e39ccba55fbe8d323a52968435a3b5", func := "eddy/eddylaw14.ShakeFits", spec := "shakeFits", inPlace := ["slices.overlaps[eddy/api.Seen]"], unfollowed := true, recurses := true, plainKeys := false, apart := false }
def ShakeFitsSaid : Prop := shakeFitsRow.holds Try.pinned (OpenSpec.ofChange shakeFitsSpec)

/-- ITS FALSE NEIGHBOUR: 'it returns false'. Refute it at one input. -/
def shakeFitsWrong : ChangeSpec := { name := "shakeFits", fn := fun _ => fun
  | [d1, d2, d3, d4, d5, d6] => { results := [.lit (.bool false)], args := [d1, d2, d3, d4, d5, d6] }
  | _ => none }
def ShakeFitsWrongFalsely : Prop := shakeFitsRow.holds Try.pinned (OpenSpec.ofChange shakeFitsWrong)

/-- 'eddylaw14.ShakeJudges': WHATEVER THE INPUT: true; the input reads as it did. -/
def shakeJudgesSpec : ChangeSpec := { name := "shakeJudges", fn := fun _ => fun
  | [d1, d2, d3, d4, d5, d6] => { results := [.lit (.bool true)], args := [d1, d2, d3, d4, d5, d6] }
  | _ => none }
def shakeJudgesRow : OpenClaim := { program := "ytkbcnapfcojekaa", sum := "310ed137086cdb4a99532babb34d14a3f5e39ccba55fbe8d323a52968435a3b5", func := "eddy/eddylaw14.ShakeJudges", spec := "shakeJudges", inPlace := ["slices.overlaps[eddy/api.Seen]"], unfollowed := true, recurses := true, plainKeys := false, apart := false }
def ShakeJudgesSaid : Prop := shakeJudgesRow.holds Try.pinned (OpenSpec.ofChange shakeJudgesSpec)

/-- ITS FALSE NEIGHBOUR: 'it returns false'. Refute it at one input. -/
def shakeJudgesWrong : ChangeSpec := { name := "shakeJudges", fn := fun _ => fun
  | [d1, d2, d3, d4, d5, d6] => { results := [.lit (.bool false)], args := [d1, d2, d3, d4, d5, d6] }
  | _ => none }
def ShakeJudgesWrongFalsely : Prop := shakeJudgesRow.holds Try.pinned (OpenSpec.ofChange shakeJudgesWrong)

/- THE SECOND FORM. 'bulk': how many values and letters a reading holds, each counted each time it is reached (what is shared counts as often as it is met; a slice's spare places count too). A statement '..UptoSaid' is the law's where the arguments, and the package variables that the reading takes, are together of bulk at most 1048576: NARROWER than '..Said'. Prove '..Said' where nothing that the law and all that it calls make is longer than what came in: it says more and counts as full. Else prove '..UptoSaid'. A law counts once. -/
mutual
def uptoBulk {H : Type} : DataW H → Nat
  | .lit (.string bytes) => bytes.length + 1
  | .lit _ => 1
  | .nil => 1
  | .ptr d => uptoBulk d + 1
  | .slice elems spare => uptoBulkAll elems + uptoBulkAll spare + 1
  | .agg parts => uptoBulkAll parts + 1
  | .iface _ d => uptoBulk d + 1
  | .map entries => uptoBulkEntries entries + 1
  | .held _ => 1
def uptoBulkAll {H : Type} : List (DataW H) → Nat
  | [] => 0
  | d :: r => uptoBulk d + uptoBulkAll r
def uptoBulkEntries {H : Type} : List (Lit × DataW H) → Nat
  | [] => 0
  | x :: r => uptoBulkEntry x + uptoBulkEntries r
def uptoBulkEntry {H : Type} : Lit × DataW H → Nat
  | (.string bytes, d) => bytes.length + uptoBulk d + 1
  | (_, d) => uptoBulk d + 1
 end
def uptoSmall : (H : Type) → List (DataW H) → Bool := fun _ ds => decide (uptoBulkAll ds ≤ 1048576)
def OpenSpec.upto (s : _root_.Go.ChangeSpec) : _root_.Go.OpenSpec := { _root_.Go.OpenSpec.ofChange s with cond := some uptoSmall }

/-- 'eddylaw07.DiskCuts', WHERE WHAT IT READS IS OF BULK AT MOST 1048576: true; the input reads as it did. -/
def diskCutsUptoRow : OpenClaim := { program := "ytkbcnapfcojekaa", sum := "310ed137086cdb4a99532babb34d14a3f5e39ccba55fbe8d323a52968435a3b5", func := "eddy/eddylaw07.DiskCuts", spec := "diskCuts", unfollowed := true, recurses := true, plainKeys := false, apart := false, narrowed := true }
def DiskCutsUptoSaid : Prop := diskCutsUptoRow.holds Try.pinned (OpenSpec.upto diskCutsSpec)

/-- 'eddylaw07.DiskNobody', WHERE WHAT IT READS IS OF BULK AT MOST 1048576: true; the input reads as it did. -/
def diskNobodyUptoRow : OpenClaim := { program := "ytkbcnapfcojekaa", sum := "310ed137086cdb4a99532babb34d14a3f5e39ccba55fbe8d323a52968435a3b5", func := "eddy/eddylaw07.DiskNobody", spec := "diskNobody", unfollowed := true, recurses := true, plainKeys := false, apart := false, narrowed := true }
def DiskNobodyUptoSaid : Prop := diskNobodyUptoRow.holds Try.pinned (OpenSpec.upto diskNobodySpec)

/-- 'eddylaw28.AuditCounts', WHERE WHAT IT READS IS OF BULK AT MOST 1048576: true; the input reads as it did. -/
def auditCountsUptoRow : OpenClaim := { program := "ytkbcnapfcojekaa", sum := "310ed137086cdb4a99532babb34d14a3f5e39ccba55fbe8d323a52968435a3b5", func := "eddy/eddylaw28.AuditCounts", spec := "auditCounts", unfollowed := true, recurses := true, plainKeys := false, apart := false, narrowed := true }
def AuditCountsUptoSaid : Prop := auditCountsUptoRow.holds Try.pinned (OpenSpec.upto auditCountsSpec)

/-- 'eddylaw14.ShakeSees', WHERE WHAT IT READS IS OF BULK AT MOST 1048576: true; the input reads as it did. -/
def shakeSeesUptoRow : OpenClaim := { program := "ytkbcnapfcojekaa", sum := "310ed137086cdb4a99532babb34d14a3f5e39ccba55fbe8d323a52968435a3b5", func := "eddy/eddylaw14.ShakeSees", spec := "shakeSees", inPlace := ["slices.overlaps[eddy/api.Seen]"], unfollowed := true, recurses := true, plainKeys := false, apart := false, narrowed := true }
def ShakeSeesUptoSaid : Prop := shakeSeesUptoRow.holds Try.pinned (OpenSpec.upto shakeSeesSpec)

/-- 'eddylaw14.ShakeNever', WHERE WHAT IT READS IS OF BULK AT MOST 1048576: true; the input reads as it did. -/
def shakeNeverUptoRow : OpenClaim := { program := "ytkbcnapfcojekaa", sum := "310ed137086cdb4a99532babb34d14a3f5e39ccba55fbe8d323a52968435a3b5", func := "eddy/eddylaw14.ShakeNever", spec := "shakeNever", inPlace := ["slices.overlaps[eddy/api.Seen]"], unfollowed := true, recurses := true, plainKeys := false, apart := false, narrowed := true }
def ShakeNeverUptoSaid : Prop := shakeNeverUptoRow.holds Try.pinned (OpenSpec.upto shakeNeverSpec)

/-- 'eddylaw14.ShakeTurns', WHERE WHAT IT READS IS OF BULK AT MOST 1048576: true; the input reads as it did. -/
def shakeTurnsUptoRow : OpenClaim := { program := "ytkbcnapfcojekaa", sum := "310ed137086cdb4a99532babb34d14a3f5e39ccba55fbe8d323a52968435a3b5", func := "eddy/eddylaw14.ShakeTurns", spec := "shakeTurns", inPlace := ["slices.overlaps[eddy/api.Seen]"], unfollowed := true, recurses := true, plainKeys := false, apart := false, narrowed := true }
def ShakeTurnsUptoSaid : Prop := shakeTurnsUptoRow.holds Try.pinned (OpenSpec.upto shakeTurnsSpec)

/-- 'eddylaw14.ShakeFinds', WHERE WHAT IT READS IS OF BULK AT MOST 1048576: true; the input reads as it did. -/
def shakeFindsUptoRow : OpenClaim := { program := "ytkbcnapfcojekaa", sum := "310ed137086cdb4a99532babb34d14a3f5e39ccba55fbe8d323a52968435a3b5", func := "eddy/eddylaw14.ShakeFinds", spec := "shakeFinds", inPlace := ["slices.overlaps[eddy/api.Seen]"], unfollowed := true, recurses := true, plainKeys := false, apart := false, narrowed := true }
def ShakeFindsUptoSaid : Prop := shakeFindsUptoRow.holds Try.pinned (OpenSpec.upto shakeFindsSpec)

/-- 'eddylaw14.ShakeFits', WHERE WHAT IT READS IS OF BULK AT MOST 1048576: true; the input reads as it did. -/
def shakeFitsUptoRow : OpenClaim := { program := "ytkbcnapfcojekaa", sum := "310ed137086cdb4a99532babb34d14a3f5e39ccba55fbe8d323a52968435a3b5", func := "eddy/eddylaw14.ShakeFits", spec := "shakeFits", inPlace := ["slices.overlaps[eddy/api.Seen]"], unfollowed := true, recurses := true, plainKeys := false, apart := false, narrowed := true }
def ShakeFitsUptoSaid : Prop := shakeFitsUptoRow.holds Try.pinned (OpenSpec.upto shakeFitsSpec)

/-- 'eddylaw14.ShakeJudges', WHERE WHAT IT READS IS OF BULK AT MOST 1048576: true; the input reads as it did. -/
def shakeJudgesUptoRow : OpenClaim := { program := "ytkbcnapfcojekaa", sum := "310ed137086cdb4a99532babb34d14a3f5e39ccba55fbe8d323a52968435a3b5", func := "eddy/eddylaw14.ShakeJudges", spec := "shakeJudges", inPlace := ["slices.overlaps[eddy/api.Seen]"], unfollowed := true, recurses := true, plainKeys := false, apart := false, narrowed := true }
def ShakeJudgesUptoSaid : Prop := shakeJudgesUptoRow.holds Try.pinned (OpenSpec.upto shakeJudgesSpec)

end Rows
end Go.Proofs.Ytkbcnapfcojekaa
