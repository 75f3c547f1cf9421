/-
  Layer 10 (half): closed facts on the types of lines and half-edges; the cells of a half-edge.
-/
import Derived.Test.YtogkcokgcoookaaRows
import Derived.Test.YtogkcokgcoookaaFlat
import Derived.Test.YtogkcokgcoookaaMore
import Derived.Test.YtogkcokgcoookaaNum
import Derived.Shelf.Abstract
import Derived.WalkSpells
import Derived.ProofKit
import Derived.Handy
import Derived.Deep.RegionLaw
namespace Go.Proofs.Ytogkcokgcoookaa
open Go.RowKit Go.Shelf Go.Ed

theorem line_inf : Inf Try.prog 44 (.agg #[.string ⟨#[]⟩, .int .i64 0, .int .i64 0, .int .i64 0]) 4 40 := Inf.of (by kernel_rfl)
theorem line_slice : Try.prog.underlying 22 = some (.slice 44) := by kernel_rfl
theorem agg_Half : Agg Try.prog 24 6 := ⟨_, Try.underlying24, rfl, by kernel_rfl⟩

theorem cells6 {w : World} {g : Nat} {t : TypeId} {a b c d e f : Value} (k : Blk w g t #[a, b, c, d, e, f]) : w.cell? ⟨g, 0, none⟩ = some a ∧ w.cell? ⟨g, 1, none⟩ = some b ∧ w.cell? ⟨g, 2, none⟩ = some c ∧ w.cell? ⟨g, 3, none⟩ = some d ∧
    w.cell? ⟨g, 4, none⟩ = some e ∧ w.cell? ⟨g, 5, none⟩ = some f :=
  ⟨k.cell 0, k.cell 1, k.cell 2, k.cell 3, k.cell 4, k.cell 5⟩

def zeroHalf : Half := ⟨0, 0, 0, [], false, 0⟩

end Go.Proofs.Ytogkcokgcoookaa
