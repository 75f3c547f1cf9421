/-
  Arguments opened: a struct field by field; a register.
-/
import Derived.Test.YtogkcokgcoookaaOpen
import Derived.Test.YtogkcokgcoookaaReg
namespace Go.Ed
open Go.ChangeShapes Go.WideShapes Go.ChangeAt Go.RowKit Go.Joins Go.Deep
/-- each field of a struct can be read -/
theorem open_fields {H : Type} {enc : TypeId × Value → H} {P : Program} {w : World} {t : TypeId} {fs : Array Field} {k fuel : Nat} {cs : List Value} {x : DataW H × List MemPlace} (ht : P.underlying t = some (.struct fs)) (ce : P.cellsOf t = k)
    (h : DataW.trod enc P w 0 (fun _ => true) true fuel t cs = some x) :
    cs.length = k ∧ ∀ (j : Nat) (f : Field), fs[j]? = some f → ∃ fuel' y, DataW.trod enc P w 0 (fun _ => true) true fuel' f.type ((cs.drop f.offset).take (P.cellsOf f.type)) = some y := by
  obtain ⟨xs, k', hk, hxy, hl, hxl, hf⟩ := DataW.trod_struct ht h
  refine ⟨hl.trans ce, fun j f hjf => ?_⟩
  have hj : j < xs.length := by
    rw [hxl]
    rcases Nat.lt_or_ge j fs.size with h | h
    · simpa using h
    · rw [Array.getElem?_eq_none h] at hjf; cases hjf
  exact ⟨_, _, (hf j f hjf).trans (List.getElem?_eq_getElem hj)⟩
end Go.Ed
namespace Go.Proofs.Ytogkcokgcoookaa
open Go.ChangeShapes Go.WideShapes Go.ChangeAt Go.RowKit Go.Joins Go.Deep Go.Ed

theorem co_string : Try.prog.cellsOf 9 = 1 := by kernel_rfl
theorem co_int : Try.prog.cellsOf 3 = 1 := by kernel_rfl
theorem co_int64 : Try.prog.cellsOf 2 = 1 := by kernel_rfl
theorem co_bool : Try.prog.cellsOf 4 = 1 := by kernel_rfl
theorem co_Reg : Try.prog.cellsOf 29 = 3 := by kernel_rfl

section
variable {H : Type} {enc : TypeId × Value → H} {w : World} {fuel : Nat} {cs : List Value} {y : DataW H × List MemPlace}
set_option maxRecDepth 100000 in
theorem open_reg (h : DataW.trod enc Try.prog w 0 (fun _ => true) true fuel 29 cs = some y) : ∃ v wt fl : Int, cs = [.int .i64 v, .int .i64 wt, .int .i64 fl] := by
  obtain ⟨hl, hf⟩ := open_fields Try.underlying29 co_Reg h
  match cs, hl with
  | [c0, c1, c2], _ =>
    obtain ⟨_, _, g0⟩ := hf 0 _ rfl
    obtain ⟨_, _, g1⟩ := hf 1 _ rfl
    obtain ⟨_, _, g2⟩ := hf 2 _ rfl
    simp [co_int, co_int64] at g0 g1 g2
    obtain ⟨n0, r0, -⟩ := DataW.trod_int Try.underlying2 g0
    obtain ⟨n1, r1, -⟩ := DataW.trod_int Try.underlying3 g1
    obtain ⟨n2, r2, -⟩ := DataW.trod_int Try.underlying2 g2
    simp only [List.cons.injEq, and_true] at r0 r1 r2
    subst r0 r1 r2
    exact ⟨_, _, _, rfl⟩
end
end Go.Proofs.Ytogkcokgcoookaa
