/-
  Small words of this seat: a node's name, bounds, a load of several cells as an operation. No program in sight.
-/
import Derived.Test.YtogkcokgcoookaaBase
import Derived.Test.YtogkcokgcoookaaMore
import Derived.Test.YtogkcokgcoookaaLift
import Derived.WalkLawsBesides
import Derived.Shelf.Abstract
import Derived.WalkKit
import Derived.WalkSpells
import Derived.ProofKit
import Derived.Handy
import Derived.Deep.RegionLaw
import Derived.Deep.RegionHeld3
namespace Go.Ed
open Go.ChangeShapes Go.WideShapes Go.ChangeAt Go.RowKit Go.Shelf

/-- a node's name -/
def isNode (n : Int) : Bool := decide (0 ≤ n) && decide (n < 16)
def isIn (x a b : Int) : Bool := decide (a ≤ x) && decide (x ≤ b)
section
variable {P : Program}
/-- a load of several cells, as an operation -/
theorem exec_load_list {W : World} {ty : TypeId} {k : Nat} (hA : Agg P ty k) {b off : Nat} {vs : List Value} (hl : vs.length = k) (h : ∀ j v, vs[j]? = some v → W.cell? ⟨b, off + j, none⟩ = some v) {o : Oper} {a : Act} {x : Operand} (ho : o.op = .load ty x) (hx : a.eval x = .pointer (some ⟨b, off, none⟩)) :
    (execOp a.eval o).run P W = .ok (.value (.agg vs.toArray)) W := by
  unfold execOp
  simp only [ho, hx, Instr.loadAt, Instr.sureAddr, Sem.run_bind, Sem.run_pure, Result.andThen_ok, run_loadVar_list hA ⟨b, off, none⟩ vs hl (fun j v hv => by rw [ed_add_plain]; exact h j v hv)]
end
theorem own_slice' {w : World} {base : Nat} {e : TypeId} {v : Value} {n : Nat} {xs : List Value} {size : Nat} (h : w.ownsRow base e size v n xs) : ∃ A c, v = .slice A n c ∧ n ≤ c := by
  obtain ⟨A, c, h1, h2, _⟩ := own_slice h
  exact ⟨A, c, h1, h2⟩

end Go.Ed
