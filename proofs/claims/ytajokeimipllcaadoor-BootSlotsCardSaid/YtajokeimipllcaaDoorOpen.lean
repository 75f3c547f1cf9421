/-
  Arguments opened: a slice of integers, a slice of such slices, as the words of XBase read them. No program in sight.
-/
import Derived.Test.YtajokeimipllcaaDoorBase
import Derived.Test.YtajokeimipllcaaDoorLift
import Derived.Lib.SmallJoins
import Derived.Deep.Slices
namespace Go.Ed
open Go.ChangeShapes Go.WideShapes Go.ChangeAt Go.RowKit Go.Joins Go.Deep

section
variable {H : Type} {enc : TypeId × Value → H} {P : Program} {w : World}
theorem lt_of_cell {a : Addr} {v : Value} (h : w.cell? a = some v) : a.block < w.heap.size := block_lt_of_cell h

theorem open_ints_reads {t e : TypeId} {k : IntKind} {fuel : Nat} {cs : List Value} {x : DataW H × List MemPlace} (ht : P.underlying t = some (.slice e)) (he : P.underlying e = some (.int k)) (hc : P.cellsOf e = 1)
    (h : DataW.trod enc P w 0 (fun _ => true) true fuel t cs = some x) :
    ∃ (A : Option Addr) (m c : Nat) (zs : List Int), cs = [.slice A m c] ∧ m ≤ maxLen ∧ m ≤ c ∧ Reads w w.heap.size 1 A m (zs.map (Value.int k)) ∧ (∀ n ∈ zs, (Lit.int k n).wf = true) := by
  rcases open_ints ht he hc h with ⟨rfl, _⟩ | ⟨a, len, cap, zs, rfl, _, hl, hm, hz, _, hcell, hwf⟩
  · exact ⟨none, 0, 0, [], rfl, Nat.zero_le _, Nat.le_refl _, Reads.none_, by simp⟩
  · have hzl : zs.length = cap := by simpa using hz
    refine ⟨some a, len, cap, zs.take len, rfl, by omega, hl, ⟨by simp; omega, fun hn => ⟨a, rfl, ?_, ?_⟩⟩, fun n hn => hwf n (List.mem_of_mem_take hn)⟩
    · have := lt_of_cell (hcell 0 (by omega))
      rwa [block_of_add] at this
    · intro j u hu
      have hj : j < len := by
        rcases Nat.lt_or_ge j len with h | h
        · exact h
        · rw [List.getElem?_eq_none (by simp; omega)] at hu; cases hu
      rw [hcell j (by omega), ← hu]
      simp [hj, List.getD, List.getElem?_eq_getElem (show j < zs.length by omega)]

/-- A slice of slices of integers: each inner slice reads. -/
theorem open_rows_reads {t e e2 : TypeId} {k : IntKind} {fuel : Nat} {cs : List Value} {x : DataW H × List MemPlace} (ht : P.underlying t = some (.slice e)) (he : P.underlying e = some (.slice e2)) (he2 : P.underlying e2 = some (.int k))
    (hc : P.cellsOf e = 1) (hc2 : P.cellsOf e2 = 1) (h : DataW.trod enc P w 0 (fun _ => true) true fuel t cs = some x) :
    ∃ A m c, cs = [.slice A m c] ∧ m ≤ maxLen ∧ (0 < m → ∃ b off, A = some ⟨b, off, none⟩ ∧ b < w.heap.size ∧
      ∀ i, i < m → ∃ (A' : Option Addr) (m' c' : Nat) (zs : List Int), w.cell? ⟨b, off + i, none⟩ = some (.slice A' m' c') ∧ Reads w w.heap.size 1 A' m' (zs.map (Value.int k))) := by
  rcases open_slice ht h with ⟨rfl, _⟩ | ⟨a, len, cap, m, n, D, Pl, rfl, _, hl, hm, hmm, _, hi⟩
  · exact ⟨none, 0, 0, rfl, Nat.zero_le _, fun h => absurd h (by omega)⟩
  · have hmc : m = cap := by simpa using hmm
    refine ⟨some a, len, cap, rfl, by omega, fun hn => ?_⟩
    have key : ∀ i, i < len → ∃ (A' : Option Addr) (m' c' : Nat) (zs : List Int), w.cell? (a.add i) = some (.slice A' m' c') ∧ Reads w w.heap.size 1 A' m' (zs.map (Value.int k)) := by
      intro i hil
      obtain ⟨cs', hcs, htr⟩ := hi i (by omega)
      rw [hc, Nat.mul_one] at hcs
      obtain ⟨_, hcl, hat⟩ := World.cells?_some hcs
      obtain ⟨A', m', c', zs, rfl, _, _, hr, _⟩ := open_ints_reads he he2 hc2 htr
      have := hat 0 (by omega)
      rw [Addr.add_zero'] at this
      exact ⟨A', m', c', zs, this, hr⟩
    obtain ⟨A0, m0, c0, z0, hc0, _⟩ := key 0 hn
    have hsp : a.spot = none := by have := World.cell?_spot hc0; rwa [Addr.add_zero'] at this
    obtain ⟨b, off, spot⟩ := a
    simp only at hsp
    subst hsp
    refine ⟨b, off, rfl, by have := lt_of_cell hc0; rwa [block_of_add] at this, fun i hil => ?_⟩
    obtain ⟨A', m', c', zs, h1, h2⟩ := key i hil
    rw [ed_add_plain] at h1
    exact ⟨A', m', c', zs, h1, h2⟩
end
end Go.Ed
