/-
  Arguments opened: a slice of structs, whatever their fields: cell by cell.
-/
import Derived.Test.YtkbcnapfcojekaaOpenSeen
namespace Go.Ed
open Go.ChangeShapes Go.WideShapes Go.ChangeAt Go.RowKit Go.Joins Go.Deep

section
variable {H : Type} {enc : TypeId × Value → H} {P : Program} {w : World}
/-- each element's cells, and that each field can be read -/
theorem open_structs {t e : TypeId} {fs : Array Field} {k fuel : Nat} {cs : List Value} {x : DataW H × List MemPlace} (ht : P.underlying t = some (.slice e)) (he : P.underlying e = some (.struct fs)) (ce : P.cellsOf e = k)
    (h : DataW.trod enc P w 0 (fun _ => true) true fuel t cs = some x) :
    ∃ (A : Option Addr) (m c : Nat), cs = [.slice A m c] ∧ m ≤ maxLen ∧ m ≤ c ∧ (0 < m → ∃ a, A = some a ∧ ∀ i, i < m → ∃ vs : List Value, vs.length = k ∧ (∀ j, j < k → w.cell? (a.add (i * k + j)) = vs[j]?) ∧
      ∀ (j : Nat) (f : Field), fs[j]? = some f → ∃ fuel' y, DataW.trod enc P w 0 (fun _ => true) true fuel' f.type ((vs.drop f.offset).take (P.cellsOf f.type)) = some y) := by
  rcases open_slice ht h with ⟨rfl, _⟩ | ⟨a, len, cap, m, n, D, Pl, rfl, hb, hl, hm, hmm, rfl, hx⟩
  · exact ⟨none, 0, 0, rfl, Nat.zero_le _, Nat.le_refl _, fun h => absurd h (by omega)⟩
  have hmc : m = cap := by simpa using hmm
  refine ⟨some a, len, cap, rfl, by omega, hl, fun _ => ⟨a, rfl, fun i hi => ?_⟩⟩
  obtain ⟨cs', h1, h2⟩ := hx i (by omega)
  rw [ce] at h1
  obtain ⟨_, hlen, hcell⟩ := World.cells?_some h1
  obtain ⟨xs, k', hk, hxy, _, hxl, hf⟩ := DataW.trod_struct he h2
  refine ⟨cs', hlen, fun j hj => ?_, fun j f hjf => ?_⟩
  · rw [← add_of_add]
    exact hcell j hj
  · have hj : j < xs.length := by
      rw [hxl]
      rcases Nat.lt_or_ge j fs.size with h | h
      · simpa using h
      · rw [Array.getElem?_eq_none h] at hjf; cases hjf
    exact ⟨_, _, (hf j f hjf).trans (List.getElem?_eq_getElem hj)⟩

/-- one bool and three integers -/
theorem open_turns {t e : TypeId} {f0 f1 f2 f3 : Field} {fuel : Nat} {cs : List Value} {x : DataW H × List MemPlace} (ht : P.underlying t = some (.slice e)) (he : P.underlying e = some (.struct #[f0, f1, f2, f3])) (ce : P.cellsOf e = 4)
    (o0 : f0.offset = 0) (o1 : f1.offset = 1) (o2 : f2.offset = 2) (o3 : f3.offset = 3) (c0 : P.cellsOf f0.type = 1) (c1 : P.cellsOf f1.type = 1) (c2 : P.cellsOf f2.type = 1) (c3 : P.cellsOf f3.type = 1)
    (k0 : P.underlying f0.type = some .bool) (k1 : P.underlying f1.type = some (.int .i64)) (k2 : P.underlying f2.type = some (.int .i64)) (k3 : P.underlying f3.type = some (.int .i64))
    (h : DataW.trod enc P w 0 (fun _ => true) true fuel t cs = some x) :
    ∃ (A : Option Addr) (m c : Nat), cs = [.slice A m c] ∧ m ≤ maxLen ∧ m ≤ c ∧ (0 < m → ∃ b off, A = some ⟨b, off, none⟩ ∧ b < w.heap.size ∧ ∀ i, i < m → ∃ (d : Bool) (p bo li : Int), w.cell? ⟨b, off + i * 4, none⟩ = some (.bool d) ∧
      w.cell? ⟨b, off + i * 4 + 1, none⟩ = some (.int .i64 p) ∧ w.cell? ⟨b, off + i * 4 + 2, none⟩ = some (.int .i64 bo) ∧ w.cell? ⟨b, off + i * 4 + 3, none⟩ = some (.int .i64 li)) := by
  obtain ⟨A, m, c, rfl, hm, hmc, hx⟩ := open_structs ht he ce h
  refine ⟨A, m, c, rfl, hm, hmc, fun h0 => ?_⟩
  obtain ⟨a, rfl, hx2⟩ := hx h0
  have key : ∀ i, i < m → ∃ (d : Bool) (p bo li : Int), w.cell? (a.add (i * 4)) = some (.bool d) ∧ w.cell? (a.add (i * 4 + 1)) = some (.int .i64 p) ∧ w.cell? (a.add (i * 4 + 2)) = some (.int .i64 bo) ∧ w.cell? (a.add (i * 4 + 3)) = some (.int .i64 li) := by
    intro i hi
    obtain ⟨vs, hl, hc, hf⟩ := hx2 i hi
    match vs, hl with
    | [v0, v1, v2, v3], _ =>
      obtain ⟨_, _, g0⟩ := hf 0 f0 rfl
      obtain ⟨_, _, g1⟩ := hf 1 f1 rfl
      obtain ⟨_, _, g2⟩ := hf 2 f2 rfl
      obtain ⟨_, _, g3⟩ := hf 3 f3 rfl
      simp [o0, o1, o2, o3, c0, c1, c2, c3] at g0 g1 g2 g3
      obtain ⟨n0, r0, -⟩ := DataW.trod_bool k0 g0
      obtain ⟨n1, r1, -, w1⟩ := DataW.trod_int k1 g1
      obtain ⟨n2, r2, -, w2⟩ := DataW.trod_int k2 g2
      obtain ⟨n3, r3, -, w3⟩ := DataW.trod_int k3 g3
      injection r0 with r0
      injection r1 with r1
      injection r2 with r2
      injection r3 with r3
      subst r0 r1 r2 r3
      exact ⟨n0, n1, n2, n3, hc 0 (by omega), hc 1 (by omega), hc 2 (by omega), hc 3 (by omega)⟩
  obtain ⟨_, _, _, _, k0, _⟩ := key 0 h0
  have hsp : a.spot = none := by have := World.cell?_spot k0; rwa [Nat.zero_mul, Addr.add_zero'] at this
  obtain ⟨b, off, spot⟩ := a
  simp only at hsp
  subst hsp
  refine ⟨b, off, rfl, by have := lt_of_cell k0; rwa [block_of_add] at this, fun i hi => ?_⟩
  obtain ⟨d, p, bo, li, h1, h2, h3, h4⟩ := key i hi
  rw [ed_add_plain] at h1 h2 h3 h4
  exact ⟨d, p, bo, li, h1, by rw [Nat.add_assoc]; exact h2, by rw [Nat.add_assoc]; exact h3, by rw [Nat.add_assoc]; exact h4⟩
end
end Go.Ed
