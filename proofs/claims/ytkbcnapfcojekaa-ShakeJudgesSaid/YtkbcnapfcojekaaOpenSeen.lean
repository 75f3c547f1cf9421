/-
  Arguments opened: a slice of what was seen (structs of four integers).
-/
import Derived.Test.YtkbcnapfcojekaaOpen
import Derived.Test.YtkbcnapfcojekaaSeen
import Derived.Deep.SlicePairs
namespace Go.Ed
open Go.ChangeShapes Go.WideShapes Go.ChangeAt Go.RowKit Go.Joins Go.Deep

section
variable {H : Type} {enc : TypeId × Value → H} {P : Program} {w : World}
/-- an integer of 64 bits -/
def i64 (n : Int) : Prop := -9223372036854775808 ≤ n ∧ n ≤ 9223372036854775807

theorem i64_of {n : Int} (h : (Lit.int .i64 n).wf = true) : i64 n := by
  simp [Lit.wf] at h
  unfold i64
  have e : IntKind.i64.min = -9223372036854775808 := rfl
  omega

theorem open_seens {t e : TypeId} {f0 f1 f2 f3 : Field} {fuel : Nat} {cs : List Value} {x : DataW H × List MemPlace} (ht : P.underlying t = some (.slice e)) (he : P.underlying e = some (.struct #[f0, f1, f2, f3]))
    (ce : P.cellsOf e = 4) (o0 : f0.offset = 0) (o1 : f1.offset = 1) (o2 : f2.offset = 2) (o3 : f3.offset = 3) (c0 : P.cellsOf f0.type = 1) (c1 : P.cellsOf f1.type = 1) (c2 : P.cellsOf f2.type = 1) (c3 : P.cellsOf f3.type = 1)
    (k0 : P.underlying f0.type = some (.int .i64)) (k1 : P.underlying f1.type = some (.int .i64)) (k2 : P.underlying f2.type = some (.int .i64)) (k3 : P.underlying f3.type = some (.int .i64))
    (h : DataW.trod enc P w 0 (fun _ => true) true fuel t cs = some x) :
    ∃ (A : Option Addr) (m c : Nat) (ls : List Seen), cs = [.slice A m c] ∧ m ≤ maxLen ∧ m ≤ c ∧ SeenAt w w.heap.size A m ls ∧ ∀ s ∈ ls, i64 s.peer ∧ i64 s.boot ∧ i64 s.life ∧ i64 s.mine := by
  rcases open_slice ht h with ⟨rfl, _⟩ | ⟨a, len, cap, m, n, D, Pl, rfl, hb, hl, hm, hmm, rfl, hx⟩
  · exact ⟨none, 0, 0, [], rfl, Nat.zero_le _, Nat.le_refl _, Reads.none_, by simp⟩
  have hmc : m = cap := by simpa using hmm
  have each : ∀ i, i < len → ∃ s : Seen, (∀ j, j < 4 → w.cell? (a.add (i * 4 + j)) = s.cells[j]?) ∧ i64 s.peer ∧ i64 s.boot ∧ i64 s.life ∧ i64 s.mine := by
    intro i hi
    obtain ⟨cs', h1, h2⟩ := hx i (by omega)
    rw [ce] at h1
    obtain ⟨_, hlen, hcell⟩ := World.cells?_some h1
    obtain ⟨xs, k, hk, hxy, _, hxl, hf⟩ := DataW.trod_struct he h2
    match xs, hxl, cs', hlen with
    | [y0, y1, y2, y3], _, [v0, v1, v2, v3], _ =>
      have g0 := hf 0 f0 rfl
      have g1 := hf 1 f1 rfl
      have g2 := hf 2 f2 rfl
      have g3 := hf 3 f3 rfl
      simp [o0, o1, o2, o3, c0, c1, c2, c3] at g0 g1 g2 g3
      have e0 := hcell 0 (by omega)
      have e1 := hcell 1 (by omega)
      have e2 := hcell 2 (by omega)
      have e3 := hcell 3 (by omega)
      rw [add_of_add] at e0 e1 e2 e3
      obtain ⟨n0, r0, -, w0⟩ := DataW.trod_int k0 g0
      obtain ⟨n1, r1, -, w1⟩ := DataW.trod_int k1 g1
      obtain ⟨n2, r2, -, w2⟩ := DataW.trod_int k2 g2
      obtain ⟨n3, r3, -, w3⟩ := DataW.trod_int k3 g3
      injection r0 with r0
      injection r1 with r1
      injection r2 with r2
      injection r3 with r3
      subst r0 r1 r2 r3
      refine ⟨⟨n0, n1, n2, n3⟩, fun j hj => ?_, i64_of w0, i64_of w1, i64_of w2, i64_of w3⟩
      match j, hj with
      | 0, _ => exact e0
      | 1, _ => exact e1
      | 2, _ => exact e2
      | 3, _ => exact e3
  haveI : Inhabited Seen := ⟨⟨0, 0, 0, 0⟩⟩
  obtain ⟨q, hq⟩ := choose_lt each
  have hcell : ∀ j u, (rowCells ((List.range len).map q))[j]? = some u → w.cell? (a.add j) = some u := by
    intro j u hu
    have hlen : ((List.range len).map q).length = len := by simp
    have hj : j < len * 4 := by
      rcases Nat.lt_or_ge j (len * 4) with h | h
      · exact h
      · rw [List.getElem?_eq_none (by rw [rowCells_length, hlen]; exact h)] at hu; cases hu
    have hd : j / 4 < len := by omega
    have h1 := rowCells_at ((List.range len).map q) (j / 4) (by rw [hlen]; exact hd) (j % 4) (by omega)
    rw [show j / 4 * 4 + j % 4 = j by omega] at h1
    have h2 := (hq (j / 4) hd).1 (j % 4) (by omega)
    rw [show j / 4 * 4 + j % 4 = j by omega] at h2
    rw [h2, ← hu, h1]
    simp
  refine ⟨some a, len, cap, (List.range len).map q, rfl, by omega, hl, ⟨by rw [rowCells_length]; simp, fun hn => ⟨a, rfl, ?_, hcell⟩⟩, fun s hs => ?_⟩
  · have h1 := (hq 0 hn).1 0 (by omega)
    have h2 := lt_of_cell (h1.trans rfl)
    rwa [block_of_add] at h2
  · obtain ⟨i, hi, rfl⟩ := List.mem_map.1 hs
    exact (hq i (List.mem_range.1 hi)).2
end
end Go.Ed
