/-
  Arguments opened: lines, half-edges, a slice of half-edges.
-/
import Derived.Test.YtogkcokgcoookaaOpenReg
import Derived.Test.YtogkcokgcoookaaHalfFits
namespace Go.Ed
open Go.ChangeShapes Go.WideShapes Go.ChangeAt Go.RowKit Go.Joins Go.Deep
/-- elements that lie one behind the other, as a list -/
theorem reads_of {α : Type} {f : α → List Value} {N : Nat} (hf : ∀ x, (f x).length = N) (hN : 0 < N) {w : World} {a : Addr} {n : Nat} {Good : α → Prop}
    (key : ∀ k, k < n → ∃ x : α, Good x ∧ ∀ j v, (f x)[j]? = some v → w.cell? (a.add (k * N + j)) = some v) : ∃ ls : List α, ls.length = n ∧ (∀ x ∈ ls, Good x) ∧ Reads w w.heap.size N (some a) n (flat f ls) := by
  have key2 : ∀ k : Fin n, ∃ x : α, Good x ∧ ∀ j v, (f x)[j]? = some v → w.cell? (a.add (k.1 * N + j)) = some v := fun k => key k.1 k.2
  refine ⟨List.ofFn fun k => Classical.choose (key2 k), by simp, fun x hx => ?_, ?_⟩
  · obtain ⟨k, rfl⟩ := List.mem_ofFn.1 hx
    exact (Classical.choose_spec (key2 k)).1
  · have hl : (List.ofFn fun k => Classical.choose (key2 k)).length = n := by simp
    refine ⟨by rw [flat_length f hf, hl], fun h0 => ⟨a, rfl, ?_, fun j u hu => ?_⟩⟩
    · obtain ⟨x, -, hx⟩ := key 0 h0
      have := hx 0 _ (List.getElem?_eq_getElem (by rw [hf]; exact hN))
      have := lt_of_cell this
      rwa [block_of_add] at this
    · have hjl : j < n * N := by
        rcases Nat.lt_or_ge j (n * N) with h | h
        · exact h
        · rw [List.getElem?_eq_none (by rw [flat_length f hf, hl]; exact h)] at hu; cases hu
      have hk : j / N < n := Nat.div_lt_of_lt_mul (by rw [Nat.mul_comm]; exact hjl)
      have hi : j % N < N := Nat.mod_lt _ hN
      have hj : j / N * N + j % N = j := by rw [Nat.mul_comm]; exact Nat.div_add_mod j N
      have := flat_at f hf (List.ofFn fun k => Classical.choose (key2 k)) (j / N) (by rw [hl]; exact hk) (j % N) hi
      rw [hj, hu, List.getElem_ofFn] at this
      have := (Classical.choose_spec (key2 ⟨j / N, hk⟩)).2 (j % N) u this.symm
      rwa [hj] at this
end Go.Ed
namespace Go.Proofs.Ytogkcokgcoookaa
open Go.ChangeShapes Go.WideShapes Go.ChangeAt Go.RowKit Go.Joins Go.Deep Go.Ed

theorem co_Line : Try.prog.cellsOf 44 = 4 := by kernel_rfl
theorem co_Lines : Try.prog.cellsOf 22 = 1 := by kernel_rfl
theorem co_Half : Try.prog.cellsOf 24 = 6 := by kernel_rfl

section
variable {H : Type} {enc : TypeId × Value → H} {w : World} {fuel : Nat} {cs : List Value} {y : DataW H × List MemPlace}
set_option maxRecDepth 100000 in
theorem open_line (h : DataW.trod enc Try.prog w 0 (fun _ => true) true fuel 44 cs = some y) : ∃ x : Line, x.nm.size ≤ maxLen ∧ cs = x.cells := by
  obtain ⟨hl, hf⟩ := open_fields Try.underlying44 co_Line h
  match cs, hl with
  | [c0, c1, c2, c3], _ =>
    obtain ⟨_, _, g0⟩ := hf 0 _ rfl
    obtain ⟨_, _, g1⟩ := hf 1 _ rfl
    simp [co_string, co_Reg] at g0 g1
    obtain ⟨n0, r0, -, k0⟩ := DataW.trod_string Try.underlying9 g0
    obtain ⟨ve, wt, fl, r1⟩ := open_reg g1
    simp only [List.cons.injEq, and_true] at r0 r1
    subst r0
    obtain ⟨rfl, rfl, rfl⟩ := r1
    exact ⟨⟨n0, ve, wt, fl⟩, k0, rfl⟩
theorem open_lines (h : DataW.trod enc Try.prog w 0 (fun _ => true) true fuel 22 cs = some y) :
    ∃ (A : Option Addr) (c : Nat) (ls : List Line), cs = [.slice A ls.length c] ∧ ls.length ≤ maxLen ∧ ls.length ≤ c ∧ (∀ l ∈ ls, l.nm.size ≤ maxLen) ∧ LinesAt w w.heap.size A ls.length ls := by
  rcases open_slice Try.underlying22 h with ⟨rfl, _⟩ | ⟨a, len, cap, m, n, D, Pl, rfl, hb, hl, hm, hmm, rfl, hx⟩
  · exact ⟨none, 0, [], rfl, Nat.zero_le _, Nat.le_refl _, fun l h => by simp at h, Reads.none_⟩
  have hmc : m = cap := by simpa using hmm
  obtain ⟨ls, h1, h2, h3⟩ := reads_of (f := Line.cells) Line.len (by omega) (w := w) (a := a) (n := len) (Good := fun x => x.nm.size ≤ maxLen) (fun k hk => by
    obtain ⟨cs', h1, h2⟩ := hx k (by omega)
    rw [co_Line] at h1
    obtain ⟨x, hnm, rfl⟩ := open_line h2
    obtain ⟨_, hlen, hcell⟩ := World.cells?_some h1
    refine ⟨x, hnm, fun j v hv => ?_⟩
    have hj : j < 4 := by
      rcases Nat.lt_or_ge j 4 with h | h
      · exact h
      · rw [List.getElem?_eq_none (by simpa [Line.cells] using h)] at hv; cases hv
    have := hcell j hj
    rw [add_of_add] at this
    rw [this, hv])
  subst h1
  exact ⟨some a, cap, ls, rfl, by omega, hl, h2, h3⟩
set_option maxRecDepth 100000 in
theorem open_half (h : DataW.trod enc Try.prog w 0 (fun _ => true) true fuel 24 cs = some y) : ∃ v : HV, ShortH v ∧ v.At w w.heap.size ∧ cs = v.cells := by
  obtain ⟨hl, hf⟩ := open_fields Try.underlying24 co_Half h
  match cs, hl with
  | [c0, c1, c2, c3, c4, c5], _ =>
    obtain ⟨_, _, g0⟩ := hf 0 _ rfl
    obtain ⟨_, _, g1⟩ := hf 1 _ rfl
    obtain ⟨_, _, g2⟩ := hf 2 _ rfl
    obtain ⟨_, _, g3⟩ := hf 3 _ rfl
    obtain ⟨_, _, g4⟩ := hf 4 _ rfl
    obtain ⟨_, _, g5⟩ := hf 5 _ rfl
    simp [co_int, co_int64, co_bool, co_Lines] at g0 g1 g2 g3 g4 g5
    obtain ⟨n0, r0, -⟩ := DataW.trod_int Try.underlying3 g0
    obtain ⟨n1, r1, -⟩ := DataW.trod_int Try.underlying2 g1
    obtain ⟨n2, r2, -⟩ := DataW.trod_int Try.underlying2 g2
    obtain ⟨A, c, ls, r3, k1, k2, k3, k4⟩ := open_lines g3
    obtain ⟨n4, r4, -⟩ := DataW.trod_bool Try.underlying4 g4
    obtain ⟨n5, r5, -⟩ := DataW.trod_int Try.underlying3 g5
    simp only [List.cons.injEq, and_true] at r0 r1 r2 r3 r4 r5
    subst r0 r1 r2 r3 r4 r5
    exact ⟨⟨⟨n0, n1, n2, ls, n4, n5⟩, A, c⟩, ⟨k1, k3⟩, ⟨k2, k4⟩, rfl⟩
theorem open_halves (h : DataW.trod enc Try.prog w 0 (fun _ => true) true fuel 39 cs = some y) :
    ∃ (A : Option Addr) (n c : Nat) (vs : List HV), cs = [.slice A n c] ∧ n ≤ maxLen ∧ n ≤ c ∧ HalvesAt w w.heap.size A n vs ∧ ∀ v ∈ vs, ShortH v := by
  rcases open_slice Try.underlying39 h with ⟨rfl, _⟩ | ⟨a, len, cap, m, n, D, Pl, rfl, hb, hl, hm, hmm, rfl, hx⟩
  · exact ⟨none, 0, 0, [], rfl, Nat.zero_le _, Nat.le_refl _, ⟨Reads.none_, fun v h => by simp at h⟩, fun v h => by simp at h⟩
  have hmc : m = cap := by simpa using hmm
  obtain ⟨ls, h1, h2, h3⟩ := reads_of (f := HV.cells) HV.len (by omega) (w := w) (a := a) (n := len) (Good := fun v => ShortH v ∧ v.At w w.heap.size) (fun k hk => by
    obtain ⟨cs', h1, h2⟩ := hx k (by omega)
    rw [co_Half] at h1
    obtain ⟨x, hnm, hat, rfl⟩ := open_half h2
    obtain ⟨_, hlen, hcell⟩ := World.cells?_some h1
    refine ⟨x, ⟨hnm, hat⟩, fun j v hv => ?_⟩
    have hj : j < 6 := by
      rcases Nat.lt_or_ge j 6 with h | h
      · exact h
      · rw [List.getElem?_eq_none (by simpa [HV.cells] using h)] at hv; cases hv
    have := hcell j hj
    rw [add_of_add] at this
    rw [this, hv])
  exact ⟨some a, len, cap, ls, rfl, by omega, hl, ⟨h3, fun v hv => (h2 v hv).2⟩, fun v hv => (h2 v hv).1⟩
end
end Go.Proofs.Ytogkcokgcoookaa
