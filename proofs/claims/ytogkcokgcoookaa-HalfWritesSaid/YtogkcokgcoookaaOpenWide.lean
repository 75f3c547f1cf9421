/-
  Arguments opened, with what the reach bounds: half-edges, a slice of half-edges.
-/
import Derived.Test.YtogkcokgcoookaaOpenHalf
namespace Go.Ed
open Go.ChangeShapes Go.WideShapes Go.ChangeAt Go.RowKit Go.Joins Go.Deep
section
variable {H : Type} {P : Program}
def Fits (P : Program) (t : TypeId) (d : DataW H) : Prop := (d.weights P t).all (· ≤ reachBytes) = true
theorem all_weights {e : TypeId} : ∀ {l : List (DataW H)}, (DataW.weightsAll P e l).all (· ≤ reachBytes) = true → ∀ d ∈ l, Fits P e d
  | [], _, d, hd => by simp at hd
  | x :: l, h, d, hd => by
    simp only [DataW.weightsAll, List.all_append, Bool.and_eq_true] at h
    rcases List.mem_cons.1 hd with rfl | hd
    · exact h.1
    · exact all_weights h.2 d hd
theorem each_weights : ∀ {ts : List TypeId} {l : List (DataW H)}, (DataW.weightsEach P ts l).all (· ≤ reachBytes) = true → ∀ (j : Nat) t d, ts[j]? = some t → l[j]? = some d → Fits P t d
  | [], _, _, j, t, d, h1, _ => by simp at h1
  | _ :: _, [], _, j, t, d, _, h2 => by simp at h2
  | t0 :: ts, d0 :: l, h, j, t, d, h1, h2 => by
    simp only [DataW.weightsEach, List.all_append, Bool.and_eq_true] at h
    cases j with
    | zero => simp at h1 h2; subst h1 h2; exact h.1
    | succ j => exact each_weights h.2 j t d (by simpa using h1) (by simpa using h2)
theorem weights_at {ts us : List TypeId} {ds : List (DataW H)} (h : (DataW.weightsEach P (ts ++ us) (ds ++ [])).all (· ≤ reachBytes) = true) {j : Nat} {t : TypeId} {d : DataW H} (h1 : ts[j]? = some t) (h2 : ds[j]? = some d) : Fits P t d :=
  each_weights h j t d (by
    have : j < ts.length := by
      rcases Nat.lt_or_ge j ts.length with h | h
      · exact h
      · rw [List.getElem?_eq_none h] at h1; cases h1
    rw [List.getElem?_append_left this]; exact h1) (by rw [List.append_nil]; exact h2)
theorem fits_slice {t e : TypeId} {l r : List (DataW H)} (ht : P.underlying t = some (.slice e)) (h : Fits P t (.slice l r)) : (l.length + r.length) * P.bytesOf e ≤ reachBytes ∧ ∀ d ∈ l, Fits P e d := by
  unfold Fits at h
  simp only [DataW.weights, ht, List.all_cons, List.all_append, Bool.and_eq_true, decide_eq_true_eq] at h
  exact ⟨h.1, all_weights h.2.1⟩
theorem fits_struct {t : TypeId} {fs : Array Field} {l : List (DataW H)} (ht : P.underlying t = some (.struct fs)) (h : Fits P t (.agg l)) {j : Nat} {f : Field} {d : DataW H} (h1 : fs[j]? = some f) (h2 : l[j]? = some d) : Fits P f.type d := by
  unfold Fits at h
  simp only [DataW.weights, ht] at h
  exact each_weights h j f.type d (by simp [h1]) h2
end
/-- each field of a struct can be read, and is within the reach -/
theorem open_fieldsw {H : Type} {enc : TypeId × Value → H} {P : Program} {w : World} {t : TypeId} {fs : Array Field} {k fuel : Nat} {cs : List Value} {x : DataW H × List MemPlace} (ht : P.underlying t = some (.struct fs)) (ce : P.cellsOf t = k)
    (h : DataW.trod enc P w 0 (fun _ => true) true fuel t cs = some x) (hw : Fits P t x.1) :
    cs.length = k ∧ ∀ (j : Nat) (f : Field), fs[j]? = some f → ∃ fuel' y, DataW.trod enc P w 0 (fun _ => true) true fuel' f.type ((cs.drop f.offset).take (P.cellsOf f.type)) = some y ∧ Fits P f.type y.1 := by
  obtain ⟨xs, k', hk, hxy, hl, hxl, hf⟩ := DataW.trod_struct ht h
  refine ⟨hl.trans ce, fun j f hjf => ?_⟩
  have hj : j < xs.length := by
    rw [hxl]
    rcases Nat.lt_or_ge j fs.size with h | h
    · simpa using h
    · rw [Array.getElem?_eq_none h] at hjf; cases hjf
  subst hxy
  exact ⟨_, _, (hf j f hjf).trans (List.getElem?_eq_getElem hj), fits_struct ht hw hjf (by simp [List.getElem?_eq_getElem hj])⟩
end Go.Ed
namespace Go.Proofs.Ytogkcokgcoookaa
open Go.ChangeShapes Go.WideShapes Go.ChangeAt Go.RowKit Go.Joins Go.Deep Go.Ed

theorem by_Line : Try.prog.bytesOf 44 = 40 := by kernel_rfl
theorem by_Half : Try.prog.bytesOf 24 = 64 := by kernel_rfl
/-- lines and names within the reach -/
def ShortW (v : HV) : Prop := ShortH v ∧ v.h.lines.length * 40 ≤ 140737488355328

section
variable {H : Type} {enc : TypeId × Value → H} {w : World} {fuel : Nat} {cs : List Value} {y : DataW H × List MemPlace}
theorem lines_bound (h : DataW.trod enc Try.prog w 0 (fun _ => true) true fuel 22 cs = some y) (hw : Fits Try.prog 22 y.1) {A : Option Addr} {m c : Nat} (e : cs = [.slice A m c]) : m * 40 ≤ 140737488355328 := by
  rcases open_slice Try.underlying22 h with ⟨rfl, _⟩ | ⟨a, len, cap, m', n, D, Pl, rfl, hb, hl, hm, hmm, rfl, hx⟩
  · cases e; omega
  · cases e
    have := (fits_slice Try.underlying22 hw).1
    rw [by_Line] at this
    simp only [List.length_map, List.length_range, reachBytes] at this
    omega
set_option maxRecDepth 100000 in
theorem open_halfw (h : DataW.trod enc Try.prog w 0 (fun _ => true) true fuel 24 cs = some y) (hw : Fits Try.prog 24 y.1) : ∃ v : HV, ShortW v ∧ v.At w w.heap.size ∧ cs = v.cells := by
  obtain ⟨v, h1, h2, h3⟩ := open_half h
  refine ⟨v, ⟨h1, ?_⟩, h2, h3⟩
  obtain ⟨-, hf⟩ := open_fieldsw Try.underlying24 co_Half h hw
  obtain ⟨_, _, g3, hw3⟩ := hf 3 _ rfl
  refine lines_bound g3 hw3 (A := v.A) (c := v.c) ?_
  rw [h3]
  simp [HV.cells, co_Lines]
theorem open_halvesw (h : DataW.trod enc Try.prog w 0 (fun _ => true) true fuel 39 cs = some y) (hw : Fits Try.prog 39 y.1) :
    ∃ (A : Option Addr) (n c : Nat) (vs : List HV), cs = [.slice A n c] ∧ n * 64 ≤ 140737488355328 ∧ n ≤ c ∧ HalvesAt w w.heap.size A n vs ∧ ∀ v ∈ vs, ShortW v := by
  rcases open_slice Try.underlying39 h with ⟨rfl, _⟩ | ⟨a, len, cap, m, n, D, Pl, rfl, hb, hl, hm, hmm, rfl, hx⟩
  · exact ⟨none, 0, 0, [], rfl, by omega, Nat.le_refl _, ⟨Reads.none_, fun v h => by simp at h⟩, fun v h => by simp at h⟩
  have hmc : m = cap := by simpa using hmm
  obtain ⟨hw1, hw2⟩ := fits_slice Try.underlying39 hw
  obtain ⟨ls, h1, h2, h3⟩ := reads_of (f := HV.cells) HV.len (by omega) (w := w) (a := a) (n := len) (Good := fun v => ShortW v ∧ v.At w w.heap.size) (fun k hk => by
    obtain ⟨cs', h1, h2⟩ := hx k (by omega)
    rw [co_Half] at h1
    obtain ⟨x, hnm, hat, rfl⟩ := open_halfw h2 (hw2 _ (List.mem_map.2 ⟨k, by simpa using hk, rfl⟩))
    obtain ⟨_, hlen, hcell⟩ := World.cells?_some h1
    refine ⟨x, ⟨hnm, hat⟩, fun j v hv => ?_⟩
    have hj : j < 6 := by
      rcases Nat.lt_or_ge j 6 with h | h
      · exact h
      · rw [List.getElem?_eq_none (by simpa [HV.cells] using h)] at hv; cases hv
    have := hcell j hj
    rw [add_of_add] at this
    rw [this, hv])
  refine ⟨some a, len, cap, ls, rfl, ?_, hl, ⟨h3, fun v hv => (h2 v hv).2⟩, fun v hv => (h2 v hv).1⟩
  rw [by_Half] at hw1
  simp only [List.length_map, List.length_range, reachBytes] at hw1
  omega
end
end Go.Proofs.Ytogkcokgcoookaa
