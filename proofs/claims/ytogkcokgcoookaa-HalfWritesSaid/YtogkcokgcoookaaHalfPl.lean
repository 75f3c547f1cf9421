/-
  Layer 10 (half): plain laws on rows of half-edges that rise: where a peer stands, what Put and Drop leave. No program in sight.
-/
import Derived.Test.YtogkcokgcoookaaHalfC
namespace Go.Proofs.Ytogkcokgcoookaa
open Go.ChangeShapes Go.WideShapes Go.ChangeAt Go.RowKit Go.Shelf Go.Ed

def riseH (l : List Half) : Prop := l.Pairwise fun a b => a.peer < b.peer
/-- what Put leaves -/
def putL (l : List Half) (h : Half) : List Half := l.filter (fun x => decide (x.peer < h.peer)) ++ h :: l.filter (fun x => decide (h.peer < x.peer))
/-- what Drop leaves -/
def dropL (l : List Half) (q : Int) : List Half := l.filter fun x => x.peer != q

theorem filter_all {α : Type} {p : α → Bool} {l : List α} (h : ∀ x ∈ l, p x = true) : l.filter p = l := List.filter_eq_self.2 h
theorem filter_no {α : Type} {p : α → Bool} {l : List α} (h : ∀ x ∈ l, p x = false) : l.filter p = [] := List.filter_eq_nil_iff.2 fun x hx => by simp [h x hx]
theorem put_split {l a b : List Half} {h : Half} (e : l = a ++ b) (h1 : ∀ x ∈ a, x.peer < h.peer) (h2 : ∀ x ∈ b, h.peer < x.peer) : putL l h = a ++ h :: b := by
  subst e
  unfold putL
  rw [List.filter_append, List.filter_append, filter_all (l := a) (by simpa using h1), filter_no (l := b) (fun x hx => by have := h2 x hx; simp; omega), filter_no (l := a) (fun x hx => by have := h1 x hx; simp; omega),
    filter_all (l := b) (by simpa using h2), List.append_nil, List.nil_append]
theorem put_over {l a b : List Half} {h x : Half} (e : l = a ++ x :: b) (hx : x.peer = h.peer) (h1 : ∀ x ∈ a, x.peer < h.peer) (h2 : ∀ x ∈ b, h.peer < x.peer) : putL l h = a ++ h :: b := by
  subst e
  unfold putL
  rw [List.filter_append, List.filter_append, List.filter_cons_of_neg (by simp; omega), List.filter_cons_of_neg (by simp; omega), filter_all (l := a) (by simpa using h1), filter_no (l := b) (fun x hx => by have := h2 x hx; simp; omega),
    filter_no (l := a) (fun x hx => by have := h1 x hx; simp; omega), filter_all (l := b) (by simpa using h2), List.append_nil, List.nil_append]
theorem drop_out {l a b : List Half} {x : Half} {q : Int} (e : l = a ++ x :: b) (hx : x.peer = q) (h1 : ∀ x ∈ a, x.peer ≠ q) (h2 : ∀ x ∈ b, x.peer ≠ q) : dropL l q = a ++ b := by
  subst e
  unfold dropL
  rw [List.filter_append, List.filter_cons_of_neg (by simp [hx]), filter_all (l := a) (by simpa using h1), filter_all (l := b) (by simpa using h2)]
theorem drop_none {l : List Half} {q : Int} (h : ∀ x ∈ l, x.peer ≠ q) : dropL l q = l := filter_all (by simpa using h)

theorem split_at {α : Type} {l : List α} {i : Nat} (hi : i < l.length) : l = l.take i ++ l[i] :: l.drop (i + 1) := by
  rw [← List.drop_eq_getElem_cons hi, List.take_append_drop]
theorem rise_before {l : List Half} (h : riseH l) {i : Nat} (hi : i < l.length) : (∀ x ∈ l.take i, x.peer < l[i].peer) ∧ ∀ x ∈ l.drop (i + 1), l[i].peer < x.peer := by
  have up := List.pairwise_iff_getElem.1 h
  refine ⟨fun x hx => ?_, fun x hx => ?_⟩
  · obtain ⟨j, hj, rfl⟩ := List.getElem_of_mem hx
    rw [List.getElem_take]
    rw [List.length_take] at hj
    exact up j i (by omega) hi (by omega)
  · obtain ⟨j, hj, rfl⟩ := List.getElem_of_mem hx
    rw [List.getElem_drop]
    rw [List.length_drop] at hj
    exact up i (i + 1 + j) hi (by omega) (by omega)

/-- where place ends, of a peer in its bounds -/
theorem ends_split {vs : List HV} {q : Int} {i : Nat} (hE : Ends vs q i) (hp : riseH (vs.map HV.h)) (hb : ∀ v ∈ vs, 0 ≤ v.h.peer ∧ v.h.peer < 16) (hq : 0 ≤ q ∧ q < 16) :
    (∀ x ∈ (vs.map HV.h).take i, x.peer < q) ∧ (∀ hi : i < vs.length, q ≤ vs[i].h.peer) ∧ (∀ hi : i < vs.length, dif vs q i = 0 → vs[i].h.peer = q) ∧ (∀ hi : i < vs.length, dif vs q i ≠ 0 → q < vs[i].h.peer) := by
  have wz : ∀ x : Int, 0 ≤ x → x < 16 → RowKit.wrap64 (x - q) = x - q := by
    intro x h1 h2
    simp only [RowKit.wrap64]
    omega
  obtain ⟨h1, h2, h3⟩ := hE
  have hge : ∀ hi : i < vs.length, q ≤ vs[i].h.peer := fun hi => by
    have h4 := h3 hi
    have hbi := hb _ (List.getElem_mem hi)
    rw [dif_at hi, wz _ hbi.1 hbi.2] at h4
    omega
  refine ⟨fun x hx => ?_, hge, fun hi hd => ?_, fun hi hd => ?_⟩
  · obtain ⟨j, hj, rfl⟩ := List.getElem_of_mem hx
    rw [List.getElem_take]
    rw [List.length_take, List.length_map] at hj
    have h4 := h2 (by omega)
    have hl : i - 1 < vs.length := by omega
    have hbi := hb _ (List.getElem_mem hl)
    rw [dif_at hl, wz _ hbi.1 hbi.2] at h4
    rcases Nat.lt_or_ge j (i - 1) with h5 | h5
    · have := List.pairwise_iff_getElem.1 hp j (i - 1) (by simp; omega) (by simpa using hl) h5
      simp only [List.getElem_map] at this ⊢
      omega
    · obtain rfl : j = i - 1 := by omega
      simp only [List.getElem_map]
      omega
  · have hbi := hb _ (List.getElem_mem hi)
    rw [dif_at hi, wz _ hbi.1 hbi.2] at hd
    omega
  · have hbi := hb _ (List.getElem_mem hi)
    rw [dif_at hi, wz _ hbi.1 hbi.2] at hd
    have := hge hi
    omega

end Go.Proofs.Ytogkcokgcoookaa
