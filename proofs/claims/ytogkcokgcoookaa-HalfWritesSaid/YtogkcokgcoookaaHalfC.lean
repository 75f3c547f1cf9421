/-
  Layer 10 (half): place, Find (the code's and the document's).
-/
import Derived.Test.YtogkcokgcoookaaHalfB
namespace Go.Proofs.Ytogkcokgcoookaa
open Go.ChangeShapes Go.WideShapes Go.ChangeAt Go.RowKit Go.Shelf Go.Ed

set_option maxRecDepth 100000 in
theorem place_any (w : World) (A : Option Addr) (n c : Nat) (vs : List HV) (q : Int) (hn : (n : Int) ≤ 1000000000000) (hI : HalvesAt w w.heap.size A n vs) :
    Calls Try.prog 54 #[.slice A n c, .int .i64 q] w (Searched w vs q) := by
  go_enter Try.func54, Try.ntmps54
  go_wp2_with fail
  refine (search_any _ A n c vs q hn hI).mono ?_
  rintro e w1 ⟨i, hE, rfl, h1⟩
  replace hE := Lib.hid hE
  go_wp2_with fail
  go_ret2
  exact ⟨i, hE.out, rfl, h1⟩

/-- what the document's Find finds: the first with that name -/
def findH (hs : List Half) (q : Int) : Option Half := hs.find? fun h => h.peer == q
/-- the found half-edge in memory of the call's own -/
def Found (w : World) (o : Option Half) (e : Ending) (w' : World) : Prop := ∃ A c, e = .returned (.tuple #[HV.val ⟨o.getD zeroHalf, A, c⟩, .bool o.isSome]) ∧ (o.getD zeroHalf).lines.length ≤ c ∧
  w'.ownsRow w.heap.size 44 4 (.slice A (o.getD zeroHalf).lines.length c) (o.getD zeroHalf).lines.length (flat Line.cells (o.getD zeroHalf).lines) ∧ Below w.heap.size w w'

/-- what place finds -/
theorem find_place {vs : List HV} {q : Int} {i : Nat} (hE : Ends vs q i) (hp : (vs.map HV.h).Pairwise fun a b => a.peer < b.peer) (hb : ∀ v ∈ vs, 0 ≤ v.h.peer ∧ v.h.peer < 16) (hq : -9223372036854775808 ≤ q ∧ q ≤ 9223372036854775807) :
    ((decide (i < vs.length) && dif vs q i == 0) = true → ∃ hi : i < vs.length, findH (vs.map HV.h) q = some vs[i].h) ∧ ((decide (i < vs.length) && dif vs q i == 0) = false → findH (vs.map HV.h) q = none) := by
  have wz : ∀ x : Int, 0 ≤ x → x < 16 → (RowKit.wrap64 (x - q) = 0 ↔ x = q) := by
    intro x h1 h2
    simp only [RowKit.wrap64]
    omega
  have up : ∀ a b (ha : a < vs.length) (hb : b < vs.length), a < b → vs[a].h.peer < vs[b].h.peer := by
    intro a b ha hb hab
    have := List.pairwise_iff_getElem.1 hp a b (by simpa using ha) (by simpa using hb) hab
    simpa using this
  constructor
  · intro h
    rw [Bool.and_eq_true, decide_eq_true_eq] at h
    obtain ⟨hi, hd⟩ := h
    rw [dif_at hi] at hd
    have hbi := hb _ (List.getElem_mem hi)
    have he := (wz _ hbi.1 hbi.2).1 (by simpa using hd)
    refine ⟨hi, ?_⟩
    unfold findH
    rw [List.find?_eq_some_iff_getElem]
    refine ⟨by simpa using he, i, by simpa using hi, by simp, fun j hj => ?_⟩
    have := up j i (by omega) hi hj
    simp only [List.getElem_map, Bool.not_eq_true', beq_eq_false_iff_ne, ne_eq]
    omega
  · intro h
    unfold findH
    rw [List.find?_eq_none]
    intro x hx
    obtain ⟨v, hv, rfl⟩ := List.mem_map.1 hx
    obtain ⟨j, hj, rfl⟩ := List.getElem_of_mem hv
    intro he
    have he : vs[j].h.peer = q := by simpa using he
    have hbj := hb _ (List.getElem_mem hj)
    obtain ⟨h1, h2, h3⟩ := hE
    rcases Nat.lt_trichotomy j i with h4 | h4 | h4
    · have h5 := h2 (by omega)
      rw [dif_at (show i - 1 < vs.length by omega)] at h5
      have hbi := hb _ (List.getElem_mem (show i - 1 < vs.length by omega))
      have h6 : vs[j].h.peer ≤ vs[i - 1].h.peer := by
        rcases Nat.lt_or_ge j (i - 1) with h7 | h7
        · have := up j (i - 1) hj (by omega) h7; omega
        · have : j = i - 1 := by omega
          subst this
          omega
      simp only [RowKit.wrap64] at h5
      omega
    · subst h4
      rw [show decide (j < vs.length) = true by simp [hj], Bool.true_and, dif_at hj] at h
      have := (wz _ hbj.1 hbj.2).2 he
      rw [this] at h
      cases h
    · have hi : i < vs.length := by omega
      have h5 := h3 hi
      have hbi := hb _ (List.getElem_mem hi)
      have h6 := up i j hi hj h4
      rw [dif_at hi] at h5
      simp only [RowKit.wrap64] at h5
      omega

end Go.Proofs.Ytogkcokgcoookaa
