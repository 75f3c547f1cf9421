/-
  Layer 14 (shake): what is found behind a change; nothing goes back. Plain laws.
-/
import Derived.Test.YtkbcnapfcojekaaShakeS
namespace Go.Proofs.Ytkbcnapfcojekaa
open Go.RowKit Go.Ed

theorem noneFound {l : List Seen} {q : Int} (h : ∀ s ∈ l, s.peer ≠ q) : l.find? (fun s => s.peer == q) = none := by
  rw [List.find?_eq_none]
  intro x hx
  simpa using h x hx

/-- what is found of a peer, behind a change at peer p -/
theorem got_set {id : Int} {ls : List Seen} {p q : Int} {s : Seen} (h : Fit id ls) (hs : s.peer = p) (hf : Fit id (setS ls p s)) : got (setS ls p s) q = if q = p then s else got ls q := by
  by_cases e : s = got ls p
  · have e2 : setS ls p s = ls := by unfold setS; rw [if_pos e]
    rw [e2]
    split
    · rename_i hq; rw [hq, e]
    · rfl
  · rw [← refGot_eq hf.up, ← refGot_eq h.up]
    have htake : (ls.take (seek ls p)).find? (fun s => s.peer == p) = none := noneFound fun s hs => by have := take_below s hs; omega
    have hform : setS ls p s = ls.take (seek ls p) ++ s :: ls.drop (if has ls p then seek ls p + 1 else seek ls p) := by
      unfold setS
      rw [if_neg e]
      split <;> rfl
    unfold refGot
    rw [hform, List.find?_append]
    by_cases hq : q = p
    · subst hq
      rw [htake, if_pos rfl, List.find?_cons_of_pos (by simpa using hs)]
      rfl
    · rw [if_neg hq, List.find?_cons_of_neg (by simp [hs]; omega)]
      congr 1
      rw [← List.find?_append]
      by_cases hh : has ls p = true
      · obtain ⟨hl, hp⟩ := has_lt hh
        rw [if_pos hh]
        conv => rhs; rw [← List.take_append_drop (seek ls p) ls, List.drop_eq_getElem_cons hl]
        rw [List.find?_append, List.find?_append, List.find?_cons_of_neg (by simp [hp]; omega)]
      · rw [if_neg hh, List.take_append_drop]

theorem later_self (a b : Int) : later a b a b = false := by simp [later]
theorem later_bool (a b c d : Int) : later a b c d = true ↔ (c < a ∨ (a = c ∧ d < b)) := by simp [later]
theorem later_no {a b c d : Int} (h : ¬ (c < a ∨ (a = c ∧ d < b))) : later a b c d = false := by
  rw [← later_bool] at h
  simpa using h

/-- what a turn leaves -/
def turnS (drop : Bool) (ls : List Seen) (p boot life : Int) : List Seen := if drop then setS ls p (dropS (got ls p)) else setS ls p (seeS (got ls p) boot life)

structure Never (id : Int) (drop : Bool) (ls : List Seen) (p boot life : Int) : Prop where
  fit : Fit id (turnS drop ls p boot life)
  back : ∀ q, later (got ls q).boot (got ls q).life (got (turnS drop ls p boot life) q).boot (got (turnS drop ls p boot life) q).life = false
  mine : ∀ q, (got ls q).mine ≤ (got (turnS drop ls p boot life) q).mine
  rest : ∀ q, q ≠ p → got ls q = got (turnS drop ls p boot life) q
  seen : drop = false → later boot life (got (turnS drop ls p boot life) p).boot (got (turnS drop ls p boot life) p).life = false

theorem never {id : Int} {ls : List Seen} {p boot life : Int} (drop : Bool) (h : Fit id ls) (hp : isNode p = true) (hne : p ≠ id) (hb : 1 ≤ boot ∧ boot ≤ 1099511627776) (hl : 0 ≤ life ∧ life ≤ 1099511627776) :
    Never id drop ls p boot life := by
  have g0 := got_form (p := p) h
  cases drop
  · have h1 := (see_law h hp hne hb hl).2
    have hg := fun q => got_set (q := q) (s := seeS (got ls p) boot life) h ((see_peer _ _ _).trans g0.1) h1
    refine ⟨h1, fun q => ?_, fun q => ?_, fun q hq => ?_, fun _ => ?_⟩
    · simp only [turnS, Bool.false_eq_true, if_false, hg]
      split
      · rename_i e
        subst e
        unfold seeS
        split
        · rename_i hlt
          rw [later_bool] at hlt
          exact later_no (by simp only []; omega)
        · exact later_self _ _
      · exact later_self _ _
    · simp only [turnS, Bool.false_eq_true, if_false, hg]
      split
      · rename_i e
        rw [e, see_mine]
        omega
      · omega
    · simp only [turnS, Bool.false_eq_true, if_false, hg]
      rw [if_neg hq]
    · simp only [turnS, Bool.false_eq_true, if_false, hg, if_true]
      unfold seeS
      split
      · exact later_self _ _
      · rename_i hc; simpa using hc
  · have h1 := (drop_law h hp hne).2
    have hg := fun q => got_set (q := q) (s := dropS (got ls p)) h g0.1 h1
    refine ⟨h1, fun q => ?_, fun q => ?_, fun q hq => ?_, fun hd => by cases hd⟩
    · simp only [turnS, if_true, hg]
      split
      · rename_i e; subst e; exact later_self _ _
      · exact later_self _ _
    · simp only [turnS, if_true, hg]
      split
      · rename_i e
        rw [e]
        unfold dropS
        simp only []
        omega
      · omega
    · simp only [turnS, if_true, hg]
      rw [if_neg hq]

end Go.Proofs.Ytkbcnapfcojekaa
