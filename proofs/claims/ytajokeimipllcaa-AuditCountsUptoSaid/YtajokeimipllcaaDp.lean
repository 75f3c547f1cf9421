/-
  The logic on data: a nil in a block taken for an array of one's own.
-/
import Derived.Test.YtajokeimipllcaaDz
set_option linter.unusedSimpArgs false
set_option linter.unusedVariables false
namespace Go.Dl
theorem weak_nilB {X : Fr} {S : St} (t off a : Nat) (e : TypeId) (k : Nat) {te : TypeId} {cs : List C} (hb : S.blks t = some (te, cs)) (hc : cs[off]? = some (.f (.s (.slice none 0 0)))) (ha : S.arrs a = none) (hem : e < 1000000 := by decide) :
    Weak X S ⟨S.slots, upd S.blks t (some (te, cs.set off (.o a))), fun c => if c = a then some (e, k, []) else S.arrs c⟩ := by
  intro w0 N E act w hs
  have hLn : E.L a = none := hs.an a ha
  let E' : Env := ⟨E.B, fun c => if c = a then some (.slice none 0 0) else E.L c, E.I⟩
  have hL : ∀ c v, E.L c = some v → E'.L c = some v := fun c v h => by
    show (if c = a then some (Value.slice none 0 0) else E.L c) = some v
    by_cases hc : c = a
    · subst hc; rw [hLn] at h; cases h
    · rw [if_neg hc]; exact h
  have hLi : ∀ c v b, E'.L c = some v → v.ownB = some b → c ≠ a ∧ E.L c = some v := fun c v b h hb => by
    have h : (if c = a then some (Value.slice none 0 0) else E.L c) = some v := h
    by_cases hc : c = a
    · rw [if_pos hc] at h; cases h; cases hb
    · rw [if_neg hc] at h; exact ⟨hc, h⟩
  have hle : Env.Le w w E E' := ⟨fun _ _ => rfl, fun _ h => h, fun _ _ h => h, hL⟩
  refine ⟨E', hs.chg, hs.fr, hs.sz, fun x => (hs.slot x).mono hle, fun t' e cs' ht => ?_, hs.inj, hs.bl, fun c e' k' rows' hc => ?_, fun c v' b hv' hb => ?_, fun c c' v1 v2 b h1 h2 h3 h4 => ?_, fun t' ht => hs.bn t' (by have ht : upd S.blks t (some (te, cs.set off (.o a))) t' = none := ht; unfold upd at ht; split at ht <;> first | exact ht | cases ht), fun c hc => ?_, hs.il, hs.i0, hs.i1, hs.kp⟩
  · have ht : upd S.blks t (some (te, cs.set off (.o a))) t' = some (e, cs') := ht
    unfold upd at ht
    by_cases hx : t' = t
    · rw [if_pos hx] at ht
      cases ht
      subst hx
      obtain ⟨b, vs, h3, h4, h5, h6⟩ := hs.blk _ _ _ hb
      refine ⟨b, vs, h3, h4, ⟨by rw [List.length_set]; exact h5.1, fun j x u hx hu => ?_⟩, h6⟩
      rw [List.getElem?_set] at hx
      by_cases hj : off = j
      · subst hj
        rw [if_pos rfl] at hx
        have h1 := h5.2 off _ u hc hu
        split at hx
        · cases hx
          cases h1 with
          | f h1 => cases h1 with
            | s h1 => exact .o (if_pos rfl) h1
        · cases hx
      · rw [if_neg hj] at hx
        exact (h5.2 j x u hx hu).mono hle
    · rw [if_neg hx] at ht
      obtain ⟨b, vs, h3, h4, h5, h6⟩ := hs.blk _ _ _ ht
      exact ⟨b, vs, h3, h4, h5.mono hle, h6⟩
  · have hc : (if c = a then some (e, k, []) else S.arrs c) = some (e', k', rows') := hc
    by_cases hca : c = a
    · rw [if_pos hca] at hc; cases hc
      exact ⟨.slice none 0 0, [], if_pos hca, (.of (World.ownsRow_nil _ _ _ _) hem), ⟨rfl, fun j x u h => by simp at h⟩, fun r h => by simp at h, fun b h => by cases h⟩
    · rw [if_neg hca] at hc
      obtain ⟨v1, us1, q1, q2, q3, q4, q5⟩ := hs.arr _ _ _ _ hc
      exact ⟨v1, us1, hL _ _ q1, q2, q3, q4, q5⟩
  · obtain ⟨hca, hv'⟩ := hLi _ _ _ hv' hb
    exact hs.al _ _ _ hv' hb
  · exact hs.ai c c' v1 v2 b (hLi _ _ _ h1 h3).2 (hLi _ _ _ h2 h4).2 h3 h4
  · have hc : (if c = a then some (e, k, []) else S.arrs c) = none := hc
    show (if c = a then some (Value.slice none 0 0) else E.L c) = none
    by_cases hca : c = a
    · rw [if_pos hca] at hc; cases hc
    · rw [if_neg hca] at hc ⊢; exact hs.an c hc
end Go.Dl
