/-
  The logic on data: pointers of the frame taken for data, and back; calls in drawn rows of any order.
-/
import Derived.Test.YtajokeimipllcaaDz
import Derived.Test.YtajokeimipllcaaDu
set_option linter.unusedSimpArgs false
set_option linter.unusedVariables false
namespace Go.Dl
section
variable {P : Program} {T : Nat → Option Ty} {X : Fr} {w0 : World} {N : Nat} {S : St} {ops : Array Oper} {R : St → Prop} {fuel : Nat} {listed : Array Bool}
theorem weak_slot (j : Nat) (v' : V) (h : ∀ (E : Env) (w : World) (u : Value), (∀ t, t ∈ X.B0 → E.B t = some (X.G t)) → RepV w E (S.slots j) u → RepV w E v' u) : Weak X S ⟨upd S.slots j v', S.blks, S.arrs⟩ := fun w0 N E a w hs =>
  ⟨E, hs.retmp hs.sz fun t => by
    by_cases e : t = j
    · subst e; rw [upd_same]; exact h E w _ hs.kp (hs.slot t)
    · rw [upd_ne _ _ e]; exact hs.slot t⟩
abbrev pV (b off : Nat) : F := .s (.pointer (some ⟨b, off, none⟩))
/-- a pointer to a block that the frame names is data -/
theorem weak_ptr (j t b off : Nat) (hs : S.slots j = .loc t off) (ht : t ∈ X.B0) (hb : X.G t = b) : Weak X S ⟨upd S.slots j (.c (.f (pV b off))), S.blks, S.arrs⟩ := weak_slot j _ fun E w u hk hr => by
  rw [hs] at hr
  cases hr with
  | loc h => rw [hk t ht, hb] at h; cases h; exact .c (.f (.s rfl))
theorem weak_unptr (j t b off : Nat) (hs : S.slots j = .c (.f (pV b off))) (ht : t ∈ X.B0) (hb : X.G t = b) : Weak X S ⟨upd S.slots j (.loc t off), S.blks, S.arrs⟩ := weak_slot j _ fun E w u hk hr => by
  rw [hs] at hr
  cases hr with
  | c h => cases h with
    | f h => cases h with
      | s h => exact .loc (by rw [hk t ht, hb])
theorem weak_clo (j t b off : Nat) {f : FuncId} (hs : S.slots j = .clo f [.f (pV b off)] []) (ht : t ∈ X.B0) (hb : X.G t = b) : Weak X S ⟨upd S.slots j (.clo f [.loc t off] []), S.blks, S.arrs⟩ := weak_slot j _ fun E w u hk hr => by
  rw [hs] at hr
  cases hr with
  | clo h1 h2 =>
    refine .clo ⟨h1.1, fun i x u hx hu => ?_⟩ h2
    match i with
    | 0 =>
      cases hx
      have h3 := h1.2 0 _ u rfl hu
      cases h3 with
      | f h => cases h with
        | s _ => exact .loc (by rw [hk t ht, hb])
    | i + 1 => cases hx
/-! a drawn row, calls among what is ready -/
def allR (P : Program) (T : Nat → Option Ty) (X : Fr) (w0 : World) (N : Nat) (ops : Array Oper) (R : St → Prop) (fuel : Nat) (listed : Array Bool) (S : St) : List Nat → Prop
  | [] => True
  | i :: l => (match ops[i]? with
    | some o => o.guard = none ∧ RunU P T X w0 N o (AnyD P X w0 N ops R fuel (listed.setIfInBounds i true)) S
    | none => False) ∧ allR P T X w0 N ops R fuel listed S l
theorem allR_mem : ∀ {l : List Nat}, allR P T X w0 N ops R fuel listed S l → ∀ i ∈ l, ∃ o, ops[i]? = some o ∧ o.guard = none ∧ RunU P T X w0 N o (AnyD P X w0 N ops R fuel (listed.setIfInBounds i true)) S
  | j :: l, h, i, hi => by
    rcases List.mem_cons.1 hi with e | e
    · subst e
      have h1 := h.1
      cases ho : ops[i]? with
      | none => rw [ho] at h1; exact h1.elim
      | some o => rw [ho] at h1; exact ⟨o, rfl, h1⟩
    · exact allR_mem h.2 i e
/-- whatever is ready may come; calls too -/
theorem any_allR (rs : List Nat) (hT : ∀ t y, T t = some y → TyOk P t y) (hN : okN N ops = true) (hr : Region.ready .any ops listed = rs) (hne : rs ≠ []) (h : allR P T X w0 N ops R fuel listed S rs) : AnyD P X w0 N ops R (fuel + 1) listed S := fun E a w hs => by
  refine ⟨fun e => absurd (hr.symm.trans e) hne, fun i hi => ?_⟩
  rw [hr] at hi
  obtain ⟨o, ho, hg, he⟩ := allR_mem h i hi
  unfold wpOpIn
  rw [ho]
  simp only
  rw [if_pos (wanted_none hg a)]
  unfold RunU at he
  split at he
  · rename_i hst
    refine op_in (fun c hc => by rw [hc] at hst; cases hst) ?_
    exact he E a w hs (okN_ok hN i o ho) _ _ fun S' E' a' w' h1 h2 => h1 E' a' w' h2
  · exact op_in (eff3_nd he) (eff3_ok hT he hs (okN_ok hN i o ho) fun S' E' a' w' h1 h2 => h1 E' a' w' h2)
end
end Go.Dl
