/-
  The logic on data: an own array lent to a call that answers with a plain value.
-/
import Derived.Test.YtajokeimipllcaaDe
set_option linter.unusedSimpArgs false
set_option linter.unusedVariables false
namespace Go.Dl
open Go.Ed Go.RowKit

theorem arr_repF {w : World} {I I' : Nat → Prop} {e : TypeId} {k : Nat} {rows : List (List F)} {v : Value} {us : List Value} (hown : w.ownsRow 0 e k v rows.length us) (hrep : RepFs w I rows.flatten us) (hk : ∀ r ∈ rows, r.length = k) (hI : ∀ b, I b → I' b) (hb' : ∀ b, v.ownB = some b → I' b) : RepF w I' (.l k rows) v := by
  rcases hown.2 with ⟨hv, h0⟩ | ⟨g, cap, cur, hv, hb, hg, hn, hcap, hsz, htake⟩
  · obtain rfl := List.eq_nil_of_length_eq_zero h0
    rw [hv]; exact .e
  · rcases Nat.eq_zero_or_pos rows.length with h0 | h0
    · obtain rfl := List.eq_nil_of_length_eq_zero h0
      rw [hv]; exact .e
    · have hcell : ∀ j x, rows.flatten[j]? = some x → w.cell? ((⟨g, 0, none⟩ : Addr).add j) = some (us.getD j undef) ∧ us[j]? = some (us.getD j undef) := fun j x hx => by
        have hj : j < us.length := by rw [← hrep.1]; exact (List.getElem?_eq_some_iff.1 hx).1
        have e1 : us[j]? = some (us.getD j undef) := by rw [List.getD_eq_getElem?_getD, List.getElem?_eq_getElem hj]; rfl
        refine ⟨?_, e1⟩
        have hB : Blk w g e cur := hg
        rw [add_plain, Nat.zero_add, hB.cell, ← e1, ← htake, List.getElem?_take]
        rw [if_pos (by rw [← hown.1]; exact hj)]
        simp
      rw [hv]
      exact .l (fun j => us.getD j undef) rfl h0 hk hn (hb' g (by rw [hv]; rfl)) (fun j x hx => (hcell j x hx).1) fun j x hx => (hrep.2 j x _ hx (hcell j x hx).2).mono (fun _ _ => rfl) hI
def cleL (A : Nat → Option (TypeId × Nat × List (List F))) : List C → List C → Prop
  | [], [] => True
  | .f x :: xs, .f y :: ys => fle x y ∧ cleL A xs ys
  | .o a :: xs, .f y :: ys => (∃ e k rows, A a = some (e, k, rows) ∧ y = .l k rows ∧ e < 1000000) ∧ cleL A xs ys
  | _, _ => False
def vleL (A : Nat → Option (TypeId × Nat × List (List F))) : V → V → Prop
  | .c x, .c y => cleL A [x] [y]
  | .agg xs, .agg ys => cleL A xs ys
  | _, _ => False
def vlesL (A : Nat → Option (TypeId × Nat × List (List F))) : List V → List V → Prop
  | [], [] => True
  | x :: xs, y :: ys => vleL A x y ∧ vlesL A xs ys
  | _, _ => False
section
variable {P : Program} {X : Fr} {w0 : World} {N : Nat} {S : St} {E : Env} {a : Act} {w : World}
/-- what is lent with the arrays -/
def lent (S : St) (E : Env) : Nat → Prop := fun b => E.I b ∨ ∃ c v, E.L c = some v ∧ v.ownB = some b
theorem cleL_ok (hs : Sim X w0 N S E a w) : ∀ {xs ys : List C} {us : List Value}, cleL S.arrs xs ys → Reps w E xs us → Reps w (.pure (lent S E)) ys us
  | [], [], us, _, h => ⟨h.1, fun j x u hx hu => by simp at hx⟩
  | [], _ :: _, us, h, _ => by simp [cleL] at h
  | x :: xs, [], us, h, _ => by cases x <;> simp [cleL] at h
  | x :: xs, y :: ys, [], h, hr => by have := hr.1; simp at this
  | x :: xs, y :: ys, u :: us, h, hr => by
    have ht : cleL S.arrs xs ys ∧ RepC w (.pure (lent S E)) y u := by
      have h0 := hr.2 0 x u rfl rfl
      cases x with
      | f x =>
        cases y with
        | f y =>
          refine ⟨h.2, ?_⟩
          cases h0 with
          | f h0 => exact .f (fle_ok h.1 (h0.mono (fun _ _ => rfl) fun b hb => .inl hb))
        | o => exact h.elim
        | un => exact h.elim
        | p => exact h.elim
      | o c =>
        cases y with
        | f y =>
          obtain ⟨⟨e, k, rows, hA, rfl, hem⟩, h2⟩ := h
          refine ⟨h2, ?_⟩
          obtain ⟨v, ys', hL, hown, hrep, hk, _⟩ := hs.arr _ _ _ _ hA
          cases h0 with
          | o h0 _ =>
            rw [hL] at h0; cases h0
            exact .f (arr_repF (hown.row hem) hrep hk (fun b hb => .inl hb) fun b hb => .inr ⟨c, _, hL, hb⟩)
        | o => exact h.elim
        | un => exact h.elim
        | p => exact h.elim
      | un => exact h.elim
      | p => exact h.elim
    have ih := cleL_ok hs ht.1 (⟨by simpa using hr.1, fun j => hr.2 (j + 1)⟩ : Reps w E xs us)
    refine ⟨by simp [ih.1], fun j x' u' hx hu => ?_⟩
    cases j with
    | zero => cases hx; cases hu; exact ht.2
    | succ j => exact ih.2 j x' u' hx hu
theorem vleL_ok (hs : Sim X w0 N S E a w) {x y : V} {u : Value} (h : vleL S.arrs x y) (hr : RepV w E x u) : RepV w (.pure (lent S E)) y u := by
  cases x with
  | c x =>
    cases y with
    | c y =>
      cases hr with
      | c hr =>
        have := cleL_ok hs h (⟨rfl, fun j x' u' hx hu => by
          cases j with
          | zero => cases hx; cases hu; exact hr
          | succ j => simp at hx⟩ : Reps w E [x] [u])
        exact .c (this.2 0 _ _ rfl rfl)
    | _ => exact h.elim
  | agg xs =>
    cases y with
    | agg ys => cases hr with
      | agg hr => exact .agg (cleL_ok hs h hr)
    | _ => exact h.elim
  | _ => exact h.elim
theorem vlesL_ok (hs : Sim X w0 N S E a w) : ∀ {xs ys : List V}, vlesL S.arrs xs ys → xs.length = ys.length ∧ ∀ (j : Nat) y u, ys[j]? = some y → (∀ x, xs[j]? = some x → RepV w E x u) → RepV w (.pure (lent S E)) y u
  | [], [], _ => ⟨rfl, fun j y u h => by simp at h⟩
  | [], _ :: _, h => h.elim
  | _ :: _, [], h => h.elim
  | x :: xs, y :: ys, h => by
    have ih := vlesL_ok hs h.2
    refine ⟨by simp [ih.1], fun j y' u hy hx => ?_⟩
    cases j with
    | zero => cases hy; exact vleL_ok hs h.1 (hx x rfl)
    | succ j => exact ih.2 j y' u hy fun x' hx' => hx x' hx'
theorem step_lend {o : Oper} {c : Call} {f : FuncId} {as : List V} {r : Value} (hop : o.op = .call c) (hf : c.callee = .value (.func f)) (hb : HasBody P f) (hc : CallD P f as (.c (.f (.s r)))) (ha : vlesL S.arrs (c.args.toList.map (ev S)) as) (hs : Sim X w0 N S E a w) (hd : ∀ t, o.dst = some t → t < N)
    {K : Act → World → Prop} {Q : Exit → Act → World → Prop} (hK : ∀ E' a' w', Sim X w0 N { S with slots := putS S.slots o.dst (.c (.f (.s r))) } E' a' w' → K a' w') : o.wp P a w K Q := by
  obtain ⟨fn, hfn, hbody, hnm⟩ := hb
  obtain ⟨hl, hv⟩ := vlesL_ok hs ha
  have hx : (execOp a.eval o).run P w = .ok (.enter f (c.args.map a.eval)) w := by
    obtain ⟨callee, args, argTypes⟩ := c
    simp only at hf
    subst hf
    have h1 : fn.body ≠ none := fun h => by simp [h] at hbody
    have h2 : fn.name ≠ "runtime.NumGoroutine" := by simpa using hnm
    simp [execOp, hop, resolve, invoke, Act.eval, Deferred.ofValue, callFunc, hfn, h1, h2]
  unfold Oper.wp
  rw [hx]
  refine Calls.mono (hc w (c.args.map a.eval) (lent S E) (fun b hb => hb.elim (hs.il b) fun ⟨c, v, h1, h2⟩ => (hs.al c v b h1 h2).1) (by rw [← hl]; simp) fun j v u h1 h2 => hv j v u h1 fun x hx => ?_) ?_
  · rw [List.getElem?_map] at hx
    rw [Array.getElem?_map] at h2
    cases hq : c.args[j]? with
    | none => simp [hq] at h2
    | some q =>
      simp [hq] at h2
      rw [show c.args.toList[j]? = some q by simpa using hq] at hx
      cases hx
      subst h2
      exact hs.ev q
  · rintro e w' ⟨u, I', rfl, hr, hbel, hI, hI'⟩
    have h := hs.grow hbel
    have hr' : RepV w' E (.c (.f (.s r))) u := by
      cases hr with
      | c hr => cases hr with
        | f hr => cases hr with
          | s hr => exact .c (.f (.s hr))
    exact hK _ _ _ (h.env _ u hr' o.dst hd)
end

end Go.Dl
