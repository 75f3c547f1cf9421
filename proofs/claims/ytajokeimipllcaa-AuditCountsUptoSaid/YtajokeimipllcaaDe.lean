/-
  The logic on data, more of it: nil becomes an array of the call's own.
-/
import Derived.Test.YtajokeimipllcaaDd
set_option linter.unusedSimpArgs false
set_option linter.unusedVariables false
namespace Go.Dl
open Go.Ed Go.RowKit

/-- nil in a slot is taken for an empty array of the call's own -/
theorem weak_nil {X : Fr} {S : St} (t a : Nat) (e : TypeId) (k : Nat) (h : S.slots t = .c (.f (.s (.slice none 0 0)))) (ha : S.arrs a = none) (hem : e < 1000000 := by decide) :
    Weak X S ⟨upd S.slots t (.c (.o a)), S.blks, fun c => if c = a then some (e, k, []) else S.arrs c⟩ := by
  intro w0 N E act w hs
  have hLn : E.L a = none := hs.an a ha
  let E' : Env := ⟨E.B, fun c => if c = a then some (.slice none 0 0) else E.L c, E.I⟩
  have hL : ∀ c v, E.L c = some v → E'.L c = some v := fun c v h => by
    show (if c = a then some (Value.slice none 0 0) else E.L c) = some v
    by_cases hc : c = a
    · subst hc; rw [hLn] at h; cases h
    · rw [if_neg hc]; exact h
  have hLi : ∀ c v b, E'.L c = some v → v.ownB = some b → c ≠ a ∧ E.L c = some v := fun c v b h hb => by
    have h : (if c = a then some (Value.slice none 0 0) else E.L c) = some v := h
    by_cases hc : c = a
    · rw [if_pos hc] at h; cases h; cases hb
    · rw [if_neg hc] at h; exact ⟨hc, h⟩
  have hle : Env.Le w w E E' := ⟨fun _ _ => rfl, fun _ h => h, fun _ _ h => h, hL⟩
  refine ⟨E', hs.chg, hs.fr, hs.sz, fun x => ?_, fun t e cs ht => ?_, hs.inj, hs.bl, fun c e' k' rows' hc => ?_, fun c v' b hv' hb => ?_, fun c c' v1 v2 b h1 h2 h3 h4 => ?_, hs.bn, fun c hc => ?_, hs.il, hs.i0, hs.i1, hs.kp⟩
  · show RepV w E' (upd S.slots t (.c (.o a)) x) _
    unfold upd
    by_cases hx : x = t
    · rw [if_pos hx]
      have h1 := hs.slot t
      rw [h] at h1
      subst hx
      generalize act.tmps.getD x undef = u at h1
      cases h1 with
      | c h1 => cases h1 with
        | f h1 => cases h1 with
          | s h1 => exact .c (.o (if_pos rfl) h1)
    · rw [if_neg hx]; exact (hs.slot x).mono hle
  · obtain ⟨b, vs, h3, h4, h5, h6⟩ := hs.blk _ _ _ ht
    exact ⟨b, vs, h3, h4, h5.mono hle, h6⟩
  · have hc : (if c = a then some (e, k, []) else S.arrs c) = some (e', k', rows') := hc
    by_cases hca : c = a
    · rw [if_pos hca] at hc; cases hc
      exact ⟨.slice none 0 0, [], if_pos hca, (.of (World.ownsRow_nil _ _ _ _) hem), ⟨rfl, fun j x u h => by simp at h⟩, fun r h => by simp at h, fun b h => by cases h⟩
    · rw [if_neg hca] at hc
      obtain ⟨v1, us1, q1, q2, q3, q4, q5⟩ := hs.arr _ _ _ _ hc
      exact ⟨v1, us1, hL _ _ q1, q2, q3, q4, q5⟩
  · obtain ⟨hca, hv'⟩ := hLi _ _ _ hv' hb
    exact hs.al _ _ _ hv' hb
  · exact hs.ai c c' v1 v2 b (hLi _ _ _ h1 h3).2 (hLi _ _ _ h2 h4).2 h3 h4
  · have hc : (if c = a then some (e, k, []) else S.arrs c) = none := hc
    show (if c = a then some (Value.slice none 0 0) else E.L c) = none
    by_cases hca : c = a
    · rw [if_pos hca] at hc; cases hc
    · rw [if_neg hca] at hc ⊢; exact hs.an c hc

/-! ### A call that leaves an array of the caller's own -/
/-- called with data, a function returns data and one array of the caller's own (named as the caller will) -/
def CallO (P : Program) (f : FuncId) (args : List V) (res : Nat → V) (e : TypeId) (k : Nat) (rows : List (List F)) : Prop := HasBody P f ∧ ∀ (nm : Nat) (w : World) (us : Array Value) (I : Nat → Prop), (∀ b, I b → b < w.heap.size) → args.length = us.size →
  (∀ (j : Nat) v u, args[j]? = some v → us[j]? = some u → RepV w (.pure I) v u) →
  Calls P f us w fun en w' => ∃ u v ys, en = .returned u ∧ RepV w' ⟨fun _ => none, fun a => if a = nm then some v else none, I⟩ (res nm) u ∧ OwnA w' w.heap.size e k v rows.length ys ∧ RepFs w' I rows.flatten ys ∧ (∀ r ∈ rows, r.length = k) ∧ Below w.heap.size w w'
theorem step_callO {P : Program} {X : Fr} {w0 : World} {N : Nat} {S : St} {E : Env} {a : Act} {w : World} {o : Oper} {c : Call} {f : FuncId} {as : List V} {res : Nat → V} {e : TypeId} {k : Nat} {rows : List (List F)} (hop : o.op = .call c) (hf : c.callee = .value (.func f)) (hc : CallO P f as res e k rows) (ha : vles (c.args.toList.map (ev S)) as) (hs : Sim X w0 N S E a w) {d : Nat} (hd0 : o.dst = some d) (hd : d < N) (hfree : S.arrs d = none)
    {K : Act → World → Prop} {Q : Exit → Act → World → Prop} (hK : ∀ E' a' w', Sim X w0 N ⟨upd S.slots d (res d), S.blks, fun b => if b = d then some (e, k, rows) else S.arrs b⟩ E' a' w' → K a' w') : o.wp P a w K Q := by
  obtain ⟨⟨fn, hfn, hbody, hnm⟩, hc⟩ := hc
  obtain ⟨hl, hv⟩ := vles_ok (w := w) (E := E) (E' := .pure E.I) rfl ha
  have hx : (execOp a.eval o).run P w = .ok (.enter f (c.args.map a.eval)) w := by
    obtain ⟨callee, args, argTypes⟩ := c
    simp only at hf
    subst hf
    have h1 : fn.body ≠ none := fun h => by simp [h] at hbody
    have h2 : fn.name ≠ "runtime.NumGoroutine" := by simpa using hnm
    simp [execOp, hop, resolve, invoke, Act.eval, Deferred.ofValue, callFunc, hfn, h1, h2]
  unfold Oper.wp
  rw [hx]
  refine Calls.mono (hc d w (c.args.map a.eval) E.I hs.il (by rw [← hl]; simp) fun j v u h1 h2 => hv j v u h1 fun x hx => ?_) ?_
  · rw [List.getElem?_map] at hx
    rw [Array.getElem?_map] at h2
    cases hq : c.args[j]? with
    | none => simp [hq] at h2
    | some q =>
      simp [hq] at h2
      rw [show c.args.toList[j]? = some q by simpa using hq] at hx
      cases hx
      subst h2
      exact hs.ev q
  · rintro en w' ⟨u, v, ys, rfl, hr, hown, hrep, hk, hbel⟩
    have h := hs.grow hbel
    have hLd : E.L d = none := hs.an d hfree
    let E' : Env := ⟨E.B, fun b => if b = d then some v else E.L b, E.I⟩
    have hL : ∀ b x, E.L b = some x → E'.L b = some x := fun b x hb => by
      show (if b = d then some v else E.L b) = some x
      by_cases hbd : b = d
      · subst hbd; rw [hLd] at hb; cases hb
      · rw [if_neg hbd]; exact hb
    have hLi : ∀ b x, E'.L b = some x → (b = d ∧ x = v) ∨ (b ≠ d ∧ E.L b = some x) := fun b x hb => by
      have hb : (if b = d then some v else E.L b) = some x := hb
      by_cases hbd : b = d
      · rw [if_pos hbd] at hb; cases hb; exact .inl ⟨hbd, rfl⟩
      · rw [if_neg hbd] at hb; exact .inr ⟨hbd, hb⟩
    have hlt : ∀ b, v.ownB = some b → w.heap.size ≤ b ∧ b < w'.heap.size := fun b hb => hown.lt b hb
    have hle : Env.Le w' w' E E' := ⟨fun _ _ => rfl, fun _ h => h, fun _ _ h => h, hL⟩
    have h' : Sim X w0 N ⟨S.slots, S.blks, fun b => if b = d then some (e, k, rows) else S.arrs b⟩ E' a w' := by
      refine ⟨h.chg, h.fr, h.sz, fun t => (h.slot t).mono hle, fun t e cs ht => ?_, h.inj, h.bl, fun b e' n' rows' hb => ?_, fun b x g hb hg => ?_, fun b b' x x' g h1 h2 h3 h4 => ?_, h.bn, fun b hb => ?_, h.il, h.i0, h.i1, h.kp⟩
      · obtain ⟨b, vs, h1, h2, h3, h4⟩ := h.blk t e cs ht
        exact ⟨b, vs, h1, h2, h3.mono hle, h4⟩
      · have hb : (if b = d then some (e, k, rows) else S.arrs b) = some (e', n', rows') := hb
        by_cases hbd : b = d
        · rw [if_pos hbd] at hb; cases hb
          exact ⟨v, ys, if_pos hbd, hown.base (Nat.zero_le _), hrep, hk, fun g hg => .inl (Nat.le_trans hs.chg.size (hlt g hg).1)⟩
        · rw [if_neg hbd] at hb
          obtain ⟨v1, us1, q1, q2, q3, q4, q5⟩ := h.arr _ _ _ _ hb
          exact ⟨v1, us1, hL _ _ q1, q2, q3, q4, q5⟩
      · rcases hLi _ _ hb with ⟨rfl, rfl⟩ | ⟨hbd, hb⟩
        · refine ⟨(hlt g hg).2, fun hi => ?_, fun t ht => ?_⟩
          · have := hs.il g hi; have := (hlt g hg).1; omega
          · have := (hs.bl t g ht).1; have := (hlt g hg).1; omega
        · exact h.al _ _ _ hb hg
      · rcases hLi _ _ h1 with ⟨e1, e2⟩ | ⟨n1, q1⟩ <;> rcases hLi _ _ h2 with ⟨e3, e4⟩ | ⟨n2, q2⟩
        · exact e1.trans e3.symm
        · exfalso; have := (hs.al _ _ _ q2 h4).1; have := (hlt g (e2 ▸ h3)).1; omega
        · exfalso; have := (hs.al _ _ _ q1 h3).1; have := (hlt g (e4 ▸ h4)).1; omega
        · exact h.ai b b' x x' g q1 q2 h3 h4
      · have hb : (if b = d then some (e, k, rows) else S.arrs b) = none := hb
        show (if b = d then some v else E.L b) = none
        by_cases hbd : b = d
        · rw [if_pos hbd] at hb; cases hb
        · rw [if_neg hbd] at hb ⊢; exact h.an b hb
    have hr' : RepV w' E' (res d) u := hr.mono ⟨fun _ _ => rfl, fun _ h => h, fun _ _ h => (by cases h), fun b x hb => by
      by_cases hbd : b = d
      · simp only [hbd, if_true] at hb; exact (if_pos hbd).trans hb
      · simp only [hbd, if_false] at hb; cases hb⟩
    have h2 := h'.env (res d) u hr' o.dst (fun t ht => by rw [hd0] at ht; cases ht; exact hd)
    rw [hd0] at h2
    try rw [hd0]
    exact hK E' _ _ h2
section
variable {P : Program} {X : Fr} {w0 : World} {N : Nat} {T : Nat → Option Ty}
theorem ex_okS (hT : ∀ t y, T t = some y → TyOk P t y) {ops : Array Oper} (hd : ∀ (i : Nat) (o : Oper), ops[i]? = some o → ∀ t, o.dst = some t → t < N) {Q : Exit → Act → World → Prop} {K : St → Prop} {m : List Nat} (hK : ∀ S' E' a' w', K S' → Sim X w0 N S' E' a' w' → wpOpsIn (rdF X.rd) 0 P ops Q m a' w') :
    ∀ (l : List Nat) {S : St} {E : Env} {a : Act} {w : World}, ex P T (l.filterMap (qOf ops)) S K → Sim X w0 N S E a w → wpOpsIn (rdF X.rd) 0 P ops Q (l ++ m) a w
  | [], S, E, a, w, h, hs => hK _ _ _ _ h hs
  | i :: l, S, E, a, w, h, hs => by
    rw [List.cons_append, wpOpsIn_cons]
    unfold wpOpIn
    cases ho : ops[i]? with
    | none =>
      rw [List.filterMap_cons_none (by simp [qOf, ho])] at h
      exact ex_okS hT hd hK l h hs
    | some o =>
      rw [List.filterMap_cons_some (b := ⟨o.dst, o.op, o.guard.map fun g => ((ops[g.1]?).bind (·.dst), g.2)⟩) (by simp [qOf, ho])] at h
      simp only [ex] at h
      rcases yield_ok hs hd h with ⟨hw, h1⟩ | ⟨hw, h1⟩
      · simp only [hw, if_true]
        exact op_in (one_nd h1) (one_ok hT h1 hs (hd i o ho) fun S' E' a' w' h2 h3 => ex_okS hT hd hK l h2 h3)
      · simp only [hw, Bool.false_eq_true, if_false]
        exact ⟨fun _ _ => trivial, ex_okS hT hd hK l h1 (hs.env .no undef .no o.dst (hd i o ho))⟩
def qq (ops : Array Oper) (o : Oper) : Oq := ⟨o.dst, o.op, o.guard.map fun g => ((ops[g.1]?).bind (·.dst), g.2)⟩
theorem part_eq (ops : Array Oper) (b : Nat) : ∀ m, ((List.range m).map (b + ·)).filterMap (qOf ops) = ((ops.toList.drop b).take m).map (qq ops) := by
  intro m
  induction m with
  | zero => rfl
  | succ m ih =>
    rw [List.range_succ, List.map_append, List.filterMap_append, ih, List.take_add_one, List.map_append, List.getElem?_drop]
    have hq2 : qOf ops (b + m) = (ops.toList[b + m]?).map (qq ops) := by rw [Array.getElem?_toList]; rfl
    congr 1
    cases hq : ops.toList[b + m]? with
    | none => rw [hq] at hq2; simp [hq2]
    | some o => rw [hq] at hq2; simp [hq2]
end

/-! ### A cell of an own array written -/
theorem flat_set {α : Type} {k off : Nat} {x : α} (ho : off < k) : ∀ (rows : List (List α)) (n : Nat) (r : List α), (∀ r ∈ rows, r.length = k) → rows[n]? = some r → (rows.set n (r.set off x)).flatten = rows.flatten.set (n * k + off) x
  | [], n, r, _, h => by simp at h
  | r0 :: rs, 0, r, hk, h => by
    simp at h; subst h
    have := hk r0 (by simp)
    simp only [List.set_cons_zero, List.flatten_cons, Nat.zero_mul, Nat.zero_add]
    rw [List.set_append_left _ _ (by omega)]
  | r0 :: rs, n + 1, r, hk, h => by
    have h0 := hk r0 (by simp)
    simp only [List.set_cons_succ, List.flatten_cons]
    rw [flat_set ho rs n r (fun r hr => hk r (by simp [hr])) (by simpa using h), List.set_append_right _ _ (by rw [h0, Nat.add_mul]; omega)]
    congr 2
    rw [h0, Nat.add_mul]; omega
section
variable {P : Program} {X : Fr} {w0 : World} {N : Nat} {T : Nat → Option Ty}
theorem put_eval {a : Act} {d : Nat} {u : Value} (h : d < a.tmps.size) : (a.put (some d) u).eval (.tmp d) = u := by
  show (a.tmps.setIfInBounds d u).getD d undef = u
  rw [Array.getD_eq_getD_getElem?, Array.getElem?_setIfInBounds_self_of_lt h]
  rfl
theorem wanted_none {ops : Array Oper} {o : Oper} (hg : o.guard = none) (a : Act) : Region.wanted o (yielded ops a.tmps) = true := by
  obtain ⟨dst, op, type, pos, after, guard⟩ := o
  simp only at hg
  subst hg
  rfl
end
end Go.Dl
