/-
  The logic on data, more of it: nil becomes an array of the call's own.
-/
import Derived.Test.YtogkcokgcoookaaDd
set_option linter.unusedSimpArgs false
set_option linter.unusedVariables false
namespace Go.Dl
open Go.Ed Go.RowKit

/-- nil in a slot is taken for an empty array of the call's own -/
theorem weak_nil {S : St} (t a : Nat) (e : TypeId) (k : Nat) (h : S.slots t = .c (.f (.s (.slice none 0 0)))) (ha : S.arrs a = none) :
    Weak S ⟨upd S.slots t (.c (.o a)), S.blks, fun c => if c = a then some (e, k, []) else S.arrs c⟩ := by
  intro X w0 N E act w hs
  have hLn : E.L a = none := hs.an a ha
  let E' : Env := ⟨E.B, fun c => if c = a then some (.slice none 0 0) else E.L c, E.I⟩
  have hL : ∀ c v, E.L c = some v → E'.L c = some v := fun c v h => by
    show (if c = a then some (Value.slice none 0 0) else E.L c) = some v
    by_cases hc : c = a
    · subst hc; rw [hLn] at h; cases h
    · rw [if_neg hc]; exact h
  have hLi : ∀ c v b, E'.L c = some v → v.ownBlock = some b → c ≠ a ∧ E.L c = some v := fun c v b h hb => by
    have h : (if c = a then some (Value.slice none 0 0) else E.L c) = some v := h
    by_cases hc : c = a
    · rw [if_pos hc] at h; cases h; cases hb
    · rw [if_neg hc] at h; exact ⟨hc, h⟩
  have hle : Env.Le w w E E' := ⟨fun _ _ => rfl, fun _ h => h, fun _ _ h => h, hL⟩
  refine ⟨E', hs.chg, hs.fr, hs.sz, fun x => ?_, fun t e cs ht => ?_, hs.inj, hs.bl, fun c e' k' rows' hc => ?_, fun c v' b hv' hb => ?_, fun c c' v1 v2 b h1 h2 h3 h4 => ?_, hs.bn, fun c hc => ?_, hs.il, hs.i0, hs.i1⟩
  · show RepV w E' (upd S.slots t (.c (.o a)) x) _
    unfold upd
    by_cases hx : x = t
    · rw [if_pos hx]
      have h1 := hs.slot t
      rw [h] at h1
      subst hx
      generalize act.tmps.getD x undef = u at h1
      cases h1 with
      | c h1 => cases h1 with
        | f h1 => cases h1 with
          | s h1 => exact .c (.o (if_pos rfl) h1)
    · rw [if_neg hx]; exact (hs.slot x).mono hle
  · obtain ⟨b, vs, h3, h4, h5, h6⟩ := hs.blk _ _ _ ht
    exact ⟨b, vs, h3, h4, h5.mono hle, h6⟩
  · have hc : (if c = a then some (e, k, []) else S.arrs c) = some (e', k', rows') := hc
    by_cases hca : c = a
    · rw [if_pos hca] at hc; cases hc
      exact ⟨.slice none 0 0, [], if_pos hca, World.ownsRow_nil _ _ _ _, ⟨rfl, fun j x u h => by simp at h⟩, fun r h => by simp at h, fun b h => by cases h⟩
    · rw [if_neg hca] at hc
      obtain ⟨v1, us1, q1, q2, q3, q4, q5⟩ := hs.arr _ _ _ _ hc
      exact ⟨v1, us1, hL _ _ q1, q2, q3, q4, q5⟩
  · obtain ⟨hca, hv'⟩ := hLi _ _ _ hv' hb
    exact hs.al _ _ _ hv' hb
  · exact hs.ai c c' v1 v2 b (hLi _ _ _ h1 h3).2 (hLi _ _ _ h2 h4).2 h3 h4
  · have hc : (if c = a then some (e, k, []) else S.arrs c) = none := hc
    show (if c = a then some (Value.slice none 0 0) else E.L c) = none
    by_cases hca : c = a
    · rw [if_pos hca] at hc; cases hc
    · rw [if_neg hca] at hc ⊢; exact hs.an c hc

/-! ### A call that leaves an array of the caller's own -/
/-- called with data, a function returns data and one array of the caller's own (named as the caller will) -/
def CallO (P : Program) (f : FuncId) (args : List V) (res : Nat → V) (e : TypeId) (k : Nat) (rows : List (List F)) : Prop := HasBody P f ∧ ∀ (nm : Nat) (w : World) (us : Array Value) (I : Nat → Prop), (∀ b, I b → b < w.heap.size) → args.length = us.size →
  (∀ (j : Nat) v u, args[j]? = some v → us[j]? = some u → RepV w (.pure I) v u) →
  Calls P f us w fun en w' => ∃ u v ys, en = .returned u ∧ RepV w' ⟨fun _ => none, fun a => if a = nm then some v else none, I⟩ (res nm) u ∧ w'.ownsRow w.heap.size e k v rows.length ys ∧ RepFs w' I rows.flatten ys ∧ (∀ r ∈ rows, r.length = k) ∧ Below w.heap.size w w'
theorem step_callO {P : Program} {X : Fr} {w0 : World} {N : Nat} {S : St} {E : Env} {a : Act} {w : World} {o : Oper} {c : Call} {f : FuncId} {as : List V} {res : Nat → V} {e : TypeId} {k : Nat} {rows : List (List F)} (hop : o.op = .call c) (hf : c.callee = .value (.func f)) (hc : CallO P f as res e k rows) (ha : vles (c.args.toList.map (ev S)) as) (hs : Sim X w0 N S E a w) {d : Nat} (hd0 : o.dst = some d) (hd : d < N) (hfree : S.arrs d = none)
    {K : Act → World → Prop} {Q : Exit → Act → World → Prop} (hK : ∀ E' a' w', Sim X w0 N ⟨upd S.slots d (res d), S.blks, fun b => if b = d then some (e, k, rows) else S.arrs b⟩ E' a' w' → K a' w') : o.wp P a w K Q := by
  obtain ⟨⟨fn, hfn, hbody, hnm⟩, hc⟩ := hc
  obtain ⟨hl, hv⟩ := vles_ok (w := w) (E := E) (E' := .pure E.I) rfl ha
  have hx : (execOp a.eval o).run P w = .ok (.enter f (c.args.map a.eval)) w := by
    obtain ⟨callee, args, argTypes⟩ := c
    simp only at hf
    subst hf
    have h1 : fn.body ≠ none := fun h => by simp [h] at hbody
    have h2 : fn.name ≠ "runtime.NumGoroutine" := by simpa using hnm
    simp [execOp, hop, resolve, invoke, Act.eval, Deferred.ofValue, callFunc, hfn, h1, h2]
  unfold Oper.wp
  rw [hx]
  refine Calls.mono (hc d w (c.args.map a.eval) E.I hs.il (by rw [← hl]; simp) fun j v u h1 h2 => hv j v u h1 fun x hx => ?_) ?_
  · rw [List.getElem?_map] at hx
    rw [Array.getElem?_map] at h2
    cases hq : c.args[j]? with
    | none => simp [hq] at h2
    | some q =>
      simp [hq] at h2
      rw [show c.args.toList[j]? = some q by simpa using hq] at hx
      cases hx
      subst h2
      exact hs.ev q
  · rintro en w' ⟨u, v, ys, rfl, hr, hown, hrep, hk, hbel⟩
    have h := hs.grow hbel
    have hLd : E.L d = none := hs.an d hfree
    let E' : Env := ⟨E.B, fun b => if b = d then some v else E.L b, E.I⟩
    have hL : ∀ b x, E.L b = some x → E'.L b = some x := fun b x hb => by
      show (if b = d then some v else E.L b) = some x
      by_cases hbd : b = d
      · subst hbd; rw [hLd] at hb; cases hb
      · rw [if_neg hbd]; exact hb
    have hLi : ∀ b x, E'.L b = some x → (b = d ∧ x = v) ∨ (b ≠ d ∧ E.L b = some x) := fun b x hb => by
      have hb : (if b = d then some v else E.L b) = some x := hb
      by_cases hbd : b = d
      · rw [if_pos hbd] at hb; cases hb; exact .inl ⟨hbd, rfl⟩
      · rw [if_neg hbd] at hb; exact .inr ⟨hbd, hb⟩
    have hlt : ∀ b, v.ownBlock = some b → w.heap.size ≤ b ∧ b < w'.heap.size := fun b hb => hown.lt b hb
    have hle : Env.Le w' w' E E' := ⟨fun _ _ => rfl, fun _ h => h, fun _ _ h => h, hL⟩
    have h' : Sim X w0 N ⟨S.slots, S.blks, fun b => if b = d then some (e, k, rows) else S.arrs b⟩ E' a w' := by
      refine ⟨h.chg, h.fr, h.sz, fun t => (h.slot t).mono hle, fun t e cs ht => ?_, h.inj, h.bl, fun b e' n' rows' hb => ?_, fun b x g hb hg => ?_, fun b b' x x' g h1 h2 h3 h4 => ?_, h.bn, fun b hb => ?_, h.il, h.i0, h.i1⟩
      · obtain ⟨b, vs, h1, h2, h3, h4⟩ := h.blk t e cs ht
        exact ⟨b, vs, h1, h2, h3.mono hle, h4⟩
      · have hb : (if b = d then some (e, k, rows) else S.arrs b) = some (e', n', rows') := hb
        by_cases hbd : b = d
        · rw [if_pos hbd] at hb; cases hb
          exact ⟨v, ys, if_pos hbd, ⟨hown.1, hown.2.imp id fun ⟨g, cap, cur, h1, _, h3⟩ => ⟨g, cap, cur, h1, Nat.zero_le _, h3⟩⟩, hrep, hk, fun g hg => .inl (Nat.le_trans hs.chg.size (hlt g hg).1)⟩
        · rw [if_neg hbd] at hb
          obtain ⟨v1, us1, q1, q2, q3, q4, q5⟩ := h.arr _ _ _ _ hb
          exact ⟨v1, us1, hL _ _ q1, q2, q3, q4, q5⟩
      · rcases hLi _ _ hb with ⟨rfl, rfl⟩ | ⟨hbd, hb⟩
        · refine ⟨(hlt g hg).2, fun hi => ?_, fun t ht => ?_⟩
          · have := hs.il g hi; have := (hlt g hg).1; omega
          · have := (hs.bl t g ht).1; have := (hlt g hg).1; omega
        · exact h.al _ _ _ hb hg
      · rcases hLi _ _ h1 with ⟨e1, e2⟩ | ⟨n1, q1⟩ <;> rcases hLi _ _ h2 with ⟨e3, e4⟩ | ⟨n2, q2⟩
        · exact e1.trans e3.symm
        · exfalso; have := (hs.al _ _ _ q2 h4).1; have := (hlt g (e2 ▸ h3)).1; omega
        · exfalso; have := (hs.al _ _ _ q1 h3).1; have := (hlt g (e4 ▸ h4)).1; omega
        · exact h.ai b b' x x' g q1 q2 h3 h4
      · have hb : (if b = d then some (e, k, rows) else S.arrs b) = none := hb
        show (if b = d then some v else E.L b) = none
        by_cases hbd : b = d
        · rw [if_pos hbd] at hb; cases hb
        · rw [if_neg hbd] at hb ⊢; exact h.an b hb
    have hr' : RepV w' E' (res d) u := hr.mono ⟨fun _ _ => rfl, fun _ h => h, fun _ _ h => (by cases h), fun b x hb => by
      by_cases hbd : b = d
      · simp only [hbd, if_true] at hb; exact (if_pos hbd).trans hb
      · simp only [hbd, if_false] at hb; cases hb⟩
    have h2 := h'.env (res d) u hr' o.dst (fun t ht => by rw [hd0] at ht; cases ht; exact hd)
    rw [hd0] at h2
    try rw [hd0]
    exact hK E' _ _ h2
section
variable {P : Program} {X : Fr} {w0 : World} {N : Nat} {T : Nat → Option Ty}
theorem ex_okS (hT : ∀ t y, T t = some y → TyOk P t y) {ops : Array Oper} (hd : ∀ (i : Nat) (o : Oper), ops[i]? = some o → ∀ t, o.dst = some t → t < N) {Q : Exit → Act → World → Prop} {K : St → Prop} {m : List Nat} (hK : ∀ S' E' a' w', K S' → Sim X w0 N S' E' a' w' → wpOps P ops Q m a' w') :
    ∀ (l : List Nat) {S : St} {E : Env} {a : Act} {w : World}, ex P T (l.filterMap (qOf ops)) S K → Sim X w0 N S E a w → wpOps P ops Q (l ++ m) a w
  | [], S, E, a, w, h, hs => hK _ _ _ _ h hs
  | i :: l, S, E, a, w, h, hs => by
    rw [List.cons_append, wpOps_cons]
    unfold wpOp
    cases ho : ops[i]? with
    | none =>
      rw [List.filterMap_cons_none (by simp [qOf, ho])] at h
      exact ex_okS hT hd hK l h hs
    | some o =>
      rw [List.filterMap_cons_some (b := ⟨o.dst, o.op, o.guard.map fun g => ((ops[g.1]?).bind (·.dst), g.2)⟩) (by simp [qOf, ho])] at h
      simp only [ex] at h
      rcases yield_ok hs hd h with ⟨hw, h1⟩ | ⟨hw, h1⟩
      · simp only [hw, if_true]
        exact .inl (one_ok hT h1 hs (hd i o ho) fun S' E' a' w' h2 h3 => ex_okS hT hd hK l h2 h3)
      · simp only [hw, Bool.false_eq_true, if_false]
        exact ex_okS hT hd hK l h1 (hs.env .no undef .no o.dst (hd i o ho))
def qq (ops : Array Oper) (o : Oper) : Oq := ⟨o.dst, o.op, o.guard.map fun g => ((ops[g.1]?).bind (·.dst), g.2)⟩
theorem part_eq (ops : Array Oper) (b : Nat) : ∀ m, ((List.range m).map (b + ·)).filterMap (qOf ops) = ((ops.toList.drop b).take m).map (qq ops) := by
  intro m
  induction m with
  | zero => rfl
  | succ m ih =>
    rw [List.range_succ, List.map_append, List.filterMap_append, ih, List.take_add_one, List.map_append, List.getElem?_drop]
    have hq2 : qOf ops (b + m) = (ops.toList[b + m]?).map (qq ops) := by rw [Array.getElem?_toList]; rfl
    congr 1
    cases hq : ops.toList[b + m]? with
    | none => rw [hq] at hq2; simp [hq2]
    | some o => rw [hq] at hq2; simp [hq2]
/-- what an own call leaves to be shown -/
def OwnAt (P : Program) (o : Oper) (K : St → Prop) (S : St) : Prop := ∃ as res e k rows f args d, calleeOf o.op = some (f, args) ∧ o.dst = some d ∧ CallO P f as res e k rows ∧ vles (args.map (ev S)) as ∧ S.arrs d = none ∧ K ⟨upd S.slots d (res d), S.blks, fun b => if b = d then some (e, k, rows) else S.arrs b⟩
/-- an undrawn region with an own call at place i -/
theorem dw_rowO {id : Nat} {ops : Array Oper} {S : St} {R : St → Prop} {Q : Exit → St → Prop} (i : Nat) {o : Oper} (ho : ops[i]? = some o) (hg : o.guard = none) (hT : ∀ t y, T t = some y → TyOk P t y) (hN : okN N ops = true)
    (h : exB P T ops [] (ops.toList.take i) (OwnAt P o (exB P T ops [] (ops.toList.drop (i + 1)) R)) S) : DW P X w0 N (.region id ops false) (thenD R Q) S := fun E a w hs => by
  have hi : i < ops.size := (Array.getElem?_eq_some_iff.1 ho).1
  refine wp_region ?_
  obtain ⟨n, hn⟩ : ∃ n, ops.size = i + (1 + n) := ⟨ops.size - (i + 1), by omega⟩
  have hsp : List.range ops.size = (List.range i).map (0 + ·) ++ (i :: (List.range n).map (i + 1 + ·)) := by
    rw [hn, List.range_add, List.range_add]
    simp [List.map_map, Function.comp_def, Nat.add_assoc]
  rw [hsp]
  have h1 := exD_A _ _ (exB_D _ _ h)
  rw [exA_ex] at h1
  have h1 : ex P T (((List.range i).map (0 + ·)).filterMap (qOf ops)) S (OwnAt P o (exB P T ops [] (ops.toList.drop (i + 1)) R)) := by
    rw [part_eq]; exact h1
  refine ex_okS hT (okN_ok hN) (fun S' E' a' w' hq hs' => ?_) _ h1 hs
  obtain ⟨as, res, e, k, rows, f, args, d, hc, hd0, hco, hv, hfree, hk⟩ := hq
  rw [wpOps_cons]
  unfold wpOp
  simp only [ho]
  have hw : Region.wanted o (yielded ops a'.tmps) = true := by
    obtain ⟨dst, op, type, pos, after, guard⟩ := o
    simp only at hg
    subst hg
    rfl
  simp only [hw, if_true]
  unfold calleeOf at hc
  split at hc
  · rename_i c hop
    split at hc <;> cases hc
    rename_i hcal
    refine .inl (step_callO hop hcal hco hv hs' hd0 (okN_ok hN i o ho d hd0) hfree fun E2 a2 w2 hs2 => ?_)
    have h2 := exD_A _ _ (exB_D _ _ hk)
    rw [exA_ex] at h2
    refine ex_ok hT (okN_ok hN) (fun S' E' _ _ hq hs => ⟨S', E', hq, hs⟩) _ ?_ hs2
    rw [part_eq, List.take_of_length_le (by rw [List.length_drop, Array.length_toList]; omega)]
    exact h2
  · cases hc
end

/-! ### A cell of an own array written -/
theorem flat_set {α : Type} {k off : Nat} {x : α} (ho : off < k) : ∀ (rows : List (List α)) (n : Nat) (r : List α), (∀ r ∈ rows, r.length = k) → rows[n]? = some r → (rows.set n (r.set off x)).flatten = rows.flatten.set (n * k + off) x
  | [], n, r, _, h => by simp at h
  | r0 :: rs, 0, r, hk, h => by
    simp at h; subst h
    have := hk r0 (by simp)
    simp only [List.set_cons_zero, List.flatten_cons, Nat.zero_mul, Nat.zero_add]
    rw [List.set_append_left _ _ (by omega)]
  | r0 :: rs, n + 1, r, hk, h => by
    have h0 := hk r0 (by simp)
    simp only [List.set_cons_succ, List.flatten_cons]
    rw [flat_set ho rs n r (fun r hr => hk r (by simp [hr])) (by simpa using h), List.set_append_right _ _ (by rw [h0, Nat.add_mul]; omega)]
    congr 2
    rw [h0, Nat.add_mul]; omega
theorem Sim.setArr {X : Fr} {w0 : World} {N : Nat} {S : St} {E : Env} {a : Act} {w : World} (hs : Sim X w0 N S E a w) {ar : Nat} {e : TypeId} {k : Nat} {rows : List (List F)} (h : S.arrs ar = some (e, k, rows)) {n off : Nat} {r : List F} (hn : rows[n]? = some r) (ho : off < k) {x : Value} (hx : x.oneCell' = true) :
    ∃ g cap cur, E.L ar = some (.slice (some ⟨g, 0, none⟩) rows.length cap) ∧ Blk w g e cur ∧ n * k + off < cur.size ∧ ∀ cur' : Array Value, cur'.toList = cur.toList.set (n * k + off) x →
      Sim X w0 N ⟨S.slots, S.blks, fun b => if b = ar then some (e, k, rows.set n (r.set off (.s x))) else S.arrs b⟩ E a (w.setRow g cur') := by
  obtain ⟨v, us, hL, hown, hrep, hk, hnew⟩ := hs.arr _ _ _ _ h
  have hnl : n < rows.length := (List.getElem?_eq_some_iff.1 hn).1
  rcases hown.2 with ⟨_, h0⟩ | ⟨g, cap, cur, hv, hb, hg, hcap, hmax, hsz, htake⟩
  · omega
  have hi1 : n * k + off < rows.length * k := by
    have : (n + 1) * k ≤ rows.length * k := Nat.mul_le_mul_right k hnl
    rw [Nat.add_mul] at this; omega
  have hi2 : n * k + off < cur.size := by
    have : rows.length * k ≤ cap * k := Nat.mul_le_mul_right k hcap
    omega
  refine ⟨g, cap, cur, hv ▸ hL, hg, hi2, fun cur' hcur => ?_⟩
  have hov : v.ownBlock = some g := by rw [hv]; rfl
  obtain ⟨ha1, ha2, ha3⟩ := hs.al _ _ _ hL hov
  have hot : ∀ b, b ≠ g → (w.setRow g cur').heap[b]? = w.heap[b]? := fun b hb => setRow_other w g b cur' hb
  have hmem : ∀ b, E.I b → (w.setRow g cur').heap[b]? = w.heap[b]? := fun b hb => hot b fun e => ha2 (e ▸ hb)
  have hle : Env.Le w (w.setRow g cur') E E := ⟨hmem, fun _ h => h, fun _ _ h => h, fun _ _ h => h⟩
  have hszw : (w.setRow g cur').heap.size = w.heap.size := by simp
  have hBlk : Blk w g e cur := hg
  have hcs : cur'.size = cur.size := by
    have := congrArg List.length hcur
    simpa using this
  refine ⟨hs.chg.setRow (fun hlt => (hnew g hov).resolve_left (by omega)) _, hs.fr, hs.sz, fun t => (hs.slot t).mono hle, fun t e' cs ht => ?_, hs.inj, fun t b ht => by rw [hszw]; exact hs.bl t b ht, fun c e' k' rows' hc => ?_, fun c v' b hv' hb' => by rw [hszw]; exact hs.al c v' b hv' hb', hs.ai, hs.bn, fun c hc => ?_, fun b hb' => by rw [hszw]; exact hs.il b hb', hs.i0, hs.i1⟩
  · obtain ⟨g2, vs2, h1, h2, h3, h4⟩ := hs.blk t e' cs ht
    have hne : g2 ≠ g := fun e => ha3 t (e ▸ h1)
    exact ⟨g2, vs2, h1, h2.setRow_far hne _, h3.mono hle, h4⟩
  · have hc : (if c = ar then some (e, k, rows.set n (r.set off (.s x))) else S.arrs c) = some (e', k', rows') := hc
    by_cases hca : c = ar
    · rw [if_pos hca] at hc; cases hc
      subst hca
      refine ⟨v, us.set (n * k + off) x, hL, ⟨by simpa using hown.1, .inr ⟨g, cap, cur', by rw [hv]; simp, Nat.zero_le _, hBlk.setRow_ _, by simpa using hcap, hmax, by rw [hcs]; exact hsz, ?_⟩⟩, ⟨?_, fun j y u hy hu => ?_⟩, fun r' hr' => ?_, hnew⟩
      · rw [hcur, List.length_set, List.take_set, htake]
      · rw [flat_set ho rows n r hk hn, List.length_set, List.length_set]; exact hrep.1
      · rw [flat_set ho rows n r hk hn] at hy
        rw [List.getElem?_set] at hy hu
        by_cases hj : n * k + off = j
        · rw [if_pos hj] at hy hu
          split at hy
          · cases hy
            split at hu
            · cases hu; exact .s hx
            · cases hu
          · cases hy
        · rw [if_neg hj] at hy hu
          exact (hrep.2 j y u hy hu).mono hmem fun _ h => h
      · rcases List.mem_or_eq_of_mem_set hr' with h1 | rfl
        · exact hk _ h1
        · rw [List.length_set]; exact hk _ (List.mem_of_getElem? hn)
    · rw [if_neg hca] at hc
      obtain ⟨v1, us1, q1, q2, q3, q4, q5⟩ := hs.arr _ _ _ _ hc
      exact ⟨v1, us1, q1, own_keep q2 fun b hb' => hot b fun e => hca (hs.ai c ar v1 v g q1 hL (e ▸ hb') hov), ⟨q3.1, fun j y u hy hu => (q3.2 j y u hy hu).mono hmem fun _ h => h⟩, q4, q5⟩
  · have hc : (if c = ar then some (e, k, rows.set n (r.set off (.s x))) else S.arrs c) = none := hc
    by_cases hca : c = ar
    · rw [if_pos hca] at hc; cases hc
    · rw [if_neg hca] at hc; exact hs.an c hc
section
variable {P : Program} {X : Fr} {w0 : World} {N : Nat} {T : Nat → Option Ty}
theorem put_eval {a : Act} {d : Nat} {u : Value} (h : d < a.tmps.size) : (a.put (some d) u).eval (.tmp d) = u := by
  show (a.tmps.setIfInBounds d u).getD d undef = u
  rw [Array.getD_eq_getD_getElem?, Array.getElem?_setIfInBounds_self_of_lt h]
  rfl
theorem wanted_none {ops : Array Oper} {o : Oper} (hg : o.guard = none) (a : Act) : Region.wanted o (yielded ops a.tmps) = true := by
  obtain ⟨dst, op, type, pos, after, guard⟩ := o
  simp only at hg
  subst hg
  rfl
/-- what is to be shown where a constant is written into a field of an element of an own array -/
def EltAt (T : Nat → Option Ty) (t t2 : TypeId) (x ix : Operand) (f d1 d2 : Nat) (u : Value) (K : St → Prop) (S : St) : Prop := ∃ y y2 ar e k b rows kd n off sz r,
  T t = some y ∧ T t2 = some y2 ∧ y.elem = some (e, k, b) ∧ y2.agg = true ∧ y2.pls[f]? = some (off, sz) ∧ ev S x = .c (.o ar) ∧ S.arrs ar = some (e, k, rows) ∧ ev S ix = .c (.f (.s (.int kd n))) ∧ 0 ≤ n ∧ n < rows.length ∧ rows[n.toNat]? = some r ∧ off < k ∧
  K ⟨upd (upd S.slots d1 .un) d2 .un, S.blks, fun c => if c = ar then some (e, k, rows.set n.toNat (r.set off (.s u))) else S.arrs c⟩
theorem dw_rowE {id : Nat} {ops : Array Oper} {S : St} {R : St → Prop} {Q : Exit → St → Prop} (i : Nat) {o1 o2 o3 : Oper} (h1 : ops[i]? = some o1) (h2 : ops[i + 1]? = some o2) (h3 : ops[i + 2]? = some o3) (hsz : ops.size = i + 3)
    {t t2 t3 : TypeId} {x ix : Operand} {f d1 d2 : Nat} {u : Value} (hg : o1.guard = none ∧ o2.guard = none ∧ o3.guard = none)
    (hop : o1.op = .indexAddr t x ix ∧ o1.dst = some d1 ∧ o2.op = .fieldAddr t2 (.tmp d1) f ∧ o2.dst = some d2 ∧ o3.op = .store t3 (.tmp d2) (.const u) ∧ o3.dst = none) (hu : u.oneCell' = true) {y3 : Ty} (hy3 : T t3 = some y3) (hk3 : y3.k = 1)
    (hT : ∀ t y, T t = some y → TyOk P t y) (hN : okN N ops = true)
    (h : exB P T ops [] (ops.toList.take i) (EltAt T t t2 x ix f d1 d2 u R) S) : DW P X w0 N (.region id ops false) (thenD R Q) S := fun E a w hs => by
  obtain ⟨g1, g2, g3⟩ := hg
  obtain ⟨p1, q1, p2, q2, p3, q3⟩ := hop
  refine wp_region ?_
  have hsp : List.range ops.size = (List.range i).map (0 + ·) ++ [i, i + 1, i + 2] := by
    rw [hsz, List.range_add]
    simp [List.range_succ]
  rw [hsp]
  have hA := exD_A _ _ (exB_D _ _ h)
  rw [exA_ex] at hA
  have hA : ex P T (((List.range i).map (0 + ·)).filterMap (qOf ops)) S (EltAt T t t2 x ix f d1 d2 u R) := by
    rw [part_eq]; exact hA
  refine ex_okS hT (okN_ok hN) (fun S' E' a' w' hq hs' => ?_) _ hA hs
  obtain ⟨y, y2, ar, e, k, b, rows, kd, n, off, sz, r, hy, hy2, he, hag, hpl, hx, harr, hix, hn0, hn1, hr, ho, hK⟩ := hq
  obtain ⟨hu1, hk0, ie, ze, hie, hze, hsz2, hbe, hzk⟩ := (hT _ _ hy).elem _ _ _ he
  obtain ⟨g, cap, cur, hL, hB, hlt, hset⟩ := hs'.setArr harr hr ho hu
  have hxv : a'.eval x = .slice (some ⟨g, 0, none⟩) rows.length cap := by
    have h1 := hs'.ev x
    rw [hx] at h1
    generalize a'.eval x = v at h1
    cases h1 with
    | c h1 => cases h1 with
      | o h1 _ => rw [hL] at h1; cases h1; rfl
  have hiv := hs'.ev_s hix
  have hN1 := okN_ok hN i o1 h1 d1 q1
  have hN2 := okN_ok hN (i + 1) o2 h2 d2 q2
  have e1 : (execOp a'.eval o1).run P w' = .ok (.value (.pointer (some ⟨g, n.toNat * k, none⟩))) w' := by
    refine exec_val (s := Instr.indexAt t (a'.eval x) (a'.eval ix)) (by simp only [execOp, p1]) ?_
    rw [hxv, hiv, run_indexAt_slice w' t ⟨g, 0, none⟩ _ cap kd n (by rw [elem_eq hu1]; exact hu1), if_pos ⟨hn0, hn1⟩, elem_size (w := w') (k := k) hu1 (by simp [hie, hsz2])]
    show Result.ok (Value.pointer (some ((⟨g, 0, none⟩ : Addr).add (n.toNat * k)))) w' = _
    rw [add_plain, Nat.zero_add]
  rw [wpOps_cons]
  unfold wpOp
  simp only [h1, wanted_none g1, if_true]
  refine .inl ?_
  unfold Oper.wp
  rw [e1]
  show wpOps P ops _ [i + 1, i + 2] (a'.put o1.dst _) w'
  rw [q1]
  have hs1 : Sim X w0 N ⟨upd S'.slots d1 .un, S'.blks, S'.arrs⟩ E' (a'.put (some d1) (.pointer (some ⟨g, n.toNat * k, none⟩))) w' := hs'.env .un _ .un (some d1) (fun t ht => by cases ht; exact hN1)
  have v1 : (a'.put (some d1) (.pointer (some ⟨g, n.toNat * k, none⟩))).eval (.tmp d1) = .pointer (some ⟨g, n.toNat * k, none⟩) := put_eval (by rw [hs'.sz]; exact hN1)
  generalize a'.put (some d1) (.pointer (some ⟨g, n.toNat * k, none⟩)) = a1 at hs1 v1
  show wpOps P ops _ [i + 1, i + 2] a1 w'
  have e2 : (execOp a1.eval o2).run P w' = .ok (.value (.pointer (some ⟨g, n.toNat * k + off, none⟩))) w' := by
    refine exec_val (s := Instr.fieldAt t2 (a1.eval (.tmp d1)) f) (by simp only [execOp, p2]) ?_
    rw [v1, field_ok (hT _ _ hy2) hag hpl, add_plain]
  rw [wpOps_cons]
  unfold wpOp
  simp only [h2, wanted_none g2, if_true]
  refine .inl ?_
  unfold Oper.wp
  rw [e2]
  show wpOps P ops _ [i + 2] (a1.put o2.dst _) w'
  rw [q2]
  have hs2 : Sim X w0 N ⟨upd (upd S'.slots d1 .un) d2 .un, S'.blks, S'.arrs⟩ E' (a1.put (some d2) (.pointer (some ⟨g, n.toNat * k + off, none⟩))) w' := hs1.env .un _ .un (some d2) (fun t ht => by cases ht; exact hN2)
  have v2 : (a1.put (some d2) (.pointer (some ⟨g, n.toNat * k + off, none⟩))).eval (.tmp d2) = .pointer (some ⟨g, n.toNat * k + off, none⟩) := put_eval (by rw [hs1.sz]; exact hN2)
  generalize a1.put (some d2) (.pointer (some ⟨g, n.toNat * k + off, none⟩)) = a2 at hs2 v2
  show wpOps P ops _ [i + 2] a2 w'
  obtain ⟨g', cap', cur', hL', hB', hlt', hset'⟩ := hs2.setArr (ar := ar) harr hr ho hu
  rw [hL] at hL'; cases hL'
  have hcc : cur' = cur := by
    have := hB.symm.trans hB'
    simpa using this.symm
  subst hcc
  have hcells : u.cells = #[u] := by cases u <;> first | rfl | cases hu
  have hr3 := run_storeVar_at (P := P) w' g (n.toNat * k + off) 1 e t3 cur' u.cells hB (by rw [← hk3]; exact (hT _ _ hy3).size) (by rw [hcells]; rfl) (by omega) (by rw [hcells]; simpa using hu)
  have e3 : (execOp a2.eval o3).run P w' = .ok .skip (w'.setRow g (cur'.toList.take (n.toNat * k + off) ++ u.cells.toList ++ cur'.toList.drop (n.toNat * k + off + 1)).toArray) := by
    have hr4 : (storeVar t3 ⟨g, n.toNat * k + off, none⟩ (a2.eval (.const u))).run P w' = _ := hr3
    simp [execOp, p3, Instr.storeAt, Instr.sureAddr, v2, hr4]
  rw [wpOps_cons]
  unfold wpOp
  simp only [h3, wanted_none g3, if_true]
  refine .inl ?_
  unfold Oper.wp
  rw [e3]
  show wpOps P ops (fun e a' w' => ∃ S' E', thenD R Q e S' ∧ Sim X w0 N S' E' a' w') [] (a2.put o3.dst undef) _
  rw [q3]
  refine ⟨_, E', hK, hset' _ ?_⟩
  rw [hcells]
  show _ = cur'.toList.set _ u
  rw [List.set_eq_take_append_cons_drop, if_pos (by simpa using hlt')]
  simp
end
end Go.Dl
