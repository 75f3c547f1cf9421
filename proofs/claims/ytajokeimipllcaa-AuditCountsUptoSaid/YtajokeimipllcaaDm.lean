/-
  The logic on data: calls that are handed blocks and arrays of the caller's own (methods on pointers, closures).
-/
import Derived.Test.YtajokeimipllcaaDf
set_option linter.unusedSimpArgs false
set_option linter.unusedVariables false
namespace Go.Dl
open Go.Ed Go.RowKit

/-- what is known of memory, no activation in sight -/
structure Mem (w : World) (E : Env) (B : Nat → Option (TypeId × List C)) (A : Nat → Option (TypeId × Nat × List (List F))) : Prop where
  blk : ∀ t e cs, B t = some (e, cs) → ∃ b vs, E.B t = some b ∧ Blk w b e vs ∧ Reps w E cs vs.toList
  inj : ∀ t t' b, E.B t = some b → E.B t' = some b → t = t'
  bl : ∀ t b, E.B t = some b → b < w.heap.size ∧ ¬ E.I b
  arr : ∀ a e k rows, A a = some (e, k, rows) → ∃ v us, E.L a = some v ∧ OwnA w 0 e k v rows.length us ∧ RepFs w E.I rows.flatten us ∧ (∀ r ∈ rows, r.length = k)
  al : ∀ a v b, E.L a = some v → v.ownB = some b → b < w.heap.size ∧ ¬ E.I b ∧ ∀ t, E.B t ≠ some b
  ai : ∀ a a' v v' b, E.L a = some v → E.L a' = some v' → v.ownB = some b → v'.ownB = some b → a = a'
  bn : ∀ t, B t = none → E.B t = none
  an : ∀ a, A a = none → E.L a = none
  il : ∀ b, E.I b → b < w.heap.size
/-- what the names stand for -/
def foot (E : Env) (b : Nat) : Prop := (∃ t, E.B t = some b) ∨ ∃ a v, E.L a = some v ∧ v.ownB = some b
abbrev BL := List (Nat × TypeId × List C)
abbrev RL := List (Nat × TypeId × Nat × List (List F))
def lkR (t : Nat) : RL → Option (TypeId × Nat × List (List F))
  | [] => none
  | (k, v) :: r => if t = k then some v else lkR t r
theorem lkR_hit (t : Nat) (v : TypeId × Nat × List (List F)) (r : RL) : lkR t ((t, v) :: r) = some v := if_pos rfl
theorem lkR_miss {t k : Nat} (h : (t == k) = false) (v : TypeId × Nat × List (List F)) (r : RL) : lkR t ((k, v) :: r) = lkR t r := if_neg (by simpa using h)
theorem lkR_end (t : Nat) : lkR t [] = none := rfl
/-- called with data and with what the caller lends, a function leaves these so -/
def CallMD (P : Program) (f : FuncId) (args : List V) (bl : BL) (al : RL) (res : V) (bl' : BL) (al' : RL) : Prop :=
  ∀ (w : World) (us : Array Value) (E : Env), Mem w E (fun t => lkB t bl) (fun a => lkR a al) → args.length = us.size →
  (∀ (j : Nat) v u, args[j]? = some v → us[j]? = some u → RepV w E v u) →
  Calls P f us w fun e w' => ∃ u E', e = .returned u ∧ Mem w' E' (fun t => lkB t bl') (fun a => lkR a al') ∧ RepV w' E' res u ∧ Chg (foot E) w w' ∧
    (∀ t b, E.B t = some b → E'.B t = some b) ∧ (∀ b, E.I b → E'.I b) ∧ (∀ b, E'.I b → E.I b ∨ w.heap.size ≤ b ∨ foot E b) ∧ ∀ b, foot E' b → w.heap.size ≤ b ∨ foot E b
def CallM (P : Program) (f : FuncId) (args : List V) (bl : BL) (al : RL) (res : V) (bl' : BL) (al' : RL) : Prop := HasBody P f ∧ CallMD P f args bl al res bl' al'

/-! ### A function's body -/
def mkAL (am : List (Nat × Nat)) (al : RL) : AL := al.map fun x => (x.1, (am.lookup x.1).getD x.1, x.2)
theorem arrOf_mkAL (am : List (Nat × Nat)) (t : Nat) : ∀ (al : RL), arrOf t (mkAL am al) = lkR t al
  | [] => rfl
  | (k, x) :: r => by
    have ih := arrOf_mkAL am t r
    unfold arrOf mkAL at ih ⊢
    simp only [List.map_cons, lkA', lkR]
    by_cases h : t = k
    · simp [h]
    · simp only [h, if_false]; exact ih
def pleA (bn : List Nat) (al : List (Nat × Nat)) : List (Bool × List C) → List (Bool × List C) → Prop
  | [], [] => True
  | (b, x) :: xs, (c, y) :: ys => b = c ∧ cleA (nm2 bn) al x y ∧ pleA bn al xs ys
  | _, _ => False
def mvA (bn : List Nat) (al : List (Nat × Nat)) : V → V → Prop
  | .tup xs, .tup ys => pleA bn al xs ys
  | .no, .no => True
  | .clo f fi ca, .clo f' fi' ca' => f = f' ∧ fi = fi' ∧ ca = ca' ∧ (∀ x ∈ fi ++ ca, match x with | .loc t _ => t ∈ bn | _ => True)
  | x, y => wkVA bn al x y
def RetM (T : Nat → Option Ty) (rs : List ResultVar) (res : V) (bl : BL) (al : RL) (am : List (Nat × Nat)) (S : St) : Prop :=
  onceA (mkAL am al) = true ∧ (match resV T S rs with
    | some (p, v) => p ∧ mvA (bl.map (·.1)) ((mkAL am al).map fun x => (x.1, x.2.1)) v res
    | none => False) ∧ wkBA (bl.map (·.1)) ((mkAL am al).map fun x => (x.1, x.2.1)) S.blks bl ∧ wkAA S.arrs (mkAL am al)
def retM (T : Nat → Option Ty) (rs : List ResultVar) (res : V) (bl : BL) (al : RL) : Exit → St → Prop
  | .normal, S => ∃ am, RetM T rs res bl al am S
  | .ret, S => ∃ am, RetM T rs res bl al am S
  | _, _ => False
section
variable {P : Program} {X : Fr} {w0 w w' : World} {N : Nat} {S : St} {E E' : Env} {a : Act} {T : Nat → Option Ty}
theorem pleA_ok {bn : List Nat} {al : List (Nat × Nat)} (hI : E'.I = E.I) (hB : ∀ t b, t ∈ bn → E.B t = some b → E'.B t = some b) (hL : ∀ b a v, (b, a) ∈ al → E.L a = some v → E'.L b = some v) : ∀ {xs ys : List (Bool × List C)}, pleA bn al xs ys → xs.length = ys.length ∧ ∀ (j : Nat) y u, ys[j]? = some y → (∀ x, xs[j]? = some x → RepP w E x u) → RepP w E' y u
  | [], [], _ => ⟨rfl, fun j y u h => by simp at h⟩
  | [], _ :: _, h => by simp [pleA] at h
  | _ :: _, [], h => by simp [pleA] at h
  | (b, x) :: xs, (c, y) :: ys, h => by
    obtain ⟨rfl, h1, h2⟩ := h
    have ih := pleA_ok hI hB hL h2
    refine ⟨by simp [ih.1], fun j z u hz hx => ?_⟩
    match j with
    | j + 1 => exact ih.2 j z u (by simpa using hz) fun x h => hx x (by simpa using h)
    | 0 =>
      simp at hz
      subst hz
      have h0 := hx (b, x) rfl
      cases b
      · obtain ⟨z, e, hz⟩ := h0
        subst e
        have := cleA_ok (w := w) (us := [u]) hI (fun t' t b hm => by obtain ⟨rfl, hm⟩ := nm2_mem hm; exact hB _ b hm) hL h1 ⟨rfl, fun j q v hq hv => by
          match j with
          | 0 => simp at hq hv; subst hq; subst hv; exact hz
          | j + 1 => simp at hq⟩
        match y, this with
        | [], h => have := h.1; simp at this
        | [y], h => exact ⟨y, rfl, h.2 0 y u rfl rfl⟩
        | _ :: _ :: _, h => have := h.1; simp at this
      · obtain ⟨us, e, hz⟩ := h0
        exact ⟨us, e, cleA_ok hI (fun t' t b hm => by obtain ⟨rfl, hm⟩ := nm2_mem hm; exact hB _ b hm) hL h1 hz⟩
theorem mvA_ok {bn : List Nat} {al : List (Nat × Nat)} (hI : E'.I = E.I) (hB : ∀ t b, t ∈ bn → E.B t = some b → E'.B t = some b) (hL : ∀ b a v, (b, a) ∈ al → E.L a = some v → E'.L b = some v) {x y : V} {u : Value} (h : mvA bn al x y) (hx : RepV w E x u) : RepV w E' y u := by
  unfold mvA at h
  split at h
  · cases hx with
    | tup hl hx =>
      obtain ⟨h1, h2⟩ := pleA_ok (w := w) (E := E) hI hB hL h
      exact .tup (by rw [← h1, hl]) fun j y u hy hu => h2 j y u hy fun x hxx => hx j x u hxx hu
  · cases hx; exact .no
  · obtain ⟨rfl, rfl, rfl, hb⟩ := h
    cases hx with
    | clo h1 h2 =>
      have key : ∀ {xs : List W} {us : List Value}, (∀ x ∈ xs, match x with | .loc t _ => t ∈ bn | _ => True) → RepWs w E xs us → RepWs w E' xs us := fun {xs us} hb h => ⟨h.1, fun j x u hx hu => by
        have hm := hb x (List.mem_of_getElem? hx)
        have h0 := h.2 j x u hx hu
        cases h0 with
        | f h => exact .f (hI ▸ h)
        | agg h => exact .agg (hI ▸ h)
        | loc h => exact .loc (hB _ _ hm h)
        | rd us h1 h2 h3 => exact .rd us (hI ▸ h1) h2 (hI ▸ h3)⟩
      exact .clo (key (fun x hx => hb x (by simp [hx])) h1) (key (fun x hx => hb x (by simp [hx])) h2)
  · exact wkVA_ok hI hB hL h hx
theorem callM_of (hT : ∀ t y, T t = some y → TyOk P t y) {f : FuncId} {fn : Func} {c : Code} {args : List V} {bl : BL} {al : RL} {res : V} {bl' : BL} {al' : RL} (rs : List ResultVar) (hf : P.funcs[f]? = some fn) (hb : fn.body = some c) (hn : (fn.name == "runtime.NumGoroutine") = false) (hargs : args.length ≤ fn.ntmps) (hrs : fn.results.toList = rs)
    (hnm : ((bl.map (·.1)).all fun t => (lkB t bl').isSome) = true)
    (h : ∀ XX I0 G w0, DW P ⟨XX, I0, bl.map (·.1), G, none, false⟩ w0 fn.ntmps c (retM T rs res bl' al') ⟨fun t => lkA t args, fun t => lkB t bl, fun a => lkR a al⟩) : CallM P f args bl al res bl' al' := by
  subst hrs
  refine ⟨⟨fn, hf, by simp [hb], hn⟩, fun w us E hm hl hv => ?_⟩
  have hlB : ∀ t, lkB t bl = bl.lookup t := fun t => lkB_eq t bl
  have hs : Sim ⟨foot E, E.I, bl.map (·.1), fun t => (E.B t).getD 0, none, false⟩ w fn.ntmps ⟨fun t => lkA t args, fun t => lkB t bl, fun a => lkR a al⟩ E { tmps := us ++ Array.replicate (fn.ntmps - us.size) undef, defers := [] } w := by
    refine ⟨Chg.refl _ _, Frk.none rfl, by simp; omega, fun t => ?_, fun t e cs h => ?_, hm.inj, hm.bl, fun a e k rows h => ?_, hm.al, hm.ai, hm.bn, hm.an, hm.il, fun _ h => h, fun _ h => .inl h, fun t ht => ?_⟩
    · simp only [lkA]
      rcases Nat.lt_or_ge t args.length with ht | ht
      · rw [List.getD_eq_getElem?_getD, List.getElem?_eq_getElem ht, Array.getD_eq_getD_getElem?, Array.getElem?_append_left (by omega), Array.getElem?_eq_getElem (by omega)]
        exact hv t _ _ (List.getElem?_eq_getElem ht) (Array.getElem?_eq_getElem (by omega))
      · rw [List.getD_eq_getElem?_getD, List.getElem?_eq_none ht]
        exact .un
    · obtain ⟨b, vs, h1, h2, h3⟩ := hm.blk t e cs h
      exact ⟨b, vs, h1, h2, h3, .inr (.inl ⟨t, h1⟩)⟩
    · obtain ⟨v, us, h1, h2, h3, h4⟩ := hm.arr a e k rows h
      exact ⟨v, us, h1, h2, h3, h4, fun b hb => .inr (.inr ⟨a, v, h1, hb⟩)⟩
    · have ht : t ∈ bl.map (·.1) := ht
      obtain ⟨⟨k, e, cs⟩, hx, rfl⟩ := List.mem_map.1 ht
      cases hq : lkB k bl with
      | none =>
        rw [hlB, List.lookup_eq_none_iff] at hq
        have := hq _ hx
        simp at this
      | some y =>
        obtain ⟨b, vs, h1, _⟩ := hm.blk k y.1 y.2 hq
        simp [h1]
  refine calls_of_sim hf hb rfl (h _ _ _ w E _ w hs) (fun e S' E' a' w' hq hs' _ => ?_) fun e S' hq => by cases e <;> first | exact .inl rfl | exact .inr rfl | exact hq.elim
  have key : (∃ am, RetM T fn.results.toList res bl' al' am S') → ∃ v, (results fn a'.tmps).run P w' = .ok v w' ∧ ∃ u E'', Ending.returned v = .returned u ∧ Mem w' E'' (fun t => lkB t bl') (fun a => lkR a al') ∧ RepV w' E'' res u ∧ Chg (foot E) w w' ∧
      (∀ t b, E.B t = some b → E''.B t = some b) ∧ (∀ b, E.I b → E''.I b) ∧ (∀ b, E''.I b → E.I b ∨ w.heap.size ≤ b ∨ foot E b) ∧ ∀ b, foot E'' b → w.heap.size ≤ b ∨ foot E b := fun ⟨am, h0, hr, h2, h3⟩ => by
    split at hr
    · rename_i p v hrv
      obtain ⟨u, q1, q2⟩ := resV_ok hT hs' hrv hr.1
      have hlk : ∀ t, (bl'.lookup t).isSome = (lkB t bl').isSome := fun t => by rw [lkB_eq]
      have hs'' := cut_sim (sl := []) h0 (by trivial) h2 h3 (by simp only [hlk]; exact hnm) hs'
      have harr : (St.ofA [] bl' (mkAL am al')).arrs = fun a => lkR a al' := funext fun t => arrOf_mkAL am t al'
      refine ⟨u, q2, u, _, rfl, ⟨fun t e cs ht => ?_, hs''.inj, hs''.bl, fun c e k rows hc => ?_, hs''.al, hs''.ai, hs''.bn, fun c hc => hs''.an c (by rw [harr]; exact hc), hs''.il⟩, mvA_ok (E := E') (E' := E'.cut bl' (mkAL am al')) rfl (fun t b hm hb => cut_B t b hm hb) (fun b a v hm hb => cut_L h0 b a v hm hb) hr.2 q1, hs''.chg, fun t b ht => ?_, fun b hb => hs''.i0 b hb, fun b hb => hs''.i1 b hb, fun b hb => ?_⟩
      · obtain ⟨b, vs, r1, r2, r3, _⟩ := hs''.blk t e cs ht
        exact ⟨b, vs, r1, r2, r3⟩
      · obtain ⟨v, us, r1, r2, r3, r4, _⟩ := hs''.arr c e k rows (by rw [harr]; exact hc)
        exact ⟨v, us, r1, r2, r3, r4⟩
      · have htm : t ∈ bl.map (·.1) := by
          cases hq : lkB t bl with
          | none => rw [hm.bn t hq] at ht; cases ht
          | some y => exact List.mem_map.2 ⟨_, lookup_mem (by rw [← hlB]; exact hq), rfl⟩
        have := hs''.kp t htm
        rw [this]
        show some ((E.B t).getD 0) = some b
        rw [ht]; rfl
      · rcases hb with ⟨t, ht⟩ | ⟨c, v, hc, hv⟩
        · cases hq : lkB t bl' with
          | none => rw [hs''.bn t hq] at ht; cases ht
          | some y =>
            obtain ⟨b', vs, r1, r2, r3, r4⟩ := hs''.blk t y.1 y.2 hq
            rw [ht] at r1; cases r1
            exact r4
        · cases hq : (St.ofA [] bl' (mkAL am al')).arrs c with
          | none => rw [hs''.an c hq] at hc; cases hc
          | some y =>
            obtain ⟨v', us, r1, r2, r3, r4, r5⟩ := hs''.arr c y.1 y.2.1 y.2.2 hq
            rw [hc] at r1; cases r1
            exact r5 b hv
    · exact hr.elim
  cases e with
  | normal => exact ⟨.inl rfl, key hq⟩
  | ret => exact ⟨.inr rfl, key hq⟩
  | _ => exact hq.elim
end

/-! ### The caller -/
def kC (ks : List Nat) : C → C
  | .o b => if ks.contains b then .un else .o b
  | x => x
def kP (ks : List Nat) : Bool × List C → Bool × List C
  | (b, cs) => (b, cs.map (kC ks))
def kV (ks : List Nat) : V → V
  | .c x => .c (kC ks x)
  | .agg xs => .agg (xs.map (kC ks))
  | .tup xs => .tup (xs.map (kP ks))
  | .el a k i off => if ks.contains a then .un else .el a k i off
  | x => x
def kB (ks : List Nat) : Option (TypeId × List C) → Option (TypeId × List C)
  | some (e, cs) => some (e, cs.map (kC ks))
  | none => none
def kA (ks : List Nat) (f : Nat → Option (TypeId × Nat × List (List F))) (c : Nat) : Option (TypeId × Nat × List (List F)) := if ks.contains c then none else f c
def upL {α : Type} (f : Nat → Option α) : List (Nat × α) → Nat → Option α
  | [] => f
  | (t, x) :: r => upd (upL f r) t (some x)
section kill
variable {ks : List Nat} {w w' : World} {E E' : Env}
theorem kC_ok (hm : ∀ b, E.I b → w'.heap[b]? = w.heap[b]?) (hI : ∀ b, E.I b → E'.I b) (hB : ∀ t b, E.B t = some b → E'.B t = some b) (hL : ∀ a v, ks.contains a = false → E.L a = some v → E'.L a = some v) {x : C} {u : Value} (h : RepC w E x u) : RepC w' E' (kC ks x) u := by
  cases h with
  | f h => exact .f (h.mono hm hI)
  | @o a _ h h1 =>
    have e : kC ks (.o a) = if ks.contains a then .un else .o a := rfl
    rw [e]
    cases hk : ks.contains a with
    | true => rw [if_pos rfl]; exact .un h1
    | false => rw [if_neg (by simp)]; exact .o (hL _ _ hk h) h1
  | un h => exact .un h
  | p h => exact .p (hB _ _ h)
theorem kCs_ok (hm : ∀ b, E.I b → w'.heap[b]? = w.heap[b]?) (hI : ∀ b, E.I b → E'.I b) (hB : ∀ t b, E.B t = some b → E'.B t = some b) (hL : ∀ a v, ks.contains a = false → E.L a = some v → E'.L a = some v) {xs : List C} {us : List Value} (h : Reps w E xs us) : Reps w' E' (xs.map (kC ks)) us :=
  ⟨by simpa using h.1, fun j x u hx hu => by
    rw [List.getElem?_map] at hx
    cases hj : xs[j]? with
    | none => simp [hj] at hx
    | some y => simp [hj] at hx; subst hx; exact kC_ok hm hI hB hL (h.2 j y u hj hu)⟩
theorem kV_ok (hm : ∀ b, E.I b → w'.heap[b]? = w.heap[b]?) (hI : ∀ b, E.I b → E'.I b) (hB : ∀ t b, E.B t = some b → E'.B t = some b) (hL : ∀ a v, ks.contains a = false → E.L a = some v → E'.L a = some v) {x : V} {u : Value} (h : RepV w E x u) : RepV w' E' (kV ks x) u := by
  cases h with
  | clo h1 h2 => exact .clo (h1.mono hm hI hB) (h2.mono hm hI hB)
  | @el a k i off _ _ _ h =>
    have e : kV ks (.el a k i off) = if ks.contains a then .un else .el a k i off := rfl
    rw [e]
    cases hk : ks.contains a with
    | true => rw [if_pos rfl]; exact .un
    | false => rw [if_neg (by simp)]; exact .el (hL _ _ hk h)
  | un => exact .un
  | no => exact .no
  | c h => exact .c (kC_ok hm hI hB hL h)
  | agg h => exact .agg (kCs_ok hm hI hB hL h)
  | tup hl h =>
    refine .tup (by simpa using hl) fun j x u hx hu => ?_
    rw [List.getElem?_map] at hx
    rename_i xs us
    cases hj : xs[j]? with
    | none => simp [hj] at hx
    | some y =>
      simp [hj] at hx
      subst hx
      have := h j y u hj hu
      obtain ⟨b, cs⟩ := y
      cases b
      · obtain ⟨z, e, hz⟩ := this
        subst e
        exact ⟨_, rfl, kC_ok hm hI hB hL hz⟩
      · obtain ⟨z, e, hz⟩ := this
        exact ⟨z, e, kCs_ok hm hI hB hL hz⟩
  | loc h => exact .loc (hB _ _ h)
  | rd us h1 h2 h3 =>
    refine .rd us (hI _ h1) (fun j x hj => ?_) fun j x hj => (h3 j x hj).mono hm hI
    rw [World.cell?_of_block (hm _ (by rw [block_of_add]; exact h1))]
    exact h2 j x hj
end kill

/-- from the callee's names to the caller's -/
def W.toV : W → V
  | .f x => .c (.f x)
  | .agg xs => .agg (xs.map .f)
  | .loc t o => .loc t o
  | .rd xs => .rd xs
def lookD (l : List (Nat × Nat)) (t : Nat) : Nat := (l.lookup t).getD 0
def rnC (bm am : List (Nat × Nat)) : C → C
  | .o a => .o (lookD am a)
  | .p t o => .p (lookD bm t) o
  | x => x
def rnP (bm am : List (Nat × Nat)) : Bool × List C → Bool × List C
  | (b, cs) => (b, cs.map (rnC bm am))
def rnW (bm : List (Nat × Nat)) : W → W
  | .loc t o => .loc (lookD bm t) o
  | x => x
def rnV (bm am : List (Nat × Nat)) : V → V
  | .c x => .c (rnC bm am x)
  | .agg xs => .agg (xs.map (rnC bm am))
  | .tup xs => .tup (xs.map (rnP bm am))
  | .loc t o => .loc (lookD bm t) o
  | .el a k i off => .el (lookD am a) k i off
  | .clo f fi ca => .clo f (fi.map (rnW bm)) (ca.map (rnW bm))
  | x => x
/-- the caller's value as the callee sees it -/
def mw (bm : List (Nat × Nat)) : W → W → Prop
  | .loc t o, .loc t' o' => (t', t) ∈ bm ∧ o = o'
  | x, y => x = y ∧ match x with
    | .loc _ _ => False
    | _ => True
def mws (bm : List (Nat × Nat)) : List W → List W → Prop
  | [], [] => True
  | x :: xs, y :: ys => mw bm x y ∧ mws bm xs ys
  | _, _ => False
def mv (bm am : List (Nat × Nat)) : V → V → Prop
  | _, .un => True
  | .loc t o, .loc t' o' => (t', t) ∈ bm ∧ o = o'
  | .c x, .c y => cleA bm am [x] [y]
  | .agg xs, .agg ys => cleA bm am xs ys
  | .clo f fi ca, .clo f' fi' ca' => f = f' ∧ mws bm fi fi' ∧ mws bm ca ca'
  | x, y => vle x y
def mvs (bm am : List (Nat × Nat)) : List V → List V → Prop
  | [], [] => True
  | x :: xs, y :: ys => mv bm am x y ∧ mvs bm am xs ys
  | _, _ => False
def entB (bm am : List (Nat × Nat)) (f : Nat → Option (TypeId × List C)) : BL → Prop
  | [] => True
  | (n, e, cs) :: r => (match bm.lookup n with
    | some t => (match f t with
      | some (e', cs') => e' = e ∧ cleA bm am cs' cs
      | none => False)
    | none => False) ∧ entB bm am f r
def entA (am : List (Nat × Nat)) (f : Nat → Option (TypeId × Nat × List (List F))) : RL → Prop
  | [] => True
  | (n, x) :: r => (match am.lookup n with
    | some t => f t = some x
    | none => False) ∧ entA am f r
/-- names that come new are free -/
def freshL {α : Type} (old : List Nat) (f : Nat → Option α) : List (Nat × Nat) → Prop
  | [] => True
  | (n, t) :: r => (n ∈ old ∨ f t = none) ∧ freshL old f r
def covers {β : Type} (m : List (Nat × Nat)) (l : List (Nat × β)) : Bool := l.all fun x => (m.lookup x.1).isSome
def onceP : List (Nat × Nat) → Bool
  | [] => true
  | (b, a) :: r => (r.all fun x => x.1 != b && x.2 != a) && onceP r
def calleeD (S : St) (c : Call) : Option (FuncId × List V) := match c.callee with
  | .value x => match ev S x with
    | .c (.f (.s (.func (.func f) fi ca))) => if fi.size = 0 ∧ ca.size = 0 then some (f, c.args.toList.map (ev S)) else none
    | .clo f fi ca => some (f, fi.map W.toV ++ c.args.toList.map (ev S) ++ ca.map W.toV)
    | .c (.f (.fc f cs)) => some (f, c.args.toList.map (ev S) ++ cs.map .rd)
    | _ => none
  | _ => none
def rnBL (bm am : List (Nat × Nat)) (l : BL) : BL := l.map fun x => (lookD bm x.1, x.2.1, x.2.2.map (rnC bm am))
def rnRL (am : List (Nat × Nat)) (l : RL) : RL := l.map fun x => (lookD am x.1, x.2)
section
theorem onceP_mem : ∀ {l : List (Nat × Nat)}, onceP l = true → ∀ {n t}, (n, t) ∈ l → l.lookup n = some t
  | (m, s) :: r, h, n, t, hm => by
    simp only [onceP, Bool.and_eq_true, List.all_eq_true, bne_iff_ne, ne_eq] at h
    rw [List.lookup_cons]
    rcases List.mem_cons.1 hm with e | e
    · cases e; simp
    · have h1 := (h.1 _ e).1
      have : (n == m) = false := by simpa using h1
      rw [this]
      exact onceP_mem h.2 e
theorem onceP_inj : ∀ {l : List (Nat × Nat)}, onceP l = true → ∀ {n n' t}, (n, t) ∈ l → (n', t) ∈ l → n = n'
  | (m, s) :: r, h, n, n', t, h1, h2 => by
    simp only [onceP, Bool.and_eq_true, List.all_eq_true, bne_iff_ne, ne_eq] at h
    rcases List.mem_cons.1 h1 with e1 | e1 <;> rcases List.mem_cons.1 h2 with e2 | e2
    · cases e1; cases e2; rfl
    · cases e1; exact absurd rfl (h.1 _ e2).2
    · cases e2; exact absurd rfl (h.1 _ e1).2
    · exact onceP_inj h.2 e1 e2
def inv (l : List (Nat × Nat)) (t : Nat) : Option Nat := (l.find? fun p => p.2 == t).map (·.1)
theorem inv_some {l : List (Nat × Nat)} {t n : Nat} (h : inv l t = some n) : (n, t) ∈ l := by
  unfold inv at h
  cases hq : l.find? fun p => p.2 == t with
  | none => rw [hq] at h; cases h
  | some p =>
    rw [hq] at h
    cases h
    have h1 := List.mem_of_find?_eq_some hq
    have h2 := List.find?_some hq
    obtain ⟨n, s⟩ := p
    simp only [beq_iff_eq] at h2
    subst h2
    exact h1
theorem inv_none {l : List (Nat × Nat)} {t n : Nat} (h : inv l t = none) : (n, t) ∉ l := fun hm => by
  unfold inv at h
  rw [Option.map_eq_none_iff, List.find?_eq_none] at h
  exact h _ hm (by simp)
theorem inv_mem {l : List (Nat × Nat)} (h1 : onceP l = true) {n t : Nat} (h : (n, t) ∈ l) : inv l t = some n := by
  cases hq : inv l t with
  | none => exact absurd h (inv_none hq)
  | some m => rw [onceP_inj h1 (inv_some hq) h]
theorem freshL_mem {α : Type} {old : List Nat} {f : Nat → Option α} : ∀ {l : List (Nat × Nat)}, freshL old f l → ∀ {n t}, (n, t) ∈ l → n ∈ old ∨ f t = none
  | (m, s) :: r, h, n, t, hm => by
    rcases List.mem_cons.1 hm with e | e
    · cases e; exact h.1
    · exact freshL_mem h.2 e
theorem lookD_of {l : List (Nat × Nat)} {n t : Nat} (h : l.lookup n = some t) : lookD l n = t := by simp [lookD, h]
theorem lookup_of_mem {l : List (Nat × Nat)} {n : Nat} (h : (l.lookup n).isSome = true) : l.lookup n = some (lookD l n) := by
  obtain ⟨t, ht⟩ := Option.isSome_iff_exists.1 h
  rw [lookD_of ht, ht]
/-- a list by the caller's names -/
theorem upL_rn {α β : Type} {m : List (Nat × Nat)} (hm : onceP m = true) {g : α → β} {f : Nat → Option β} (t : Nat) : ∀ (l : List (Nat × α)), covers m l = true →
    (∃ n x, l.lookup n = some x ∧ m.lookup n = some t ∧ upL f (l.map fun x => (lookD m x.1, g x.2)) t = some (g x)) ∨
    ((∀ n, (n, t) ∈ m → l.lookup n = none) ∧ upL f (l.map fun x => (lookD m x.1, g x.2)) t = f t)
  | [], _ => .inr ⟨fun _ _ => rfl, rfl⟩
  | (k, x) :: r, hc => by
    simp only [covers, List.all_cons, Bool.and_eq_true] at hc
    have hk := lookup_of_mem hc.1
    rw [List.map_cons]
    by_cases ht : t = lookD m k
    · subst ht
      exact .inl ⟨k, x, by simp, hk, by simp [upL, upd]⟩
    · have hu : upL f ((lookD m k, g x) :: r.map fun x => (lookD m x.1, g x.2)) t = upL f (r.map fun x => (lookD m x.1, g x.2)) t := by simp [upL, upd, ht]
      rw [hu]
      rcases upL_rn hm (g := g) (f := f) t r hc.2 with ⟨n, y, h1, h2, h3⟩ | ⟨h1, h2⟩
      · refine .inl ⟨n, y, ?_, h2, h3⟩
        have : (n == k) = false := by
          have : n ≠ k := fun e => by subst e; rw [hk] at h2; cases h2; exact ht rfl
          simpa using this
        rw [List.lookup_cons, this]; exact h1
      · refine .inr ⟨fun n hn => ?_, h2⟩
        have : (n == k) = false := by
          have : n ≠ k := fun e => by subst e; have := onceP_mem hm hn; rw [hk] at this; cases this; exact ht rfl
          simpa using this
        rw [List.lookup_cons, this]; exact h1 n hn
theorem lkR_eq (t : Nat) : ∀ (l : RL), lkR t l = l.lookup t
  | [] => rfl
  | (k, v) :: r => by
    rw [lkR, List.lookup_cons, lkR_eq t r]
    by_cases h : t = k
    · subst h; simp
    · have : (t == k) = false := by simpa using h
      simp [h, this]
theorem entB_mem {bm am : List (Nat × Nat)} {f : Nat → Option (TypeId × List C)} : ∀ {l : BL}, entB bm am f l → ∀ {n e cs}, (n, e, cs) ∈ l → ∃ t cs', bm.lookup n = some t ∧ f t = some (e, cs') ∧ cleA bm am cs' cs
  | (k, e0, cs0) :: r, h, n, e, cs, hm => by
    rcases List.mem_cons.1 hm with he | he
    · cases he
      have := h.1
      split at this
      · rename_i t ht
        split at this
        · rename_i e' cs' hf
          obtain ⟨rfl, h2⟩ := this
          exact ⟨t, cs', ht, hf, h2⟩
        · exact this.elim
      · exact this.elim
    · exact entB_mem h.2 he
theorem entA_mem {am : List (Nat × Nat)} {f : Nat → Option (TypeId × Nat × List (List F))} : ∀ {l : RL}, entA am f l → ∀ {n x}, (n, x) ∈ l → ∃ t, am.lookup n = some t ∧ f t = some x
  | (k, x0) :: r, h, n, x, hm => by
    rcases List.mem_cons.1 hm with he | he
    · cases he
      have := h.1
      split at this
      · rename_i t ht
        exact ⟨t, ht, this⟩
      · exact this.elim
    · exact entA_mem h.2 he
variable {P : Program} {X : Fr} {w0 w w' : World} {N : Nat} {S : St} {E E' : Env} {a : Act} {T : Nat → Option Ty}
theorem RepW.toV {x : W} {u : Value} (h : RepW w E x u) : RepV w E x.toV u := by
  cases h with
  | f h => exact .c (.f h)
  | agg h => exact .agg (reps_map h)
  | loc h => exact .loc h
  | rd us h1 h2 h3 => exact .rd us h1 h2 h3
theorem mw_ok {bm : List (Nat × Nat)} (hI : E'.I = E.I) (hB : ∀ n t b, (n, t) ∈ bm → E.B t = some b → E'.B n = some b) {x y : W} {u : Value} (h : mw bm x y) (hx : RepW w E x u) : RepW w E' y u := by
  unfold mw at h
  split at h
  · obtain ⟨h1, rfl⟩ := h
    cases hx with | loc hx => exact .loc (hB _ _ _ h1 hx)
  · obtain ⟨rfl, hloc⟩ := h
    cases hx with
    | f h => exact .f (hI ▸ h)
    | agg h => exact .agg (hI ▸ h)
    | loc h => exact hloc.elim
    | rd us h1 h2 h3 => exact .rd us (hI ▸ h1) h2 (hI ▸ h3)
theorem mws_ok {bm : List (Nat × Nat)} (hI : E'.I = E.I) (hB : ∀ n t b, (n, t) ∈ bm → E.B t = some b → E'.B n = some b) : ∀ {xs ys : List W} {us : List Value}, mws bm xs ys → RepWs w E xs us → RepWs w E' ys us
  | [], [], us, _, h => ⟨h.1, fun j x u hx => by simp at hx⟩
  | [], _ :: _, _, h, _ => h.elim
  | _ :: _, [], _, h, _ => h.elim
  | x :: xs, y :: ys, [], h, hr => by have := hr.1; simp at this
  | x :: xs, y :: ys, u :: us, h, hr => by
    have ih := mws_ok hI hB h.2 (⟨by simpa using hr.1, fun j => hr.2 (j + 1)⟩ : RepWs w E xs us)
    refine ⟨by simp [ih.1], fun j z v hz hv => ?_⟩
    match j with
    | 0 => cases hz; cases hv; exact mw_ok hI hB h.1 (hr.2 0 _ _ rfl rfl)
    | j + 1 => exact ih.2 j z v (by simpa using hz) (by simpa using hv)
theorem mv_ok {bm am : List (Nat × Nat)} (hI : E'.I = E.I) (hB : ∀ n t b, (n, t) ∈ bm → E.B t = some b → E'.B n = some b) (hL : ∀ n a v, (n, a) ∈ am → E.L a = some v → E'.L n = some v) {x y : V} {u : Value} (h : mv bm am x y) (hx : RepV w E x u) : RepV w E' y u := by
  unfold mv at h
  split at h
  · exact .un
  · obtain ⟨h1, rfl⟩ := h
    cases hx with | loc hx => exact .loc (hB _ _ _ h1 hx)
  · cases hx with
    | c hx =>
      rename_i x y
      have := cleA_ok (w := w) (us := [u]) hI hB hL h ⟨rfl, fun j q v hq hv => by
        match j with
        | 0 => simp at hq hv; subst hq; subst hv; exact hx
        | j + 1 => simp at hq⟩
      exact .c (this.2 0 y u rfl rfl)
  · cases hx with | agg hx => exact .agg (cleA_ok hI hB hL h hx)
  · obtain ⟨rfl, h1, h2⟩ := h
    cases hx with | clo q1 q2 => exact .clo (mws_ok hI hB h1 q1) (mws_ok hI hB h2 q2)
  · exact vle_ok hI h hx
theorem mvs_ok {bm am : List (Nat × Nat)} (hI : E'.I = E.I) (hB : ∀ n t b, (n, t) ∈ bm → E.B t = some b → E'.B n = some b) (hL : ∀ n a v, (n, a) ∈ am → E.L a = some v → E'.L n = some v) : ∀ {xs ys : List V}, mvs bm am xs ys → xs.length = ys.length ∧ ∀ (j : Nat) y u, ys[j]? = some y → (∀ x, xs[j]? = some x → RepV w E x u) → RepV w E' y u
  | [], [], _ => ⟨rfl, fun j y u h => by simp at h⟩
  | [], _ :: _, h => h.elim
  | _ :: _, [], h => h.elim
  | x :: xs, y :: ys, h => by
    have ih := mvs_ok hI hB hL h.2
    refine ⟨by simp [ih.1], fun j z u hz hx => ?_⟩
    match j with
    | 0 => simp at hz; subst hz; exact mv_ok hI hB hL h.1 (hx x rfl)
    | j + 1 => exact ih.2 j z u (by simpa using hz) fun x h => hx x (by simpa using h)
theorem rnCs_ok {bm am : List (Nat × Nat)} (hI : E'.I = E.I) (hB : ∀ n b, E.B n = some b → E'.B (lookD bm n) = some b) (hL : ∀ n v, E.L n = some v → E'.L (lookD am n) = some v) {xs : List C} {us : List Value} (h : Reps w E xs us) : Reps w E' (xs.map (rnC bm am)) us :=
  ⟨by simpa using h.1, fun j x u hx hu => by
    rw [List.getElem?_map] at hx
    cases hj : xs[j]? with
    | none => simp [hj] at hx
    | some y =>
      simp [hj] at hx
      subst hx
      have h0 := h.2 j y u hj hu
      cases h0 with
      | f h => exact .f (hI ▸ h)
      | o h h1 => exact .o (hL _ _ h) h1
      | p h => exact .p (hB _ _ h)
      | un h => exact .un h⟩
theorem rnV_ok {bm am : List (Nat × Nat)} (hI : E'.I = E.I) (hB : ∀ n b, E.B n = some b → E'.B (lookD bm n) = some b) (hL : ∀ n v, E.L n = some v → E'.L (lookD am n) = some v) {x : V} {u : Value} (h : RepV w E x u) : RepV w E' (rnV bm am x) u := by
  cases h with
  | un => exact .un
  | no => exact .no
  | @c x _ h =>
    have := (rnCs_ok (w := w) (xs := [x]) (us := [u]) hI hB hL ⟨rfl, fun j q v hq hv => by
      match j with
      | 0 => simp at hq hv; subst hq; subst hv; exact h
      | j + 1 => simp at hq⟩).2 0 (rnC bm am x) u rfl rfl
    exact .c this
  | agg h => exact .agg (rnCs_ok hI hB hL h)
  | tup hl h =>
    refine .tup (by simpa using hl) fun j x u hx hu => ?_
    rw [List.getElem?_map] at hx
    rename_i xs us
    cases hj : xs[j]? with
    | none => simp [hj] at hx
    | some y =>
      simp [hj] at hx
      subst hx
      have := h j y u hj hu
      obtain ⟨b, cs⟩ := y
      cases b
      · obtain ⟨z, e, hz⟩ := this
        subst e
        exact ⟨_, rfl, (rnCs_ok (w := w) (xs := [z]) (us := [u]) hI hB hL ⟨rfl, fun j q v hq hv => by
          match j with
          | 0 => simp at hq hv; subst hq; subst hv; exact hz
          | j + 1 => simp at hq⟩).2 0 _ u rfl rfl⟩
      · obtain ⟨z, e, hz⟩ := this
        exact ⟨z, e, rnCs_ok hI hB hL hz⟩
  | loc h => exact .loc (hB _ _ h)
  | rd us h1 h2 h3 => exact .rd us (hI ▸ h1) h2 (hI ▸ h3)
  | el h => exact .el (hL _ _ h)
  | @clo f fi ca us vs h1 h2 =>
    have key : ∀ {xs : List W} {us : List Value}, RepWs w E xs us → RepWs w E' (xs.map (rnW bm)) us := fun {xs us} h => ⟨by simpa using h.1, fun j x u hx hu => by
      rw [List.getElem?_map] at hx
      cases hj : xs[j]? with
      | none => simp [hj] at hx
      | some y =>
        simp [hj] at hx
        subst hx
        have h0 := h.2 j y u hj hu
        cases h0 with
        | f h => exact .f (hI ▸ h)
        | agg h => exact .agg (hI ▸ h)
        | loc h => exact .loc (hB _ _ h)
        | rd us h1 h2 h3 => exact .rd us (hI ▸ h1) h2 (hI ▸ h3)⟩
    exact .clo (key h1) (key h2)
/-- behind such a call -/
theorem Sim.callM {bm am : List (Nat × Nat)} {bl : BL} {al : RL} {bl' : BL} {al' : RL} (hs : Sim X w0 N S E a w) (h1 : onceP bm = true) (h2 : onceP am = true) (hbl : entB bm am S.blks bl) (hal : entA am S.arrs al)
    (hfB : freshL (bl.map (·.1)) S.blks bm) (hfA : freshL (al.map (·.1)) S.arrs am) (hcB : covers bm bl' = true) (hcA : covers am al' = true)
    (Ec : Env) (hEc : Ec = ⟨fun n => (bm.lookup n).bind E.B, fun n => (am.lookup n).bind E.L, E.I⟩) :
    Mem w Ec (fun t => lkB t bl) (fun c => lkR c al) ∧ ∀ (E1 : Env) (w' : World), Mem w' E1 (fun t => lkB t bl') (fun c => lkR c al') → Chg (foot Ec) w w' → (∀ t b, Ec.B t = some b → E1.B t = some b) → (∀ b, Ec.I b → E1.I b) → (∀ b, E1.I b → Ec.I b ∨ w.heap.size ≤ b ∨ foot Ec b) → (∀ b, foot E1 b → w.heap.size ≤ b ∨ foot Ec b) →
      ∃ E2 : Env, E2.I = E1.I ∧ (∀ n b, E1.B n = some b → E2.B (lookD bm n) = some b) ∧ (∀ n v, E1.L n = some v → E2.L (lookD am n) = some v) ∧
      Sim X w0 N ⟨fun t => kV (am.map (·.2)) (S.slots t), upL (fun t => kB (am.map (·.2)) (S.blks t)) (rnBL bm am bl'), upL (kA (am.map (·.2)) S.arrs) (rnRL am al')⟩ E2 a w' := by
  have hlB : ∀ (l : BL) t, lkB t l = l.lookup t := fun l t => lkB_eq t l
  have eB : ∀ n b, Ec.B n = some b → ∃ t, (n, t) ∈ bm ∧ E.B t = some b := fun n b h => by
    rw [hEc] at h
    have h : (bm.lookup n).bind E.B = some b := h
    cases hq : bm.lookup n with
    | none => rw [hq] at h; cases h
    | some t => rw [hq] at h; exact ⟨t, lookup_mem hq, h⟩
  have eL : ∀ n v, Ec.L n = some v → ∃ t, (n, t) ∈ am ∧ E.L t = some v := fun n b h => by
    rw [hEc] at h
    have h : (am.lookup n).bind E.L = some b := h
    cases hq : am.lookup n with
    | none => rw [hq] at h; cases h
    | some t => rw [hq] at h; exact ⟨t, lookup_mem hq, h⟩
  have cB : ∀ n t b, (n, t) ∈ bm → E.B t = some b → Ec.B n = some b := fun n t b h hb => by
    rw [hEc]
    show (bm.lookup n).bind E.B = some b
    rw [onceP_mem h1 h]; exact hb
  have cL : ∀ n t v, (n, t) ∈ am → E.L t = some v → Ec.L n = some v := fun n t v h hb => by
    rw [hEc]
    show (am.lookup n).bind E.L = some v
    rw [onceP_mem h2 h]; exact hb
  have eI : Ec.I = E.I := by rw [hEc]
  have notin : ∀ {β : Type} {l : List (Nat × β)} {n : Nat}, l.lookup n = none → n ∉ l.map (·.1) := fun {β l n} h hm => by
    obtain ⟨⟨k, x⟩, hx, rfl⟩ := List.mem_map.1 hm
    rw [List.lookup_eq_none_iff] at h
    have := h _ hx
    simp at this
  refine ⟨⟨fun n e cs h => ?_, fun n n' b h h' => ?_, fun n b h => ?_, fun n e k rows h => ?_, fun n v b h hb => ?_, fun n n' v v' b h h' hb hb' => ?_, fun n h => ?_, fun n h => ?_, fun b hb => hs.il b (eI ▸ hb)⟩, fun E1 w' hm hchg hmB hmI hI1 hfoot => ?_⟩
  · obtain ⟨t, cs', q1, q2, q3⟩ := entB_mem hbl (lookup_mem (by rw [← hlB]; exact h))
    obtain ⟨b, vs, r1, r2, r3, _⟩ := hs.blk _ _ _ q2
    exact ⟨b, vs, cB n t b (lookup_mem q1) r1, r2, cleA_ok eI (fun n t b hm hv => cB n t b hm hv) (fun n a v hm hv => cL n a v hm hv) q3 r3⟩
  · obtain ⟨t, q1, q2⟩ := eB _ _ h
    obtain ⟨t', q1', q2'⟩ := eB _ _ h'
    have := hs.inj _ _ _ q2 q2'
    subst this
    exact onceP_inj h1 q1 q1'
  · obtain ⟨t, q1, q2⟩ := eB _ _ h
    rw [eI]; exact hs.bl _ _ q2
  · obtain ⟨t, q1, q2⟩ := entA_mem hal (lookup_mem (by rw [← lkR_eq]; exact h))
    obtain ⟨v, us, r1, r2, r3, r4, _⟩ := hs.arr _ _ _ _ q2
    exact ⟨v, us, cL n t v (lookup_mem q1) r1, r2, eI ▸ r3, r4⟩
  · obtain ⟨t, q1, q2⟩ := eL _ _ h
    obtain ⟨r1, r2, r3⟩ := hs.al _ _ _ q2 hb
    refine ⟨r1, eI ▸ r2, fun m hm => ?_⟩
    obtain ⟨t', _, q4⟩ := eB _ _ hm
    exact r3 t' q4
  · obtain ⟨t, q1, q2⟩ := eL _ _ h
    obtain ⟨t', q1', q2'⟩ := eL _ _ h'
    have := hs.ai _ _ _ _ _ q2 q2' hb hb'
    subst this
    exact onceP_inj h2 q1 q1'
  · cases hq : Ec.B n with
    | none => rfl
    | some b =>
      obtain ⟨t, q1, q2⟩ := eB _ _ hq
      rcases freshL_mem hfB q1 with q3 | q3
      · exact absurd q3 (notin (by rw [← hlB]; exact h))
      · rw [hs.bn t q3] at q2; cases q2
  · cases hq : Ec.L n with
    | none => rfl
    | some b =>
      obtain ⟨t, q1, q2⟩ := eL _ _ hq
      rcases freshL_mem hfA q1 with q3 | q3
      · exact absurd q3 (notin (by rw [← lkR_eq]; exact h))
      · rw [hs.an t q3] at q2; cases q2
  · -- behind the call
    have fNew : ∀ b, foot Ec b → w0.heap.size ≤ b ∨ X.X b := fun b hb => by
      rcases hb with ⟨n, hn⟩ | ⟨n, v, hn, hv⟩
      · obtain ⟨t, _, q2⟩ := eB _ _ hn
        cases hq : S.blks t with
        | none => rw [hs.bn t hq] at q2; cases q2
        | some y =>
          obtain ⟨b', vs, r1, r2, r3, r4⟩ := hs.blk t y.1 y.2 hq
          rw [q2] at r1; cases r1
          exact r4
      · obtain ⟨t, _, q2⟩ := eL _ _ hn
        cases hq : S.arrs t with
        | none => rw [hs.an t hq] at q2; cases q2
        | some y =>
          obtain ⟨v', us, r1, r2, r3, r4, r5⟩ := hs.arr t y.1 y.2.1 y.2.2 hq
          rw [q2] at r1; cases r1
          exact r5 b hv
    have fLt : ∀ b, foot Ec b → b < w.heap.size := fun b hb => by
      rcases hb with ⟨n, hn⟩ | ⟨n, v, hn, hv⟩
      · obtain ⟨t, _, q2⟩ := eB _ _ hn; exact (hs.bl _ _ q2).1
      · obtain ⟨t, _, q2⟩ := eL _ _ hn; exact (hs.al _ _ _ q2 hv).1
    have fB : ∀ t b, E.B t = some b → foot Ec b → ∃ n, (n, t) ∈ bm ∧ Ec.B n = some b := fun t b ht hf => by
      rcases hf with ⟨n, hn⟩ | ⟨n, v, hn, hv⟩
      · obtain ⟨t', q1, q2⟩ := eB _ _ hn
        have := hs.inj _ _ _ ht q2
        subst this
        exact ⟨n, q1, hn⟩
      · obtain ⟨t', _, q2⟩ := eL _ _ hn
        exact absurd ht ((hs.al _ _ _ q2 hv).2.2 t)
    have fL : ∀ c v b, E.L c = some v → v.ownB = some b → foot Ec b → ∃ n, (n, c) ∈ am := fun c v b hc hv hf => by
      rcases hf with ⟨n, hn⟩ | ⟨n, v', hn, hv'⟩
      · obtain ⟨t', _, q2⟩ := eB _ _ hn
        exact absurd q2 ((hs.al _ _ _ hc hv).2.2 t')
      · obtain ⟨t', q1, q2⟩ := eL _ _ hn
        have := hs.ai _ _ _ _ _ hc q2 hv hv'
        subst this
        exact ⟨n, q1⟩
    have fI : ∀ b, E.I b → ¬ foot Ec b := fun b hb hf => by
      rcases hf with ⟨n, hn⟩ | ⟨n, v, hn, hv⟩
      · obtain ⟨t, _, q2⟩ := eB _ _ hn; exact (hs.bl _ _ q2).2 hb
      · obtain ⟨t, _, q2⟩ := eL _ _ hn; exact (hs.al _ _ _ q2 hv).2.1 hb
    have hmem : ∀ b, b < w.heap.size → ¬ foot Ec b → w'.heap[b]? = w.heap[b]? := fun b hb hf => hchg.block b hb hf
    have hmI' : ∀ b, E.I b → w'.heap[b]? = w.heap[b]? := fun b hb => hmem b (hs.il b hb) (fI b hb)
    have hII : ∀ b, E.I b → E1.I b := fun b hb => hmI b (eI ▸ hb)
    let E2 : Env := ⟨fun t => match inv bm t with
      | some n => (match E1.B n with
        | some b => some b
        | none => E.B t)
      | none => E.B t, fun c => match inv am c with
      | some n => E1.L n
      | none => E.L c, E1.I⟩
    have sB : ∀ t b, E2.B t = some b → (∃ n, (n, t) ∈ bm ∧ E1.B n = some b) ∨ (E.B t = some b ∧ ¬ foot Ec b) := fun t b h => by
      have h : (match inv bm t with
        | some n => (match E1.B n with
          | some b => some b
          | none => E.B t)
        | none => E.B t) = some b := h
      split at h
      · rename_i n hn
        split at h
        · rename_i b' hb'
          cases h
          exact .inl ⟨n, inv_some hn, hb'⟩
        · rename_i hno
          refine .inr ⟨h, fun hf => ?_⟩
          obtain ⟨n', q1, q2⟩ := fB _ _ h hf
          have := onceP_inj h1 (inv_some hn) q1
          subst this
          rw [hmB _ _ q2] at hno; cases hno
      · rename_i hn
        refine .inr ⟨h, fun hf => ?_⟩
        obtain ⟨n', q1, q2⟩ := fB _ _ h hf
        exact inv_none hn q1
    have sL : ∀ c v, E2.L c = some v → (∃ n, (n, c) ∈ am ∧ E1.L n = some v) ∨ ((∀ n, (n, c) ∉ am) ∧ E.L c = some v) := fun c v h => by
      have h : (match inv am c with
        | some n => E1.L n
        | none => E.L c) = some v := h
      split at h
      · rename_i n hn; exact .inl ⟨n, inv_some hn, h⟩
      · rename_i hn; exact .inr ⟨fun n hm => inv_none hn hm, h⟩
    have gB : ∀ n t b, (n, t) ∈ bm → E1.B n = some b → E2.B t = some b := fun n t b hm hb => by
      show (match inv bm t with
        | some n => (match E1.B n with
          | some b => some b
          | none => E.B t)
        | none => E.B t) = some b
      rw [inv_mem h1 hm]; simp only [hb]
    have gL : ∀ n c v, (n, c) ∈ am → E1.L n = some v → E2.L c = some v := fun n c v hm hv => by
      show (match inv am c with
        | some n => E1.L n
        | none => E.L c) = some v
      rw [inv_mem h2 hm]; exact hv
    have hB : ∀ t b, E.B t = some b → E2.B t = some b := fun t b ht => by
      show (match inv bm t with
        | some n => (match E1.B n with
          | some b => some b
          | none => E.B t)
        | none => E.B t) = some b
      split
      · rename_i n hn
        rw [hmB n b (cB n t b (inv_some hn) ht)]
      · exact ht
    have hL : ∀ c v, (am.map (·.2)).contains c = false → E.L c = some v → E2.L c = some v := fun c v hc hv => by
      show (match inv am c with
        | some n => E1.L n
        | none => E.L c) = some v
      have : inv am c = none := by
        cases hq : inv am c with
        | none => rfl
        | some n =>
          have h3 := inv_some hq
          have : (am.map (·.2)).contains c = true := by simpa using ⟨n, h3⟩
          rw [this] at hc; cases hc
      rw [this]; exact hv
    have rB : ∀ n b, E1.B n = some b → (lookD bm n, lkB n bl') = (lookD bm n, lkB n bl') ∧ (n, lookD bm n) ∈ bm := fun n b hb => by
      refine ⟨rfl, ?_⟩
      cases hq : lkB n bl' with
      | none => rw [hm.bn n hq] at hb; cases hb
      | some y =>
        have hx := lookup_mem (by rw [← hlB]; exact hq : bl'.lookup n = some y)
        exact lookup_mem (lookup_of_mem (List.all_eq_true.1 hcB _ hx))
    have rL : ∀ n v, E1.L n = some v → (n, lookD am n) ∈ am := fun n v hv => by
      cases hq : lkR n al' with
      | none => rw [hm.an n hq] at hv; cases hv
      | some y =>
        have hx := lookup_mem (by rw [← lkR_eq]; exact hq : al'.lookup n = some y)
        exact lookup_mem (lookup_of_mem (List.all_eq_true.1 hcA _ hx))
    have qB : ∀ n b, E1.B n = some b → E2.B (lookD bm n) = some b := fun n b hb => gB n _ b (rB n b hb).2 hb
    have qL : ∀ n v, E1.L n = some v → E2.L (lookD am n) = some v := fun n v hv => gL n _ v (rL n v hv) hv
    have f1 : ∀ b, b < w.heap.size → foot E1 b → foot Ec b := fun b hb hf => (hfoot b hf).resolve_left (by omega)
    have fNew1 : ∀ b, foot E1 b → w0.heap.size ≤ b ∨ X.X b := fun b hb => (hfoot b hb).elim (fun h => .inl (Nat.le_trans hs.chg.size h)) (fNew b)
    have bKey : ∀ t, (∃ n x, bl'.lookup n = some x ∧ bm.lookup n = some t ∧ upL (fun t => kB (am.map (·.2)) (S.blks t)) (rnBL bm am bl') t = some (x.1, x.2.map (rnC bm am))) ∨
        ((∀ n, (n, t) ∈ bm → bl'.lookup n = none) ∧ upL (fun t => kB (am.map (·.2)) (S.blks t)) (rnBL bm am bl') t = kB (am.map (·.2)) (S.blks t)) := fun t =>
      upL_rn (g := fun (x : TypeId × List C) => (x.1, x.2.map (rnC bm am))) h1 t bl' hcB
    have aKey : ∀ c, (∃ n x, al'.lookup n = some x ∧ am.lookup n = some c ∧ upL (kA (am.map (·.2)) S.arrs) (rnRL am al') c = some x) ∨
        ((∀ n, (n, c) ∈ am → al'.lookup n = none) ∧ upL (kA (am.map (·.2)) S.arrs) (rnRL am al') c = kA (am.map (·.2)) S.arrs c) := fun c =>
      upL_rn (g := fun (x : TypeId × Nat × List (List F)) => x) h2 c al' hcA
    have hcont : ∀ c, (am.map (·.2)).contains c = false → ∀ n, (n, c) ∉ am := fun c hc n hn => by
      have : (am.map (·.2)).contains c = true := by simpa using ⟨n, hn⟩
      rw [this] at hc; cases hc
    have hcont' : ∀ c, (∀ n, (n, c) ∉ am) → (am.map (·.2)).contains c = false := fun c hc => by
      cases hq : (am.map (·.2)).contains c with
      | false => rfl
      | true =>
        have : ∃ n, (n, c) ∈ am := by simpa using hq
        obtain ⟨n, hn⟩ := this
        exact absurd hn (hc n)
    have fcell : ∀ b, foot Ec b → ∃ o : Obj, w.heap[b]? = some o ∧ o.isMem = true := fun b hf => by
      rcases hf with ⟨n, hn⟩ | ⟨n, v, hn, hv⟩
      · obtain ⟨t, _, q⟩ := eB _ _ hn
        exact hs.cellB q
      · obtain ⟨t, _, q⟩ := eL _ _ hn
        exact hs.cellL q hv
    have frC : Frk X w0 E1.I a.defers w' := (hs.fr.mem fun b hb => by
      rcases hI1 b hb with h | h | h
      · exact .inl (eI ▸ h)
      · exact .inr (.inl h)
      · exact .inr (.inr (fcell b h))).keep fun k o ho hc => hchg.block k (Array.getElem?_eq_some_iff.1 ho).1 fun hf => by
        obtain ⟨o', h1, h2⟩ := fcell k hf
        rw [ho] at h1; cases h1; rw [hc] at h2; cases h2
    refine ⟨E2, rfl, qB, qL, hs.chg.trans' hchg fun i hi hf => (fNew i hf).resolve_left (by omega), frC, hs.sz, fun t => kV_ok (E' := E2) hmI' hII hB hL (hs.slot t), fun t e cs ht => ?_, fun t t' b ht ht' => ?_, fun t b ht => ?_, fun c e k rows hc => ?_, fun c v b hc hv => ?_, fun c c' v v' b hc hc' hv hv' => ?_, fun t ht => ?_, fun c hc => ?_, hm.il, fun b hb => hII b (hs.i0 b hb), fun b hb => ?_, fun t ht => hB t _ (hs.kp t ht)⟩
    · have ht : upL (fun t => kB (am.map (·.2)) (S.blks t)) (rnBL bm am bl') t = some (e, cs) := ht
      rcases bKey t with ⟨n, x, q1, q2, q3⟩ | ⟨q1, q2⟩
      · rw [q3] at ht
        have e1 : x.1 = e ∧ x.2.map (rnC bm am) = cs := by simpa using ht
        obtain ⟨rfl, rfl⟩ := e1
        obtain ⟨b, vs, r1, r2, r3⟩ := hm.blk n x.1 x.2 (by rw [hlB]; exact q1)
        exact ⟨b, vs, gB n t b (lookup_mem q2) r1, r2, rnCs_ok (E := E1) (E' := E2) rfl qB qL r3, fNew1 b (.inl ⟨n, r1⟩)⟩
      · rw [q2] at ht
        cases hq : S.blks t with
        | none => rw [hq] at ht; cases ht
        | some y =>
          obtain ⟨e0, cs0⟩ := y
          rw [hq] at ht
          have e1 : e0 = e ∧ cs0.map (kC (am.map (·.2))) = cs := by
            have : some (e0, cs0.map (kC (am.map (·.2)))) = some (e, cs) := ht
            simpa using this
          obtain ⟨rfl, rfl⟩ := e1
          obtain ⟨b, vs, r1, r2, r3, r4⟩ := hs.blk t e0 cs0 hq
          refine ⟨b, vs, hB t b r1, ?_, kCs_ok (E' := E2) hmI' hII hB hL r3, r4⟩
          refine (hmem b (hs.bl t b r1).1 fun hf => ?_).trans r2
          obtain ⟨n, p1, p2⟩ := fB t b r1 hf
          have := hm.bn n (by rw [hlB]; exact q1 n p1)
          rw [hmB n b p2] at this; cases this
    · rcases sB t b ht with ⟨n, q1, q2⟩ | ⟨q1, q2⟩ <;> rcases sB t' b ht' with ⟨n', q1', q2'⟩ | ⟨q1', q2'⟩
      · have := hm.inj _ _ _ q2 q2'
        subst this
        have h3 := onceP_mem h1 q1
        rw [onceP_mem h1 q1'] at h3
        cases h3; rfl
      · exact absurd (f1 b (hs.bl _ _ q1').1 (.inl ⟨n, q2⟩)) q2'
      · exact absurd (f1 b (hs.bl _ _ q1).1 (.inl ⟨n', q2'⟩)) q2
      · exact hs.inj _ _ _ q1 q1'
    · rcases sB t b ht with ⟨n, q1, q2⟩ | ⟨q1, q2⟩
      · exact hm.bl n b q2
      · have hlt := (hs.bl t b q1).1
        refine ⟨Nat.lt_of_lt_of_le hlt hchg.size, fun hi => ?_⟩
        rcases hI1 b hi with h | h | h
        · exact (hs.bl t b q1).2 (eI ▸ h)
        · omega
        · exact q2 h
    · have hc : upL (kA (am.map (·.2)) S.arrs) (rnRL am al') c = some (e, k, rows) := hc
      rcases aKey c with ⟨n, x, q1, q2, q3⟩ | ⟨q1, q2⟩
      · rw [q3] at hc
        cases hc
        obtain ⟨v, us, r1, r2, r3, r4⟩ := hm.arr n e k rows (by rw [lkR_eq]; exact q1)
        exact ⟨v, us, gL n c v (lookup_mem q2) r1, r2, r3, r4, fun b hb => fNew1 b (.inr ⟨n, v, r1, hb⟩)⟩
      · rw [q2] at hc
        unfold kA at hc
        split at hc
        · cases hc
        · rename_i hk
          have hk : (am.map (·.2)).contains c = false := by simpa using hk
          obtain ⟨v, us, r1, r2, r3, r4, r5⟩ := hs.arr c e k rows hc
          refine ⟨v, us, hL c v hk r1, ownA_keep r2 fun b hb => hmem b (hs.al c v b r1 hb).1 fun hf => ?_, ⟨r3.1, fun j x u hx hu => (r3.2 j x u hx hu).mono hmI' hII⟩, r4, r5⟩
          obtain ⟨n, p1⟩ := fL c v b r1 hb hf
          exact hcont c hk n p1
    · rcases sL c v hc with ⟨n, q1, q2⟩ | ⟨q1, q2⟩
      · obtain ⟨r1, r2, r3⟩ := hm.al n v b q2 hv
        refine ⟨r1, r2, fun t ht => ?_⟩
        rcases sB t b ht with ⟨n', p1, p2⟩ | ⟨p1, p2⟩
        · exact r3 n' p2
        · exact p2 (f1 b (hs.bl _ _ p1).1 (.inr ⟨n, v, q2, hv⟩))
      · obtain ⟨r1, r2, r3⟩ := hs.al c v b q2 hv
        have hnf : ¬ foot Ec b := fun hf => by
          obtain ⟨n, p1⟩ := fL c v b q2 hv hf
          exact q1 n p1
        refine ⟨Nat.lt_of_lt_of_le r1 hchg.size, fun hi => ?_, fun t ht => ?_⟩
        · rcases hI1 b hi with h | h | h
          · exact r2 (eI ▸ h)
          · omega
          · exact hnf h
        · rcases sB t b ht with ⟨n', p1, p2⟩ | ⟨p1, p2⟩
          · exact hnf (f1 b r1 (.inl ⟨n', p2⟩))
          · exact r3 t p1
    · rcases sL c v hc with ⟨n, q1, q2⟩ | ⟨q1, q2⟩ <;> rcases sL c' v' hc' with ⟨n', q1', q2'⟩ | ⟨q1', q2'⟩
      · have := hm.ai _ _ _ _ _ q2 q2' hv hv'
        subst this
        have h3 := onceP_mem h2 q1
        rw [onceP_mem h2 q1'] at h3
        cases h3; rfl
      · exfalso
        obtain ⟨n2, p1⟩ := fL c' v' b q2' hv' (f1 b (hs.al _ _ _ q2' hv').1 (.inr ⟨n, v, q2, hv⟩))
        exact q1' n2 p1
      · exfalso
        obtain ⟨n2, p1⟩ := fL c v b q2 hv (f1 b (hs.al _ _ _ q2 hv).1 (.inr ⟨n', v', q2', hv'⟩))
        exact q1 n2 p1
      · exact hs.ai _ _ _ _ _ q2 q2' hv hv'
    · have ht : upL (fun t => kB (am.map (·.2)) (S.blks t)) (rnBL bm am bl') t = none := ht
      rcases bKey t with ⟨n, x, q1, q2, q3⟩ | ⟨q1, q2⟩
      · rw [q3] at ht; cases ht
      · rw [q2] at ht
        have hno : S.blks t = none := by
          cases hq : S.blks t with
          | none => rfl
          | some y => rw [hq] at ht; cases ht
        cases hq : E2.B t with
        | none => rfl
        | some b =>
          rcases sB t b hq with ⟨n, p1, p2⟩ | ⟨p1, p2⟩
          · rw [hm.bn n (by rw [hlB]; exact q1 n p1)] at p2; cases p2
          · rw [hs.bn t hno] at p1; cases p1
    · have hc : upL (kA (am.map (·.2)) S.arrs) (rnRL am al') c = none := hc
      cases hq : E2.L c with
      | none => rfl
      | some v =>
        rcases aKey c with ⟨n, x, q1, q2, q3⟩ | ⟨q1, q2⟩
        · rw [q3] at hc; cases hc
        · rw [q2] at hc
          rcases sL c v hq with ⟨n, p1, p2⟩ | ⟨p1, p2⟩
          · rw [hm.an n (by rw [lkR_eq]; exact q1 n p1)] at p2; cases p2
          · unfold kA at hc
            rw [if_neg (by rw [hcont' c p1]; simp)] at hc
            rw [hs.an c hc] at p2; cases p2
    · rcases hI1 b hb with h | h | h
      · exact hs.i1 b (eI ▸ h)
      · exact .inr (.inl (Nat.le_trans hs.chg.size h))
      · exact .inr (fNew b h)
end

/-! ### One operation, by what holds behind it -/
def DOp (P : Program) (X : Fr) (w0 : World) (N : Nat) (o : Oper) (K : St → Prop) (S : St) : Prop :=
  ∀ (E : Env) (a : Act) (w : World), Sim X w0 N S E a w → (∀ t, o.dst = some t → t < N) → ∀ (K' : Act → World → Prop) (Q : Exit → Act → World → Prop), (∀ S' E' a' w', K S' → Sim X w0 N S' E' a' w' → K' a' w') → o.wp P a w K' Q
section
variable {P : Program} {X : Fr} {w0 : World} {N : Nat} {S : St} {T : Nat → Option Ty} {o : Oper} {K : St → Prop}
theorem dop_mono {K' : St → Prop} (h : DOp P X w0 N o K S) (hk : ∀ S, K S → K' S) : DOp P X w0 N o K' S := fun E a w hs hd K2 Q hK => h E a w hs hd K2 Q fun S' E' a' w' h1 => hK S' E' a' w' (hk _ h1)
theorem dop_weak {S' : St} (hw : Weak X S S') (h : DOp P X w0 N o K S') : DOp P X w0 N o K S := fun E a w hs hd K' Q hK => by
  obtain ⟨E', hs'⟩ := hw _ _ _ _ _ hs
  exact h E' a w hs' hd K' Q hK
/-- a call with data -/
theorem dop_call {c : Call} {f : FuncId} (hop : o.op = .call c) (hf : c.callee = .value (.func f)) {as : List V} {res : V} (hc : CallC P f as res) (ha : vles (c.args.toList.map (ev S)) as) (hK : K ⟨putS S.slots o.dst res, S.blks, S.arrs⟩) : DOp P X w0 N o K S :=
  fun E a w hs hd K' Q h => step_call hop (.inl hf) hc.1 hc.2 ha hs hd fun E' a' w' h' => h _ _ _ _ hK h'
def allC : List C → Bool
  | [] => true
  | .f _ :: r => allC r
  | _ :: _ => false
def allP : List (Bool × List C) → Bool
  | [] => true
  | (_, x) :: r => allC x && allP r
def allV : List V → Bool
  | [] => true
  | .c (.f _) :: r => allV r
  | .agg xs :: r => allC xs && allV r
  | .tup xs :: r => allP xs && allV r
  | .rd _ :: r => allV r
  | .clo _ fi ca :: r => noLoc (fi ++ ca) && allV r
  | _ :: _ => false
theorem fle_self (x : F) : fle x x := by unfold fle; split <;> simp_all
theorem cle_self : ∀ {xs : List C}, allC xs = true → cle xs xs
  | [], _ => trivial
  | .f x :: xs, h => ⟨fle_self x, cle_self h⟩
  | .o _ :: _, h => by simp [allC] at h
  | .un :: _, h => by simp [allC] at h
theorem ple_self : ∀ {xs : List (Bool × List C)}, allP xs = true → ple xs xs
  | [], _ => trivial
  | (b, x) :: xs, h => by
    simp only [allP, Bool.and_eq_true] at h
    exact ⟨rfl, cle_self h.1, ple_self h.2⟩
theorem vles_self : ∀ {xs : List V}, allV xs = true → vles xs xs
  | [], _ => trivial
  | x :: xs, h => by
    cases x with
    | c x => cases x with
      | f x => exact ⟨⟨fle_self x, trivial⟩, vles_self h⟩
      | _ => simp [allV] at h
    | agg ys => simp only [allV, Bool.and_eq_true] at h; exact ⟨cle_self h.1, vles_self h.2⟩
    | tup ys => simp only [allV, Bool.and_eq_true] at h; exact ⟨ple_self h.1, vles_self h.2⟩
    | rd ys => exact ⟨rfl, vles_self h⟩
    | clo f fi ca => simp only [allV, Bool.and_eq_true] at h; exact ⟨⟨⟨rfl, rfl, rfl⟩, h.1⟩, vles_self h.2⟩
    | _ => simp [allV] at h
theorem dop_call_r {c : Call} {f : FuncId} (hop : o.op = .call c) (hf : c.callee = .value (.func f)) {as : List V} {res : V} (hc : CallC P f as res) (he : c.args.toList.map (ev S) = as) (ha : allV as = true) (hK : K ⟨putS S.slots o.dst res, S.blks, S.arrs⟩) : DOp P X w0 N o K S :=
  dop_call hop hf hc (by rw [he]; exact vles_self ha) hK
/-- own arrays are lent; the answer is a plain value -/
theorem dop_lend {c : Call} {f : FuncId} (hop : o.op = .call c) (hf : c.callee = .value (.func f)) {as : List V} {r : Value} (hc : CallC P f as (.c (.f (.s r)))) (ha : vlesL S.arrs (c.args.toList.map (ev S)) as) (hK : K ⟨putS S.slots o.dst (.c (.f (.s r))), S.blks, S.arrs⟩) : DOp P X w0 N o K S :=
  fun E a w hs hd K' Q h => step_lend hop hf hc.1 hc.2 ha hs hd fun E' a' w' h' => h _ _ _ _ hK h'
/-- a call that leaves an array of the caller's own -/
theorem dop_own {c : Call} {f : FuncId} (hop : o.op = .call c) (hf : c.callee = .value (.func f)) {as : List V} {res : Nat → V} {e : TypeId} {k : Nat} {rows : List (List F)} {d : Nat} (hd : o.dst = some d) (hc : CallO P f as res e k rows) (ha : vles (c.args.toList.map (ev S)) as) (hfree : S.arrs d = none)
    (hK : K ⟨upd S.slots d (res d), S.blks, fun c => if c = d then some (e, k, rows) else S.arrs c⟩) : DOp P X w0 N o K S :=
  fun E a w hs hdN K' Q h => step_callO hop hf hc ha hs hd (hdN d hd) hfree fun E' a' w' h' => h _ _ _ _ hK h'
/-- what a call enters -/
theorem calleeD_run {c : Call} {f : FuncId} {vs : List V} {fn : Func} (hop : o.op = .call c) (hf : calleeD S c = some (f, vs)) (hfn : P.funcs[f]? = some fn) (hbody : fn.body.isNone = false) (hnm : (fn.name == "runtime.NumGoroutine") = false) {E : Env} {a : Act} {w : World} (hs : Sim X w0 N S E a w) :
    ∃ us : Array Value, vs.length = us.size ∧ (∀ (j : Nat) v u, vs[j]? = some v → us[j]? = some u → RepV w E v u) ∧ (execOp a.eval o).run P w = .ok (.enter f us) w := by
  obtain ⟨callee, cargs, argTypes⟩ := c
  have hargs : ∀ (j : Nat) v u, (cargs.toList.map (ev S))[j]? = some v → (cargs.map a.eval)[j]? = some u → RepV w E v u := fun j v u hv hu => by
    rw [List.getElem?_map] at hv
    rw [Array.getElem?_map] at hu
    cases hq : cargs[j]? with
    | none => simp [hq] at hu
    | some q =>
      simp [hq] at hu
      rw [show cargs.toList[j]? = some q by simpa using hq] at hv
      cases hv
      subst hu
      exact hs.ev q
  unfold calleeD at hf
  have e1 : fn.body ≠ none := fun h => by simp [h] at hbody
  have e2 : fn.name ≠ "runtime.NumGoroutine" := by simpa using hnm
  simp only at hf
  split at hf
  · rename_i x
    have hx' := hs.ev x
    split at hf
    · rename_i g fi ca hev
      split at hf
      · rename_i hz
        cases hf
        rw [hev] at hx'
        generalize hu : a.eval x = u at hx'
        obtain rfl := rep_s hx'
        have hfi : fi = #[] := Array.eq_empty_of_size_eq_zero hz.1
        have hca : ca = #[] := Array.eq_empty_of_size_eq_zero hz.2
        subst hfi; subst hca
        exact ⟨cargs.map a.eval, by simp, hargs, by simp [execOp, hop, resolve, invoke, hu, Deferred.ofValue, callFunc, hfn, e1, e2]⟩
      · cases hf
    · rename_i g fi ca hev
      cases hf
      rw [hev] at hx'
      generalize hu : a.eval x = u at hx'
      cases hx' with
      | @clo _ _ _ us vs h3 h4 =>
        refine ⟨us ++ cargs.map a.eval ++ vs, by simp [h3.1, h4.1], fun j v u hv hu' => ?_, by simp [execOp, hop, resolve, invoke, hu, Deferred.ofValue, callFunc, hfn, e1, e2]⟩
        have l1 : fi.length = us.size := by simpa using h3.1
        have l2 : ca.length = vs.size := by simpa using h4.1
        rcases Nat.lt_or_ge j (fi.length + cargs.size) with hj | hj
        · rw [List.getElem?_append_left (by simpa using hj)] at hv
          rw [Array.getElem?_append_left (by simp; omega)] at hu'
          rcases Nat.lt_or_ge j fi.length with hj2 | hj2
          · rw [List.getElem?_append_left (by simpa using hj2), List.getElem?_map] at hv
            rw [Array.getElem?_append_left (by omega)] at hu'
            cases hq : fi[j]? with
            | none => rw [hq] at hv; cases hv
            | some q =>
              rw [hq] at hv
              cases hv
              exact (h3.2 j q u hq (by simpa using hu')).toV
          · rw [List.getElem?_append_right (by simpa using hj2)] at hv
            rw [Array.getElem?_append_right (by omega)] at hu'
            exact hargs (j - us.size) v u (by simpa [l1] using hv) hu'
        · rw [List.getElem?_append_right (by simpa using hj), List.getElem?_map] at hv
          rw [Array.getElem?_append_right (by simp; omega)] at hu'
          cases hq : ca[j - (fi.map W.toV ++ cargs.toList.map (ev S)).length]? with
          | none => rw [hq] at hv; cases hv
          | some q =>
            rw [hq] at hv
            cases hv
            have : j - (fi.map W.toV ++ cargs.toList.map (ev S)).length = j - (us ++ cargs.map a.eval).size := by simp [l1]
            rw [this] at hq
            exact (h4.2 _ q u hq (by simpa using hu')).toV
    · rename_i g cs hev
      cases hf
      rw [hev] at hx'
      generalize hu : a.eval x = u at hx'
      obtain ⟨vs, rfl, h4⟩ : ∃ vs : Array Value, u = .func (.func _) #[] vs ∧ RepWs w E (cs.map .rd) vs.toList := by
        cases hx' with | c h => cases h with | f h => exact fc_to h
      refine ⟨cargs.map a.eval ++ vs, by have := h4.1; simp at this; simp [this], fun j v u hv hu' => ?_, by simp [execOp, hop, resolve, invoke, hu, Deferred.ofValue, callFunc, hfn, e1, e2]⟩
      rcases Nat.lt_or_ge j cargs.size with hj | hj
      · rw [List.getElem?_append_left (by simpa using hj)] at hv
        rw [Array.getElem?_append_left (by simpa using hj)] at hu'
        exact hargs j v u hv hu'
      · rw [List.getElem?_append_right (by simpa using hj)] at hv
        rw [Array.getElem?_append_right (by simpa using hj)] at hu'
        simp only [List.length_map, Array.length_toList, Array.size_map] at hv hu'
        have hw := h4.2 (j - cargs.size)
        rw [List.getElem?_map] at hv
        cases hq : cs[j - cargs.size]? with
        | none => rw [hq] at hv; cases hv
        | some xs =>
          rw [hq] at hv; cases hv
          exact (hw (.rd xs) u (by rw [List.getElem?_map, hq]; rfl) (by simpa using hu')).toV
    · cases hf
  · cases hf
/-- a call of a function that is a value -/
theorem dop_call_v {c : Call} {f : FuncId} {vs : List V} (hop : o.op = .call c) (hf : calleeD S c = some (f, vs)) {as : List V} {res : V} (hc : CallC P f as res) (ha : vles vs as) (hK : K ⟨putS S.slots o.dst res, S.blks, S.arrs⟩) : DOp P X w0 N o K S := fun E a w hs hd K' Q hK' => by
  obtain ⟨⟨fn, hfn, hbody, hnm⟩, hc⟩ := hc
  obtain ⟨us, hl, hv, hx⟩ := calleeD_run hop hf hfn hbody hnm hs
  obtain ⟨hl2, hv2⟩ := vles_ok (w := w) (E := E) (E' := .pure E.I) rfl ha
  unfold Oper.wp
  rw [hx]
  refine Calls.mono (hc w us E.I hs.il (by rw [← hl2, hl]) fun j v u h1 h2 => hv2 j v u h1 fun x hx => hv j x u hx h2) ?_
  rintro e w' ⟨u, I', rfl, hr, hbel, hI, hI'⟩
  obtain ⟨E', h'⟩ := hs.called hr hbel hI hI' o.dst hd
  exact hK' _ _ _ _ hK h'
/-- a call that is lent blocks and arrays -/
theorem dop_callM {c : Call} {f : FuncId} {vs : List V} (hop : o.op = .call c) (hf : calleeD S c = some (f, vs)) {args : List V} {bl : BL} {al : RL} {res : V} {bl' : BL} {al' : RL} (bm am : List (Nat × Nat)) (hc : CallM P f args bl al res bl' al')
    (h1 : onceP bm = true) (h2 : onceP am = true) (hcB : covers bm bl' = true) (hcA : covers am al' = true) (ha : mvs bm am vs args) (hbl : entB bm am S.blks bl) (hal : entA am S.arrs al)
    (hfB : freshL (bl.map (·.1)) S.blks bm) (hfA : freshL (al.map (·.1)) S.arrs am)
    (hK : K ⟨putS (fun t => kV (am.map (·.2)) (S.slots t)) o.dst (rnV bm am res), upL (fun t => kB (am.map (·.2)) (S.blks t)) (rnBL bm am bl'), upL (kA (am.map (·.2)) S.arrs) (rnRL am al')⟩) : DOp P X w0 N o K S := fun E a w hs hd K' Q hK' => by
  obtain ⟨⟨fn, hfn, hbody, hnm⟩, hc⟩ := hc
  obtain ⟨hm, hafter⟩ := hs.callM h1 h2 hbl hal hfB hfA hcB hcA _ rfl
  obtain ⟨us, hl, hv, hx⟩ := calleeD_run hop hf hfn hbody hnm hs
  obtain ⟨hl2, hv2⟩ := mvs_ok (w := w) (E := E) (E' := ⟨fun n => (bm.lookup n).bind E.B, fun n => (am.lookup n).bind E.L, E.I⟩) rfl (fun n t b hm hb => by show (bm.lookup n).bind E.B = some b; rw [onceP_mem h1 hm]; exact hb) (fun n t v hm hb => by show (am.lookup n).bind E.L = some v; rw [onceP_mem h2 hm]; exact hb) ha
  unfold Oper.wp
  rw [hx]
  refine Calls.mono (hc w us _ hm (by rw [← hl2, hl]) fun j v u h3 h4 => hv2 j v u h3 fun x hx => hv j x u hx h4) ?_
  rintro e w' ⟨u, E1, rfl, q1, q2, q3, q4, q5, q6, q7⟩
  obtain ⟨E2, r1, r2, r3, r4⟩ := hafter E1 w' q1 q3 q4 q5 q6 q7
  exact hK' _ _ _ _ hK (r4.env _ u (rnV_ok r1 r2 r3 q2) o.dst hd)
end

/-! ### An undrawn row: it stands still at each call of a function -/
def stops : Op → Bool
  | .call c => match c.callee with
    | .builtin .delete => true
    | .builtin _ => false
    | _ => true
  | .mapUpdate .. => true
  | .makeMap .. => true
  | .makeSlice .. => true
  | .binOp _ _ _ (.const (.slice none 0 0)) _ => true
  | .buildSlice _ n _ => match n with
    | 1 => false
    | _ => true
  | _ => false
def eff3 (P : Program) (T : Nat → Option Ty) (dst : Option Nat) (op : Op) (K : St → Prop) (S : St) : Prop := match effd P T S op with
  | some (p, .put v, _) => p ∧ kput (fun v => K ⟨putS S.slots dst v, S.blks, S.arrs⟩) v
  | some (p, .box e cs, _) => match dst with
    | some d => p ∧ S.blks d = none ∧ K ⟨upd S.slots d (.loc d 0), upd S.blks d (some (e, cs)), S.arrs⟩
    | none => False
  | some (p, .store b e cs, _) => dst = none ∧ p ∧ K ⟨S.slots, upd S.blks b (some (e, cs)), S.arrs⟩
  | some (p, .mk _ k rows, _) => p ∧ K ⟨putS S.slots dst (.c (.f (.l k rows))), S.blks, S.arrs⟩
  | some (p, .app ko e k rows, _) => match dst with
    | some d => p ∧ (S.arrs d = none ∨ ko = some d) ∧ K ⟨upd (fun t => killV ko (S.slots t)) d (.c (.o d)), fun t => killB ko (S.blks t), fun c => if c = d then some (e, k, rows) else if ko = some c then none else S.arrs c⟩
    | none => False
  | some (p, .elt c e k rows, _) => dst = none ∧ p ∧ K ⟨S.slots, S.blks, fun x => if x = c then some (e, k, rows) else S.arrs x⟩
  | none => False
def RunU (P : Program) (T : Nat → Option Ty) (X : Fr) (w0 : World) (N : Nat) (o : Oper) (K : St → Prop) (S : St) : Prop := match stops o.op with
  | true => DOp P X w0 N o K S
  | false => eff3 P T o.dst o.op K S
def exU (P : Program) (T : Nat → Option Ty) (X : Fr) (w0 : World) (N : Nat) (ops : Array Oper) : List Oper → (St → Prop) → St → Prop
  | [], K, S => K S
  | o :: os, K, S => gd2 (gdV S (gOf ops o.guard)) (RunU P T X w0 N o (exU P T X w0 N ops os K)) (SkipB o.dst (exU P T X w0 N ops os K)) S
section
variable {P : Program} {T : Nat → Option Ty} {ops : Array Oper} {K : St → Prop} {X : Fr} {w0 : World} {N : Nat} {s : Nat → V} {b : Nat → Option (TypeId × List C)} {a : Nat → Option (TypeId × Nat × List (List F))}
theorem exU_nil : exU P T X w0 N ops [] K ⟨s, b, a⟩ = K ⟨s, b, a⟩ := rfl
theorem exU_cons {o : Oper} {os : List Oper} : exU P T X w0 N ops (o :: os) K ⟨s, b, a⟩ = gd2 (gdV ⟨s, b, a⟩ (gOf ops o.guard)) (RunU P T X w0 N o (exU P T X w0 N ops os K)) (SkipB o.dst (exU P T X w0 N ops os K)) ⟨s, b, a⟩ := rfl
theorem RunU_eq {o : Oper} : RunU P T X w0 N o K ⟨s, b, a⟩ = match stops o.op with
  | true => DOp P X w0 N o K ⟨s, b, a⟩
  | false => eff3 P T o.dst o.op K ⟨s, b, a⟩ := rfl
/-! ### An element of an own array is written -/
theorem flat_over {α : Type} {k off : Nat} {fs : List α} (ho : off + fs.length ≤ k) : ∀ (rows : List (List α)) (n : Nat) (r : List α), (∀ r ∈ rows, r.length = k) → rows[n]? = some r →
    (rows.set n (r.take off ++ fs ++ r.drop (off + fs.length))).flatten = rows.flatten.take (n * k + off) ++ fs ++ rows.flatten.drop (n * k + off + fs.length)
  | [], n, r, _, h => by simp at h
  | r0 :: rs, 0, r, hk, h => by
    simp at h; subst h
    have := hk r0 (by simp)
    simp only [List.set_cons_zero, List.flatten_cons, Nat.zero_mul, Nat.zero_add]
    rw [List.take_append_of_le_length (by omega), List.drop_append_of_le_length (by omega)]
    simp
  | r0 :: rs, n + 1, r, hk, h => by
    have h0 := hk r0 (by simp)
    simp only [List.set_cons_succ, List.flatten_cons]
    rw [flat_over ho rs n r (fun r hr => hk r (by simp [hr])) (by simpa using h)]
    have e1 : (n + 1) * k + off = r0.length + (n * k + off) := by rw [h0, Nat.add_mul]; omega
    rw [e1, Nat.add_assoc r0.length, List.take_length_add_append, List.drop_length_add_append]
    simp
theorem over_take {α : Type} {A B : List α} {p L : Nat} (h1 : p + B.length ≤ L) (h2 : L ≤ A.length) : (A.take p ++ B ++ A.drop (p + B.length)).take L = (A.take L).take p ++ B ++ (A.take L).drop (p + B.length) := by
  have e1 : (A.take p ++ B).length = p + B.length := by rw [List.length_append, List.length_take]; omega
  have e2 : L = (A.take p ++ B).length + (L - (p + B.length)) := by omega
  rw [e2, List.take_length_add_append, ← e2, List.take_take, Nat.min_eq_left (by omega), List.drop_take]
theorem over_at {α β : Type} {R : α → β → Prop} {xs ys : List α} {us vs : List β} (hx : xs.length = us.length) (hy : ys.length = vs.length) (h1 : ∀ (j : Nat) x u, xs[j]? = some x → us[j]? = some u → R x u) (h2 : ∀ (j : Nat) x u, ys[j]? = some x → vs[j]? = some u → R x u) (p : Nat) (hp : p + ys.length ≤ xs.length) :
    ∀ (j : Nat) x u, (xs.take p ++ ys ++ xs.drop (p + ys.length))[j]? = some x → (us.take p ++ vs ++ us.drop (p + vs.length))[j]? = some u → R x u := fun j x u hx' hu' => by
  have l1 : (xs.take p).length = p := by rw [List.length_take]; omega
  have l2 : (us.take p).length = p := by rw [List.length_take]; omega
  by_cases q1 : j < p
  · rw [List.append_assoc, List.getElem?_append_left (by omega), List.getElem?_take, if_pos q1] at hx' hu'
    exact h1 j x u hx' hu'
  · by_cases q2 : j < p + ys.length
    · rw [List.append_assoc, List.getElem?_append_right (by omega), List.getElem?_append_left (by omega)] at hx' hu'
      rw [l1] at hx'
      rw [l2] at hu'
      exact h2 _ x u hx' hu'
    · rw [List.getElem?_append_right (by rw [List.length_append]; omega), List.getElem?_drop, List.length_append, l1] at hx'
      rw [List.getElem?_append_right (by rw [List.length_append]; omega), List.getElem?_drop, List.length_append, l2] at hu'
      rw [← hy] at hu'
      exact h1 _ x u hx' hu'
theorem Sim.overArr {S : St} {E : Env} {act : Act} {w : World} (hs : Sim X w0 N S E act w) {ar : Nat} {e : TypeId} {k : Nat} {rows : List (List F)} (h : S.arrs ar = some (e, k, rows)) (hem : e < 1000000) {n off : Nat} {r : List F} (hn : rows[n]? = some r) {fs : List F} {vs : List Value} (ho : off + fs.length ≤ k) (hf : RepFs w E.I fs vs) :
    ∃ g cap cur, E.L ar = some (.slice (some ⟨g, 0, none⟩) rows.length cap) ∧ Blk w g e cur ∧ n * k + off + fs.length ≤ cur.size ∧
      Sim X w0 N ⟨S.slots, S.blks, fun b => if b = ar then some (e, k, rows.set n (r.take off ++ fs ++ r.drop (off + fs.length))) else S.arrs b⟩ E act (w.setRow g (cur.toList.take (n * k + off) ++ vs ++ cur.toList.drop (n * k + off + fs.length)).toArray) := by
  obtain ⟨v, us, hL, hownA, hrep, hk, hnew⟩ := hs.arr _ _ _ _ h
  have hown := hownA.row hem
  have hnl : n < rows.length := (List.getElem?_eq_some_iff.1 hn).1
  rcases hown.2 with ⟨_, h0⟩ | ⟨g, cap, cur, hv, hb, hg, hcap, hmax, hsz, htake⟩
  · omega
  have hfl := hf.1
  have hi1 : n * k + off + fs.length ≤ rows.length * k := by
    have : (n + 1) * k ≤ rows.length * k := Nat.mul_le_mul_right k hnl
    rw [Nat.add_mul] at this; omega
  have hi2 : n * k + off + fs.length ≤ cur.size := by
    have : rows.length * k ≤ cap * k := Nat.mul_le_mul_right k hcap
    omega
  refine ⟨g, cap, cur, hv ▸ hL, hg, hi2, ?_⟩
  generalize hcur : (cur.toList.take (n * k + off) ++ vs ++ cur.toList.drop (n * k + off + fs.length)).toArray = cur'
  have hov : v.ownB = some g := by rw [hv]; rfl
  obtain ⟨ha1, ha2, ha3⟩ := hs.al _ _ _ hL hov
  have hot : ∀ b, b ≠ g → (w.setRow g cur').heap[b]? = w.heap[b]? := fun b hb => setRow_other w g b cur' hb
  have hmem : ∀ b, E.I b → (w.setRow g cur').heap[b]? = w.heap[b]? := fun b hb => hot b fun e => ha2 (e ▸ hb)
  have hle : Env.Le w (w.setRow g cur') E E := ⟨hmem, fun _ h => h, fun _ _ h => h, fun _ _ h => h⟩
  have hszw : (w.setRow g cur').heap.size = w.heap.size := by simp
  have hBlk : Blk w g e cur := hg
  have hcs : cur'.size = cur.size := by
    rw [← hcur]
    simp
    omega
  have hul : rows.flatten.length = us.length := hrep.1
  have hfll : rows.flatten.length = rows.length * k := flat_len hk
  refine ⟨hs.chg.setRow (fun hlt => (hnew g hov).resolve_left (by omega)) _, hs.fr.far (blk_cells hBlk) hot, hs.sz, fun t => (hs.slot t).mono hle, fun t e' cs ht => ?_, hs.inj, fun t b ht => by rw [hszw]; exact hs.bl t b ht, fun c e' k' rows' hc => ?_, fun c v' b hv' hb' => by rw [hszw]; exact hs.al c v' b hv' hb', hs.ai, hs.bn, fun c hc => ?_, fun b hb => by rw [hszw]; exact hs.il b hb, hs.i0, hs.i1, hs.kp⟩
  · obtain ⟨g2, vs2, h1, h2, h3, h4⟩ := hs.blk t e' cs ht
    have hne : g2 ≠ g := fun e => ha3 t (e ▸ h1)
    exact ⟨g2, vs2, h1, h2.setRow_far hne _, h3.mono hle, h4⟩
  · have hc : (if c = ar then some (e, k, rows.set n (r.take off ++ fs ++ r.drop (off + fs.length))) else S.arrs c) = some (e', k', rows') := hc
    by_cases hca : c = ar
    · rw [if_pos hca] at hc; cases hc
      subst hca
      have hov2 := over_at (R := RepF (w.setRow g cur') E.I) hul hfl (fun j y u hy hu => (hrep.2 j y u hy hu).mono hmem fun _ h => h) (fun j y u hy hu => (hf.2 j y u hy hu).mono hmem fun _ h => h) (n * k + off) (by omega)
      refine ⟨v, us.take (n * k + off) ++ vs ++ us.drop (n * k + off + vs.length), hL, .of ⟨?_, .inr ⟨g, cap, cur', by rw [hv]; simp, Nat.zero_le _, hBlk.setRow_ _, by simpa using hcap, hmax, by rw [hcs]; exact hsz, ?_⟩⟩ hem, ⟨?_, ?_⟩, fun r' hr' => ?_, hnew⟩
      · have := hown.1
        simp
        omega
      · rw [List.length_set, ← hcur, ← htake, hfl]
        exact over_take (by omega) (by
          have : rows.length * k ≤ cap * k := Nat.mul_le_mul_right k hcap
          have e3 : ({ toList := rows } : Array (List F)).size = rows.length := rfl
          refine Nat.le_trans this ?_
          have h9 : cur.toList.length = cap * k := hsz
          rw [h9]; exact Nat.le_refl _)
      · rw [flat_over ho rows n r hk hn]
        simp [-List.length_flatten]
        omega
      · intro j y u hy hu
        rw [flat_over ho rows n r hk hn] at hy
        exact hov2 j y u hy hu
      · rcases List.mem_or_eq_of_mem_set hr' with h1 | rfl
        · exact hk _ h1
        · have := hk _ (List.mem_of_getElem? hn)
          simp
          omega
    · rw [if_neg hca] at hc
      obtain ⟨v1, us1, q1, q2, q3, q4, q5⟩ := hs.arr _ _ _ _ hc
      exact ⟨v1, us1, q1, ownA_keep q2 fun b hb' => hot b fun e => hca (hs.ai c ar v1 v g q1 hL (e ▸ hb') hov), ⟨q3.1, fun j y u hy hu => (q3.2 j y u hy hu).mono hmem fun _ h => h⟩, q4, q5⟩
  · have hc : (if c = ar then some (e, k, rows.set n (r.take off ++ fs ++ r.drop (off + fs.length))) else S.arrs c) = none := hc
    by_cases hca : c = ar
    · rw [if_pos hca] at hc; cases hc
    · rw [if_neg hca] at hc; exact hs.an c hc
theorem step_elt (hT : ∀ t y, T t = some y → TyOk P t y) {o : Oper} {p : Prop} {c : Nat} {e : TypeId} {k : Nat} {rows : List (List F)} {rn : List Nat} {S : St} {E : Env} {act : Act} {w : World} (h : effd P T S o.op = some (p, .elt c e k rows, rn)) (hp : p) (hd : o.dst = none) (hs : Sim X w0 N S E act w)
    {K : Act → World → Prop} {Q : Exit → Act → World → Prop} (hK : ∀ E' a' w', Sim X w0 N ⟨S.slots, S.blks, fun x => if x = c then some (e, k, rows) else S.arrs x⟩ E' a' w' → K a' w') : o.wp P act w K Q := by
  have key : ∃ w', (execOp act.eval o).run P w = .ok .skip w' ∧ Sim X w0 N ⟨S.slots, S.blks, fun x => if x = c then some (e, k, rows) else S.arrs x⟩ E act w' := by
    obtain ⟨dst, op, type, pos, after, guard⟩ := o
    simp only at h ⊢
    unfold effd at h
    split at h
    case h_20 t x v =>
      split at h
      · split at h <;> cases h
      · rename_i y ar k0 i off vs hy hx hv
        split at h <;> cases h
        rename_i k' rows0 fs hfz hb
        have hok := hT _ _ hy
        obtain ⟨rfl, hi, hoff, hfl⟩ := hp
        have hx' := hx ▸ hs.ev x
        generalize hu : act.eval x = u at hx'
        cases hx' with
        | @el _ _ _ _ n cap ad hL =>
          have hv' := vcells_ok (hs.ev v) hv
          obtain ⟨hrf, hcs⟩ := frz_ok hfz hv'
          have hvl : (act.eval v).cells.toList.length = y.k := by rw [← hrf.1, hfl]
          have hrow : rows0[i]? = some (rows0.getD i []) := by rw [List.getD_eq_getElem?_getD, List.getElem?_eq_getElem hi]; rfl
          obtain ⟨g, cap', cur, hL', hB, hlt, hsim⟩ := hs.overArr hb (by obtain ⟨v1, u1, q1, q2, _⟩ := hs.arr _ _ _ _ hb; rw [hL] at q1; cases q1; exact q2.sl.1) hrow (off := off) (fs := fs) (by omega) hrf
          have hL2 := hL'
          rw [hL] at hL2
          cases hL2
          rw [hfl] at hlt hsim
          have hr := run_storeVar_at (P := P) w g (i * k' + off) y.k e t cur (act.eval v).cells hB hok.size (by simpa using hvl) (by omega) (one_all hv')
          refine ⟨_, ?_, hsim⟩
          have hr2 : (storeVar t ⟨g, i * k' + off, none⟩ (act.eval v)).run P w = _ := hr
          have e0 : (⟨g, 0, none⟩ : Addr).add (i * k' + off) = ⟨g, i * k' + off, none⟩ := by rw [add_plain, Nat.zero_add]
          simp [execOp, Instr.storeAt, Instr.sureAddr, hu, e0, hr2]
      · cases h
    all_goals (repeat' (first | (cases h; done) | split at h))
  obtain ⟨w', hx, hs'⟩ := key
  unfold Oper.wp
  rw [hx]
  show K (act.put o.dst undef) _
  rw [hd]
  exact hK _ _ _ hs'
theorem eff3_ok (hT : ∀ t y, T t = some y → TyOk P t y) {o : Oper} {S : St} {E : Env} {act : Act} {w : World} (h : eff3 P T o.dst o.op K S) (hs : Sim X w0 N S E act w) (hd : ∀ t, o.dst = some t → t < N)
    {K' : Act → World → Prop} {Q : Exit → Act → World → Prop} (hK : ∀ S' E' a' w', K S' → Sim X w0 N S' E' a' w' → K' a' w') : o.wp P act w K' Q := by
  unfold eff3 at h
  split at h
  · rename_i p v rn he
    exact step_put hT he h.1 hs hd fun E' a' w' h' => hK _ _ _ _ (kput_iff.1 h.2) h'
  · rename_i p e cs rn he
    split at h
    · rename_i d hdd
      obtain ⟨vs, h1, h2⟩ := exec_box hT he hs
      exact step_box hdd (hd d hdd) h.2.1 hs h1 h2 fun E' a' w' h' => hK _ _ _ _ h.2.2 h'
    · exact h.elim
  · rename_i p b e cs rn he
    obtain ⟨cs0, gg, vs, h1, h2, h3, h4⟩ := exec_store hT he h.2.1 hs
    exact step_store h.1 h1 h2 hs h3 h4 fun E' a' w' h' => hK _ _ _ _ h.2.2 h'
  · rename_i p e k rows rn he
    exact step_mk hT he h.1 hs hd fun E' a' w' h' => hK _ _ _ _ h.2 h'
  · rename_i p ko e k rows rn he
    split at h
    · rename_i d hdd
      exact step_app' hT he h.1 hdd (hd d hdd) h.2.1 hs fun E' a' w' h' => hK _ _ _ _ h.2.2 h'
    · exact h.elim
  · rename_i p c e k rows rn he
    exact step_elt hT he h.2.1 h.1 hs fun E' a' w' h' => hK _ _ _ _ h.2.2 h'
  · exact h.elim
theorem eff3_nd {d : Option Nat} {op : Op} {S : St} (h : eff3 P T d op K S) : ∀ c, op ≠ .defer c := fun c e => by
  subst e
  simp [eff3, effd] at h
theorem exU_ok (hT : ∀ t y, T t = some y → TyOk P t y) (hd : ∀ (i : Nat) (o : Oper), ops[i]? = some o → ∀ t, o.dst = some t → t < N) {Q : Exit → Act → World → Prop} (hK : ∀ S' E' a' w', K S' → Sim X w0 N S' E' a' w' → Q .normal a' w') :
    ∀ (m i : Nat) {S : St} {E : Env} {a : Act} {w : World}, exU P T X w0 N ops ((ops.toList.drop i).take m) K S → Sim X w0 N S E a w → wpOpsIn (rdF X.rd) 0 P ops Q ((List.range m).map (i + ·)) a w
  | 0, i, S, E, a, w, h, hs => hK _ _ _ _ h hs
  | m + 1, i, S, E, a, w, h, hs => by
    have e1 : (List.range (m + 1)).map (i + ·) = i :: (List.range m).map (i + 1 + ·) := by
      rw [List.range_succ_eq_map]
      simp [List.map_map, Function.comp_def, Nat.add_assoc, Nat.add_comm, Nat.add_left_comm]
    rw [e1, wpOpsIn_cons]
    unfold wpOpIn
    cases ho : ops[i]? with
    | none =>
      have hi : ops.size ≤ i := by simpa using ho
      rw [List.drop_eq_nil_of_le (by simpa using hi), List.take_nil] at h
      exact exU_ok hT hd hK m (i + 1) (by rw [List.drop_eq_nil_of_le (by simp; omega), List.take_nil]; exact h) hs
    | some o =>
      have hi : i < ops.toList.length := by simpa using (Array.getElem?_eq_some_iff.1 ho).1
      have hoi : ops.toList[i] = o := by simpa using (Array.getElem?_eq_some_iff.1 ho).2
      rw [List.drop_eq_getElem_cons hi, List.take_succ_cons, hoi] at h
      have h : gd2 (gdV S (gOf ops o.guard)) (RunU P T X w0 N o (exU P T X w0 N ops ((ops.toList.drop (i + 1)).take m) K)) (SkipB o.dst (exU P T X w0 N ops ((ops.toList.drop (i + 1)).take m) K)) S := h
      have hg : gOf ops o.guard = o.guard.map fun g => ((ops[g.1]?).bind (·.dst), g.2) := by cases o.guard <;> rfl
      have hyes : gdV S (gOf ops o.guard) = some true ∨ gdV S (gOf ops o.guard) = some false := by
        cases hq : gdV S (gOf ops o.guard) with
        | none => rw [hq] at h; exact h.elim
        | some v => cases v <;> simp
      rcases yield_ok hs hd (A := gdV S (gOf ops o.guard) = some true) (B := gdV S (gOf ops o.guard) = some false) (by rw [← hg]; exact V_gd (hyes.imp (fun h => ⟨h, h⟩) fun h => ⟨h, h⟩)) with ⟨hw, h1⟩ | ⟨hw, h1⟩
      · simp only [hw, if_true]
        rw [h1] at h
        have h : RunU P T X w0 N o (exU P T X w0 N ops ((ops.toList.drop (i + 1)).take m) K) S := h
        unfold RunU at h
        split at h
        · rename_i hst
          refine op_in (fun c hc => by rw [hc] at hst; cases hst) ?_
          exact h E a w hs (hd i o ho) _ _ fun S' E' a' w' hk h' => exU_ok hT hd hK m (i + 1) hk h'
        · refine op_in (eff3_nd h) ?_
          exact eff3_ok hT h hs (hd i o ho) fun S' E' a' w' h2 h3 => exU_ok hT hd hK m (i + 1) h2 h3
      · simp only [hw, Bool.false_eq_true, if_false]
        rw [h1] at h
        have h : exU P T X w0 N ops ((ops.toList.drop (i + 1)).take m) K ⟨putS S.slots o.dst .no, S.blks, S.arrs⟩ := h
        exact ⟨fun _ _ => trivial, exU_ok hT hd hK m (i + 1) h (hs.env .no undef .no o.dst (hd i o ho))⟩
theorem dw_rowU {id : Nat} {S : St} {R : St → Prop} {Q : Exit → St → Prop} (hT : ∀ t y, T t = some y → TyOk P t y) (hN : okN N ops = true) (h : exU P T X w0 N ops ops.toList R S) : DW P X w0 N (.region id ops false) (thenD R Q) S := fun E a w hs => by
  refine wpIn_region ?_
  have := exU_ok (Q := fun e a' w' => ∃ S' E', thenD R Q e S' ∧ Sim X w0 N S' E' a' w') hT (okN_ok hN) (fun S' E' _ _ hq hs => ⟨S', E', hq, hs⟩) ops.size 0 (by rw [List.drop_zero, List.take_of_length_le (by simp)]; exact h) hs
  have e0 : (List.range ops.size).map (0 + ·) = List.range ops.size := by simp
  rw [e0] at this
  exact this
/-! ### A drawn row whose last operation waits for all the others -/
def lastOk (ops : Array Oper) (n : Nat) : Bool := (List.range n).all fun i => ((msk ops.toList []).getD n 0).testBit i
theorem any_end {F : Fence} {Q : Exit → Act → World → Prop} {listed : Array Bool} {a : Act} {w : World} (hall : ∀ j, j < ops.size → listed.getD j false = true) (hq : Q .normal a w) : ∀ fuel, wpAnyIn F 0 P .any ops Q fuel listed a w := by
  have hno : ∀ i, i ∉ Region.ready .any ops listed := fun i hi => by
    obtain ⟨h1, o, ho, _⟩ := mem_ready.1 hi
    have hlt : i < ops.size := (Array.getElem?_eq_some_iff.1 ho).1
    have h2 := hall i hlt
    rcases Nat.lt_or_ge i listed.size with h3 | h3
    · rw [Array.getD_eq_getD_getElem?, Array.getElem?_eq_getElem h3] at h1 h2
      simp at h1 h2
      rw [h1] at h2
      cases h2
    · rw [Array.getD_eq_getD_getElem?, Array.getElem?_eq_none h3] at h2; cases h2
  intro fuel
  cases fuel with
  | zero => exact ⟨List.eq_nil_iff_forall_not_mem.2 hno, hq⟩
  | succ fuel => exact ⟨fun _ => hq, fun i hi => absurd hi (hno i)⟩
theorem draw_last (hT : ∀ t y, T t = some y → TyOk P t y) (hd : ∀ (i : Nat) (o : Oper), ops[i]? = some o → ∀ t, o.dst = some t → t < N) (hok : okD ops = true) {n : Nat} (hn : ops.size = n + 1) (hlast : lastOk ops n = true) {bx : List Nat} (hbx : ∀ (i : Nat) o d, ops[i]? = some o → isBox o.op = true → o.dst = some d → d ∈ bx) {rs : Nat → Ap} {rns : Nat → List Nat} {S0 : St}
    (hst : ∀ (i : Nat) o, i < n → ops[i]? = some o → StepR P T ops o (Sq rs (fun j => (ops[j]?).bind (·.dst)) S0 (fun _ => true) i) (rs i) (rns i) ∧ (isSt o.op = false → ∀ b ∈ rns i, b ∉ bx)) {Q : Exit → Act → World → Prop}
    (hQ : ∀ E a w (K : Act → World → Prop), (∀ a' w', Q .normal a' w' → K a' w') → Sim X w0 N (Sq rs (fun j => (ops[j]?).bind (·.dst)) S0 (fun _ => true) n) E a w → wpOpIn (rdF X.rd) 0 P ops Q n K a w) :
    ∀ (fuel : Nat) (listed : Array Bool) (E : Env) (a : Act) (w : World), listed.size = ops.size → listed.getD n false = false → listed.toList.countP id + fuel ≥ ops.size → Closed ops (fun j => listed.getD j false) →
      Sim X w0 N (Sq rs (fun j => (ops[j]?).bind (·.dst)) S0 (fun j => listed.getD j false) ops.size) E a w → wpAnyIn (rdF X.rd) 0 P .any ops Q fuel listed a w := by
  have hready : ∀ (listed : Array Bool), listed.size = ops.size → Region.ready .any ops listed = [] → ∀ j, j < ops.size → listed.getD j false = true := fun listed hsz hr j => by
    induction j using Nat.strongRecOn with
    | _ j ih =>
      intro hj
      cases hq : listed.getD j false with
      | true => rfl
      | false =>
        exfalso
        have hlt : j < listed.size := by omega
        have : j ∈ Region.ready .any ops listed := mem_ready.2 ⟨by
          rw [Array.getD_eq_getD_getElem?, Array.getElem?_eq_getElem hlt] at hq ⊢
          simpa using hq, ops[j], Array.getElem?_eq_getElem hj, fun e he hb => by
            have h1 := (okD_ok hok).1 j _ (Array.getElem?_eq_getElem hj) e (by simpa using he) hb
            exact ih e.on h1 (by omega)⟩
        rw [hr] at this
        cases this
  intro fuel
  induction fuel with
  | zero =>
    intro listed E a w hsz hno hcnt hcl hs
    exfalso
    have := count_all listed.toList (by rw [Array.length_toList, hsz]; omega) n (by simp [hsz]; omega)
    rw [Array.getElem?_toList] at this
    rw [Array.getD_eq_getD_getElem?, this] at hno
    cases hno
  | succ fuel ih =>
    intro listed E a w hsz hno hcnt hcl hs
    refine ⟨fun hr => absurd ((hready listed hsz hr n (by omega)).symm.trans hno) (by simp), fun i hi => ?_⟩
    obtain ⟨h1, o, ho, hpre⟩ := mem_ready.1 hi
    have hlt : i < ops.size := (Array.getElem?_eq_some_iff.1 ho).1
    have hlt' : i < listed.size := by omega
    have hif : listed.getD i false = false := by
      rw [Array.getD_eq_getD_getElem?, Array.getElem?_eq_getElem hlt'] at h1 ⊢
      simpa using h1
    have hset : ∀ j, j ≠ i → (listed.setIfInBounds i true).getD j false = listed.getD j false := fun j hj => by
      rw [Array.getD_eq_getD_getElem?, Array.getElem?_setIfInBounds_ne (by omega), ← Array.getD_eq_getD_getElem?]
    have hset' : (listed.setIfInBounds i true).getD i false = true := by
      rw [Array.getD_eq_getD_getElem?, Array.getElem?_setIfInBounds_self_of_lt hlt']; rfl
    have hcl' : Closed ops (fun j => (listed.setIfInBounds i true).getD j false) := by
      intro j oj hj hDj e he hb
      by_cases hji : j = i
      · subst hji
        rw [ho] at hj; cases hj
        by_cases h2 : e.on = j
        · rw [h2]; exact hset'
        · show (listed.setIfInBounds j true).getD e.on false = true
          rw [hset _ h2]; exact hpre e (by simpa using he) hb
      · have hDj : (listed.setIfInBounds i true).getD j false = true := hDj
        rw [hset _ hji] at hDj
        have h3 := hcl j oj hj hDj e he hb
        by_cases h2 : e.on = i
        · rw [h2]; exact hset'
        · show (listed.setIfInBounds i true).getD e.on false = true
          rw [hset _ h2]; exact h3
    rcases Nat.lt_or_ge i n with hin | hin
    · have hDm : ∀ j, listed.getD j false = true → j < n := fun j hj => by
        rcases Nat.lt_or_ge j n with h | h
        · exact h
        · rcases Nat.lt_or_ge j ops.size with h2 | h2
          · have : j = n := by omega
            subst this
            rw [hno] at hj; cases hj
          · rw [Array.getD_eq_getD_getElem?, Array.getElem?_eq_none (by omega)] at hj; cases hj
      obtain ⟨hstep, hnext⟩ := out_of_turn (D := fun j => listed.getD j false) (D' := fun j => (listed.setIfInBounds i true).getD j false) (m := n) hok hbx hst hcl ho hin hDm hif (fun e he hb => hpre e (by simpa using he) hb) hset' hset
      refine StepR_wpOp hT hd ho hstep hs fun E' a' w' hs' => ih _ E' a' w' (by simpa using hsz) (by rw [hset n (by omega)]; exact hno) ?_ hcl' (by rw [← hnext]; exact hs')
      rw [Array.toList_setIfInBounds, count_set _ _ (by
        rw [Array.getElem?_toList, Array.getElem?_eq_getElem hlt']
        rw [Array.getD_eq_getD_getElem?, Array.getElem?_eq_getElem hlt'] at hif
        simpa using hif)]
      omega
    · obtain rfl : i = n := by omega
      have hall : ∀ j, j < i → listed.getD j false = true := fun j hj => by
        have h3 := List.all_eq_true.1 hlast j (List.mem_range.2 hj)
        have h4 : (msk ops.toList [])[i]? = some ((msk ops.toList []).getD i 0) := by
          cases hq : (msk ops.toList [])[i]? with
          | none =>
            rw [List.getD_eq_getElem?_getD, hq] at h3
            simp at h3
          | some m => rw [List.getD_eq_getElem?_getD, hq]; rfl
        have := msk_ok (ops := ops) ops.toList [] [] (by simp) rfl (fun j m hj => by simp at hj) i _ h4 j h3 _ hcl' hset'
        rw [hset j (by omega)] at this
        exact this
      have key : ∀ m, m ≤ i → Sq rs (fun j => (ops[j]?).bind (·.dst)) S0 (fun j => listed.getD j false) m = Sq rs (fun j => (ops[j]?).bind (·.dst)) S0 (fun _ => true) m := by
        intro m
        induction m with
        | zero => intro _; rfl
        | succ m ih => intro hm; rw [Sq, Sq, ih (by omega), hall m (by omega)]
      rw [hn, Sq, hno, if_neg (by simp), key i (Nat.le_refl _)] at hs
      refine hQ E a w _ (fun a' w' hq => any_end (fun j hj => ?_) hq fuel) hs
      rcases Nat.lt_or_ge j i with h5 | h5
      · rw [hset j (by omega)]; exact hall j h5
      · obtain rfl : j = i := by omega
        exact hset'
theorem sq_ds {rs : Nat → Ap} {ds ds' : Nat → Option Nat} {S0 : St} {D : Nat → Bool} : ∀ n, (∀ j, j < n → ds j = ds' j) → Sq rs ds S0 D n = Sq rs ds' S0 D n
  | 0, _ => rfl
  | n + 1, h => by rw [Sq, Sq, sq_ds n fun j hj => h j (by omega), h n (by omega)]
def notDf : Op → Bool
  | .defer _ => false
  | _ => true
/-- a row whose order the tape draws; its last operation comes last -/
theorem dw_rowdl {id : Nat} {S : St} {R : St → Prop} {Q : Exit → St → Prop} (n : Nat) {o : Oper} (ho : ops[n]? = some o) (hn : ops.size = n + 1) (hg : o.guard = none) (bx : List Nat) (hT : ∀ t y, T t = some y → TyOk P t y) (hm : P.follows .mixedOrders = true) (hN : okN N ops = true) (hok : okD ops = true) (hlast : lastOk ops n = true) (hbx : boxes ops = bx)
    (h : exB P T ops bx (ops.toList.take n) (fun S' => Later (DOp P X w0 N o R) S') S) (hnd : notDf o.op = true := by rfl) : DW P X w0 N (.region id ops true) (thenD R Q) S := fun E a w hs => by
  obtain ⟨rs, rns, h1, h2⟩ := exD_run _ _ (exB_D _ _ h)
  have hlen : (ops.toList.take n).length = n := by rw [List.length_take, Array.length_toList]; omega
  have hds : ∀ m, m ≤ n → Sq rs (fun j => ((ops.toList.take n)[j]?).bind (·.dst)) S (fun _ => true) m = Sq rs (fun j => (ops[j]?).bind (·.dst)) S (fun _ => true) m := fun m hm => sq_ds m fun j hj => by
    rw [List.getElem?_take, if_pos (by omega), Array.getElem?_toList]
  rw [hlen, hds n (Nat.le_refl _)] at h2
  have h2 : DOp P X w0 N o R (Sq rs (fun j => (ops[j]?).bind (·.dst)) S (fun _ => true) n) := h2
  refine wpIn_region_any hm ?_
  have hbx' : ∀ (i : Nat) o d, ops[i]? = some o → isBox o.op = true → o.dst = some d → d ∈ bx := fun i o d ho hb hd => by
    rw [← hbx]
    refine List.mem_filterMap.2 ⟨o, ?_, by rw [if_pos hb, hd]⟩
    rw [← Array.getElem?_toList] at ho
    exact List.mem_of_getElem? ho
  have hfalse : (fun j => (Array.replicate ops.size false).getD j false) = fun _ => false := by
    funext j
    rw [Array.getD_eq_getD_getElem?, Array.getElem?_replicate]
    split <;> rfl
  have hSq : ∀ n, Sq rs (fun j => (ops[j]?).bind (·.dst)) S (fun _ => false) n = S := by
    intro n
    induction n with
    | zero => rfl
    | succ n ih => rw [Sq, ih]; rfl
  have hs' : Sim X w0 N S E a { w with drawn := w.drawn + 1 } := hs.grow (w' := { w with drawn := w.drawn + 1 }) ⟨rfl, rfl, rfl, Nat.le_refl _, fun _ _ => rfl⟩
  refine draw_last (rns := rns) (Q := fun e a' w' => ∃ S' E', thenD R Q e S' ∧ Sim X w0 N S' E' a' w') hT (okN_ok hN) hok hn hlast hbx' (fun i oi hi hoi => ?_) (fun E' a' w' K hK hs2 => ?_) ops.size _ E a _ (by simp) (by rw [congrFun hfalse n]) (by omega) ?_ (by rw [hfalse, hSq]; exact hs')
  · have := h1 i oi (by rw [List.getElem?_take, if_pos hi, Array.getElem?_toList]; exact hoi)
    rw [hds i (by omega)] at this
    exact this
  · unfold wpOpIn
    rw [ho]
    simp only
    rw [if_pos (wanted_none hg a')]
    exact op_in (fun c hc => by rw [hc] at hnd; cases hnd) (h2 E' a' w' hs2 (okN_ok hN n o ho) K _ fun S' E'' a'' w'' hR hs3 => hK _ _ ⟨S', E'', hR, hs3⟩)
  · rw [hfalse]
    intro j o _ h
    cases h
end

section
variable {P : Program} {X : Fr} {w0 : World} {N : Nat} {S : St} {T : Nat → Option Ty} {Q : Exit → St → Prop}
theorem dw_cond_t {c : Operand} {x y : Code} (hc : ev S c = .c (.f (.s (.bool true)))) (h : DW P X w0 N x Q S) : DW P X w0 N (.cond c x y) Q S := dw_cond hc (fun _ => h) fun h => by cases h
theorem dw_cond_f {c : Operand} {x y : Code} (hc : ev S c = .c (.f (.s (.bool false)))) (h : DW P X w0 N y Q S) : DW P X w0 N (.cond c x y) Q S := dw_cond hc (fun h => by cases h) fun _ => h
theorem wrap_nat {n : Nat} (h : n + 1 < 9223372036854775808) : IntKind.i64.wrap ((n : Int) + 1) = ((n + 1 : Nat) : Int) := by rw [IntKind.wrap_i64]; omega
def rangeQ (id tI t2 : Nat) (ik : IntKind) (k : Nat) (X : Fr) (I : St → Prop) (Q : Exit → St → Prop) : Exit → St → Prop
  | .normal, S => S.slots tI = .c (.f (.s (.int ik k))) ∧ I ⟨upd (upd S.slots t2 (.c (.f (.s (.int ik (k + 1 : Nat)))))) tI (.c (.f (.s (.int ik (k + 1 : Nat))))), S.blks, S.arrs⟩
  | .exit i, S => if i = id then Q .normal S else Q (.exit i) S
  | e, S => Q e S
/-- a range over a slice, or over a number -/
theorem dw_range {ι : Type} (n : Nat) (I : Nat → ι → St) (J : Nat → ι → Prop) (x0 : ι) {id r1 r2 tI tN tC t2 : Nat} {ty ty2 y1 y2 y3 : TypeId} {p1 p2 p3 : String} {a1 a2 a3 : Array Edge} {B : Code}
    (hn : n < 9223372036854775807) (hT : ∀ t y, T t = some y → TyOk P t y) (hN : tC < N ∧ t2 < N ∧ tI < N)
    (hI : ∀ k x, (I k x).slots tI = .c (.f (.s (.int .i64 k))) ∧ (I k x).slots tN = .c (.f (.s (.int .i64 n))))
    (h0 : Weak X S (I 0 x0)) (hJ : J 0 x0)
    (hB : ∀ k x, J k x → k < n → DW P X w0 N B (rangeQ id tI t2 .i64 k X (fun S' => ∃ x', J (k + 1) x' ∧ Weak X S' (I (k + 1) x')) Q) ⟨upd (I k x).slots tC (.c (.f (.s (.bool true)))), (I k x).blks, (I k x).arrs⟩)
    (hE : ∀ x, J n x → Q .normal ⟨upd (I n x).slots tC (.c (.f (.s (.bool false)))), (I n x).blks, (I n x).arrs⟩) :
    DW P X w0 N (.block id (.loop (.seq (.region r1 #[⟨some tC, .binOp .lss ty (.tmp tI) (.tmp tN) ty2, y1, p1, a1, none⟩] false) (.seq (.cond (.tmp tC) .skip (.exit id)) (.seq B (.region r2 #[⟨some t2, .binOp .add ty (.tmp tI) (.const (.int .i64 1)) ty2, y2, p2, a2, none⟩, ⟨some tI, .move (.tmp t2), y3, p3, a3, none⟩] false)))))) Q S := by
  have okN1 : okN N #[⟨some tC, .binOp .lss ty (.tmp tI) (.tmp tN) ty2, y1, p1, a1, none⟩] = true := by simp [okN, hN.1]
  have okN2 : okN N #[⟨some t2, .binOp .add ty (.tmp tI) (.const (.int .i64 1)) ty2, y2, p2, a2, none⟩, ⟨some tI, .move (.tmp t2), y3, p3, a3, none⟩] = true := by simp [okN, hN.2]
  refine dw_block ?_
  refine dw_loop (ι := {x : Nat × ι // x.1 ≤ n ∧ J x.1 x.2}) (fun x => I x.1.1 x.1.2) (fun x => n - x.1.1) ⟨(0, x0), Nat.zero_le _, hJ⟩ h0 ?_
  rintro ⟨⟨k, x⟩, hk, hJk⟩
  simp only at hk hJk ⊢
  obtain ⟨h1, h2⟩ := hI k x
  have hB := hB k x hJk
  have hE : n = k → Q .normal ⟨upd (I k x).slots tC (.c (.f (.s (.bool false)))), (I k x).blks, (I k x).arrs⟩ := fun e => by subst e; exact hE x hJk
  generalize I k x = S0 at h1 h2 hB hE
  obtain ⟨s, b, ar⟩ := S0
  simp only at h1 h2 hB hE
  refine dw_seq_k fun R hR => ?_
  refine dw_rowU hT okN1 ?_
  show exU P T X w0 N _ [_] R ⟨s, b, ar⟩
  rw [exU_cons]
  simp only [gOf, gdV, gd2_t]
  rw [RunU_eq]
  simp only [stops, eff3, effd, ev, h1, h2, bin, if_true, true_and, kput_iff, exU_nil, putS]
  refine hR _ ?_
  rcases Nat.lt_or_ge k n with hlt | hge
  · have hc : decide ((k : Int) < (n : Int)) = true := by simpa using hlt
    rw [hc]
    refine dw_seq ?_
    refine dw_cond_t (by simp [ev, upd]) ?_
    refine dw_skip ?_
    simp only [thenD]
    refine dw_seq ?_
    refine dw_mono (hB hlt) fun e S' hq => ?_
    cases e with
    | normal =>
      obtain ⟨q1, x', hJ', hw⟩ := hq
      simp only [thenD]
      refine dw_norm ?_
      refine dw_rowU hT okN2 ?_
      obtain ⟨s', b', ar'⟩ := S'
      simp only at q1 hw
      show exU P T X w0 N _ [_, _] _ ⟨s', b', ar'⟩
      rw [exU_cons]
      simp only [gOf, gdV, gd2_t]
      rw [RunU_eq]
      have hwr : (IntKind.i64).wrap ((k : Int) + 1) = ((k + 1 : Nat) : Int) := by
        have := wrap_nat (n := k) (by omega)
        simpa using this
      simp only [stops, eff3, effd, ev, q1, cv, bin, if_true, true_and, kput_iff, putS, hwr]
      rw [exU_cons]
      simp only [gOf, gdV, gd2_t]
      rw [RunU_eq]
      simp only [stops, eff3, effd, ev, true_and, kput_iff, putS, upd_same, exU_nil]
      exact ⟨⟨(k + 1, x'), hlt, hJ'⟩, by simp only; omega, hw⟩
    | exit i =>
      simp only [rangeQ] at hq
      simp only [thenD, inBlockD]
      exact hq
    | _ => exact hq
  · have hc : decide ((k : Int) < (n : Int)) = false := by simpa using hge
    rw [hc]
    refine dw_seq ?_
    refine dw_cond_f (by simp [ev, upd]) ?_
    refine dw_exit ?_
    simp only [thenD, inBlockD, if_true]
    exact hE (by omega)
theorem dw_isrange {id r1 r2 tI tN tC t2 : Nat} {ty ty2 y1 y2 y3 : TypeId} {p1 p2 p3 : String} {a1 a2 a3 : Array Edge} {B : Code}
    (h : DW P X w0 N (.block id (.loop (.seq (.region r1 #[⟨some tC, .binOp .lss ty (.tmp tI) (.tmp tN) ty2, y1, p1, a1, none⟩] false) (.seq (.cond (.tmp tC) .skip (.exit id)) (.seq B (.region r2 #[⟨some t2, .binOp .add ty (.tmp tI) (.const (.int .i64 1)) ty2, y2, p2, a2, none⟩, ⟨some tI, .move (.tmp t2), y3, p3, a3, none⟩] false)))))) Q S) :
    DW P X w0 N (.block id (.loop (.seq (.region r1 #[⟨some tC, .binOp .lss ty (.tmp tI) (.tmp tN) ty2, y1, p1, a1, none⟩] false) (.seq (.cond (.tmp tC) .skip (.exit id)) (.seq B (.region r2 #[⟨some t2, .binOp .add ty (.tmp tI) (.const (.int .i64 1)) ty2, y2, p2, a2, none⟩, ⟨some tI, .move (.tmp t2), y3, p3, a3, none⟩] false)))))) Q S := h
end
end Go.Dl
