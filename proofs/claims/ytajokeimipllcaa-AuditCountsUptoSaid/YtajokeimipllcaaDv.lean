/-
  The logic on data: own arrays are lent to a call that answers with plain values, several perhaps.
-/
import Derived.Test.YtajokeimipllcaaDt
set_option linter.unusedSimpArgs false
set_option linter.unusedVariables false
namespace Go.Dl
open Go.Ed Go.RowKit
def plainC : C → Bool
  | .f (.s _) => true
  | _ => false
def plainV : V → Bool
  | .c x => plainC x
  | .agg xs => xs.all plainC
  | .tup xs => xs.all fun p => p.2.all plainC
  | _ => false
section
variable {P : Program} {X : Fr} {w0 w w' : World} {N : Nat} {S : St} {E E' : Env} {a : Act} {o : Oper} {K : St → Prop}
theorem plainC_env {x : C} {u : Value} (h : plainC x = true) (hr : RepC w E x u) : RepC w' E' x u := by
  cases x with
  | f x => cases x with
    | s v => cases hr with
      | f hr => cases hr with
        | s hr => exact .f (.s hr)
    | _ => cases h
  | _ => cases h
theorem plainCs_env {xs : List C} {us : List Value} (h : xs.all plainC = true) (hr : Reps w E xs us) : Reps w' E' xs us :=
  ⟨hr.1, fun j x u hx hu => plainC_env (List.all_eq_true.1 h x (List.mem_of_getElem? hx)) (hr.2 j x u hx hu)⟩
theorem plainV_env {x : V} {u : Value} (h : plainV x = true) (hr : RepV w E x u) : RepV w' E' x u := by
  cases x with
  | c x => cases hr with
    | c hr => exact .c (plainC_env h hr)
  | agg xs => cases hr with
    | agg hr => exact .agg (plainCs_env h hr)
  | tup xs => cases hr with
    | tup hl hr =>
      refine .tup hl fun j x u hx hu => ?_
      have h1 := List.all_eq_true.1 h x (List.mem_of_getElem? hx)
      have h2 := hr j x u hx hu
      obtain ⟨b, cs⟩ := x
      cases b
      · obtain ⟨y, e, h3⟩ := h2
        subst e
        exact ⟨y, rfl, plainC_env (by simpa using h1) h3⟩
      · obtain ⟨vs, e, h3⟩ := h2
        exact ⟨vs, e, plainCs_env h1 h3⟩
  | _ => cases h
theorem step_lendV {c : Call} {f : FuncId} {vs0 : List V} {r : V} (hop : o.op = .call c) (hf : c.callee = .value (.func f)) (hb : HasBody P f) (hc : CallD P f vs0 r) (hpl : plainV r = true) (ha : vlesL S.arrs (c.args.toList.map (ev S)) vs0) (hs : Sim X w0 N S E a w) (hd : ∀ t, o.dst = some t → t < N)
    {K : Act → World → Prop} {Q : Exit → Act → World → Prop} (hK : ∀ E' a' w', Sim X w0 N { S with slots := putS S.slots o.dst r } E' a' w' → K a' w') : o.wp P a w K Q := by
  obtain ⟨fn, hfn, hbody, hnm⟩ := hb
  obtain ⟨hl, hv⟩ := vlesL_ok hs ha
  have hx : (execOp a.eval o).run P w = .ok (.enter f (c.args.map a.eval)) w := by
    obtain ⟨callee, args, argTypes⟩ := c
    simp only at hf
    subst hf
    have h1 : fn.body ≠ none := fun h => by simp [h] at hbody
    have h2 : fn.name ≠ "runtime.NumGoroutine" := by simpa using hnm
    simp [execOp, hop, resolve, invoke, Act.eval, Deferred.ofValue, callFunc, hfn, h1, h2]
  unfold Oper.wp
  rw [hx]
  refine Calls.mono (hc w (c.args.map a.eval) (lent S E) (fun b hb => hb.elim (hs.il b) fun ⟨c, v, h1, h2⟩ => (hs.al c v b h1 h2).1) (by rw [← hl]; simp) fun j v u h1 h2 => hv j v u h1 fun x hx => ?_) ?_
  · rw [List.getElem?_map] at hx
    rw [Array.getElem?_map] at h2
    cases hq : c.args[j]? with
    | none => simp [hq] at h2
    | some q =>
      simp [hq] at h2
      rw [show c.args.toList[j]? = some q by simpa using hq] at hx
      cases hx
      subst h2
      exact hs.ev q
  · rintro e w' ⟨u, I', rfl, hr, hbel, hI, hI'⟩
    have h := hs.grow hbel
    exact hK _ _ _ (h.env _ u (plainV_env hpl hr) o.dst hd)
/-- own arrays are lent; the answer is plain values -/
theorem dop_lendV {c : Call} {f : FuncId} (hop : o.op = .call c) (hf : c.callee = .value (.func f)) {vs0 : List V} {r : V} (hc : CallC P f vs0 r) (hpl : plainV r = true) (ha : vlesL S.arrs (c.args.toList.map (ev S)) vs0) (hK : K ⟨putS S.slots o.dst r, S.blks, S.arrs⟩) : DOp P X w0 N o K S :=
  fun E a w hs hd K' Q h => step_lendV hop hf hc.1 hc.2 hpl ha hs hd fun E' a' w' h' => h _ _ _ _ hK h'
end
attribute [simp] List.lookup_cons List.lookup_nil
end Go.Dl
