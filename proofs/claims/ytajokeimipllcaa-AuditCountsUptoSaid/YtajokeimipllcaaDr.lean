/-
  The logic on data: in a row, the literal of one element is an array of the call's own; pointers are held against nil.
-/
import Derived.Test.YtajokeimipllcaaDz
import Derived.Laws.Pointers
set_option linter.unusedSimpArgs false
set_option linter.unusedVariables false
namespace Go.Dl
open Go.Ed Go.RowKit
def isLit : Op → Bool
  | .buildSlice _ n _ => match n with
    | 1 => true
    | _ => false
  | _ => false
def effL (x : Option Out) (dst : Option Nat) (K : St → Prop) (S : St) : Prop := match x with
  | some (p, .mk e k rows, _) => match dst with
    | some d => p ∧ S.arrs d = none ∧ e < 1000000 ∧ K ⟨upd S.slots d (.c (.o d)), S.blks, fun c => if c = d then some (e, k, rows) else S.arrs c⟩
    | none => False
  | _ => False
theorem effL_congr {x x' : Option Out} {dst : Option Nat} {K : St → Prop} {S : St} (h : x = x') : effL x dst K S = effL x' dst K S := h ▸ rfl
attribute [congr] effL_congr
def isPtr : Op → Bool
  | .binOp .eql _ _ (.const (.pointer none)) _ => true
  | _ => false
def RunV (lt : Bool) (P : Program) (T : Nat → Option Ty) (X : Fr) (w0 : World) (N : Nat) (o : Oper) (K : St → Prop) (S : St) : Prop := match lt && isLit o.op with
  | true => effL (effd P T S o.op) o.dst K S
  | false => match isPtr o.op with
    | true => DOp P X w0 N o K S
    | false => RunU P T X w0 N o K S
def exV (lt : Bool) (P : Program) (T : Nat → Option Ty) (X : Fr) (w0 : World) (N : Nat) (ops : Array Oper) : List Oper → (St → Prop) → St → Prop
  | [], K, S => K S
  | o :: os, K, S => gd2 (gdV S (gOf ops o.guard)) (RunV lt P T X w0 N o (exV lt P T X w0 N ops os K)) (SkipB o.dst (exV lt P T X w0 N ops os K)) S
/-- is it nil? -/
def ptrN : V → Option Bool
  | .rd _ => some false
  | .loc _ _ => some false
  | .el _ _ _ _ => some false
  | .c (.f (.s (.pointer none))) => some true
  | _ => none
section
variable {lt : Bool} {P : Program} {T : Nat → Option Ty} {ops : Array Oper} {K : St → Prop} {X : Fr} {w0 : World} {N : Nat} {s : Nat → V} {b : Nat → Option (TypeId × List C)} {a : Nat → Option (TypeId × Nat × List (List F))}
theorem exV_nil : exV lt P T X w0 N ops [] K ⟨s, b, a⟩ = K ⟨s, b, a⟩ := rfl
theorem exV_cons {o : Oper} {os : List Oper} : exV lt P T X w0 N ops (o :: os) K ⟨s, b, a⟩ = gd2 (gdV ⟨s, b, a⟩ (gOf ops o.guard)) (RunV lt P T X w0 N o (exV lt P T X w0 N ops os K)) (SkipB o.dst (exV lt P T X w0 N ops os K)) ⟨s, b, a⟩ := rfl
theorem RunV_2 {o : Oper} : RunV lt P T X w0 N o K ⟨s, b, a⟩ = gd2 (some (lt && isLit o.op)) (effL (effd P T ⟨s, b, a⟩ o.op) o.dst K) (gd2 (some (isPtr o.op)) (DOp P X w0 N o K) (RunU P T X w0 N o K)) ⟨s, b, a⟩ := by
  unfold RunV
  cases lt && isLit o.op <;> cases isPtr o.op <;> rfl
theorem effL_mk {p : Prop} {rn : List Nat} {e : TypeId} {k : Nat} {rows : List (List F)} {d : Nat} : effL (some (p, .mk e k rows, rn)) (some d) K ⟨s, b, a⟩ = (p ∧ a d = none ∧ e < 1000000 ∧ K ⟨upd s d (.c (.o d)), b, fun c => if c = d then some (e, k, rows) else a c⟩) := rfl
attribute [push_cast] exV_nil exV_cons RunV_2 effL_mk isLit isPtr Bool.false_and Bool.true_and
theorem step_lit {S : St} {E : Env} {act : Act} {w : World} (hT : ∀ t y, T t = some y → TyOk P t y) {o : Oper} {p : Prop} {e : TypeId} {k : Nat} {rows : List (List F)} {rn : List Nat} (h : effd P T S o.op = some (p, .mk e k rows, rn)) (hp : p) {d : Nat} (hd0 : o.dst = some d) (hfree : S.arrs d = none) (hem : e < 1000000) (hs : Sim X w0 N S E act w) (hd : ∀ t, o.dst = some t → t < N)
    {K : Act → World → Prop} {Q : Exit → Act → World → Prop} (hK : ∀ E' a' w', Sim X w0 N ⟨upd S.slots d (.c (.o d)), S.blks, fun c => if c = d then some (e, k, rows) else S.arrs c⟩ E' a' w' → K a' w') : o.wp P act w K Q := by
  obtain ⟨r, vs, rfl, hrk, hr, hx⟩ := exec_mk hT h hp hs
  unfold Oper.wp
  rw [hx]
  have hbel : Below w.heap.size w (w.alloc (.cells vs e)) := (Below.refl _ w).alloc (Nat.le_refl _) _
  have hvs : vs.size = k := by have := hr.1; simp only [Array.length_toList] at this; omega
  have hown : (w.alloc (.cells vs e)).ownsRow w.heap.size e k (.slice (some ⟨w.heap.size, 0, none⟩) 1 1) [r].length vs.toList := ⟨by simp [hvs], .inr ⟨_, 1, vs, rfl, Nat.le_refl _, heap_alloc_new _ _, Nat.le_refl _, by unfold maxLen; omega, by simp [hvs], by rw [List.take_of_length_le]; simp [hvs]⟩⟩
  have hmem : ∀ b, E.I b → (w.alloc (.cells vs e)).heap[b]? = w.heap[b]? := fun b hb => hbel.block b (hs.il b hb)
  have hrep : RepFs (w.alloc (.cells vs e)) E.I [r].flatten vs.toList := ⟨by simpa using hr.1, fun j x u hx hu => by
    have hx : r[j]? = some x := by simpa using hx
    exact (hr.2 j x u hx hu).mono hmem fun _ h => h⟩
  obtain ⟨E', hL, hs'⟩ := hs.newArr (e := e) (k := k) (rows := [r]) hbel hfree (.of hown hem) hrep (fun q hq => by rw [List.mem_singleton.1 hq]; exact hrk)
  have := hs'.env (.c (.o d)) (.slice (some ⟨w.heap.size, 0, none⟩) 1 1) (.c (.o hL rfl)) o.dst hd
  rw [hd0] at this
  show K (act.put o.dst _) _
  rw [hd0]
  exact hK _ _ _ this
theorem effL_nd {d : Option Nat} {op : Op} {S : St} (h : effL (effd P T S op) d K S) : ∀ c, op ≠ .defer c := fun c e => by
  subst e
  simp [effL, effd] at h
theorem RunU_nd {o : Oper} {S : St} (h : RunU P T X w0 N o K S) : ∀ c, o.op ≠ .defer c := fun c hc => by
  unfold RunU at h
  split at h
  · rename_i hst; rw [hc] at hst; cases hst
  · exact eff3_nd h c hc
theorem RunU_step {S : St} {E : Env} {act : Act} {w : World} (hT : ∀ t y, T t = some y → TyOk P t y) {o : Oper} (h : RunU P T X w0 N o K S) (hs : Sim X w0 N S E act w) (hd : ∀ t, o.dst = some t → t < N)
    {K' : Act → World → Prop} {Q : Exit → Act → World → Prop} (hK : ∀ S' E' a' w', K S' → Sim X w0 N S' E' a' w' → K' a' w') : o.wp P act w K' Q := by
  unfold RunU at h
  split at h
  · exact h E act w hs hd _ _ fun S' E' a' w' hk h' => hK S' E' a' w' hk h'
  · exact eff3_ok hT h hs hd fun S' E' a' w' h2 h3 => hK S' E' a' w' h2 h3
theorem exV_ok (hT : ∀ t y, T t = some y → TyOk P t y) (hd : ∀ (i : Nat) (o : Oper), ops[i]? = some o → ∀ t, o.dst = some t → t < N) {Q : Exit → Act → World → Prop} (hK : ∀ S' E' a' w', K S' → Sim X w0 N S' E' a' w' → Q .normal a' w') :
    ∀ (m i : Nat) {S : St} {E : Env} {a : Act} {w : World}, exV lt P T X w0 N ops ((ops.toList.drop i).take m) K S → Sim X w0 N S E a w → wpOpsIn (rdF X.rd) 0 P ops Q ((List.range m).map (i + ·)) a w
  | 0, i, S, E, a, w, h, hs => hK _ _ _ _ h hs
  | m + 1, i, S, E, a, w, h, hs => by
    have e1 : (List.range (m + 1)).map (i + ·) = i :: (List.range m).map (i + 1 + ·) := by
      rw [List.range_succ_eq_map]
      simp [List.map_map, Function.comp_def, Nat.add_assoc, Nat.add_comm, Nat.add_left_comm]
    rw [e1, wpOpsIn_cons]
    unfold wpOpIn
    cases ho : ops[i]? with
    | none =>
      have hi : ops.size ≤ i := by simpa using ho
      rw [List.drop_eq_nil_of_le (by simpa using hi), List.take_nil] at h
      exact exV_ok hT hd hK m (i + 1) (by rw [List.drop_eq_nil_of_le (by simp; omega), List.take_nil]; exact h) hs
    | some o =>
      have hi : i < ops.toList.length := by simpa using (Array.getElem?_eq_some_iff.1 ho).1
      have hoi : ops.toList[i] = o := by simpa using (Array.getElem?_eq_some_iff.1 ho).2
      rw [List.drop_eq_getElem_cons hi, List.take_succ_cons, hoi] at h
      have h : gd2 (gdV S (gOf ops o.guard)) (RunV lt P T X w0 N o (exV lt P T X w0 N ops ((ops.toList.drop (i + 1)).take m) K)) (SkipB o.dst (exV lt P T X w0 N ops ((ops.toList.drop (i + 1)).take m) K)) S := h
      have hg : gOf ops o.guard = o.guard.map fun g => ((ops[g.1]?).bind (·.dst), g.2) := by cases o.guard <;> rfl
      have hyes : gdV S (gOf ops o.guard) = some true ∨ gdV S (gOf ops o.guard) = some false := by
        cases hq : gdV S (gOf ops o.guard) with
        | none => rw [hq] at h; exact h.elim
        | some v => cases v <;> simp
      rcases yield_ok hs hd (A := gdV S (gOf ops o.guard) = some true) (B := gdV S (gOf ops o.guard) = some false) (by rw [← hg]; exact V_gd (hyes.imp (fun h => ⟨h, h⟩) fun h => ⟨h, h⟩)) with ⟨hw, h1⟩ | ⟨hw, h1⟩
      · simp only [hw, if_true]
        rw [h1] at h
        have h : RunV lt P T X w0 N o (exV lt P T X w0 N ops ((ops.toList.drop (i + 1)).take m) K) S := h
        unfold RunV at h
        split at h
        · refine op_in (effL_nd h) ?_
          unfold effL at h
          split at h
          · rename_i p e k rows rn he
            split at h
            · rename_i d hdd
              exact step_lit hT he h.1 hdd h.2.1 h.2.2.1 hs (hd i o ho) fun E' a' w' h' => exV_ok hT hd hK m (i + 1) h.2.2.2 h'
            · exact h.elim
          · exact h.elim
        · split at h
          · rename_i hst
            refine op_in (fun c hc => by rw [hc] at hst; cases hst) ?_
            exact h E a w hs (hd i o ho) _ _ fun S' E' a' w' hk h' => exV_ok hT hd hK m (i + 1) hk h'
          · exact op_in (RunU_nd h) (RunU_step hT h hs (hd i o ho) fun S' E' a' w' h2 h3 => exV_ok hT hd hK m (i + 1) h2 h3)
      · simp only [hw, Bool.false_eq_true, if_false]
        rw [h1] at h
        have h : exV lt P T X w0 N ops ((ops.toList.drop (i + 1)).take m) K ⟨putS S.slots o.dst .no, S.blks, S.arrs⟩ := h
        exact ⟨fun _ _ => trivial, exV_ok hT hd hK m (i + 1) h (hs.env .no undef .no o.dst (hd i o ho))⟩
/-- a pointer is held against nil -/
theorem dop_eqptr {S : St} {o : Oper} {t yt te : TypeId} {x : Operand} (hop : o.op = .binOp .eql t x (.const (.pointer none)) yt) (hp : P.underlying t = some (.pointer te)) {r : Bool} (hx : ptrN (ev S x) = some r)
    (hK : K ⟨putS S.slots o.dst (.c (.f (.s (.bool r)))), S.blks, S.arrs⟩) : DOp P X w0 N o K S := fun E a w hs hd K' Q h => by
  have hx' := hs.ev x
  have key : ∃ p : Option Addr, a.eval x = .pointer p ∧ p.isNone = r := by
    generalize a.eval x = u at hx'
    cases hv : ev S x with
    | rd xs => rw [hv] at hx hx'; cases hx; cases hx'; exact ⟨_, rfl, rfl⟩
    | loc c off => rw [hv] at hx hx'; cases hx; cases hx'; exact ⟨_, rfl, rfl⟩
    | el c k i off => rw [hv] at hx hx'; cases hx; cases hx'; exact ⟨_, rfl, rfl⟩
    | c y =>
      rw [hv] at hx hx'
      cases y with
      | f y => cases y with
        | s v => cases v with
          | pointer p =>
            cases p with
            | none =>
              cases hx
              cases hx' with
              | c h => cases h with
                | f h => cases h; exact ⟨_, rfl, rfl⟩
            | some _ => cases hx
          | _ => cases hx
        | _ => cases hx
      | _ => cases hx
    | _ => rw [hv] at hx; cases hx
  obtain ⟨p, hv, rfl⟩ := key
  have hpt : P.underlying t = some (.pointer (P.pointee t)) := by rw [hp]; simp [Program.pointee, hp]
  have hr : (execOp a.eval o).run P w = .ok (.value (.bool p.isNone)) w := by
    have h2 := run_eql_pointer_nil (P := P) (w := w) t p hpt
    obtain ⟨dst, op, type, pos, after, guard⟩ := o
    simp only at hop
    subst hop
    exact exec_val (s := do eqGuard .eql t x (.const (.pointer none)) (.pointer p) (.pointer none); binOp .eql t (.pointer p) (.pointer none)) (by simp only [execOp, hv]; rfl) (by rw [eqGuard_at_pointer]; simp [h2])
  unfold Oper.wp
  rw [hr]
  exact h _ _ _ _ hK (hs.env (.c (.f (.s (.bool p.isNone)))) _ (.c (.f (.s rfl))) o.dst hd)
/-- an undrawn row, its literals of one element as arrays -/
theorem dw_rowV (lt : Bool) {id : Nat} {S : St} {R : St → Prop} {Q : Exit → St → Prop} (hT : ∀ t y, T t = some y → TyOk P t y) (hN : okN N ops = true) (h : exV lt P T X w0 N ops ops.toList R S) : DW P X w0 N (.region id ops false) (thenD R Q) S := fun E a w hs => by
  refine wpIn_region ?_
  have := exV_ok (Q := fun e a' w' => ∃ S' E', thenD R Q e S' ∧ Sim X w0 N S' E' a' w') hT (okN_ok hN) (fun S' E' _ _ hq hs => ⟨S', E', hq, hs⟩) ops.size 0 (by rw [List.drop_zero, List.take_of_length_le (by simp)]; exact h) hs
  have e0 : (List.range ops.size).map (0 + ·) = List.range ops.size := by simp
  rw [e0] at this
  exact this
end
end Go.Dl
