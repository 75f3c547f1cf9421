/-
  The logic on data: operations that leave memory alone; a load that is taken first; rows whose loads stop.
-/
import Derived.Test.YtajokeimipllcaaDg
set_option linter.unusedSimpArgs false
set_option linter.unusedVariables false
namespace Go.Dl
open Go.Ed Go.RowKit
/-! programs of operations that leave memory alone -/
inductive Cm {α : Type} : Sem α → Prop
  | pure (a : α) : Cm (.pure a)
  | load (m : Mode) (a : Addr) (k : Value → Sem α) (h : ∀ v, Cm (k v)) : Cm (.load m a k)
  | shape (r : Nat) (k : Option (TypeId × Nat) → Sem α) (h : ∀ v, Cm (k v)) : Cm (.shape r k)
  | program (k : Program → Sem α) (h : ∀ v, Cm (k v)) : Cm (.program k)
  | obj (r : Nat) (k : Obj → Sem α) (h : ∀ v, Cm (k v)) : Cm (.getObj r k)
  | halt (e : Halt) : Cm (.halt e)
theorem Cm.run {α : Type} {P : Program} {x : Sem α} (h : Cm x) : ∀ {w : World} {v : α} {w' : World}, x.run P w = .ok v w' → w' = w := by
  induction h with
  | pure a => intro w v w' e; cases e; rfl
  | load m a k h ih =>
    intro w v w' e
    unfold Sem.run at e
    split at e
    · exact ih _ e
    · split at e
      · exact ih _ e
      · cases e
  | shape r k h ih => intro w v w' e; exact ih _ e
  | program k h ih => intro w v w' e; exact ih _ e
  | obj r k h ih =>
    intro w v w' e
    unfold Sem.run at e
    split at e
    · cases e
    · exact ih _ e
    · cases e
  | halt e0 => intro w v w' e; cases e
theorem Cm.bind' {α β : Type} {x : Sem α} {f : α → Sem β} (h : Cm x) (hf : ∀ a, Cm (f a)) : Cm (x.bind f) := by
  induction h with
  | pure a => exact hf a
  | load m a k h ih => exact .load m a _ ih
  | shape r k h ih => exact .shape r _ ih
  | program k h ih => exact .program _ ih
  | obj r k h ih => exact .obj r _ ih
  | halt e => exact .halt e
theorem Cm.bind {α β : Type} {x : Sem α} {f : α → Sem β} (h : Cm x) (hf : ∀ a, Cm (f a)) : Cm (x >>= f) := Cm.bind' h hf
theorem Cm.ret {α : Type} (a : α) : Cm (Pure.pure a : Sem α) := .pure a
theorem Cm.stuck {α : Type} (s : String) : Cm (Go.stuck s : Sem α) := .halt _
theorem Cm.unsup {α : Type} (s : Unsupported) : Cm (Go.unsupported s : Sem α) := .halt _
theorem Cm.prog : Cm Go.program := .program _ fun _ => .pure _
theorem Cm.load1 (a : Addr) : Cm (Go.load a) := .load _ _ _ fun _ => .pure _
theorem Cm.typeInfo (t : TypeId) : Cm (Go.typeInfo t) := by
  unfold Go.typeInfo
  refine .bind .prog fun p => ?_
  split
  · exact .ret _
  · exact .stuck _
theorem Cm.under (t : TypeId) : Cm (Go.underlying t) := by
  unfold Go.underlying
  refine .bind .prog fun p => ?_
  split
  · exact .ret _
  · exact .stuck _
theorem Cm.isAgg (t : TypeId) : Cm (Go.isAgg t) := by
  unfold Go.isAgg
  refine .bind (.under _) fun p => ?_
  split <;> exact .ret _
theorem Cm.size (t : TypeId) : Cm (Go.sizeOf t) := .bind (.typeInfo _) fun _ => .ret _
theorem Cm.sure (v : Value) : Cm (Instr.sureAddr v) := by
  unfold Instr.sureAddr
  split
  · exact .ret _
  · exact .stuck _
theorem Cm.cells (a : Addr) : ∀ (n i : Nat) (acc : Array Value), Cm (loadCellsFrom a i n acc)
  | 0, i, acc => .ret _
  | n + 1, i, acc => .bind (.load1 _) fun v => Cm.cells a n (i + 1) _
theorem Cm.loadAt (t : TypeId) (v : Value) : Cm (Instr.loadAt t v) := by
  refine .bind (.sure _) fun a => .bind (.isAgg _) fun b => ?_
  split
  · exact .bind (.size _) fun n => .bind (.cells _ _ _ _) fun _ => .ret _
  · exact .load1 _
theorem Cm.part (t : TypeId) (cs : Array Value) (o : Nat) : Cm (Go.part t cs o) := by
  refine .bind (.isAgg _) fun b => ?_
  split
  · exact .bind (.size _) fun n => .ret _
  · split
    · exact .ret _
    · exact .stuck _
theorem Cm.blind : ∀ (l : List FieldStep) (t : TypeId) (x : Option Value), Cm (followBlind l t x)
  | [], t, x => .ret _
  | s :: rest, t, x => by
    unfold followBlind
    refine .bind (.under _) fun d => ?_
    split
    · split
      · split
        · exact .ret _
        · exact Cm.blind ..
        · exact .stuck _
        · exact .ret _
        · exact .bind (.part _ _ _) fun _ => Cm.blind ..
        · exact .stuck _
        · exact Cm.blind ..
      · exact .stuck _
    · exact .stuck _
theorem Cm.ahead : ∀ (n : Nat) (t : TypeId) (v : Value) (s : String), Cm (nilAhead n t v s)
  | 0, _, _, _ => .ret _
  | n + 1, t, v, s => by
    unfold nilAhead
    refine .bind (.typeInfo _) fun i => ?_
    split
    · refine .bind (.blind _ _ _) fun r => ?_
      split
      · exact .ret _
      · split
        · exact Cm.ahead ..
        · exact .ret _
        · exact .stuck _
        · exact .ret _
        · exact .ret _
        · refine .bind (.under _) fun d => ?_
          split <;> exact .ret _
    · exact .stuck _
theorem Cm.zero (t : TypeId) : Cm (Go.zeroValue t) := .bind (.typeInfo _) fun i => by
  cases i.zero with
  | none => exact .unsup _
  | some v => exact .ret _
theorem Cm.list {α β : Type} {f : α → Sem β} (hf : ∀ a, Cm (f a)) : ∀ l : List α, Cm (l.mapM f)
  | [] => by rw [List.mapM_nil]; exact .ret _
  | a :: l => by rw [List.mapM_cons]; exact .bind (hf a) fun b => .bind (Cm.list hf l) fun bs => .ret _
theorem Cm.arr {α β : Type} {f : α → Sem β} (hf : ∀ a, Cm (f a)) (l : Array α) : Cm (l.mapM f) := by
  rw [Array.mapM_eq_mapM_toList, map_eq_pure_bind]
  exact .bind (Cm.list hf _) fun _ => .ret _
theorem Cm.build (t : TypeId) (ps : Array (Nat × Value)) : Cm (Instr.build t ps) := by
  unfold Instr.build
  refine .bind (.zero _) fun z => .bind (.under _) fun d => ?_
  split
  · refine .bind (.arr (fun f => .bind (.size _) fun _ => .ret _) _) fun pl => ?_
    split
    · exact .ret _
    · exact .stuck _
  · refine .bind (.size _) fun k => ?_
    split
    · exact .ret _
    · exact .stuck _
  · exact .stuck _
def quietOp : Op → Bool
  | .move _ => true
  | .assign _ => true
  | .load .. => true
  | .nilCheck _ => true
  | .fieldAddr .. => true
  | .extract .. => true
  | .build .. => true
  | _ => false
theorem Cm.panic {α : Type} : Cm (Go.runtimePanic .nilDeref : Sem α) := .bind .prog fun p => .halt _
theorem partAt_cm (a : Addr) (n m : Nat) : Cm (Go.partAt a n m) := by
  unfold Go.partAt Go.byteOf
  simp only [pure_bind, bind_assoc]
  repeat' (first | exact .ret _ | exact .stuck _ | exact .prog | exact .shape _ _ fun _ => .pure _ | exact .obj _ _ fun _ => .pure _ | exact .unsup _ | (refine .bind ?_ fun _ => ?_) | split | (intro; dsimp only))
theorem quiet_run {P : Program} {o : Oper} (h : quietOp o.op = true) {ρ : Operand → Value} {w w' : World} {x : Next} (hr : (execOp ρ o).run P w = .ok x w') : w' = w ∧ ∃ v, x = .value v := by
  have vv : ∀ {s : Sem Value}, Cm s → ∀ {x : Next}, (do let v ← s; Pure.pure (Next.value v) : Sem Next).run P w = .ok x w' → w' = w ∧ ∃ v, x = .value v := fun {s} hc {x} he => by
    refine ⟨(Cm.bind hc fun _ => .ret _).run he, ?_⟩
    rw [Sem.run_bind] at he
    cases hq : s.run P w with
    | ok v w2 => rw [hq] at he; cases he; exact ⟨_, rfl⟩
    | halt e w2 => rw [hq] at he; cases he
  obtain ⟨dst, op, type, pos, after, guard⟩ := o
  cases op with
  | move x => cases hr; exact ⟨rfl, _, rfl⟩
  | assign x => cases hr; exact ⟨rfl, _, rfl⟩
  | load t a => exact vv (.loadAt _ _) hr
  | build t ps => exact vv (.build _ _) hr
  | nilCheck x =>
    have hc : Cm (execOp ρ ⟨dst, .nilCheck x, type, pos, after, guard⟩) := by
      unfold execOp
      simp only
      split
      · exact .panic
      · exact .panic
      · exact .panic
      · split
        · exact .panic
        · refine .bind .prog fun p => .bind (.ahead _ _ _ _) fun b => ?_
          split
          · exact .bind (.unsup _) fun _ => .ret _
          · exact .ret _
        · exact .ret _
      · exact .ret _
    refine ⟨hc.run hr, ?_⟩
    simp only [execOp] at hr
    split at hr
    · simp [Go.runtimePanic, go_sem] at hr
    · simp [Go.runtimePanic, go_sem] at hr
    · simp [Go.runtimePanic, go_sem] at hr
    · split at hr
      · simp [Go.runtimePanic, go_sem] at hr
      · rw [Sem.run_bind] at hr
        simp only [run_program, Result.andThen_ok] at hr
        rw [Sem.run_bind] at hr
        generalize (nilAhead _ _ _ _).run P w = r at hr
        cases r with
        | ok b w3 =>
          simp only [Result.andThen_ok] at hr
          split at hr
          · cases hr
          · cases hr; exact ⟨_, rfl⟩
        | halt e w3 => cases hr
      · cases hr; exact ⟨_, rfl⟩
    · cases hr; exact ⟨_, rfl⟩
  | fieldAddr t x f =>
    refine vv ?_ hr
    unfold Instr.fieldAt
    refine .bind (.under _) fun d => ?_
    split
    · split
      · refine .bind (.sure _) fun a => .bind ?_ fun _ => .ret _
        unfold fieldPlace
        refine .bind (.size _) fun n => ?_
        split
        · exact partAt_cm ..
        · exact .ret _
      · exact .stuck _
    · exact .stuck _
  | extract t i =>
    refine vv ?_ hr
    unfold Instr.extract
    split
    · split
      · exact .ret _
      · exact .stuck _
    · exact .stuck _
  | _ => cases h
/-! a load that is taken first -/
section
variable {P : Program} {T : Nat → Option Ty} {X : Fr} {w0 : World} {N : Nat} {S : St} {ops : Array Oper} {R : St → Prop} {fuel : Nat} {listed : Array Bool}
/-- it yields v in this world and in all that come of it by new blocks -/
def Yd (P : Program) (o : Oper) (al : Bool) (u : Value) (a : Act) (w : World) : Prop := (∀ w', (w' = w ∨ (al = true ∧ Below w.heap.size w w')) → (execOp a.eval o).run P w' = .ok (.value u) w') ∧ ∀ w, o.about P w a.eval = none
def newOp : Op → Bool
  | .alloc _ => true
  | .buildSlice .. => true
  | _ => false
theorem anyIn_ld {ds : List Nat} {F : Fence} {n : Nat} {Q : Exit → Act → World → Prop} {md : Region.Mode} {i : Nat} {oi : Oper} {u : Value} {al : Bool} (hro : F.round = none) (hi : ops[i]? = some oi) (hgi : oi.guard = none) (hsi : ∀ cs b, oi.op ≠ .select cs b)
    (hQ : ∀ c a w, Q (.panic c) (a.put oi.dst u) w → Q (.panic c) a w)
    (hnew : ∀ (j : Nat) oj, ops[j]? = some oj → newOp oj.op = true → ∀ (ρ : Operand → Value) (w w' : World) (x : Next), (execOp ρ oj).run P w = .ok x w' → Below w.heap.size w w' ∧ ∃ v, x = .value v)
    (hds : ∀ j, j ∈ ds → ∃ oj, ops[j]? = some oj ∧ ∃ e, e ∈ oj.after ∧ Region.binds md e = true ∧ (e.on = i ∨ e.on ∈ ds)) : ∀ (fuel : Nat) (listed : Array Bool) (a : Act) (w : World),
      (∀ j oj, ops[j]? = some oj → j ≠ i → listed.getD j true = false → j ∉ ds → oi.apart ops oj = true ∧ oj.guard = none ∧ (quietOp oj.op = true ∨ (al = true ∧ newOp oj.op = true))) → (∀ j, j ∈ ds → listed.getD j true = false) →
      i ∈ Region.ready md ops listed → Yd P oi al u a w →
      wpAnyIn F n P md ops Q fuel (listed.setIfInBounds i true) (a.put oi.dst u) w → wpAnyIn F n P md ops Q (fuel + 1) listed a w := by
  have now : ∀ {K : Act → World → Prop} {a : Act} {w : World}, Yd P oi al u a w → K (a.put oi.dst u) w → wpOpIn F n P ops Q i K a w := fun {K a w} hy h => by
    unfold wpOpIn
    rw [hi]
    simp only
    rw [if_pos (wanted_none hgi a)]
    refine ⟨fun f hf => (by rw [hy.2 w] at hf; cases hf), ?_⟩
    rw [hro, Oper.semAt_none, hy.1 w (.inl rfl)]
    exact h
  intro fuel
  induction fuel with
  | zero =>
    intro listed a w _ _ hr hy H
    refine ⟨fun h => (by rw [h] at hr; cases hr), fun j hj => ?_⟩
    by_cases hji : j = i
    · subst hji; exact now hy H
    · have := ready_mono hj hji
      rw [H.1] at this
      cases this
  | succ fuel ih =>
    intro listed a w hfree hdl hr hy H
    refine ⟨fun h => (by rw [h] at hr; cases hr), fun j hj => ?_⟩
    by_cases hji : j = i
    · subst hji; exact now hy H
    · have h1 := H.2 j (ready_mono hj hji)
      obtain ⟨hjun, oj, hoj, hall⟩ := mem_ready.1 hj
      have hgd : ∀ k, listed.getD k true = listed.getD k false ∨ listed.size ≤ k := fun k => by
        rcases Nat.lt_or_ge k listed.size with h | h
        · left; simp [Array.getD, h]
        · exact .inr h
      have hi0 : ∀ e ∈ oj.after, Region.binds md e = true → e.on ≠ i ∧ e.on ∉ ds := fun e he hb => by
        have h1 := hall e he hb
        refine ⟨fun heq => ?_, fun hm => ?_⟩
        · have h0 := (mem_ready.1 hr).1
          rw [heq] at h1
          rcases Nat.lt_or_ge i listed.size with h' | h'
          · simp [h'] at h0 h1; rw [h0] at h1; cases h1
          · simp [Array.getElem?_eq_none h'] at h1
        · have h2 := hdl _ hm
          rcases hgd e.on with h | h
          · rw [h, h1] at h2; cases h2
          · rw [Array.getD_eq_getD_getElem?, Array.getElem?_eq_none h] at h1; cases h1
      have hnot : j ∉ ds := fun hm => by
        obtain ⟨oj', h1, e, h2, h3, h4⟩ := hds j hm
        rw [hoj] at h1; cases h1
        rcases h4 with h4 | h4
        · exact (hi0 e h2 h3).1 h4
        · exact (hi0 e h2 h3).2 h4
      obtain ⟨hap, hgj, hqj⟩ := hfree j oj hoj hji hjun hnot
      obtain ⟨p1, p2, p3⟩ := Oper.apart_spec hap
      have hfree' : ∀ k ok, ops[k]? = some ok → k ≠ i → (listed.setIfInBounds j true).getD k true = false →
          k ∉ ds → oi.apart ops ok = true ∧ ok.guard = none ∧ (quietOp ok.op = true ∨ (al = true ∧ newOp ok.op = true)) := fun k ok hk hki hun hno => by
        refine hfree k ok hk hki ?_ hno
        by_cases hjk : j = k
        · subst hjk; exact hjun
        · rw [getD_set_ne true hjk] at hun; exact hun
      have hdl' : ∀ k, k ∈ ds → (listed.setIfInBounds j true).getD k true = false := fun k hk => by
        have hne : j ≠ k := fun e => hnot (by rw [e]; exact hk)
        rw [getD_set_ne true hne]; exact hdl k hk
      have next : ∀ (v : Value) (w' : World), (w' = w ∨ (al = true ∧ Below w.heap.size w w')) → wpAnyIn F n P md ops Q fuel ((listed.setIfInBounds i true).setIfInBounds j true) ((a.put oi.dst u).put oj.dst v) w' → wpAnyIn F n P md ops Q (fuel + 1) (listed.setIfInBounds j true) (a.put oj.dst v) w' := fun v w' hw' h3 => by
        refine ih (listed.setIfInBounds j true) _ w' hfree' hdl' (ready_mono hr (Ne.symm hji)) ⟨fun w2 h2 => ?_, fun w2 => ?_⟩ ?_
        · rw [execOp_put oi hsi a oj.dst v p3]
          refine hy.1 w2 ?_
          rcases hw' with rfl | ⟨h4, h5⟩
          · exact h2
          · rcases h2 with rfl | ⟨h6, h7⟩
            · exact .inr ⟨h4, h5⟩
            · exact .inr ⟨h4, h5.trans (h7.mono h5.size)⟩
        · rw [about_put oi w2 a oj.dst v p3]; exact hy.2 w2
        · rw [Array.setIfInBounds_comm _ _ hji, ← Act.put_comm a u v p2]
          exact h3
      have hsj : ∀ cs b, oj.op ≠ .select cs b := fun cs b e => by
        rcases hqj with h | h
        · rw [e] at h; cases h
        · rw [e] at h; cases h.2
      unfold wpOpIn at h1 ⊢
      rw [hoj] at h1 ⊢
      simp only at h1 ⊢
      rw [if_pos (wanted_none hgj _)] at h1 ⊢
      unfold Oper.wpIn at h1 ⊢
      rw [about_put oj w a oi.dst u p1] at h1
      refine ⟨h1.1, ?_⟩
      have h1 := h1.2
      rw [hro, Oper.semAt_none, execOp_put oj hsj a oi.dst u p1] at h1
      rw [hro, Oper.semAt_none]
      cases hq : (execOp a.eval oj).run P w with
      | ok x w' =>
        rw [hq] at h1
        have hx : (w' = w ∨ (al = true ∧ Below w.heap.size w w')) ∧ ∃ v, x = .value v := by
          rcases hqj with h | ⟨h, h'⟩
          · obtain ⟨e1, e2⟩ := quiet_run h hq
            exact ⟨.inl e1, e2⟩
          · obtain ⟨e1, e2⟩ := hnew j oj hoj h' _ _ _ _ hq
            exact ⟨.inr ⟨h, e1⟩, e2⟩
        obtain ⟨hw', v, rfl⟩ := hx
        exact next v w' hw' h1
      | halt x w' =>
        rw [hq] at h1
        cases x <;> simp only [Oper.uponIn] at h1 ⊢
        case panic c => exact hQ _ _ _ h1
def depsOf (ops : Array Oper) (i : Nat) : List Nat := (List.range ops.size).foldl (fun acc j => match ops[j]? with
  | some oj => if oj.after.toList.any (fun e => Region.binds .any e && (e.on == i || acc.contains e.on)) then j :: acc else acc
  | none => acc) []
def ldOp : Op → Bool
  | .load .. => true
  | .extract .. => true
  | _ => false
def ldOk (ops : Array Oper) (listed : Array Bool) (i : Nat) (al : Bool) : Bool := match ops[i]? with
  | some oi => oi.guard.isNone && ldOp oi.op && (Region.ready .any ops listed).contains i &&
    (let ds := depsOf ops i
     ds.all (fun j => !listed.getD j true && match ops[j]? with
       | some oj => oj.after.toList.any fun e => Region.binds .any e && (e.on == i || ds.contains e.on)
       | none => false) &&
     (List.range ops.size).all fun j => j == i || listed.getD j true || ds.contains j || (match ops[j]? with
       | some oj => oi.apart ops oj && oj.guard.isNone && (quietOp oj.op || (al && newOp oj.op))
       | none => true))
  | none => false
def sclC : C → Bool
  | .f (.s _) => true
  | .o _ => true
  | .p _ _ => true
  | _ => false
/-- values that stand for one thing alone -/
def scl : V → Bool
  | .c x => sclC x
  | .agg xs => xs.all sclC
  | .loc _ _ => true
  | _ => false
theorem scl_eq {w w' : World} {E : Env} {v : V} {u u' : Value} (h : scl v = true) (h1 : RepV w E v u) (h2 : RepV w' E v u') : u' = u := by
  have one : ∀ {x : C} {u u' : Value}, sclC x = true → RepC w E x u → RepC w' E x u' → u' = u := fun {x u u'} h h1 h2 => by
    cases h1 with
    | f h1 => cases h1 with
      | s _ => cases h2 with
        | f h2 => cases h2 with
          | s _ => rfl
      | _ => cases h
    | o h1 _ => cases h2 with
      | o h2 _ => rw [h1] at h2; cases h2; rfl
    | p h1 => cases h2 with
      | p h2 => rw [h1] at h2; cases h2; rfl
    | _ => cases h
  cases h1 with
  | loc h1 => cases h2 with
    | loc h2 => rw [h1] at h2; cases h2; rfl
  | c h1 => cases h2 with
    | c h2 => exact one h h1 h2
  | agg h1 => cases h2 with
    | agg h2 =>
      rename_i xs us us'
      congr 1
      refine Array.ext' (List.ext_getElem? fun j => ?_)
      cases hx : xs[j]? with
      | none =>
        have := List.getElem?_eq_none_iff.1 hx
        rw [List.getElem?_eq_none (by rw [← h2.1]; exact this), List.getElem?_eq_none (by rw [← h1.1]; exact this)]
      | some x =>
        have hj := (List.getElem?_eq_some_iff.1 hx).1
        have e1 := List.getElem?_eq_getElem (l := us.toList) (i := j) (by rw [← h1.1]; exact hj)
        have e2 := List.getElem?_eq_getElem (l := us'.toList) (i := j) (by rw [← h2.1]; exact hj)
        rw [e1, e2]
        exact congrArg some (one (List.all_eq_true.1 h x (List.mem_of_getElem? hx)) (h1.2 j _ _ hx e1) (h2.2 j _ _ hx e2))
  | _ => cases h
theorem pb_cm {P : Program} {α β : Type} {s : Sem α} (hs : Cm s) {f : α → Sem β} {w w' : World} {x : β} (h : (s >>= f).run P w = .ok x w') : ∃ v, (f v).run P w = .ok x w' := by
  rw [Sem.run_bind] at h
  cases h1 : s.run P w with
  | ok v w2 =>
    rw [h1] at h
    have := hs.run h1
    subst this
    exact ⟨v, h⟩
  | halt a b => rw [h1] at h; simp at h
theorem new_slice {P : Program} {t : TypeId} {n : Nat} {ps : Array (Nat × Value)} {w w' : World} {u : Value} (h : (Instr.buildSlice t n ps).run P w = .ok u w') : Below w.heap.size w w' := by
  unfold Instr.buildSlice at h
  obtain ⟨d, h⟩ := pb_cm (.under t) h
  split at h
  · rename_i elem
    obtain ⟨k, h⟩ := pb_cm (.size _) h
    have fin : ∀ zero : Array Value, (match Instr.fill (fun i => some (i * k, k)) (Array.map (fun x => zero[x % zero.size]!) (Array.range (n * k))) ps.toList with
        | some cells => do
          let a ← newRow elem cells
          pure (Value.slice (some a) n n)
        | x => stuck "buildSlice: a part of the wrong size" : Sem Value).run P w = .ok u w' → Below w.heap.size w w' := fun zero h => by
      split at h
      · simp [newRow] at h
        rw [← h.2]
        exact (Below.refl _ w).alloc (Nat.le_refl _) _
      · simp [stuck] at h
    dsimp only at h
    split at h
    · simp [unsupported] at h
    · split at h
      · obtain ⟨z, h⟩ := pb_cm (.ret _) h
        exact fin z h
      · obtain ⟨z, h⟩ := pb_cm (.zero _) h
        obtain ⟨z, h⟩ := pb_cm (.ret _) h
        exact fin z h
  · simp [stuck] at h
theorem new_run {P : Program} {o : Oper} (h : newOp o.op = true) {ρ : Operand → Value} {w w' : World} {x : Next} (hr : (execOp ρ o).run P w = .ok x w') : Below w.heap.size w w' ∧ ∃ v, x = .value v := by
  obtain ⟨dst, op, type, pos, after, guard⟩ := o
  cases op with
  | alloc t =>
    simp only [execOp, Instr.alloc, Go.zeroValue, Go.typeInfo, Go.newVar, Go.newRow, Sem.run_bind, run_program, Result.andThen_ok] at hr
    cases hq : P.info? t with
    | none => rw [hq] at hr; simp [go_sem] at hr
    | some i =>
      rw [hq] at hr
      simp only [Sem.run_pure, Result.andThen_ok] at hr
      cases hz : i.zero with
      | none => rw [hz] at hr; simp [go_sem] at hr
      | some z =>
        rw [hz] at hr
        simp only [Sem.run_pure, Sem.run_bind, Result.andThen_ok, run_newObj] at hr
        cases hr
        exact ⟨(Below.refl _ w).alloc (Nat.le_refl _) _, _, rfl⟩
  | buildSlice t n ps =>
    simp only [execOp] at hr
    rw [Sem.run_bind] at hr
    cases h1 : (Instr.buildSlice t n (ps.map fun (i, x) => (i, ρ x))).run P w with
    | ok v w2 =>
      rw [h1] at hr
      simp at hr
      obtain ⟨rfl, rfl⟩ := hr
      exact ⟨new_slice h1, _, rfl⟩
    | halt a b => rw [h1] at hr; simp at hr
  | _ => cases h
theorem ldOp_put {op : Op} (hf : ldOp op = true) {p : Prop} {r : Res} {rn : List Nat} (he : effd P T S op = some (p, r, rn)) : ∃ v, r = .put v := by
  cases op with
  | load t x =>
    rw [effd] at he
    (repeat' split at he) <;> first | (cases he; exact ⟨_, rfl⟩) | cases he
  | extract x i =>
    rw [effd] at he
    (repeat' split at he) <;> first | (cases he; exact ⟨_, rfl⟩) | cases he
  | _ => cases hf
theorem any_weak {S' : St} (hw : Weak X S S') (h : AnyD P X w0 N ops R fuel listed S') : AnyD P X w0 N ops R fuel listed S := fun E a w hs => by
  obtain ⟨E', hs'⟩ := hw _ _ _ _ _ hs
  exact h E' a w hs'
/-- a load that may be taken first; with al: new blocks may come ahead of it -/
theorem any_ld (i : Nat) (al : Bool) {o : Oper} (hX : X.rd = none) (hT : ∀ t y, T t = some y → TyOk P t y) (hN : okN N ops = true) (ho : ops[i]? = some o) (hok : ldOk ops listed i al = true)
    (h : eff3 P T o.dst o.op (fun S' => (al = true → ∃ d, o.dst = some d ∧ scl (S'.slots d) = true) ∧ AnyD P X w0 N ops R fuel (listed.setIfInBounds i true) S') S) : AnyD P X w0 N ops R (fuel + 1) listed S := fun E a w hs => by
  unfold ldOk at hok
  rw [ho] at hok
  simp only [Bool.and_eq_true] at hok
  obtain ⟨⟨⟨hg, hl⟩, hr⟩, hds, hall⟩ := hok
  have hg : o.guard = none := by simpa using hg
  have key : ∃ p v rn, effd P T S o.op = some (p, .put v, rn) := by
    unfold eff3 at h
    cases he : effd P T S o.op with
    | none => rw [he] at h; exact h.elim
    | some q =>
      obtain ⟨p, r, rn⟩ := q
      obtain ⟨v, rfl⟩ := ldOp_put hl he
      exact ⟨p, v, rn, rfl⟩
  obtain ⟨p, v, rn, he⟩ := key
  unfold eff3 at h
  rw [he] at h
  simp only at h
  obtain ⟨u, h1, h2⟩ := eff_put hT he h.1 hs o rfl
  obtain ⟨hsc, hnext⟩ := kput_iff.1 h.2
  have hro : (rdF X.rd).round = none := hX
  have hns : ∀ cs b, o.op ≠ .select cs b := fun cs b e => by rw [e] at hl; cases hl
  refine anyIn_ld (ds := depsOf ops i) (u := u) (al := al) hro ho hg hns (fun c a w hq => by cases hq.1) (fun j oj _ hn ρ w w' x hx => new_run hn hx) (fun j hj => ?_) fuel listed a w (fun j oj hj hji hlj hjd => ?_) (fun j hj => ?_) (by simpa using hr) ⟨fun w' hw' => ?_, fun w => ?_⟩ ?_
  · have h3 := List.all_eq_true.1 hds j hj
    simp only [Bool.and_eq_true] at h3
    have h4 := h3.2
    split at h4
    · rename_i oj hoj
      obtain ⟨e, h5, h6⟩ := List.any_eq_true.1 h4
      simp only [Bool.and_eq_true, Bool.or_eq_true, beq_iff_eq, List.contains_iff_mem] at h6
      exact ⟨oj, hoj, e, by simpa using h5, h6.1, h6.2⟩
    · cases h4
  · have hjl : j < ops.size := (Array.getElem?_eq_some_iff.1 hj).1
    have h3 := List.all_eq_true.1 hall j (List.mem_range.2 hjl)
    simp only [Bool.or_eq_true, beq_iff_eq, List.contains_iff_mem, hlj, Bool.false_eq_true] at h3
    rcases h3 with ((h3 | h3) | h3) | h3
    · exact absurd h3 hji
    · exact h3.elim
    · exact absurd h3 hjd
    · rw [hj] at h3
      simp only [Bool.and_eq_true, Bool.or_eq_true] at h3
      exact ⟨h3.1.1, by simpa using h3.1.2, h3.2⟩
  · have h3 := List.all_eq_true.1 hds j hj
    simp only [Bool.and_eq_true, Bool.not_eq_true'] at h3
    exact h3.1
  · rcases hw' with rfl | ⟨ha, hb⟩
    · exact h2
    · obtain ⟨d, hd, hsc⟩ := hsc ha
      have hs2 : Sim X w0 N S E a w' := hs.turn (ds := a.defers) hb.size (hs.chg.trans (Chg.of_below hb X.X)) (hs.fr.below hb) fun b hb' => hb.block b (by
        rcases hb' with hb' | ⟨o, ho, _⟩
        · exact hs.il b hb'
        · exact (Array.getElem?_eq_some_iff.1 ho).1)
      obtain ⟨u', h3, h4⟩ := eff_put hT he h.1 hs2 o rfl
      rw [hd] at hsc
      have : scl v = true := by simpa [putS, upd] using hsc
      rw [scl_eq this h1 h3] at h4
      exact h4
  · obtain ⟨dst, op, type, pos, after, guard⟩ := o
    simp only at hl ⊢
    cases op <;> first | (cases hl; done) | rfl
  · exact hnext E _ w (hs.env v u h1 o.dst (okN_ok hN i o ho))
def plainO : Op → Bool
  | .move _ | .assign _ | .load .. | .store .. | .fieldAddr .. | .indexAddr .. | .build .. | .buildSlice .. | .nilCheck _ | .binOp .. | .field .. => true
  | .call c => match c.callee with
    | .builtin .append => true
    | .builtin .len => true
    | _ => false
  | _ => false
def plainRow (ops : Array Oper) : Bool := ops.toList.all fun o => plainO o.op
theorem plainRow_at {ops : Array Oper} (h : plainRow ops = true) {i : Nat} {o : Oper} (ho : ops[i]? = some o) : plainO o.op = true :=
  List.all_eq_true.1 h o (by rw [← Array.getElem?_toList] at ho; exact List.mem_of_getElem? ho)
theorem plainO_res {P : Program} {o : Oper} (h : plainO o.op = true) {ρ : Operand → Value} {w w' : World} {x : Next} (hr : (execOp ρ o).run P w = .ok x w') : (∃ v, x = .value v) ∨ x = .skip := by
  have kv : ∀ s : Sem Value, (do pure (Next.value (← s)) : Sem Next).run P w = .ok x w' → ∃ v, x = .value v := fun s hq => by
    rw [Sem.run_bind] at hq
    cases hs : s.run P w with
    | ok v w2 => rw [hs] at hq; simp at hq; exact ⟨v, hq.1.symm⟩
    | halt a b => rw [hs] at hq; simp at hq
  obtain ⟨dst, op, type, pos, after, guard⟩ := o
  simp only at h
  cases op with
  | store t a v =>
    right
    simp only [execOp] at hr
    rw [Sem.run_bind] at hr
    generalize hs : Sem.run P _ w = q at hr
    cases q with
    | ok v w2 => simp at hr; exact hr.1.symm
    | halt a b => simp at hr
  | call c =>
    left
    obtain ⟨callee, args, argTypes⟩ := c
    cases callee with
    | builtin b =>
      cases b with
      | append =>
        refine kv (Builtin.append_ argTypes type (args.map ρ)) ?_
        simpa [execOp, resolve, invoke, builtin] using hr
      | len =>
        refine kv (Builtin.len_ argTypes type (args.map ρ)) ?_
        simpa [execOp, resolve, invoke, builtin] using hr
      | _ => simp [plainO] at h
    | _ => simp [plainO] at h
  | move y => left; exact ⟨_, by simp [execOp] at hr; exact hr.1.symm⟩
  | assign y => left; exact ⟨_, by simp [execOp] at hr; exact hr.1.symm⟩
  | nilCheck y =>
    left
    have kb : ∀ {α : Type} (s : Sem α) (f : α → Sem Next) (w : World), (∀ v w2, (f v).run P w2 = .ok x w' → ∃ v, x = .value v) → (do let v ← s; f v).run P w = .ok x w' → ∃ v, x = .value v := fun {α} s f w hf hq => by
      rw [Sem.run_bind] at hq
      cases hs : s.run P w with
      | ok v w2 => rw [hs] at hq; exact hf v w2 hq
      | halt a b => rw [hs] at hq; simp at hq
    simp only [execOp] at hr
    split at hr
    · simp [runtimePanic] at hr
    · simp [runtimePanic] at hr
    · simp [runtimePanic] at hr
    · split at hr
      · simp [runtimePanic] at hr
      · refine kb _ _ _ (fun v w2 h2 => ?_) hr
        refine kb _ _ _ (fun v w2 h2 => ?_) h2
        split at h2
        · refine kb _ _ _ (fun v w2 h2 => ?_) h2
          simp at h2; exact ⟨_, h2.1.symm⟩
        · simp at h2; exact ⟨_, h2.1.symm⟩
      · simp at hr; exact ⟨_, hr.1.symm⟩
    · simp at hr; exact ⟨_, hr.1.symm⟩
  | _ => first
    | (simp [plainO] at h; done)
    | (left; exact kv _ hr)
theorem plain_nd {op : Op} (h : plainO op = true) : ∀ c, op ≠ .defer c := fun c e => by rw [e] at h; cases h
theorem rd_op {P : Program} {r r' : Option Nat} {n : Nat} {o : Oper} {a : Act} {w : World} {K K' : Act → World → Prop} {Q : Exit → Act → World → Prop} (hp : plainO o.op = true) (hK : ∀ a w, K a w → K' a w) (h : o.wpIn (rdF r) n P a w K Q) : o.wpIn (rdF r') n P a w K' Q := by
  refine ⟨fun _ _ => trivial, ?_⟩
  have h := h.2
  rw [Oper.semAt_eq _ _ _ (plain_nd hp)] at h ⊢
  cases hres : (execOp a.eval o).run P w with
  | ok x w' =>
    rw [hres] at h
    rcases plainO_res hp hres with ⟨v, rfl⟩ | rfl
    · exact hK _ _ h
    · exact hK _ _ h
  | halt x w' =>
    rw [hres] at h
    cases x <;> exact h
theorem any_rd {P : Program} {r r' : Option Nat} {n : Nat} {md : Region.Mode} {ops : Array Oper} {Q : Exit → Act → World → Prop} (hp : plainRow ops = true) : ∀ (fuel : Nat) (listed : Array Bool) (a : Act) (w : World), wpAnyIn (rdF r) n P md ops Q fuel listed a w → wpAnyIn (rdF r') n P md ops Q fuel listed a w
  | 0, _, _, _, h => h
  | fuel + 1, listed, a, w, h => ⟨h.1, fun i hi => by
    have h2 := h.2 i hi
    unfold wpOpIn at h2 ⊢
    cases ho : ops[i]? with
    | none => rw [ho] at h2; exact any_rd hp fuel _ _ _ h2
    | some o =>
      rw [ho] at h2
      simp only at h2 ⊢
      split
      · rename_i hw
        rw [if_pos hw] at h2
        exact rd_op (plainRow_at hp ho) (fun a w hk => any_rd hp fuel _ a w hk) h2
      · rename_i hw
        rw [if_neg hw] at h2
        exact ⟨fun _ _ => trivial, any_rd hp fuel _ _ _ h2.2⟩⟩
theorem any_firstR (i : Nat) {o : Oper} (hp : plainRow ops = true) (hT : ∀ t y, T t = some y → TyOk P t y) (hN : okN N ops = true) (ho : ops[i]? = some o) (hg : o.guard = none) (hf : freeOp o.op = true) (hs : Region.noSelect ops = true) (hfr : Region.free .any ops listed i = true) (hr : (Region.ready .any ops listed).contains i = true)
    (h : eff3 P T o.dst o.op (AnyD P X w0 N ops R fuel (listed.setIfInBounds i true)) S) : AnyD P X w0 N ops R (fuel + 1) listed S := fun E a w hsim => by
  obtain ⟨v, u, h1, h2, h3, h4⟩ := free_ok hT hf h hsim
  refine any_rd (r := none) hp _ _ _ _ ?_
  refine wpAnyIn_take (v := u) rfl ho hs hfr hr (fun c a w hq => by cases hq.1) ⟨.inl ⟨wanted_none hg a, h3⟩, h4⟩ ?_
  refine any_rd (r := X.rd) hp _ _ _ _ ?_
  exact h2 E _ w (hsim.env v u h1 o.dst (okN_ok hN i o ho))
theorem any_ldR (i : Nat) (al : Bool) {o : Oper} (hp : plainRow ops = true) (hT : ∀ t y, T t = some y → TyOk P t y) (hN : okN N ops = true) (ho : ops[i]? = some o) (hok : ldOk ops listed i al = true)
    (h : eff3 P T o.dst o.op (fun S' => (al = true → ∃ d, o.dst = some d ∧ scl (S'.slots d) = true) ∧ AnyD P X w0 N ops R fuel (listed.setIfInBounds i true) S') S) : AnyD P X w0 N ops R (fuel + 1) listed S := fun E a w hs => by
  unfold ldOk at hok
  rw [ho] at hok
  simp only [Bool.and_eq_true] at hok
  obtain ⟨⟨⟨hg, hl⟩, hr⟩, hds, hall⟩ := hok
  have hg : o.guard = none := by simpa using hg
  have key : ∃ p v rn, effd P T S o.op = some (p, .put v, rn) := by
    unfold eff3 at h
    cases he : effd P T S o.op with
    | none => rw [he] at h; exact h.elim
    | some q =>
      obtain ⟨p, r, rn⟩ := q
      obtain ⟨v, rfl⟩ := ldOp_put hl he
      exact ⟨p, v, rn, rfl⟩
  obtain ⟨p, v, rn, he⟩ := key
  unfold eff3 at h
  rw [he] at h
  simp only at h
  obtain ⟨u, h1, h2⟩ := eff_put hT he h.1 hs o rfl
  obtain ⟨hsc, hnext⟩ := kput_iff.1 h.2
  have hns : ∀ cs b, o.op ≠ .select cs b := fun cs b e => by rw [e] at hl; cases hl
  refine any_rd (r := none) hp _ _ _ _ ?_
  refine anyIn_ld (ds := depsOf ops i) (u := u) (al := al) rfl ho hg hns (fun c a w hq => by cases hq.1) (fun j oj _ hn ρ w w' x hx => new_run hn hx) (fun j hj => ?_) fuel listed a w (fun j oj hj hji hlj hjd => ?_) (fun j hj => ?_) (by simpa using hr) ⟨fun w' hw' => ?_, fun w => ?_⟩ ?_
  · have h3 := List.all_eq_true.1 hds j hj
    simp only [Bool.and_eq_true] at h3
    have h4 := h3.2
    split at h4
    · rename_i oj hoj
      obtain ⟨e, h5, h6⟩ := List.any_eq_true.1 h4
      simp only [Bool.and_eq_true, Bool.or_eq_true, beq_iff_eq, List.contains_iff_mem] at h6
      exact ⟨oj, hoj, e, by simpa using h5, h6.1, h6.2⟩
    · cases h4
  · have hjl : j < ops.size := (Array.getElem?_eq_some_iff.1 hj).1
    have h3 := List.all_eq_true.1 hall j (List.mem_range.2 hjl)
    simp only [Bool.or_eq_true, beq_iff_eq, List.contains_iff_mem, hlj, Bool.false_eq_true] at h3
    rcases h3 with ((h3 | h3) | h3) | h3
    · exact absurd h3 hji
    · exact h3.elim
    · exact absurd h3 hjd
    · rw [hj] at h3
      simp only [Bool.and_eq_true, Bool.or_eq_true] at h3
      exact ⟨h3.1.1, by simpa using h3.1.2, h3.2⟩
  · have h3 := List.all_eq_true.1 hds j hj
    simp only [Bool.and_eq_true, Bool.not_eq_true'] at h3
    exact h3.1
  · rcases hw' with rfl | ⟨ha, hb⟩
    · exact h2
    · obtain ⟨d, hd, hsc⟩ := hsc ha
      have hs2 : Sim X w0 N S E a w' := hs.turn (ds := a.defers) hb.size (hs.chg.trans (Chg.of_below hb X.X)) (hs.fr.below hb) fun b hb' => hb.block b (by
        rcases hb' with hb' | ⟨o, ho, _⟩
        · exact hs.il b hb'
        · exact (Array.getElem?_eq_some_iff.1 ho).1)
      obtain ⟨u', h3, h4⟩ := eff_put hT he h.1 hs2 o rfl
      rw [hd] at hsc
      have : scl v = true := by simpa [putS, upd] using hsc
      rw [scl_eq this h1 h3] at h4
      exact h4
  · obtain ⟨dst, op, type, pos, after, guard⟩ := o
    simp only at hl ⊢
    cases op <;> first | (cases hl; done) | rfl
  · refine any_rd (r := X.rd) hp _ _ _ _ ?_
    exact hnext E _ w (hs.env v u h1 o.dst (okN_ok hN i o ho))
theorem any_firstE (i : Nat) {o : Oper} (hX : X.rd = none) (hT : ∀ t y, T t = some y → TyOk P t y) (hN : okN N ops = true) (ho : ops[i]? = some o) (hg : o.guard = none) (hf : freeE o.op = true) (hs : Region.noSelect ops = true) (hfr : Region.free .any ops listed i = true) (hr : (Region.ready .any ops listed).contains i = true)
    (h : eff3 P T o.dst o.op (AnyD P X w0 N ops R fuel (listed.setIfInBounds i true)) S) : AnyD P X w0 N ops R (fuel + 1) listed S := fun E a w hsim => by
  obtain ⟨v, u, h1, h2, h3, h4⟩ := freeE_ok hT hf h hsim
  have hro : (rdF X.rd).round = none := hX
  refine wpAnyIn_take (v := u) hro ho hs hfr hr (fun c a w hq => by cases hq.1) ⟨.inl ⟨wanted_none hg a, h3⟩, h4⟩ ?_
  exact h2 E _ w (hsim.env v u h1 o.dst (okN_ok hN i o ho))
/-- a drawn row whose ends are all the same, as far as it is known -/
theorem dw_anyM {id : Nat} {Q : Exit → St → Prop} {D' : Code} (Sc : St) (hR : Kont R (DW P X w0 N D' Q)) (hm : P.follows .mixedOrders = true) (h : AnyD P X w0 N ops (fun S' => Weak X S' Sc) ops.size (Array.replicate ops.size false) S) (hc : DW P X w0 N D' Q Sc) : DW P X w0 N (.region id ops true) (thenD R Q) S := by
  refine dw_mono (dw_any (Q := fun _ _ => False) hm h) fun e S' hq => ?_
  cases e with
  | normal => exact kont hR (dw_weak hq hc)
  | _ => exact hq.elim
theorem dop_effw {o : Oper} {K : St → Prop} (hT : ∀ t y, T t = some y → TyOk P t y) (h : eff3 P T o.dst o.op (fun S1 => ∃ S2, Weak X S1 S2 ∧ K S2) S) : DOp P X w0 N o K S := fun E a w hs hd K' Q hK =>
  eff3_ok hT h hs hd fun S' E' a' w' h1 h2 => by
    obtain ⟨S2, hw, hk⟩ := h1
    obtain ⟨E2, h3⟩ := hw _ _ _ _ _ h2
    exact hK _ _ _ _ hk h3
/-! rows that stop at the operations with these destinations -/
def stopW (sl : List Nat) (o : Oper) : Bool := stops o.op || (match o.dst with
  | some d => sl.contains d
  | none => false)
def RunW (sl : List Nat) (P : Program) (T : Nat → Option Ty) (X : Fr) (w0 : World) (N : Nat) (o : Oper) (K : St → Prop) (S : St) : Prop := match stopW sl o with
  | true => DOp P X w0 N o K S
  | false => eff3 P T o.dst o.op K S
def exW (sl : List Nat) (P : Program) (T : Nat → Option Ty) (X : Fr) (w0 : World) (N : Nat) (ops : Array Oper) : List Oper → (St → Prop) → St → Prop
  | [], K, S => K S
  | o :: os, K, S => gd2 (gdV S (gOf ops o.guard)) (RunW sl P T X w0 N o (exW sl P T X w0 N ops os K)) (SkipB o.dst (exW sl P T X w0 N ops os K)) S
theorem exW_nil {sl : List Nat} {K : St → Prop} {s : Nat → V} {b : Nat → Option (TypeId × List C)} {a : Nat → Option (TypeId × Nat × List (List F))} : exW sl P T X w0 N ops [] K ⟨s, b, a⟩ = K ⟨s, b, a⟩ := rfl
theorem exW_cons {sl : List Nat} {K : St → Prop} {s : Nat → V} {b : Nat → Option (TypeId × List C)} {a : Nat → Option (TypeId × Nat × List (List F))} {o : Oper} {os : List Oper} : exW sl P T X w0 N ops (o :: os) K ⟨s, b, a⟩ = gd2 (gdV ⟨s, b, a⟩ (gOf ops o.guard)) (RunW sl P T X w0 N o (exW sl P T X w0 N ops os K)) (SkipB o.dst (exW sl P T X w0 N ops os K)) ⟨s, b, a⟩ := rfl
theorem RunW_2 {sl : List Nat} {K : St → Prop} {s : Nat → V} {b : Nat → Option (TypeId × List C)} {a : Nat → Option (TypeId × Nat × List (List F))} {o : Oper} : RunW sl P T X w0 N o K ⟨s, b, a⟩ = gd2 (some (stopW sl o)) (DOp P X w0 N o K) (eff3 P T o.dst o.op K) ⟨s, b, a⟩ := by
  unfold RunW
  cases stopW sl o <;> rfl
theorem exW_ok {sl : List Nat} {K : St → Prop} (hT : ∀ t y, T t = some y → TyOk P t y) (hd : ∀ (i : Nat) (o : Oper), ops[i]? = some o → ∀ t, o.dst = some t → t < N) (hnd : (ops.toList.all fun o => notDf o.op) = true) {Q : Exit → Act → World → Prop} (hK : ∀ S' E' a' w', K S' → Sim X w0 N S' E' a' w' → Q .normal a' w') :
    ∀ (m i : Nat) {S : St} {E : Env} {a : Act} {w : World}, exW sl P T X w0 N ops ((ops.toList.drop i).take m) K S → Sim X w0 N S E a w → wpOpsIn (rdF X.rd) 0 P ops Q ((List.range m).map (i + ·)) a w
  | 0, i, S, E, a, w, h, hs => hK _ _ _ _ h hs
  | m + 1, i, S, E, a, w, h, hs => by
    have e1 : (List.range (m + 1)).map (i + ·) = i :: (List.range m).map (i + 1 + ·) := by
      rw [List.range_succ_eq_map]
      simp [List.map_map, Function.comp_def, Nat.add_assoc, Nat.add_comm, Nat.add_left_comm]
    rw [e1, wpOpsIn_cons]
    unfold wpOpIn
    cases ho : ops[i]? with
    | none =>
      have hi : ops.size ≤ i := by simpa using ho
      rw [List.drop_eq_nil_of_le (by simpa using hi), List.take_nil] at h
      exact exW_ok hT hd hnd hK m (i + 1) (by rw [List.drop_eq_nil_of_le (by simp; omega), List.take_nil]; exact h) hs
    | some o =>
      have hi : i < ops.toList.length := by simpa using (Array.getElem?_eq_some_iff.1 ho).1
      have hoi : ops.toList[i] = o := by simpa using (Array.getElem?_eq_some_iff.1 ho).2
      have hdf : ∀ c, o.op ≠ .defer c := fun c hc => by
        have := List.all_eq_true.1 hnd o (by rw [← hoi]; exact List.getElem_mem hi)
        rw [hc] at this; cases this
      rw [List.drop_eq_getElem_cons hi, List.take_succ_cons, hoi] at h
      have h : gd2 (gdV S (gOf ops o.guard)) (RunW sl P T X w0 N o (exW sl P T X w0 N ops ((ops.toList.drop (i + 1)).take m) K)) (SkipB o.dst (exW sl P T X w0 N ops ((ops.toList.drop (i + 1)).take m) K)) S := h
      have hg : gOf ops o.guard = o.guard.map fun g => ((ops[g.1]?).bind (·.dst), g.2) := by cases o.guard <;> rfl
      have hyes : gdV S (gOf ops o.guard) = some true ∨ gdV S (gOf ops o.guard) = some false := by
        cases hq : gdV S (gOf ops o.guard) with
        | none => rw [hq] at h; exact h.elim
        | some v => cases v <;> simp
      rcases yield_ok hs hd (A := gdV S (gOf ops o.guard) = some true) (B := gdV S (gOf ops o.guard) = some false) (by rw [← hg]; exact V_gd (hyes.imp (fun h => ⟨h, h⟩) fun h => ⟨h, h⟩)) with ⟨hw, h1⟩ | ⟨hw, h1⟩
      · simp only [hw, if_true]
        rw [h1] at h
        have h : RunW sl P T X w0 N o (exW sl P T X w0 N ops ((ops.toList.drop (i + 1)).take m) K) S := h
        unfold RunW at h
        split at h
        · refine op_in hdf ?_
          exact h E a w hs (hd i o ho) _ _ fun S' E' a' w' hk h' => exW_ok hT hd hnd hK m (i + 1) hk h'
        · refine op_in hdf ?_
          exact eff3_ok hT h hs (hd i o ho) fun S' E' a' w' h2 h3 => exW_ok hT hd hnd hK m (i + 1) h2 h3
      · simp only [hw, Bool.false_eq_true, if_false]
        rw [h1] at h
        have h : exW sl P T X w0 N ops ((ops.toList.drop (i + 1)).take m) K ⟨putS S.slots o.dst .no, S.blks, S.arrs⟩ := h
        exact ⟨fun _ _ => trivial, exW_ok hT hd hnd hK m (i + 1) h (hs.env .no undef .no o.dst (hd i o ho))⟩
theorem dw_rowW {id : Nat} {Q : Exit → St → Prop} (sl : List Nat) (hT : ∀ t y, T t = some y → TyOk P t y) (hN : okN N ops = true) (hnd : (ops.toList.all fun o => notDf o.op) = true) (h : exW sl P T X w0 N ops ops.toList R S) : DW P X w0 N (.region id ops false) (thenD R Q) S := fun E a w hs => by
  refine wpIn_region ?_
  have := exW_ok (Q := fun e a' w' => ∃ S' E', thenD R Q e S' ∧ Sim X w0 N S' E' a' w') hT (okN_ok hN) hnd (fun S' E' _ _ hq hs => ⟨S', E', hq, hs⟩) ops.size 0 (by rw [List.drop_zero, List.take_of_length_le (by simp)]; exact h) hs
  have e0 : (List.range ops.size).map (0 + ·) = List.range ops.size := by simp
  rw [e0] at this
  exact this
attribute [push_cast] exW_nil exW_cons RunW_2 stopW List.contains_cons List.contains_nil Bool.or_false Bool.or_true Bool.false_or Bool.true_or
end
end Go.Dl
