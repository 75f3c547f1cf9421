/-
  The logic on data: structs of plain fields are compared field by field.
-/
import Derived.Test.YtajokeimipllcaaDn
set_option linter.unusedSimpArgs false
set_option linter.unusedVariables false
namespace Go.Dl
def shapeFs (P : Program) (g : TypeId → Option (List Bas)) : Nat → List Field → Option (List Bas)
  | _, [] => some []
  | off, f :: fs => if f.name = "_" ∨ f.offset ≠ off then none else match g f.type with
    | some ks => if (P.info? f.type).map (·.size) = some ks.length ∧ ks.length ≠ 0 then (match shapeFs P g (off + ks.length) fs with
      | some r => some (ks ++ r)
      | none => none) else none
    | none => none
/-- the kinds of a type's cells, if all are plain -/
def shapeAt (P : Program) : Nat → TypeId → Option (List Bas)
  | 0, _ => none
  | d + 1, t => match P.underlying t with
    | some .bool => some [.bool]
    | some .string => some [.str]
    | some (.int k) => some [.int k]
    | some (.struct fs) => if P.stoodInHeld t then none else shapeFs P (shapeAt P d) 0 fs.toList
    | _ => none
def aggT (P : Program) (t : TypeId) : Bool := match P.underlying t with
  | some (.struct _) => true
  | _ => false
def mkV (P : Program) (t : TypeId) (xs : List Value) : Value := if aggT P t then .agg xs.toArray else xs.headD undef
theorem valEq_split : ∀ (n : Nat) (xs ys : List Value) (r : Bool), valEq xs ys = some r → ∃ r1 r2, valEq (xs.take n) (ys.take n) = some r1 ∧ valEq (xs.drop n) (ys.drop n) = some r2 ∧ r = (r1 && r2)
  | 0, xs, ys, r, h => ⟨true, r, rfl, h, rfl⟩
  | n + 1, [], [], r, h => by cases h; exact ⟨true, true, rfl, rfl, rfl⟩
  | n + 1, [], _ :: _, r, h => by simp [valEq] at h
  | n + 1, x :: xs, [], r, h => by cases x <;> simp [valEq] at h
  | n + 1, x :: xs, y :: ys, r, h => by
    have key : ∀ (b : Bool), (match valEq xs ys with | some r => some (b && r) | none => none) = some r → (∀ xs ys, valEq (x :: xs) (y :: ys) = match valEq xs ys with | some r => some (b && r) | none => none) → ∃ r1 r2, valEq ((x :: xs).take (n + 1)) ((y :: ys).take (n + 1)) = some r1 ∧ valEq ((x :: xs).drop (n + 1)) ((y :: ys).drop (n + 1)) = some r2 ∧ r = (r1 && r2) := fun b hb he => by
      cases hq : valEq xs ys with
      | none => rw [hq] at hb; cases hb
      | some r0 =>
        rw [hq] at hb
        obtain ⟨r1, r2, h1, h2, h3⟩ := valEq_split n xs ys r0 hq
        refine ⟨b && r1, r2, ?_, h2, ?_⟩
        · rw [List.take_succ_cons, List.take_succ_cons, he, h1]
        · cases hb; rw [h3, Bool.and_assoc]
    cases x <;> cases y <;> first | (simp [valEq] at h; done) | skip
    all_goals
      simp only [valEq] at h
      exact key _ h fun _ _ => rfl
theorem kinds_drop {xs : List Value} {ks1 ks2 : List Bas} (h : xs.map kd = (ks1 ++ ks2).map some) : (xs.take ks1.length).map kd = ks1.map some ∧ (xs.drop ks1.length).map kd = ks2.map some := by
  rw [List.map_take, List.map_drop, h, List.map_append]
  have hl : ks1.length = (ks1.map some).length := by simp
  refine ⟨?_, ?_⟩
  · rw [hl, List.take_left]
  · rw [hl, List.drop_left]
section
variable {P : Program}
theorem run_part_at {t : TypeId} {xs : List Value} {off n : Nat} (hi : (P.info? t).map (·.size) = some n) (hl : off + n ≤ xs.length) (h1 : aggT P t = false → n = 1) (hu : P.underlying t ≠ none) (harr : ∀ m e, P.underlying t ≠ some (.array m e)) (w : World) : (part t xs.toArray off).run P w = .ok (mkV P t ((xs.drop off).take n)) w := by
  obtain ⟨i, hq0, rfl⟩ := Option.map_eq_some_iff.1 hi
  have hti : (typeInfo t).run P w = .ok i w := by simp [typeInfo, hq0]
  cases hq : P.underlying t with
  | none => exact absurd hq hu
  | some d =>
    by_cases ha : aggT P t = true
    · have hst : ∃ fs, d = .struct fs := by
        unfold aggT at ha
        rw [hq] at ha
        cases d <;> first | exact ⟨_, rfl⟩ | cases ha
      obtain ⟨fs, rfl⟩ := hst
      have e : xs.toArray.extract off (off + i.size) = ((xs.drop off).take i.size).toArray := by
        apply Array.ext
        · simp <;> omega
        · intro j h1 h2; simp
      have hag : (isAgg t).run P w = .ok true w := by
        simp only [isAgg, Sem.run_bind, run_underlying hq, Result.andThen_ok]
        rfl
      simp [part, hag, sizeOf, hti, mkV, ha, e]
    · have ha : aggT P t = false := by simpa using ha
      have hn := h1 ha
      have hv : xs[off]? = some (xs[off]'(by omega)) := List.getElem?_eq_getElem (by omega)
      have e : ((xs.drop off).take i.size).headD undef = xs[off]'(by omega) := by
        rw [hn, List.drop_eq_getElem_cons (by omega), List.take_succ_cons, List.headD_cons]
      have hna : ∀ fs, d ≠ .struct fs := fun fs e => by
        unfold aggT at ha
        rw [hq, e] at ha; cases ha
      have hnr : ∀ m e, d ≠ .array m e := fun m e he => harr m e (by rw [hq, he])
      have hag : (isAgg t).run P w = .ok false w := by
        simp only [isAgg, Sem.run_bind, run_underlying hq, Result.andThen_ok]
        clear e hv hn h1 ha hti
        cases d <;> first | rfl | (exact absurd rfl (hna _)) | (exact absurd rfl (hnr _ _))
      have hx : xs.toArray[off]? = some (xs[off]'(by omega)) := by rw [List.getElem?_toArray]; exact hv
      simp only [part, Sem.run_bind, hag, Result.andThen_ok, Bool.false_eq_true, if_false, hx, Sem.run_pure, mkV, ha, e]
theorem eq_fs {dd : Nat} {g : TypeId → Option (List Bas)} (hg : ∀ t ks xs ys r w, g t = some ks → xs.map kd = ks.map some → ys.map kd = ks.map some → valEq xs ys = some r → (Op.equalIn dd t (mkV P t xs) (mkV P t ys)).run P w = .ok r w)
    (hg1 : ∀ t ks, g t = some ks → (aggT P t = false → ks.length = 1) ∧ P.underlying t ≠ none ∧ ∀ m e, P.underlying t ≠ some (.array m e)) : ∀ (fs : List Field) (off : Nat) (ks : List Bas) (xs ys : List Value) (r : Bool) (w : World), shapeFs P g off fs = some ks → (xs.drop off).map kd = ks.map some → (ys.drop off).map kd = ks.map some → valEq (xs.drop off) (ys.drop off) = some r → (Op.eqFields dd xs.toArray ys.toArray fs).run P w = .ok r w
  | [], off, ks, xs, ys, r, w, h, hx, hy, hr => by
    cases h
    have e1 : xs.drop off = [] := by simpa using hx
    have e2 : ys.drop off = [] := by simpa using hy
    rw [e1, e2] at hr
    cases hr
    simp [Op.eqFields]
  | f :: fs, off, ks, xs, ys, r, w, h, hx, hy, hr => by
    simp only [shapeFs] at h
    split at h
    · cases h
    · rename_i hf
      have hf1 : f.name ≠ "_" := fun e => hf (.inl e)
      have hf2 : f.offset = off := by
        by_cases e : f.offset = off
        · exact e
        · exact absurd (.inr e) hf
      split at h
      · rename_i ks1 hk1
        split at h
        · rename_i hsz0
          obtain ⟨hsz, hnz⟩ := hsz0
          split at h
          · rename_i ks2 hk2
            cases h
            obtain ⟨x1, x2⟩ := kinds_drop hx
            obtain ⟨y1, y2⟩ := kinds_drop hy
            obtain ⟨r1, r2, v1, v2, rfl⟩ := valEq_split ks1.length _ _ _ hr
            have lx : off + ks1.length ≤ xs.length := by
              have := congrArg List.length hx
              simp at this
              omega
            have ly : off + ks1.length ≤ ys.length := by
              have := congrArg List.length hy
              simp at this
              omega
            obtain ⟨g1, g2, g3⟩ := hg1 _ _ hk1
            simp only [Op.eqFields, if_pos hf1, hf2, Sem.run_bind, run_part_at hsz lx g1 g2 g3, run_part_at hsz ly g1 g2 g3, Result.andThen_ok, hg _ _ _ _ _ _ hk1 x1 y1 v1]
            cases r1 with
            | false => simp
            | true =>
              simp only [Bool.not_true, Bool.false_eq_true, if_false, Bool.true_and]
              exact eq_fs hg hg1 fs (off + ks1.length) ks2 xs ys r2 w hk2 (by rw [← List.drop_drop]; exact x2) (by rw [← List.drop_drop]; exact y2) (by rw [← List.drop_drop, ← List.drop_drop]; exact v2)
          · cases h
        · cases h
      · cases h
theorem shape_one : ∀ (d : Nat) (t : TypeId) (ks : List Bas), shapeAt P d t = some ks → (aggT P t = false → ks.length = 1) ∧ P.underlying t ≠ none ∧ ∀ m e, P.underlying t ≠ some (.array m e)
  | 0, t, ks, h => by cases h
  | d + 1, t, ks, h => by
    unfold shapeAt at h
    split at h
    · rename_i hq; cases h; exact ⟨fun _ => rfl, by rw [hq]; simp, by rw [hq]; simp⟩
    · rename_i hq; cases h; exact ⟨fun _ => rfl, by rw [hq]; simp, by rw [hq]; simp⟩
    · rename_i hq; cases h; exact ⟨fun _ => rfl, by rw [hq]; simp, by rw [hq]; simp⟩
    · rename_i hq; exact ⟨fun ha => by simp [aggT, hq] at ha, by rw [hq]; simp, by rw [hq]; simp⟩
    · cases h
theorem kd_one {u : Value} {b : Bas} (h : kd u = some b) : match b with
    | .bool => ∃ a, u = .bool a
    | .str => ∃ a, u = .string a
    | .int k => ∃ a, u = .int k a := by
  cases u <;> simp [kd] at h <;> subst h <;> exact ⟨_, rfl⟩
theorem one_of {xs : List Value} {b : Bas} (h : xs.map kd = [b].map some) : ∃ u, xs = [u] ∧ kd u = some b := by
  match xs, h with
  | [u], h => exact ⟨u, rfl, by simpa using h⟩
  | [], h => simp at h
  | _ :: _ :: _, h => simp at h
theorem eq_at : ∀ (d : Nat) (D : Nat) (t : TypeId) (ks : List Bas) (xs ys : List Value) (r : Bool) (w : World), shapeAt P d t = some ks → xs.map kd = ks.map some → ys.map kd = ks.map some → valEq xs ys = some r → (Op.equalIn (D + d) t (mkV P t xs) (mkV P t ys)).run P w = .ok r w
  | 0, D, t, ks, xs, ys, r, w, h, _, _, _ => by cases h
  | d + 1, D, t, ks, xs, ys, r, w, h, hx, hy, hr => by
    have h0 := h
    unfold shapeAt at h
    split at h
    · rename_i hq
      cases h
      obtain ⟨u, rfl, hu⟩ := one_of hx
      obtain ⟨v, rfl, hv⟩ := one_of hy
      obtain ⟨a, rfl⟩ := kd_one hu
      obtain ⟨b, rfl⟩ := kd_one hv
      cases hr
      simp only [mkV, aggT, hq, Bool.false_eq_true, if_false, List.headD_cons]
      rw [show D + (d + 1) = (D + d) + 1 from rfl, run_equalIn_bool' w (D + d) t a b hq]
      simp
    · rename_i hq
      cases h
      obtain ⟨u, rfl, hu⟩ := one_of hx
      obtain ⟨v, rfl, hv⟩ := one_of hy
      obtain ⟨a, rfl⟩ := kd_one hu
      obtain ⟨b, rfl⟩ := kd_one hv
      cases hr
      simp only [mkV, aggT, hq, Bool.false_eq_true, if_false, List.headD_cons]
      rw [show D + (d + 1) = (D + d) + 1 from rfl, run_equalIn_string w (D + d) t a b hq]
      simp [beq_toListBytes]
    · rename_i k hq
      cases h
      obtain ⟨u, rfl, hu⟩ := one_of hx
      obtain ⟨v, rfl, hv⟩ := one_of hy
      obtain ⟨a, rfl⟩ := kd_one hu
      obtain ⟨b, rfl⟩ := kd_one hv
      cases hr
      simp only [mkV, aggT, hq, Bool.false_eq_true, if_false, List.headD_cons]
      rw [show D + (d + 1) = (D + d) + 1 from rfl, run_equalIn_int w (D + d) t k k a b hq]
      simp
    · rename_i fs hq
      split at h
      · cases h
      · rename_i hs
        have hfo : P.fieldsOf t = fs := by simp [Program.fieldsOf, hq]
        simp only [mkV, aggT, hq, if_true]
        rw [show D + (d + 1) = (D + d) + 1 from rfl, run_equalIn_struct w (D + d) t _ _ (by rw [hfo]; exact hq) (by simpa using hs), hfo]
        exact eq_fs (fun t ks xs ys r w h1 h2 h3 h4 => eq_at d D t ks xs ys r w h1 h2 h3 h4) (shape_one d) fs.toList 0 ks xs ys r w h (by simpa using hx) (by simpa using hy) (by simpa using hr)
    · cases h
theorem eqOk_of {t : TypeId} {ks : List Bas} (d : Nat) (hd : d ≤ 10000) (hs : shapeAt P d t = some ks) (hag : aggT P t = true) (hgd : P.eqGuardType P.depth t = false) : EqOk P t (ks.map some) := by
  intro us vs r w hu hv hr x y
  have key : (Op.equalIn 10000 t (.agg us) (.agg vs)).run P w = .ok r w := by
    have := eq_at d (10000 - d) t ks us.toList vs.toList r w hs hu hv hr
    rw [show 10000 - d + d = 10000 by omega] at this
    simpa [mkV, hag] using this
  refine ⟨run_eqGuard_agg w .eql t x y us vs hgd, run_eqGuard_agg w .neq t x y us vs hgd, ?_, ?_⟩
  · rw [run_eql_struct, key]; rfl
  · rw [run_neq_struct, key]; rfl
end
end Go.Dl
