/-
  The logic on data: literals of several elements, as data.
-/
import Derived.Test.YtajokeimipllcaaDv
set_option linter.unusedSimpArgs false
set_option linter.unusedVariables false
namespace Go.Dl
open Go.Ed Go.RowKit
def rowsD (S : St) : List (Nat × Operand) → Option (List (List F))
  | [] => some []
  | (_, x) :: r => match vcells (ev S x), rowsD S r with
    | some cs, some qs => match frz cs with
      | some q => some (q :: qs)
      | none => none
    | _, _ => none
theorem fill_all {k : Nat} : ∀ (vs : List Value) (j : Nat) (cs : Array Value), (∀ v ∈ vs, v.cells.size = k) → (j + vs.length) * k ≤ cs.size →
    ∃ cs', Instr.fill (fun i => some (i * k, k)) cs ((vs.zipIdx j).map fun p => (p.2, p.1)) = some cs' ∧ cs'.toList = cs.toList.take (j * k) ++ (vs.map fun v => v.cells.toList).flatten ++ cs.toList.drop ((j + vs.length) * k)
  | [], j, cs, _, _ => ⟨cs, rfl, by simp⟩
  | v :: vs, j, cs, hv, hl => by
    have h0 := hv v (by simp)
    have hl : (j + (vs.length + 1)) * k ≤ cs.size := hl
    have e2 : (j + (vs.length + 1)) * k = (j + 1) * k + vs.length * k := by rw [← Nat.add_mul]; congr 1; omega
    have e3 : (j + 1) * k = j * k + k := Nat.succ_mul _ _
    have e4 : (j + 1 + vs.length) * k = (j + (vs.length + 1)) * k := by congr 1; omega
    have hf := fold_set (j * k) v.cells.toList 0 cs (by simp; omega)
    obtain ⟨cs1, hc1⟩ : ∃ cs1, v.cells.zipIdx.foldl (fun cs p => cs.setIfInBounds (j * k + p.2) p.1) cs = cs1 := ⟨_, rfl⟩
    have hc2 : cs1.toList = cs.toList.take (j * k) ++ v.cells.toList ++ cs.toList.drop (j * k + k) := by
      rw [← hc1, ← Array.foldl_toList, Array.toList_zipIdx]
      rw [show (0 : Nat) = 0 from rfl] at hf
      simpa [h0] using hf
    have hs1 : cs1.size = cs.size := by
      have := congrArg List.length hc2
      simp [h0] at this
      omega
    obtain ⟨cs', h1, h2⟩ := fill_all vs (j + 1) cs1 (fun u hu => hv u (by simp [hu])) (by rw [hs1, e4]; exact hl)
    refine ⟨cs', ?_, ?_⟩
    · rw [List.zipIdx_cons, List.map_cons]
      unfold Instr.fill
      simp only
      rw [if_neg (by simp [h0]; omega), hc1]
      exact h1
    · rw [h2, hc2]
      have l1 : (cs.toList.take (j * k) ++ v.cells.toList).length = (j + 1) * k := by simp [h0]; omega
      rw [List.take_left' l1, List.map_cons, List.flatten_cons]
      have e5 : ((j + 1) + vs.length) * k = (cs.toList.take (j * k) ++ v.cells.toList).length + vs.length * k := by rw [l1, ← Nat.add_mul]
      rw [e5, List.drop_length_add_append, List.drop_drop]
      simp only [List.append_assoc, List.length_cons]
      congr 4
      omega
theorem parts_zip {f : Operand → Value} : ∀ (l : List (Nat × Operand)) (j : Nat), l.map (·.1) = List.range' j l.length → l.map (fun p => (p.1, f p.2)) = ((l.map fun p => f p.2).zipIdx j).map fun p => (p.2, p.1)
  | [], j, _ => rfl
  | (i, x) :: l, j, h => by
    simp only [List.map_cons, List.length_cons, List.range'_succ, List.cons.injEq] at h
    rw [List.map_cons, List.map_cons, List.zipIdx_cons, List.map_cons, parts_zip l (j + 1) h.2, h.1]
section
variable {P : Program} {T : Nat → Option Ty} {X : Fr} {w0 w : World} {N : Nat} {S : St} {E : Env} {a : Act} {o : Oper} {K : St → Prop}
theorem rows_rep (hs : Sim X w0 N S E a w) : ∀ (l : List (Nat × Operand)) {rows : List (List F)}, rowsD S l = some rows →
    RepFs w E.I rows.flatten ((l.map fun p => (a.eval p.2).cells.toList).flatten) ∧ rows.map (·.length) = l.map fun p => (a.eval p.2).cells.size
  | [], rows, h => by cases h; exact ⟨⟨rfl, fun j x u hx => by simp at hx⟩, rfl⟩
  | (i, x) :: l, rows, h => by
    simp only [rowsD] at h
    split at h
    · rename_i cs qs hc hq
      split at h
      · rename_i q hr
        cases h
        obtain ⟨h1, h2⟩ := rows_rep hs l hq
        have hv := vcells_ok (hs.ev x) hc
        obtain ⟨h3, h4⟩ := frz_ok hr hv
        refine ⟨?_, ?_⟩
        · rw [List.flatten_cons, List.map_cons, List.flatten_cons]
          refine ⟨by simp [h3.1, h1.1], fun j y u hx hu => ?_⟩
          rcases Nat.lt_or_ge j q.length with hj | hj
          · rw [List.getElem?_append_left hj] at hx
            rw [List.getElem?_append_left (by rw [← h3.1]; exact hj)] at hu
            exact h3.2 j y u hx hu
          · rw [List.getElem?_append_right hj] at hx
            rw [List.getElem?_append_right (by rw [← h3.1]; exact hj), ← h3.1] at hu
            exact h1.2 _ y u hx hu
        · have := h3.1
          simp only [Array.length_toList] at this
          simp [h2, this]
      · cases h
    · cases h
/-- a literal of several elements -/
theorem dop_lits {t n : Nat} {ps : Array (Nat × Operand)} (hop : o.op = .buildSlice t n ps) (hT : ∀ t y, T t = some y → TyOk P t y) {y : Ty} (hy : T t = some y) {e k b : Nat} (he : y.elem = some (e, k, b)) {rows : List (List F)} (hr : rowsD S ps.toList = some rows)
    (hk : (rows.all fun r => r.length == k) = true) (hn : rows.length = n) (hi : ps.toList.map (·.1) = List.range' 0 ps.toList.length) (h0 : 0 < n) (hsm : n * k ≤ 16777216)
    (hK : K ⟨putS S.slots o.dst (.c (.f (.l k rows))), S.blks, S.arrs⟩) : DOp P X w0 N o K S := fun E a w hs hd K' Q h => by
  obtain ⟨hu1, hk0, ie, ze, hie, hze, hu2, hbe, hzk⟩ := (hT _ _ hy).elem _ _ _ he
  obtain ⟨h1, h2⟩ := rows_rep hs _ hr
  have hall : ∀ r ∈ rows, r.length = k := fun r hr => by simpa using List.all_eq_true.1 hk r hr
  have hlen : ps.toList.length = n := by have := congrArg List.length h2; simp at this; simp; omega
  have hsz : ∀ v ∈ ps.toList.map (fun p => a.eval p.2), v.cells.size = k := fun v hv => by
    obtain ⟨p, hp, rfl⟩ := List.mem_map.1 hv
    have hm : (a.eval p.2).cells.size ∈ rows.map (·.length) := by rw [h2]; exact List.mem_map.2 ⟨p, hp, rfl⟩
    obtain ⟨r, hr1, hr2⟩ := List.mem_map.1 hm
    rw [← hr2]; exact hall r hr1
  obtain ⟨cs', f1, f2⟩ := fill_all (ps.toList.map fun p => a.eval p.2) 0 ((Array.range (n * ie.size)).map (ze.cells[· % ze.cells.size]!)) hsz (by simp [hu2]; rw [← hlen]; simp)
  have hcs : cs'.toList = (ps.toList.map fun p => (a.eval p.2).cells.toList).flatten := by
    rw [f2, List.map_map]
    simp only [Nat.zero_mul, List.take_zero, List.nil_append, Nat.zero_add, List.length_map]
    rw [List.drop_of_length_le (by simp [hu2]; rw [← hlen]; simp), List.append_nil]
    rfl
  have hpos : ¬ n * ie.size = 0 := by rw [hu2]; exact Nat.ne_of_gt (Nat.mul_pos h0 hk0)
  have hx : (execOp a.eval o).run P w = .ok (.value (.slice (some ⟨w.heap.size, 0, none⟩) n n)) (w.alloc (.cells cs' e)) := by
    obtain ⟨dst, op, type, pos, after, guard⟩ := o
    simp only at hop
    subst hop
    simp only [execOp, Sem.run_bind]
    rw [run_buildSlice (P := P) w t e n _ cs' ie ze hu1 hie hze (by rw [hu2]; omega) hpos]
    · rfl
    · rw [Array.toList_map, parts_zip _ 0 hi, hu2]
      rw [hu2] at f1
      exact f1
  have h' := hs.newI (.cells cs' e)
  have hblk : Blk (w.alloc (.cells cs' e)) w.heap.size e cs' := Blk.new _ _ _
  have hb : Below w.heap.size w (w.alloc (.cells cs' e)) := (Below.refl _ w).alloc (Nat.le_refl _) _
  unfold Oper.wp
  rw [hx]
  refine h _ _ _ _ hK (h'.env (.c (.f (.l k rows))) _ (.c (.f (.l (fun j => cs'.getD j undef) hn h0 hall (Nat.le_refl _) (.inr rfl) (fun j x hj => ?_) fun j x hj => ?_))) o.dst hd)
  · have hj2 : j < cs'.size := by
      have q1 := (List.getElem?_eq_some_iff.1 hj).1
      have q2 := h1.1
      rw [← hcs] at q2
      simp at q1 q2
      omega
    rw [add_plain, hblk.cell]
    simp [Array.getD, hj2]
  · have hj2 : j < cs'.size := by
      have q1 := (List.getElem?_eq_some_iff.1 hj).1
      have q2 := h1.1
      rw [← hcs] at q2
      simp at q1 q2
      omega
    have := h1.2 j x cs'[j] hj (by rw [← hcs]; simp [hj2])
    have hget : cs'.getD j undef = cs'[j] := by simp [Array.getD, hj2]
    rw [hget]
    exact this.mono (fun b hb' => hb.block b (hs.il b hb')) fun _ h => .inl h
end
end Go.Dl
