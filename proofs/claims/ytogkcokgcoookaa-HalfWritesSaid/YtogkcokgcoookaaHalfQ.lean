/-
  Layer 10 (half): plain laws: fit rows of half-edges; what is found behind Put and Drop. No program in sight.
-/
import Derived.Test.YtogkcokgcoookaaHalfPl
import Derived.Test.YtogkcokgcoookaaHalfFits
import Derived.Test.YtogkcokgcoookaaHalfP
namespace Go.Proofs.Ytogkcokgcoookaa
open Go.RowKit Go.Shelf Go.Ed

theorem halfAt_lt {l : List Half} {k : Nat} (hk : k < l.length) : halfAt l k = l[k] := by simp [halfAt, List.getD, List.getElem?_eq_getElem hk]
theorem rise_of {l : List Half} (h : ∀ k (hk : k + 1 < l.length), l[k].peer < l[k + 1].peer) : riseH l := by
  unfold riseH
  rw [List.pairwise_iff_getElem]
  have key : ∀ j i (hi : i < l.length) (hj : j < l.length), i < j → l[i].peer < l[j].peer := by
    intro j
    induction j with
    | zero => intro i _ _ h; omega
    | succ j ih =>
      intro i hi hj hij
      have h1 := h j hj
      rcases Nat.lt_or_ge i j with h2 | h2
      · have := ih i hi (by omega) h2
        omega
      · obtain rfl : i = j := by omega
        exact h1
  intro i j hi hj hij
  exact key j i hi hj hij
theorem fitsH_iff {id : Int} {l : List Half} : fitsH id l = true ↔ isNode id = true ∧ (∀ x ∈ l, fitH id x = true) ∧ riseH l := by
  unfold fitsH
  rw [Bool.and_eq_true, List.all_eq_true]
  constructor
  · rintro ⟨h1, h2⟩
    have h3 : ∀ k (hk : k < l.length), fitH id l[k] = true ∧ (k = 0 ∨ (halfAt l (k - 1)).peer < l[k].peer) := fun k hk => by
      have := h1 k (by simpa using hk)
      unfold stepH at this
      rw [halfAt_lt hk] at this
      simpa using this
    refine ⟨h2, fun x hx => ?_, rise_of fun k hk => ?_⟩
    · obtain ⟨k, hk, rfl⟩ := List.getElem_of_mem hx
      exact (h3 k hk).1
    · have := (h3 (k + 1) hk).2
      rw [Nat.add_sub_cancel, halfAt_lt (by omega)] at this
      exact this.resolve_left (by omega)
  · rintro ⟨h1, h2, h3⟩
    refine ⟨fun k hk => ?_, h1⟩
    have hk : k < l.length := by simpa using hk
    unfold stepH
    rw [halfAt_lt hk, h2 _ (List.getElem_mem hk), Bool.true_and]
    rcases Nat.eq_zero_or_pos k with h0 | h0
    · simp [h0]
    · rw [halfAt_lt (by omega : k - 1 < l.length)]
      have := List.pairwise_iff_getElem.1 h3 (k - 1) k (by omega) hk (by omega)
      simp [this]
theorem fit_peer {id : Int} {h : Half} (hf : fitH id h = true) : (0 ≤ h.peer ∧ h.peer < 16) ∧ h.lines.length ≤ 8 := by
  rw [fitH, Bool.and_eq_true] at hf
  have h1 := hf.1
  simp [headOk, isNode] at h1
  omega
theorem rise_len {l : List Half} (h : riseH l) (hb : ∀ x ∈ l, 0 ≤ x.peer ∧ x.peer < 16) : l.length ≤ 16 := by
  have key : ∀ k (hk : k < l.length), (k : Int) ≤ l[k].peer := by
    intro k
    induction k with
    | zero => intro hk; have := (hb _ (List.getElem_mem hk)).1; omega
    | succ k ih =>
      intro hk
      have h1 := List.pairwise_iff_getElem.1 h k (k + 1) (by omega) hk (by omega)
      have := ih (by omega)
      omega
  rcases Nat.lt_or_ge 16 l.length with h1 | h1
  · have h2 := key 16 h1
    have h3 := (hb _ (List.getElem_mem h1)).2
    omega
  · exact h1

theorem mem_put {l : List Half} {h x : Half} : x ∈ putL l h ↔ (x ∈ l ∧ x.peer ≠ h.peer) ∨ x = h := by
  simp only [putL, List.mem_append, List.mem_filter, List.mem_cons, decide_eq_true_eq]
  constructor
  · rintro (⟨h1, h2⟩ | h1 | ⟨h1, h2⟩)
    · exact .inl ⟨h1, by omega⟩
    · exact .inr h1
    · exact .inl ⟨h1, by omega⟩
  · rintro (⟨h1, h2⟩ | h1)
    · rcases Int.lt_or_lt_of_ne h2 with h3 | h3
      · exact .inl ⟨h1, h3⟩
      · exact .inr (.inr ⟨h1, h3⟩)
    · exact .inr (.inl h1)
theorem rise_put {l : List Half} {h : Half} (hr : riseH l) : riseH (putL l h) := by
  unfold riseH putL
  rw [List.pairwise_append]
  refine ⟨hr.filter _, List.pairwise_cons.2 ⟨fun x hx => by simpa using (List.mem_filter.1 hx).2, hr.filter _⟩, fun a ha b hb => ?_⟩
  have h1 : a.peer < h.peer := by simpa using (List.mem_filter.1 ha).2
  rcases List.mem_cons.1 hb with rfl | hb
  · exact h1
  · have h2 : h.peer < b.peer := by simpa using (List.mem_filter.1 hb).2
    omega
theorem fits_put {id : Int} {l : List Half} {h : Half} (hl : fitsH id l = true) (hh : fitH id h = true) : fitsH id (putL l h) = true := by
  obtain ⟨h1, h2, h3⟩ := fitsH_iff.1 hl
  refine fitsH_iff.2 ⟨h1, fun x hx => ?_, rise_put h3⟩
  rcases mem_put.1 hx with h4 | rfl
  · exact h2 x h4.1
  · exact hh
theorem find_mem {l : List Half} (hr : riseH l) {x : Half} (hx : x ∈ l) : findH l x.peer = some x := by
  obtain ⟨k, hk, rfl⟩ := List.getElem_of_mem hx
  unfold findH
  rw [List.find?_eq_some_iff_getElem]
  refine ⟨by simp, k, hk, rfl, fun j hj => ?_⟩
  have := List.pairwise_iff_getElem.1 hr j k (by omega) hk hj
  simp only [Bool.not_eq_true', beq_eq_false_iff_ne, ne_eq]
  omega
theorem find_put {l : List Half} {h : Half} (hr : riseH l) : findH (putL l h) h.peer = some h := find_mem (rise_put hr) (mem_put.2 (.inr rfl))
theorem find_put_other {l : List Half} {h x : Half} (hr : riseH l) (hx : x ∈ l) (hne : x.peer ≠ h.peer) : findH (putL l h) x.peer = some x := find_mem (rise_put hr) (mem_put.2 (.inl ⟨hx, hne⟩))
theorem drop_put {l : List Half} {h : Half} : dropL (putL l h) h.peer = l.filter (fun x => decide (x.peer < h.peer)) ++ l.filter (fun x => decide (h.peer < x.peer)) :=
  drop_out rfl rfl (fun x hx => by have : x.peer < h.peer := by simpa using (List.mem_filter.1 hx).2
                                   omega) (fun x hx => by have : h.peer < x.peer := by simpa using (List.mem_filter.1 hx).2
                                                          omega)
theorem drop_put_len {l : List Half} {h : Half} : (dropL (putL l h) h.peer).length + 1 = (putL l h).length := by
  rw [drop_put, putL, List.length_append, List.length_append, List.length_cons]; omega
theorem rise_parts {q : Int} : ∀ {l : List Half}, riseH l → (∀ x ∈ l, x.peer ≠ q) → l.filter (fun x => decide (x.peer < q)) ++ l.filter (fun x => decide (q < x.peer)) = l
  | [], _, _ => rfl
  | x :: l, hr, hn => by
    obtain ⟨h1, h2⟩ := List.pairwise_cons.1 hr
    have ih := rise_parts h2 (fun y hy => hn y (List.mem_cons_of_mem _ hy))
    have hx := hn x (List.mem_cons_self ..)
    rcases Int.lt_or_lt_of_ne hx with h3 | h3
    · rw [List.filter_cons_of_pos (by simpa using h3), List.filter_cons_of_neg (by simp; omega), List.cons_append, ih]
    · have h4 : l.filter (fun y => decide (y.peer < q)) = [] := filter_no fun y hy => by have := h1 y hy; simp; omega
      rw [h4, List.nil_append] at ih
      rw [List.filter_cons_of_neg (by simp; omega), List.filter_cons_of_pos (by simpa using h3), h4, List.nil_append, ih]
theorem drop_put_none {l : List Half} {h : Half} (hr : riseH l) (hf : findH l h.peer = none) : dropL (putL l h) h.peer = l := by
  rw [drop_put]
  refine rise_parts hr fun x hx e => ?_
  have := List.find?_eq_none.1 hf x hx
  simp [e] at this
theorem has_put {l : List Half} {h : Half} (hr : riseH l) : hasH (putL l h) h.peer = true := by rw [hasH, find_put hr]; rfl
theorem hs_short {vs : List HV} {id : Int} (h : fitsH id (vs.map HV.h) = true) : ∀ v ∈ vs, (0 ≤ v.h.peer ∧ v.h.peer < 16) ∧ v.h.lines.length * 40 ≤ 140737488355328 := fun v hv => by
  have := fit_peer ((fitsH_iff.1 h).2.1 v.h (List.mem_map.2 ⟨v, hv, rfl⟩))
  omega
theorem hs_few {vs : List HV} {id : Int} (h : fitsH id (vs.map HV.h) = true) : vs.length ≤ 16 := by
  have h1 := fitsH_iff.1 h
  have := rise_len h1.2.2 (fun x hx => (fit_peer (h1.2.1 x hx)).1)
  simpa using this

theorem fit_short {id : Int} {h : Half} (hf : fitH id h = true) : h.lines.length ≤ maxLen ∧ ∀ l ∈ h.lines, l.nm.size ≤ maxLen := by
  have h8 := (fit_peer hf).2
  refine ⟨by unfold maxLen; omega, fun l hl => ?_⟩
  rw [fitH, Bool.and_eq_true] at hf
  obtain ⟨k, hk, rfl⟩ := List.getElem_of_mem hl
  have := List.all_eq_true.1 hf.2 k (by simpa using hk)
  rw [lineOk_of hk rfl] at this
  simp only [Bool.and_eq_true] at this
  have h1 := this.1.1.1
  simp only [nameOk, Bool.and_eq_true, decide_eq_true_eq] at h1
  unfold maxLen
  omega
theorem hs_shorts {vs : List HV} {id : Int} (h : fitsH id (vs.map HV.h) = true) : ∀ v ∈ vs, ShortH v := fun v hv => fit_short ((fitsH_iff.1 h).2.1 v.h (List.mem_map.2 ⟨v, hv, rfl⟩))

end Go.Proofs.Ytogkcokgcoookaa
