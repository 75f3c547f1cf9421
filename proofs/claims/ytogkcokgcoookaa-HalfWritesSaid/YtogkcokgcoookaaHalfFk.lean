/-
  Plain laws for HalfWrites: a merge keeps a fit half-edge fit, and the document's Merge answers the same.
-/
import Derived.Test.YtogkcokgcoookaaHalfGp
import Derived.Test.YtogkcokgcoookaaDh
set_option linter.unusedSimpArgs false
set_option linter.unusedVariables false
namespace Go.Proofs.Ytogkcokgcoookaa
open Go.ChangeShapes Go.WideShapes Go.ChangeAt Go.RowKit Go.Ed Go.Dl

theorem bl_tri : ∀ {a b : List UInt8}, Op.bytesLess a b = false → a ≠ b → Op.bytesLess b a = true
  | [], [], _, h => absurd rfl h
  | [], _ :: _, h, _ => by simp [Op.bytesLess] at h
  | _ :: _, [], _, _ => rfl
  | x :: a, y :: b, h, hne => by
    simp only [Op.bytesLess] at h ⊢
    have ih := @bl_tri a b
    rcases Nat.lt_trichotomy x.toNat y.toNat with h1 | h1 | h1
    · have : x < y := UInt8.lt_iff_toNat_lt.2 h1
      simp [this] at h
    · have e : x = y := UInt8.toNat_inj.1 h1
      subst e
      have := ih (by simpa using h) (fun e => hne (by rw [e]))
      simp [this]
    · have : y < x := UInt8.lt_iff_toNat_lt.2 h1
      simp [this]
def good (id p : Int) (x : Line) : Prop := nameOk x.nm = true ∧ regFit x.ver x.wt x.fl id p = true ∧ regZero x.ver x.wt x.fl = false
def risL (ls : List Line) : Prop := ls.Pairwise fun x y => Op.bytesLess x.nm.toList y.nm.toList = true
theorem fit_parts {id : Int} {h : Half} (hf : fitH id h = true) : headOk id h = true ∧ (∀ x ∈ h.lines, good id h.peer x) ∧ risL h.lines := by
  refine ⟨?_, fun x hx => ?_, List.pairwise_iff_getElem.2 fun i j hi hj hij => fit_rise hf i j hi hj hij⟩
  · rw [fitH, Bool.and_eq_true] at hf; exact hf.1
  · obtain ⟨k, hk, rfl⟩ := List.getElem_of_mem hx
    rw [fitH, Bool.and_eq_true] at hf
    have := List.all_eq_true.1 hf.2 k (by simpa using hk)
    rw [lineOk_of hk rfl] at this
    simp only [Bool.and_eq_true, Bool.not_eq_true'] at this
    exact ⟨this.1.1.1, this.1.2, this.2⟩
theorem fit_make {id : Int} {h : Half} (hh : headOk id h = true) (hg : ∀ x ∈ h.lines, good id h.peer x) (hr : risL h.lines) : fitH id h = true := by
  refine fitH_good hh fun k hk => ?_
  obtain ⟨h1, h2, h3⟩ := hg _ (List.getElem_mem hk)
  rw [lineOk_of hk rfl, h1, h2, h3]
  cases k with
  | zero => rfl
  | succ k =>
    have := List.pairwise_iff_getElem.1 hr k (k + 1) (by omega) hk (by omega)
    rw [Nat.add_sub_cancel, lineAt_eq (by omega : k < h.lines.length), this]
    rfl
theorem low_all {ls : List Line} {nm : ByteArray} : ∀ x ∈ ls.take (seekL ls nm), Op.bytesLess x.nm.toList nm.toList = true := fun x hx => by
  obtain ⟨j, hj, rfl⟩ := List.getElem_of_mem hx
  rw [List.length_take] at hj
  rw [List.getElem_take]
  exact seek_low (by omega) (by omega)
/-- what stands behind the place, stands behind the name -/
theorem high_all {ls : List Line} {nm : ByteArray} (hr : risL ls) {s : Nat} (hs : ∀ (h : s < ls.length), Op.bytesLess nm.toList ls[s].nm.toList = true) : ∀ x ∈ ls.drop s, Op.bytesLess nm.toList x.nm.toList = true := fun x hx => by
  obtain ⟨j, hj, rfl⟩ := List.getElem_of_mem hx
  rw [List.length_drop] at hj
  rw [List.getElem_drop]
  rcases Nat.eq_zero_or_pos j with rfl | h0
  · exact hs (by omega)
  · exact bl_trans (hs (by omega)) (List.pairwise_iff_getElem.1 hr s (s + j) (by omega) (by omega) (by omega))
theorem put_ris {ls : List Line} {nm : ByteArray} (hr : risL ls) {s : Nat} (hle : seekL ls nm ≤ s) (hs : ∀ (h : s < ls.length), Op.bytesLess nm.toList ls[s].nm.toList = true) (ver wt fl : Int) : risL (ls.take (seekL ls nm) ++ ⟨nm, ver, wt, fl⟩ :: ls.drop s) := by
  refine List.pairwise_append.2 ⟨hr.sublist (List.take_sublist _ _), List.pairwise_cons.2 ⟨high_all hr hs, hr.sublist (List.drop_sublist _ _)⟩, fun x hx y hy => ?_⟩
  rcases List.mem_cons.1 hy with rfl | hy
  · exact low_all x hx
  · exact bl_trans (low_all x hx) (high_all hr hs y hy)
theorem write_fit {id : Int} {h : Half} (hf : fitH id h = true) {nm : ByteArray} (hnm : nameOk nm = true) {r : Rg} (hr : fitR r id h.peer = true) (hz : isZ r.ver r.wt r.fl = false) :
    (∀ x ∈ writeL h.lines nm r.ver r.wt r.fl, good id h.peer x) ∧ risL (writeL h.lines nm r.ver r.wt r.fl) ∧ (writeL h.lines nm r.ver r.wt r.fl).length ≤ 8 := by
  obtain ⟨h1, h2, h3⟩ := fit_parts hf
  have h8 := (fit_peer hf).2
  have hnew : good id h.peer ⟨nm, r.ver, r.wt, r.fl⟩ := ⟨hnm, hr, hz⟩
  have hk := seekL_le h.lines nm
  have mem : ∀ s, ∀ x ∈ h.lines.take (seekL h.lines nm) ++ (⟨nm, r.ver, r.wt, r.fl⟩ : Line) :: h.lines.drop s, good id h.peer x := fun s x hx => by
    rcases List.mem_append.1 hx with hx | hx
    · exact h2 x (List.mem_of_mem_take hx)
    · rcases List.mem_cons.1 hx with rfl | hx
      · exact hnew
      · exact h2 x (List.mem_of_mem_drop hx)
  unfold writeL
  rw [hz]
  cases hh : hasL h.lines nm with
  | true =>
    obtain ⟨hl, e⟩ := hasL_lt hh
    simp only [if_true, Bool.false_eq_true, if_false, List.singleton_append]
    refine ⟨mem _, put_ris h3 (Nat.le_succ _) (fun hs => ?_) _ _ _, ?_⟩
    · have := List.pairwise_iff_getElem.1 h3 (seekL h.lines nm) (seekL h.lines nm + 1) hl hs (by omega)
      rw [e] at this
      exact this
    · simp only [List.length_append, List.length_take, List.length_cons, List.length_drop]; omega
  | false =>
    simp only [Bool.false_eq_true, if_false, true_and]
    by_cases hlt : h.lines.length < 8
    · rw [if_pos hlt]
      refine ⟨mem _, put_ris h3 (Nat.le_refl _) (fun hs => ?_) _ _ _, ?_⟩
      · have h4 := seek_at hs
        unfold lineLt at h4
        refine bl_tri h4 fun e => ?_
        unfold hasL at hh
        rw [List.getElem?_eq_getElem hs] at hh
        have h5 : (h.lines[seekL h.lines nm].nm.toList == nm.toList) = false := hh
        rw [e] at h5
        simp at h5
      · simp only [List.length_append, List.length_take, List.length_cons, List.length_drop]; omega
    · rw [if_neg hlt]; exact ⟨h2, h3, h8⟩
end Go.Proofs.Ytogkcokgcoookaa
