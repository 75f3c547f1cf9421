/-
  Layer 14 (shake): plain laws on lists of what was seen. No walk.
-/
import Derived.Test.YtkbcnapfcojekaaShakeF
import Derived.Test.YtkbcnapfcojekaaShakeP
namespace Go.Proofs.Ytkbcnapfcojekaa
open Go.RowKit Go.Ed

/-- one element is as it must be -/
def okS (id : Int) (s : Seen) : Prop :=
  0 ≤ s.peer ∧ s.peer < 16 ∧ s.peer ≠ id ∧ 0 ≤ s.boot ∧ s.boot ≤ 1099511627776 ∧ 0 ≤ s.life ∧ s.life ≤ 1099511627776 ∧ 0 ≤ s.mine ∧ s.mine ≤ 1099511627776 ∧ (s.boot = 0 → s.life = 0 ∧ s.mine ≠ 0)
def rises (ls : List Seen) : Prop := ls.Pairwise fun a b => a.peer < b.peer
structure Fit (id : Int) (ls : List Seen) : Prop where
  node : isNode id = true
  ok : ∀ s ∈ ls, okS id s
  up : rises ls

theorem rises_of {ls : List Seen} (h : ∀ k, 0 < k → k < ls.length → (ls.getD (k - 1) noSeen).peer < (ls.getD k noSeen).peer) : rises ls := by
  have key : ∀ d j, j + d + 1 < ls.length → (ls.getD j noSeen).peer < (ls.getD (j + d + 1) noSeen).peer := by
    intro d
    induction d with
    | zero => intro j hj; simpa using h (j + 1) (by omega) hj
    | succ d ih =>
      intro j hj
      have h1 := ih j (by omega)
      have h2 := h (j + d + 1 + 1) (by omega) (by omega)
      rw [Nat.add_sub_cancel] at h2
      have : j + (d + 1) + 1 = j + d + 1 + 1 := by omega
      rw [this]
      omega
  refine List.pairwise_iff_getElem.2 fun i j hi hj hij => ?_
  have := key (j - i - 1) i (by omega)
  rw [show i + (j - i - 1) + 1 = j by omega, getD_lt' hi, getD_lt' hj] at this
  exact this

theorem fit_iff {id : Int} {ls : List Seen} : fitL id ls = true ↔ Fit id ls := by
  constructor
  · intro h
    unfold fitL at h
    rw [Bool.and_eq_true, decide_eq_true_eq] at h
    obtain ⟨h1, h2⟩ := h
    refine ⟨h2, fun s hs => ?_, rises_of fun k h0 hk => (h1 k hk).2.2.2.1 h0⟩
    obtain ⟨k, hk, rfl⟩ := List.getElem_of_mem hs
    have h3 := h1 k hk
    unfold okAt at h3
    rw [getD_lt' hk] at h3
    exact ⟨h3.1, h3.2.1, h3.2.2.1, h3.2.2.2.2.1, h3.2.2.2.2.2.1, h3.2.2.2.2.2.2.1, h3.2.2.2.2.2.2.2.1, h3.2.2.2.2.2.2.2.2.1, h3.2.2.2.2.2.2.2.2.2.1, h3.2.2.2.2.2.2.2.2.2.2⟩
  · intro h
    rw [fitL_good fun k hk => ?_]
    · exact h.node
    · have h3 := h.ok ls[k] (List.getElem_mem hk)
      unfold okAt
      rw [getD_lt' hk]
      refine ⟨h3.1, h3.2.1, h3.2.2.1, fun h0 => ?_, h3.2.2.2.1, h3.2.2.2.2.1, h3.2.2.2.2.2.1, h3.2.2.2.2.2.2.1, h3.2.2.2.2.2.2.2.1, h3.2.2.2.2.2.2.2.2.1, h3.2.2.2.2.2.2.2.2.2⟩
      rw [getD_lt' (show k - 1 < ls.length by omega)]
      exact List.pairwise_iff_getElem.1 h.up (k - 1) k (by omega) hk (by omega)

theorem take_below {ls : List Seen} {p : Int} : ∀ s ∈ ls.take (seek ls p), s.peer < p := by
  intro s hs
  obtain ⟨j, hj, rfl⟩ := List.getElem_of_mem hs
  rw [List.length_take] at hj
  rw [List.getElem_take]
  exact seek_lt_of (by omega) (by omega)
theorem drop_above {ls : List Seen} {p : Int} (h : rises ls) : ∀ s ∈ ls.drop (if has ls p then seek ls p + 1 else seek ls p), p < s.peer := by
  intro s hs
  obtain ⟨j, hj, rfl⟩ := List.getElem_of_mem hs
  rw [List.length_drop] at hj
  rw [List.getElem_drop]
  have hk := seek_le ls p
  by_cases hh : has ls p = true
  · simp only [hh, if_true] at hj ⊢
    have h1 := seek_ge (l := ls) (p := p) (by omega)
    have h2 := List.pairwise_iff_getElem.1 h (seek ls p) (seek ls p + 1 + j) (by omega) (by omega) (by omega)
    omega
  · simp only [hh, if_false, Bool.false_eq_true] at hj ⊢
    have h1 := seek_ge (l := ls) (p := p) (by omega)
    have h3 : ls[seek ls p].peer ≠ p := by
      intro e
      rw [has_at (by omega), e] at hh
      simp at hh
    rcases Nat.eq_zero_or_pos j with h0 | h0
    · subst h0
      simp only [Nat.add_zero]
      omega
    · have h2 := List.pairwise_iff_getElem.1 h (seek ls p) (seek ls p + j) (by omega) (by omega) (by omega)
      omega

theorem got_at {ls : List Seen} {p : Int} (h : seek ls p < ls.length) (hp : ls[seek ls p].peer = p) : got ls p = ls[seek ls p] := by
  unfold got
  rw [List.getElem?_eq_getElem h]
  simp only [hp, if_true]
theorem got_not {ls : List Seen} {p : Int} (h : has ls p = false) : got ls p = ⟨p, 0, 0, 0⟩ := by
  unfold got
  rcases Nat.lt_or_ge (seek ls p) ls.length with hl | hl
  · rw [List.getElem?_eq_getElem hl]
    rw [has_at hl] at h
    simp only []
    rw [if_neg (by simpa using h)]
  · rw [List.getElem?_eq_none hl]
theorem has_lt {ls : List Seen} {p : Int} (h : has ls p = true) : ∃ hl : seek ls p < ls.length, ls[seek ls p].peer = p := by
  rcases Nat.lt_or_ge (seek ls p) ls.length with hl | hl
  · exact ⟨hl, by rw [has_at hl] at h; simpa using h⟩
  · rw [has_end (by omega)] at h; cases h

theorem refGot_eq {ls : List Seen} {p : Int} (h : rises ls) : refGot ls p = got ls p := by
  by_cases hh : has ls p = true
  · obtain ⟨hl, hp⟩ := has_lt hh
    rw [got_at hl hp]
    exact find_split hl (fun j hj hjk => by have := seek_lt_of hj hjk; omega) hp
  · have hh' : has ls p = false := by simpa using hh
    rw [got_not hh']
    refine find_not fun j hj => ?_
    rcases Nat.lt_or_ge j (seek ls p) with hjk | hjk
    · have := seek_lt_of hj hjk; omega
    · have := drop_above (p := p) h ls[j] (by
        rw [hh', if_neg (by simp)]
        exact List.mem_drop_iff_getElem.2 ⟨j - seek ls p, by omega, by congr 1; omega⟩)
      omega

/-- what was seen of a peer, if anything, is no zero -/
theorem got_ok {id : Int} {ls : List Seen} {p : Int} (h : Fit id ls) (hh : has ls p = true) : okS id (got ls p) ∧ (got ls p).peer = p := by
  obtain ⟨hl, hp⟩ := has_lt hh
  rw [got_at hl hp]
  exact ⟨h.ok _ (List.getElem_mem hl), hp⟩

/-- the code's list is the document's -/
theorem setS_eq {id : Int} {ls : List Seen} {p : Int} {s : Seen} (h : Fit id ls) (hs : s.peer = p) (hz : s ≠ got ls p → s.boot ≠ 0 ∨ s.mine ≠ 0) : setS ls p s = putS ls s := by
  unfold setS putS
  rw [hs]
  by_cases e : s = got ls p
  · rw [if_pos e]
    by_cases hh : has ls p = true
    · obtain ⟨hl, hp⟩ := has_lt hh
      have hok := (got_ok h hh).1
      have hg := got_at hl hp
      have hne : s.boot ≠ 0 ∨ s.mine ≠ 0 := by
        rw [e]
        by_cases hb : (got ls p).boot = 0
        · exact .inr (hok.2.2.2.2.2.2.2.2.2 hb).2
        · exact .inl hb
      rw [if_pos hne, if_pos hh, e, hg]
      have h1 := List.take_append_drop (seek ls p) ls
      rw [List.drop_eq_getElem_cons hl] at h1
      rw [List.append_assoc]
      exact h1.symm
    · have hh' : has ls p = false := by simpa using hh
      have hg := got_not hh'
      rw [if_neg hh, if_neg (by rw [e, hg]; simp)]
      simp
  · rw [if_neg e, if_pos (hz e)]
    by_cases hh : has ls p = true
    · rw [if_pos hh, if_pos hh]
      simp
    · rw [if_neg hh, if_neg hh]
      simp

/-- the new list is fit -/
theorem putS_fit {id : Int} {ls : List Seen} {s : Seen} (h : Fit id ls) (hs : (s.boot ≠ 0 ∨ s.mine ≠ 0) → okS id s) : Fit id (putS ls s) := by
  refine ⟨h.node, fun x hx => ?_, ?_⟩
  · unfold putS at hx
    rw [List.mem_append, List.mem_append] at hx
    rcases hx with (hx | hx) | hx
    · exact h.ok x (List.mem_of_mem_take hx)
    · split at hx
      · rename_i hc
        rw [List.mem_singleton.1 hx]
        exact hs hc
      · simp at hx
    · exact h.ok x (List.mem_of_mem_drop hx)
  · unfold putS rises
    rw [List.pairwise_append, List.pairwise_append]
    refine ⟨⟨List.Pairwise.sublist (List.take_sublist _ _) h.up, by split <;> simp, fun a ha b hb => ?_⟩, List.Pairwise.sublist (List.drop_sublist _ _) h.up, fun a ha b hb => ?_⟩
    · split at hb
      · rw [List.mem_singleton.1 hb]
        exact take_below a ha
      · simp at hb
    · have hb' := drop_above h.up b hb
      rcases List.mem_append.1 ha with ha | ha
      · have := take_below a ha
        omega
      · split at ha
        · rw [List.mem_singleton.1 ha]
          exact hb'
        · simp at ha

theorem got_form {id : Int} {ls : List Seen} {p : Int} (h : Fit id ls) : (got ls p).peer = p ∧ 0 ≤ (got ls p).boot ∧ (got ls p).boot ≤ 1099511627776 ∧ 0 ≤ (got ls p).life ∧ (got ls p).life ≤ 1099511627776 ∧ 0 ≤ (got ls p).mine ∧ (got ls p).mine ≤ 1099511627776 ∧
    ((got ls p).boot = 0 → (got ls p).life = 0) := by
  by_cases hh : has ls p = true
  · obtain ⟨h1, h2⟩ := got_ok h hh
    exact ⟨h2, h1.2.2.2.1, h1.2.2.2.2.1, h1.2.2.2.2.2.1, h1.2.2.2.2.2.2.1, h1.2.2.2.2.2.2.2.1, h1.2.2.2.2.2.2.2.2.1, fun e => (h1.2.2.2.2.2.2.2.2.2 e).1⟩
  · have hh' : has ls p = false := by simpa using hh
    rw [got_not hh']
    simp

theorem see_peer (s : Seen) (boot life : Int) : (seeS s boot life).peer = s.peer := by unfold seeS; split <;> rfl
theorem see_mine (s : Seen) (boot life : Int) : (seeS s boot life).mine = s.mine := by unfold seeS; split <;> rfl
theorem see_ok {id : Int} {ls : List Seen} {p boot life : Int} (h : Fit id ls) (hp : isNode p = true) (hne : p ≠ id) (hb : 1 ≤ boot ∧ boot ≤ 1099511627776) (hl : 0 ≤ life ∧ life ≤ 1099511627776)
    (hz : (seeS (got ls p) boot life).boot ≠ 0 ∨ (seeS (got ls p) boot life).mine ≠ 0) : okS id (seeS (got ls p) boot life) := by
  obtain ⟨g1, g2, g3, g4, g5, g6, g7, g8⟩ := got_form (p := p) h
  have hp' : 0 ≤ p ∧ p < 16 := by unfold isNode at hp; simpa using hp
  unfold seeS at hz ⊢
  split
  · exact ⟨by simp only []; omega, by simp only []; omega, by simp only []; omega, by simp only []; omega, by simp only []; omega, by simp only []; omega, by simp only []; omega, g6, g7, fun e => by simp only [] at e; omega⟩
  · rename_i hc
    rw [if_neg hc] at hz
    exact ⟨by omega, by omega, by omega, g2, g3, g4, g5, g6, g7, fun e => ⟨g8 e, by rcases hz with hz | hz; exact absurd e hz; exact hz⟩⟩
theorem see_moved {ls : List Seen} {p boot life : Int} (hb : 1 ≤ boot) (h : seeS (got ls p) boot life ≠ got ls p) : (seeS (got ls p) boot life).boot ≠ 0 ∨ (seeS (got ls p) boot life).mine ≠ 0 := by
  unfold seeS at h ⊢
  split
  · left; simp only []; omega
  · rename_i hc
    rw [if_neg hc] at h
    exact absurd rfl h
theorem drop_ok {id : Int} {ls : List Seen} {p : Int} (h : Fit id ls) (hp : isNode p = true) (hne : p ≠ id) : okS id (dropS (got ls p)) := by
  obtain ⟨g1, g2, g3, g4, g5, g6, g7, g8⟩ := got_form (p := p) h
  have hp' : 0 ≤ p ∧ p < 16 := by unfold isNode at hp; simpa using hp
  unfold dropS
  exact ⟨by simp only []; omega, by simp only []; omega, by simp only []; omega, g2, g3, g4, g5, by simp only []; omega, by simp only []; omega, fun e => ⟨g8 e, by simp only []; omega⟩⟩
theorem drop_nz {id : Int} {ls : List Seen} {p : Int} (h : Fit id ls) : (dropS (got ls p)).boot ≠ 0 ∨ (dropS (got ls p)).mine ≠ 0 := by
  obtain ⟨g1, g2, g3, g4, g5, g6, g7, g8⟩ := got_form (p := p) h
  right
  unfold dropS
  simp only []
  omega

/-- See, Dropped: the code's list is the document's, and fit -/
theorem see_law {id : Int} {ls : List Seen} {p boot life : Int} (h : Fit id ls) (hp : isNode p = true) (hne : p ≠ id) (hb : 1 ≤ boot ∧ boot ≤ 1099511627776) (hl : 0 ≤ life ∧ life ≤ 1099511627776) :
    setS ls p (seeS (got ls p) boot life) = putS ls (seeS (refGot ls p) boot life) ∧ Fit id (setS ls p (seeS (got ls p) boot life)) := by
  have e := setS_eq (s := seeS (got ls p) boot life) h ((see_peer _ _ _).trans (got_form h).1) (see_moved hb.1)
  rw [e, refGot_eq h.up]
  exact ⟨rfl, putS_fit h (see_ok h hp hne hb hl)⟩
theorem drop_law {id : Int} {ls : List Seen} {p : Int} (h : Fit id ls) (hp : isNode p = true) (hne : p ≠ id) :
    setS ls p (dropS (got ls p)) = putS ls (dropS (refGot ls p)) ∧ Fit id (setS ls p (dropS (got ls p))) := by
  have e := setS_eq (s := dropS (got ls p)) h (got_form h).1 (fun _ => drop_nz h)
  rw [e, refGot_eq h.up]
  exact ⟨rfl, putS_fit h (fun _ => drop_ok h hp hne)⟩

end Go.Proofs.Ytkbcnapfcojekaa
