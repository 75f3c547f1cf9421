/-
  Layer 10 (half): plain laws of merging registers: the newest is left. No program in sight.
-/
import Derived.Test.YtogkcokgcoookaaHalfY
import Derived.Test.YtogkcokgcoookaaHalfWr
import Derived.Test.YtogkcokgcoookaaHalfQ
namespace Go.Proofs.Ytogkcokgcoookaa
open Go.RowKit Go.Ed

theorem bl_trans : ∀ {a b c : List UInt8}, Op.bytesLess a b = true → Op.bytesLess b c = true → Op.bytesLess a c = true
  | _, [], _, h, _ => by simp [Op.bytesLess] at h
  | _, _ :: _, [], _, h => by simp [Op.bytesLess] at h
  | [], _ :: _, _ :: _, _, _ => rfl
  | x :: a, y :: b, z :: c, h1, h2 => by
    simp only [Op.bytesLess, Bool.or_eq_true, decide_eq_true_eq, Bool.and_eq_true, beq_iff_eq] at h1 h2 ⊢
    rcases h1 with h1 | ⟨rfl, h1⟩
    · rcases h2 with h2 | ⟨rfl, h2⟩
      · exact .inl (UInt8.lt_trans h1 h2)
      · exact .inl h1
    · rcases h2 with h2 | ⟨rfl, h2⟩
      · exact .inl h2
      · exact .inr ⟨rfl, bl_trans h1 h2⟩
theorem seek_low {ls : List Line} {nm : ByteArray} {j : Nat} (hj : j < ls.length) (h : j < seekL ls nm) : lineLt ls[j] nm = true := by
  have := List.not_of_lt_findIdx h
  simpa using this
theorem seek_at {ls : List Line} {nm : ByteArray} (h : seekL ls nm < ls.length) : lineLt ls[seekL ls nm] nm = false := by
  have h2 : (!lineLt ls[seekL ls nm] nm) = true := List.findIdx_getElem (p := fun x => !lineLt x nm) (w := h)
  simpa using h2
theorem put_seek {ls : List Line} {nm : ByteArray} {ver wt fl : Int} {rest : List Line} : seekL (ls.take (seekL ls nm) ++ ⟨nm, ver, wt, fl⟩ :: rest) nm = seekL ls nm := by
  have hk := seekL_le ls nm
  have hl : (ls.take (seekL ls nm)).length = seekL ls nm := by rw [List.length_take]; omega
  refine seekL_eq (by simp; omega) (fun j hj h => ?_) fun hk' => ?_
  · rw [List.getElem_append_left (by omega), List.getElem_take]
    exact seek_low (by omega) h
  · rw [List.getElem_append_right (by omega)]
    simp [hl, lineLt, bytesLess_self]
theorem put_has {ls : List Line} {nm : ByteArray} {ver wt fl : Int} {rest : List Line} : hasL (ls.take (seekL ls nm) ++ ⟨nm, ver, wt, fl⟩ :: rest) nm = true ∧ regL (ls.take (seekL ls nm) ++ ⟨nm, ver, wt, fl⟩ :: rest) nm = ⟨ver, wt, fl⟩ := by
  have hk := seekL_le ls nm
  have hl : (ls.take (seekL ls nm)).length = seekL ls nm := by rw [List.length_take]; omega
  have hg : (ls.take (seekL ls nm) ++ (⟨nm, ver, wt, fl⟩ : Line) :: rest)[seekL ls nm]? = some ⟨nm, ver, wt, fl⟩ := by
    rw [List.getElem?_append_right (by omega), hl]; simp
  exact ⟨by unfold hasL; rw [put_seek, hg]; simp, by unfold regL; rw [put_seek, hg]; simp⟩
theorem write_form {ls : List Line} {nm : ByteArray} {r : Rg} (hz : isZ r.ver r.wt r.fl = false) (h : hasL ls nm = true ∨ ls.length < 8) : ∃ rest, writeL ls nm r.ver r.wt r.fl = ls.take (seekL ls nm) ++ ⟨nm, r.ver, r.wt, r.fl⟩ :: rest ∧ (ls.length ≤ 8 → (writeL ls nm r.ver r.wt r.fl).length ≤ 8) := by
  have hk := seekL_le ls nm
  unfold writeL
  rw [hz]
  cases hh : hasL ls nm with
  | true =>
    obtain ⟨hlt, _⟩ := hasL_lt hh
    exact ⟨ls.drop (seekL ls nm + 1), by simp, fun h8 => by simp; omega⟩
  | false =>
    have h8 : ls.length < 8 := by rcases h with h | h; (rw [hh] at h; cases h); exact h
    refine ⟨ls.drop (seekL ls nm), by simp [h8], fun _ => ?_⟩
    simp [h8]
    omega
/-- what holds while registers of one name are merged -/
structure Mg (ls : List Line) (nm : ByteArray) : Prop where
  len : ls.length ≤ 8
  room : hasL ls nm = true ∨ ls.length < 8
  was : regL ls nm = noRg ∨ 1 ≤ (regL ls nm).ver
theorem fitR_ver {r : Rg} {id p : Int} (h : fitR r id p = true) : r = noRg ∨ 1 ≤ r.ver := by
  obtain ⟨v, wt, f⟩ := r
  unfold fitR regFit at h
  simp only [Bool.and_eq_true, Bool.or_eq_true, decide_eq_true_eq, beq_iff_eq] at h
  rcases h.2 with ⟨⟨rfl, rfl⟩, rfl⟩ | h1
  · exact .inl rfl
  · exact .inr (by simp only []; omega)
theorem newer_self (r : Rg) : newer r r = false := by simp [newer]
theorem newer_ne {a b : Rg} (h : newer a b = true) : a ≠ b := fun e => by rw [e, newer_self] at h; cases h
theorem newer_nz {r was : Rg} (hn : newer r was = true) (hw : was = noRg ∨ 1 ≤ was.ver) : isZ r.ver r.wt r.fl = false := by
  cases hz : isZ r.ver r.wt r.fl with
  | false => rfl
  | true =>
    exfalso
    simp only [isZ, Bool.and_eq_true, beq_iff_eq] at hz
    unfold newer at hn
    rcases hw with rfl | hw
    · simp [noRg, hz.1, hz.2.1] at hn
    · simp [hz.1, hz.2.1] at hn
      omega
/-- one merge -/
theorem merge_step {ls : List Line} {nm : ByteArray} (h : Mg ls nm) (id p : Int) (r : Rg) : ∃ ls' c, mergeL id p ls nm r = (ls', c) ∧ Mg ls' nm ∧ c = (fitR r id p && newer r (regL ls nm)) ∧ regL ls' nm = (if c = true then r else regL ls nm) ∧ mergeL id p ls' nm r = (ls', false) := by
  by_cases hc : fitR r id p = true ∧ newer r (regL ls nm) = true
  · have hz := newer_nz hc.2 h.was
    obtain ⟨rest, hw, hl⟩ := write_form (nm := nm) hz h.room
    have hp := put_has (ls := ls) (nm := nm) (ver := r.ver) (wt := r.wt) (fl := r.fl) (rest := rest)
    rw [← hw] at hp
    refine ⟨writeL ls nm r.ver r.wt r.fl, true, ?_, ⟨hl h.len, .inl hp.1, ?_⟩, by simp [hc.1, hc.2], ?_, ?_⟩
    · rw [mergeL, if_pos hc, hp.2]
      simp [rgEq]
    · rw [hp.2]
      exact fitR_ver hc.1
    · rw [hp.2]; rfl
    · rw [mergeL, if_neg]
      rw [hp.2]
      rintro ⟨_, h2⟩
      have : newer r r = true := h2
      rw [newer_self] at this
      cases this
  · refine ⟨ls, false, by rw [mergeL, if_neg hc], h, ?_, rfl, by rw [mergeL, if_neg hc]⟩
    cases h1 : fitR r id p <;> cases h2 : newer r (regL ls nm) <;> simp_all
/-- the newest of a row -/
def mostR : List Rg → Rg
  | [] => noRg
  | m :: l => l.foldl (fun m r => if newer r m then r else m) m
theorem most_snoc {l : List Rg} (h : l ≠ []) (r : Rg) : mostR (l ++ [r]) = if newer r (mostR l) then r else mostR l := by
  cases l with
  | nil => exact absurd rfl h
  | cons m l =>
    show (l ++ [r]).foldl _ m = _
    rw [List.foldl_append]
    rfl
/-- on fit lines the first line of a name is found where it would stand -/
theorem fit_rise {id : Int} {h : Half} (hf : fitH id h = true) : ∀ (i j : Nat) (hi : i < h.lines.length) (hj : j < h.lines.length), i < j → Op.bytesLess h.lines[i].nm.toList h.lines[j].nm.toList = true := by
  have adj : ∀ (j : Nat) (hj : j + 1 < h.lines.length), Op.bytesLess h.lines[j].nm.toList h.lines[j + 1].nm.toList = true := fun j hj => by
    rw [fitH, Bool.and_eq_true] at hf
    have := List.all_eq_true.1 hf.2 (j + 1) (by simpa using hj)
    rw [lineOk_of hj rfl, Nat.add_sub_cancel, lineAt_eq (by omega : j < h.lines.length)] at this
    simp only [Bool.and_eq_true] at this
    simpa using this.1.1.2
  intro i j
  induction j with
  | zero => intro _ _ h; omega
  | succ j ih =>
    intro hi hj hij
    rcases Nat.lt_or_ge i j with h1 | h1
    · exact bl_trans (ih hi (by omega) h1) (adj j hj)
    · obtain rfl : i = j := by omega
      exact adj i hj
theorem first_eq {id : Int} {h : Half} (hf : fitH id h = true) (nm : ByteArray) : firstReg h.lines nm = regL h.lines nm := by
  have hlow : ∀ j (hj : j < h.lines.length), j < seekL h.lines nm → (h.lines[j].nm.toList == nm.toList) = false := fun j hj hlt => by
    have h1 := seek_low hj hlt
    unfold lineLt at h1
    cases hq : h.lines[j].nm.toList == nm.toList with
    | false => rfl
    | true =>
      rw [(by simpa using hq : h.lines[j].nm.toList = nm.toList), bytesLess_self] at h1
      cases h1
  cases hh : hasL h.lines nm with
  | true =>
    obtain ⟨hl, e⟩ := hasL_lt hh
    obtain ⟨hl', e'⟩ := regL_has hh
    rw [e', first_some hl' hlow (by rw [e]; simp)]
  | false =>
    rw [regL_not hh]
    refine first_none fun j hj => ?_
    rcases Nat.lt_or_ge j (seekL h.lines nm) with h1 | h1
    · exact hlow j hj h1
    · cases hq : h.lines[j].nm.toList == nm.toList with
      | false => rfl
      | true =>
        exfalso
        have hlt : seekL h.lines nm < h.lines.length := by omega
        rcases Nat.eq_or_lt_of_le h1 with h2 | h2
        · unfold hasL at hh
          rw [List.getElem?_eq_getElem hlt] at hh
          have h3 : h.lines[seekL h.lines nm] = h.lines[j] := by congr 1
          have h4 : (h.lines[seekL h.lines nm].nm.toList == nm.toList) = false := hh
          rw [h3, hq] at h4
          cases h4
        · have h3 := fit_rise hf _ j hlt hj h2
          rw [(by simpa using hq : h.lines[j].nm.toList = nm.toList)] at h3
          have h4 := seek_at hlt
          unfold lineLt at h4
          rw [h4] at h3
          cases h3
theorem fit_mg {id : Int} {h : Half} (hf : fitH id h = true) {nm : ByteArray} (hr : ¬ (rgEq (regL h.lines nm) noRg = true ∧ 8 ≤ h.lines.length)) : Mg h.lines nm := by
  have h8 := (fit_peer hf).2
  refine ⟨h8, ?_, ?_⟩
  · cases hh : hasL h.lines nm with
    | true => exact .inl rfl
    | false =>
      right
      rw [regL_not hh] at hr
      rcases Nat.lt_or_ge h.lines.length 8 with h1 | h1
      · exact h1
      · exact absurd ⟨by simp [rgEq], h1⟩ hr
  · cases hh : hasL h.lines nm with
    | false => exact .inl (regL_not hh)
    | true =>
      obtain ⟨hl, e⟩ := regL_has hh
      rw [e]
      rw [fitH, Bool.and_eq_true] at hf
      have := List.all_eq_true.1 hf.2 _ (List.mem_range.2 hl)
      rw [lineOk_of hl rfl] at this
      simp only [Bool.and_eq_true] at this
      exact fitR_ver (r := ⟨_, _, _⟩) (id := id) (p := h.peer) this.1.2
end Go.Proofs.Ytogkcokgcoookaa
