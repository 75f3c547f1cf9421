/-
  Layer 10: the statement HalfWrites: Write, Merge and Forget do as the document says, and what Merge hands out is the caller's own. Every input; no condition.
-/
import Derived.Test.YtogkcokgcoookaaDw
import Derived.Test.YtogkcokgcoookaaDf
import Derived.Test.YtogkcokgcoookaaHalfFk
set_option linter.unusedSimpArgs false
set_option linter.unusedVariables false
namespace Go.Proofs.Ytogkcokgcoookaa
open Go.ChangeShapes Go.WideShapes Go.ChangeAt Go.RowKit Go.Ed Go.Joins Go.Deep Go.Dl

namespace lawwrites
open lawgrows
theorem merge_o (id : Int) (h : Half) (nm : ByteArray) (r : Rg) (hn : h.lines.length ≤ 100000000000) : CallO Try.prog 15 [gI id, gH h, gS nm, gR r]
    (fun a => .tup [(true, [.f (.s (.int .i64 h.peer)), .f (.s (.int .i64 h.boot)), .f (.s (.int .i64 h.life)), .o a, .f (.s (.bool h.pend)), .f (.s (.int .i64 h.miss))]), (false, [.f (.s (.bool (mergeL id h.peer h.lines nm r).2))])])
    44 4 ((mergeL id h.peer h.lines nm r).1.map encL) := by
  refine ⟨⟨_, Try.func15, rfl, by decide⟩, fun a w us I hI hl hv => ?_⟩
  obtain ⟨u0, u1, u2, u3, rfl⟩ := us4 hl
  obtain rfl := rep_s (hv 0 _ _ rfl rfl)
  obtain ⟨A, c, rfl, hc, hL⟩ := rep_half (B := w.heap.size) (hv 1 _ _ rfl rfl) hI
  obtain rfl := rep_s (hv 2 _ _ rfl rfl)
  obtain rfl := rep_three (hv 3 _ _ rfl rfl)
  obtain ⟨p, bo, li, ls, pe, mi⟩ := h
  refine (merge_any w id p bo li ls A c pe mi nm r hn hL).mono ?_
  rintro e w' ⟨A', c', rfl, hc', hown, hb⟩
  refine ⟨_, .slice A' (mergeL id p ls nm r).1.length c', flat Line.cells (mergeL id p ls nm r).1, rfl, .tup rfl fun j x u hx hu => ?_, by rw [List.length_map]; exact hown, ⟨?_, fun j x u hx hu => ?_⟩, fun r hr => by obtain ⟨x, _, rfl⟩ := List.mem_map.1 hr; rfl, hb⟩
  · match j with
    | 0 =>
      cases hx; cases hu
      refine ⟨_, rfl, rfl, fun j x u hx hu => ?_⟩
      match j with
      | 0 => cases hx; cases hu; exact .f (.s rfl)
      | 1 => cases hx; cases hu; exact .f (.s rfl)
      | 2 => cases hx; cases hu; exact .f (.s rfl)
      | 3 => cases hx; cases hu; exact .o (if_pos rfl) rfl
      | 4 => cases hx; cases hu; exact .f (.s rfl)
      | 5 => cases hx; cases hu; exact .f (.s rfl)
      | j + 6 => simp at hx
    | 1 => cases hx; cases hu; exact ⟨_, rfl, .f (.s rfl)⟩
    | j + 2 => simp at hx
  · rw [flat_eq, List.length_map]
  · rw [flat_eq, List.getElem?_map, hu] at hx
    cases hx
    exact .s (flat_one _ Line.one _ u (List.mem_of_getElem? hu))
/-- what the document's Merge answers is what the code's does -/
theorem merge_same {id : Int} {h : Half} (hf : fitH id h = true) (nm : ByteArray) (hnm : nameOk nm = true) (r : Rg) : ∃ ls' c, mergeL id h.peer h.lines nm r = (ls', c) ∧ fitH id (hL h ls') = true ∧
    (if fitR r id h.peer = true ∧ newer r (firstReg h.lines nm) = true then
      V.tup [(true, (encH (hL h (writeL h.lines nm r.ver r.wt r.fl))).map .f), (false, [.f (.s (.bool (!sameH (hL h (writeL h.lines nm r.ver r.wt r.fl)) h)))])]
      else .tup [(true, (encH h).map .f), (false, [.f (.s (.bool false))])]) = .tup [(true, (encH (hL h ls')).map .f), (false, [.f (.s (.bool c))])] := by
  have hfe := first_eq hf nm
  have h8 := (fit_peer hf).2
  have hhl : hL h h.lines = h := rfl
  by_cases hc : fitR r id h.peer = true ∧ newer r (regL h.lines nm) = true
  · have hwas : regL h.lines nm = noRg ∨ 1 ≤ (regL h.lines nm).ver := by
      cases hh : hasL h.lines nm with
      | false => exact .inl (regL_not hh)
      | true =>
        obtain ⟨hl, e⟩ := regL_has hh
        rw [e]
        exact fitR_ver (r := ⟨_, _, _⟩) (id := id) (p := h.peer) ((fit_parts hf).2.1 _ (List.getElem_mem hl)).2.1
    have hz := newer_nz hc.2 hwas
    obtain ⟨w1, w2, w3⟩ := write_fit hf hnm hc.1 hz
    have hm : mergeL id h.peer h.lines nm r = (writeL h.lines nm r.ver r.wt r.fl, rgEq (regL (writeL h.lines nm r.ver r.wt r.fl) nm) r) := by rw [mergeL, if_pos hc]
    refine ⟨_, _, hm, fit_make (h := hL h _) ?_ w1 w2, ?_⟩
    · have := (fit_parts hf).1
      unfold headOk at this ⊢
      simp only [hL, Bool.and_eq_true, decide_eq_true_eq] at this ⊢
      simp only [w3, and_true] at this ⊢
      simp only [this, and_self]
      simp
    · rw [hfe, if_pos hc]
      have hb : (!sameH (hL h (writeL h.lines nm r.ver r.wt r.fl)) h) = rgEq (regL (writeL h.lines nm r.ver r.wt r.fl) nm) r := by
        by_cases hroom : hasL h.lines nm = true ∨ h.lines.length < 8
        · obtain ⟨rest, hw, -⟩ := write_form (nm := nm) hz hroom
          have hp := put_has (ls := h.lines) (nm := nm) (ver := r.ver) (wt := r.wt) (fl := r.fl) (rest := rest)
          rw [← hw] at hp
          rw [hp.2, (rgEq_iff _ _).2 (rfl : (⟨r.ver, r.wt, r.fl⟩ : Rg) = r)]
          cases hs : sameH (hL h (writeL h.lines nm r.ver r.wt r.fl)) h with
          | false => rfl
          | true =>
            exfalso
            have e := congrArg Half.lines ((sameH_iff _ _).1 hs)
            have e : writeL h.lines nm r.ver r.wt r.fl = h.lines := e
            rw [e] at hp
            have h3 := hc.2
            rw [hp.2] at h3
            exact newer_ne h3 rfl
        · have hno : hasL h.lines nm = false := by
            cases hq : hasL h.lines nm with
            | false => rfl
            | true => exact absurd (.inl hq) hroom
          have hlen : ¬ h.lines.length < 8 := fun h => hroom (.inr h)
          have hw : writeL h.lines nm r.ver r.wt r.fl = h.lines := by
            unfold writeL
            simp [hno, hlen]
          rw [hw, hhl, (sameH_iff _ _).2 rfl, regL_not hno]
          cases hq : rgEq noRg r with
          | false => rfl
          | true =>
            exfalso
            have h3 := hc.2
            rw [regL_not hno] at h3
            exact newer_ne h3 ((rgEq_iff _ _).1 hq).symm
      rw [hb]
  · have hm : mergeL id h.peer h.lines nm r = (h.lines, false) := by rw [mergeL, if_neg hc]
    refine ⟨_, _, hm, hf, ?_⟩
    rw [hfe, if_neg hc]
    rfl
theorem fits_each {id : Int} {l : List Half} (hf : fitsH id l = true) : ∀ x ∈ l, fitH id x = true := fun x hx => by
  obtain ⟨k, hk, rfl⟩ := List.getElem_of_mem hx
  rw [fitsH, Bool.and_eq_true] at hf
  have := List.all_eq_true.1 hf.1 k (by simpa using hk)
  rw [stepH, halfAt_at hk, Bool.and_eq_true] at this
  exact this.1
theorem fit_names {id : Int} {h : Half} (hf : fitH id h = true) : ∀ x ∈ h.lines, x.nm.size ≤ maxLen := fun x hx => by
  obtain ⟨k, hk, rfl⟩ := List.getElem_of_mem hx
  rw [fitH, Bool.and_eq_true] at hf
  have := List.all_eq_true.1 hf.2 k (by simpa using hk)
  rw [lineOk_of hk rfl] at this
  simp only [Bool.and_eq_true] at this
  have h1 := this.1.1.1
  unfold nameOk at h1
  simp only [Bool.and_eq_true, decide_eq_true_eq] at h1
  unfold maxLen
  omega
set_option maxRecDepth 100000 in
set_option maxHeartbeats 4000000 in
theorem writes_d (id : Int) (l : List Half) (h : Half) (nm : ByteArray) (r : Rg) (hl : l.length * 64 ≤ 140737488355328) (hls : ∀ x ∈ l, x.lines.length ≤ maxLen ∧ ∀ y ∈ x.lines, y.nm.size ≤ maxLen) (hlen : h.lines.length ≤ maxLen) (hnms : ∀ x ∈ h.lines, x.nm.size ≤ maxLen) (hnm : nm.size ≤ maxLen) :
    CallC Try.prog 4 [gI id, gHs l, gH h, gS nm, gR r] (gB true) := by
  refine call_of hT [.tmp 10] Try.func4 rfl (by decide) (by simp [Try.ntmps4]) rfl (fun X w0 => ?_)
  obtain ⟨f1, hf1⟩ : ∃ f, fitsH id l = f := ⟨_, rfl⟩
  obtain ⟨f2, hf2⟩ : ∃ f, fitH id h = f := ⟨_, rfl⟩
  obtain ⟨g, hg⟩ : ∃ g, nameOk nm = g := ⟨_, rfl⟩
  have hf1d := refFits_d id l hls (by omega)
  have hf2d := refFit_d id h hlen hnms
  have hgd := refName_d nm hnm
  rw [hf1] at hf1d
  rw [hf2] at hf2d
  rw [hg] at hgd
  obtain ⟨p, bo, li, ls, pe, mi⟩ := h
  simp only [gHs, gH, gR, gI, gS, encH, encR, List.map_cons, List.map_nil] at hlen hnms ⊢
  (refine dw_seq_k fun R hR => ?_; (refine dw_row hT (by decide) ?_; simp only [exB_nil, exB_cons, gd2_t, gd2_f, RunB_eq, SkipB_eq, gdV, eff2, cellEq, kdC, kd, gOf, calleeOf, effd, ev, cv, putS, upd_same, upd_miss, St.of, lkV_hit, lkV_miss, lkV_end, lkB_hit, lkB_miss, lkB_end, noArr_eq, arrOf_hit, arrOf_miss, arrOf_end, St.ofA, lkA_zero, lkA_succ, vcells, pack, rowsOf, bin, killV, killB, killC, frzV, frzC, frzB, frzP, partsD, fillD, frz, Option.isSome_some, Option.bind_some, Option.map_some, List.getD_cons_zero, List.getD_cons_succ, List.getElem?_toArray, List.getElem?_cons_zero, List.getElem?_cons_succ, List.map_cons, List.map_nil, List.drop_zero, List.drop_succ_cons, List.take_succ_cons, List.take_zero, List.length_cons, List.length_nil, List.length_map, List.append_eq, List.cons_append, List.nil_append, Nat.reduceAdd, Nat.reduceLeDiff, Nat.reduceEqDiff, Nat.reduceBEq, Nat.reduceLT, ↓reduceIte, if_true, if_false, true_and, and_true, reduceCtorEq, true_or, or_true, ne_eq, not_true_eq_false, not_false_eq_true, Bool.not_true, Bool.not_false, bq1, bq0, chk, tt29, tt2, tt3, tt4, tt25, tt24, tt22, tt9, tt44, tt39]))
  (refine hR _ ?_; try dsimp only [thenD, inBlockD])
  refine dw_seq_k fun R1 hR1 => ?_
  (refine dw_seq_k fun R hR => ?_; (refine dw_row hT (by decide) ?_; simp only [exB_nil, exB_cons, gd2_t, gd2_f, RunB_eq, SkipB_eq, gdV, eff2, cellEq, kdC, kd, gOf, calleeOf, effd, ev, cv, putS, upd_same, upd_miss, St.of, lkV_hit, lkV_miss, lkV_end, lkB_hit, lkB_miss, lkB_end, noArr_eq, arrOf_hit, arrOf_miss, arrOf_end, St.ofA, lkA_zero, lkA_succ, vcells, pack, rowsOf, bin, killV, killB, killC, frzV, frzC, frzB, frzP, partsD, fillD, frz, Option.isSome_some, Option.bind_some, Option.map_some, List.getD_cons_zero, List.getD_cons_succ, List.getElem?_toArray, List.getElem?_cons_zero, List.getElem?_cons_succ, List.map_cons, List.map_nil, List.drop_zero, List.drop_succ_cons, List.take_succ_cons, List.take_zero, List.length_cons, List.length_nil, List.length_map, List.append_eq, List.cons_append, List.nil_append, Nat.reduceAdd, Nat.reduceLeDiff, Nat.reduceEqDiff, Nat.reduceBEq, Nat.reduceLT, ↓reduceIte, if_true, if_false, true_and, and_true, reduceCtorEq, true_or, or_true, ne_eq, not_true_eq_false, not_false_eq_true, Bool.not_true, Bool.not_false, bq1, bq0, chk, tt29, tt2, tt3, tt4, tt25, tt24, tt22, tt9, tt44, tt39]))
  refine ⟨_, _, hf1d, (by simp [vles, vle, cle, fle, gI, gB, gS, gR, gH, gHs, encR, encH]), ?_⟩; rw [later_eq]
  cases f1
  · simp only [exB_nil, exB_cons, gd2_t, gd2_f, RunB_eq, SkipB_eq, gdV, eff2, cellEq, kdC, kd, gOf, calleeOf, effd, ev, cv, putS, upd_same, upd_miss, St.of, lkV_hit, lkV_miss, lkV_end, lkB_hit, lkB_miss, lkB_end, noArr_eq, arrOf_hit, arrOf_miss, arrOf_end, St.ofA, lkA_zero, lkA_succ, vcells, pack, rowsOf, bin, killV, killB, killC, frzV, frzC, frzB, frzP, partsD, fillD, frz, Option.isSome_some, Option.bind_some, Option.map_some, List.getD_cons_zero, List.getD_cons_succ, List.getElem?_toArray, List.getElem?_cons_zero, List.getElem?_cons_succ, List.map_cons, List.map_nil, List.drop_zero, List.drop_succ_cons, List.take_succ_cons, List.take_zero, List.length_cons, List.length_nil, List.length_map, List.append_eq, List.cons_append, List.nil_append, Nat.reduceAdd, Nat.reduceLeDiff, Nat.reduceEqDiff, Nat.reduceBEq, Nat.reduceLT, ↓reduceIte, if_true, if_false, true_and, and_true, reduceCtorEq, true_or, or_true, ne_eq, not_true_eq_false, not_false_eq_true, Bool.not_true, Bool.not_false, bq1, bq0, chk, tt29, tt2, tt3, tt4, tt25, tt24, tt22, tt9, tt44, tt39, gB]
    (refine hR _ ?_; try dsimp only [thenD, inBlockD])
    refine dw_cond rfl (fun h => ?_) (fun h => by cases h)
    (refine dw_seq_k fun R hR => ?_; (refine dw_row hT (by decide) ?_; simp only [exB_nil, exB_cons, gd2_t, gd2_f, RunB_eq, SkipB_eq, gdV, eff2, cellEq, kdC, kd, gOf, calleeOf, effd, ev, cv, putS, upd_same, upd_miss, St.of, lkV_hit, lkV_miss, lkV_end, lkB_hit, lkB_miss, lkB_end, noArr_eq, arrOf_hit, arrOf_miss, arrOf_end, St.ofA, lkA_zero, lkA_succ, vcells, pack, rowsOf, bin, killV, killB, killC, frzV, frzC, frzB, frzP, partsD, fillD, frz, Option.isSome_some, Option.bind_some, Option.map_some, List.getD_cons_zero, List.getD_cons_succ, List.getElem?_toArray, List.getElem?_cons_zero, List.getElem?_cons_succ, List.map_cons, List.map_nil, List.drop_zero, List.drop_succ_cons, List.take_succ_cons, List.take_zero, List.length_cons, List.length_nil, List.length_map, List.append_eq, List.cons_append, List.nil_append, Nat.reduceAdd, Nat.reduceLeDiff, Nat.reduceEqDiff, Nat.reduceBEq, Nat.reduceLT, ↓reduceIte, if_true, if_false, true_and, and_true, reduceCtorEq, true_or, or_true, ne_eq, not_true_eq_false, not_false_eq_true, Bool.not_true, Bool.not_false, bq1, bq0, chk, tt29, tt2, tt3, tt4, tt25, tt24, tt22, tt9, tt44, tt39]))
    refine ⟨_, _, awake_d, (by simp [vles, vle, cle, fle, gI, gB, gS, gR, gH, gHs, encR, encH]), ?_⟩; rw [later_eq]
    simp only [exB_nil, exB_cons, gd2_t, gd2_f, RunB_eq, SkipB_eq, gdV, eff2, cellEq, kdC, kd, gOf, calleeOf, effd, ev, cv, putS, upd_same, upd_miss, St.of, lkV_hit, lkV_miss, lkV_end, lkB_hit, lkB_miss, lkB_end, noArr_eq, arrOf_hit, arrOf_miss, arrOf_end, St.ofA, lkA_zero, lkA_succ, vcells, pack, rowsOf, bin, killV, killB, killC, frzV, frzC, frzB, frzP, partsD, fillD, frz, Option.isSome_some, Option.bind_some, Option.map_some, List.getD_cons_zero, List.getD_cons_succ, List.getElem?_toArray, List.getElem?_cons_zero, List.getElem?_cons_succ, List.map_cons, List.map_nil, List.drop_zero, List.drop_succ_cons, List.take_succ_cons, List.take_zero, List.length_cons, List.length_nil, List.length_map, List.append_eq, List.cons_append, List.nil_append, Nat.reduceAdd, Nat.reduceLeDiff, Nat.reduceEqDiff, Nat.reduceBEq, Nat.reduceLT, ↓reduceIte, if_true, if_false, true_and, and_true, reduceCtorEq, true_or, or_true, ne_eq, not_true_eq_false, not_false_eq_true, Bool.not_true, Bool.not_false, bq1, bq0, chk, tt29, tt2, tt3, tt4, tt25, tt24, tt22, tt9, tt44, tt39, gB]
    (refine hR _ ?_; try dsimp only [thenD, inBlockD])
    refine dw_ret ?_
    simp only [inBlockD, retQ, thenD, Ret, resV, res1, parts, part1, exB_nil, exB_cons, gd2_t, gd2_f, RunB_eq, SkipB_eq, gdV, eff2, cellEq, kdC, kd, gOf, calleeOf, effd, ev, cv, putS, upd_same, upd_miss, St.of, lkV_hit, lkV_miss, lkV_end, lkB_hit, lkB_miss, lkB_end, noArr_eq, arrOf_hit, arrOf_miss, arrOf_end, St.ofA, lkA_zero, lkA_succ, vcells, pack, rowsOf, bin, killV, killB, killC, frzV, frzC, frzB, frzP, partsD, fillD, frz, Option.isSome_some, Option.bind_some, Option.map_some, List.getD_cons_zero, List.getD_cons_succ, List.getElem?_toArray, List.getElem?_cons_zero, List.getElem?_cons_succ, List.map_cons, List.map_nil, List.drop_zero, List.drop_succ_cons, List.take_succ_cons, List.take_zero, List.length_cons, List.length_nil, List.length_map, List.append_eq, List.cons_append, List.nil_append, Nat.reduceAdd, Nat.reduceLeDiff, Nat.reduceEqDiff, Nat.reduceBEq, Nat.reduceLT, ↓reduceIte, if_true, if_false, true_and, and_true, reduceCtorEq, true_or, or_true, ne_eq, not_true_eq_false, not_false_eq_true, Bool.not_true, Bool.not_false, bq1, bq0, chk, tt29, tt2, tt3, tt4, tt25, tt24, tt22, tt9, tt44, tt39, vle, ple, cle, fle, true_and, and_true]
    all_goals try simp [gB, cle, fle]
  simp only [exB_nil, exB_cons, gd2_t, gd2_f, RunB_eq, SkipB_eq, gdV, eff2, cellEq, kdC, kd, gOf, calleeOf, effd, ev, cv, putS, upd_same, upd_miss, St.of, lkV_hit, lkV_miss, lkV_end, lkB_hit, lkB_miss, lkB_end, noArr_eq, arrOf_hit, arrOf_miss, arrOf_end, St.ofA, lkA_zero, lkA_succ, vcells, pack, rowsOf, bin, killV, killB, killC, frzV, frzC, frzB, frzP, partsD, fillD, frz, Option.isSome_some, Option.bind_some, Option.map_some, List.getD_cons_zero, List.getD_cons_succ, List.getElem?_toArray, List.getElem?_cons_zero, List.getElem?_cons_succ, List.map_cons, List.map_nil, List.drop_zero, List.drop_succ_cons, List.take_succ_cons, List.take_zero, List.length_cons, List.length_nil, List.length_map, List.append_eq, List.cons_append, List.nil_append, Nat.reduceAdd, Nat.reduceLeDiff, Nat.reduceEqDiff, Nat.reduceBEq, Nat.reduceLT, ↓reduceIte, if_true, if_false, true_and, and_true, reduceCtorEq, true_or, or_true, ne_eq, not_true_eq_false, not_false_eq_true, Bool.not_true, Bool.not_false, bq1, bq0, chk, tt29, tt2, tt3, tt4, tt25, tt24, tt22, tt9, tt44, tt39, gB]
  refine ⟨_, _, hf2d, (by simp [vles, vle, cle, fle, gI, gB, gS, gR, gH, gHs, encR, encH]), ?_⟩; rw [later_eq]
  cases f2
  · simp only [exB_nil, exB_cons, gd2_t, gd2_f, RunB_eq, SkipB_eq, gdV, eff2, cellEq, kdC, kd, gOf, calleeOf, effd, ev, cv, putS, upd_same, upd_miss, St.of, lkV_hit, lkV_miss, lkV_end, lkB_hit, lkB_miss, lkB_end, noArr_eq, arrOf_hit, arrOf_miss, arrOf_end, St.ofA, lkA_zero, lkA_succ, vcells, pack, rowsOf, bin, killV, killB, killC, frzV, frzC, frzB, frzP, partsD, fillD, frz, Option.isSome_some, Option.bind_some, Option.map_some, List.getD_cons_zero, List.getD_cons_succ, List.getElem?_toArray, List.getElem?_cons_zero, List.getElem?_cons_succ, List.map_cons, List.map_nil, List.drop_zero, List.drop_succ_cons, List.take_succ_cons, List.take_zero, List.length_cons, List.length_nil, List.length_map, List.append_eq, List.cons_append, List.nil_append, Nat.reduceAdd, Nat.reduceLeDiff, Nat.reduceEqDiff, Nat.reduceBEq, Nat.reduceLT, ↓reduceIte, if_true, if_false, true_and, and_true, reduceCtorEq, true_or, or_true, ne_eq, not_true_eq_false, not_false_eq_true, Bool.not_true, Bool.not_false, bq1, bq0, chk, tt29, tt2, tt3, tt4, tt25, tt24, tt22, tt9, tt44, tt39, gB]
    (refine hR _ ?_; try dsimp only [thenD, inBlockD])
    refine dw_cond rfl (fun h => ?_) (fun h => by cases h)
    (refine dw_seq_k fun R hR => ?_; (refine dw_row hT (by decide) ?_; simp only [exB_nil, exB_cons, gd2_t, gd2_f, RunB_eq, SkipB_eq, gdV, eff2, cellEq, kdC, kd, gOf, calleeOf, effd, ev, cv, putS, upd_same, upd_miss, St.of, lkV_hit, lkV_miss, lkV_end, lkB_hit, lkB_miss, lkB_end, noArr_eq, arrOf_hit, arrOf_miss, arrOf_end, St.ofA, lkA_zero, lkA_succ, vcells, pack, rowsOf, bin, killV, killB, killC, frzV, frzC, frzB, frzP, partsD, fillD, frz, Option.isSome_some, Option.bind_some, Option.map_some, List.getD_cons_zero, List.getD_cons_succ, List.getElem?_toArray, List.getElem?_cons_zero, List.getElem?_cons_succ, List.map_cons, List.map_nil, List.drop_zero, List.drop_succ_cons, List.take_succ_cons, List.take_zero, List.length_cons, List.length_nil, List.length_map, List.append_eq, List.cons_append, List.nil_append, Nat.reduceAdd, Nat.reduceLeDiff, Nat.reduceEqDiff, Nat.reduceBEq, Nat.reduceLT, ↓reduceIte, if_true, if_false, true_and, and_true, reduceCtorEq, true_or, or_true, ne_eq, not_true_eq_false, not_false_eq_true, Bool.not_true, Bool.not_false, bq1, bq0, chk, tt29, tt2, tt3, tt4, tt25, tt24, tt22, tt9, tt44, tt39]))
    refine ⟨_, _, awake_d, (by simp [vles, vle, cle, fle, gI, gB, gS, gR, gH, gHs, encR, encH]), ?_⟩; rw [later_eq]
    simp only [exB_nil, exB_cons, gd2_t, gd2_f, RunB_eq, SkipB_eq, gdV, eff2, cellEq, kdC, kd, gOf, calleeOf, effd, ev, cv, putS, upd_same, upd_miss, St.of, lkV_hit, lkV_miss, lkV_end, lkB_hit, lkB_miss, lkB_end, noArr_eq, arrOf_hit, arrOf_miss, arrOf_end, St.ofA, lkA_zero, lkA_succ, vcells, pack, rowsOf, bin, killV, killB, killC, frzV, frzC, frzB, frzP, partsD, fillD, frz, Option.isSome_some, Option.bind_some, Option.map_some, List.getD_cons_zero, List.getD_cons_succ, List.getElem?_toArray, List.getElem?_cons_zero, List.getElem?_cons_succ, List.map_cons, List.map_nil, List.drop_zero, List.drop_succ_cons, List.take_succ_cons, List.take_zero, List.length_cons, List.length_nil, List.length_map, List.append_eq, List.cons_append, List.nil_append, Nat.reduceAdd, Nat.reduceLeDiff, Nat.reduceEqDiff, Nat.reduceBEq, Nat.reduceLT, ↓reduceIte, if_true, if_false, true_and, and_true, reduceCtorEq, true_or, or_true, ne_eq, not_true_eq_false, not_false_eq_true, Bool.not_true, Bool.not_false, bq1, bq0, chk, tt29, tt2, tt3, tt4, tt25, tt24, tt22, tt9, tt44, tt39, gB]
    (refine hR _ ?_; try dsimp only [thenD, inBlockD])
    refine dw_ret ?_
    simp only [inBlockD, retQ, thenD, Ret, resV, res1, parts, part1, exB_nil, exB_cons, gd2_t, gd2_f, RunB_eq, SkipB_eq, gdV, eff2, cellEq, kdC, kd, gOf, calleeOf, effd, ev, cv, putS, upd_same, upd_miss, St.of, lkV_hit, lkV_miss, lkV_end, lkB_hit, lkB_miss, lkB_end, noArr_eq, arrOf_hit, arrOf_miss, arrOf_end, St.ofA, lkA_zero, lkA_succ, vcells, pack, rowsOf, bin, killV, killB, killC, frzV, frzC, frzB, frzP, partsD, fillD, frz, Option.isSome_some, Option.bind_some, Option.map_some, List.getD_cons_zero, List.getD_cons_succ, List.getElem?_toArray, List.getElem?_cons_zero, List.getElem?_cons_succ, List.map_cons, List.map_nil, List.drop_zero, List.drop_succ_cons, List.take_succ_cons, List.take_zero, List.length_cons, List.length_nil, List.length_map, List.append_eq, List.cons_append, List.nil_append, Nat.reduceAdd, Nat.reduceLeDiff, Nat.reduceEqDiff, Nat.reduceBEq, Nat.reduceLT, ↓reduceIte, if_true, if_false, true_and, and_true, reduceCtorEq, true_or, or_true, ne_eq, not_true_eq_false, not_false_eq_true, Bool.not_true, Bool.not_false, bq1, bq0, chk, tt29, tt2, tt3, tt4, tt25, tt24, tt22, tt9, tt44, tt39, vle, ple, cle, fle, true_and, and_true]
    all_goals try simp [gB, cle, fle]
  simp only [exB_nil, exB_cons, gd2_t, gd2_f, RunB_eq, SkipB_eq, gdV, eff2, cellEq, kdC, kd, gOf, calleeOf, effd, ev, cv, putS, upd_same, upd_miss, St.of, lkV_hit, lkV_miss, lkV_end, lkB_hit, lkB_miss, lkB_end, noArr_eq, arrOf_hit, arrOf_miss, arrOf_end, St.ofA, lkA_zero, lkA_succ, vcells, pack, rowsOf, bin, killV, killB, killC, frzV, frzC, frzB, frzP, partsD, fillD, frz, Option.isSome_some, Option.bind_some, Option.map_some, List.getD_cons_zero, List.getD_cons_succ, List.getElem?_toArray, List.getElem?_cons_zero, List.getElem?_cons_succ, List.map_cons, List.map_nil, List.drop_zero, List.drop_succ_cons, List.take_succ_cons, List.take_zero, List.length_cons, List.length_nil, List.length_map, List.append_eq, List.cons_append, List.nil_append, Nat.reduceAdd, Nat.reduceLeDiff, Nat.reduceEqDiff, Nat.reduceBEq, Nat.reduceLT, ↓reduceIte, if_true, if_false, true_and, and_true, reduceCtorEq, true_or, or_true, ne_eq, not_true_eq_false, not_false_eq_true, Bool.not_true, Bool.not_false, bq1, bq0, chk, tt29, tt2, tt3, tt4, tt25, tt24, tt22, tt9, tt44, tt39, gB]
  refine ⟨_, _, hgd, (by simp [vles, vle, cle, fle, gI, gB, gS, gR, gH, gHs, encR, encH]), ?_⟩; rw [later_eq]
  cases g
  · simp only [exB_nil, exB_cons, gd2_t, gd2_f, RunB_eq, SkipB_eq, gdV, eff2, cellEq, kdC, kd, gOf, calleeOf, effd, ev, cv, putS, upd_same, upd_miss, St.of, lkV_hit, lkV_miss, lkV_end, lkB_hit, lkB_miss, lkB_end, noArr_eq, arrOf_hit, arrOf_miss, arrOf_end, St.ofA, lkA_zero, lkA_succ, vcells, pack, rowsOf, bin, killV, killB, killC, frzV, frzC, frzB, frzP, partsD, fillD, frz, Option.isSome_some, Option.bind_some, Option.map_some, List.getD_cons_zero, List.getD_cons_succ, List.getElem?_toArray, List.getElem?_cons_zero, List.getElem?_cons_succ, List.map_cons, List.map_nil, List.drop_zero, List.drop_succ_cons, List.take_succ_cons, List.take_zero, List.length_cons, List.length_nil, List.length_map, List.append_eq, List.cons_append, List.nil_append, Nat.reduceAdd, Nat.reduceLeDiff, Nat.reduceEqDiff, Nat.reduceBEq, Nat.reduceLT, ↓reduceIte, if_true, if_false, true_and, and_true, reduceCtorEq, true_or, or_true, ne_eq, not_true_eq_false, not_false_eq_true, Bool.not_true, Bool.not_false, bq1, bq0, chk, tt29, tt2, tt3, tt4, tt25, tt24, tt22, tt9, tt44, tt39, gB]
    (refine hR _ ?_; try dsimp only [thenD, inBlockD])
    refine dw_cond rfl (fun h => ?_) (fun h => by cases h)
    (refine dw_seq_k fun R hR => ?_; (refine dw_row hT (by decide) ?_; simp only [exB_nil, exB_cons, gd2_t, gd2_f, RunB_eq, SkipB_eq, gdV, eff2, cellEq, kdC, kd, gOf, calleeOf, effd, ev, cv, putS, upd_same, upd_miss, St.of, lkV_hit, lkV_miss, lkV_end, lkB_hit, lkB_miss, lkB_end, noArr_eq, arrOf_hit, arrOf_miss, arrOf_end, St.ofA, lkA_zero, lkA_succ, vcells, pack, rowsOf, bin, killV, killB, killC, frzV, frzC, frzB, frzP, partsD, fillD, frz, Option.isSome_some, Option.bind_some, Option.map_some, List.getD_cons_zero, List.getD_cons_succ, List.getElem?_toArray, List.getElem?_cons_zero, List.getElem?_cons_succ, List.map_cons, List.map_nil, List.drop_zero, List.drop_succ_cons, List.take_succ_cons, List.take_zero, List.length_cons, List.length_nil, List.length_map, List.append_eq, List.cons_append, List.nil_append, Nat.reduceAdd, Nat.reduceLeDiff, Nat.reduceEqDiff, Nat.reduceBEq, Nat.reduceLT, ↓reduceIte, if_true, if_false, true_and, and_true, reduceCtorEq, true_or, or_true, ne_eq, not_true_eq_false, not_false_eq_true, Bool.not_true, Bool.not_false, bq1, bq0, chk, tt29, tt2, tt3, tt4, tt25, tt24, tt22, tt9, tt44, tt39]))
    refine ⟨_, _, awake_d, (by simp [vles, vle, cle, fle, gI, gB, gS, gR, gH, gHs, encR, encH]), ?_⟩; rw [later_eq]
    simp only [exB_nil, exB_cons, gd2_t, gd2_f, RunB_eq, SkipB_eq, gdV, eff2, cellEq, kdC, kd, gOf, calleeOf, effd, ev, cv, putS, upd_same, upd_miss, St.of, lkV_hit, lkV_miss, lkV_end, lkB_hit, lkB_miss, lkB_end, noArr_eq, arrOf_hit, arrOf_miss, arrOf_end, St.ofA, lkA_zero, lkA_succ, vcells, pack, rowsOf, bin, killV, killB, killC, frzV, frzC, frzB, frzP, partsD, fillD, frz, Option.isSome_some, Option.bind_some, Option.map_some, List.getD_cons_zero, List.getD_cons_succ, List.getElem?_toArray, List.getElem?_cons_zero, List.getElem?_cons_succ, List.map_cons, List.map_nil, List.drop_zero, List.drop_succ_cons, List.take_succ_cons, List.take_zero, List.length_cons, List.length_nil, List.length_map, List.append_eq, List.cons_append, List.nil_append, Nat.reduceAdd, Nat.reduceLeDiff, Nat.reduceEqDiff, Nat.reduceBEq, Nat.reduceLT, ↓reduceIte, if_true, if_false, true_and, and_true, reduceCtorEq, true_or, or_true, ne_eq, not_true_eq_false, not_false_eq_true, Bool.not_true, Bool.not_false, bq1, bq0, chk, tt29, tt2, tt3, tt4, tt25, tt24, tt22, tt9, tt44, tt39, gB]
    (refine hR _ ?_; try dsimp only [thenD, inBlockD])
    refine dw_ret ?_
    simp only [inBlockD, retQ, thenD, Ret, resV, res1, parts, part1, exB_nil, exB_cons, gd2_t, gd2_f, RunB_eq, SkipB_eq, gdV, eff2, cellEq, kdC, kd, gOf, calleeOf, effd, ev, cv, putS, upd_same, upd_miss, St.of, lkV_hit, lkV_miss, lkV_end, lkB_hit, lkB_miss, lkB_end, noArr_eq, arrOf_hit, arrOf_miss, arrOf_end, St.ofA, lkA_zero, lkA_succ, vcells, pack, rowsOf, bin, killV, killB, killC, frzV, frzC, frzB, frzP, partsD, fillD, frz, Option.isSome_some, Option.bind_some, Option.map_some, List.getD_cons_zero, List.getD_cons_succ, List.getElem?_toArray, List.getElem?_cons_zero, List.getElem?_cons_succ, List.map_cons, List.map_nil, List.drop_zero, List.drop_succ_cons, List.take_succ_cons, List.take_zero, List.length_cons, List.length_nil, List.length_map, List.append_eq, List.cons_append, List.nil_append, Nat.reduceAdd, Nat.reduceLeDiff, Nat.reduceEqDiff, Nat.reduceBEq, Nat.reduceLT, ↓reduceIte, if_true, if_false, true_and, and_true, reduceCtorEq, true_or, or_true, ne_eq, not_true_eq_false, not_false_eq_true, Bool.not_true, Bool.not_false, bq1, bq0, chk, tt29, tt2, tt3, tt4, tt25, tt24, tt22, tt9, tt44, tt39, vle, ple, cle, fle, true_and, and_true]
    all_goals try simp [gB, cle, fle]
  simp only [exB_nil, exB_cons, gd2_t, gd2_f, RunB_eq, SkipB_eq, gdV, eff2, cellEq, kdC, kd, gOf, calleeOf, effd, ev, cv, putS, upd_same, upd_miss, St.of, lkV_hit, lkV_miss, lkV_end, lkB_hit, lkB_miss, lkB_end, noArr_eq, arrOf_hit, arrOf_miss, arrOf_end, St.ofA, lkA_zero, lkA_succ, vcells, pack, rowsOf, bin, killV, killB, killC, frzV, frzC, frzB, frzP, partsD, fillD, frz, Option.isSome_some, Option.bind_some, Option.map_some, List.getD_cons_zero, List.getD_cons_succ, List.getElem?_toArray, List.getElem?_cons_zero, List.getElem?_cons_succ, List.map_cons, List.map_nil, List.drop_zero, List.drop_succ_cons, List.take_succ_cons, List.take_zero, List.length_cons, List.length_nil, List.length_map, List.append_eq, List.cons_append, List.nil_append, Nat.reduceAdd, Nat.reduceLeDiff, Nat.reduceEqDiff, Nat.reduceBEq, Nat.reduceLT, ↓reduceIte, if_true, if_false, true_and, and_true, reduceCtorEq, true_or, or_true, ne_eq, not_true_eq_false, not_false_eq_true, Bool.not_true, Bool.not_false, bq1, bq0, chk, tt29, tt2, tt3, tt4, tt25, tt24, tt22, tt9, tt44, tt39, gB]
  (refine hR _ ?_; try dsimp only [thenD, inBlockD])
  refine dw_cond rfl (fun h => by cases h) (fun h => ?_)
  refine dw_skip ?_
  try dsimp only [thenD]
  refine hR1 _ ?_
  have h8 : ls.length ≤ 8 := (fit_peer hf2).2
  have hfr := first_eq hf2 nm
  simp only [] at hfr
  (refine dw_seq_k fun R hR => ?_; (refine dw_row hT (by decide) ?_; simp only [exB_nil, exB_cons, gd2_t, gd2_f, RunB_eq, SkipB_eq, gdV, eff2, cellEq, kdC, kd, gOf, calleeOf, effd, ev, cv, putS, upd_same, upd_miss, St.of, lkV_hit, lkV_miss, lkV_end, lkB_hit, lkB_miss, lkB_end, noArr_eq, arrOf_hit, arrOf_miss, arrOf_end, St.ofA, lkA_zero, lkA_succ, vcells, pack, rowsOf, bin, killV, killB, killC, frzV, frzC, frzB, frzP, partsD, fillD, frz, Option.isSome_some, Option.bind_some, Option.map_some, List.getD_cons_zero, List.getD_cons_succ, List.getElem?_toArray, List.getElem?_cons_zero, List.getElem?_cons_succ, List.map_cons, List.map_nil, List.drop_zero, List.drop_succ_cons, List.take_succ_cons, List.take_zero, List.length_cons, List.length_nil, List.length_map, List.append_eq, List.cons_append, List.nil_append, Nat.reduceAdd, Nat.reduceLeDiff, Nat.reduceEqDiff, Nat.reduceBEq, Nat.reduceLT, ↓reduceIte, if_true, if_false, true_and, and_true, reduceCtorEq, true_or, or_true, ne_eq, not_true_eq_false, not_false_eq_true, Bool.not_true, Bool.not_false, bq1, bq0, chk, tt29, tt2, tt3, tt4, tt25, tt24, tt22, tt9, tt44, tt39]))
  refine ⟨_, _, refOne_d ⟨p, bo, li, ls, pe, mi⟩ (by simp only []; omega), (by simp [vles, vle, cle, fle, gI, gB, gS, gR, gH, gHs, encR, encH]), ?_⟩; rw [later_eq]
  simp only [exB_nil, exB_cons, gd2_t, gd2_f, RunB_eq, SkipB_eq, gdV, eff2, cellEq, kdC, kd, gOf, calleeOf, effd, ev, cv, putS, upd_same, upd_miss, St.of, lkV_hit, lkV_miss, lkV_end, lkB_hit, lkB_miss, lkB_end, noArr_eq, arrOf_hit, arrOf_miss, arrOf_end, St.ofA, lkA_zero, lkA_succ, vcells, pack, rowsOf, bin, killV, killB, killC, frzV, frzC, frzB, frzP, partsD, fillD, frz, Option.isSome_some, Option.bind_some, Option.map_some, List.getD_cons_zero, List.getD_cons_succ, List.getElem?_toArray, List.getElem?_cons_zero, List.getElem?_cons_succ, List.map_cons, List.map_nil, List.drop_zero, List.drop_succ_cons, List.take_succ_cons, List.take_zero, List.length_cons, List.length_nil, List.length_map, List.append_eq, List.cons_append, List.nil_append, Nat.reduceAdd, Nat.reduceLeDiff, Nat.reduceEqDiff, Nat.reduceBEq, Nat.reduceLT, ↓reduceIte, if_true, if_false, true_and, and_true, reduceCtorEq, true_or, or_true, ne_eq, not_true_eq_false, not_false_eq_true, Bool.not_true, Bool.not_false, bq1, bq0, chk, tt29, tt2, tt3, tt4, tt25, tt24, tt22, tt9, tt44, tt39, gH, encH]
  (refine hR _ ?_; try dsimp only [thenD, inBlockD])
  refine dw_seq_k fun R2 hR2 => ?_
  have hwr := write_d ⟨p, bo, li, ls, pe, mi⟩ nm r (by simp only []; omega)
  have hwr2 := refWrite_d ⟨p, bo, li, ls, pe, mi⟩ nm r (by simp only []; omega)
  have hwl := write_len ls nm r.ver r.wt r.fl
  obtain ⟨lw, hlw⟩ : ∃ x, writeL ls nm r.ver r.wt r.fl = x := ⟨_, rfl⟩
  simp only [hL, hlw] at hwr hwr2 hwl
  obtain ⟨was, hwas⟩ : ∃ x, regL ls nm = x := ⟨_, rfl⟩
  have hrg := halfReg_d ⟨p, bo, li, ls, pe, mi⟩ nm (by simp only []; omega)
  have hrg2 := refReg_d ⟨p, bo, li, ls, pe, mi⟩ nm (by simp only []; omega)
  simp only [hfr, hwas] at hrg hrg2
  (refine dw_seq_k fun R hR => ?_; (refine dw_rowd [] hT rfl (by decide) (by decide +kernel) rfl ?_; simp only [rnOf, List.mem_cons, List.not_mem_nil, or_false, forall_eq, false_implies, implies_true, exB_nil, exB_cons, gd2_t, gd2_f, RunB_eq, SkipB_eq, gdV, eff2, cellEq, kdC, kd, gOf, calleeOf, effd, ev, cv, putS, upd_same, upd_miss, St.of, lkV_hit, lkV_miss, lkV_end, lkB_hit, lkB_miss, lkB_end, noArr_eq, arrOf_hit, arrOf_miss, arrOf_end, St.ofA, lkA_zero, lkA_succ, vcells, pack, rowsOf, bin, killV, killB, killC, frzV, frzC, frzB, frzP, partsD, fillD, frz, Option.isSome_some, Option.bind_some, Option.map_some, List.getD_cons_zero, List.getD_cons_succ, List.getElem?_toArray, List.getElem?_cons_zero, List.getElem?_cons_succ, List.map_cons, List.map_nil, List.drop_zero, List.drop_succ_cons, List.take_succ_cons, List.take_zero, List.length_cons, List.length_nil, List.length_map, List.append_eq, List.cons_append, List.nil_append, Nat.reduceAdd, Nat.reduceLeDiff, Nat.reduceEqDiff, Nat.reduceBEq, Nat.reduceLT, ↓reduceIte, if_true, if_false, true_and, and_true, reduceCtorEq, true_or, or_true, ne_eq, not_true_eq_false, not_false_eq_true, Bool.not_true, Bool.not_false, bq1, bq0, chk, tt29, tt2, tt3, tt4, tt25, tt24, tt22, tt9, tt44, tt39]))
  refine ⟨_, _, hrg, (by simp [vles, vle, cle, fle, gI, gB, gS, gR, gH, gHs, encR, encH]), ?_⟩; rw [later_eq]
  simp only [exB_nil, exB_cons, gd2_t, gd2_f, RunB_eq, SkipB_eq, gdV, eff2, cellEq, kdC, kd, gOf, calleeOf, effd, ev, cv, putS, upd_same, upd_miss, St.of, lkV_hit, lkV_miss, lkV_end, lkB_hit, lkB_miss, lkB_end, noArr_eq, arrOf_hit, arrOf_miss, arrOf_end, St.ofA, lkA_zero, lkA_succ, vcells, pack, rowsOf, bin, killV, killB, killC, frzV, frzC, frzB, frzP, partsD, fillD, frz, Option.isSome_some, Option.bind_some, Option.map_some, List.getD_cons_zero, List.getD_cons_succ, List.getElem?_toArray, List.getElem?_cons_zero, List.getElem?_cons_succ, List.map_cons, List.map_nil, List.drop_zero, List.drop_succ_cons, List.take_succ_cons, List.take_zero, List.length_cons, List.length_nil, List.length_map, List.append_eq, List.cons_append, List.nil_append, Nat.reduceAdd, Nat.reduceLeDiff, Nat.reduceEqDiff, Nat.reduceBEq, Nat.reduceLT, ↓reduceIte, if_true, if_false, true_and, and_true, reduceCtorEq, true_or, or_true, ne_eq, not_true_eq_false, not_false_eq_true, Bool.not_true, Bool.not_false, bq1, bq0, chk, tt29, tt2, tt3, tt4, tt25, tt24, tt22, tt9, tt44, tt39, gR, encR]
  refine ⟨_, _, hrg2, (by simp [vles, vle, cle, fle, gI, gB, gS, gR, gH, gHs, encR, encH]), ?_⟩; rw [later_eq]
  simp only [exB_nil, exB_cons, gd2_t, gd2_f, RunB_eq, SkipB_eq, gdV, eff2, cellEq, kdC, kd, gOf, calleeOf, effd, ev, cv, putS, upd_same, upd_miss, St.of, lkV_hit, lkV_miss, lkV_end, lkB_hit, lkB_miss, lkB_end, noArr_eq, arrOf_hit, arrOf_miss, arrOf_end, St.ofA, lkA_zero, lkA_succ, vcells, pack, rowsOf, bin, killV, killB, killC, frzV, frzC, frzB, frzP, partsD, fillD, frz, Option.isSome_some, Option.bind_some, Option.map_some, List.getD_cons_zero, List.getD_cons_succ, List.getElem?_toArray, List.getElem?_cons_zero, List.getElem?_cons_succ, List.map_cons, List.map_nil, List.drop_zero, List.drop_succ_cons, List.take_succ_cons, List.take_zero, List.length_cons, List.length_nil, List.length_map, List.append_eq, List.cons_append, List.nil_append, Nat.reduceAdd, Nat.reduceLeDiff, Nat.reduceEqDiff, Nat.reduceBEq, Nat.reduceLT, ↓reduceIte, if_true, if_false, true_and, and_true, reduceCtorEq, true_or, or_true, ne_eq, not_true_eq_false, not_false_eq_true, Bool.not_true, Bool.not_false, bq1, bq0, chk, tt29, tt2, tt3, tt4, tt25, tt24, tt22, tt9, tt44, tt39, gR, encR, beq_self_eq_true, Bool.and_self]
  refine ⟨eq_Reg, ?_⟩
  refine ⟨_, _, hwr, (by simp [vles, vle, cle, fle, gI, gB, gS, gR, gH, gHs, encR, encH]), ?_⟩; rw [later_eq]
  simp only [exB_nil, exB_cons, gd2_t, gd2_f, RunB_eq, SkipB_eq, gdV, eff2, cellEq, kdC, kd, gOf, calleeOf, effd, ev, cv, putS, upd_same, upd_miss, St.of, lkV_hit, lkV_miss, lkV_end, lkB_hit, lkB_miss, lkB_end, noArr_eq, arrOf_hit, arrOf_miss, arrOf_end, St.ofA, lkA_zero, lkA_succ, vcells, pack, rowsOf, bin, killV, killB, killC, frzV, frzC, frzB, frzP, partsD, fillD, frz, Option.isSome_some, Option.bind_some, Option.map_some, List.getD_cons_zero, List.getD_cons_succ, List.getElem?_toArray, List.getElem?_cons_zero, List.getElem?_cons_succ, List.map_cons, List.map_nil, List.drop_zero, List.drop_succ_cons, List.take_succ_cons, List.take_zero, List.length_cons, List.length_nil, List.length_map, List.append_eq, List.cons_append, List.nil_append, Nat.reduceAdd, Nat.reduceLeDiff, Nat.reduceEqDiff, Nat.reduceBEq, Nat.reduceLT, ↓reduceIte, if_true, if_false, true_and, and_true, reduceCtorEq, true_or, or_true, ne_eq, not_true_eq_false, not_false_eq_true, Bool.not_true, Bool.not_false, bq1, bq0, chk, tt29, tt2, tt3, tt4, tt25, tt24, tt22, tt9, tt44, tt39, gH, encH]
  refine ⟨_, _, hwr2, (by simp [vles, vle, cle, fle, gI, gB, gS, gR, gH, gHs, encR, encH]), ?_⟩; rw [later_eq]
  simp only [exB_nil, exB_cons, gd2_t, gd2_f, RunB_eq, SkipB_eq, gdV, eff2, cellEq, kdC, kd, gOf, calleeOf, effd, ev, cv, putS, upd_same, upd_miss, St.of, lkV_hit, lkV_miss, lkV_end, lkB_hit, lkB_miss, lkB_end, noArr_eq, arrOf_hit, arrOf_miss, arrOf_end, St.ofA, lkA_zero, lkA_succ, vcells, pack, rowsOf, bin, killV, killB, killC, frzV, frzC, frzB, frzP, partsD, fillD, frz, Option.isSome_some, Option.bind_some, Option.map_some, List.getD_cons_zero, List.getD_cons_succ, List.getElem?_toArray, List.getElem?_cons_zero, List.getElem?_cons_succ, List.map_cons, List.map_nil, List.drop_zero, List.drop_succ_cons, List.take_succ_cons, List.take_zero, List.length_cons, List.length_nil, List.length_map, List.append_eq, List.cons_append, List.nil_append, Nat.reduceAdd, Nat.reduceLeDiff, Nat.reduceEqDiff, Nat.reduceBEq, Nat.reduceLT, ↓reduceIte, if_true, if_false, true_and, and_true, reduceCtorEq, true_or, or_true, ne_eq, not_true_eq_false, not_false_eq_true, Bool.not_true, Bool.not_false, bq1, bq0, chk, tt29, tt2, tt3, tt4, tt25, tt24, tt22, tt9, tt44, tt39, gH, encH]
  have hso := sameOne_d ⟨p, bo, li, lw, pe, mi⟩ ⟨p, bo, li, lw, pe, mi⟩ (by simp only [maxLen]; omega)
  rw [(sameH_iff _ _).2 rfl] at hso
  refine ⟨_, _, hso, (by simp [vles, vle, cle, fle, gI, gB, gS, gR, gH, gHs, encR, encH]), ?_⟩; rw [later_eq]
  simp only [exB_nil, exB_cons, gd2_t, gd2_f, RunB_eq, SkipB_eq, gdV, eff2, cellEq, kdC, kd, gOf, calleeOf, effd, ev, cv, putS, upd_same, upd_miss, St.of, lkV_hit, lkV_miss, lkV_end, lkB_hit, lkB_miss, lkB_end, noArr_eq, arrOf_hit, arrOf_miss, arrOf_end, St.ofA, lkA_zero, lkA_succ, vcells, pack, rowsOf, bin, killV, killB, killC, frzV, frzC, frzB, frzP, partsD, fillD, frz, Option.isSome_some, Option.bind_some, Option.map_some, List.getD_cons_zero, List.getD_cons_succ, List.getElem?_toArray, List.getElem?_cons_zero, List.getElem?_cons_succ, List.map_cons, List.map_nil, List.drop_zero, List.drop_succ_cons, List.take_succ_cons, List.take_zero, List.length_cons, List.length_nil, List.length_map, List.append_eq, List.cons_append, List.nil_append, Nat.reduceAdd, Nat.reduceLeDiff, Nat.reduceEqDiff, Nat.reduceBEq, Nat.reduceLT, ↓reduceIte, if_true, if_false, true_and, and_true, reduceCtorEq, true_or, or_true, ne_eq, not_true_eq_false, not_false_eq_true, Bool.not_true, Bool.not_false, bq1, bq0, chk, tt29, tt2, tt3, tt4, tt25, tt24, tt22, tt9, tt44, tt39, gB]
  (refine hR _ ?_; try dsimp only [thenD, inBlockD])
  refine dw_cond rfl (fun h => by cases h) (fun h => ?_)
  refine dw_skip ?_
  try dsimp only [thenD]
  refine hR2 _ ?_
  obtain ⟨ls', c, hm, hfit, hsame⟩ := merge_same hf2 nm hg r
  have hmo := merge_o id ⟨p, bo, li, ls, pe, mi⟩ nm r (by simp only []; omega)
  have hmd := refMerge_d id ⟨p, bo, li, ls, pe, mi⟩ nm r (by simp only []; omega)
  rw [hsame] at hmd
  simp only [] at hm
  simp only [hm] at hmo
  simp only [hL] at hmd hfit
  have h8' : ls'.length ≤ 8 := (fit_peer hfit).2
  refine dw_seq_k fun R hR => ?_
  refine dw_rowO 4 rfl rfl hT (by decide) ?_
  simp only [exB_nil, exB_cons, gd2_t, gd2_f, RunB_eq, SkipB_eq, gdV, eff2, cellEq, kdC, kd, gOf, calleeOf, effd, ev, cv, putS, upd_same, upd_miss, St.of, lkV_hit, lkV_miss, lkV_end, lkB_hit, lkB_miss, lkB_end, noArr_eq, arrOf_hit, arrOf_miss, arrOf_end, St.ofA, lkA_zero, lkA_succ, vcells, pack, rowsOf, bin, killV, killB, killC, frzV, frzC, frzB, frzP, partsD, fillD, frz, Option.isSome_some, Option.bind_some, Option.map_some, List.getD_cons_zero, List.getD_cons_succ, List.getElem?_toArray, List.getElem?_cons_zero, List.getElem?_cons_succ, List.map_cons, List.map_nil, List.drop_zero, List.drop_succ_cons, List.take_succ_cons, List.take_zero, List.length_cons, List.length_nil, List.length_map, List.append_eq, List.cons_append, List.nil_append, Nat.reduceAdd, Nat.reduceLeDiff, Nat.reduceEqDiff, Nat.reduceBEq, Nat.reduceLT, ↓reduceIte, if_true, if_false, true_and, and_true, reduceCtorEq, true_or, or_true, ne_eq, not_true_eq_false, not_false_eq_true, Bool.not_true, Bool.not_false, bq1, bq0, chk, tt29, tt2, tt3, tt4, tt25, tt24, tt22, tt9, tt44, tt39]
  refine ⟨_, _, _, _, _, _, _, _, rfl, rfl, hmo, (by simp only [exB_nil, exB_cons, gd2_t, gd2_f, RunB_eq, SkipB_eq, gdV, eff2, cellEq, kdC, kd, gOf, calleeOf, effd, ev, cv, putS, upd_same, upd_miss, St.of, lkV_hit, lkV_miss, lkV_end, lkB_hit, lkB_miss, lkB_end, noArr_eq, arrOf_hit, arrOf_miss, arrOf_end, St.ofA, lkA_zero, lkA_succ, vcells, pack, rowsOf, bin, killV, killB, killC, frzV, frzC, frzB, frzP, partsD, fillD, frz, Option.isSome_some, Option.bind_some, Option.map_some, List.getD_cons_zero, List.getD_cons_succ, List.getElem?_toArray, List.getElem?_cons_zero, List.getElem?_cons_succ, List.map_cons, List.map_nil, List.drop_zero, List.drop_succ_cons, List.take_succ_cons, List.take_zero, List.length_cons, List.length_nil, List.length_map, List.append_eq, List.cons_append, List.nil_append, Nat.reduceAdd, Nat.reduceLeDiff, Nat.reduceEqDiff, Nat.reduceBEq, Nat.reduceLT, ↓reduceIte, if_true, if_false, true_and, and_true, reduceCtorEq, true_or, or_true, ne_eq, not_true_eq_false, not_false_eq_true, Bool.not_true, Bool.not_false, bq1, bq0, chk, tt29, tt2, tt3, tt4, tt25, tt24, tt22, tt9, tt44, tt39]; simp [vles, vle, cle, fle, gI, gB, gS, gR, gH, gHs, encR, encH]), rfl, ?_⟩
  simp only [exB_nil, exB_cons, gd2_t, gd2_f, RunB_eq, SkipB_eq, gdV, eff2, cellEq, kdC, kd, gOf, calleeOf, effd, ev, cv, putS, upd_same, upd_miss, St.of, lkV_hit, lkV_miss, lkV_end, lkB_hit, lkB_miss, lkB_end, noArr_eq, arrOf_hit, arrOf_miss, arrOf_end, St.ofA, lkA_zero, lkA_succ, vcells, pack, rowsOf, bin, killV, killB, killC, frzV, frzC, frzB, frzP, partsD, fillD, frz, Option.isSome_some, Option.bind_some, Option.map_some, List.getD_cons_zero, List.getD_cons_succ, List.getElem?_toArray, List.getElem?_cons_zero, List.getElem?_cons_succ, List.map_cons, List.map_nil, List.drop_zero, List.drop_succ_cons, List.take_succ_cons, List.take_zero, List.length_cons, List.length_nil, List.length_map, List.append_eq, List.cons_append, List.nil_append, Nat.reduceAdd, Nat.reduceLeDiff, Nat.reduceEqDiff, Nat.reduceBEq, Nat.reduceLT, ↓reduceIte, if_true, if_false, true_and, and_true, reduceCtorEq, true_or, or_true, ne_eq, not_true_eq_false, not_false_eq_true, Bool.not_true, Bool.not_false, bq1, bq0, chk, tt29, tt2, tt3, tt4, tt25, tt24, tt22, tt9, tt44, tt39]
  (refine hR _ ?_; try dsimp only [thenD, inBlockD])
  (refine dw_seq_k fun R hR => ?_; (refine dw_row hT (by decide) ?_; simp only [exB_nil, exB_cons, gd2_t, gd2_f, RunB_eq, SkipB_eq, gdV, eff2, cellEq, kdC, kd, gOf, calleeOf, effd, ev, cv, putS, upd_same, upd_miss, St.of, lkV_hit, lkV_miss, lkV_end, lkB_hit, lkB_miss, lkB_end, noArr_eq, arrOf_hit, arrOf_miss, arrOf_end, St.ofA, lkA_zero, lkA_succ, vcells, pack, rowsOf, bin, killV, killB, killC, frzV, frzC, frzB, frzP, partsD, fillD, frz, Option.isSome_some, Option.bind_some, Option.map_some, List.getD_cons_zero, List.getD_cons_succ, List.getElem?_toArray, List.getElem?_cons_zero, List.getElem?_cons_succ, List.map_cons, List.map_nil, List.drop_zero, List.drop_succ_cons, List.take_succ_cons, List.take_zero, List.length_cons, List.length_nil, List.length_map, List.append_eq, List.cons_append, List.nil_append, Nat.reduceAdd, Nat.reduceLeDiff, Nat.reduceEqDiff, Nat.reduceBEq, Nat.reduceLT, ↓reduceIte, if_true, if_false, true_and, and_true, reduceCtorEq, true_or, or_true, ne_eq, not_true_eq_false, not_false_eq_true, Bool.not_true, Bool.not_false, bq1, bq0, chk, tt29, tt2, tt3, tt4, tt25, tt24, tt22, tt9, tt44, tt39]))
  refine ⟨_, _, hmd, (by simp [vles, vle, cle, fle, gI, gB, gS, gR, gH, gHs, encR, encH]), ?_⟩; rw [later_eq]
  simp only [exB_nil, exB_cons, gd2_t, gd2_f, RunB_eq, SkipB_eq, gdV, eff2, cellEq, kdC, kd, gOf, calleeOf, effd, ev, cv, putS, upd_same, upd_miss, St.of, lkV_hit, lkV_miss, lkV_end, lkB_hit, lkB_miss, lkB_end, noArr_eq, arrOf_hit, arrOf_miss, arrOf_end, St.ofA, lkA_zero, lkA_succ, vcells, pack, rowsOf, bin, killV, killB, killC, frzV, frzC, frzB, frzP, partsD, fillD, frz, Option.isSome_some, Option.bind_some, Option.map_some, List.getD_cons_zero, List.getD_cons_succ, List.getElem?_toArray, List.getElem?_cons_zero, List.getElem?_cons_succ, List.map_cons, List.map_nil, List.drop_zero, List.drop_succ_cons, List.take_succ_cons, List.take_zero, List.length_cons, List.length_nil, List.length_map, List.append_eq, List.cons_append, List.nil_append, Nat.reduceAdd, Nat.reduceLeDiff, Nat.reduceEqDiff, Nat.reduceBEq, Nat.reduceLT, ↓reduceIte, if_true, if_false, true_and, and_true, reduceCtorEq, true_or, or_true, ne_eq, not_true_eq_false, not_false_eq_true, Bool.not_true, Bool.not_false, bq1, bq0, chk, tt29, tt2, tt3, tt4, tt25, tt24, tt22, tt9, tt44, tt39, encH]
  (refine hR _ ?_; try dsimp only [thenD, inBlockD])
  refine dw_seq_k fun R3 hR3 => ?_
  have hso2 := sameOne_d ⟨p, bo, li, ls', pe, mi⟩ ⟨p, bo, li, ls', pe, mi⟩ (by simp only [maxLen]; omega)
  rw [(sameH_iff _ _).2 rfl] at hso2
  have hfd2 := refFit_d id ⟨p, bo, li, ls', pe, mi⟩ (by simp only [maxLen]; omega) (fit_names hfit)
  rw [hfit] at hfd2
  (refine dw_seq_k fun R hR => ?_; refine dw_rowL hT (by decide) ?_; simp only [exL_nil, exL_cons, RunL_eq, exB_nil, exB_cons, gd2_t, gd2_f, RunB_eq, SkipB_eq, gdV, eff2, cellEq, kdC, kd, gOf, calleeOf, effd, ev, cv, putS, upd_same, upd_miss, St.of, lkV_hit, lkV_miss, lkV_end, lkB_hit, lkB_miss, lkB_end, noArr_eq, arrOf_hit, arrOf_miss, arrOf_end, St.ofA, lkA_zero, lkA_succ, vcells, pack, rowsOf, bin, killV, killB, killC, frzV, frzC, frzB, frzP, partsD, fillD, frz, Option.isSome_some, Option.bind_some, Option.map_some, List.getD_cons_zero, List.getD_cons_succ, List.getElem?_toArray, List.getElem?_cons_zero, List.getElem?_cons_succ, List.map_cons, List.map_nil, List.drop_zero, List.drop_succ_cons, List.take_succ_cons, List.take_zero, List.length_cons, List.length_nil, List.length_map, List.append_eq, List.cons_append, List.nil_append, Nat.reduceAdd, Nat.reduceLeDiff, Nat.reduceEqDiff, Nat.reduceBEq, Nat.reduceLT, ↓reduceIte, if_true, if_false, true_and, and_true, reduceCtorEq, true_or, or_true, ne_eq, not_true_eq_false, not_false_eq_true, Bool.not_true, Bool.not_false, bq1, bq0, chk, tt29, tt2, tt3, tt4, tt25, tt24, tt22, tt9, tt44, tt39])
  refine ⟨_, _, hso2, .inl ⟨⟨_, rfl⟩, (by simp [vlesL, vleL, cleL, vle, fle, gI, gB, gS, gR, gH, gHs, encR, encH])⟩, ?_⟩; rw [later_eq]
  simp only [exL_nil, exL_cons, RunL_eq, exB_nil, exB_cons, gd2_t, gd2_f, RunB_eq, SkipB_eq, gdV, eff2, cellEq, kdC, kd, gOf, calleeOf, effd, ev, cv, putS, upd_same, upd_miss, St.of, lkV_hit, lkV_miss, lkV_end, lkB_hit, lkB_miss, lkB_end, noArr_eq, arrOf_hit, arrOf_miss, arrOf_end, St.ofA, lkA_zero, lkA_succ, vcells, pack, rowsOf, bin, killV, killB, killC, frzV, frzC, frzB, frzP, partsD, fillD, frz, Option.isSome_some, Option.bind_some, Option.map_some, List.getD_cons_zero, List.getD_cons_succ, List.getElem?_toArray, List.getElem?_cons_zero, List.getElem?_cons_succ, List.map_cons, List.map_nil, List.drop_zero, List.drop_succ_cons, List.take_succ_cons, List.take_zero, List.length_cons, List.length_nil, List.length_map, List.append_eq, List.cons_append, List.nil_append, Nat.reduceAdd, Nat.reduceLeDiff, Nat.reduceEqDiff, Nat.reduceBEq, Nat.reduceLT, ↓reduceIte, if_true, if_false, true_and, and_true, reduceCtorEq, true_or, or_true, ne_eq, not_true_eq_false, not_false_eq_true, Bool.not_true, Bool.not_false, bq1, bq0, chk, tt29, tt2, tt3, tt4, tt25, tt24, tt22, tt9, tt44, tt39, gB, beq_self_eq_true]
  refine ⟨_, _, hfd2, .inl ⟨⟨_, rfl⟩, (by simp [vlesL, vleL, cleL, vle, fle, gI, gB, gS, gR, gH, gHs, encR, encH])⟩, ?_⟩; rw [later_eq]
  simp only [exL_nil, exL_cons, RunL_eq, exB_nil, exB_cons, gd2_t, gd2_f, RunB_eq, SkipB_eq, gdV, eff2, cellEq, kdC, kd, gOf, calleeOf, effd, ev, cv, putS, upd_same, upd_miss, St.of, lkV_hit, lkV_miss, lkV_end, lkB_hit, lkB_miss, lkB_end, noArr_eq, arrOf_hit, arrOf_miss, arrOf_end, St.ofA, lkA_zero, lkA_succ, vcells, pack, rowsOf, bin, killV, killB, killC, frzV, frzC, frzB, frzP, partsD, fillD, frz, Option.isSome_some, Option.bind_some, Option.map_some, List.getD_cons_zero, List.getD_cons_succ, List.getElem?_toArray, List.getElem?_cons_zero, List.getElem?_cons_succ, List.map_cons, List.map_nil, List.drop_zero, List.drop_succ_cons, List.take_succ_cons, List.take_zero, List.length_cons, List.length_nil, List.length_map, List.append_eq, List.cons_append, List.nil_append, Nat.reduceAdd, Nat.reduceLeDiff, Nat.reduceEqDiff, Nat.reduceBEq, Nat.reduceLT, ↓reduceIte, if_true, if_false, true_and, and_true, reduceCtorEq, true_or, or_true, ne_eq, not_true_eq_false, not_false_eq_true, Bool.not_true, Bool.not_false, bq1, bq0, chk, tt29, tt2, tt3, tt4, tt25, tt24, tt22, tt9, tt44, tt39, gB]
  (refine hR _ ?_; try dsimp only [thenD, inBlockD])
  refine dw_cond rfl (fun h => by cases h) (fun h => ?_)
  refine dw_skip ?_
  try dsimp only [thenD]
  refine hR3 _ ?_
  refine dw_seq_k fun R4 hR4 => ?_
  (refine dw_seq_k fun R hR => ?_; (refine dw_row hT (by decide) ?_; simp only [exB_nil, exB_cons, gd2_t, gd2_f, RunB_eq, SkipB_eq, gdV, eff2, cellEq, kdC, kd, gOf, calleeOf, effd, ev, cv, putS, upd_same, upd_miss, St.of, lkV_hit, lkV_miss, lkV_end, lkB_hit, lkB_miss, lkB_end, noArr_eq, arrOf_hit, arrOf_miss, arrOf_end, St.ofA, lkA_zero, lkA_succ, vcells, pack, rowsOf, bin, killV, killB, killC, frzV, frzC, frzB, frzP, partsD, fillD, frz, Option.isSome_some, Option.bind_some, Option.map_some, List.getD_cons_zero, List.getD_cons_succ, List.getElem?_toArray, List.getElem?_cons_zero, List.getElem?_cons_succ, List.map_cons, List.map_nil, List.drop_zero, List.drop_succ_cons, List.take_succ_cons, List.take_zero, List.length_cons, List.length_nil, List.length_map, List.append_eq, List.cons_append, List.nil_append, Nat.reduceAdd, Nat.reduceLeDiff, Nat.reduceEqDiff, Nat.reduceBEq, Nat.reduceLT, ↓reduceIte, if_true, if_false, true_and, and_true, reduceCtorEq, true_or, or_true, ne_eq, not_true_eq_false, not_false_eq_true, Bool.not_true, Bool.not_false, bq1, bq0, chk, tt29, tt2, tt3, tt4, tt25, tt24, tt22, tt9, tt44, tt39]))
  (refine hR _ ?_; try dsimp only [thenD, inBlockD])
  refine dw_block ?_
  refine dw_loop (ι := {x : Nat × List (List F) // x.2.length = ls'.length ∧ x.1 ≤ ls'.length})
    (fun x => St.ofA [(1, .c (.f (.l 6 (l.map encH)))), (3, .c (.f (.s (.string nm)))), (7, .loc 7 0), (10, .c (.f (.s (.bool false)))), (11, .loc 11 0), (12, .loc 12 0), (16, .c (.f (.s (.int .i64 x.1.1))))]
      [(7, 24, [.f (.s (.int .i64 p)), .f (.s (.int .i64 bo)), .f (.s (.int .i64 li)), .f (.l 4 (ls.map encL)), .f (.s (.bool pe)), .f (.s (.int .i64 mi))]), (11, 24, [.f (.s (.int .i64 p)), .f (.s (.int .i64 bo)), .f (.s (.int .i64 li)), .f (.l 4 (ls.map encL)), .f (.s (.bool pe)), .f (.s (.int .i64 mi))]), (12, 24, [.f (.s (.int .i64 p)), .f (.s (.int .i64 bo)), .f (.s (.int .i64 li)), .o 59, .f (.s (.bool pe)), .f (.s (.int .i64 mi))])]
      [(59, 59, 44, 4, x.1.2)])
    (fun x => ls'.length - x.1.1) ⟨(0, ls'.map encL), by simp, Nat.zero_le _⟩ ?_ ?_
  · (refine weak_ofA rfl ?_ ?_ ?_; all_goals simp [wkSA, wkBA, wkAA, wkVA, cleA, killC, vle, cle, fle, St.of, St.ofA, lkV, lkB, arrOf, lkA', lkA_zero, lkA_succ, upd, putS])
  · rintro ⟨⟨k, rows⟩, hrl, hk⟩
    simp only [] at hrl hk ⊢
    refine dw_seq_k fun R5 hR5 => ?_
    (refine dw_seq_k fun R hR => ?_; (refine dw_row hT (by decide) ?_; simp only [exB_nil, exB_cons, gd2_t, gd2_f, RunB_eq, SkipB_eq, gdV, eff2, cellEq, kdC, kd, gOf, calleeOf, effd, ev, cv, putS, upd_same, upd_miss, St.of, lkV_hit, lkV_miss, lkV_end, lkB_hit, lkB_miss, lkB_end, noArr_eq, arrOf_hit, arrOf_miss, arrOf_end, St.ofA, lkA_zero, lkA_succ, vcells, pack, rowsOf, bin, killV, killB, killC, frzV, frzC, frzB, frzP, partsD, fillD, frz, Option.isSome_some, Option.bind_some, Option.map_some, List.getD_cons_zero, List.getD_cons_succ, List.getElem?_toArray, List.getElem?_cons_zero, List.getElem?_cons_succ, List.map_cons, List.map_nil, List.drop_zero, List.drop_succ_cons, List.take_succ_cons, List.take_zero, List.length_cons, List.length_nil, List.length_map, List.append_eq, List.cons_append, List.nil_append, Nat.reduceAdd, Nat.reduceLeDiff, Nat.reduceEqDiff, Nat.reduceBEq, Nat.reduceLT, ↓reduceIte, if_true, if_false, true_and, and_true, reduceCtorEq, true_or, or_true, ne_eq, not_true_eq_false, not_false_eq_true, Bool.not_true, Bool.not_false, bq1, bq0, chk, tt29, tt2, tt3, tt4, tt25, tt24, tt22, tt9, tt44, tt39]))
    (refine hR _ ?_; try dsimp only [thenD, inBlockD])
    refine dw_cond rfl (fun h => ?_) (fun h => ?_)
    · have hlt : k < rows.length := by simpa using h
      refine dw_skip ?_
      simp only [thenD]
      refine hR5 _ ?_
      refine dw_seq_k fun R6 hR6 => ?_
      refine dw_block ?_
      refine dw_norm ?_
      refine dw_last_k fun R hR => ?_
      refine dw_rowE 3 rfl rfl rfl rfl ⟨rfl, rfl, rfl⟩ ⟨rfl, rfl, rfl, rfl, rfl, rfl⟩ rfl tt9 rfl hT (by decide) ?_
      simp only [exB_nil, exB_cons, gd2_t, gd2_f, RunB_eq, SkipB_eq, gdV, eff2, cellEq, kdC, kd, gOf, calleeOf, effd, ev, cv, putS, upd_same, upd_miss, St.of, lkV_hit, lkV_miss, lkV_end, lkB_hit, lkB_miss, lkB_end, noArr_eq, arrOf_hit, arrOf_miss, arrOf_end, St.ofA, lkA_zero, lkA_succ, vcells, pack, rowsOf, bin, killV, killB, killC, frzV, frzC, frzB, frzP, partsD, fillD, frz, Option.isSome_some, Option.bind_some, Option.map_some, List.getD_cons_zero, List.getD_cons_succ, List.getElem?_toArray, List.getElem?_cons_zero, List.getElem?_cons_succ, List.map_cons, List.map_nil, List.drop_zero, List.drop_succ_cons, List.take_succ_cons, List.take_zero, List.length_cons, List.length_nil, List.length_map, List.append_eq, List.cons_append, List.nil_append, Nat.reduceAdd, Nat.reduceLeDiff, Nat.reduceEqDiff, Nat.reduceBEq, Nat.reduceLT, ↓reduceIte, if_true, if_false, true_and, and_true, reduceCtorEq, true_or, or_true, ne_eq, not_true_eq_false, not_false_eq_true, Bool.not_true, Bool.not_false, bq1, bq0, chk, tt29, tt2, tt3, tt4, tt25, tt24, tt22, tt9, tt44, tt39]
      refine ⟨_, _, 59, 44, 4, _, rows, .i64, (k : Int), 0, _, rows[k], tt22, tt44, rfl, rfl, rfl, (by simp only [exB_nil, exB_cons, gd2_t, gd2_f, RunB_eq, SkipB_eq, gdV, eff2, cellEq, kdC, kd, gOf, calleeOf, effd, ev, cv, putS, upd_same, upd_miss, St.of, lkV_hit, lkV_miss, lkV_end, lkB_hit, lkB_miss, lkB_end, noArr_eq, arrOf_hit, arrOf_miss, arrOf_end, St.ofA, lkA_zero, lkA_succ, vcells, pack, rowsOf, bin, killV, killB, killC, frzV, frzC, frzB, frzP, partsD, fillD, frz, Option.isSome_some, Option.bind_some, Option.map_some, List.getD_cons_zero, List.getD_cons_succ, List.getElem?_toArray, List.getElem?_cons_zero, List.getElem?_cons_succ, List.map_cons, List.map_nil, List.drop_zero, List.drop_succ_cons, List.take_succ_cons, List.take_zero, List.length_cons, List.length_nil, List.length_map, List.append_eq, List.cons_append, List.nil_append, Nat.reduceAdd, Nat.reduceLeDiff, Nat.reduceEqDiff, Nat.reduceBEq, Nat.reduceLT, ↓reduceIte, if_true, if_false, true_and, and_true, reduceCtorEq, true_or, or_true, ne_eq, not_true_eq_false, not_false_eq_true, Bool.not_true, Bool.not_false, bq1, bq0, chk, tt29, tt2, tt3, tt4, tt25, tt24, tt22, tt9, tt44, tt39]), (by simp only [exB_nil, exB_cons, gd2_t, gd2_f, RunB_eq, SkipB_eq, gdV, eff2, cellEq, kdC, kd, gOf, calleeOf, effd, ev, cv, putS, upd_same, upd_miss, St.of, lkV_hit, lkV_miss, lkV_end, lkB_hit, lkB_miss, lkB_end, noArr_eq, arrOf_hit, arrOf_miss, arrOf_end, St.ofA, lkA_zero, lkA_succ, vcells, pack, rowsOf, bin, killV, killB, killC, frzV, frzC, frzB, frzP, partsD, fillD, frz, Option.isSome_some, Option.bind_some, Option.map_some, List.getD_cons_zero, List.getD_cons_succ, List.getElem?_toArray, List.getElem?_cons_zero, List.getElem?_cons_succ, List.map_cons, List.map_nil, List.drop_zero, List.drop_succ_cons, List.take_succ_cons, List.take_zero, List.length_cons, List.length_nil, List.length_map, List.append_eq, List.cons_append, List.nil_append, Nat.reduceAdd, Nat.reduceLeDiff, Nat.reduceEqDiff, Nat.reduceBEq, Nat.reduceLT, ↓reduceIte, if_true, if_false, true_and, and_true, reduceCtorEq, true_or, or_true, ne_eq, not_true_eq_false, not_false_eq_true, Bool.not_true, Bool.not_false, bq1, bq0, chk, tt29, tt2, tt3, tt4, tt25, tt24, tt22, tt9, tt44, tt39]), (by simp only [exB_nil, exB_cons, gd2_t, gd2_f, RunB_eq, SkipB_eq, gdV, eff2, cellEq, kdC, kd, gOf, calleeOf, effd, ev, cv, putS, upd_same, upd_miss, St.of, lkV_hit, lkV_miss, lkV_end, lkB_hit, lkB_miss, lkB_end, noArr_eq, arrOf_hit, arrOf_miss, arrOf_end, St.ofA, lkA_zero, lkA_succ, vcells, pack, rowsOf, bin, killV, killB, killC, frzV, frzC, frzB, frzP, partsD, fillD, frz, Option.isSome_some, Option.bind_some, Option.map_some, List.getD_cons_zero, List.getD_cons_succ, List.getElem?_toArray, List.getElem?_cons_zero, List.getElem?_cons_succ, List.map_cons, List.map_nil, List.drop_zero, List.drop_succ_cons, List.take_succ_cons, List.take_zero, List.length_cons, List.length_nil, List.length_map, List.append_eq, List.cons_append, List.nil_append, Nat.reduceAdd, Nat.reduceLeDiff, Nat.reduceEqDiff, Nat.reduceBEq, Nat.reduceLT, ↓reduceIte, if_true, if_false, true_and, and_true, reduceCtorEq, true_or, or_true, ne_eq, not_true_eq_false, not_false_eq_true, Bool.not_true, Bool.not_false, bq1, bq0, chk, tt29, tt2, tt3, tt4, tt25, tt24, tt22, tt9, tt44, tt39]), by omega, by omega, by simp [List.getElem?_eq_getElem hlt], by omega, ?_⟩
      try simp only [Int.toNat_natCast]
      refine (?key : ∀ rows2 : List (List F), rows2.length = rows.length → R (St.mk ?s ?b (fun c => if c = 59 then some (?e, ?kk, rows2) else (?f : Nat → Option (TypeId × Nat × List (List F))) c))) _ List.length_set
      intro rows2 hr2
      refine hR _ ?_
      try dsimp only [thenD, inBlockD]
      refine hR6 _ ?_
      (refine dw_norm ?_; refine dw_last_k fun R hR => ?_; (refine dw_row hT (by decide) ?_; simp only [exB_nil, exB_cons, gd2_t, gd2_f, RunB_eq, SkipB_eq, gdV, eff2, cellEq, kdC, kd, gOf, calleeOf, effd, ev, cv, putS, upd_same, upd_miss, St.of, lkV_hit, lkV_miss, lkV_end, lkB_hit, lkB_miss, lkB_end, noArr_eq, arrOf_hit, arrOf_miss, arrOf_end, St.ofA, lkA_zero, lkA_succ, vcells, pack, rowsOf, bin, killV, killB, killC, frzV, frzC, frzB, frzP, partsD, fillD, frz, Option.isSome_some, Option.bind_some, Option.map_some, List.getD_cons_zero, List.getD_cons_succ, List.getElem?_toArray, List.getElem?_cons_zero, List.getElem?_cons_succ, List.map_cons, List.map_nil, List.drop_zero, List.drop_succ_cons, List.take_succ_cons, List.take_zero, List.length_cons, List.length_nil, List.length_map, List.append_eq, List.cons_append, List.nil_append, Nat.reduceAdd, Nat.reduceLeDiff, Nat.reduceEqDiff, Nat.reduceBEq, Nat.reduceLT, ↓reduceIte, if_true, if_false, true_and, and_true, reduceCtorEq, true_or, or_true, ne_eq, not_true_eq_false, not_false_eq_true, Bool.not_true, Bool.not_false, bq1, bq0, chk, tt29, tt2, tt3, tt4, tt25, tt24, tt22, tt9, tt44, tt39]))
      (refine hR _ ?_; try dsimp only [thenD, inBlockD])
      have ew := wrap_nat (n := k) (by omega)
      rw [ew]
      refine ⟨⟨(k + 1, rows2), by simp only []; omega, by simp only []; omega⟩, by simp only []; omega, ?_⟩
      (refine weak_ofA rfl ?_ ?_ ?_; all_goals simp [wkSA, wkBA, wkAA, wkVA, cleA, killC, vle, cle, fle, St.of, St.ofA, lkV, lkB, arrOf, lkA', lkA_zero, lkA_succ, upd, putS])
    · refine dw_exit ?_
      simp only [thenD, inBlockD, if_true]
      refine hR4 _ ?_
      have hev : ∀ x ∈ l, x.lines.length ≤ 8 := fun x hx => (fit_peer (fits_each hf1 x hx)).2
      have hcp := refCopy_d l hl (fun x hx => by have := hev x hx; omega)
      have hfo := forget_d l nm hl (fun x hx => by have := hev x hx; omega)
      have hfo2 := refForget_d l nm hl (fun x hx => by have := hev x hx; omega)
      have hsm := refSame_d (l.map (forgL nm)) (l.map (forgL nm)) (fun x hx => by
        obtain ⟨y, hy, rfl⟩ := List.mem_map.1 hx
        have h1 := hev y hy
        have h2 := write_len y.lines nm 0 0 0
        simp only [forgL, hL, maxLen]
        omega) (by rw [List.length_map]; omega)
      rw [(sameB_iff sameH_iff).2 rfl] at hsm
      have hso3 := sameOne_d ⟨p, bo, li, ls, pe, mi⟩ ⟨p, bo, li, ls, pe, mi⟩ (by simp only [maxLen]; omega)
      rw [(sameH_iff _ _).2 rfl] at hso3
      (refine dw_seq_k fun R hR => ?_; (refine dw_row hT (by decide) ?_; simp only [exB_nil, exB_cons, gd2_t, gd2_f, RunB_eq, SkipB_eq, gdV, eff2, cellEq, kdC, kd, gOf, calleeOf, effd, ev, cv, putS, upd_same, upd_miss, St.of, lkV_hit, lkV_miss, lkV_end, lkB_hit, lkB_miss, lkB_end, noArr_eq, arrOf_hit, arrOf_miss, arrOf_end, St.ofA, lkA_zero, lkA_succ, vcells, pack, rowsOf, bin, killV, killB, killC, frzV, frzC, frzB, frzP, partsD, fillD, frz, Option.isSome_some, Option.bind_some, Option.map_some, List.getD_cons_zero, List.getD_cons_succ, List.getElem?_toArray, List.getElem?_cons_zero, List.getElem?_cons_succ, List.map_cons, List.map_nil, List.drop_zero, List.drop_succ_cons, List.take_succ_cons, List.take_zero, List.length_cons, List.length_nil, List.length_map, List.append_eq, List.cons_append, List.nil_append, Nat.reduceAdd, Nat.reduceLeDiff, Nat.reduceEqDiff, Nat.reduceBEq, Nat.reduceLT, ↓reduceIte, if_true, if_false, true_and, and_true, reduceCtorEq, true_or, or_true, ne_eq, not_true_eq_false, not_false_eq_true, Bool.not_true, Bool.not_false, bq1, bq0, chk, tt29, tt2, tt3, tt4, tt25, tt24, tt22, tt9, tt44, tt39]))
      refine ⟨_, _, hcp, (by simp [vles, vle, cle, fle, gI, gB, gS, gR, gH, gHs, encR, encH]), ?_⟩; rw [later_eq]
      simp only [exB_nil, exB_cons, gd2_t, gd2_f, RunB_eq, SkipB_eq, gdV, eff2, cellEq, kdC, kd, gOf, calleeOf, effd, ev, cv, putS, upd_same, upd_miss, St.of, lkV_hit, lkV_miss, lkV_end, lkB_hit, lkB_miss, lkB_end, noArr_eq, arrOf_hit, arrOf_miss, arrOf_end, St.ofA, lkA_zero, lkA_succ, vcells, pack, rowsOf, bin, killV, killB, killC, frzV, frzC, frzB, frzP, partsD, fillD, frz, Option.isSome_some, Option.bind_some, Option.map_some, List.getD_cons_zero, List.getD_cons_succ, List.getElem?_toArray, List.getElem?_cons_zero, List.getElem?_cons_succ, List.map_cons, List.map_nil, List.drop_zero, List.drop_succ_cons, List.take_succ_cons, List.take_zero, List.length_cons, List.length_nil, List.length_map, List.append_eq, List.cons_append, List.nil_append, Nat.reduceAdd, Nat.reduceLeDiff, Nat.reduceEqDiff, Nat.reduceBEq, Nat.reduceLT, ↓reduceIte, if_true, if_false, true_and, and_true, reduceCtorEq, true_or, or_true, ne_eq, not_true_eq_false, not_false_eq_true, Bool.not_true, Bool.not_false, bq1, bq0, chk, tt29, tt2, tt3, tt4, tt25, tt24, tt22, tt9, tt44, tt39, gHs]
      refine ⟨_, _, hfo, (by simp [vles, vle, cle, fle, gI, gB, gS, gR, gH, gHs, encR, encH]), ?_⟩; rw [later_eq]
      simp only [exB_nil, exB_cons, gd2_t, gd2_f, RunB_eq, SkipB_eq, gdV, eff2, cellEq, kdC, kd, gOf, calleeOf, effd, ev, cv, putS, upd_same, upd_miss, St.of, lkV_hit, lkV_miss, lkV_end, lkB_hit, lkB_miss, lkB_end, noArr_eq, arrOf_hit, arrOf_miss, arrOf_end, St.ofA, lkA_zero, lkA_succ, vcells, pack, rowsOf, bin, killV, killB, killC, frzV, frzC, frzB, frzP, partsD, fillD, frz, Option.isSome_some, Option.bind_some, Option.map_some, List.getD_cons_zero, List.getD_cons_succ, List.getElem?_toArray, List.getElem?_cons_zero, List.getElem?_cons_succ, List.map_cons, List.map_nil, List.drop_zero, List.drop_succ_cons, List.take_succ_cons, List.take_zero, List.length_cons, List.length_nil, List.length_map, List.append_eq, List.cons_append, List.nil_append, Nat.reduceAdd, Nat.reduceLeDiff, Nat.reduceEqDiff, Nat.reduceBEq, Nat.reduceLT, ↓reduceIte, if_true, if_false, true_and, and_true, reduceCtorEq, true_or, or_true, ne_eq, not_true_eq_false, not_false_eq_true, Bool.not_true, Bool.not_false, bq1, bq0, chk, tt29, tt2, tt3, tt4, tt25, tt24, tt22, tt9, tt44, tt39, gHs]
      refine ⟨_, _, hfo2, (by simp [vles, vle, cle, fle, gI, gB, gS, gR, gH, gHs, encR, encH]), ?_⟩; rw [later_eq]
      simp only [exB_nil, exB_cons, gd2_t, gd2_f, RunB_eq, SkipB_eq, gdV, eff2, cellEq, kdC, kd, gOf, calleeOf, effd, ev, cv, putS, upd_same, upd_miss, St.of, lkV_hit, lkV_miss, lkV_end, lkB_hit, lkB_miss, lkB_end, noArr_eq, arrOf_hit, arrOf_miss, arrOf_end, St.ofA, lkA_zero, lkA_succ, vcells, pack, rowsOf, bin, killV, killB, killC, frzV, frzC, frzB, frzP, partsD, fillD, frz, Option.isSome_some, Option.bind_some, Option.map_some, List.getD_cons_zero, List.getD_cons_succ, List.getElem?_toArray, List.getElem?_cons_zero, List.getElem?_cons_succ, List.map_cons, List.map_nil, List.drop_zero, List.drop_succ_cons, List.take_succ_cons, List.take_zero, List.length_cons, List.length_nil, List.length_map, List.append_eq, List.cons_append, List.nil_append, Nat.reduceAdd, Nat.reduceLeDiff, Nat.reduceEqDiff, Nat.reduceBEq, Nat.reduceLT, ↓reduceIte, if_true, if_false, true_and, and_true, reduceCtorEq, true_or, or_true, ne_eq, not_true_eq_false, not_false_eq_true, Bool.not_true, Bool.not_false, bq1, bq0, chk, tt29, tt2, tt3, tt4, tt25, tt24, tt22, tt9, tt44, tt39, gHs]
      refine ⟨_, _, hsm, (by simp [vles, vle, cle, fle, gI, gB, gS, gR, gH, gHs, encR, encH]), ?_⟩; rw [later_eq]
      simp only [exB_nil, exB_cons, gd2_t, gd2_f, RunB_eq, SkipB_eq, gdV, eff2, cellEq, kdC, kd, gOf, calleeOf, effd, ev, cv, putS, upd_same, upd_miss, St.of, lkV_hit, lkV_miss, lkV_end, lkB_hit, lkB_miss, lkB_end, noArr_eq, arrOf_hit, arrOf_miss, arrOf_end, St.ofA, lkA_zero, lkA_succ, vcells, pack, rowsOf, bin, killV, killB, killC, frzV, frzC, frzB, frzP, partsD, fillD, frz, Option.isSome_some, Option.bind_some, Option.map_some, List.getD_cons_zero, List.getD_cons_succ, List.getElem?_toArray, List.getElem?_cons_zero, List.getElem?_cons_succ, List.map_cons, List.map_nil, List.drop_zero, List.drop_succ_cons, List.take_succ_cons, List.take_zero, List.length_cons, List.length_nil, List.length_map, List.append_eq, List.cons_append, List.nil_append, Nat.reduceAdd, Nat.reduceLeDiff, Nat.reduceEqDiff, Nat.reduceBEq, Nat.reduceLT, ↓reduceIte, if_true, if_false, true_and, and_true, reduceCtorEq, true_or, or_true, ne_eq, not_true_eq_false, not_false_eq_true, Bool.not_true, Bool.not_false, bq1, bq0, chk, tt29, tt2, tt3, tt4, tt25, tt24, tt22, tt9, tt44, tt39, gB]
      refine ⟨_, _, hso3, (by simp [vles, vle, cle, fle, gI, gB, gS, gR, gH, gHs, encR, encH]), ?_⟩; rw [later_eq]
      simp only [exB_nil, exB_cons, gd2_t, gd2_f, RunB_eq, SkipB_eq, gdV, eff2, cellEq, kdC, kd, gOf, calleeOf, effd, ev, cv, putS, upd_same, upd_miss, St.of, lkV_hit, lkV_miss, lkV_end, lkB_hit, lkB_miss, lkB_end, noArr_eq, arrOf_hit, arrOf_miss, arrOf_end, St.ofA, lkA_zero, lkA_succ, vcells, pack, rowsOf, bin, killV, killB, killC, frzV, frzC, frzB, frzP, partsD, fillD, frz, Option.isSome_some, Option.bind_some, Option.map_some, List.getD_cons_zero, List.getD_cons_succ, List.getElem?_toArray, List.getElem?_cons_zero, List.getElem?_cons_succ, List.map_cons, List.map_nil, List.drop_zero, List.drop_succ_cons, List.take_succ_cons, List.take_zero, List.length_cons, List.length_nil, List.length_map, List.append_eq, List.cons_append, List.nil_append, Nat.reduceAdd, Nat.reduceLeDiff, Nat.reduceEqDiff, Nat.reduceBEq, Nat.reduceLT, ↓reduceIte, if_true, if_false, true_and, and_true, reduceCtorEq, true_or, or_true, ne_eq, not_true_eq_false, not_false_eq_true, Bool.not_true, Bool.not_false, bq1, bq0, chk, tt29, tt2, tt3, tt4, tt25, tt24, tt22, tt9, tt44, tt39, gB]
      refine ⟨_, _, awake_d, (by simp [vles, vle, cle, fle, gI, gB, gS, gR, gH, gHs, encR, encH]), ?_⟩; rw [later_eq]
      simp only [exB_nil, exB_cons, gd2_t, gd2_f, RunB_eq, SkipB_eq, gdV, eff2, cellEq, kdC, kd, gOf, calleeOf, effd, ev, cv, putS, upd_same, upd_miss, St.of, lkV_hit, lkV_miss, lkV_end, lkB_hit, lkB_miss, lkB_end, noArr_eq, arrOf_hit, arrOf_miss, arrOf_end, St.ofA, lkA_zero, lkA_succ, vcells, pack, rowsOf, bin, killV, killB, killC, frzV, frzC, frzB, frzP, partsD, fillD, frz, Option.isSome_some, Option.bind_some, Option.map_some, List.getD_cons_zero, List.getD_cons_succ, List.getElem?_toArray, List.getElem?_cons_zero, List.getElem?_cons_succ, List.map_cons, List.map_nil, List.drop_zero, List.drop_succ_cons, List.take_succ_cons, List.take_zero, List.length_cons, List.length_nil, List.length_map, List.append_eq, List.cons_append, List.nil_append, Nat.reduceAdd, Nat.reduceLeDiff, Nat.reduceEqDiff, Nat.reduceBEq, Nat.reduceLT, ↓reduceIte, if_true, if_false, true_and, and_true, reduceCtorEq, true_or, or_true, ne_eq, not_true_eq_false, not_false_eq_true, Bool.not_true, Bool.not_false, bq1, bq0, chk, tt29, tt2, tt3, tt4, tt25, tt24, tt22, tt9, tt44, tt39, gB]
      (refine hR _ ?_; try dsimp only [thenD, inBlockD])
      refine dw_ret ?_
      simp only [inBlockD, retQ, thenD, Ret, resV, res1, parts, part1, exB_nil, exB_cons, gd2_t, gd2_f, RunB_eq, SkipB_eq, gdV, eff2, cellEq, kdC, kd, gOf, calleeOf, effd, ev, cv, putS, upd_same, upd_miss, St.of, lkV_hit, lkV_miss, lkV_end, lkB_hit, lkB_miss, lkB_end, noArr_eq, arrOf_hit, arrOf_miss, arrOf_end, St.ofA, lkA_zero, lkA_succ, vcells, pack, rowsOf, bin, killV, killB, killC, frzV, frzC, frzB, frzP, partsD, fillD, frz, Option.isSome_some, Option.bind_some, Option.map_some, List.getD_cons_zero, List.getD_cons_succ, List.getElem?_toArray, List.getElem?_cons_zero, List.getElem?_cons_succ, List.map_cons, List.map_nil, List.drop_zero, List.drop_succ_cons, List.take_succ_cons, List.take_zero, List.length_cons, List.length_nil, List.length_map, List.append_eq, List.cons_append, List.nil_append, Nat.reduceAdd, Nat.reduceLeDiff, Nat.reduceEqDiff, Nat.reduceBEq, Nat.reduceLT, ↓reduceIte, if_true, if_false, true_and, and_true, reduceCtorEq, true_or, or_true, ne_eq, not_true_eq_false, not_false_eq_true, Bool.not_true, Bool.not_false, bq1, bq0, chk, tt29, tt2, tt3, tt4, tt25, tt24, tt22, tt9, tt44, tt39, vle, ple, cle, fle, true_and, and_true]
      all_goals try simp [gB, cle, fle]
theorem halves_rep {w : World} {I : Nat → Prop} {n c : Nat} {A : Option Addr} {vs : List HV} (hc : n ≤ c) (h : HalvesAt w w.heap.size A n vs) (hI : ∀ b, b < w.heap.size → I b) : RepF w I (.l 6 ((vs.map HV.h).map encH)) (.slice A n c) := by
  have hn : vs.length = n := h.len
  subst hn
  have hfl : ∀ (vs : List HV) (j : Nat) x, ((vs.map HV.h).map encH).flatten[j]? = some x → ∃ v ∈ vs, ∃ i : Nat, (flat HV.cells vs)[j]? = v.cells[i]? ∧ (encH v.h)[i]? = some x := by
    intro vs
    induction vs with
    | nil => intro j x hj; simp at hj
    | cons v vs ih =>
      intro j x hj
      simp only [List.map_cons, List.flatten_cons] at hj
      rw [flat_cons]
      have l1 : (encH v.h).length = 6 := rfl
      have l2 : v.cells.length = 6 := HV.len v
      by_cases h6 : j < 6
      · rw [List.getElem?_append_left (by omega)] at hj
        exact ⟨v, by simp, j, by rw [List.getElem?_append_left (by omega)], hj⟩
      · rw [List.getElem?_append_right (by omega), l1] at hj
        obtain ⟨v', hv', i, e1, e2⟩ := ih _ _ hj
        exact ⟨v', by simp [hv'], i, by rw [List.getElem?_append_right (by omega), l2, e1], e2⟩
  have := slice_make (w := w) (k := 6) (rows := (vs.map HV.h).map encH) (A := A) (c := c) (I := I) (by simpa using hc) fun h0 => by
    simp only [List.length_map] at h0
    obtain ⟨ad, rfl, hb, hcell⟩ := h.1.2 h0
    refine ⟨ad, fun j => ((flat HV.cells vs)[j]?).getD undef, rfl, hI _ hb, fun r hr => by obtain ⟨x, _, rfl⟩ := List.mem_map.1 hr; rfl, fun j x hj => ?_, fun j x hj => ?_⟩
    · obtain ⟨v, hv, i, e1, e2⟩ := hfl vs j x hj
      have hi : i < 6 := (List.getElem?_eq_some_iff.1 e2).1
      have hci : v.cells[i]? = some (v.cells[i]'(by rw [HV.len]; exact hi)) := List.getElem?_eq_getElem _
      rw [hci] at e1
      simp only [e1, Option.getD_some]
      exact hcell j _ e1
    · obtain ⟨v, hv, i, e1, e2⟩ := hfl vs j x hj
      simp only [e1]
      obtain ⟨hc', hL⟩ := h.2 v hv
      have hVb : ∀ ad, v.A = some ad → 0 < v.h.lines.length → I ad.block := fun ad ha h0 => by
        obtain ⟨ad', e, hb, _⟩ := hL.2 h0
        rw [ha] at e; cases e
        exact hI _ hb
      have hh := lines_rep (I := I) hc' hL hVb
      match i with
      | 0 => cases e2; exact .s rfl
      | 1 => cases e2; exact .s rfl
      | 2 => cases e2; exact .s rfl
      | 3 => cases e2; exact hh
      | 4 => cases e2; exact .s rfl
      | 5 => cases e2; exact .s rfl
      | i + 6 => simp [encH] at e2
  simpa using this
theorem walk (w : World) (id : Int) (A : Option Addr) (n c : Nat) (vs : List HV) (V : HV) (nm : ByteArray) (a b d : Int) (hn : n * 64 ≤ 140737488355328) (hc : n ≤ c) (hI : HalvesAt w w.heap.size A n vs) (hv : ∀ v ∈ vs, ShortW v) (hV : ShortW V) (hVA : V.At w w.heap.size) (hnm : nm.size ≤ maxLen) :
    Calls Try.prog 4 #[.int .i64 id, .slice A n c, V.val, .string nm, .agg #[.int .i64 a, .int .i64 b, .int .i64 d]] w fun e w' => e = .returned (.bool true) ∧ Below w.heap.size w w' := by
  have hVb : ∀ ad, V.A = some ad → 0 < V.h.lines.length → ad.block < w.heap.size := fun ad ha h0 => by
    obtain ⟨ad', e, hb, _⟩ := hVA.2.2 h0
    rw [ha] at e; cases e
    exact hb
  have hlen : vs.length = n := hI.len
  refine ((writes_d id (vs.map HV.h) V.h nm ⟨a, b, d⟩ (by rw [List.length_map, hlen]; exact hn) (fun x hx => by
    obtain ⟨v, hv', rfl⟩ := List.mem_map.1 hx
    exact ⟨by have := (hv v hv').2; unfold maxLen; omega, (hv v hv').1.2⟩) (by have := hV.2; unfold maxLen; omega) hV.1.2 hnm).2 w _ (fun b => b < w.heap.size) (fun _ h => h) rfl (fun j v u hv hu => ?_)).mono ?_
  · match j with
    | 0 => cases hv; cases hu; exact .c (.f (.s rfl))
    | 1 => cases hv; cases hu; exact .c (.f (halves_rep hc hI fun _ h => h))
    | 2 => cases hv; cases hu; exact half_rep hVA.1 hVA.2 hVb
    | 3 => cases hv; cases hu; exact .c (.f (.s rfl))
    | 4 => cases hv; cases hu; exact three_rep rfl rfl rfl
    | j + 5 => simp at hv
  · rintro e w' ⟨u, I', rfl, hr, hb, _⟩
    obtain rfl := rep_s hr
    exact ⟨rfl, hb⟩

theorem own : ownKnob Try.prog.godebug = none := by kernel_rfl
theorem laidOut : laidOutB Try.prog = true := by kernel_rfl

set_option maxRecDepth 100000 in
theorem lifted (os : Os) (started : os.Started) (H : Type) (enc : TypeId × Value → H) :
    ReturnsInHanded {} Try.checked os 4 .any (Rows.halfWritesSpec.pre6 enc Try.prog Try.f4 Rows.halfWritesRow.domain false) (Rows.halfWritesSpec.post enc Try.prog Try.f4 false true false false) := by
  refine lift_law (C := Try.checked) own started (by kernel_rfl) Try.func4
    (ChangeSpec.witness6 (enc := enc) (C := Try.checked) false ⟨#[], #[.int .i64 0, .slice none 0 0, .agg #[.int .i64 0, .int .i64 0, .int .i64 0, .slice none 0 0, .bool false, .int .i64 0], .string ⟨#[]⟩, .agg #[.int .i64 0, .int .i64 0, .int .i64 0]], []⟩ 8 (by kernel_rfl) (by kernel_rfl) (by kernel_rfl) (by kernel_rfl))
    laidOut (by kernel_rfl) rfl Try.underlying4 rfl (fun ds h => by match ds, h with | [d0, d1, d2, d3, d4], _ => rfl) ?_
  intro W base args ds p hval0 hA0 hsz
  have hval : ∀ (j : Nat) t v, Try.f4.params[j]? = some t → args[j]? = some v → Value.okWide Try.prog W .any base t v := hval0
  have hA : DataW.TrodAll enc Try.prog W 0 (fun _ => true) true Try.f4.params.toList args.toList ds p := hA0
  rw [Try.params4] at hA hval
  clear hA0 hval0
  obtain ⟨v0, vs0, d0, ds0, p0, q0, hargs, rfl, rfl, h0, r0⟩ := trodAll_cons hA
  obtain ⟨v1, vs1, d1, ds1, p1, q1, rfl, rfl, rfl, h1, r1⟩ := trodAll_cons r0
  obtain ⟨v2, vs2, d2, ds2, p2, q2, rfl, rfl, rfl, h2, r2⟩ := trodAll_cons r1
  obtain ⟨v3, vs3, d3, ds3, p3, q3, rfl, rfl, rfl, h3, r3⟩ := trodAll_cons r2
  obtain ⟨v4, vs4, d4, ds4, p4, q4, rfl, rfl, rfl, h4, r4⟩ := trodAll_cons r3
  obtain ⟨rfl, rfl, rfl⟩ := trodAll_nil r4
  obtain rfl := args_of_toList hargs
  obtain ⟨x0, rfl, _, _, _wf0⟩ := open_int Try.underlying3 (hval 0 3 v0 rfl rfl) h0
  have hz1 := weights_at hsz (j := 1) (t := 39) (by kernel_rfl) rfl
  obtain ⟨_a1, _l1, _c1, rfl⟩ := okWide_slice Try.underlying39 (hval 1 39 v1 rfl rfl)
  obtain ⟨_fuel1, hf1⟩ := h1
  obtain ⟨A1, m1, c1, vs1_, hcs1, hm1, hc1, hI1, hv1⟩ := open_halvesw hf1 hz1
  simp only [Value.cells, List.cons.injEq, Value.slice.injEq, and_true] at hcs1
  obtain ⟨rfl, rfl, rfl⟩ := hcs1
  have hz2 := weights_at hsz (j := 2) (t := 24) (by kernel_rfl) rfl
  obtain ⟨_vs2, rfl, _⟩ := okWide_struct Try.underlying24 (hval 2 24 v2 rfl rfl)
  obtain ⟨_fuel2, hf2⟩ := h2
  obtain ⟨V2, hv2, hI2, hcs2⟩ := open_halfw hf2 hz2
  simp only [Value.cells] at hcs2
  obtain rfl := args_of_toList hcs2
  obtain ⟨S3, rfl⟩ := okWide_string Try.underlying9 (hval 3 9 v3 rfl rfl)
  obtain ⟨_fuel3, hf3⟩ := h3
  obtain ⟨_n3, rs3, -, hm3⟩ := DataW.trod_string Try.underlying9 hf3
  simp only [Value.cells, List.cons.injEq, Value.string.injEq, and_true] at rs3
  subst rs3
  obtain ⟨_vs4, rfl, _⟩ := okWide_struct Try.underlying29 (hval 4 29 v4 rfl rfl)
  obtain ⟨_fuel4, hf4⟩ := h4
  obtain ⟨ve4, wt4, fl4, hcs4⟩ := open_reg hf4
  simp only [Value.cells] at hcs4
  obtain rfl := args_of_toList hcs4
  exact walk W x0 _ _ _ vs1_ V2 S3 _ _ _ hm1 hc1 hI1 hv1 hv2 hI2 hm3

theorem proved : Rows.HalfWritesSaid :=
  OpenClaim.holds_of_wide 4 Try.f4 rfl rfl rfl rfl rfl rfl rfl ⟨rfl, rfl, rfl, rfl, rfl⟩ rfl rfl rfl rfl rfl (by kernel_rfl) Try.func4 (by kernel_rfl)
    (of_decide_eq_true (by kernel_rfl)) (by unfold Func.isWrapper; first | (rw [if_pos (by decide +kernel)]; kernel_rfl) | (rw [if_neg (by decide +kernel)]; exact ⟨rfl, rfl⟩))
    (fun os started H enc _ => lifted os started H enc)
#print axioms proved

end lawwrites
end Go.Proofs.Ytogkcokgcoookaa
