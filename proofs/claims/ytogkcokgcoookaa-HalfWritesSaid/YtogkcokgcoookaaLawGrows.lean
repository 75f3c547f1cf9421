/-
  Layer 10: the statement HalfGrows: registers that are merged one after another leave the newest of those that are fit; merged once more nothing changes. Every input; no condition.
-/
import Derived.Test.YtogkcokgcoookaaDh
import Derived.Test.YtogkcokgcoookaaHalfGp
import Derived.Test.YtogkcokgcoookaaOpenWide
set_option linter.unusedSimpArgs false
set_option linter.unusedVariables false
namespace Go.Proofs.Ytogkcokgcoookaa
open Go.ChangeShapes Go.WideShapes Go.ChangeAt Go.RowKit Go.Ed Go.Joins Go.Deep Go.Dl

namespace lawgrows
theorem row_at {α : Type} {l : List α} {f : α → List F} {k : Nat} (h : k < l.length) : (l.map f).getD k [] = f l[k] := by simp [List.getD, h]
theorem wrap_nat {n : Nat} (h : n + 1 < 9223372036854775808) : IntKind.i64.wrap ((n : Int) + 1) = ((n + 1 : Nat) : Int) := by rw [IntKind.wrap_i64]; omega
set_option maxRecDepth 100000 in
set_option maxHeartbeats 2000000 in
theorem refReg_d (h : Half) (nm : ByteArray) (hl : h.lines.length ≤ 1000000) : CallC Try.prog 10 [gH h, .c (.f (.s (.string nm)))] (gR (firstReg h.lines nm)) := by
  refine call_of hT [.cell 4 29] Try.func10 rfl (by decide) (by simp [Try.ntmps10]) rfl (fun X w0 => ?_)
  obtain ⟨p, bo, li, ls, pe, mi⟩ := h
  simp only [gH, encH, List.map_cons, List.map_nil] at hl ⊢
  (refine dw_seq_k fun R hR => ?_; (refine dw_row hT (by decide) ?_; simp only [exB_nil, exB_cons, gd2_t, gd2_f, RunB_eq, SkipB_eq, gdV, eff2, cellEq, kdC, kd, gOf, calleeOf, effd, ev, cv, putS, upd_same, upd_miss, St.of, lkV_hit, lkV_miss, lkV_end, lkB_hit, lkB_miss, lkB_end, noArr_eq, arrOf_hit, arrOf_miss, arrOf_end, St.ofA, lkA_zero, lkA_succ, vcells, pack, rowsOf, bin, killV, killB, killC, frzV, frzC, frzB, frzP, partsD, fillD, frz, Option.isSome_some, Option.bind_some, Option.map_some, List.getD_cons_zero, List.getD_cons_succ, List.getElem?_toArray, List.getElem?_cons_zero, List.getElem?_cons_succ, List.map_cons, List.map_nil, List.drop_zero, List.drop_succ_cons, List.take_succ_cons, List.take_zero, List.length_cons, List.length_nil, List.length_map, List.append_eq, List.cons_append, List.nil_append, Nat.reduceAdd, Nat.reduceLeDiff, Nat.reduceEqDiff, Nat.reduceBEq, Nat.reduceLT, ↓reduceIte, if_true, if_false, true_and, and_true, reduceCtorEq, true_or, or_true, ne_eq, not_true_eq_false, not_false_eq_true, Bool.not_true, Bool.not_false, bq1, bq0, chk, tt29, tt2, tt3, tt4, tt25, tt24, tt22, tt9, tt44]))
  (refine hR _ ?_; try dsimp only [thenD, inBlockD])
  refine dw_seq_k fun R2 hR2 => ?_
  (refine dw_seq_k fun R hR => ?_; (refine dw_row hT (by decide) ?_; simp only [exB_nil, exB_cons, gd2_t, gd2_f, RunB_eq, SkipB_eq, gdV, eff2, cellEq, kdC, kd, gOf, calleeOf, effd, ev, cv, putS, upd_same, upd_miss, St.of, lkV_hit, lkV_miss, lkV_end, lkB_hit, lkB_miss, lkB_end, noArr_eq, arrOf_hit, arrOf_miss, arrOf_end, St.ofA, lkA_zero, lkA_succ, vcells, pack, rowsOf, bin, killV, killB, killC, frzV, frzC, frzB, frzP, partsD, fillD, frz, Option.isSome_some, Option.bind_some, Option.map_some, List.getD_cons_zero, List.getD_cons_succ, List.getElem?_toArray, List.getElem?_cons_zero, List.getElem?_cons_succ, List.map_cons, List.map_nil, List.drop_zero, List.drop_succ_cons, List.take_succ_cons, List.take_zero, List.length_cons, List.length_nil, List.length_map, List.append_eq, List.cons_append, List.nil_append, Nat.reduceAdd, Nat.reduceLeDiff, Nat.reduceEqDiff, Nat.reduceBEq, Nat.reduceLT, ↓reduceIte, if_true, if_false, true_and, and_true, reduceCtorEq, true_or, or_true, ne_eq, not_true_eq_false, not_false_eq_true, Bool.not_true, Bool.not_false, bq1, bq0, chk, tt29, tt2, tt3, tt4, tt25, tt24, tt22, tt9, tt44]))
  (refine hR _ ?_; try dsimp only [thenD, inBlockD])
  refine dw_block ?_
  refine dw_loop (ι := {k : Nat // k ≤ ls.length ∧ ∀ j (hj : j < ls.length), j < k → (ls[j].nm.toList == nm.toList) = false})
    (fun k => St.of [(1, .c (.f (.s (.string nm)))), (2, .loc 2 0), (4, .loc 4 0), (5, .c (.f (.s (.int .i64 k.1))))]
      [(2, 24, [.f (.s (.int .i64 p)), .f (.s (.int .i64 bo)), .f (.s (.int .i64 li)), .f (.l 4 (ls.map encL)), .f (.s (.bool pe)), .f (.s (.int .i64 mi))]), (4, 29, [.f (.s (.int .i64 0)), .f (.s (.int .i64 0)), .f (.s (.int .i64 0))])])
    (fun k => ls.length - k.1) ⟨0, Nat.zero_le _, fun j _ h => by omega⟩ ?_ ?_
  · (refine weak_of ?_ ?_; all_goals simp [wkS, wkB, wk, vle, cle, fle, St.of, lkV, lkB, lkA_zero, lkA_succ, upd, putS])
  · rintro ⟨k, hk, hno⟩
    refine dw_seq_k fun R3 hR3 => ?_
    (refine dw_seq_k fun R hR => ?_; (refine dw_row hT (by decide) ?_; simp only [exB_nil, exB_cons, gd2_t, gd2_f, RunB_eq, SkipB_eq, gdV, eff2, cellEq, kdC, kd, gOf, calleeOf, effd, ev, cv, putS, upd_same, upd_miss, St.of, lkV_hit, lkV_miss, lkV_end, lkB_hit, lkB_miss, lkB_end, noArr_eq, arrOf_hit, arrOf_miss, arrOf_end, St.ofA, lkA_zero, lkA_succ, vcells, pack, rowsOf, bin, killV, killB, killC, frzV, frzC, frzB, frzP, partsD, fillD, frz, Option.isSome_some, Option.bind_some, Option.map_some, List.getD_cons_zero, List.getD_cons_succ, List.getElem?_toArray, List.getElem?_cons_zero, List.getElem?_cons_succ, List.map_cons, List.map_nil, List.drop_zero, List.drop_succ_cons, List.take_succ_cons, List.take_zero, List.length_cons, List.length_nil, List.length_map, List.append_eq, List.cons_append, List.nil_append, Nat.reduceAdd, Nat.reduceLeDiff, Nat.reduceEqDiff, Nat.reduceBEq, Nat.reduceLT, ↓reduceIte, if_true, if_false, true_and, and_true, reduceCtorEq, true_or, or_true, ne_eq, not_true_eq_false, not_false_eq_true, Bool.not_true, Bool.not_false, bq1, bq0, chk, tt29, tt2, tt3, tt4, tt25, tt24, tt22, tt9, tt44]))
    (refine hR _ ?_; try dsimp only [thenD, inBlockD])
    refine dw_cond rfl (fun h => ?_) (fun h => ?_)
    · have hlt : k < ls.length := by simpa using h
      have hrow := row_at (f := encL) hlt
      obtain ⟨x, hx⟩ : ∃ x, ls[k] = x := ⟨_, rfl⟩
      rw [hx] at hrow
      simp only [encL] at hrow
      refine dw_skip ?_
      simp only [thenD]
      refine hR3 _ ?_
      refine dw_seq_k fun R4 hR4 => ?_
      refine dw_block ?_
      (refine dw_seq_k fun R hR => ?_; (refine dw_row hT (by decide) ?_; simp only [exB_nil, exB_cons, gd2_t, gd2_f, RunB_eq, SkipB_eq, gdV, eff2, cellEq, kdC, kd, gOf, calleeOf, effd, ev, cv, putS, upd_same, upd_miss, St.of, lkV_hit, lkV_miss, lkV_end, lkB_hit, lkB_miss, lkB_end, noArr_eq, arrOf_hit, arrOf_miss, arrOf_end, St.ofA, lkA_zero, lkA_succ, vcells, pack, rowsOf, bin, killV, killB, killC, frzV, frzC, frzB, frzP, partsD, fillD, frz, Option.isSome_some, Option.bind_some, Option.map_some, List.getD_cons_zero, List.getD_cons_succ, List.getElem?_toArray, List.getElem?_cons_zero, List.getElem?_cons_succ, List.map_cons, List.map_nil, List.drop_zero, List.drop_succ_cons, List.take_succ_cons, List.take_zero, List.length_cons, List.length_nil, List.length_map, List.append_eq, List.cons_append, List.nil_append, Nat.reduceAdd, Nat.reduceLeDiff, Nat.reduceEqDiff, Nat.reduceBEq, Nat.reduceLT, ↓reduceIte, if_true, if_false, true_and, and_true, reduceCtorEq, true_or, or_true, ne_eq, not_true_eq_false, not_false_eq_true, Bool.not_true, Bool.not_false, bq1, bq0, chk, tt29, tt2, tt3, tt4, tt25, tt24, tt22, tt9, tt44, Int.toNat_natCast, hrow]))
      refine ⟨⟨by omega, by omega⟩, ?_⟩
      (refine hR _ ?_; try dsimp only [thenD, inBlockD])
      refine dw_cond rfl (fun he => ?_) (fun he => ?_)
      · (refine dw_seq_k fun R hR => ?_; (refine dw_row hT (by decide) ?_; simp only [exB_nil, exB_cons, gd2_t, gd2_f, RunB_eq, SkipB_eq, gdV, eff2, cellEq, kdC, kd, gOf, calleeOf, effd, ev, cv, putS, upd_same, upd_miss, St.of, lkV_hit, lkV_miss, lkV_end, lkB_hit, lkB_miss, lkB_end, noArr_eq, arrOf_hit, arrOf_miss, arrOf_end, St.ofA, lkA_zero, lkA_succ, vcells, pack, rowsOf, bin, killV, killB, killC, frzV, frzC, frzB, frzP, partsD, fillD, frz, Option.isSome_some, Option.bind_some, Option.map_some, List.getD_cons_zero, List.getD_cons_succ, List.getElem?_toArray, List.getElem?_cons_zero, List.getElem?_cons_succ, List.map_cons, List.map_nil, List.drop_zero, List.drop_succ_cons, List.take_succ_cons, List.take_zero, List.length_cons, List.length_nil, List.length_map, List.append_eq, List.cons_append, List.nil_append, Nat.reduceAdd, Nat.reduceLeDiff, Nat.reduceEqDiff, Nat.reduceBEq, Nat.reduceLT, ↓reduceIte, if_true, if_false, true_and, and_true, reduceCtorEq, true_or, or_true, ne_eq, not_true_eq_false, not_false_eq_true, Bool.not_true, Bool.not_false, bq1, bq0, chk, tt29, tt2, tt3, tt4, tt25, tt24, tt22, tt9, tt44, Int.toNat_natCast, hrow]))
        refine ⟨⟨by omega, by omega⟩, ?_⟩
        (refine hR _ ?_; try dsimp only [thenD, inBlockD])
        refine dw_ret ?_
        have hf := first_some hlt hno (by rw [hx]; exact he)
        rw [hf, hx]
        simp only [inBlockD, retQ, thenD, Ret, resV, res1, parts, part1, exB_nil, exB_cons, gd2_t, gd2_f, RunB_eq, SkipB_eq, gdV, eff2, cellEq, kdC, kd, gOf, calleeOf, effd, ev, cv, putS, upd_same, upd_miss, St.of, lkV_hit, lkV_miss, lkV_end, lkB_hit, lkB_miss, lkB_end, noArr_eq, arrOf_hit, arrOf_miss, arrOf_end, St.ofA, lkA_zero, lkA_succ, vcells, pack, rowsOf, bin, killV, killB, killC, frzV, frzC, frzB, frzP, partsD, fillD, frz, Option.isSome_some, Option.bind_some, Option.map_some, List.getD_cons_zero, List.getD_cons_succ, List.getElem?_toArray, List.getElem?_cons_zero, List.getElem?_cons_succ, List.map_cons, List.map_nil, List.drop_zero, List.drop_succ_cons, List.take_succ_cons, List.take_zero, List.length_cons, List.length_nil, List.length_map, List.append_eq, List.cons_append, List.nil_append, Nat.reduceAdd, Nat.reduceLeDiff, Nat.reduceEqDiff, Nat.reduceBEq, Nat.reduceLT, ↓reduceIte, if_true, if_false, true_and, and_true, reduceCtorEq, true_or, or_true, ne_eq, not_true_eq_false, not_false_eq_true, Bool.not_true, Bool.not_false, bq1, bq0, chk, tt29, tt2, tt3, tt4, tt25, tt24, tt22, tt9, tt44, vle, ple, cle, fle, true_and, and_true]
        simp [gR, encR, cle, fle]
      · refine dw_skip ?_
        simp only [inBlockD, thenD]
        refine hR4 _ ?_
        (refine dw_norm ?_; refine dw_last_k fun R hR => ?_; (refine dw_row hT (by decide) ?_; simp only [exB_nil, exB_cons, gd2_t, gd2_f, RunB_eq, SkipB_eq, gdV, eff2, cellEq, kdC, kd, gOf, calleeOf, effd, ev, cv, putS, upd_same, upd_miss, St.of, lkV_hit, lkV_miss, lkV_end, lkB_hit, lkB_miss, lkB_end, noArr_eq, arrOf_hit, arrOf_miss, arrOf_end, St.ofA, lkA_zero, lkA_succ, vcells, pack, rowsOf, bin, killV, killB, killC, frzV, frzC, frzB, frzP, partsD, fillD, frz, Option.isSome_some, Option.bind_some, Option.map_some, List.getD_cons_zero, List.getD_cons_succ, List.getElem?_toArray, List.getElem?_cons_zero, List.getElem?_cons_succ, List.map_cons, List.map_nil, List.drop_zero, List.drop_succ_cons, List.take_succ_cons, List.take_zero, List.length_cons, List.length_nil, List.length_map, List.append_eq, List.cons_append, List.nil_append, Nat.reduceAdd, Nat.reduceLeDiff, Nat.reduceEqDiff, Nat.reduceBEq, Nat.reduceLT, ↓reduceIte, if_true, if_false, true_and, and_true, reduceCtorEq, true_or, or_true, ne_eq, not_true_eq_false, not_false_eq_true, Bool.not_true, Bool.not_false, bq1, bq0, chk, tt29, tt2, tt3, tt4, tt25, tt24, tt22, tt9, tt44]))
        (refine hR _ ?_; try dsimp only [thenD, inBlockD])
        refine ⟨⟨k + 1, by omega, fun j hj h2 => ?_⟩, by simp only []; omega, ?_⟩
        · by_cases e : j = k
          · subst e; rw [hx]; exact he
          · exact hno j hj (by omega)
        · have ew : IntKind.i64.wrap ((k : Int) + 1) = ((k + 1 : Nat) : Int) := by rw [IntKind.wrap_i64]; omega
          rw [ew]
          (refine weak_of ?_ ?_; all_goals simp [wkS, wkB, wk, vle, cle, fle, St.of, lkV, lkB, lkA_zero, lkA_succ, upd, putS])
    · obtain rfl : k = ls.length := by have : ¬ k < ls.length := by simpa using h
                                       omega
      refine dw_exit ?_
      simp only [thenD, inBlockD, if_true]
      refine hR2 _ ?_
      (refine dw_seq_k fun R hR => ?_; (refine dw_row hT (by decide) ?_; simp only [exB_nil, exB_cons, gd2_t, gd2_f, RunB_eq, SkipB_eq, gdV, eff2, cellEq, kdC, kd, gOf, calleeOf, effd, ev, cv, putS, upd_same, upd_miss, St.of, lkV_hit, lkV_miss, lkV_end, lkB_hit, lkB_miss, lkB_end, noArr_eq, arrOf_hit, arrOf_miss, arrOf_end, St.ofA, lkA_zero, lkA_succ, vcells, pack, rowsOf, bin, killV, killB, killC, frzV, frzC, frzB, frzP, partsD, fillD, frz, Option.isSome_some, Option.bind_some, Option.map_some, List.getD_cons_zero, List.getD_cons_succ, List.getElem?_toArray, List.getElem?_cons_zero, List.getElem?_cons_succ, List.map_cons, List.map_nil, List.drop_zero, List.drop_succ_cons, List.take_succ_cons, List.take_zero, List.length_cons, List.length_nil, List.length_map, List.append_eq, List.cons_append, List.nil_append, Nat.reduceAdd, Nat.reduceLeDiff, Nat.reduceEqDiff, Nat.reduceBEq, Nat.reduceLT, ↓reduceIte, if_true, if_false, true_and, and_true, reduceCtorEq, true_or, or_true, ne_eq, not_true_eq_false, not_false_eq_true, Bool.not_true, Bool.not_false, bq1, bq0, chk, tt29, tt2, tt3, tt4, tt25, tt24, tt22, tt9, tt44]))
      (refine hR _ ?_; try dsimp only [thenD, inBlockD])
      refine dw_ret ?_
      rw [first_none fun j hj => hno j hj hj]
      simp only [inBlockD, retQ, thenD, Ret, resV, res1, parts, part1, exB_nil, exB_cons, gd2_t, gd2_f, RunB_eq, SkipB_eq, gdV, eff2, cellEq, kdC, kd, gOf, calleeOf, effd, ev, cv, putS, upd_same, upd_miss, St.of, lkV_hit, lkV_miss, lkV_end, lkB_hit, lkB_miss, lkB_end, noArr_eq, arrOf_hit, arrOf_miss, arrOf_end, St.ofA, lkA_zero, lkA_succ, vcells, pack, rowsOf, bin, killV, killB, killC, frzV, frzC, frzB, frzP, partsD, fillD, frz, Option.isSome_some, Option.bind_some, Option.map_some, List.getD_cons_zero, List.getD_cons_succ, List.getElem?_toArray, List.getElem?_cons_zero, List.getElem?_cons_succ, List.map_cons, List.map_nil, List.drop_zero, List.drop_succ_cons, List.take_succ_cons, List.take_zero, List.length_cons, List.length_nil, List.length_map, List.append_eq, List.cons_append, List.nil_append, Nat.reduceAdd, Nat.reduceLeDiff, Nat.reduceEqDiff, Nat.reduceBEq, Nat.reduceLT, ↓reduceIte, if_true, if_false, true_and, and_true, reduceCtorEq, true_or, or_true, ne_eq, not_true_eq_false, not_false_eq_true, Bool.not_true, Bool.not_false, bq1, bq0, chk, tt29, tt2, tt3, tt4, tt25, tt24, tt22, tt9, tt44, vle, ple, cle, fle, true_and, and_true]
      simp [gR, encR, noRg, cle, fle]
theorem take_snoc {α : Type} {l : List α} {k : Nat} (h : k < l.length) : l.take (k + 1) = l.take k ++ [l[k]] := by rw [List.take_add_one, List.getElem?_eq_getElem h]; rfl
set_option maxRecDepth 100000 in
set_option maxHeartbeats 2000000 in
theorem most_d (l : List Rg) (hl : l.length ≤ 10000000000000) : CallC Try.prog 17 [.c (.f (.l 3 (l.map encR)))] (gR (mostR l)) := by
  refine call_of hT [.cell 2 29] Try.func17 rfl (by decide) (by simp [Try.ntmps17]) rfl (fun X w0 => ?_)
  (refine dw_seq_k fun R hR => ?_; (refine dw_row hT (by decide) ?_; simp only [exB_nil, exB_cons, gd2_t, gd2_f, RunB_eq, SkipB_eq, gdV, eff2, cellEq, kdC, kd, gOf, calleeOf, effd, ev, cv, putS, upd_same, upd_miss, St.of, lkV_hit, lkV_miss, lkV_end, lkB_hit, lkB_miss, lkB_end, noArr_eq, arrOf_hit, arrOf_miss, arrOf_end, St.ofA, lkA_zero, lkA_succ, vcells, pack, rowsOf, bin, killV, killB, killC, frzV, frzC, frzB, frzP, partsD, fillD, frz, Option.isSome_some, Option.bind_some, Option.map_some, List.getD_cons_zero, List.getD_cons_succ, List.getElem?_toArray, List.getElem?_cons_zero, List.getElem?_cons_succ, List.map_cons, List.map_nil, List.drop_zero, List.drop_succ_cons, List.take_succ_cons, List.take_zero, List.length_cons, List.length_nil, List.length_map, List.append_eq, List.cons_append, List.nil_append, Nat.reduceAdd, Nat.reduceLeDiff, Nat.reduceEqDiff, Nat.reduceBEq, Nat.reduceLT, ↓reduceIte, if_true, if_false, true_and, and_true, reduceCtorEq, true_or, or_true, ne_eq, not_true_eq_false, not_false_eq_true, Bool.not_true, Bool.not_false, bq1, bq0, chk, tt29, tt2, tt3, tt4, tt25, tt24, tt22, tt9, tt44]))
  (refine hR _ ?_; try dsimp only [thenD, inBlockD])
  refine dw_seq_k fun R2 hR2 => ?_
  (refine dw_seq_k fun R hR => ?_; (refine dw_row hT (by decide) ?_; simp only [exB_nil, exB_cons, gd2_t, gd2_f, RunB_eq, SkipB_eq, gdV, eff2, cellEq, kdC, kd, gOf, calleeOf, effd, ev, cv, putS, upd_same, upd_miss, St.of, lkV_hit, lkV_miss, lkV_end, lkB_hit, lkB_miss, lkB_end, noArr_eq, arrOf_hit, arrOf_miss, arrOf_end, St.ofA, lkA_zero, lkA_succ, vcells, pack, rowsOf, bin, killV, killB, killC, frzV, frzC, frzB, frzP, partsD, fillD, frz, Option.isSome_some, Option.bind_some, Option.map_some, List.getD_cons_zero, List.getD_cons_succ, List.getElem?_toArray, List.getElem?_cons_zero, List.getElem?_cons_succ, List.map_cons, List.map_nil, List.drop_zero, List.drop_succ_cons, List.take_succ_cons, List.take_zero, List.length_cons, List.length_nil, List.length_map, List.append_eq, List.cons_append, List.nil_append, Nat.reduceAdd, Nat.reduceLeDiff, Nat.reduceEqDiff, Nat.reduceBEq, Nat.reduceLT, ↓reduceIte, if_true, if_false, true_and, and_true, reduceCtorEq, true_or, or_true, ne_eq, not_true_eq_false, not_false_eq_true, Bool.not_true, Bool.not_false, bq1, bq0, chk, tt29, tt2, tt3, tt4, tt25, tt24, tt22, tt9, tt44]))
  (refine hR _ ?_; try dsimp only [thenD, inBlockD])
  refine dw_cond rfl (fun h => ?_) (fun h => ?_)
  · obtain rfl : l = [] := by simpa using h
    (refine dw_seq_k fun R hR => ?_; (refine dw_row hT (by decide) ?_; simp only [exB_nil, exB_cons, gd2_t, gd2_f, RunB_eq, SkipB_eq, gdV, eff2, cellEq, kdC, kd, gOf, calleeOf, effd, ev, cv, putS, upd_same, upd_miss, St.of, lkV_hit, lkV_miss, lkV_end, lkB_hit, lkB_miss, lkB_end, noArr_eq, arrOf_hit, arrOf_miss, arrOf_end, St.ofA, lkA_zero, lkA_succ, vcells, pack, rowsOf, bin, killV, killB, killC, frzV, frzC, frzB, frzP, partsD, fillD, frz, Option.isSome_some, Option.bind_some, Option.map_some, List.getD_cons_zero, List.getD_cons_succ, List.getElem?_toArray, List.getElem?_cons_zero, List.getElem?_cons_succ, List.map_cons, List.map_nil, List.drop_zero, List.drop_succ_cons, List.take_succ_cons, List.take_zero, List.length_cons, List.length_nil, List.length_map, List.append_eq, List.cons_append, List.nil_append, Nat.reduceAdd, Nat.reduceLeDiff, Nat.reduceEqDiff, Nat.reduceBEq, Nat.reduceLT, ↓reduceIte, if_true, if_false, true_and, and_true, reduceCtorEq, true_or, or_true, ne_eq, not_true_eq_false, not_false_eq_true, Bool.not_true, Bool.not_false, bq1, bq0, chk, tt29, tt2, tt3, tt4, tt25, tt24, tt22, tt9, tt44]))
    (refine hR _ ?_; try dsimp only [thenD, inBlockD])
    refine dw_ret ?_
    simp only [inBlockD, retQ, thenD, Ret, resV, res1, parts, part1, exB_nil, exB_cons, gd2_t, gd2_f, RunB_eq, SkipB_eq, gdV, eff2, cellEq, kdC, kd, gOf, calleeOf, effd, ev, cv, putS, upd_same, upd_miss, St.of, lkV_hit, lkV_miss, lkV_end, lkB_hit, lkB_miss, lkB_end, noArr_eq, arrOf_hit, arrOf_miss, arrOf_end, St.ofA, lkA_zero, lkA_succ, vcells, pack, rowsOf, bin, killV, killB, killC, frzV, frzC, frzB, frzP, partsD, fillD, frz, Option.isSome_some, Option.bind_some, Option.map_some, List.getD_cons_zero, List.getD_cons_succ, List.getElem?_toArray, List.getElem?_cons_zero, List.getElem?_cons_succ, List.map_cons, List.map_nil, List.drop_zero, List.drop_succ_cons, List.take_succ_cons, List.take_zero, List.length_cons, List.length_nil, List.length_map, List.append_eq, List.cons_append, List.nil_append, Nat.reduceAdd, Nat.reduceLeDiff, Nat.reduceEqDiff, Nat.reduceBEq, Nat.reduceLT, ↓reduceIte, if_true, if_false, true_and, and_true, reduceCtorEq, true_or, or_true, ne_eq, not_true_eq_false, not_false_eq_true, Bool.not_true, Bool.not_false, bq1, bq0, chk, tt29, tt2, tt3, tt4, tt25, tt24, tt22, tt9, tt44, vle, ple, cle, fle, true_and, and_true]
    simp [gR, encR, mostR, noRg, cle, fle]
  · refine dw_skip ?_
    refine hR2 _ ?_
    have h0 : 0 < l.length := by rcases Nat.eq_zero_or_pos l.length with e | e; (simp [e] at h); exact e
    have hrow := row_at (f := encR) h0
    obtain ⟨m, hm⟩ : ∃ m, l[0] = m := ⟨_, rfl⟩
    rw [hm] at hrow
    simp only [encR] at hrow
    have hm1 : mostR (l.take 1) = m := by
      cases l with
      | nil => simp at h0
      | cons a r => simpa [mostR] using hm
    (refine dw_seq_k fun R hR => ?_; (refine dw_row hT (by decide) ?_; simp only [exB_nil, exB_cons, gd2_t, gd2_f, RunB_eq, SkipB_eq, gdV, eff2, cellEq, kdC, kd, gOf, calleeOf, effd, ev, cv, putS, upd_same, upd_miss, St.of, lkV_hit, lkV_miss, lkV_end, lkB_hit, lkB_miss, lkB_end, noArr_eq, arrOf_hit, arrOf_miss, arrOf_end, St.ofA, lkA_zero, lkA_succ, vcells, pack, rowsOf, bin, killV, killB, killC, frzV, frzC, frzB, frzP, partsD, fillD, frz, Option.isSome_some, Option.bind_some, Option.map_some, List.getD_cons_zero, List.getD_cons_succ, List.getElem?_toArray, List.getElem?_cons_zero, List.getElem?_cons_succ, List.map_cons, List.map_nil, List.drop_zero, List.drop_succ_cons, List.take_succ_cons, List.take_zero, List.length_cons, List.length_nil, List.length_map, List.append_eq, List.cons_append, List.nil_append, Nat.reduceAdd, Nat.reduceLeDiff, Nat.reduceEqDiff, Nat.reduceBEq, Nat.reduceLT, ↓reduceIte, if_true, if_false, true_and, and_true, reduceCtorEq, true_or, or_true, ne_eq, not_true_eq_false, not_false_eq_true, Bool.not_true, Bool.not_false, bq1, bq0, chk, tt29, tt2, tt3, tt4, tt25, tt24, tt22, tt9, tt44, Int.toNat_zero, hrow]))
    refine ⟨by omega, ?_⟩
    (refine hR _ ?_; try dsimp only [thenD, inBlockD])
    refine dw_seq_k fun R3 hR3 => ?_
    (refine dw_seq_k fun R hR => ?_; (refine dw_row hT (by decide) ?_; simp only [exB_nil, exB_cons, gd2_t, gd2_f, RunB_eq, SkipB_eq, gdV, eff2, cellEq, kdC, kd, gOf, calleeOf, effd, ev, cv, putS, upd_same, upd_miss, St.of, lkV_hit, lkV_miss, lkV_end, lkB_hit, lkB_miss, lkB_end, noArr_eq, arrOf_hit, arrOf_miss, arrOf_end, St.ofA, lkA_zero, lkA_succ, vcells, pack, rowsOf, bin, killV, killB, killC, frzV, frzC, frzB, frzP, partsD, fillD, frz, Option.isSome_some, Option.bind_some, Option.map_some, List.getD_cons_zero, List.getD_cons_succ, List.getElem?_toArray, List.getElem?_cons_zero, List.getElem?_cons_succ, List.map_cons, List.map_nil, List.drop_zero, List.drop_succ_cons, List.take_succ_cons, List.take_zero, List.length_cons, List.length_nil, List.length_map, List.append_eq, List.cons_append, List.nil_append, Nat.reduceAdd, Nat.reduceLeDiff, Nat.reduceEqDiff, Nat.reduceBEq, Nat.reduceLT, ↓reduceIte, if_true, if_false, true_and, and_true, reduceCtorEq, true_or, or_true, ne_eq, not_true_eq_false, not_false_eq_true, Bool.not_true, Bool.not_false, bq1, bq0, chk, tt29, tt2, tt3, tt4, tt25, tt24, tt22, tt9, tt44]))
    (refine hR _ ?_; try dsimp only [thenD, inBlockD])
    refine dw_block ?_
    refine dw_loop (ι := {k : Nat // 1 ≤ k ∧ k ≤ l.length})
      (fun k => St.of [(0, .c (.f (.l 3 (l.map encR)))), (2, .loc 2 0), (3, .loc 3 0), (4, .c (.f (.s (.int .i64 k.1))))]
        [(2, 29, [.f (.s (.int .i64 0)), .f (.s (.int .i64 0)), .f (.s (.int .i64 0))]), (3, 29, [.f (.s (.int .i64 (mostR (l.take k.1)).ver)), .f (.s (.int .i64 (mostR (l.take k.1)).wt)), .f (.s (.int .i64 (mostR (l.take k.1)).fl))])])
      (fun k => l.length - k.1) ⟨1, by omega, by omega⟩ ?_ ?_
    · (refine weak_of ?_ ?_; all_goals simp [wkS, wkB, wk, vle, cle, fle, St.of, lkV, lkB, lkA_zero, lkA_succ, upd, putS])
      simp [hm1, cle, fle]
    · rintro ⟨k, hk1, hk⟩
      refine dw_seq_k fun R4 hR4 => ?_
      (refine dw_seq_k fun R hR => ?_; (refine dw_row hT (by decide) ?_; simp only [exB_nil, exB_cons, gd2_t, gd2_f, RunB_eq, SkipB_eq, gdV, eff2, cellEq, kdC, kd, gOf, calleeOf, effd, ev, cv, putS, upd_same, upd_miss, St.of, lkV_hit, lkV_miss, lkV_end, lkB_hit, lkB_miss, lkB_end, noArr_eq, arrOf_hit, arrOf_miss, arrOf_end, St.ofA, lkA_zero, lkA_succ, vcells, pack, rowsOf, bin, killV, killB, killC, frzV, frzC, frzB, frzP, partsD, fillD, frz, Option.isSome_some, Option.bind_some, Option.map_some, List.getD_cons_zero, List.getD_cons_succ, List.getElem?_toArray, List.getElem?_cons_zero, List.getElem?_cons_succ, List.map_cons, List.map_nil, List.drop_zero, List.drop_succ_cons, List.take_succ_cons, List.take_zero, List.length_cons, List.length_nil, List.length_map, List.append_eq, List.cons_append, List.nil_append, Nat.reduceAdd, Nat.reduceLeDiff, Nat.reduceEqDiff, Nat.reduceBEq, Nat.reduceLT, ↓reduceIte, if_true, if_false, true_and, and_true, reduceCtorEq, true_or, or_true, ne_eq, not_true_eq_false, not_false_eq_true, Bool.not_true, Bool.not_false, bq1, bq0, chk, tt29, tt2, tt3, tt4, tt25, tt24, tt22, tt9, tt44]))
      (refine hR _ ?_; try dsimp only [thenD, inBlockD])
      refine dw_cond rfl (fun h => ?_) (fun h => ?_)
      · have hlt : k < l.length := by simpa using h
        have hrow := row_at (f := encR) hlt
        have hne : l.take k ≠ [] := by
          intro e
          have := congrArg List.length e
          rw [List.length_take, List.length_nil] at this
          omega
        have hsn := most_snoc hne l[k]
        rw [← take_snoc hlt] at hsn
        obtain ⟨x, hx⟩ : ∃ x, l[k] = x := ⟨_, rfl⟩
        rw [hx] at hrow hsn
        simp only [encR] at hrow
        obtain ⟨cur, hcur⟩ : ∃ c, mostR (l.take k) = c := ⟨_, rfl⟩
        rw [hcur] at hsn
        refine dw_skip ?_
        simp only [thenD]
        refine hR4 _ ?_
        refine dw_seq_k fun R5 hR5 => ?_
        refine dw_block ?_
        simp only [hcur]
        (refine dw_norm ?_; refine dw_last_k fun R hR => ?_; (refine dw_rowd [] hT rfl (by decide) (by decide +kernel) rfl ?_; simp only [rnOf, List.mem_cons, List.not_mem_nil, or_false, forall_eq, false_implies, implies_true, exB_nil, exB_cons, gd2_t, gd2_f, RunB_eq, SkipB_eq, gdV, eff2, cellEq, kdC, kd, gOf, calleeOf, effd, ev, cv, putS, upd_same, upd_miss, St.of, lkV_hit, lkV_miss, lkV_end, lkB_hit, lkB_miss, lkB_end, noArr_eq, arrOf_hit, arrOf_miss, arrOf_end, St.ofA, lkA_zero, lkA_succ, vcells, pack, rowsOf, bin, killV, killB, killC, frzV, frzC, frzB, frzP, partsD, fillD, frz, Option.isSome_some, Option.bind_some, Option.map_some, List.getD_cons_zero, List.getD_cons_succ, List.getElem?_toArray, List.getElem?_cons_zero, List.getElem?_cons_succ, List.map_cons, List.map_nil, List.drop_zero, List.drop_succ_cons, List.take_succ_cons, List.take_zero, List.length_cons, List.length_nil, List.length_map, List.append_eq, List.cons_append, List.nil_append, Nat.reduceAdd, Nat.reduceLeDiff, Nat.reduceEqDiff, Nat.reduceBEq, Nat.reduceLT, ↓reduceIte, if_true, if_false, true_and, and_true, reduceCtorEq, true_or, or_true, ne_eq, not_true_eq_false, not_false_eq_true, Bool.not_true, Bool.not_false, bq1, bq0, chk, tt29, tt2, tt3, tt4, tt25, tt24, tt22, tt9, tt44, Int.toNat_natCast, hrow]))
        refine ⟨by omega, ?_⟩
        refine ⟨_, _, refMerge9_d cur x, (by simp [vles, vle, cle, fle, gI, gB, gS, gR, gH, gHs, encR, encH]), ?_⟩; rw [later_eq]
        simp only [exB_nil, exB_cons, gd2_t, gd2_f, RunB_eq, SkipB_eq, gdV, eff2, cellEq, kdC, kd, gOf, calleeOf, effd, ev, cv, putS, upd_same, upd_miss, St.of, lkV_hit, lkV_miss, lkV_end, lkB_hit, lkB_miss, lkB_end, noArr_eq, arrOf_hit, arrOf_miss, arrOf_end, St.ofA, lkA_zero, lkA_succ, vcells, pack, rowsOf, bin, killV, killB, killC, frzV, frzC, frzB, frzP, partsD, fillD, frz, Option.isSome_some, Option.bind_some, Option.map_some, List.getD_cons_zero, List.getD_cons_succ, List.getElem?_toArray, List.getElem?_cons_zero, List.getElem?_cons_succ, List.map_cons, List.map_nil, List.drop_zero, List.drop_succ_cons, List.take_succ_cons, List.take_zero, List.length_cons, List.length_nil, List.length_map, List.append_eq, List.cons_append, List.nil_append, Nat.reduceAdd, Nat.reduceLeDiff, Nat.reduceEqDiff, Nat.reduceBEq, Nat.reduceLT, ↓reduceIte, if_true, if_false, true_and, and_true, reduceCtorEq, true_or, or_true, ne_eq, not_true_eq_false, not_false_eq_true, Bool.not_true, Bool.not_false, bq1, bq0, chk, tt29, tt2, tt3, tt4, tt25, tt24, tt22, tt9, tt44, gR, encR]
        (refine hR _ ?_; try dsimp only [thenD, inBlockD])
        refine hR5 _ ?_
        (refine dw_norm ?_; refine dw_last_k fun R hR => ?_; (refine dw_row hT (by decide) ?_; simp only [exB_nil, exB_cons, gd2_t, gd2_f, RunB_eq, SkipB_eq, gdV, eff2, cellEq, kdC, kd, gOf, calleeOf, effd, ev, cv, putS, upd_same, upd_miss, St.of, lkV_hit, lkV_miss, lkV_end, lkB_hit, lkB_miss, lkB_end, noArr_eq, arrOf_hit, arrOf_miss, arrOf_end, St.ofA, lkA_zero, lkA_succ, vcells, pack, rowsOf, bin, killV, killB, killC, frzV, frzC, frzB, frzP, partsD, fillD, frz, Option.isSome_some, Option.bind_some, Option.map_some, List.getD_cons_zero, List.getD_cons_succ, List.getElem?_toArray, List.getElem?_cons_zero, List.getElem?_cons_succ, List.map_cons, List.map_nil, List.drop_zero, List.drop_succ_cons, List.take_succ_cons, List.take_zero, List.length_cons, List.length_nil, List.length_map, List.append_eq, List.cons_append, List.nil_append, Nat.reduceAdd, Nat.reduceLeDiff, Nat.reduceEqDiff, Nat.reduceBEq, Nat.reduceLT, ↓reduceIte, if_true, if_false, true_and, and_true, reduceCtorEq, true_or, or_true, ne_eq, not_true_eq_false, not_false_eq_true, Bool.not_true, Bool.not_false, bq1, bq0, chk, tt29, tt2, tt3, tt4, tt25, tt24, tt22, tt9, tt44]))
        (refine hR _ ?_; try dsimp only [thenD, inBlockD])
        have ew := wrap_nat (n := k) (by omega)
        rw [ew]
        refine ⟨⟨k + 1, by omega, by omega⟩, by simp only []; omega, ?_⟩
        simp only [hsn]
        (refine weak_of ?_ ?_; all_goals simp [wkS, wkB, wk, vle, cle, fle, St.of, lkV, lkB, lkA_zero, lkA_succ, upd, putS])
      · obtain rfl : k = l.length := by have : ¬ k < l.length := by simpa using h
                                        omega
        refine dw_exit ?_
        simp only [thenD, inBlockD, if_true]
        refine hR3 _ ?_
        (refine dw_seq_k fun R hR => ?_; (refine dw_row hT (by decide) ?_; simp only [exB_nil, exB_cons, gd2_t, gd2_f, RunB_eq, SkipB_eq, gdV, eff2, cellEq, kdC, kd, gOf, calleeOf, effd, ev, cv, putS, upd_same, upd_miss, St.of, lkV_hit, lkV_miss, lkV_end, lkB_hit, lkB_miss, lkB_end, noArr_eq, arrOf_hit, arrOf_miss, arrOf_end, St.ofA, lkA_zero, lkA_succ, vcells, pack, rowsOf, bin, killV, killB, killC, frzV, frzC, frzB, frzP, partsD, fillD, frz, Option.isSome_some, Option.bind_some, Option.map_some, List.getD_cons_zero, List.getD_cons_succ, List.getElem?_toArray, List.getElem?_cons_zero, List.getElem?_cons_succ, List.map_cons, List.map_nil, List.drop_zero, List.drop_succ_cons, List.take_succ_cons, List.take_zero, List.length_cons, List.length_nil, List.length_map, List.append_eq, List.cons_append, List.nil_append, Nat.reduceAdd, Nat.reduceLeDiff, Nat.reduceEqDiff, Nat.reduceBEq, Nat.reduceLT, ↓reduceIte, if_true, if_false, true_and, and_true, reduceCtorEq, true_or, or_true, ne_eq, not_true_eq_false, not_false_eq_true, Bool.not_true, Bool.not_false, bq1, bq0, chk, tt29, tt2, tt3, tt4, tt25, tt24, tt22, tt9, tt44]))
        (refine hR _ ?_; try dsimp only [thenD, inBlockD])
        refine dw_ret ?_
        rw [List.take_of_length_le (Nat.le_refl _)]
        simp only [inBlockD, retQ, thenD, Ret, resV, res1, parts, part1, exB_nil, exB_cons, gd2_t, gd2_f, RunB_eq, SkipB_eq, gdV, eff2, cellEq, kdC, kd, gOf, calleeOf, effd, ev, cv, putS, upd_same, upd_miss, St.of, lkV_hit, lkV_miss, lkV_end, lkB_hit, lkB_miss, lkB_end, noArr_eq, arrOf_hit, arrOf_miss, arrOf_end, St.ofA, lkA_zero, lkA_succ, vcells, pack, rowsOf, bin, killV, killB, killC, frzV, frzC, frzB, frzP, partsD, fillD, frz, Option.isSome_some, Option.bind_some, Option.map_some, List.getD_cons_zero, List.getD_cons_succ, List.getElem?_toArray, List.getElem?_cons_zero, List.getElem?_cons_succ, List.map_cons, List.map_nil, List.drop_zero, List.drop_succ_cons, List.take_succ_cons, List.take_zero, List.length_cons, List.length_nil, List.length_map, List.append_eq, List.cons_append, List.nil_append, Nat.reduceAdd, Nat.reduceLeDiff, Nat.reduceEqDiff, Nat.reduceBEq, Nat.reduceLT, ↓reduceIte, if_true, if_false, true_and, and_true, reduceCtorEq, true_or, or_true, ne_eq, not_true_eq_false, not_false_eq_true, Bool.not_true, Bool.not_false, bq1, bq0, chk, tt29, tt2, tt3, tt4, tt25, tt24, tt22, tt9, tt44, vle, ple, cle, fle, true_and, and_true]
        simp [gR, encR, cle, fle]
/-- registers merged one after another -/
def mrg (id p : Int) (nm : ByteArray) : List Line → List Rg → List Line
  | ls, [] => ls
  | ls, r :: rs => mrg id p nm (mergeL id p ls nm r).1 rs
def hL (h : Half) (ls : List Line) : Half := ⟨h.peer, h.boot, h.life, ls, h.pend, h.miss⟩
set_option maxRecDepth 100000 in
set_option maxHeartbeats 4000000 in
theorem grows_d (id : Int) (h : Half) (nm : ByteArray) (l : List Rg) (hl : l.length * 24 ≤ 140737488355328 - 4096) (hlen : h.lines.length ≤ maxLen) (hnms : ∀ x ∈ h.lines, x.nm.size ≤ maxLen) (hnm : nm.size ≤ maxLen) (hbig : h.lines.length ≤ 100000000000 ∨ fitH id h = false) :
    CallC Try.prog 3 [gI id, gH h, gS nm, .c (.f (.l 3 (l.map encR)))] (gB true) := by
  obtain ⟨p, bo, li, ls, pe, mi⟩ := h
  refine call_of hT [.tmp 8] Try.func3 rfl (by decide) (by simp [Try.ntmps3]) rfl (fun X w0 => ?_)
  simp only [] at hlen hnms hbig
  (refine dw_seq_k fun R hR => ?_; (refine dw_row hT (by decide) ?_; simp only [exB_nil, exB_cons, gd2_t, gd2_f, RunB_eq, SkipB_eq, gdV, eff2, cellEq, kdC, kd, gOf, calleeOf, effd, ev, cv, putS, upd_same, upd_miss, St.of, lkV_hit, lkV_miss, lkV_end, lkB_hit, lkB_miss, lkB_end, noArr_eq, arrOf_hit, arrOf_miss, arrOf_end, St.ofA, lkA_zero, lkA_succ, vcells, pack, rowsOf, bin, killV, killB, killC, frzV, frzC, frzB, frzP, partsD, fillD, frz, Option.isSome_some, Option.bind_some, Option.map_some, List.getD_cons_zero, List.getD_cons_succ, List.getElem?_toArray, List.getElem?_cons_zero, List.getElem?_cons_succ, List.map_cons, List.map_nil, List.drop_zero, List.drop_succ_cons, List.take_succ_cons, List.take_zero, List.length_cons, List.length_nil, List.length_map, List.append_eq, List.cons_append, List.nil_append, Nat.reduceAdd, Nat.reduceLeDiff, Nat.reduceEqDiff, Nat.reduceBEq, Nat.reduceLT, ↓reduceIte, if_true, if_false, true_and, and_true, reduceCtorEq, true_or, or_true, ne_eq, not_true_eq_false, not_false_eq_true, Bool.not_true, Bool.not_false, bq1, bq0, chk, tt29, tt2, tt3, tt4, tt25, tt24, tt22, tt9, tt44, gH, encH]))
  (refine hR _ ?_; try dsimp only [thenD, inBlockD])
  refine dw_seq_k fun R1 hR1 => ?_
  obtain ⟨f, hf⟩ : ∃ f, fitH id ⟨p, bo, li, ls, pe, mi⟩ = f := ⟨_, rfl⟩
  obtain ⟨g, hg⟩ : ∃ g, nameOk nm = g := ⟨_, rfl⟩
  have hfd := refFit_d id ⟨p, bo, li, ls, pe, mi⟩ hlen hnms
  have hgd := refName_d nm hnm
  rw [hf] at hfd
  rw [hg] at hgd
  (refine dw_seq_k fun R hR => ?_; (refine dw_row hT (by decide) ?_; simp only [exB_nil, exB_cons, gd2_t, gd2_f, RunB_eq, SkipB_eq, gdV, eff2, cellEq, kdC, kd, gOf, calleeOf, effd, ev, cv, putS, upd_same, upd_miss, St.of, lkV_hit, lkV_miss, lkV_end, lkB_hit, lkB_miss, lkB_end, noArr_eq, arrOf_hit, arrOf_miss, arrOf_end, St.ofA, lkA_zero, lkA_succ, vcells, pack, rowsOf, bin, killV, killB, killC, frzV, frzC, frzB, frzP, partsD, fillD, frz, Option.isSome_some, Option.bind_some, Option.map_some, List.getD_cons_zero, List.getD_cons_succ, List.getElem?_toArray, List.getElem?_cons_zero, List.getElem?_cons_succ, List.map_cons, List.map_nil, List.drop_zero, List.drop_succ_cons, List.take_succ_cons, List.take_zero, List.length_cons, List.length_nil, List.length_map, List.append_eq, List.cons_append, List.nil_append, Nat.reduceAdd, Nat.reduceLeDiff, Nat.reduceEqDiff, Nat.reduceBEq, Nat.reduceLT, ↓reduceIte, if_true, if_false, true_and, and_true, reduceCtorEq, true_or, or_true, ne_eq, not_true_eq_false, not_false_eq_true, Bool.not_true, Bool.not_false, bq1, bq0, chk, tt29, tt2, tt3, tt4, tt25, tt24, tt22, tt9, tt44, gI, gS, gB]))
  refine ⟨_, _, hfd, (by simp [vles, vle, cle, fle, gI, gB, gS, gR, gH, gHs, encR, encH]), ?_⟩; rw [later_eq]
  cases f
  · simp only [exB_nil, exB_cons, gd2_t, gd2_f, RunB_eq, SkipB_eq, gdV, eff2, cellEq, kdC, kd, gOf, calleeOf, effd, ev, cv, putS, upd_same, upd_miss, St.of, lkV_hit, lkV_miss, lkV_end, lkB_hit, lkB_miss, lkB_end, noArr_eq, arrOf_hit, arrOf_miss, arrOf_end, St.ofA, lkA_zero, lkA_succ, vcells, pack, rowsOf, bin, killV, killB, killC, frzV, frzC, frzB, frzP, partsD, fillD, frz, Option.isSome_some, Option.bind_some, Option.map_some, List.getD_cons_zero, List.getD_cons_succ, List.getElem?_toArray, List.getElem?_cons_zero, List.getElem?_cons_succ, List.map_cons, List.map_nil, List.drop_zero, List.drop_succ_cons, List.take_succ_cons, List.take_zero, List.length_cons, List.length_nil, List.length_map, List.append_eq, List.cons_append, List.nil_append, Nat.reduceAdd, Nat.reduceLeDiff, Nat.reduceEqDiff, Nat.reduceBEq, Nat.reduceLT, ↓reduceIte, if_true, if_false, true_and, and_true, reduceCtorEq, true_or, or_true, ne_eq, not_true_eq_false, not_false_eq_true, Bool.not_true, Bool.not_false, bq1, bq0, chk, tt29, tt2, tt3, tt4, tt25, tt24, tt22, tt9, tt44, gB]
    (refine hR _ ?_; try dsimp only [thenD, inBlockD])
    refine dw_cond rfl (fun h => ?_) (fun h => by cases h)
    (refine dw_seq_k fun R hR => ?_; (refine dw_row hT (by decide) ?_; simp only [exB_nil, exB_cons, gd2_t, gd2_f, RunB_eq, SkipB_eq, gdV, eff2, cellEq, kdC, kd, gOf, calleeOf, effd, ev, cv, putS, upd_same, upd_miss, St.of, lkV_hit, lkV_miss, lkV_end, lkB_hit, lkB_miss, lkB_end, noArr_eq, arrOf_hit, arrOf_miss, arrOf_end, St.ofA, lkA_zero, lkA_succ, vcells, pack, rowsOf, bin, killV, killB, killC, frzV, frzC, frzB, frzP, partsD, fillD, frz, Option.isSome_some, Option.bind_some, Option.map_some, List.getD_cons_zero, List.getD_cons_succ, List.getElem?_toArray, List.getElem?_cons_zero, List.getElem?_cons_succ, List.map_cons, List.map_nil, List.drop_zero, List.drop_succ_cons, List.take_succ_cons, List.take_zero, List.length_cons, List.length_nil, List.length_map, List.append_eq, List.cons_append, List.nil_append, Nat.reduceAdd, Nat.reduceLeDiff, Nat.reduceEqDiff, Nat.reduceBEq, Nat.reduceLT, ↓reduceIte, if_true, if_false, true_and, and_true, reduceCtorEq, true_or, or_true, ne_eq, not_true_eq_false, not_false_eq_true, Bool.not_true, Bool.not_false, bq1, bq0, chk, tt29, tt2, tt3, tt4, tt25, tt24, tt22, tt9, tt44]))
    refine ⟨_, _, awake_d, (by simp [vles, vle, cle, fle, gI, gB, gS, gR, gH, gHs, encR, encH]), ?_⟩; rw [later_eq]
    simp only [exB_nil, exB_cons, gd2_t, gd2_f, RunB_eq, SkipB_eq, gdV, eff2, cellEq, kdC, kd, gOf, calleeOf, effd, ev, cv, putS, upd_same, upd_miss, St.of, lkV_hit, lkV_miss, lkV_end, lkB_hit, lkB_miss, lkB_end, noArr_eq, arrOf_hit, arrOf_miss, arrOf_end, St.ofA, lkA_zero, lkA_succ, vcells, pack, rowsOf, bin, killV, killB, killC, frzV, frzC, frzB, frzP, partsD, fillD, frz, Option.isSome_some, Option.bind_some, Option.map_some, List.getD_cons_zero, List.getD_cons_succ, List.getElem?_toArray, List.getElem?_cons_zero, List.getElem?_cons_succ, List.map_cons, List.map_nil, List.drop_zero, List.drop_succ_cons, List.take_succ_cons, List.take_zero, List.length_cons, List.length_nil, List.length_map, List.append_eq, List.cons_append, List.nil_append, Nat.reduceAdd, Nat.reduceLeDiff, Nat.reduceEqDiff, Nat.reduceBEq, Nat.reduceLT, ↓reduceIte, if_true, if_false, true_and, and_true, reduceCtorEq, true_or, or_true, ne_eq, not_true_eq_false, not_false_eq_true, Bool.not_true, Bool.not_false, bq1, bq0, chk, tt29, tt2, tt3, tt4, tt25, tt24, tt22, tt9, tt44, gB]
    (refine hR _ ?_; try dsimp only [thenD, inBlockD])
    refine dw_ret ?_
    simp only [inBlockD, retQ, thenD, Ret, resV, res1, parts, part1, exB_nil, exB_cons, gd2_t, gd2_f, RunB_eq, SkipB_eq, gdV, eff2, cellEq, kdC, kd, gOf, calleeOf, effd, ev, cv, putS, upd_same, upd_miss, St.of, lkV_hit, lkV_miss, lkV_end, lkB_hit, lkB_miss, lkB_end, noArr_eq, arrOf_hit, arrOf_miss, arrOf_end, St.ofA, lkA_zero, lkA_succ, vcells, pack, rowsOf, bin, killV, killB, killC, frzV, frzC, frzB, frzP, partsD, fillD, frz, Option.isSome_some, Option.bind_some, Option.map_some, List.getD_cons_zero, List.getD_cons_succ, List.getElem?_toArray, List.getElem?_cons_zero, List.getElem?_cons_succ, List.map_cons, List.map_nil, List.drop_zero, List.drop_succ_cons, List.take_succ_cons, List.take_zero, List.length_cons, List.length_nil, List.length_map, List.append_eq, List.cons_append, List.nil_append, Nat.reduceAdd, Nat.reduceLeDiff, Nat.reduceEqDiff, Nat.reduceBEq, Nat.reduceLT, ↓reduceIte, if_true, if_false, true_and, and_true, reduceCtorEq, true_or, or_true, ne_eq, not_true_eq_false, not_false_eq_true, Bool.not_true, Bool.not_false, bq1, bq0, chk, tt29, tt2, tt3, tt4, tt25, tt24, tt22, tt9, tt44, vle, ple, cle, fle, true_and, and_true]
    simp [gB, cle, fle]
  simp only [exB_nil, exB_cons, gd2_t, gd2_f, RunB_eq, SkipB_eq, gdV, eff2, cellEq, kdC, kd, gOf, calleeOf, effd, ev, cv, putS, upd_same, upd_miss, St.of, lkV_hit, lkV_miss, lkV_end, lkB_hit, lkB_miss, lkB_end, noArr_eq, arrOf_hit, arrOf_miss, arrOf_end, St.ofA, lkA_zero, lkA_succ, vcells, pack, rowsOf, bin, killV, killB, killC, frzV, frzC, frzB, frzP, partsD, fillD, frz, Option.isSome_some, Option.bind_some, Option.map_some, List.getD_cons_zero, List.getD_cons_succ, List.getElem?_toArray, List.getElem?_cons_zero, List.getElem?_cons_succ, List.map_cons, List.map_nil, List.drop_zero, List.drop_succ_cons, List.take_succ_cons, List.take_zero, List.length_cons, List.length_nil, List.length_map, List.append_eq, List.cons_append, List.nil_append, Nat.reduceAdd, Nat.reduceLeDiff, Nat.reduceEqDiff, Nat.reduceBEq, Nat.reduceLT, ↓reduceIte, if_true, if_false, true_and, and_true, reduceCtorEq, true_or, or_true, ne_eq, not_true_eq_false, not_false_eq_true, Bool.not_true, Bool.not_false, bq1, bq0, chk, tt29, tt2, tt3, tt4, tt25, tt24, tt22, tt9, tt44, gB, gS]
  refine ⟨_, _, hgd, (by simp [vles, vle, cle, fle, gI, gB, gS, gR, gH, gHs, encR, encH]), ?_⟩; rw [later_eq]
  cases g
  · simp only [exB_nil, exB_cons, gd2_t, gd2_f, RunB_eq, SkipB_eq, gdV, eff2, cellEq, kdC, kd, gOf, calleeOf, effd, ev, cv, putS, upd_same, upd_miss, St.of, lkV_hit, lkV_miss, lkV_end, lkB_hit, lkB_miss, lkB_end, noArr_eq, arrOf_hit, arrOf_miss, arrOf_end, St.ofA, lkA_zero, lkA_succ, vcells, pack, rowsOf, bin, killV, killB, killC, frzV, frzC, frzB, frzP, partsD, fillD, frz, Option.isSome_some, Option.bind_some, Option.map_some, List.getD_cons_zero, List.getD_cons_succ, List.getElem?_toArray, List.getElem?_cons_zero, List.getElem?_cons_succ, List.map_cons, List.map_nil, List.drop_zero, List.drop_succ_cons, List.take_succ_cons, List.take_zero, List.length_cons, List.length_nil, List.length_map, List.append_eq, List.cons_append, List.nil_append, Nat.reduceAdd, Nat.reduceLeDiff, Nat.reduceEqDiff, Nat.reduceBEq, Nat.reduceLT, ↓reduceIte, if_true, if_false, true_and, and_true, reduceCtorEq, true_or, or_true, ne_eq, not_true_eq_false, not_false_eq_true, Bool.not_true, Bool.not_false, bq1, bq0, chk, tt29, tt2, tt3, tt4, tt25, tt24, tt22, tt9, tt44, gB]
    (refine hR _ ?_; try dsimp only [thenD, inBlockD])
    refine dw_cond rfl (fun h => ?_) (fun h => by cases h)
    (refine dw_seq_k fun R hR => ?_; (refine dw_row hT (by decide) ?_; simp only [exB_nil, exB_cons, gd2_t, gd2_f, RunB_eq, SkipB_eq, gdV, eff2, cellEq, kdC, kd, gOf, calleeOf, effd, ev, cv, putS, upd_same, upd_miss, St.of, lkV_hit, lkV_miss, lkV_end, lkB_hit, lkB_miss, lkB_end, noArr_eq, arrOf_hit, arrOf_miss, arrOf_end, St.ofA, lkA_zero, lkA_succ, vcells, pack, rowsOf, bin, killV, killB, killC, frzV, frzC, frzB, frzP, partsD, fillD, frz, Option.isSome_some, Option.bind_some, Option.map_some, List.getD_cons_zero, List.getD_cons_succ, List.getElem?_toArray, List.getElem?_cons_zero, List.getElem?_cons_succ, List.map_cons, List.map_nil, List.drop_zero, List.drop_succ_cons, List.take_succ_cons, List.take_zero, List.length_cons, List.length_nil, List.length_map, List.append_eq, List.cons_append, List.nil_append, Nat.reduceAdd, Nat.reduceLeDiff, Nat.reduceEqDiff, Nat.reduceBEq, Nat.reduceLT, ↓reduceIte, if_true, if_false, true_and, and_true, reduceCtorEq, true_or, or_true, ne_eq, not_true_eq_false, not_false_eq_true, Bool.not_true, Bool.not_false, bq1, bq0, chk, tt29, tt2, tt3, tt4, tt25, tt24, tt22, tt9, tt44]))
    refine ⟨_, _, awake_d, (by simp [vles, vle, cle, fle, gI, gB, gS, gR, gH, gHs, encR, encH]), ?_⟩; rw [later_eq]
    simp only [exB_nil, exB_cons, gd2_t, gd2_f, RunB_eq, SkipB_eq, gdV, eff2, cellEq, kdC, kd, gOf, calleeOf, effd, ev, cv, putS, upd_same, upd_miss, St.of, lkV_hit, lkV_miss, lkV_end, lkB_hit, lkB_miss, lkB_end, noArr_eq, arrOf_hit, arrOf_miss, arrOf_end, St.ofA, lkA_zero, lkA_succ, vcells, pack, rowsOf, bin, killV, killB, killC, frzV, frzC, frzB, frzP, partsD, fillD, frz, Option.isSome_some, Option.bind_some, Option.map_some, List.getD_cons_zero, List.getD_cons_succ, List.getElem?_toArray, List.getElem?_cons_zero, List.getElem?_cons_succ, List.map_cons, List.map_nil, List.drop_zero, List.drop_succ_cons, List.take_succ_cons, List.take_zero, List.length_cons, List.length_nil, List.length_map, List.append_eq, List.cons_append, List.nil_append, Nat.reduceAdd, Nat.reduceLeDiff, Nat.reduceEqDiff, Nat.reduceBEq, Nat.reduceLT, ↓reduceIte, if_true, if_false, true_and, and_true, reduceCtorEq, true_or, or_true, ne_eq, not_true_eq_false, not_false_eq_true, Bool.not_true, Bool.not_false, bq1, bq0, chk, tt29, tt2, tt3, tt4, tt25, tt24, tt22, tt9, tt44, gB]
    (refine hR _ ?_; try dsimp only [thenD, inBlockD])
    refine dw_ret ?_
    simp only [inBlockD, retQ, thenD, Ret, resV, res1, parts, part1, exB_nil, exB_cons, gd2_t, gd2_f, RunB_eq, SkipB_eq, gdV, eff2, cellEq, kdC, kd, gOf, calleeOf, effd, ev, cv, putS, upd_same, upd_miss, St.of, lkV_hit, lkV_miss, lkV_end, lkB_hit, lkB_miss, lkB_end, noArr_eq, arrOf_hit, arrOf_miss, arrOf_end, St.ofA, lkA_zero, lkA_succ, vcells, pack, rowsOf, bin, killV, killB, killC, frzV, frzC, frzB, frzP, partsD, fillD, frz, Option.isSome_some, Option.bind_some, Option.map_some, List.getD_cons_zero, List.getD_cons_succ, List.getElem?_toArray, List.getElem?_cons_zero, List.getElem?_cons_succ, List.map_cons, List.map_nil, List.drop_zero, List.drop_succ_cons, List.take_succ_cons, List.take_zero, List.length_cons, List.length_nil, List.length_map, List.append_eq, List.cons_append, List.nil_append, Nat.reduceAdd, Nat.reduceLeDiff, Nat.reduceEqDiff, Nat.reduceBEq, Nat.reduceLT, ↓reduceIte, if_true, if_false, true_and, and_true, reduceCtorEq, true_or, or_true, ne_eq, not_true_eq_false, not_false_eq_true, Bool.not_true, Bool.not_false, bq1, bq0, chk, tt29, tt2, tt3, tt4, tt25, tt24, tt22, tt9, tt44, vle, ple, cle, fle, true_and, and_true]
    simp [gB, cle, fle]
  have h8 : ls.length ≤ 8 := (fit_peer hf).2
  have hfr := first_eq hf nm
  simp only [] at hfr
  simp only [exB_nil, exB_cons, gd2_t, gd2_f, RunB_eq, SkipB_eq, gdV, eff2, cellEq, kdC, kd, gOf, calleeOf, effd, ev, cv, putS, upd_same, upd_miss, St.of, lkV_hit, lkV_miss, lkV_end, lkB_hit, lkB_miss, lkB_end, noArr_eq, arrOf_hit, arrOf_miss, arrOf_end, St.ofA, lkA_zero, lkA_succ, vcells, pack, rowsOf, bin, killV, killB, killC, frzV, frzC, frzB, frzP, partsD, fillD, frz, Option.isSome_some, Option.bind_some, Option.map_some, List.getD_cons_zero, List.getD_cons_succ, List.getElem?_toArray, List.getElem?_cons_zero, List.getElem?_cons_succ, List.map_cons, List.map_nil, List.drop_zero, List.drop_succ_cons, List.take_succ_cons, List.take_zero, List.length_cons, List.length_nil, List.length_map, List.append_eq, List.cons_append, List.nil_append, Nat.reduceAdd, Nat.reduceLeDiff, Nat.reduceEqDiff, Nat.reduceBEq, Nat.reduceLT, ↓reduceIte, if_true, if_false, true_and, and_true, reduceCtorEq, true_or, or_true, ne_eq, not_true_eq_false, not_false_eq_true, Bool.not_true, Bool.not_false, bq1, bq0, chk, tt29, tt2, tt3, tt4, tt25, tt24, tt22, tt9, tt44, gB, gS]
  refine ⟨_, _, refReg_d ⟨p, bo, li, ls, pe, mi⟩ nm (by simp only []; omega), (by simp [vles, vle, cle, fle, gI, gB, gS, gR, gH, gHs, encR, encH]), ?_⟩; rw [later_eq]
  rw [hfr]
  have main : Mg ls nm → ∀ S', Weak S' (St.of [(0, gI id), (2, gS nm), (3, .c (.f (.l 3 (l.map encR)))), (5, .loc 5 0), (8, gB false)] [(5, 24, (encH ⟨p, bo, li, ls, pe, mi⟩).map .f)]) → R1 S' := fun hm S' hw => by
    refine hR1 _ (dw_weak hw ?_)
    clear hw
    simp only [gI, gS, gB, encH, List.map_cons, List.map_nil]
    (refine dw_seq_k fun R hR => ?_; (refine dw_row hT (by decide) ?_; simp only [exB_nil, exB_cons, gd2_t, gd2_f, RunB_eq, SkipB_eq, gdV, eff2, cellEq, kdC, kd, gOf, calleeOf, effd, ev, cv, putS, upd_same, upd_miss, St.of, lkV_hit, lkV_miss, lkV_end, lkB_hit, lkB_miss, lkB_end, noArr_eq, arrOf_hit, arrOf_miss, arrOf_end, St.ofA, lkA_zero, lkA_succ, vcells, pack, rowsOf, bin, killV, killB, killC, frzV, frzC, frzB, frzP, partsD, fillD, frz, Option.isSome_some, Option.bind_some, Option.map_some, List.getD_cons_zero, List.getD_cons_succ, List.getElem?_toArray, List.getElem?_cons_zero, List.getElem?_cons_succ, List.map_cons, List.map_nil, List.drop_zero, List.drop_succ_cons, List.take_succ_cons, List.take_zero, List.length_cons, List.length_nil, List.length_map, List.append_eq, List.cons_append, List.nil_append, Nat.reduceAdd, Nat.reduceLeDiff, Nat.reduceEqDiff, Nat.reduceBEq, Nat.reduceLT, ↓reduceIte, if_true, if_false, true_and, and_true, reduceCtorEq, true_or, or_true, ne_eq, not_true_eq_false, not_false_eq_true, Bool.not_true, Bool.not_false, bq1, bq0, chk, tt29, tt2, tt3, tt4, tt25, tt24, tt22, tt9, tt44]))
    (refine hR _ ?_; try dsimp only [thenD, inBlockD])
    (refine dw_seq_k fun R hR => ?_; (refine dw_row hT (by decide) ?_; simp only [exB_nil, exB_cons, gd2_t, gd2_f, RunB_eq, SkipB_eq, gdV, eff2, cellEq, kdC, kd, gOf, calleeOf, effd, ev, cv, putS, upd_same, upd_miss, St.of, lkV_hit, lkV_miss, lkV_end, lkB_hit, lkB_miss, lkB_end, noArr_eq, arrOf_hit, arrOf_miss, arrOf_end, St.ofA, lkA_zero, lkA_succ, vcells, pack, rowsOf, bin, killV, killB, killC, frzV, frzC, frzB, frzP, partsD, fillD, frz, Option.isSome_some, Option.bind_some, Option.map_some, List.getD_cons_zero, List.getD_cons_succ, List.getElem?_toArray, List.getElem?_cons_zero, List.getElem?_cons_succ, List.map_cons, List.map_nil, List.drop_zero, List.drop_succ_cons, List.take_succ_cons, List.take_zero, List.length_cons, List.length_nil, List.length_map, List.append_eq, List.cons_append, List.nil_append, Nat.reduceAdd, Nat.reduceLeDiff, Nat.reduceEqDiff, Nat.reduceBEq, Nat.reduceLT, ↓reduceIte, if_true, if_false, true_and, and_true, reduceCtorEq, true_or, or_true, ne_eq, not_true_eq_false, not_false_eq_true, Bool.not_true, Bool.not_false, bq1, bq0, chk, tt29, tt2, tt3, tt4, tt25, tt24, tt22, tt9, tt44]))
    refine ⟨_, _, refReg_d ⟨p, bo, li, ls, pe, mi⟩ nm (by simp only []; omega), (by simp [vles, vle, cle, fle, gI, gB, gS, gR, gH, gHs, encR, encH]), ?_⟩; rw [later_eq]
    rw [hfr]
    simp only [exB_nil, exB_cons, gd2_t, gd2_f, RunB_eq, SkipB_eq, gdV, eff2, cellEq, kdC, kd, gOf, calleeOf, effd, ev, cv, putS, upd_same, upd_miss, St.of, lkV_hit, lkV_miss, lkV_end, lkB_hit, lkB_miss, lkB_end, noArr_eq, arrOf_hit, arrOf_miss, arrOf_end, St.ofA, lkA_zero, lkA_succ, vcells, pack, rowsOf, bin, killV, killB, killC, frzV, frzC, frzB, frzP, partsD, fillD, frz, Option.isSome_some, Option.bind_some, Option.map_some, List.getD_cons_zero, List.getD_cons_succ, List.getElem?_toArray, List.getElem?_cons_zero, List.getElem?_cons_succ, List.map_cons, List.map_nil, List.drop_zero, List.drop_succ_cons, List.take_succ_cons, List.take_zero, List.length_cons, List.length_nil, List.length_map, List.append_eq, List.cons_append, List.nil_append, Nat.reduceAdd, Nat.reduceLeDiff, Nat.reduceEqDiff, Nat.reduceBEq, Nat.reduceLT, ↓reduceIte, if_true, if_false, true_and, and_true, reduceCtorEq, true_or, or_true, ne_eq, not_true_eq_false, not_false_eq_true, Bool.not_true, Bool.not_false, bq1, bq0, chk, tt29, tt2, tt3, tt4, tt25, tt24, tt22, tt9, tt44, gR, encR, maxLen]
    refine ⟨⟨by omega, by omega⟩, ?_⟩
    (refine hR _ ?_; try dsimp only [thenD, inBlockD])
    (refine dw_seq_k fun R hR => ?_; (refine dw_row hT (by decide) ?_; simp only [exB_nil, exB_cons, gd2_t, gd2_f, RunB_eq, SkipB_eq, gdV, eff2, cellEq, kdC, kd, gOf, calleeOf, effd, ev, cv, putS, upd_same, upd_miss, St.of, lkV_hit, lkV_miss, lkV_end, lkB_hit, lkB_miss, lkB_end, noArr_eq, arrOf_hit, arrOf_miss, arrOf_end, St.ofA, lkA_zero, lkA_succ, vcells, pack, rowsOf, bin, killV, killB, killC, frzV, frzC, frzB, frzP, partsD, fillD, frz, Option.isSome_some, Option.bind_some, Option.map_some, List.getD_cons_zero, List.getD_cons_succ, List.getElem?_toArray, List.getElem?_cons_zero, List.getElem?_cons_succ, List.map_cons, List.map_nil, List.drop_zero, List.drop_succ_cons, List.take_succ_cons, List.take_zero, List.length_cons, List.length_nil, List.length_map, List.append_eq, List.cons_append, List.nil_append, Nat.reduceAdd, Nat.reduceLeDiff, Nat.reduceEqDiff, Nat.reduceBEq, Nat.reduceLT, ↓reduceIte, if_true, if_false, true_and, and_true, reduceCtorEq, true_or, or_true, ne_eq, not_true_eq_false, not_false_eq_true, Bool.not_true, Bool.not_false, bq1, bq0, chk, tt29, tt2, tt3, tt4, tt25, tt24, tt22, tt9, tt44]))
    refine ⟨_, _, refOne_d ⟨p, bo, li, ls, pe, mi⟩ (by simp only []; omega), (by simp [vles, vle, cle, fle, gI, gB, gS, gR, gH, gHs, encR, encH]), ?_⟩; rw [later_eq]
    simp only [exB_nil, exB_cons, gd2_t, gd2_f, RunB_eq, SkipB_eq, gdV, eff2, cellEq, kdC, kd, gOf, calleeOf, effd, ev, cv, putS, upd_same, upd_miss, St.of, lkV_hit, lkV_miss, lkV_end, lkB_hit, lkB_miss, lkB_end, noArr_eq, arrOf_hit, arrOf_miss, arrOf_end, St.ofA, lkA_zero, lkA_succ, vcells, pack, rowsOf, bin, killV, killB, killC, frzV, frzC, frzB, frzP, partsD, fillD, frz, Option.isSome_some, Option.bind_some, Option.map_some, List.getD_cons_zero, List.getD_cons_succ, List.getElem?_toArray, List.getElem?_cons_zero, List.getElem?_cons_succ, List.map_cons, List.map_nil, List.drop_zero, List.drop_succ_cons, List.take_succ_cons, List.take_zero, List.length_cons, List.length_nil, List.length_map, List.append_eq, List.cons_append, List.nil_append, Nat.reduceAdd, Nat.reduceLeDiff, Nat.reduceEqDiff, Nat.reduceBEq, Nat.reduceLT, ↓reduceIte, if_true, if_false, true_and, and_true, reduceCtorEq, true_or, or_true, ne_eq, not_true_eq_false, not_false_eq_true, Bool.not_true, Bool.not_false, bq1, bq0, chk, tt29, tt2, tt3, tt4, tt25, tt24, tt22, tt9, tt44, gH, encH]
    (refine hR _ ?_; try dsimp only [thenD, inBlockD])
    refine dw_seq_k fun R2 hR2 => ?_
    (refine dw_seq_k fun R hR => ?_; (refine dw_row hT (by decide) ?_; simp only [exB_nil, exB_cons, gd2_t, gd2_f, RunB_eq, SkipB_eq, gdV, eff2, cellEq, kdC, kd, gOf, calleeOf, effd, ev, cv, putS, upd_same, upd_miss, St.of, lkV_hit, lkV_miss, lkV_end, lkB_hit, lkB_miss, lkB_end, noArr_eq, arrOf_hit, arrOf_miss, arrOf_end, St.ofA, lkA_zero, lkA_succ, vcells, pack, rowsOf, bin, killV, killB, killC, frzV, frzC, frzB, frzP, partsD, fillD, frz, Option.isSome_some, Option.bind_some, Option.map_some, List.getD_cons_zero, List.getD_cons_succ, List.getElem?_toArray, List.getElem?_cons_zero, List.getElem?_cons_succ, List.map_cons, List.map_nil, List.drop_zero, List.drop_succ_cons, List.take_succ_cons, List.take_zero, List.length_cons, List.length_nil, List.length_map, List.append_eq, List.cons_append, List.nil_append, Nat.reduceAdd, Nat.reduceLeDiff, Nat.reduceEqDiff, Nat.reduceBEq, Nat.reduceLT, ↓reduceIte, if_true, if_false, true_and, and_true, reduceCtorEq, true_or, or_true, ne_eq, not_true_eq_false, not_false_eq_true, Bool.not_true, Bool.not_false, bq1, bq0, chk, tt29, tt2, tt3, tt4, tt25, tt24, tt22, tt9, tt44]))
    (refine hR _ ?_; try dsimp only [thenD, inBlockD])
    refine dw_block ?_
    refine dw_loop (ι := {x : Nat × List Line × List Rg × Nat // x.1 ≤ l.length ∧ Mg x.2.1 nm ∧ x.2.2.1 ≠ [] ∧ x.2.2.1.length ≤ x.1 + 1 ∧ regL x.2.1 nm = mostR x.2.2.1})
      (fun x => St.ofA [(0, .c (.f (.s (.int .i64 id)))), (2, .c (.f (.s (.string nm)))), (3, .c (.f (.l 3 (l.map encR)))), (5, .loc 5 0), (8, .c (.f (.s (.bool false)))), (9, .c (.o 9)), (10, .loc 10 0), (11, .c (.f (.s (.int .i64 x.1.1))))]
        [(5, 24, [.f (.s (.int .i64 p)), .f (.s (.int .i64 bo)), .f (.s (.int .i64 li)), .f (.l 4 (ls.map encL)), .f (.s (.bool pe)), .f (.s (.int .i64 mi))]), (10, 24, [.f (.s (.int .i64 p)), .f (.s (.int .i64 bo)), .f (.s (.int .i64 li)), .f (.l 4 (x.1.2.1.map encL)), .f (.s (.bool pe)), .f (.s (.int .i64 mi))])]
        [(9, x.1.2.2.2, 29, 3, x.1.2.2.1.map encR)])
      (fun x => l.length - x.1.1) ⟨(0, ls, [regL ls nm], 48), Nat.zero_le _, hm, by simp, by simp, rfl⟩ ?_ ?_
    · (refine weak_ofA rfl ?_ ?_ ?_; all_goals simp [wkSA, wkBA, wkAA, wkVA, cleA, killC, vle, cle, fle, St.of, St.ofA, lkV, lkB, arrOf, lkA', lkA_zero, lkA_succ, upd, putS])
      all_goals try simp [encR]
    · rintro ⟨⟨k, ls2, ms, old⟩, hk, hm2, hms, hml, hreg⟩
      simp only [] at hk hm2 hms hml hreg
      simp only []
      refine dw_seq_k fun R4 hR4 => ?_
      (refine dw_seq_k fun R hR => ?_; (refine dw_row hT (by decide) ?_; simp only [exB_nil, exB_cons, gd2_t, gd2_f, RunB_eq, SkipB_eq, gdV, eff2, cellEq, kdC, kd, gOf, calleeOf, effd, ev, cv, putS, upd_same, upd_miss, St.of, lkV_hit, lkV_miss, lkV_end, lkB_hit, lkB_miss, lkB_end, noArr_eq, arrOf_hit, arrOf_miss, arrOf_end, St.ofA, lkA_zero, lkA_succ, vcells, pack, rowsOf, bin, killV, killB, killC, frzV, frzC, frzB, frzP, partsD, fillD, frz, Option.isSome_some, Option.bind_some, Option.map_some, List.getD_cons_zero, List.getD_cons_succ, List.getElem?_toArray, List.getElem?_cons_zero, List.getElem?_cons_succ, List.map_cons, List.map_nil, List.drop_zero, List.drop_succ_cons, List.take_succ_cons, List.take_zero, List.length_cons, List.length_nil, List.length_map, List.append_eq, List.cons_append, List.nil_append, Nat.reduceAdd, Nat.reduceLeDiff, Nat.reduceEqDiff, Nat.reduceBEq, Nat.reduceLT, ↓reduceIte, if_true, if_false, true_and, and_true, reduceCtorEq, true_or, or_true, ne_eq, not_true_eq_false, not_false_eq_true, Bool.not_true, Bool.not_false, bq1, bq0, chk, tt29, tt2, tt3, tt4, tt25, tt24, tt22, tt9, tt44]))
      (refine hR _ ?_; try dsimp only [thenD, inBlockD])
      refine dw_cond rfl (fun h => ?_) (fun h => ?_)
      · have hlt : k < l.length := by simpa using h
        have hrow := row_at (f := encR) hlt
        obtain ⟨r, hr⟩ : ∃ x, l[k] = x := ⟨_, rfl⟩
        rw [hr] at hrow
        simp only [encR] at hrow
        refine dw_skip ?_
        simp only [thenD]
        refine hR4 _ ?_
        refine dw_seq_k fun R5 hR5 => ?_
        refine dw_block ?_
        refine dw_seq_k fun R6 hR6 => ?_
        (refine dw_seq_k fun R hR => ?_; (refine dw_rowd [] hT rfl (by decide) (by decide +kernel) rfl ?_; simp only [rnOf, List.mem_cons, List.not_mem_nil, or_false, forall_eq, false_implies, implies_true, exB_nil, exB_cons, gd2_t, gd2_f, RunB_eq, SkipB_eq, gdV, eff2, cellEq, kdC, kd, gOf, calleeOf, effd, ev, cv, putS, upd_same, upd_miss, St.of, lkV_hit, lkV_miss, lkV_end, lkB_hit, lkB_miss, lkB_end, noArr_eq, arrOf_hit, arrOf_miss, arrOf_end, St.ofA, lkA_zero, lkA_succ, vcells, pack, rowsOf, bin, killV, killB, killC, frzV, frzC, frzB, frzP, partsD, fillD, frz, Option.isSome_some, Option.bind_some, Option.map_some, List.getD_cons_zero, List.getD_cons_succ, List.getElem?_toArray, List.getElem?_cons_zero, List.getElem?_cons_succ, List.map_cons, List.map_nil, List.drop_zero, List.drop_succ_cons, List.take_succ_cons, List.take_zero, List.length_cons, List.length_nil, List.length_map, List.append_eq, List.cons_append, List.nil_append, Nat.reduceAdd, Nat.reduceLeDiff, Nat.reduceEqDiff, Nat.reduceBEq, Nat.reduceLT, ↓reduceIte, if_true, if_false, true_and, and_true, reduceCtorEq, true_or, or_true, ne_eq, not_true_eq_false, not_false_eq_true, Bool.not_true, Bool.not_false, bq1, bq0, chk, tt29, tt2, tt3, tt4, tt25, tt24, tt22, tt9, tt44, Int.toNat_natCast, hrow]))
        refine ⟨by omega, ?_⟩
        refine ⟨_, _, refFit9_d r id p, (by simp [vles, vle, cle, fle, gI, gB, gS, gR, gH, gHs, encR, encH]), ?_⟩; rw [later_eq]
        obtain ⟨ft, hft⟩ : ∃ b, fitR r id p = b := ⟨_, rfl⟩
        obtain ⟨ls', c, hM, hm', hc, hreg', hag⟩ := merge_step hm2 id p r
        obtain ⟨was, hwas⟩ : ∃ x, regL ls2 nm = x := ⟨_, rfl⟩
        rw [hwas] at hreg' hc hreg
        rw [hft] at hc
        have next : ∀ (ms2 : List Rg) (old2 : Nat), ms2 ≠ [] → ms2.length ≤ k + 2 → regL ls' nm = mostR ms2 → ∀ S', Weak S' (St.ofA [(0, .c (.f (.s (.int .i64 id)))), (2, .c (.f (.s (.string nm)))), (3, .c (.f (.l 3 (l.map encR)))), (5, .loc 5 0), (8, .c (.f (.s (.bool false)))), (9, .c (.o 9)), (10, .loc 10 0), (11, .c (.f (.s (.int .i64 k))))]
            [(5, 24, [.f (.s (.int .i64 p)), .f (.s (.int .i64 bo)), .f (.s (.int .i64 li)), .f (.l 4 (ls.map encL)), .f (.s (.bool pe)), .f (.s (.int .i64 mi))]), (10, 24, [.f (.s (.int .i64 p)), .f (.s (.int .i64 bo)), .f (.s (.int .i64 li)), .f (.l 4 (ls2.map encL)), .f (.s (.bool pe)), .f (.s (.int .i64 mi))])]
            [(9, old2, 29, 3, ms2.map encR)]) → R6 S' := fun ms2 old2 hne2 hml2 hmr S' hw => by
          refine hR6 _ (dw_weak hw ?_)
          clear hw
          (refine dw_seq_k fun R hR => ?_; (refine dw_row hT (by decide) ?_; simp only [exB_nil, exB_cons, gd2_t, gd2_f, RunB_eq, SkipB_eq, gdV, eff2, cellEq, kdC, kd, gOf, calleeOf, effd, ev, cv, putS, upd_same, upd_miss, St.of, lkV_hit, lkV_miss, lkV_end, lkB_hit, lkB_miss, lkB_end, noArr_eq, arrOf_hit, arrOf_miss, arrOf_end, St.ofA, lkA_zero, lkA_succ, vcells, pack, rowsOf, bin, killV, killB, killC, frzV, frzC, frzB, frzP, partsD, fillD, frz, Option.isSome_some, Option.bind_some, Option.map_some, List.getD_cons_zero, List.getD_cons_succ, List.getElem?_toArray, List.getElem?_cons_zero, List.getElem?_cons_succ, List.map_cons, List.map_nil, List.drop_zero, List.drop_succ_cons, List.take_succ_cons, List.take_zero, List.length_cons, List.length_nil, List.length_map, List.append_eq, List.cons_append, List.nil_append, Nat.reduceAdd, Nat.reduceLeDiff, Nat.reduceEqDiff, Nat.reduceBEq, Nat.reduceLT, ↓reduceIte, if_true, if_false, true_and, and_true, reduceCtorEq, true_or, or_true, ne_eq, not_true_eq_false, not_false_eq_true, Bool.not_true, Bool.not_false, bq1, bq0, chk, tt29, tt2, tt3, tt4, tt25, tt24, tt22, tt9, tt44]))
          refine ⟨_, _, halfReg_d ⟨p, bo, li, ls2, pe, mi⟩ nm (by have := hm2.len; simp only []; omega), (by simp [vles, vle, cle, fle, gI, gB, gS, gR, gH, gHs, encR, encH]), ?_⟩; rw [later_eq]
          rw [hwas]
          simp only [exB_nil, exB_cons, gd2_t, gd2_f, RunB_eq, SkipB_eq, gdV, eff2, cellEq, kdC, kd, gOf, calleeOf, effd, ev, cv, putS, upd_same, upd_miss, St.of, lkV_hit, lkV_miss, lkV_end, lkB_hit, lkB_miss, lkB_end, noArr_eq, arrOf_hit, arrOf_miss, arrOf_end, St.ofA, lkA_zero, lkA_succ, vcells, pack, rowsOf, bin, killV, killB, killC, frzV, frzC, frzB, frzP, partsD, fillD, frz, Option.isSome_some, Option.bind_some, Option.map_some, List.getD_cons_zero, List.getD_cons_succ, List.getElem?_toArray, List.getElem?_cons_zero, List.getElem?_cons_succ, List.map_cons, List.map_nil, List.drop_zero, List.drop_succ_cons, List.take_succ_cons, List.take_zero, List.length_cons, List.length_nil, List.length_map, List.append_eq, List.cons_append, List.nil_append, Nat.reduceAdd, Nat.reduceLeDiff, Nat.reduceEqDiff, Nat.reduceBEq, Nat.reduceLT, ↓reduceIte, if_true, if_false, true_and, and_true, reduceCtorEq, true_or, or_true, ne_eq, not_true_eq_false, not_false_eq_true, Bool.not_true, Bool.not_false, bq1, bq0, chk, tt29, tt2, tt3, tt4, tt25, tt24, tt22, tt9, tt44, gR, encR]
          (refine hR _ ?_; try dsimp only [thenD, inBlockD])
          (refine dw_seq_k fun R hR => ?_; (refine dw_rowd [13] hT rfl (by decide) (by decide +kernel) rfl ?_; simp only [rnOf, List.mem_cons, List.not_mem_nil, or_false, forall_eq, false_implies, implies_true, exB_nil, exB_cons, gd2_t, gd2_f, RunB_eq, SkipB_eq, gdV, eff2, cellEq, kdC, kd, gOf, calleeOf, effd, ev, cv, putS, upd_same, upd_miss, St.of, lkV_hit, lkV_miss, lkV_end, lkB_hit, lkB_miss, lkB_end, noArr_eq, arrOf_hit, arrOf_miss, arrOf_end, St.ofA, lkA_zero, lkA_succ, vcells, pack, rowsOf, bin, killV, killB, killC, frzV, frzC, frzB, frzP, partsD, fillD, frz, Option.isSome_some, Option.bind_some, Option.map_some, List.getD_cons_zero, List.getD_cons_succ, List.getElem?_toArray, List.getElem?_cons_zero, List.getElem?_cons_succ, List.map_cons, List.map_nil, List.drop_zero, List.drop_succ_cons, List.take_succ_cons, List.take_zero, List.length_cons, List.length_nil, List.length_map, List.append_eq, List.cons_append, List.nil_append, Nat.reduceAdd, Nat.reduceLeDiff, Nat.reduceEqDiff, Nat.reduceBEq, Nat.reduceLT, ↓reduceIte, if_true, if_false, true_and, and_true, reduceCtorEq, true_or, or_true, ne_eq, not_true_eq_false, not_false_eq_true, Bool.not_true, Bool.not_false, bq1, bq0, chk, tt29, tt2, tt3, tt4, tt25, tt24, tt22, tt9, tt44, Int.toNat_natCast, hrow]))
          refine ⟨by omega, ?_⟩
          have hmd := merge_d id ⟨p, bo, li, ls2, pe, mi⟩ nm r (by have := hm2.len; simp only []; omega)
          simp only [hM] at hmd
          refine ⟨_, _, hmd, (by simp [vles, vle, cle, fle, gI, gB, gS, gR, gH, gHs, encR, encH]), ?_⟩; rw [later_eq]
          simp only [rnOf, List.mem_cons, List.not_mem_nil, or_false, forall_eq, false_implies, implies_true, exB_nil, exB_cons, gd2_t, gd2_f, RunB_eq, SkipB_eq, gdV, eff2, cellEq, kdC, kd, gOf, calleeOf, effd, ev, cv, putS, upd_same, upd_miss, St.of, lkV_hit, lkV_miss, lkV_end, lkB_hit, lkB_miss, lkB_end, noArr_eq, arrOf_hit, arrOf_miss, arrOf_end, St.ofA, lkA_zero, lkA_succ, vcells, pack, rowsOf, bin, killV, killB, killC, frzV, frzC, frzB, frzP, partsD, fillD, frz, Option.isSome_some, Option.bind_some, Option.map_some, List.getD_cons_zero, List.getD_cons_succ, List.getElem?_toArray, List.getElem?_cons_zero, List.getElem?_cons_succ, List.map_cons, List.map_nil, List.drop_zero, List.drop_succ_cons, List.take_succ_cons, List.take_zero, List.length_cons, List.length_nil, List.length_map, List.append_eq, List.cons_append, List.nil_append, Nat.reduceAdd, Nat.reduceLeDiff, Nat.reduceEqDiff, Nat.reduceBEq, Nat.reduceLT, ↓reduceIte, if_true, if_false, true_and, and_true, reduceCtorEq, true_or, or_true, ne_eq, not_true_eq_false, not_false_eq_true, Bool.not_true, Bool.not_false, bq1, bq0, chk, tt29, tt2, tt3, tt4, tt25, tt24, tt22, tt9, tt44, encH]
          (refine hR _ ?_; try dsimp only [thenD, inBlockD])
          (refine dw_seq_k fun R hR => ?_; (refine dw_row hT (by decide) ?_; simp only [exB_nil, exB_cons, gd2_t, gd2_f, RunB_eq, SkipB_eq, gdV, eff2, cellEq, kdC, kd, gOf, calleeOf, effd, ev, cv, putS, upd_same, upd_miss, St.of, lkV_hit, lkV_miss, lkV_end, lkB_hit, lkB_miss, lkB_end, noArr_eq, arrOf_hit, arrOf_miss, arrOf_end, St.ofA, lkA_zero, lkA_succ, vcells, pack, rowsOf, bin, killV, killB, killC, frzV, frzC, frzB, frzP, partsD, fillD, frz, Option.isSome_some, Option.bind_some, Option.map_some, List.getD_cons_zero, List.getD_cons_succ, List.getElem?_toArray, List.getElem?_cons_zero, List.getElem?_cons_succ, List.map_cons, List.map_nil, List.drop_zero, List.drop_succ_cons, List.take_succ_cons, List.take_zero, List.length_cons, List.length_nil, List.length_map, List.append_eq, List.cons_append, List.nil_append, Nat.reduceAdd, Nat.reduceLeDiff, Nat.reduceEqDiff, Nat.reduceBEq, Nat.reduceLT, ↓reduceIte, if_true, if_false, true_and, and_true, reduceCtorEq, true_or, or_true, ne_eq, not_true_eq_false, not_false_eq_true, Bool.not_true, Bool.not_false, bq1, bq0, chk, tt29, tt2, tt3, tt4, tt25, tt24, tt22, tt9, tt44]))
          refine ⟨_, _, halfReg_d ⟨p, bo, li, ls', pe, mi⟩ nm (by have := hm'.len; simp only []; omega), (by simp [vles, vle, cle, fle, gI, gB, gS, gR, gH, gHs, encR, encH]), ?_⟩; rw [later_eq]
          obtain ⟨now, hnow⟩ : ∃ x, regL ls' nm = x := ⟨_, rfl⟩
          rw [hnow]
          rw [hnow] at hreg'
          simp only [exB_nil, exB_cons, gd2_t, gd2_f, RunB_eq, SkipB_eq, gdV, eff2, cellEq, kdC, kd, gOf, calleeOf, effd, ev, cv, putS, upd_same, upd_miss, St.of, lkV_hit, lkV_miss, lkV_end, lkB_hit, lkB_miss, lkB_end, noArr_eq, arrOf_hit, arrOf_miss, arrOf_end, St.ofA, lkA_zero, lkA_succ, vcells, pack, rowsOf, bin, killV, killB, killC, frzV, frzC, frzB, frzP, partsD, fillD, frz, Option.isSome_some, Option.bind_some, Option.map_some, List.getD_cons_zero, List.getD_cons_succ, List.getElem?_toArray, List.getElem?_cons_zero, List.getElem?_cons_succ, List.map_cons, List.map_nil, List.drop_zero, List.drop_succ_cons, List.take_succ_cons, List.take_zero, List.length_cons, List.length_nil, List.length_map, List.append_eq, List.cons_append, List.nil_append, Nat.reduceAdd, Nat.reduceLeDiff, Nat.reduceEqDiff, Nat.reduceBEq, Nat.reduceLT, ↓reduceIte, if_true, if_false, true_and, and_true, reduceCtorEq, true_or, or_true, ne_eq, not_true_eq_false, not_false_eq_true, Bool.not_true, Bool.not_false, bq1, bq0, chk, tt29, tt2, tt3, tt4, tt25, tt24, tt22, tt9, tt44, gR, encR]
          (refine hR _ ?_; try dsimp only [thenD, inBlockD])
          refine dw_seq_k fun R7 hR7 => ?_
          have after : ∀ S', Weak S' (St.ofA [(0, .c (.f (.s (.int .i64 id)))), (2, .c (.f (.s (.string nm)))), (3, .c (.f (.l 3 (l.map encR)))), (5, .loc 5 0), (8, .c (.f (.s (.bool false)))), (9, .c (.o 9)), (10, .loc 10 0), (11, .c (.f (.s (.int .i64 k)))), (13, .loc 13 0)]
            [(5, 24, [.f (.s (.int .i64 p)), .f (.s (.int .i64 bo)), .f (.s (.int .i64 li)), .f (.l 4 (ls.map encL)), .f (.s (.bool pe)), .f (.s (.int .i64 mi))]), (10, 24, [.f (.s (.int .i64 p)), .f (.s (.int .i64 bo)), .f (.s (.int .i64 li)), .f (.l 4 (ls2.map encL)), .f (.s (.bool pe)), .f (.s (.int .i64 mi))]), (13, 24, [.f (.s (.int .i64 p)), .f (.s (.int .i64 bo)), .f (.s (.int .i64 li)), .f (.l 4 (ls'.map encL)), .f (.s (.bool pe)), .f (.s (.int .i64 mi))])]
            [(9, 9, 29, 3, ms2.map encR)]) → R7 S' := fun S' hw => by
            refine hR7 _ (dw_weak hw ?_)
            clear hw
            refine dw_seq_k fun R8 hR8 => ?_
            (refine dw_seq_k fun R hR => ?_; (refine dw_rowd [16] hT rfl (by decide) (by decide +kernel) rfl ?_; simp only [rnOf, List.mem_cons, List.not_mem_nil, or_false, forall_eq, false_implies, implies_true, exB_nil, exB_cons, gd2_t, gd2_f, RunB_eq, SkipB_eq, gdV, eff2, cellEq, kdC, kd, gOf, calleeOf, effd, ev, cv, putS, upd_same, upd_miss, St.of, lkV_hit, lkV_miss, lkV_end, lkB_hit, lkB_miss, lkB_end, noArr_eq, arrOf_hit, arrOf_miss, arrOf_end, St.ofA, lkA_zero, lkA_succ, vcells, pack, rowsOf, bin, killV, killB, killC, frzV, frzC, frzB, frzP, partsD, fillD, frz, Option.isSome_some, Option.bind_some, Option.map_some, List.getD_cons_zero, List.getD_cons_succ, List.getElem?_toArray, List.getElem?_cons_zero, List.getElem?_cons_succ, List.map_cons, List.map_nil, List.drop_zero, List.drop_succ_cons, List.take_succ_cons, List.take_zero, List.length_cons, List.length_nil, List.length_map, List.append_eq, List.cons_append, List.nil_append, Nat.reduceAdd, Nat.reduceLeDiff, Nat.reduceEqDiff, Nat.reduceBEq, Nat.reduceLT, ↓reduceIte, if_true, if_false, true_and, and_true, reduceCtorEq, true_or, or_true, ne_eq, not_true_eq_false, not_false_eq_true, Bool.not_true, Bool.not_false, bq1, bq0, chk, tt29, tt2, tt3, tt4, tt25, tt24, tt22, tt9, tt44, Int.toNat_natCast, hrow]))
            refine ⟨by omega, ?_⟩
            have hmd := merge_d id ⟨p, bo, li, ls', pe, mi⟩ nm r (by have := hm'.len; simp only []; omega)
            simp only [hag] at hmd
            refine ⟨_, _, hmd, (by simp [vles, vle, cle, fle, gI, gB, gS, gR, gH, gHs, encR, encH]), ?_⟩; rw [later_eq]
            simp only [rnOf, List.mem_cons, List.not_mem_nil, or_false, forall_eq, false_implies, implies_true, exB_nil, exB_cons, gd2_t, gd2_f, RunB_eq, SkipB_eq, gdV, eff2, cellEq, kdC, kd, gOf, calleeOf, effd, ev, cv, putS, upd_same, upd_miss, St.of, lkV_hit, lkV_miss, lkV_end, lkB_hit, lkB_miss, lkB_end, noArr_eq, arrOf_hit, arrOf_miss, arrOf_end, St.ofA, lkA_zero, lkA_succ, vcells, pack, rowsOf, bin, killV, killB, killC, frzV, frzC, frzB, frzP, partsD, fillD, frz, Option.isSome_some, Option.bind_some, Option.map_some, List.getD_cons_zero, List.getD_cons_succ, List.getElem?_toArray, List.getElem?_cons_zero, List.getElem?_cons_succ, List.map_cons, List.map_nil, List.drop_zero, List.drop_succ_cons, List.take_succ_cons, List.take_zero, List.length_cons, List.length_nil, List.length_map, List.append_eq, List.cons_append, List.nil_append, Nat.reduceAdd, Nat.reduceLeDiff, Nat.reduceEqDiff, Nat.reduceBEq, Nat.reduceLT, ↓reduceIte, if_true, if_false, true_and, and_true, reduceCtorEq, true_or, or_true, ne_eq, not_true_eq_false, not_false_eq_true, Bool.not_true, Bool.not_false, bq1, bq0, chk, tt29, tt2, tt3, tt4, tt25, tt24, tt22, tt9, tt44, encH]
            (refine hR _ ?_; try dsimp only [thenD, inBlockD])
            (refine dw_seq_k fun R hR => ?_; (refine dw_row hT (by decide) ?_; simp only [exB_nil, exB_cons, gd2_t, gd2_f, RunB_eq, SkipB_eq, gdV, eff2, cellEq, kdC, kd, gOf, calleeOf, effd, ev, cv, putS, upd_same, upd_miss, St.of, lkV_hit, lkV_miss, lkV_end, lkB_hit, lkB_miss, lkB_end, noArr_eq, arrOf_hit, arrOf_miss, arrOf_end, St.ofA, lkA_zero, lkA_succ, vcells, pack, rowsOf, bin, killV, killB, killC, frzV, frzC, frzB, frzP, partsD, fillD, frz, Option.isSome_some, Option.bind_some, Option.map_some, List.getD_cons_zero, List.getD_cons_succ, List.getElem?_toArray, List.getElem?_cons_zero, List.getElem?_cons_succ, List.map_cons, List.map_nil, List.drop_zero, List.drop_succ_cons, List.take_succ_cons, List.take_zero, List.length_cons, List.length_nil, List.length_map, List.append_eq, List.cons_append, List.nil_append, Nat.reduceAdd, Nat.reduceLeDiff, Nat.reduceEqDiff, Nat.reduceBEq, Nat.reduceLT, ↓reduceIte, if_true, if_false, true_and, and_true, reduceCtorEq, true_or, or_true, ne_eq, not_true_eq_false, not_false_eq_true, Bool.not_true, Bool.not_false, bq1, bq0, chk, tt29, tt2, tt3, tt4, tt25, tt24, tt22, tt9, tt44]))
            (refine hR _ ?_; try dsimp only [thenD, inBlockD])
            refine dw_cond rfl (fun h2 => by cases h2) (fun h2 => ?_)
            refine dw_skip ?_
            try dsimp only [thenD, inBlockD]
            refine hR8 _ ?_
            (refine dw_norm ?_; refine dw_last_k fun R hR => ?_; (refine dw_row hT (by decide) ?_; simp only [exB_nil, exB_cons, gd2_t, gd2_f, RunB_eq, SkipB_eq, gdV, eff2, cellEq, kdC, kd, gOf, calleeOf, effd, ev, cv, putS, upd_same, upd_miss, St.of, lkV_hit, lkV_miss, lkV_end, lkB_hit, lkB_miss, lkB_end, noArr_eq, arrOf_hit, arrOf_miss, arrOf_end, St.ofA, lkA_zero, lkA_succ, vcells, pack, rowsOf, bin, killV, killB, killC, frzV, frzC, frzB, frzP, partsD, fillD, frz, Option.isSome_some, Option.bind_some, Option.map_some, List.getD_cons_zero, List.getD_cons_succ, List.getElem?_toArray, List.getElem?_cons_zero, List.getElem?_cons_succ, List.map_cons, List.map_nil, List.drop_zero, List.drop_succ_cons, List.take_succ_cons, List.take_zero, List.length_cons, List.length_nil, List.length_map, List.append_eq, List.cons_append, List.nil_append, Nat.reduceAdd, Nat.reduceLeDiff, Nat.reduceEqDiff, Nat.reduceBEq, Nat.reduceLT, ↓reduceIte, if_true, if_false, true_and, and_true, reduceCtorEq, true_or, or_true, ne_eq, not_true_eq_false, not_false_eq_true, Bool.not_true, Bool.not_false, bq1, bq0, chk, tt29, tt2, tt3, tt4, tt25, tt24, tt22, tt9, tt44]))
            try dsimp only [thenD, inBlockD]
            refine hR _ ?_
            refine hR5 _ ?_
            (refine dw_norm ?_; refine dw_last_k fun R hR => ?_; (refine dw_row hT (by decide) ?_; simp only [exB_nil, exB_cons, gd2_t, gd2_f, RunB_eq, SkipB_eq, gdV, eff2, cellEq, kdC, kd, gOf, calleeOf, effd, ev, cv, putS, upd_same, upd_miss, St.of, lkV_hit, lkV_miss, lkV_end, lkB_hit, lkB_miss, lkB_end, noArr_eq, arrOf_hit, arrOf_miss, arrOf_end, St.ofA, lkA_zero, lkA_succ, vcells, pack, rowsOf, bin, killV, killB, killC, frzV, frzC, frzB, frzP, partsD, fillD, frz, Option.isSome_some, Option.bind_some, Option.map_some, List.getD_cons_zero, List.getD_cons_succ, List.getElem?_toArray, List.getElem?_cons_zero, List.getElem?_cons_succ, List.map_cons, List.map_nil, List.drop_zero, List.drop_succ_cons, List.take_succ_cons, List.take_zero, List.length_cons, List.length_nil, List.length_map, List.append_eq, List.cons_append, List.nil_append, Nat.reduceAdd, Nat.reduceLeDiff, Nat.reduceEqDiff, Nat.reduceBEq, Nat.reduceLT, ↓reduceIte, if_true, if_false, true_and, and_true, reduceCtorEq, true_or, or_true, ne_eq, not_true_eq_false, not_false_eq_true, Bool.not_true, Bool.not_false, bq1, bq0, chk, tt29, tt2, tt3, tt4, tt25, tt24, tt22, tt9, tt44]))
            (refine hR _ ?_; try dsimp only [thenD, inBlockD])
            have ew := wrap_nat (n := k) (by omega)
            rw [ew]
            refine ⟨⟨(k + 1, ls', ms2, 9), by simp only []; omega, hm', hne2, by simp only []; omega, hmr⟩, by simp only []; omega, ?_⟩
            (refine weak_ofA rfl ?_ ?_ ?_; all_goals simp [wkSA, wkBA, wkAA, wkVA, cleA, killC, vle, cle, fle, St.of, St.ofA, lkV, lkB, arrOf, lkA', lkA_zero, lkA_succ, upd, putS])
          cases c
          · obtain rfl : now = was := by simpa using hreg'
            (refine dw_seq_k fun R hR => ?_; (refine dw_row hT (by decide) ?_; simp only [exB_nil, exB_cons, gd2_t, gd2_f, RunB_eq, SkipB_eq, gdV, eff2, cellEq, kdC, kd, gOf, calleeOf, effd, ev, cv, putS, upd_same, upd_miss, St.of, lkV_hit, lkV_miss, lkV_end, lkB_hit, lkB_miss, lkB_end, noArr_eq, arrOf_hit, arrOf_miss, arrOf_end, St.ofA, lkA_zero, lkA_succ, vcells, pack, rowsOf, bin, killV, killB, killC, frzV, frzC, frzB, frzP, partsD, fillD, frz, Option.isSome_some, Option.bind_some, Option.map_some, List.getD_cons_zero, List.getD_cons_succ, List.getElem?_toArray, List.getElem?_cons_zero, List.getElem?_cons_succ, List.map_cons, List.map_nil, List.drop_zero, List.drop_succ_cons, List.take_succ_cons, List.take_zero, List.length_cons, List.length_nil, List.length_map, List.append_eq, List.cons_append, List.nil_append, Nat.reduceAdd, Nat.reduceLeDiff, Nat.reduceEqDiff, Nat.reduceBEq, Nat.reduceLT, ↓reduceIte, if_true, if_false, true_and, and_true, reduceCtorEq, true_or, or_true, ne_eq, not_true_eq_false, not_false_eq_true, Bool.not_true, Bool.not_false, bq1, bq0, chk, tt29, tt2, tt3, tt4, tt25, tt24, tt22, tt9, tt44]))
            refine ⟨eq_Reg, ?_⟩
            simp only [exB_nil, exB_cons, gd2_t, gd2_f, RunB_eq, SkipB_eq, gdV, eff2, cellEq, kdC, kd, gOf, calleeOf, effd, ev, cv, putS, upd_same, upd_miss, St.of, lkV_hit, lkV_miss, lkV_end, lkB_hit, lkB_miss, lkB_end, noArr_eq, arrOf_hit, arrOf_miss, arrOf_end, St.ofA, lkA_zero, lkA_succ, vcells, pack, rowsOf, bin, killV, killB, killC, frzV, frzC, frzB, frzP, partsD, fillD, frz, Option.isSome_some, Option.bind_some, Option.map_some, List.getD_cons_zero, List.getD_cons_succ, List.getElem?_toArray, List.getElem?_cons_zero, List.getElem?_cons_succ, List.map_cons, List.map_nil, List.drop_zero, List.drop_succ_cons, List.take_succ_cons, List.take_zero, List.length_cons, List.length_nil, List.length_map, List.append_eq, List.cons_append, List.nil_append, Nat.reduceAdd, Nat.reduceLeDiff, Nat.reduceEqDiff, Nat.reduceBEq, Nat.reduceLT, ↓reduceIte, if_true, if_false, true_and, and_true, reduceCtorEq, true_or, or_true, ne_eq, not_true_eq_false, not_false_eq_true, Bool.not_true, Bool.not_false, bq1, bq0, chk, tt29, tt2, tt3, tt4, tt25, tt24, tt22, tt9, tt44, beq_self_eq_true, Bool.and_self]
            (refine hR _ ?_; try dsimp only [thenD, inBlockD])
            refine dw_cond rfl (fun h2 => by cases h2) (fun h2 => ?_)
            refine dw_skip (after _ ?_)
            (refine weak_ofA rfl ?_ ?_ ?_; all_goals simp [wkSA, wkBA, wkAA, wkVA, cleA, killC, vle, cle, fle, St.of, St.ofA, lkV, lkB, arrOf, lkA', lkA_zero, lkA_succ, upd, putS])
          · obtain rfl : now = r := by simpa using hreg'
            have hn : newer now was = true := by rw [eq_comm, Bool.and_eq_true] at hc; exact hc.2
            have hX : (now.ver == was.ver && (now.wt == was.wt && (now.fl == was.fl && true))) = false := by
              rw [Bool.and_true]
              cases hq : rgEq now was with
              | false => exact hq
              | true => exact absurd ((rgEq_iff _ _).1 hq) (newer_ne hn)
            have hnd := refNewer_d now was
            rw [hn] at hnd
            (refine dw_seq_k fun R hR => ?_; (refine dw_row hT (by decide) ?_; simp only [exB_nil, exB_cons, gd2_t, gd2_f, RunB_eq, SkipB_eq, gdV, eff2, cellEq, kdC, kd, gOf, calleeOf, effd, ev, cv, putS, upd_same, upd_miss, St.of, lkV_hit, lkV_miss, lkV_end, lkB_hit, lkB_miss, lkB_end, noArr_eq, arrOf_hit, arrOf_miss, arrOf_end, St.ofA, lkA_zero, lkA_succ, vcells, pack, rowsOf, bin, killV, killB, killC, frzV, frzC, frzB, frzP, partsD, fillD, frz, Option.isSome_some, Option.bind_some, Option.map_some, List.getD_cons_zero, List.getD_cons_succ, List.getElem?_toArray, List.getElem?_cons_zero, List.getElem?_cons_succ, List.map_cons, List.map_nil, List.drop_zero, List.drop_succ_cons, List.take_succ_cons, List.take_zero, List.length_cons, List.length_nil, List.length_map, List.append_eq, List.cons_append, List.nil_append, Nat.reduceAdd, Nat.reduceLeDiff, Nat.reduceEqDiff, Nat.reduceBEq, Nat.reduceLT, ↓reduceIte, if_true, if_false, true_and, and_true, reduceCtorEq, true_or, or_true, ne_eq, not_true_eq_false, not_false_eq_true, Bool.not_true, Bool.not_false, bq1, bq0, chk, tt29, tt2, tt3, tt4, tt25, tt24, tt22, tt9, tt44, hX]))
            refine ⟨eq_Reg, ?_⟩
            refine ⟨_, _, hnd, (by simp [vles, vle, cle, fle, gI, gB, gS, gR, gH, gHs, encR, encH]), ?_⟩; rw [later_eq]
            simp only [exB_nil, exB_cons, gd2_t, gd2_f, RunB_eq, SkipB_eq, gdV, eff2, cellEq, kdC, kd, gOf, calleeOf, effd, ev, cv, putS, upd_same, upd_miss, St.of, lkV_hit, lkV_miss, lkV_end, lkB_hit, lkB_miss, lkB_end, noArr_eq, arrOf_hit, arrOf_miss, arrOf_end, St.ofA, lkA_zero, lkA_succ, vcells, pack, rowsOf, bin, killV, killB, killC, frzV, frzC, frzB, frzP, partsD, fillD, frz, Option.isSome_some, Option.bind_some, Option.map_some, List.getD_cons_zero, List.getD_cons_succ, List.getElem?_toArray, List.getElem?_cons_zero, List.getElem?_cons_succ, List.map_cons, List.map_nil, List.drop_zero, List.drop_succ_cons, List.take_succ_cons, List.take_zero, List.length_cons, List.length_nil, List.length_map, List.append_eq, List.cons_append, List.nil_append, Nat.reduceAdd, Nat.reduceLeDiff, Nat.reduceEqDiff, Nat.reduceBEq, Nat.reduceLT, ↓reduceIte, if_true, if_false, true_and, and_true, reduceCtorEq, true_or, or_true, ne_eq, not_true_eq_false, not_false_eq_true, Bool.not_true, Bool.not_false, bq1, bq0, chk, tt29, tt2, tt3, tt4, tt25, tt24, tt22, tt9, tt44, gB]
            (refine hR _ ?_; try dsimp only [thenD, inBlockD])
            refine dw_cond rfl (fun h2 => by cases h2) (fun h2 => ?_)
            refine dw_skip (after _ ?_)
            (refine weak_ofA rfl ?_ ?_ ?_; all_goals simp [wkSA, wkBA, wkAA, wkVA, cleA, killC, vle, cle, fle, St.of, St.ofA, lkV, lkB, arrOf, lkA', lkA_zero, lkA_succ, upd, putS])
        (refine hR _ ?_; try dsimp only [thenD, inBlockD])
        refine dw_cond rfl (fun h2 => ?_) (fun h2 => ?_)
        · (refine dw_norm ?_; refine dw_last_k fun R hR => ?_; (refine dw_row hT (by decide) ?_; simp only [exB_nil, exB_cons, gd2_t, gd2_f, RunB_eq, SkipB_eq, gdV, eff2, cellEq, kdC, kd, gOf, calleeOf, effd, ev, cv, putS, upd_same, upd_miss, St.of, lkV_hit, lkV_miss, lkV_end, lkB_hit, lkB_miss, lkB_end, noArr_eq, arrOf_hit, arrOf_miss, arrOf_end, St.ofA, lkA_zero, lkA_succ, vcells, pack, rowsOf, bin, killV, killB, killC, frzV, frzC, frzB, frzP, partsD, fillD, frz, Option.isSome_some, Option.bind_some, Option.map_some, List.getD_cons_zero, List.getD_cons_succ, List.getElem?_toArray, List.getElem?_cons_zero, List.getElem?_cons_succ, List.map_cons, List.map_nil, List.drop_zero, List.drop_succ_cons, List.take_succ_cons, List.take_zero, List.length_cons, List.length_nil, List.length_map, List.append_eq, List.cons_append, List.nil_append, Nat.reduceAdd, Nat.reduceLeDiff, Nat.reduceEqDiff, Nat.reduceBEq, Nat.reduceLT, ↓reduceIte, if_true, if_false, true_and, and_true, reduceCtorEq, true_or, or_true, ne_eq, not_true_eq_false, not_false_eq_true, Bool.not_true, Bool.not_false, bq1, bq0, chk, tt29, tt2, tt3, tt4, tt25, tt24, tt22, tt9, tt44, Int.toNat_natCast, hrow, maxLen]))
          refine ⟨by omega, ⟨by omega, by omega⟩, ?_⟩
          (refine hR _ ?_; try dsimp only [thenD, inBlockD])
          refine next (ms ++ [r]) 71 (by simp) (by simp; omega) ?_ _ ?_
          · rw [most_snoc hms, ← hreg, hreg', hc, ← hft, h2, Bool.true_and]
          · (refine weak_ofA rfl ?_ ?_ ?_; all_goals simp [wkSA, wkBA, wkAA, wkVA, cleA, killC, vle, cle, fle, St.of, St.ofA, lkV, lkB, arrOf, lkA', lkA_zero, lkA_succ, upd, putS])
            all_goals try simp [encR]
        · refine dw_skip (next ms 9 hms (by omega) ?_ _ ?_)
          · rw [← hreg, hreg', hc, ← hft, h2, Bool.false_and, if_neg (by decide)]
          · (refine weak_ofA rfl ?_ ?_ ?_; all_goals simp [wkSA, wkBA, wkAA, wkVA, cleA, killC, vle, cle, fle, St.of, St.ofA, lkV, lkB, arrOf, lkA', lkA_zero, lkA_succ, upd, putS])
      · obtain rfl : k = l.length := by have : ¬ k < l.length := by simpa using h
                                        omega
        refine dw_exit ?_
        simp only [thenD, inBlockD, if_true]
        refine hR2 _ ?_
        have hms' : ms.length ≤ 10000000000000 := by omega
        refine dw_weak (weak_frz (a := 9) rfl) ?_
        (refine dw_seq_k fun R hR => ?_; (refine dw_row hT (by decide) ?_; simp only [exB_nil, exB_cons, gd2_t, gd2_f, RunB_eq, SkipB_eq, gdV, eff2, cellEq, kdC, kd, gOf, calleeOf, effd, ev, cv, putS, upd_same, upd_miss, St.of, lkV_hit, lkV_miss, lkV_end, lkB_hit, lkB_miss, lkB_end, noArr_eq, arrOf_hit, arrOf_miss, arrOf_end, St.ofA, lkA_zero, lkA_succ, vcells, pack, rowsOf, bin, killV, killB, killC, frzV, frzC, frzB, frzP, partsD, fillD, frz, Option.isSome_some, Option.bind_some, Option.map_some, List.getD_cons_zero, List.getD_cons_succ, List.getElem?_toArray, List.getElem?_cons_zero, List.getElem?_cons_succ, List.map_cons, List.map_nil, List.drop_zero, List.drop_succ_cons, List.take_succ_cons, List.take_zero, List.length_cons, List.length_nil, List.length_map, List.append_eq, List.cons_append, List.nil_append, Nat.reduceAdd, Nat.reduceLeDiff, Nat.reduceEqDiff, Nat.reduceBEq, Nat.reduceLT, ↓reduceIte, if_true, if_false, true_and, and_true, reduceCtorEq, true_or, or_true, ne_eq, not_true_eq_false, not_false_eq_true, Bool.not_true, Bool.not_false, bq1, bq0, chk, tt29, tt2, tt3, tt4, tt25, tt24, tt22, tt9, tt44]))
        refine ⟨_, _, most_d ms hms', (by simp [vles, vle, cle, fle, gI, gB, gS, gR, gH, gHs, encR, encH]), ?_⟩; rw [later_eq]
        simp only [exB_nil, exB_cons, gd2_t, gd2_f, RunB_eq, SkipB_eq, gdV, eff2, cellEq, kdC, kd, gOf, calleeOf, effd, ev, cv, putS, upd_same, upd_miss, St.of, lkV_hit, lkV_miss, lkV_end, lkB_hit, lkB_miss, lkB_end, noArr_eq, arrOf_hit, arrOf_miss, arrOf_end, St.ofA, lkA_zero, lkA_succ, vcells, pack, rowsOf, bin, killV, killB, killC, frzV, frzC, frzB, frzP, partsD, fillD, frz, Option.isSome_some, Option.bind_some, Option.map_some, List.getD_cons_zero, List.getD_cons_succ, List.getElem?_toArray, List.getElem?_cons_zero, List.getElem?_cons_succ, List.map_cons, List.map_nil, List.drop_zero, List.drop_succ_cons, List.take_succ_cons, List.take_zero, List.length_cons, List.length_nil, List.length_map, List.append_eq, List.cons_append, List.nil_append, Nat.reduceAdd, Nat.reduceLeDiff, Nat.reduceEqDiff, Nat.reduceBEq, Nat.reduceLT, ↓reduceIte, if_true, if_false, true_and, and_true, reduceCtorEq, true_or, or_true, ne_eq, not_true_eq_false, not_false_eq_true, Bool.not_true, Bool.not_false, bq1, bq0, chk, tt29, tt2, tt3, tt4, tt25, tt24, tt22, tt9, tt44, gR, encR]
        (refine hR _ ?_; try dsimp only [thenD, inBlockD])
        (refine dw_seq_k fun R hR => ?_; (refine dw_row hT (by decide) ?_; simp only [exB_nil, exB_cons, gd2_t, gd2_f, RunB_eq, SkipB_eq, gdV, eff2, cellEq, kdC, kd, gOf, calleeOf, effd, ev, cv, putS, upd_same, upd_miss, St.of, lkV_hit, lkV_miss, lkV_end, lkB_hit, lkB_miss, lkB_end, noArr_eq, arrOf_hit, arrOf_miss, arrOf_end, St.ofA, lkA_zero, lkA_succ, vcells, pack, rowsOf, bin, killV, killB, killC, frzV, frzC, frzB, frzP, partsD, fillD, frz, Option.isSome_some, Option.bind_some, Option.map_some, List.getD_cons_zero, List.getD_cons_succ, List.getElem?_toArray, List.getElem?_cons_zero, List.getElem?_cons_succ, List.map_cons, List.map_nil, List.drop_zero, List.drop_succ_cons, List.take_succ_cons, List.take_zero, List.length_cons, List.length_nil, List.length_map, List.append_eq, List.cons_append, List.nil_append, Nat.reduceAdd, Nat.reduceLeDiff, Nat.reduceEqDiff, Nat.reduceBEq, Nat.reduceLT, ↓reduceIte, if_true, if_false, true_and, and_true, reduceCtorEq, true_or, or_true, ne_eq, not_true_eq_false, not_false_eq_true, Bool.not_true, Bool.not_false, bq1, bq0, chk, tt29, tt2, tt3, tt4, tt25, tt24, tt22, tt9, tt44]))
        refine ⟨_, _, halfReg_d ⟨p, bo, li, ls2, pe, mi⟩ nm (by have := hm2.len; simp only []; omega), (by simp [vles, vle, cle, fle, gI, gB, gS, gR, gH, gHs, encR, encH]), ?_⟩; rw [later_eq]
        rw [hreg]
        simp only [exB_nil, exB_cons, gd2_t, gd2_f, RunB_eq, SkipB_eq, gdV, eff2, cellEq, kdC, kd, gOf, calleeOf, effd, ev, cv, putS, upd_same, upd_miss, St.of, lkV_hit, lkV_miss, lkV_end, lkB_hit, lkB_miss, lkB_end, noArr_eq, arrOf_hit, arrOf_miss, arrOf_end, St.ofA, lkA_zero, lkA_succ, vcells, pack, rowsOf, bin, killV, killB, killC, frzV, frzC, frzB, frzP, partsD, fillD, frz, Option.isSome_some, Option.bind_some, Option.map_some, List.getD_cons_zero, List.getD_cons_succ, List.getElem?_toArray, List.getElem?_cons_zero, List.getElem?_cons_succ, List.map_cons, List.map_nil, List.drop_zero, List.drop_succ_cons, List.take_succ_cons, List.take_zero, List.length_cons, List.length_nil, List.length_map, List.append_eq, List.cons_append, List.nil_append, Nat.reduceAdd, Nat.reduceLeDiff, Nat.reduceEqDiff, Nat.reduceBEq, Nat.reduceLT, ↓reduceIte, if_true, if_false, true_and, and_true, reduceCtorEq, true_or, or_true, ne_eq, not_true_eq_false, not_false_eq_true, Bool.not_true, Bool.not_false, bq1, bq0, chk, tt29, tt2, tt3, tt4, tt25, tt24, tt22, tt9, tt44, gR, encR]
        (refine hR _ ?_; try dsimp only [thenD, inBlockD])
        (refine dw_seq_k fun R hR => ?_; (refine dw_row hT (by decide) ?_; simp only [exB_nil, exB_cons, gd2_t, gd2_f, RunB_eq, SkipB_eq, gdV, eff2, cellEq, kdC, kd, gOf, calleeOf, effd, ev, cv, putS, upd_same, upd_miss, St.of, lkV_hit, lkV_miss, lkV_end, lkB_hit, lkB_miss, lkB_end, noArr_eq, arrOf_hit, arrOf_miss, arrOf_end, St.ofA, lkA_zero, lkA_succ, vcells, pack, rowsOf, bin, killV, killB, killC, frzV, frzC, frzB, frzP, partsD, fillD, frz, Option.isSome_some, Option.bind_some, Option.map_some, List.getD_cons_zero, List.getD_cons_succ, List.getElem?_toArray, List.getElem?_cons_zero, List.getElem?_cons_succ, List.map_cons, List.map_nil, List.drop_zero, List.drop_succ_cons, List.take_succ_cons, List.take_zero, List.length_cons, List.length_nil, List.length_map, List.append_eq, List.cons_append, List.nil_append, Nat.reduceAdd, Nat.reduceLeDiff, Nat.reduceEqDiff, Nat.reduceBEq, Nat.reduceLT, ↓reduceIte, if_true, if_false, true_and, and_true, reduceCtorEq, true_or, or_true, ne_eq, not_true_eq_false, not_false_eq_true, Bool.not_true, Bool.not_false, bq1, bq0, chk, tt29, tt2, tt3, tt4, tt25, tt24, tt22, tt9, tt44, beq_self_eq_true]))
        refine ⟨_, _, awake_d, (by simp [vles, vle, cle, fle, gI, gB, gS, gR, gH, gHs, encR, encH]), ?_⟩; rw [later_eq]
        simp only [exB_nil, exB_cons, gd2_t, gd2_f, RunB_eq, SkipB_eq, gdV, eff2, cellEq, kdC, kd, gOf, calleeOf, effd, ev, cv, putS, upd_same, upd_miss, St.of, lkV_hit, lkV_miss, lkV_end, lkB_hit, lkB_miss, lkB_end, noArr_eq, arrOf_hit, arrOf_miss, arrOf_end, St.ofA, lkA_zero, lkA_succ, vcells, pack, rowsOf, bin, killV, killB, killC, frzV, frzC, frzB, frzP, partsD, fillD, frz, Option.isSome_some, Option.bind_some, Option.map_some, List.getD_cons_zero, List.getD_cons_succ, List.getElem?_toArray, List.getElem?_cons_zero, List.getElem?_cons_succ, List.map_cons, List.map_nil, List.drop_zero, List.drop_succ_cons, List.take_succ_cons, List.take_zero, List.length_cons, List.length_nil, List.length_map, List.append_eq, List.cons_append, List.nil_append, Nat.reduceAdd, Nat.reduceLeDiff, Nat.reduceEqDiff, Nat.reduceBEq, Nat.reduceLT, ↓reduceIte, if_true, if_false, true_and, and_true, reduceCtorEq, true_or, or_true, ne_eq, not_true_eq_false, not_false_eq_true, Bool.not_true, Bool.not_false, bq1, bq0, chk, tt29, tt2, tt3, tt4, tt25, tt24, tt22, tt9, tt44, gB]
        (refine hR _ ?_; try dsimp only [thenD, inBlockD])
        refine dw_ret ?_
        simp only [inBlockD, retQ, thenD, Ret, resV, res1, parts, part1, exB_nil, exB_cons, gd2_t, gd2_f, RunB_eq, SkipB_eq, gdV, eff2, cellEq, kdC, kd, gOf, calleeOf, effd, ev, cv, putS, upd_same, upd_miss, St.of, lkV_hit, lkV_miss, lkV_end, lkB_hit, lkB_miss, lkB_end, noArr_eq, arrOf_hit, arrOf_miss, arrOf_end, St.ofA, lkA_zero, lkA_succ, vcells, pack, rowsOf, bin, killV, killB, killC, frzV, frzC, frzB, frzP, partsD, fillD, frz, Option.isSome_some, Option.bind_some, Option.map_some, List.getD_cons_zero, List.getD_cons_succ, List.getElem?_toArray, List.getElem?_cons_zero, List.getElem?_cons_succ, List.map_cons, List.map_nil, List.drop_zero, List.drop_succ_cons, List.take_succ_cons, List.take_zero, List.length_cons, List.length_nil, List.length_map, List.append_eq, List.cons_append, List.nil_append, Nat.reduceAdd, Nat.reduceLeDiff, Nat.reduceEqDiff, Nat.reduceBEq, Nat.reduceLT, ↓reduceIte, if_true, if_false, true_and, and_true, reduceCtorEq, true_or, or_true, ne_eq, not_true_eq_false, not_false_eq_true, Bool.not_true, Bool.not_false, bq1, bq0, chk, tt29, tt2, tt3, tt4, tt25, tt24, tt22, tt9, tt44, vle, ple, cle, fle, true_and, and_true]
  obtain ⟨was, hwas⟩ : ∃ r, regL ls nm = r := ⟨_, rfl⟩
  have hmg : ¬ (rgEq was noRg = true ∧ 8 ≤ ls.length) → Mg ls nm := fun h => fit_mg hf (by rw [hwas]; exact h)
  rw [hwas]
  simp only [exB_nil, exB_cons, gd2_t, gd2_f, RunB_eq, SkipB_eq, gdV, eff2, cellEq, kdC, kd, gOf, calleeOf, effd, ev, cv, putS, upd_same, upd_miss, St.of, lkV_hit, lkV_miss, lkV_end, lkB_hit, lkB_miss, lkB_end, noArr_eq, arrOf_hit, arrOf_miss, arrOf_end, St.ofA, lkA_zero, lkA_succ, vcells, pack, rowsOf, bin, killV, killB, killC, frzV, frzC, frzB, frzP, partsD, fillD, frz, Option.isSome_some, Option.bind_some, Option.map_some, List.getD_cons_zero, List.getD_cons_succ, List.getElem?_toArray, List.getElem?_cons_zero, List.getElem?_cons_succ, List.map_cons, List.map_nil, List.drop_zero, List.drop_succ_cons, List.take_succ_cons, List.take_zero, List.length_cons, List.length_nil, List.length_map, List.append_eq, List.cons_append, List.nil_append, Nat.reduceAdd, Nat.reduceLeDiff, Nat.reduceEqDiff, Nat.reduceBEq, Nat.reduceLT, ↓reduceIte, if_true, if_false, true_and, and_true, reduceCtorEq, true_or, or_true, ne_eq, not_true_eq_false, not_false_eq_true, Bool.not_true, Bool.not_false, bq1, bq0, chk, tt29, tt2, tt3, tt4, tt25, tt24, tt22, tt9, tt44, gR, encR]
  refine ⟨eq_Reg, ?_⟩
  refine gd2_split (fun h => ?_) (fun h => ?_)
  · simp only [exB_nil, exB_cons, gd2_t, gd2_f, RunB_eq, SkipB_eq, gdV, eff2, cellEq, kdC, kd, gOf, calleeOf, effd, ev, cv, putS, upd_same, upd_miss, St.of, lkV_hit, lkV_miss, lkV_end, lkB_hit, lkB_miss, lkB_end, noArr_eq, arrOf_hit, arrOf_miss, arrOf_end, St.ofA, lkA_zero, lkA_succ, vcells, pack, rowsOf, bin, killV, killB, killC, frzV, frzC, frzB, frzP, partsD, fillD, frz, Option.isSome_some, Option.bind_some, Option.map_some, List.getD_cons_zero, List.getD_cons_succ, List.getElem?_toArray, List.getElem?_cons_zero, List.getElem?_cons_succ, List.map_cons, List.map_nil, List.drop_zero, List.drop_succ_cons, List.take_succ_cons, List.take_zero, List.length_cons, List.length_nil, List.length_map, List.append_eq, List.cons_append, List.nil_append, Nat.reduceAdd, Nat.reduceLeDiff, Nat.reduceEqDiff, Nat.reduceBEq, Nat.reduceLT, ↓reduceIte, if_true, if_false, true_and, and_true, reduceCtorEq, true_or, or_true, ne_eq, not_true_eq_false, not_false_eq_true, Bool.not_true, Bool.not_false, bq1, bq0, chk, tt29, tt2, tt3, tt4, tt25, tt24, tt22, tt9, tt44, h]
    (refine hR _ ?_; try dsimp only [thenD, inBlockD])
    refine dw_cond rfl (fun h2 => ?_) (fun h2 => ?_)
    · (refine dw_seq_k fun R hR => ?_; (refine dw_row hT (by decide) ?_; simp only [exB_nil, exB_cons, gd2_t, gd2_f, RunB_eq, SkipB_eq, gdV, eff2, cellEq, kdC, kd, gOf, calleeOf, effd, ev, cv, putS, upd_same, upd_miss, St.of, lkV_hit, lkV_miss, lkV_end, lkB_hit, lkB_miss, lkB_end, noArr_eq, arrOf_hit, arrOf_miss, arrOf_end, St.ofA, lkA_zero, lkA_succ, vcells, pack, rowsOf, bin, killV, killB, killC, frzV, frzC, frzB, frzP, partsD, fillD, frz, Option.isSome_some, Option.bind_some, Option.map_some, List.getD_cons_zero, List.getD_cons_succ, List.getElem?_toArray, List.getElem?_cons_zero, List.getElem?_cons_succ, List.map_cons, List.map_nil, List.drop_zero, List.drop_succ_cons, List.take_succ_cons, List.take_zero, List.length_cons, List.length_nil, List.length_map, List.append_eq, List.cons_append, List.nil_append, Nat.reduceAdd, Nat.reduceLeDiff, Nat.reduceEqDiff, Nat.reduceBEq, Nat.reduceLT, ↓reduceIte, if_true, if_false, true_and, and_true, reduceCtorEq, true_or, or_true, ne_eq, not_true_eq_false, not_false_eq_true, Bool.not_true, Bool.not_false, bq1, bq0, chk, tt29, tt2, tt3, tt4, tt25, tt24, tt22, tt9, tt44]))
      refine ⟨_, _, awake_d, (by simp [vles, vle, cle, fle, gI, gB, gS, gR, gH, gHs, encR, encH]), ?_⟩; rw [later_eq]
      simp only [exB_nil, exB_cons, gd2_t, gd2_f, RunB_eq, SkipB_eq, gdV, eff2, cellEq, kdC, kd, gOf, calleeOf, effd, ev, cv, putS, upd_same, upd_miss, St.of, lkV_hit, lkV_miss, lkV_end, lkB_hit, lkB_miss, lkB_end, noArr_eq, arrOf_hit, arrOf_miss, arrOf_end, St.ofA, lkA_zero, lkA_succ, vcells, pack, rowsOf, bin, killV, killB, killC, frzV, frzC, frzB, frzP, partsD, fillD, frz, Option.isSome_some, Option.bind_some, Option.map_some, List.getD_cons_zero, List.getD_cons_succ, List.getElem?_toArray, List.getElem?_cons_zero, List.getElem?_cons_succ, List.map_cons, List.map_nil, List.drop_zero, List.drop_succ_cons, List.take_succ_cons, List.take_zero, List.length_cons, List.length_nil, List.length_map, List.append_eq, List.cons_append, List.nil_append, Nat.reduceAdd, Nat.reduceLeDiff, Nat.reduceEqDiff, Nat.reduceBEq, Nat.reduceLT, ↓reduceIte, if_true, if_false, true_and, and_true, reduceCtorEq, true_or, or_true, ne_eq, not_true_eq_false, not_false_eq_true, Bool.not_true, Bool.not_false, bq1, bq0, chk, tt29, tt2, tt3, tt4, tt25, tt24, tt22, tt9, tt44, gB]
      (refine hR _ ?_; try dsimp only [thenD, inBlockD])
      refine dw_ret ?_
      simp only [inBlockD, retQ, thenD, Ret, resV, res1, parts, part1, exB_nil, exB_cons, gd2_t, gd2_f, RunB_eq, SkipB_eq, gdV, eff2, cellEq, kdC, kd, gOf, calleeOf, effd, ev, cv, putS, upd_same, upd_miss, St.of, lkV_hit, lkV_miss, lkV_end, lkB_hit, lkB_miss, lkB_end, noArr_eq, arrOf_hit, arrOf_miss, arrOf_end, St.ofA, lkA_zero, lkA_succ, vcells, pack, rowsOf, bin, killV, killB, killC, frzV, frzC, frzB, frzP, partsD, fillD, frz, Option.isSome_some, Option.bind_some, Option.map_some, List.getD_cons_zero, List.getD_cons_succ, List.getElem?_toArray, List.getElem?_cons_zero, List.getElem?_cons_succ, List.map_cons, List.map_nil, List.drop_zero, List.drop_succ_cons, List.take_succ_cons, List.take_zero, List.length_cons, List.length_nil, List.length_map, List.append_eq, List.cons_append, List.nil_append, Nat.reduceAdd, Nat.reduceLeDiff, Nat.reduceEqDiff, Nat.reduceBEq, Nat.reduceLT, ↓reduceIte, if_true, if_false, true_and, and_true, reduceCtorEq, true_or, or_true, ne_eq, not_true_eq_false, not_false_eq_true, Bool.not_true, Bool.not_false, bq1, bq0, chk, tt29, tt2, tt3, tt4, tt25, tt24, tt22, tt9, tt44, vle, ple, cle, fle, true_and, and_true]
      simp [gB, cle, fle]
    · refine dw_skip (main (hmg fun h3 => ?_) _ ?_)
      · have : ¬ (8 : Int) ≤ (ls.length : Int) := by simpa using h2
        omega
      · simp only [gI, gS, gB, encH, List.map_cons, List.map_nil]
        (refine weak_of ?_ ?_; all_goals simp [wkS, wkB, wk, vle, cle, fle, St.of, lkV, lkB, lkA_zero, lkA_succ, upd, putS])
  · simp only [exB_nil, exB_cons, gd2_t, gd2_f, RunB_eq, SkipB_eq, gdV, eff2, cellEq, kdC, kd, gOf, calleeOf, effd, ev, cv, putS, upd_same, upd_miss, St.of, lkV_hit, lkV_miss, lkV_end, lkB_hit, lkB_miss, lkB_end, noArr_eq, arrOf_hit, arrOf_miss, arrOf_end, St.ofA, lkA_zero, lkA_succ, vcells, pack, rowsOf, bin, killV, killB, killC, frzV, frzC, frzB, frzP, partsD, fillD, frz, Option.isSome_some, Option.bind_some, Option.map_some, List.getD_cons_zero, List.getD_cons_succ, List.getElem?_toArray, List.getElem?_cons_zero, List.getElem?_cons_succ, List.map_cons, List.map_nil, List.drop_zero, List.drop_succ_cons, List.take_succ_cons, List.take_zero, List.length_cons, List.length_nil, List.length_map, List.append_eq, List.cons_append, List.nil_append, Nat.reduceAdd, Nat.reduceLeDiff, Nat.reduceEqDiff, Nat.reduceBEq, Nat.reduceLT, ↓reduceIte, if_true, if_false, true_and, and_true, reduceCtorEq, true_or, or_true, ne_eq, not_true_eq_false, not_false_eq_true, Bool.not_true, Bool.not_false, bq1, bq0, chk, tt29, tt2, tt3, tt4, tt25, tt24, tt22, tt9, tt44, h]
    (refine hR _ ?_; try dsimp only [thenD, inBlockD])
    refine dw_cond rfl (fun h2 => by cases h2) (fun h2 => ?_)
    refine dw_skip (main (hmg fun h3 => ?_) _ ?_)
    · have h4 := h3.1
      simp only [rgEq, noRg] at h4
      rw [Bool.and_true] at h
      rw [h] at h4
      cases h4
    · simp only [gI, gS, gB, encH, List.map_cons, List.map_nil]
      (refine weak_of ?_ ?_; all_goals simp [wkS, wkB, wk, vle, cle, fle, St.of, lkV, lkB, lkA_zero, lkA_succ, upd, putS])
theorem by_Reg : Try.prog.bytesOf 29 = 24 := by kernel_rfl
def rcells (r : Rg) : List Value := [.int .i64 r.ver, .int .i64 r.wt, .int .i64 r.fl]
theorem rcells_eq (l : List Rg) : (l.map encR).flatten = (flat rcells l).map .s := by
  induction l with
  | nil => rfl
  | cons x l ih => rw [List.map_cons, List.flatten_cons, ih, flat_cons, List.map_append]; rfl
def RegsAt (w : World) (A : Option Addr) (l : List Rg) : Prop := Reads w w.heap.size 3 A l.length (flat rcells l)
section
variable {H : Type} {enc : TypeId × Value → H} {w : World} {fuel : Nat} {cs : List Value} {y : DataW H × List MemPlace}
theorem open_regsw (h : DataW.trod enc Try.prog w 0 (fun _ => true) true fuel 25 cs = some y) (hw : Fits Try.prog 25 y.1) :
    ∃ (A : Option Addr) (c : Nat) (l : List Rg), cs = [.slice A l.length c] ∧ l.length * 24 ≤ 140737488355328 - 4096 ∧ l.length ≤ c ∧ RegsAt w A l := by
  rcases open_slice Try.underlying25 h with ⟨rfl, _⟩ | ⟨a, len, cap, m, n, D, Pl, rfl, hb, hl, hm, hmm, rfl, hx⟩
  · exact ⟨none, 0, [], rfl, by simp, Nat.le_refl _, Reads.none_⟩
  have hmc : m = cap := by simpa using hmm
  obtain ⟨hw1, hw2⟩ := fits_slice Try.underlying25 hw
  obtain ⟨ls, h1, h2, h3⟩ := reads_of (f := rcells) (N := 3) (fun _ => rfl) (by omega) (w := w) (a := a) (n := len) (Good := fun _ => True) (fun k hk => by
    obtain ⟨cs', h1, h2⟩ := hx k (by omega)
    rw [co_Reg] at h1
    obtain ⟨ve, wt, fl, rfl⟩ := open_reg h2
    obtain ⟨_, hlen, hcell⟩ := World.cells?_some h1
    refine ⟨⟨ve, wt, fl⟩, trivial, fun j v hv => ?_⟩
    have hj : j < 3 := by
      rcases Nat.lt_or_ge j 3 with h | h
      · exact h
      · rw [List.getElem?_eq_none (by simpa [rcells] using h)] at hv; cases hv
    have := hcell j hj
    rw [add_of_add] at this
    rw [this]
    exact hv)
  subst h1
  refine ⟨some a, cap, ls, rfl, ?_, hl, h3⟩
  rw [by_Reg] at hw1
  simp only [List.length_map, List.length_range, reachBytes] at hw1
  omega
end
theorem regs_rep {w : World} {I : Nat → Prop} {l : List Rg} {A : Option Addr} {c : Nat} (hc : l.length ≤ c) (h : RegsAt w A l) (hI : ∀ b, b < w.heap.size → I b) : RepF w I (.l 3 (l.map encR)) (.slice A l.length c) := by
  have := slice_make (w := w) (k := 3) (rows := l.map encR) (A := A) (c := c) (I := I) (by simpa using hc) fun h0 => by
    rw [List.length_map] at h0
    obtain ⟨ad, rfl, hb, hcell⟩ := h.2 h0
    refine ⟨ad, fun j => ((flat rcells l)[j]?).getD undef, rfl, hI _ hb, fun r hr => by obtain ⟨x, _, rfl⟩ := List.mem_map.1 hr; rfl, fun j x hj => ?_, fun j x hj => ?_⟩
    · rw [rcells_eq, List.getElem?_map] at hj
      cases hq : (flat rcells l)[j]? with
      | none => rw [hq] at hj; cases hj
      | some u => simp only [hq]; exact hcell j u hq
    · rw [rcells_eq, List.getElem?_map] at hj
      cases hq : (flat rcells l)[j]? with
      | none => rw [hq] at hj; cases hj
      | some u =>
        rw [hq] at hj; cases hj
        simp only [hq]
        refine .s (flat_one _ (fun x u hu => ?_) l u (List.mem_of_getElem? hq))
        simp only [rcells, List.mem_cons, List.not_mem_nil, or_false] at hu
        rcases hu with rfl | rfl | rfl <;> rfl
  rwa [List.length_map] at this
theorem walk (w : World) (id : Int) (V : HV) (nm : ByteArray) (l : List Rg) (A : Option Addr) (c : Nat) (hV : ShortW V) (hVA : V.At w w.heap.size) (hnm : nm.size ≤ maxLen) (hl : l.length * 24 ≤ 140737488355328 - 4096) (hc : l.length ≤ c) (hA : RegsAt w A l) :
    Calls Try.prog 3 #[.int .i64 id, V.val, .string nm, .slice A l.length c] w fun e w' => e = .returned (.bool true) ∧ Below w.heap.size w w' := by
  have hVb : ∀ ad, V.A = some ad → 0 < V.h.lines.length → ad.block < w.heap.size := fun ad ha h0 => by
    obtain ⟨ad', e, hb, _⟩ := hVA.2.2 h0
    rw [ha] at e; cases e
    exact hb
  refine ((grows_d id V.h nm l hl (by have := hV.2; unfold maxLen; omega) hV.1.2 hnm ?_).2 w _ (fun b => b < w.heap.size) (fun _ h => h) rfl (fun j v u hv hu => ?_)).mono ?_
  · cases hf : fitH id V.h with
    | false => exact .inr rfl
    | true => exact .inl (by have := (fit_peer hf).2; omega)
  · match j with
    | 0 => cases hv; cases hu; exact .c (.f (.s rfl))
    | 1 => cases hv; cases hu; exact half_rep hVA.1 hVA.2 hVb
    | 2 => cases hv; cases hu; exact .c (.f (.s rfl))
    | 3 => cases hv; cases hu; exact .c (.f (regs_rep hc hA fun _ h => h))
    | j + 4 => simp at hv
  · rintro e w' ⟨u, I', rfl, hr, hb, _⟩
    obtain rfl := rep_s hr
    exact ⟨rfl, hb⟩

theorem own : ownKnob Try.prog.godebug = none := by kernel_rfl
theorem laidOut : laidOutB Try.prog = true := by kernel_rfl

set_option maxRecDepth 100000 in
theorem lifted (os : Os) (started : os.Started) (H : Type) (enc : TypeId × Value → H) :
    ReturnsInHanded {} Try.checked os 3 .any (Rows.halfGrowsSpec.pre6 enc Try.prog Try.f3 Rows.halfGrowsRow.domain false) (Rows.halfGrowsSpec.post enc Try.prog Try.f3 false true false false) := by
  refine lift_law (C := Try.checked) own started (by kernel_rfl) Try.func3
    (ChangeSpec.witness6 (enc := enc) (C := Try.checked) false ⟨#[], #[.int .i64 0, .agg #[.int .i64 0, .int .i64 0, .int .i64 0, .slice none 0 0, .bool false, .int .i64 0], .string ⟨#[]⟩, .slice none 0 0], []⟩ 8 (by kernel_rfl) (by kernel_rfl) (by kernel_rfl) (by kernel_rfl))
    laidOut (by kernel_rfl) rfl Try.underlying4 rfl (fun ds h => by match ds, h with | [d0, d1, d2, d3], _ => rfl) ?_
  intro W base args ds p hval0 hA0 hsz
  have hval : ∀ (j : Nat) t v, Try.f3.params[j]? = some t → args[j]? = some v → Value.okWide Try.prog W .any base t v := hval0
  have hA : DataW.TrodAll enc Try.prog W 0 (fun _ => true) true Try.f3.params.toList args.toList ds p := hA0
  rw [Try.params3] at hA hval
  clear hA0 hval0
  obtain ⟨v0, vs0, d0, ds0, p0, q0, hargs, rfl, rfl, h0, r0⟩ := trodAll_cons hA
  obtain ⟨v1, vs1, d1, ds1, p1, q1, rfl, rfl, rfl, h1, r1⟩ := trodAll_cons r0
  obtain ⟨v2, vs2, d2, ds2, p2, q2, rfl, rfl, rfl, h2, r2⟩ := trodAll_cons r1
  obtain ⟨v3, vs3, d3, ds3, p3, q3, rfl, rfl, rfl, h3, r3⟩ := trodAll_cons r2
  obtain ⟨rfl, rfl, rfl⟩ := trodAll_nil r3
  obtain rfl := args_of_toList hargs
  obtain ⟨x0, rfl, _, _, _wf0⟩ := open_int Try.underlying3 (hval 0 3 v0 rfl rfl) h0
  have hz1 := weights_at hsz (j := 1) (t := 24) (by kernel_rfl) rfl
  obtain ⟨_vs1, rfl, _⟩ := okWide_struct Try.underlying24 (hval 1 24 v1 rfl rfl)
  obtain ⟨_fuel1, hf1⟩ := h1
  obtain ⟨V1, hv1, hI1, hcs1⟩ := open_halfw hf1 hz1
  simp only [Value.cells] at hcs1
  obtain rfl := args_of_toList hcs1
  obtain ⟨S2, rfl⟩ := okWide_string Try.underlying9 (hval 2 9 v2 rfl rfl)
  obtain ⟨_fuel2, hf2⟩ := h2
  obtain ⟨_n2, rs2, -, hm2⟩ := DataW.trod_string Try.underlying9 hf2
  simp only [Value.cells, List.cons.injEq, Value.string.injEq, and_true] at rs2
  subst rs2
  have hz3 := weights_at hsz (j := 3) (t := 25) (by kernel_rfl) rfl
  obtain ⟨_a3, _l3, _c3, rfl⟩ := okWide_slice Try.underlying25 (hval 3 25 v3 rfl rfl)
  obtain ⟨_fuel3, hf3⟩ := h3
  obtain ⟨A3, c3, ls3_, hcs3, hm3, hc3, hI3⟩ := open_regsw hf3 hz3
  simp only [Value.cells, List.cons.injEq, Value.slice.injEq, and_true] at hcs3
  obtain ⟨rfl, rfl, rfl⟩ := hcs3
  exact walk W x0 V1 S2 ls3_ _ _ hv1 hI1 hm2 hm3 hc3 hI3

theorem proved : Rows.HalfGrowsSaid :=
  OpenClaim.holds_of_wide 3 Try.f3 rfl rfl rfl rfl rfl rfl rfl ⟨rfl, rfl, rfl, rfl, rfl⟩ rfl rfl rfl rfl rfl (by kernel_rfl) Try.func3 (by kernel_rfl)
    (of_decide_eq_true (by kernel_rfl)) (by unfold Func.isWrapper; first | (rw [if_pos (by decide +kernel)]; kernel_rfl) | (rw [if_neg (by decide +kernel)]; exact ⟨rfl, rfl⟩))
    (fun os started H enc _ => lifted os started H enc)
#print axioms proved

end lawgrows
end Go.Proofs.Ytogkcokgcoookaa
