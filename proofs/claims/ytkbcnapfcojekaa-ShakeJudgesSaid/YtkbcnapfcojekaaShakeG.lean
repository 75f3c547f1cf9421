/-
  Layer 14 (shake): the document's Fit.
-/
import Derived.Test.YtkbcnapfcojekaaShakeF
namespace Go.Proofs.Ytkbcnapfcojekaa
open Go.ChangeShapes Go.WideShapes Go.ChangeAt Go.RowKit Go.Shelf Go.Ed

set_option maxRecDepth 100000 in
set_option maxHeartbeats 20000000 in
theorem refFit_any (w : World) (B : Nat) (id : Int) (A : Option Addr) (len cap : Nat) (ls : List Seen) (hlen : (len : Int) ≤ 9223372036854775807) (hI : SeenAt w B A len ls) (hBw : B ≤ w.heap.size) :
    Calls Try.prog 28 #[.int .i64 id, .slice A len cap] w fun e w' => e = .returned (.bool (fitL id ls)) ∧ Below w.heap.size w w' := by
  have hll := hI.len
  go_enter Try.func28, Try.ntmps28
  go_wp2
  go_loopw [5] (fun i wr => ∃ k : Nat, k ≤ len ∧ i = .int .i64 k ∧ (∀ j, j < k → okAt id ls j) ∧ Below w.heap.size w wr)
    (fun i _ => len - (intOf i).toNat)
  case atStart => exact ⟨0, Nat.zero_le _, rfl, fun j h => by omega, Below.refl _ _⟩
  case round =>
    obtain ⟨k, hk, rfl, hok, hb⟩ := hrel
    by_cases hlt : k < len
    · have hlt' : (k : Int) < (len : Int) := by omega
      have hs := hb.size
      obtain ⟨b, off, rfl, hbn, hcells⟩ := (hI.below (hb.mono hBw)).form (by omega)
      obtain ⟨c0, c1, c2, c3⟩ := hcells k (by omega)
      obtain ⟨⟨q, bo, li, mi⟩, hsd⟩ : ∃ s, s = ls[k]'(by omega) := ⟨_, rfl⟩
      rw [← hsd] at c0 c1 c2 c3
      dsimp only at c0 c1 c2 c3
      have hget : ls.getD k noSeen = ⟨q, bo, li, mi⟩ := by rw [hsd]; simp [List.getD, List.getElem?_eq_getElem (show k < ls.length by omega)]
      clear hsd
      have Hok := Lib.hid hok
      have Hget := Lib.hid hget
      have Hcells := Lib.hid hcells
      clear hok hget hcells
      have hbw : b < wr.heap.size := by omega
      have p0 : 0 < k → wr.cell? ⟨b, off + (k - 1) * 4, none⟩ = some (.int .i64 (ls.getD (k - 1) noSeen).peer) := fun h => by
        rw [getD_lt' (show k - 1 < ls.length by omega)]
        exact (Hcells.out (k - 1) (by omega)).1
      obtain ⟨pv, hpv⟩ : ∃ pv, pv = (ls.getD (k - 1) noSeen).peer := ⟨_, rfl⟩
      rw [← hpv] at p0
      have Hpv := Lib.hid hpv
      clear hpv Hcells
      go_wp2
      obtain ⟨W1, hW1⟩ : ∃ W1, W1 = wr.alloc (.cells #[.int .i64 q, .int .i64 bo, .int .i64 li, .int .i64 mi] 60) := ⟨_, rfl⟩
      rw [← hW1]
      have d0 : W1.cell? ⟨wr.heap.size, 0, none⟩ = some (.int .i64 q) := by rw [hW1]; exact (Blk.new _ _ _).cell 0
      have d1 : W1.cell? ⟨wr.heap.size, 1, none⟩ = some (.int .i64 bo) := by rw [hW1]; exact (Blk.new _ _ _).cell 1
      have d2 : W1.cell? ⟨wr.heap.size, 2, none⟩ = some (.int .i64 li) := by rw [hW1]; exact (Blk.new _ _ _).cell 2
      have d3 : W1.cell? ⟨wr.heap.size, 3, none⟩ = some (.int .i64 mi) := by rw [hW1]; exact (Blk.new _ _ _).cell 3
      have hb1 : Below w.heap.size w W1 := by rw [hW1]; exact hb.alloc hs _
      have p1 : 0 < k → W1.cell? ⟨b, off + (k - 1) * 4, none⟩ = some (.int .i64 pv) := fun h => by rw [hW1]; exact cell_alloc (p0 h) hbw _
      clear hW1 p0 c0 c1 c2 c3
      have hb2 := fun n => below_drewN hb1 n
      have Hb2 := Lib.hid hb2
      clear hb2 hb1
      simp only [List.append_eq, List.cons_append, List.nil_append]
      refine wp_region_quiet_lit (by kernel_rfl) (by kernel_rfl) ?_
      by_cases n0 : isNode q = false
      · clear p1
        have hnd : RowKit.Hid (∀ W, Calls Try.prog 62 #[.int .i64 q] W fun e w' => e = .returned (.bool false) ∧ w' = W) := Lib.hid fun W => by have h := refNode_any W q; rw [n0] at h; exact h
        repeat (go_big_quiet_step ((go_at_call 62; refine Calls.quiet_of_same (hnd.out _))))
        refine wpQuiet_nil ?_
        intro _ hw'
        obtain ⟨nq, hw''⟩ := hw'
        subst hw''
        go_wp2
        go_ret
        refine ⟨?_, Hb2.out _⟩
        rw [fitL_bad (k := k) (by omega) (fun h => by
          obtain ⟨y0, y1, y2, y3, y4, y5, y6, y7, y8, y9, y10⟩ := h
          rw [Hget.out] at y0 y1 y2 y3 y4 y5 y6 y7 y8 y9 y10
          rw [← Hpv.out] at y3
          dsimp only at y0 y1 y2 y3 y4 y5 y6 y7 y8 y9 y10
          rw [show isNode q = true by unfold isNode; simp; omega] at n0; cases n0)]
        rfl
      have n1 : isNode q = true := by simpa using n0
      clear n0
      have hnd : RowKit.Hid (∀ W, Calls Try.prog 62 #[.int .i64 q] W fun e w' => e = .returned (.bool true) ∧ w' = W) := Lib.hid fun W => by have h := refNode_any W q; rw [n1] at h; exact h
      have Hn : RowKit.Hid (0 ≤ q ∧ q < 16) := Lib.hid (by unfold isNode at n1; simpa using n1)
      by_cases h3 : q = id
      · have b3 : (q == id) = true := by simpa using h3
        have H3 := Lib.hid h3
        clear h3
        repeat (go_big_quiet_step ((go_at_call 62; refine Calls.quiet_of_same (hnd.out _))))
        refine wpQuiet_nil ?_
        intro _ hw'
        obtain ⟨nq, hw''⟩ := hw'
        subst hw''
        go_wp2
        go_ret
        refine ⟨?_, Hb2.out _⟩
        rw [fitL_bad (k := k) (by omega) (fun h => by
          obtain ⟨y0, y1, y2, y3, y4, y5, y6, y7, y8, y9, y10⟩ := h
          rw [Hget.out] at y0 y1 y2 y3 y4 y5 y6 y7 y8 y9 y10
          rw [← Hpv.out] at y3
          dsimp only at y0 y1 y2 y3 y4 y5 y6 y7 y8 y9 y10
          exact y2 H3.out)]
        rfl
      have b3 : (q == id) = false := by simpa using h3
      have Hid3 := Lib.hid h3
      clear h3
      by_cases h4 : 0 < k
      · have b4 : decide ((0 : Int) < (k : Int)) = true := decide_eq_true (by omega)
        have hp := p1 h4
        have hw : IntKind.i64.wrap ((k : Int) - 1) = ((k - 1 : Nat) : Int) := by rw [IntKind.wrap_i64]; omega
        have hi1 : (0 : Int) ≤ ((k - 1 : Nat) : Int) := by omega
        have hi2 : ((k - 1 : Nat) : Int) < (len : Int) := by omega
        clear p1
        by_cases h5 : q ≤ pv
        · have b5 : decide (q ≤ pv) = true := decide_eq_true h5
          repeat (go_big_quiet_step ((go_at_call 62; refine Calls.quiet_of_same (hnd.out _))))
          refine wpQuiet_nil ?_
          intro _ hw'
          obtain ⟨nq, hw''⟩ := hw'
          subst hw''
          go_wp2
          go_ret
          refine ⟨?_, Hb2.out _⟩
          rw [fitL_bad (k := k) (by omega) (fun h => by
            obtain ⟨y0, y1, y2, y3, y4, y5, y6, y7, y8, y9, y10⟩ := h
            rw [Hget.out] at y0 y1 y2 y3 y4 y5 y6 y7 y8 y9 y10
            rw [← Hpv.out] at y3
            dsimp only at y0 y1 y2 y3 y4 y5 y6 y7 y8 y9 y10
            omega)]
          rfl
        have b5 : decide (q ≤ pv) = false := decide_eq_false h5
        by_cases e1 : bo < 0
        · have e1b : decide (bo < 0) = true := decide_eq_true e1
          repeat (go_big_quiet_step ((go_at_call 62; refine Calls.quiet_of_same (hnd.out _))))
          refine wpQuiet_nil ?_
          intro _ hw'
          obtain ⟨nq, hw''⟩ := hw'
          subst hw''
          go_wp2
          go_ret
          refine ⟨?_, Hb2.out _⟩
          rw [fitL_bad (k := k) (by omega) (fun h => by
            obtain ⟨y0, y1, y2, y3, y4, y5, y6, y7, y8, y9, y10⟩ := h
            rw [Hget.out] at y0 y1 y2 y3 y4 y5 y6 y7 y8 y9 y10
            rw [← Hpv.out] at y3
            dsimp only at y0 y1 y2 y3 y4 y5 y6 y7 y8 y9 y10
            omega)]
          rfl
        have e1b : decide (bo < 0) = false := decide_eq_false e1
        by_cases e2 : 1099511627776 < bo
        · have e2b : decide (1099511627776 < bo) = true := decide_eq_true e2
          repeat (go_big_quiet_step ((go_at_call 62; refine Calls.quiet_of_same (hnd.out _))))
          refine wpQuiet_nil ?_
          intro _ hw'
          obtain ⟨nq, hw''⟩ := hw'
          subst hw''
          go_wp2
          go_ret
          refine ⟨?_, Hb2.out _⟩
          rw [fitL_bad (k := k) (by omega) (fun h => by
            obtain ⟨y0, y1, y2, y3, y4, y5, y6, y7, y8, y9, y10⟩ := h
            rw [Hget.out] at y0 y1 y2 y3 y4 y5 y6 y7 y8 y9 y10
            rw [← Hpv.out] at y3
            dsimp only at y0 y1 y2 y3 y4 y5 y6 y7 y8 y9 y10
            omega)]
          rfl
        have e2b : decide (1099511627776 < bo) = false := decide_eq_false e2
        by_cases e3 : li < 0
        · have e3b : decide (li < 0) = true := decide_eq_true e3
          repeat (go_big_quiet_step ((go_at_call 62; refine Calls.quiet_of_same (hnd.out _))))
          refine wpQuiet_nil ?_
          intro _ hw'
          obtain ⟨nq, hw''⟩ := hw'
          subst hw''
          go_wp2
          go_ret
          refine ⟨?_, Hb2.out _⟩
          rw [fitL_bad (k := k) (by omega) (fun h => by
            obtain ⟨y0, y1, y2, y3, y4, y5, y6, y7, y8, y9, y10⟩ := h
            rw [Hget.out] at y0 y1 y2 y3 y4 y5 y6 y7 y8 y9 y10
            rw [← Hpv.out] at y3
            dsimp only at y0 y1 y2 y3 y4 y5 y6 y7 y8 y9 y10
            omega)]
          rfl
        have e3b : decide (li < 0) = false := decide_eq_false e3
        by_cases e4 : 1099511627776 < li
        · have e4b : decide (1099511627776 < li) = true := decide_eq_true e4
          repeat (go_big_quiet_step ((go_at_call 62; refine Calls.quiet_of_same (hnd.out _))))
          refine wpQuiet_nil ?_
          intro _ hw'
          obtain ⟨nq, hw''⟩ := hw'
          subst hw''
          go_wp2
          go_ret
          refine ⟨?_, Hb2.out _⟩
          rw [fitL_bad (k := k) (by omega) (fun h => by
            obtain ⟨y0, y1, y2, y3, y4, y5, y6, y7, y8, y9, y10⟩ := h
            rw [Hget.out] at y0 y1 y2 y3 y4 y5 y6 y7 y8 y9 y10
            rw [← Hpv.out] at y3
            dsimp only at y0 y1 y2 y3 y4 y5 y6 y7 y8 y9 y10
            omega)]
          rfl
        have e4b : decide (1099511627776 < li) = false := decide_eq_false e4
        by_cases e5 : mi < 0
        · have e5b : decide (mi < 0) = true := decide_eq_true e5
          repeat (go_big_quiet_step ((go_at_call 62; refine Calls.quiet_of_same (hnd.out _))))
          refine wpQuiet_nil ?_
          intro _ hw'
          obtain ⟨nq, hw''⟩ := hw'
          subst hw''
          go_wp2
          go_ret
          refine ⟨?_, Hb2.out _⟩
          rw [fitL_bad (k := k) (by omega) (fun h => by
            obtain ⟨y0, y1, y2, y3, y4, y5, y6, y7, y8, y9, y10⟩ := h
            rw [Hget.out] at y0 y1 y2 y3 y4 y5 y6 y7 y8 y9 y10
            rw [← Hpv.out] at y3
            dsimp only at y0 y1 y2 y3 y4 y5 y6 y7 y8 y9 y10
            omega)]
          rfl
        have e5b : decide (mi < 0) = false := decide_eq_false e5
        by_cases e6 : 1099511627776 < mi
        · have e6b : decide (1099511627776 < mi) = true := decide_eq_true e6
          repeat (go_big_quiet_step ((go_at_call 62; refine Calls.quiet_of_same (hnd.out _))))
          refine wpQuiet_nil ?_
          intro _ hw'
          obtain ⟨nq, hw''⟩ := hw'
          subst hw''
          go_wp2
          go_ret
          refine ⟨?_, Hb2.out _⟩
          rw [fitL_bad (k := k) (by omega) (fun h => by
            obtain ⟨y0, y1, y2, y3, y4, y5, y6, y7, y8, y9, y10⟩ := h
            rw [Hget.out] at y0 y1 y2 y3 y4 y5 y6 y7 y8 y9 y10
            rw [← Hpv.out] at y3
            dsimp only at y0 y1 y2 y3 y4 y5 y6 y7 y8 y9 y10
            omega)]
          rfl
        have e6b : decide (1099511627776 < mi) = false := decide_eq_false e6
        by_cases e7 : bo = 0
        · have e7b : (bo == 0) = true := by simpa using e7
          by_cases e8 : li = 0
          · have e8b : (li != 0) = false := by simpa using e8
            by_cases e9 : mi = 0
            · have e9b : (mi == 0) = true := by simpa using e9
              repeat (go_big_quiet_step ((go_at_call 62; refine Calls.quiet_of_same (hnd.out _))))
              refine wpQuiet_nil ?_
              intro _ hw'
              obtain ⟨nq, hw''⟩ := hw'
              subst hw''
              go_wp2
              go_ret
              refine ⟨?_, Hb2.out _⟩
              rw [fitL_bad (k := k) (by omega) (fun h => by
                obtain ⟨y0, y1, y2, y3, y4, y5, y6, y7, y8, y9, y10⟩ := h
                rw [Hget.out] at y0 y1 y2 y3 y4 y5 y6 y7 y8 y9 y10
                rw [← Hpv.out] at y3
                dsimp only at y0 y1 y2 y3 y4 y5 y6 y7 y8 y9 y10
                omega)]
              rfl
            · have e9b : (mi == 0) = false := by simpa using e9
              repeat (go_big_quiet_step ((go_at_call 62; refine Calls.quiet_of_same (hnd.out _))))
              refine wpQuiet_nil ?_
              intro _ hw'
              obtain ⟨nq, hw''⟩ := hw'
              subst hw''
              go_wp2
              go_roundw
              case rel => exact ⟨k + 1, by omega, by go_num, fun j hj => by
                rcases Nat.lt_or_ge j k with hjk | hjk
                · exact Hok.out j hjk
                · obtain rfl : j = k := by omega
                  have hn' := Hn.out
                  refine ⟨?_, ?_, ?_, ?_, ?_, ?_, ?_, ?_, ?_, ?_, ?_⟩ <;> rw [Hget.out] <;> first | (dsimp only; omega) | exact Hid3.out | (rw [← Hpv.out]; dsimp only; omega), Hb2.out _⟩
              case measure => simp [intOf]; omega
          · have e8b : (li != 0) = true := by simpa using e8
            repeat (go_big_quiet_step ((go_at_call 62; refine Calls.quiet_of_same (hnd.out _))))
            refine wpQuiet_nil ?_
            intro _ hw'
            obtain ⟨nq, hw''⟩ := hw'
            subst hw''
            go_wp2
            go_ret
            refine ⟨?_, Hb2.out _⟩
            rw [fitL_bad (k := k) (by omega) (fun h => by
              obtain ⟨y0, y1, y2, y3, y4, y5, y6, y7, y8, y9, y10⟩ := h
              rw [Hget.out] at y0 y1 y2 y3 y4 y5 y6 y7 y8 y9 y10
              rw [← Hpv.out] at y3
              dsimp only at y0 y1 y2 y3 y4 y5 y6 y7 y8 y9 y10
              omega)]
            rfl
        · have e7b : (bo == 0) = false := by simpa using e7
          repeat (go_big_quiet_step ((go_at_call 62; refine Calls.quiet_of_same (hnd.out _))))
          refine wpQuiet_nil ?_
          intro _ hw'
          obtain ⟨nq, hw''⟩ := hw'
          subst hw''
          go_wp2
          go_roundw
          case rel => exact ⟨k + 1, by omega, by go_num, fun j hj => by
            rcases Nat.lt_or_ge j k with hjk | hjk
            · exact Hok.out j hjk
            · obtain rfl : j = k := by omega
              have hn' := Hn.out
              refine ⟨?_, ?_, ?_, ?_, ?_, ?_, ?_, ?_, ?_, ?_, ?_⟩ <;> rw [Hget.out] <;> first | (dsimp only; omega) | exact Hid3.out | (rw [← Hpv.out]; dsimp only; omega), Hb2.out _⟩
          case measure => simp [intOf]; omega
      · have b4 : decide ((0 : Int) < (k : Int)) = false := decide_eq_false (by omega)
        clear p1
        by_cases e1 : bo < 0
        · have e1b : decide (bo < 0) = true := decide_eq_true e1
          repeat (go_big_quiet_step ((go_at_call 62; refine Calls.quiet_of_same (hnd.out _))))
          refine wpQuiet_nil ?_
          intro _ hw'
          obtain ⟨nq, hw''⟩ := hw'
          subst hw''
          go_wp2
          go_ret
          refine ⟨?_, Hb2.out _⟩
          rw [fitL_bad (k := k) (by omega) (fun h => by
            obtain ⟨y0, y1, y2, y3, y4, y5, y6, y7, y8, y9, y10⟩ := h
            rw [Hget.out] at y0 y1 y2 y3 y4 y5 y6 y7 y8 y9 y10
            rw [← Hpv.out] at y3
            dsimp only at y0 y1 y2 y3 y4 y5 y6 y7 y8 y9 y10
            omega)]
          rfl
        have e1b : decide (bo < 0) = false := decide_eq_false e1
        by_cases e2 : 1099511627776 < bo
        · have e2b : decide (1099511627776 < bo) = true := decide_eq_true e2
          repeat (go_big_quiet_step ((go_at_call 62; refine Calls.quiet_of_same (hnd.out _))))
          refine wpQuiet_nil ?_
          intro _ hw'
          obtain ⟨nq, hw''⟩ := hw'
          subst hw''
          go_wp2
          go_ret
          refine ⟨?_, Hb2.out _⟩
          rw [fitL_bad (k := k) (by omega) (fun h => by
            obtain ⟨y0, y1, y2, y3, y4, y5, y6, y7, y8, y9, y10⟩ := h
            rw [Hget.out] at y0 y1 y2 y3 y4 y5 y6 y7 y8 y9 y10
            rw [← Hpv.out] at y3
            dsimp only at y0 y1 y2 y3 y4 y5 y6 y7 y8 y9 y10
            omega)]
          rfl
        have e2b : decide (1099511627776 < bo) = false := decide_eq_false e2
        by_cases e3 : li < 0
        · have e3b : decide (li < 0) = true := decide_eq_true e3
          repeat (go_big_quiet_step ((go_at_call 62; refine Calls.quiet_of_same (hnd.out _))))
          refine wpQuiet_nil ?_
          intro _ hw'
          obtain ⟨nq, hw''⟩ := hw'
          subst hw''
          go_wp2
          go_ret
          refine ⟨?_, Hb2.out _⟩
          rw [fitL_bad (k := k) (by omega) (fun h => by
            obtain ⟨y0, y1, y2, y3, y4, y5, y6, y7, y8, y9, y10⟩ := h
            rw [Hget.out] at y0 y1 y2 y3 y4 y5 y6 y7 y8 y9 y10
            rw [← Hpv.out] at y3
            dsimp only at y0 y1 y2 y3 y4 y5 y6 y7 y8 y9 y10
            omega)]
          rfl
        have e3b : decide (li < 0) = false := decide_eq_false e3
        by_cases e4 : 1099511627776 < li
        · have e4b : decide (1099511627776 < li) = true := decide_eq_true e4
          repeat (go_big_quiet_step ((go_at_call 62; refine Calls.quiet_of_same (hnd.out _))))
          refine wpQuiet_nil ?_
          intro _ hw'
          obtain ⟨nq, hw''⟩ := hw'
          subst hw''
          go_wp2
          go_ret
          refine ⟨?_, Hb2.out _⟩
          rw [fitL_bad (k := k) (by omega) (fun h => by
            obtain ⟨y0, y1, y2, y3, y4, y5, y6, y7, y8, y9, y10⟩ := h
            rw [Hget.out] at y0 y1 y2 y3 y4 y5 y6 y7 y8 y9 y10
            rw [← Hpv.out] at y3
            dsimp only at y0 y1 y2 y3 y4 y5 y6 y7 y8 y9 y10
            omega)]
          rfl
        have e4b : decide (1099511627776 < li) = false := decide_eq_false e4
        by_cases e5 : mi < 0
        · have e5b : decide (mi < 0) = true := decide_eq_true e5
          repeat (go_big_quiet_step ((go_at_call 62; refine Calls.quiet_of_same (hnd.out _))))
          refine wpQuiet_nil ?_
          intro _ hw'
          obtain ⟨nq, hw''⟩ := hw'
          subst hw''
          go_wp2
          go_ret
          refine ⟨?_, Hb2.out _⟩
          rw [fitL_bad (k := k) (by omega) (fun h => by
            obtain ⟨y0, y1, y2, y3, y4, y5, y6, y7, y8, y9, y10⟩ := h
            rw [Hget.out] at y0 y1 y2 y3 y4 y5 y6 y7 y8 y9 y10
            rw [← Hpv.out] at y3
            dsimp only at y0 y1 y2 y3 y4 y5 y6 y7 y8 y9 y10
            omega)]
          rfl
        have e5b : decide (mi < 0) = false := decide_eq_false e5
        by_cases e6 : 1099511627776 < mi
        · have e6b : decide (1099511627776 < mi) = true := decide_eq_true e6
          repeat (go_big_quiet_step ((go_at_call 62; refine Calls.quiet_of_same (hnd.out _))))
          refine wpQuiet_nil ?_
          intro _ hw'
          obtain ⟨nq, hw''⟩ := hw'
          subst hw''
          go_wp2
          go_ret
          refine ⟨?_, Hb2.out _⟩
          rw [fitL_bad (k := k) (by omega) (fun h => by
            obtain ⟨y0, y1, y2, y3, y4, y5, y6, y7, y8, y9, y10⟩ := h
            rw [Hget.out] at y0 y1 y2 y3 y4 y5 y6 y7 y8 y9 y10
            rw [← Hpv.out] at y3
            dsimp only at y0 y1 y2 y3 y4 y5 y6 y7 y8 y9 y10
            omega)]
          rfl
        have e6b : decide (1099511627776 < mi) = false := decide_eq_false e6
        by_cases e7 : bo = 0
        · have e7b : (bo == 0) = true := by simpa using e7
          by_cases e8 : li = 0
          · have e8b : (li != 0) = false := by simpa using e8
            by_cases e9 : mi = 0
            · have e9b : (mi == 0) = true := by simpa using e9
              repeat (go_big_quiet_step ((go_at_call 62; refine Calls.quiet_of_same (hnd.out _))))
              refine wpQuiet_nil ?_
              intro _ hw'
              obtain ⟨nq, hw''⟩ := hw'
              subst hw''
              go_wp2
              go_ret
              refine ⟨?_, Hb2.out _⟩
              rw [fitL_bad (k := k) (by omega) (fun h => by
                obtain ⟨y0, y1, y2, y3, y4, y5, y6, y7, y8, y9, y10⟩ := h
                rw [Hget.out] at y0 y1 y2 y3 y4 y5 y6 y7 y8 y9 y10
                rw [← Hpv.out] at y3
                dsimp only at y0 y1 y2 y3 y4 y5 y6 y7 y8 y9 y10
                omega)]
              rfl
            · have e9b : (mi == 0) = false := by simpa using e9
              repeat (go_big_quiet_step ((go_at_call 62; refine Calls.quiet_of_same (hnd.out _))))
              refine wpQuiet_nil ?_
              intro _ hw'
              obtain ⟨nq, hw''⟩ := hw'
              subst hw''
              go_wp2
              go_roundw
              case rel => exact ⟨k + 1, by omega, by go_num, fun j hj => by
                rcases Nat.lt_or_ge j k with hjk | hjk
                · exact Hok.out j hjk
                · obtain rfl : j = k := by omega
                  have hn' := Hn.out
                  refine ⟨?_, ?_, ?_, ?_, ?_, ?_, ?_, ?_, ?_, ?_, ?_⟩ <;> rw [Hget.out] <;> first | (dsimp only; omega) | exact Hid3.out | (rw [← Hpv.out]; dsimp only; omega), Hb2.out _⟩
              case measure => simp [intOf]; omega
          · have e8b : (li != 0) = true := by simpa using e8
            repeat (go_big_quiet_step ((go_at_call 62; refine Calls.quiet_of_same (hnd.out _))))
            refine wpQuiet_nil ?_
            intro _ hw'
            obtain ⟨nq, hw''⟩ := hw'
            subst hw''
            go_wp2
            go_ret
            refine ⟨?_, Hb2.out _⟩
            rw [fitL_bad (k := k) (by omega) (fun h => by
              obtain ⟨y0, y1, y2, y3, y4, y5, y6, y7, y8, y9, y10⟩ := h
              rw [Hget.out] at y0 y1 y2 y3 y4 y5 y6 y7 y8 y9 y10
              rw [← Hpv.out] at y3
              dsimp only at y0 y1 y2 y3 y4 y5 y6 y7 y8 y9 y10
              omega)]
            rfl
        · have e7b : (bo == 0) = false := by simpa using e7
          repeat (go_big_quiet_step ((go_at_call 62; refine Calls.quiet_of_same (hnd.out _))))
          refine wpQuiet_nil ?_
          intro _ hw'
          obtain ⟨nq, hw''⟩ := hw'
          subst hw''
          go_wp2
          go_roundw
          case rel => exact ⟨k + 1, by omega, by go_num, fun j hj => by
            rcases Nat.lt_or_ge j k with hjk | hjk
            · exact Hok.out j hjk
            · obtain rfl : j = k := by omega
              have hn' := Hn.out
              refine ⟨?_, ?_, ?_, ?_, ?_, ?_, ?_, ?_, ?_, ?_, ?_⟩ <;> rw [Hget.out] <;> first | (dsimp only; omega) | exact Hid3.out | (rw [← Hpv.out]; dsimp only; omega), Hb2.out _⟩
          case measure => simp [intOf]; omega
    · obtain rfl : k = len := by omega
      have hfin : fitL id ls = isNode id := fitL_good (fun j hj => hok j (by omega))
      have Hfin := Lib.hid hfin
      clear hfin
      go_wp2_with (go_at_call 62; refine (refNode_any _ _).mono ?_; rintro e w2 ⟨rfl, rfl⟩)
      go_ret
      rw [Hfin.out]
      exact ⟨rfl, hb⟩

end Go.Proofs.Ytkbcnapfcojekaa
