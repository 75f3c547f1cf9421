/-
  Layer 14 (shake): what a fit list is; both Fit functions.
-/
import Derived.Test.YtkbcnapfcojekaaShakeB
import Derived.Deep.QuietTactic
import Derived.BigQuiet
import Derived.Deep.DeepCutAuto
import Derived.Deep.LoopGhost
namespace Go.Proofs.Ytkbcnapfcojekaa
open Go.ChangeShapes Go.WideShapes Go.ChangeAt Go.RowKit Go.Shelf Go.Ed

def noSeen : Seen := ⟨0, 0, 0, 0⟩
/-- place k of what was seen is as it must be -/
def okAt (id : Int) (ls : List Seen) (k : Nat) : Prop :=
  0 ≤ (ls.getD k noSeen).peer ∧ (ls.getD k noSeen).peer < 16 ∧ (ls.getD k noSeen).peer ≠ id ∧ (0 < k → (ls.getD (k - 1) noSeen).peer < (ls.getD k noSeen).peer) ∧
  0 ≤ (ls.getD k noSeen).boot ∧ (ls.getD k noSeen).boot ≤ 1099511627776 ∧ 0 ≤ (ls.getD k noSeen).life ∧ (ls.getD k noSeen).life ≤ 1099511627776 ∧ 0 ≤ (ls.getD k noSeen).mine ∧ (ls.getD k noSeen).mine ≤ 1099511627776 ∧
  ((ls.getD k noSeen).boot = 0 → (ls.getD k noSeen).life = 0 ∧ (ls.getD k noSeen).mine ≠ 0)
instance (id : Int) (ls : List Seen) (k : Nat) : Decidable (okAt id ls k) := by unfold okAt; infer_instance
/-- a list is what a node has seen -/
def fitL (id : Int) (ls : List Seen) : Bool := decide (∀ k, k < ls.length → okAt id ls k) && isNode id
theorem fitL_bad {id : Int} {ls : List Seen} {k : Nat} (hk : k < ls.length) (h : ¬ okAt id ls k) : fitL id ls = false := by
  unfold fitL
  rw [decide_eq_false (fun x => h (x k hk))]
  rfl
theorem fitL_good {id : Int} {ls : List Seen} (h : ∀ k, k < ls.length → okAt id ls k) : fitL id ls = isNode id := by
  unfold fitL
  rw [decide_eq_true h]
  rfl

theorem below_drewN {B : Nat} {w w' : World} (h : Below B w w') (n : Nat) : Below B w (w'.drewN n) := ⟨h.os, h.tape, h.output, h.size, h.block⟩
theorem getD_lt' {ls : List Seen} {j : Nat} (hj : j < ls.length) : ls.getD j noSeen = ls[j] := getD_lt hj

set_option maxRecDepth 100000 in
set_option maxHeartbeats 4000000 in
theorem Fit_any (w : World) (id : Int) (A : Option Addr) (len cap : Nat) (ls : List Seen) (hlen : (len : Int) ≤ 9223372036854775807) (hI : SeenAt w w.heap.size A len ls) :
    Calls Try.prog 45 #[.int .i64 id, .slice A len cap] w fun e w' => e = .returned (.bool (fitL id ls)) ∧ Below w.heap.size w w' := by
  have hll := hI.len
  go_enter Try.func45, Try.ntmps45
  go_wp2
  go_loopw [9] (fun i wr => ∃ k : Nat, k ≤ len ∧ i = .int .i64 k ∧ (∀ j, j < k → okAt id ls j) ∧ Below w.heap.size w wr)
    (fun i _ => len - (intOf i).toNat)
  case atStart => exact ⟨0, Nat.zero_le _, rfl, fun j h => by omega, Below.refl _ _⟩
  case round =>
    obtain ⟨k, hk, rfl, hok, hb⟩ := hrel
    by_cases hlt : k < len
    · have hlt' : (k : Int) < (len : Int) := by omega
      have hs := hb.size
      obtain ⟨b, off, rfl, hbn, hcells⟩ := (hI.below hb).form (by omega)
      obtain ⟨c0, c1, c2, c3⟩ := hcells k (by omega)
      obtain ⟨⟨q, bo, li, mi⟩, hsd⟩ : ∃ s, s = ls[k]'(by omega) := ⟨_, rfl⟩
      rw [← hsd] at c0 c1 c2 c3
      dsimp only at c0 c1 c2 c3
      have hget : ls.getD k noSeen = ⟨q, bo, li, mi⟩ := by rw [hsd]; simp [List.getD, List.getElem?_eq_getElem (show k < ls.length by omega)]
      clear hsd
      have Hok := Lib.hid hok
      have Hget := Lib.hid hget
      have Hcells := Lib.hid hcells
      clear hok hget hcells
      have hbw : b < wr.heap.size := by omega
      have p0 : 0 < k → wr.cell? ⟨b, off + (k - 1) * 4, none⟩ = some (.int .i64 (ls.getD (k - 1) noSeen).peer) := fun h => by
        rw [getD_lt' (show k - 1 < ls.length by omega)]
        exact (Hcells.out (k - 1) (by omega)).1
      obtain ⟨pv, hpv⟩ : ∃ pv, pv = (ls.getD (k - 1) noSeen).peer := ⟨_, rfl⟩
      rw [← hpv] at p0
      have Hpv := Lib.hid hpv
      clear hpv Hcells
      go_wp2
      obtain ⟨W1, hW1⟩ : ∃ W1, W1 = wr.alloc (.cells #[.int .i64 q, .int .i64 bo, .int .i64 li, .int .i64 mi] 60) := ⟨_, rfl⟩
      rw [← hW1]
      have d0 : W1.cell? ⟨wr.heap.size, 0, none⟩ = some (.int .i64 q) := by rw [hW1]; exact (Blk.new _ _ _).cell 0
      have d1 : W1.cell? ⟨wr.heap.size, 1, none⟩ = some (.int .i64 bo) := by rw [hW1]; exact (Blk.new _ _ _).cell 1
      have d2 : W1.cell? ⟨wr.heap.size, 2, none⟩ = some (.int .i64 li) := by rw [hW1]; exact (Blk.new _ _ _).cell 2
      have d3 : W1.cell? ⟨wr.heap.size, 3, none⟩ = some (.int .i64 mi) := by rw [hW1]; exact (Blk.new _ _ _).cell 3
      have hb1 : Below w.heap.size w W1 := by rw [hW1]; exact hb.alloc hs _
      have p1 : 0 < k → W1.cell? ⟨b, off + (k - 1) * 4, none⟩ = some (.int .i64 pv) := fun h => by rw [hW1]; exact cell_alloc (p0 h) hbw _
      clear hW1 p0 c0 c1 c2 c3
      go_cut [42] (fun s wx => s = .bool (decide (q < 0) || (decide (16 ≤ q) || ((q == id) || (decide ((0 : Int) < (k : Int)) && decide (q ≤ pv))))) ∧ ∃ n, wx = W1.drewN n)
      case first =>
        by_cases h1 : q < 0
        · have b1 : decide (q < 0) = true := decide_eq_true h1
          go_quiet (fail)
          go_wp2_with fail
          go_meet
          exact ⟨by simp [h1], _, rfl⟩
        have b1 : decide (q < 0) = false := decide_eq_false h1
        by_cases h2 : 16 ≤ q
        · have b2 : decide (16 ≤ q) = true := decide_eq_true h2
          go_quiet (fail)
          go_wp2_with fail
          go_meet
          exact ⟨by simp [h2], _, rfl⟩
        have b2 : decide (16 ≤ q) = false := decide_eq_false h2
        by_cases h3 : (q == id) = true
        · go_quiet (fail)
          go_wp2_with fail
          go_meet
          exact ⟨by rw [b1, b2, h3]; rfl, _, rfl⟩
        have b3 : (q == id) = false := by simpa using h3
        by_cases h4 : 0 < k
        · have b4 : decide ((0 : Int) < (k : Int)) = true := decide_eq_true (by omega)
          have hp := p1 h4
          have hw : IntKind.i64.wrap ((k : Int) - 1) = ((k - 1 : Nat) : Int) := by rw [IntKind.wrap_i64]; omega
          have hi1 : (0 : Int) ≤ ((k - 1 : Nat) : Int) := by omega
          have hi2 : ((k - 1 : Nat) : Int) < (len : Int) := by omega
          clear p1
          go_quiet (fail)
          go_wp2_with fail
          go_meet
          exact ⟨by rw [b1, b2, b3, b4]; simp, _, rfl⟩
        · have b4 : decide ((0 : Int) < (k : Int)) = false := decide_eq_false (by omega)
          clear p1
          go_quiet (fail)
          go_wp2_with fail
          go_meet
          exact ⟨by rw [b1, b2, b3, b4]; simp, _, rfl⟩
      case rest =>
        obtain ⟨rfl, nq, rfl⟩ := hcut
        have g0 : (W1.drewN nq).cell? ⟨wr.heap.size, 0, none⟩ = some (.int .i64 q) := d0
        have g1 : (W1.drewN nq).cell? ⟨wr.heap.size, 1, none⟩ = some (.int .i64 bo) := d1
        have g2 : (W1.drewN nq).cell? ⟨wr.heap.size, 2, none⟩ = some (.int .i64 li) := d2
        have g3 : (W1.drewN nq).cell? ⟨wr.heap.size, 3, none⟩ = some (.int .i64 mi) := d3
        have hb2 : Below w.heap.size w (W1.drewN nq) := below_drewN hb1 nq
        generalize W1.drewN nq = W2 at g0 g1 g2 g3 hb2 ⊢
        clear d0 d1 d2 d3 p1 hb1
        obtain ⟨X, hX⟩ : ∃ X, X = (decide (q < 0) || (decide (16 ≤ q) || ((q == id) || (decide ((0 : Int) < (k : Int)) && decide (q ≤ pv))))) := ⟨_, rfl⟩
        rw [← hX]
        have HX := Lib.hid hX
        clear hX
        cases X with
        | true =>
          go_wp2
          go_ret
          refine ⟨?_, hb2⟩
          rw [fitL_bad (k := k) (by omega) (fun h => by
            obtain ⟨x1, x2, x3, x4, -⟩ := h
            rw [Hget.out] at x1 x2 x3 x4
            dsimp only at x1 x2 x3 x4
            have hX := HX.out
            rw [← Hpv.out] at x4
            simp only [decide_eq_false (show ¬ q < 0 by omega), decide_eq_false (show ¬ 16 ≤ q by omega), beq_eq_false_iff_ne.2 x3, Bool.false_or] at hX
            have hX2 := Bool.and_eq_true_iff.1 hX.symm
            have y1 := of_decide_eq_true hX2.1
            have y2 := of_decide_eq_true hX2.2
            have y3 := x4 (by omega)
            omega)]
          rfl
        | false =>
          have hX := HX.out
          have x1 : 0 ≤ q ∧ q < 16 ∧ q ≠ id ∧ (0 < k → pv < q) := by
            have hX := hX.symm
            simp only [Bool.or_eq_false_iff, decide_eq_false_iff_not, beq_eq_false_iff_ne, Bool.and_eq_false_imp, decide_eq_true_eq] at hX
            obtain ⟨y1, y2, y3, y4⟩ := hX
            exact ⟨by omega, by omega, y3, fun h => by have := y4 (by omega); omega⟩
          have X1 := Lib.hid x1
          clear hX x1
          by_cases e1 : bo < 0
          · go_wp2
            go_ret
            refine ⟨?_, hb2⟩
            rw [fitL_bad (k := k) (by omega) (fun h => by
              obtain ⟨-, -, -, -, y1, y2, y3, y4, y5, y6, y7⟩ := h
              rw [Hget.out] at y1 y2 y3 y4 y5 y6 y7
              dsimp only at y1 y2 y3 y4 y5 y6 y7
              omega)]
            rfl
          by_cases e2 : 1099511627776 < bo
          · go_wp2
            go_ret
            refine ⟨?_, hb2⟩
            rw [fitL_bad (k := k) (by omega) (fun h => by
              obtain ⟨-, -, -, -, y1, y2, y3, y4, y5, y6, y7⟩ := h
              rw [Hget.out] at y1 y2 y3 y4 y5 y6 y7
              dsimp only at y1 y2 y3 y4 y5 y6 y7
              omega)]
            rfl
          by_cases e3 : li < 0
          · go_wp2
            go_ret
            refine ⟨?_, hb2⟩
            rw [fitL_bad (k := k) (by omega) (fun h => by
              obtain ⟨-, -, -, -, y1, y2, y3, y4, y5, y6, y7⟩ := h
              rw [Hget.out] at y1 y2 y3 y4 y5 y6 y7
              dsimp only at y1 y2 y3 y4 y5 y6 y7
              omega)]
            rfl
          by_cases e4 : 1099511627776 < li
          · go_wp2
            go_ret
            refine ⟨?_, hb2⟩
            rw [fitL_bad (k := k) (by omega) (fun h => by
              obtain ⟨-, -, -, -, y1, y2, y3, y4, y5, y6, y7⟩ := h
              rw [Hget.out] at y1 y2 y3 y4 y5 y6 y7
              dsimp only at y1 y2 y3 y4 y5 y6 y7
              omega)]
            rfl
          by_cases e5 : mi < 0
          · go_wp2
            go_ret
            refine ⟨?_, hb2⟩
            rw [fitL_bad (k := k) (by omega) (fun h => by
              obtain ⟨-, -, -, -, y1, y2, y3, y4, y5, y6, y7⟩ := h
              rw [Hget.out] at y1 y2 y3 y4 y5 y6 y7
              dsimp only at y1 y2 y3 y4 y5 y6 y7
              omega)]
            rfl
          by_cases e6 : 1099511627776 < mi
          · go_wp2
            go_ret
            refine ⟨?_, hb2⟩
            rw [fitL_bad (k := k) (by omega) (fun h => by
              obtain ⟨-, -, -, -, y1, y2, y3, y4, y5, y6, y7⟩ := h
              rw [Hget.out] at y1 y2 y3 y4 y5 y6 y7
              dsimp only at y1 y2 y3 y4 y5 y6 y7
              omega)]
            rfl
          by_cases e7 : bo = 0
          · by_cases e8 : li = 0
            · by_cases e9 : mi = 0
              · go_wp2
                go_ret
                refine ⟨?_, hb2⟩
                rw [fitL_bad (k := k) (by omega) (fun h => by
                  obtain ⟨-, -, -, -, y1, y2, y3, y4, y5, y6, y7⟩ := h
                  rw [Hget.out] at y1 y2 y3 y4 y5 y6 y7
                  dsimp only at y1 y2 y3 y4 y5 y6 y7
                  omega)]
                rfl
              · go_wp2
                go_roundw
                case rel =>
                  exact ⟨k + 1, by omega, by go_num, fun j hj => by
                    rcases Nat.lt_or_ge j k with hjk | hjk
                    · exact Hok.out j hjk
                    · obtain rfl : j = k := by omega
                      refine ⟨?_, ?_, ?_, ?_, ?_, ?_, ?_, ?_, ?_, ?_, ?_⟩ <;> rw [Hget.out] <;> first | exact X1.out.1 | exact X1.out.2.1 | exact X1.out.2.2.1 | (rw [← Hpv.out]; exact X1.out.2.2.2) | (dsimp only; omega), hb2⟩
                case measure => simp [intOf]; omega
            · go_wp2
              go_ret
              refine ⟨?_, hb2⟩
              rw [fitL_bad (k := k) (by omega) (fun h => by
                obtain ⟨-, -, -, -, y1, y2, y3, y4, y5, y6, y7⟩ := h
                rw [Hget.out] at y1 y2 y3 y4 y5 y6 y7
                dsimp only at y1 y2 y3 y4 y5 y6 y7
                omega)]
              rfl
          · go_wp2
            go_roundw
            case rel =>
              exact ⟨k + 1, by omega, by go_num, fun j hj => by
                rcases Nat.lt_or_ge j k with hjk | hjk
                · exact Hok.out j hjk
                · obtain rfl : j = k := by omega
                  refine ⟨?_, ?_, ?_, ?_, ?_, ?_, ?_, ?_, ?_, ?_, ?_⟩ <;> rw [Hget.out] <;> first | exact X1.out.1 | exact X1.out.2.1 | exact X1.out.2.2.1 | (rw [← Hpv.out]; exact X1.out.2.2.2) | (dsimp only; omega), hb2⟩
            case measure => simp [intOf]; omega
    · obtain rfl : k = len := by omega
      have hfin : fitL id ls = isNode id := fitL_good (fun j hj => hok j (by omega))
      have Hfin := Lib.hid hfin
      clear hfin
      by_cases i1 : 0 ≤ id
      · go_wp2
        go_ret
        rw [Hfin.out]
        exact ⟨by simp [isNode, i1], hb⟩
      · go_wp2
        go_ret
        rw [Hfin.out, show isNode id = false by unfold isNode; rw [decide_eq_false (show ¬ 0 ≤ id by omega)]; rfl]
        exact ⟨rfl, hb⟩

end Go.Proofs.Ytkbcnapfcojekaa
