/-
  Layer 14 (shake): the document's put, See, Dropped; Same, copied.
-/
import Derived.Test.YtkbcnapfcojekaaShakeC
import Derived.Deep.QuietTactic
import Derived.BigQuiet
import Derived.Deep.DeepCutAuto
import Derived.Deep.CutBlock
namespace Go.Proofs.Ytkbcnapfcojekaa
open Go.ChangeShapes Go.WideShapes Go.ChangeAt Go.RowKit Go.Shelf Go.Ed

set_option maxRecDepth 100000 in
theorem copied_any (w : World) (A : Option Addr) (n c : Nat) (ls : List Seen) (hn : n ≤ 1000000000000) (hI : SeenAt w w.heap.size A n ls) :
    Calls Try.prog 32 #[.slice A n c] w fun e w' => ∃ v, e = .returned v ∧ w'.ownsRow w.heap.size 60 4 v n (rowCells ls) ∧ Below w.heap.size w w' := by
  have h1 := rowCells_one ls
  have hr0 : Reads w w.heap.size 4 A n (rowCells ls) := hI
  have ho := World.ownsRow_nil w w.heap.size 60 4
  go_enter Try.func32, Try.ntmps32
  go_wp2_with ((with_reducible refine go_append_at (c := c) seen_slice seen_inf ho hr0 h1 ?a0 ?a1 ?a2 ?a3 ?a4 ?a5 ?a6 ?_); (case a0 => exact Nat.le_refl _); (case a1 => rfl); (case a2 => rfl); (case a3 => rfl); (case a4 => omega); (case a5 => unfold maxLen; omega); (case a6 => omega); rintro v w2 h1 h2 - -)
  go_ret
  rw [Nat.zero_add, List.nil_append] at h1
  exact ⟨_, rfl, h1, h2⟩

/-- the list with s in its place, or without any -/
def putS (l : List Seen) (s : Seen) : List Seen :=
  l.take (seek l s.peer) ++ (if s.boot ≠ 0 ∨ s.mine ≠ 0 then [s] else []) ++ l.drop (if has l s.peer then seek l s.peer + 1 else seek l s.peer)

theorem seek_ge {l : List Seen} {p : Int} (h : seek l p < l.length) : p ≤ (l[seek l p]).peer := by
  unfold seek at *
  induction l with
  | nil => simp at h
  | cons x l ih =>
    by_cases hx : x.peer < p
    · have e : (List.takeWhile (fun s : Seen => decide (s.peer < p)) (x :: l)).length = (List.takeWhile (fun s : Seen => decide (s.peer < p)) l).length + 1 := by rw [List.takeWhile_cons, if_pos (by simpa using hx)]; rfl
      simp only [e] at h ⊢
      simpa using ih (by simpa using h)
    · have e : (List.takeWhile (fun s : Seen => decide (s.peer < p)) (x :: l)).length = 0 := by rw [List.takeWhile_cons, if_neg (by simpa using hx)]; rfl
      simp only [e]
      simpa using hx
theorem has_at {l : List Seen} {p : Int} (h : seek l p < l.length) : has l p = (l[seek l p].peer == p) := by
  unfold has; rw [List.getElem?_eq_getElem h]
theorem has_end {l : List Seen} {p : Int} (h : ¬ seek l p < l.length) : has l p = false := by
  unfold has; rw [List.getElem?_eq_none (by omega)]
theorem seek_stop {l : List Seen} {p : Int} {k : Nat} (hk : k ≤ l.length) (h : ∀ j (hj : j < l.length), j < k → l[j].peer < p) (h2 : ∀ (hk : k < l.length), p ≤ l[k].peer) : seek l p = k := seek_eq hk h h2

set_option maxRecDepth 100000 in
set_option maxHeartbeats 4000000 in
theorem refPut_any (w : World) (A : Option Addr) (n c : Nat) (ls : List Seen) (p b l m : Int) (hn : n ≤ 100000000000) (hnc : n ≤ c) (hI : SeenAt w w.heap.size A n ls) :
    Calls Try.prog 69 #[.slice A n c, .agg #[.int .i64 p, .int .i64 b, .int .i64 l, .int .i64 m]] w fun e w' =>
      ∃ v, e = .returned v ∧ w'.ownsRow w.heap.size 60 4 v (putS ls ⟨p, b, l, m⟩).length (rowCells (putS ls ⟨p, b, l, m⟩)) ∧ Below w.heap.size w w' := by
  have hll := hI.len
  obtain ⟨k, hk⟩ : ∃ k, k = seek ls p := ⟨_, rfl⟩
  have hkn : k ≤ n := by rw [hk, ← hll]; exact seek_le ls p
  go_enter Try.func69, Try.ntmps69
  go_upto_block 0 with fail
  obtain ⟨W0, hW0⟩ : ∃ W0, W0 = w.alloc (.cells #[.int .i64 p, .int .i64 b, .int .i64 l, .int .i64 m] 60) := ⟨_, rfl⟩
  rw [← hW0]
  have hB0 : Blk W0 w.heap.size 60 #[.int .i64 p, .int .i64 b, .int .i64 l, .int .i64 m] := by rw [hW0]; exact Blk.new _ _ _
  have hb0 : Below w.heap.size w W0 := by rw [hW0]; exact (Below.refl _ w).alloc (Nat.le_refl _) _
  have hs0 : w.heap.size < W0.heap.size := hB0.lt
  have hI0 : SeenAt W0 w.heap.size A n ls := hI.below hb0
  clear hW0
  go_cut [6] (fun s wx => s = .int .i64 k ∧ ∃ m, wx = W0.drewN m)
  case first =>
    obtain ⟨d0, d1, d2, d3⟩ := cells4 hB0
    go_wp2
    go_loopw [6] (fun i wr => ∃ j : Nat, j ≤ k ∧ i = .int .i64 j ∧ ∃ m, wr = W0.drewN m)
      (fun i _ => n - (intOf i).toNat)
    case atStart => exact ⟨0, Nat.zero_le _, rfl, 0, rfl⟩
    case round =>
      obtain ⟨j, hj, rfl, md, rfl⟩ := hrel
      clear d1 d2 d3
      by_cases hlt : j < n
      · have hlt' : (j : Int) < (n : Int) := by omega
        have bj : decide ((j : Int) < (n : Int)) = true := decide_eq_true hlt'
        have hj0 : (0 : Int) ≤ (j : Int) := by omega
        obtain ⟨bA, off, rfl, hbn, hcells⟩ := hI0.form (by omega)
        obtain ⟨c0, -, -, -⟩ := hcells j (by omega)
        obtain ⟨q, hq⟩ : ∃ q, q = (ls[j]'(by omega)).peer := ⟨_, rfl⟩
        rw [← hq] at c0
        have Hq := Lib.hid hq
        clear hcells hq
        by_cases hp : q < p
        · have bp : decide (q < p) = true := decide_eq_true hp
          go_wp2
          go_quiet (fail)
          go_wp2
          go_roundw
          case rel =>
            have hjk : j ≠ k := by
              intro e
              subst e
              have h1 := seek_ge (l := ls) (p := p) (by rw [← hk]; omega)
              simp only [← hk] at h1
              have h2 := Hq.out
              omega
            exact ⟨j + 1, by omega, by go_num, _, rfl⟩
          case measure => simp [intOf]; omega
        · have bp : decide (q < p) = false := decide_eq_false hp
          go_wp2
          go_quiet (fail)
          go_wp2
          go_meet
          case rel =>
            have hjk : j = k := by
              rcases Nat.lt_or_ge j k with h | h
              · have h1 := seek_lt_of (l := ls) (p := p) (j := j) (by omega) (by rw [← hk]; exact h)
                have h2 := Hq.out
                omega
              · omega
            subst hjk
            exact ⟨rfl, _, World.drewN_drewN _ _ _⟩
      · have bj : decide ((j : Int) < (n : Int)) = false := decide_eq_false (by omega)
        go_wp2
        go_quiet (fail)
        go_wp2
        go_meet
        case rel =>
          obtain rfl : j = k := by omega
          exact ⟨rfl, _, World.drewN_drewN _ _ _⟩
  case rest =>
    obtain ⟨rfl, md, rfl⟩ := hcut
    have Hk := Lib.hid hk
    clear hk
    obtain ⟨W1, hW1⟩ : ∃ W1, W1 = W0.drewN md := ⟨_, rfl⟩
    rw [← hW1]
    have hs1 : W1.heap.size = W0.heap.size := by rw [hW1]; rfl
    have hB1 : Blk W1 w.heap.size 60 #[.int .i64 p, .int .i64 b, .int .i64 l, .int .i64 m] := by rw [hW1]; exact hB0
    have hb1 : Below w.heap.size w W1 := by rw [hW1]; exact ⟨hb0.os, hb0.tape, hb0.output, hb0.size, hb0.block⟩
    have hI1 : SeenAt W1 w.heap.size A n ls := by rw [hW1]; exact hI0
    clear hW1 hI0 hb0 hB0
    obtain ⟨O, hO⟩ : ∃ O : List Seen, O = if b ≠ 0 ∨ m ≠ 0 then [⟨p, b, l, m⟩] else [] := ⟨_, rfl⟩
    have hOl : O.length ≤ 1 := by rw [hO]; split <;> simp
    have hr1 : Reads W1 w.heap.size 4 A k ((rowCells ls).take (k * 4)) := Reads.upto hI1 hkn
    have h1r : ∀ u ∈ (rowCells ls).take (k * 4), u.oneCell' = true := fun u hu => rowCells_one ls u (List.mem_of_mem_take hu)
    have ho0 := World.ownsRow_nil W1 W1.heap.size 60 4
    have hkI : (k : Int) ≤ (n : Int) := by omega
    have hk0 : (0 : Int) ≤ (k : Int) := by omega
    have hkc : (k : Int) ≤ (c : Int) := by omega
    have hns : n ≤ 100000000000 := hn
    go_upto_region 6 with ((with_reducible refine go_append_at (c := c) seen_slice seen_inf ho0 hr1 h1r ?a0 ?a1 ?a2 ?a3 ?a4 ?a5 ?a6 ?_); (case a0 => exact Nat.le_refl _); (case a1 => rfl); (case a2 => rfl); (case a3 => rfl); (case a4 => omega); (case a5 => unfold maxLen; omega); (case a6 => omega); rintro v2 w2 hown2 hb2 - -)
    rw [Nat.zero_add, List.nil_append] at hown2
    have s2 := hb2.size
    have hB2 : Blk w2 w.heap.size 60 #[.int .i64 p, .int .i64 b, .int .i64 l, .int .i64 m] := hB1.below hb2 (by omega)
    obtain ⟨d0, d1, d2, d3⟩ := cells4 hB2
    go_cut [35] (fun s wx => s = .bool (decide (b ≠ 0 ∨ m ≠ 0)) ∧ wx = w2)
    case first =>
      by_cases e1 : b = 0
      · by_cases e2 : m = 0
        · subst e1
          subst e2
          go_wp2
          go_meet
          exact ⟨by simp, rfl⟩
        · go_wp2
          go_meet
          exact ⟨by simp [e1, e2], rfl⟩
      · go_wp2
        go_meet
        exact ⟨by simp [e1], rfl⟩
    case rest =>
      obtain ⟨rfl, rfl⟩ := hcut
      go_upto_if 35 with fail
      go_cut [5] (fun s wx => wx.ownsRow W1.heap.size 60 4 s (k + O.length) ((rowCells ls).take (k * 4) ++ rowCells O) ∧ Below W1.heap.size W1 wx)
      case first =>
        by_cases hbm : b ≠ 0 ∨ m ≠ 0
        · rw [if_pos hbm] at hO
          rw [decide_eq_true hbm]
          have ho1 := hown2.alloc (.cells #[.int .i64 p, .int .i64 b, .int .i64 l, .int .i64 m] 60)
          have hrs : Reads (wc.alloc (.cells #[.int .i64 p, .int .i64 b, .int .i64 l, .int .i64 m] 60)) (wc.alloc (.cells #[.int .i64 p, .int .i64 b, .int .i64 l, .int .i64 m] 60)).heap.size 4 (some ⟨wc.heap.size, 0, none⟩) 1 [.int .i64 p, .int .i64 b, .int .i64 l, .int .i64 m] :=
            Reads.of_blk (Blk.new _ _ _) rfl (fun j u h => by simpa using h)
          have h1s : ∀ u ∈ [Value.int .i64 p, Value.int .i64 b, Value.int .i64 l, Value.int .i64 m], u.oneCell' = true := by simp [Value.oneCell']
          clear hbm
          go_wp2_with ((with_reducible refine go_append_at (c := 1) seen_slice seen_inf ho1 hrs h1s ?a0 ?a1 ?a2 ?a3 ?a4 ?a5 ?a6 ?_); (case a0 => (simp; omega)); (case a1 => rfl); (case a2 => rfl); (case a3 => rfl); (case a4 => omega); (case a5 => unfold maxLen; omega); (case a6 => omega); rintro v3 w3 hown3 hb3 - -)
          go_meet
          case rel =>
            rw [hO]
            exact ⟨hown3, (hb2.alloc (by omega) _).trans hb3⟩
        · rw [if_neg hbm] at hO
          rw [decide_eq_false hbm]
          go_wp2
          go_meet
          case rel =>
            rw [hO]
            exact ⟨by simpa [rowCells] using hown2, hb2⟩
      case rest =>
        obtain ⟨hown3, hb3⟩ := hcut
        clear hown2 hb2 s2 hB2 d0 d1 d2 d3
        have s3 := hb3.size
        have hB3 : Blk wc w.heap.size 60 #[.int .i64 p, .int .i64 b, .int .i64 l, .int .i64 m] := hB1.below hb3 (by omega)
        have hI3 : SeenAt wc w.heap.size A n ls := hI1.below (hb3.mono (by omega))
        obtain ⟨d0, -, -, -⟩ := cells4 hB3
        obtain ⟨W3, hW3⟩ : ∃ W3, W3 = wc := ⟨_, rfl⟩
        rw [← hW3] at hown3 hb3 s3 hB3 hI3 d0 ⊢
        clear hW3
        go_upto_region 8 with fail
        go_cut [53] (fun s wx => s = .bool (has ls p) ∧ ∃ m, wx = W3.drewN m)
        case first =>
          by_cases hlt : k < n
          · have bj : decide ((k : Int) < (n : Int)) = true := decide_eq_true (by omega)
            have hlt' : (k : Int) < (n : Int) := by omega
            obtain ⟨bA, off, rfl, hbn, hcells⟩ := hI3.form (by omega)
            obtain ⟨c0, -, -, -⟩ := hcells k (by omega)
            obtain ⟨q, hq⟩ : ∃ q, q = (ls[k]'(by omega)).peer := ⟨_, rfl⟩
            have hhas : has ls p = (q == p) := by
              rw [has_at (by rw [← Hk.out]; omega), hq]
              simp only [← Hk.out]
            rw [← hq] at c0
            have Hh := Lib.hid hhas
            clear hcells hq hhas
            go_quiet (fail)
            go_wp2_with fail
            go_meet
            rw [Hh.out]
            exact ⟨rfl, _, rfl⟩
          · have bj : decide ((k : Int) < (n : Int)) = false := decide_eq_false (by omega)
            go_quiet (fail)
            go_wp2_with fail
            go_meet
            rw [has_end (by rw [← Hk.out]; omega)]
            exact ⟨rfl, _, rfl⟩
        case rest =>
          obtain ⟨rfl, md3, rfl⟩ := hcut
          obtain ⟨W4, hW4⟩ : ∃ W4, W4 = W3.drewN md3 := ⟨_, rfl⟩
          rw [← hW4]
          have hown4 : W4.ownsRow W1.heap.size 60 4 u5 (k + O.length) ((rowCells ls).take (k * 4) ++ rowCells O) := by rw [hW4]; exact hown3
          have hb4 : Below W1.heap.size W1 W4 := by rw [hW4]; exact ⟨hb3.os, hb3.tape, hb3.output, hb3.size, hb3.block⟩
          have hI4 : SeenAt W4 w.heap.size A n ls := by rw [hW4]; exact hI3
          have s4 : W1.heap.size ≤ W4.heap.size := hb4.size
          clear hW4 hown3 hb3 hI3 hB3 d0 s3
          have hwr : IntKind.i64.wrap ((k : Int) + 1) = ((k + 1 : Nat) : Int) := by rw [IntKind.wrap_i64]; omega
          go_upto_if 53 with fail
          go_cut [6] (fun s wx => s = .int .i64 ((if has ls p then k + 1 else k : Nat) : Int) ∧ wx = W4)
          case first =>
            go_wp2
            all_goals
              rename_i hh
              go_meet
              exact ⟨by simp [hh], rfl⟩
          case rest =>
            obtain ⟨rfl, rfl⟩ := hcut
            obtain ⟨k2, hk2⟩ : ∃ k2, k2 = if has ls p then k + 1 else k := ⟨_, rfl⟩
            rw [← hk2]
            have hk2n : k2 ≤ n := by
              rw [hk2]
              split
              · rename_i hh
                rcases Nat.lt_or_ge k n with h | h
                · omega
                · rw [has_end (by rw [← Hk.out]; omega)] at hh
                  cases hh
              · omega
            have Hk2 := Lib.hid hk2
            clear hk2
            have hr4 := Reads.cut hI4 hk2n hnc
            have hk2I : (k2 : Int) ≤ (n : Int) := by omega
            have hk20 : (0 : Int) ≤ (k2 : Int) := by omega
            have hnI : (n : Int) ≤ (c : Int) := by omega
            have h1d : ∀ u ∈ (rowCells ls).drop (k2 * 4), u.oneCell' = true := fun u hu => rowCells_one ls u (List.mem_of_mem_drop hu)
            go_wp2_with ((with_reducible refine go_append_at (c := c - k2) seen_slice seen_inf hown4 hr4 h1d ?a0 ?a1 ?a2 ?a3 ?a4 ?a5 ?a6 ?_); (case a0 => exact s4); (case a1 => rfl); (case a2 => rfl); (case a3 => rfl); (case a4 => omega); (case a5 => unfold maxLen; omega); (case a6 => omega); rintro v5 w5 hown5 hb5 - -)
            all_goals
              go_ret
              have e : putS ls ⟨p, b, l, m⟩ = ls.take k ++ O ++ ls.drop k2 := by
                unfold putS
                rw [hO, Hk2.out, Hk.out]
              rw [e]
              have el : (ls.take k ++ O ++ ls.drop k2).length = k + O.length + (n - k2) := by simp; omega
              rw [el, rowCells_append, rowCells_append, ← rowCells_take, ← rowCells_drop]
              exact ⟨_, rfl, hown5.mono (by omega), (hb1.trans ((hb4.trans (hb5.mono (Nat.le_refl _))).mono (by omega)))⟩

end Go.Proofs.Ytkbcnapfcojekaa
