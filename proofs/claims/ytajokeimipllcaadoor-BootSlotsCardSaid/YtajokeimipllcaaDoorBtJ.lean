/-
  Layer 8 (boot): the statement BootSlots, walked.
-/
import Derived.Test.YtajokeimipllcaaDoorBtI
set_option linter.unusedVariables false
namespace Go.Proofs.YtajokeimipllcaaDoor
open Go.ChangeShapes Go.WideShapes Go.ChangeAt Go.RowKit Go.Ed

theorem c_bd (x : Int) : 0 ≤ RowKit.wrap64 ((IntKind.u64.wrap x).tmod 4) ∧ RowKit.wrap64 ((IntKind.u64.wrap x).tmod 4) ≤ 3 := by
  have h0 : 0 ≤ IntKind.u64.wrap x := by rw [IntKind.wrap_u64]; omega
  have h1 : (IntKind.u64.wrap x).tmod 4 = IntKind.u64.wrap x % 4 := Int.tmod_eq_emod_of_nonneg h0
  have h2 : 0 ≤ IntKind.u64.wrap x % 4 ∧ IntKind.u64.wrap x % 4 < 4 := by omega
  rw [h1]
  generalize IntKind.u64.wrap x % 4 = y at *
  simp only [RowKit.wrap64]
  omega

theorem bs_bel {w w1 w2 w3 w4 w5 w6 w7 : World} {g s : Nat} (h1 : Below w.heap.size w w1) (hg : w.heap.size ≤ g) (hs : w.heap.size ≤ s) (h2 : Below w1.heap.size w1 w2) (h3 : Chg (· = g) w2 w3) (h4 : Chg (fun i => i = g ∨ i = s) w3 w4) (h5 : Chg (· = g) w4 w5) (h6 : Below w5.heap.size w5 w6) (h7 : Below w6.heap.size w6 w7) : Below w.heap.size w w7 := by
  have a2 := h1.trans (h2.mono h1.size)
  have a3 := a2.trans (h3.below (fun i h => by omega) a2.size)
  have a4 := a3.trans (h4.below (fun i h => by omega) a3.size)
  have a5 := a4.trans (h5.below (fun i h => by omega) a4.size)
  have a6 := a5.trans (h6.mono a5.size)
  exact a6.trans (h7.mono a6.size)
theorem half2 {bs : List Int} {n : Nat} {q : Int} (hl : bs.length = n * 16) (hn : 4 ≤ n) : standS (sect (putSect bs 2 (recA q)) 0) (sect (putSect bs 2 (recA q)) 1) = standS (sect bs 0) (sect bs 1) := by
  rw [sect_put_other hl (by omega) (recA_len q) (by decide), sect_put_other hl (by omega) (recA_len q) (by decide)]
theorem half0 {bs : List Int} {n : Nat} {q : Int} (hl : bs.length = n * 16) (hn : 4 ≤ n) : standS (sect (putSect bs 0 (recA q)) 2) (sect (putSect bs 0 (recA q)) 3) = standS (sect bs 2) (sect bs 3) := by
  rw [sect_put_other hl (by omega) (recA_len q) (by decide), sect_put_other hl (by omega) (recA_len q) (by decide)]
theorem next_full (w : World) {g s n : Nat} {gone cut : Bool} {left writes : Int} {bs : List Int} (hd : Dsk w g s gone cut left n writes bs) (x0 x1 m : Int) (hx : (x1 < x0 ∧ m = x0) ∨ (x0 < x1 ∧ m = x1) ∨ (x0 = x1 ∧ m = x1)) (hm : m = 1099511627776) (hs : Calls Tryd.prog 15 #[.pointer (some ⟨g, 0, none⟩)] w fun e' w' => e' = .returned (.tuple #[.int .i64 x0, .int .i64 x1, .int .i64 0]) ∧ Below w.heap.size w w') :
    Calls Tryd.prog 12 #[.pointer (some ⟨g, 0, none⟩)] w fun e' w' => e' = .returned (.tuple #[.int .i64 0, .int .i64 33]) ∧ Dsk w' g s gone cut left n writes bs ∧ Chg (fun i => i = g ∨ i = s) w w' :=
  (next_last w x0 x1 m hx hm hs).mono fun e w' ⟨he, hb⟩ => ⟨he, hd.below hb hd.head.lt hd.body.lt, Chg.of_below hb _⟩
def LdNil (w : World) (A : Option Addr) (l c : Nat) : Prop :=
  Calls Tryd.prog 9 #[.slice A l c] w fun e w' => e = .returned (.pointer none) ∧ w = w'
/-- what Load hands out, if anything -/
def LdOk (w : World) (A : Option Addr) (l c n : Nat) (bs : List Int) : Prop :=
  Calls Tryd.prog 9 #[.slice A l c] w fun e w' => ∃ g s, e = .returned (.pointer (some ⟨g, 0, none⟩)) ∧ w.heap.size ≤ g ∧ w.heap.size ≤ s ∧ Dsk w' g s false false 0 n 0 bs ∧ Below w.heap.size w w'

set_option maxRecDepth 100000 in
theorem bs_short (w : World) (ht : Tabs w) (h0 : 0 < w.heap.size) (A : Option Addr) (l c n : Nat) (cut : Int) (bs : List Int) (hL : LdOk w A l c n bs) (hn4 : n < 4) :
    Calls Tryd.prog 5 #[.slice A l c, .int .i64 cut] w fun e w' => e = .returned (.bool true) ∧ Below w.heap.size w w' := by
  have hL := Lib.hid (show Calls _ _ _ _ _ from hL)
  go_enter Tryd.func5, Tryd.ntmps5
  go_wp2_with (first
    | (go_at_call 9; refine hL.out.mono ?_; rintro e w1 ⟨g, s, rfl, hg, hs, hd1, hb1⟩; have s1 := hb1.size; have lg := hd1.head.lt; have t1 := ht.below hb1 h0)
    | (go_at_call 15; refine (slots_short w1 hd1 hn4).mono ?_; rintro e w2 ⟨rfl, hb2⟩; have s2 := hb2.size; have t2 := t1.below hb2 (by omega))
    | (go_at_call 8; refine (awake08 w2 t2 (by omega)).mono ?_; rintro e w7 ⟨rfl, hb7⟩))
  go_ret
  exact ⟨rfl, (hb1.trans (hb2.mono s1)).trans (hb7.mono (by omega))⟩
set_option maxRecDepth 100000 in
set_option maxHeartbeats 4000000 in
theorem bs_c0_nil (w : World) (ht : Tabs w) (h0 : 0 < w.heap.size) (A : Option Addr) (l c : Nat) (cut : Int) (hL : LdNil w A l c) (hC : RowKit.wrap64 ((IntKind.u64.wrap cut).tmod 4) = 0) :
    Calls Tryd.prog 5 #[.slice A l c, .int .i64 cut] w fun e w' => e = .returned (.bool true) ∧ Below w.heap.size w w' := by
  have hL := Lib.hid (show Calls _ _ _ _ _ from hL)
  have hbl : (zeros 4).length = 4 * 16 := rfl
  have hn4 : 4 ≤ 4 := Nat.le_refl 4
  obtain ⟨hx0, hx1⟩ := stand_zero
  have hm0 : (0 : Int) ≤ 0 := by omega
  have hm1 : (0 : Int) < 1099511627776 := by omega
  (go_enter Tryd.func5, Tryd.ntmps5; go_wp2_with (first | (first | (go_at_call 9; refine hL.out.mono ?_; rintro e w0 ⟨rfl, rfl⟩) | (go_at_call 10; (with_reducible refine (new_i _ 4 (by omega) (by omega)).mono ?_); rintro e w1 ⟨g, s, rfl, hg, hs, hd1, hb1⟩; have hd1 : Dsk w1 g s false false 0 4 0 (zeros 4) := hd1; have s1 := hb1.size; have lg := hd1.head.lt; have ls := hd1.body.lt; have t1 := ht.below hb1 h0; have S1 := Lib.hid (slots_ok w1 hd1 t1 hn4 _ _ hx0 hx1))) | (go_at_call 15; refine S1.out.mono ?_; rintro e w2 ⟨rfl, hb2⟩; clear S1; have s2 := hb2.size; have hd2 := hd1.below hb2 lg ls; have t2 := t1.below hb2 (by omega)) | (go_at_call 13; (with_reducible refine (cut_any _ hd2 _ ?_ ?_).mono ?_); omega; omega; rintro e w3 ⟨rfl, hd3, hc3⟩; have t3 := t2.chg hc3 (by omega); have N3 := Lib.hid (next_stop w3 hd3 t3 hn4 _ _ 0 _ (slots_ok w3 hd3 t3 hn4 _ _ hx0 hx1) hm0 hm1 (.inr (.inr ⟨rfl, rfl, rfl⟩)) wr_stop)) | (go_at_call 12; refine N3.out.mono ?_; rintro e w4 ⟨rfl, hd4, hc4⟩; clear N3; have t4 := t3.chg hc4 (by omega)) | (go_at_call 16; (with_reducible refine (writes_any _ hd4).mono ?_); rintro e w' ⟨rfl, rfl⟩) | (go_at_call 14; (with_reducible refine (on_gone _ hd4).mono ?_); rintro e w5 ⟨rfl, hd5, hc5⟩; have t5 := t4.chg hc5 (by omega); have S5 := Lib.hid (slots_ok w5 hd5 t5 hn4 _ _ hx0 hx1)) | (go_at_call 15; refine S5.out.mono ?_; rintro e w6 ⟨rfl, hb6⟩; clear S5; have s6 := hb6.size; have t6 := t5.below hb6 (by have := hd5.head.lt; omega)) | (go_at_call 8; refine (awake08 w6 t6 (by have := hd5.head.lt; omega)).mono ?_; rintro e w7 ⟨rfl, hb7⟩)); go_ret; exact ⟨rfl, bs_bel hb1 hg hs hb2 hc3 hc4 hc5 hb6 hb7⟩)
set_option maxRecDepth 100000 in
set_option maxHeartbeats 4000000 in
theorem bs_c1_nil (w : World) (ht : Tabs w) (h0 : 0 < w.heap.size) (A : Option Addr) (l c : Nat) (cut : Int) (hL : LdNil w A l c) (hC : RowKit.wrap64 ((IntKind.u64.wrap cut).tmod 4) = 1) :
    Calls Tryd.prog 5 #[.slice A l c, .int .i64 cut] w fun e w' => e = .returned (.bool true) ∧ Below w.heap.size w w' := by
  have hL := Lib.hid (show Calls _ _ _ _ _ from hL)
  have hbl : (zeros 4).length = 4 * 16 := rfl
  have hn4 : 4 ≤ 4 := Nat.le_refl 4
  obtain ⟨hx0, hx1⟩ := stand_zero
  have hm0 : (0 : Int) ≤ 0 := by omega
  have hm1 : (0 : Int) < 1099511627776 := by omega
  (go_enter Tryd.func5, Tryd.ntmps5; go_wp2_with (first | (first | (go_at_call 9; refine hL.out.mono ?_; rintro e w0 ⟨rfl, rfl⟩) | (go_at_call 10; (with_reducible refine (new_i _ 4 (by omega) (by omega)).mono ?_); rintro e w1 ⟨g, s, rfl, hg, hs, hd1, hb1⟩; have hd1 : Dsk w1 g s false false 0 4 0 (zeros 4) := hd1; have s1 := hb1.size; have lg := hd1.head.lt; have ls := hd1.body.lt; have t1 := ht.below hb1 h0; have S1 := Lib.hid (slots_ok w1 hd1 t1 hn4 _ _ hx0 hx1))) | (go_at_call 15; refine S1.out.mono ?_; rintro e w2 ⟨rfl, hb2⟩; clear S1; have s2 := hb2.size; have hd2 := hd1.below hb2 lg ls; have t2 := t1.below hb2 (by omega)) | (go_at_call 13; (with_reducible refine (cut_any _ hd2 _ ?_ ?_).mono ?_); omega; omega; rintro e w3 ⟨rfl, hd3, hc3⟩; have t3 := t2.chg hc3 (by omega); have N3 := Lib.hid (next_half w3 hd3 t3 hn4 _ _ 0 _ (slots_ok w3 hd3 t3 hn4 _ _ hx0 hx1) hm0 hm1 (.inr (.inr ⟨rfl, rfl, rfl⟩)) (wr_cut (by omega) (by omega)) (bs2 := fun b _ _ => b) wr_stop)) | (go_at_call 12; refine N3.out.mono ?_; rintro e w4 ⟨rfl, hd4, hc4⟩; clear N3; have t4 := t3.chg hc4 (by omega)) | (go_at_call 16; (with_reducible refine (writes_any _ hd4).mono ?_); rintro e w' ⟨rfl, rfl⟩) | (go_at_call 14; (with_reducible refine (on_gone _ hd4).mono ?_); rintro e w5 ⟨rfl, hd5, hc5⟩; have t5 := t4.chg hc5 (by omega); have S5 := Lib.hid (slots_ok w5 hd5 t5 hn4 _ _ rfl ((half0 hbl hn4).trans hx1))) | (go_at_call 15; refine S5.out.mono ?_; rintro e w6 ⟨rfl, hb6⟩; clear S5; have s6 := hb6.size; have t6 := t5.below hb6 (by have := hd5.head.lt; omega)) | (go_at_call 8; refine (awake08 w6 t6 (by have := hd5.head.lt; omega)).mono ?_; rintro e w7 ⟨rfl, hb7⟩)); go_ret; exact ⟨rfl, bs_bel hb1 hg hs hb2 hc3 hc4 hc5 hb6 hb7⟩)
set_option maxRecDepth 100000 in
set_option maxHeartbeats 4000000 in
theorem bs_c2_nil (w : World) (ht : Tabs w) (h0 : 0 < w.heap.size) (A : Option Addr) (l c : Nat) (cut : Int) (hL : LdNil w A l c) (hC : RowKit.wrap64 ((IntKind.u64.wrap cut).tmod 4) = 2) :
    Calls Tryd.prog 5 #[.slice A l c, .int .i64 cut] w fun e w' => e = .returned (.bool true) ∧ Below w.heap.size w w' := by
  have hL := Lib.hid (show Calls _ _ _ _ _ from hL)
  have hbl : (zeros 4).length = 4 * 16 := rfl
  have hn4 : 4 ≤ 4 := Nat.le_refl 4
  obtain ⟨hx0, hx1⟩ := stand_zero
  have hm0 : (0 : Int) ≤ 0 := by omega
  have hm1 : (0 : Int) < 1099511627776 := by omega
  (go_enter Tryd.func5, Tryd.ntmps5; go_wp2_with (first | (first | (go_at_call 9; refine hL.out.mono ?_; rintro e w0 ⟨rfl, rfl⟩) | (go_at_call 10; (with_reducible refine (new_i _ 4 (by omega) (by omega)).mono ?_); rintro e w1 ⟨g, s, rfl, hg, hs, hd1, hb1⟩; have hd1 : Dsk w1 g s false false 0 4 0 (zeros 4) := hd1; have s1 := hb1.size; have lg := hd1.head.lt; have ls := hd1.body.lt; have t1 := ht.below hb1 h0; have S1 := Lib.hid (slots_ok w1 hd1 t1 hn4 _ _ hx0 hx1))) | (go_at_call 15; refine S1.out.mono ?_; rintro e w2 ⟨rfl, hb2⟩; clear S1; have s2 := hb2.size; have hd2 := hd1.below hb2 lg ls; have t2 := t1.below hb2 (by omega)) | (go_at_call 13; (with_reducible refine (cut_any _ hd2 _ ?_ ?_).mono ?_); omega; omega; rintro e w3 ⟨rfl, hd3, hc3⟩; have t3 := t2.chg hc3 (by omega); have N3 := Lib.hid (next_done w3 hd3 t3 hn4 _ _ 0 _ (slots_ok w3 hd3 t3 hn4 _ _ hx0 hx1) hm0 hm1 (.inr (.inr ⟨rfl, rfl, rfl⟩)) (wr_cut (by omega) (by omega)) (bs2 := fun b k ys => putSect b k ys) (wr_cut (by omega) (by omega)))) | (go_at_call 12; refine N3.out.mono ?_; rintro e w4 ⟨rfl, hd4, hc4⟩; clear N3; have t4 := t3.chg hc4 (by omega)) | (go_at_call 16; (with_reducible refine (writes_any _ hd4).mono ?_); rintro e w' ⟨rfl, rfl⟩) | (go_at_call 14; (with_reducible refine (on_there _ hd4).mono ?_); rintro e w5 ⟨rfl, hd5, hc5⟩; have t5 := t4.chg hc5 (by omega); have S5 := Lib.hid (slots_ok w5 hd5 t5 hn4 _ _ (after0 hbl hn4 (by omega) (by omega)).1 ((after0 hbl hn4 (by omega) (by omega)).2.trans hx1))) | (go_at_call 15; refine S5.out.mono ?_; rintro e w6 ⟨rfl, hb6⟩; clear S5; have s6 := hb6.size; have t6 := t5.below hb6 (by have := hd5.head.lt; omega)) | (go_at_call 8; refine (awake08 w6 t6 (by have := hd5.head.lt; omega)).mono ?_; rintro e w7 ⟨rfl, hb7⟩)); go_ret; exact ⟨rfl, bs_bel hb1 hg hs hb2 hc3 hc4 hc5 hb6 hb7⟩)
set_option maxRecDepth 100000 in
set_option maxHeartbeats 4000000 in
theorem bs_c3_nil (w : World) (ht : Tabs w) (h0 : 0 < w.heap.size) (A : Option Addr) (l c : Nat) (cut : Int) (hL : LdNil w A l c) (hC : RowKit.wrap64 ((IntKind.u64.wrap cut).tmod 4) = 3) :
    Calls Tryd.prog 5 #[.slice A l c, .int .i64 cut] w fun e w' => e = .returned (.bool true) ∧ Below w.heap.size w w' := by
  have hL := Lib.hid (show Calls _ _ _ _ _ from hL)
  have hbl : (zeros 4).length = 4 * 16 := rfl
  have hn4 : 4 ≤ 4 := Nat.le_refl 4
  obtain ⟨hx0, hx1⟩ := stand_zero
  have hm0 : (0 : Int) ≤ 0 := by omega
  have hm1 : (0 : Int) < 1099511627776 := by omega
  (go_enter Tryd.func5, Tryd.ntmps5; go_wp2_with (first | (first | (go_at_call 9; refine hL.out.mono ?_; rintro e w0 ⟨rfl, rfl⟩) | (go_at_call 10; (with_reducible refine (new_i _ 4 (by omega) (by omega)).mono ?_); rintro e w1 ⟨g, s, rfl, hg, hs, hd1, hb1⟩; have hd1 : Dsk w1 g s false false 0 4 0 (zeros 4) := hd1; have s1 := hb1.size; have lg := hd1.head.lt; have ls := hd1.body.lt; have t1 := ht.below hb1 h0; have S1 := Lib.hid (slots_ok w1 hd1 t1 hn4 _ _ hx0 hx1))) | (go_at_call 15; refine S1.out.mono ?_; rintro e w2 ⟨rfl, hb2⟩; clear S1; have s2 := hb2.size; have hd2 := hd1.below hb2 lg ls; have t2 := t1.below hb2 (by omega)) | (go_at_call 13; (with_reducible refine (cut_any _ hd2 _ ?_ ?_).mono ?_); omega; omega; rintro e w3 ⟨rfl, hd3, hc3⟩; have t3 := t2.chg hc3 (by omega); have N3 := Lib.hid (next_done w3 hd3 t3 hn4 _ _ 0 _ (slots_ok w3 hd3 t3 hn4 _ _ hx0 hx1) hm0 hm1 (.inr (.inr ⟨rfl, rfl, rfl⟩)) (wr_cut (by omega) (by omega)) (bs2 := fun b k ys => putSect b k ys) (wr_cut (by omega) (by omega)))) | (go_at_call 12; refine N3.out.mono ?_; rintro e w4 ⟨rfl, hd4, hc4⟩; clear N3; have t4 := t3.chg hc4 (by omega)) | (go_at_call 16; (with_reducible refine (writes_any _ hd4).mono ?_); rintro e w' ⟨rfl, rfl⟩) | (go_at_call 14; (with_reducible refine (on_there _ hd4).mono ?_); rintro e w5 ⟨rfl, hd5, hc5⟩; have t5 := t4.chg hc5 (by omega); have S5 := Lib.hid (slots_ok w5 hd5 t5 hn4 _ _ (after0 hbl hn4 (by omega) (by omega)).1 ((after0 hbl hn4 (by omega) (by omega)).2.trans hx1))) | (go_at_call 15; refine S5.out.mono ?_; rintro e w6 ⟨rfl, hb6⟩; clear S5; have s6 := hb6.size; have t6 := t5.below hb6 (by have := hd5.head.lt; omega)) | (go_at_call 8; refine (awake08 w6 t6 (by have := hd5.head.lt; omega)).mono ?_; rintro e w7 ⟨rfl, hb7⟩)); go_ret; exact ⟨rfl, bs_bel hb1 hg hs hb2 hc3 hc4 hc5 hb6 hb7⟩)
end Go.Proofs.YtajokeimipllcaaDoor
