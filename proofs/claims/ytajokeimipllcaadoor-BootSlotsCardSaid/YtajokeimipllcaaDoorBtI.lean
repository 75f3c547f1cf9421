/-
  Layer 8 (boot): Record; Next on a disk whose power stays; the chapter's example (awake).
-/
import Derived.Test.YtajokeimipllcaaDoorBtH
import Derived.Test.YtajokeimipllcaaDoorBtP
set_option linter.unusedVariables false
namespace Go.Proofs.YtajokeimipllcaaDoor
open Go.ChangeShapes Go.WideShapes Go.ChangeAt Go.RowKit Go.Ed

set_option maxRecDepth 100000 in
theorem record_yes (w : World) (ht : Tabs w) (h0 : 0 < w.heap.size) (n : Int) (hn0 : 1 ≤ n) (hn1 : n ≤ 1099511627776) :
    Calls Tryd.prog 6 #[.int .i64 n] w fun e w' => ∃ b1 b2, e = .returned (.tuple #[.slice (some ⟨b1, 0, none⟩) 16 16, .slice (some ⟨b2, 0, none⟩) 16 16]) ∧
      Reads w' w'.heap.size 1 (some ⟨b1, 0, none⟩) 16 (u8s (recA n)) ∧ Reads w' w'.heap.size 1 (some ⟨b2, 0, none⟩) 16 (u8s (recB n)) ∧ Below w.heap.size w w' := by
  have d1 : decide (n < 1) = false := decide_eq_false (by omega)
  have d2 : decide (1099511627776 < n) = false := decide_eq_false (by omega)
  have hrec := Lib.hid (record_any w ht h0 n (by omega) hn1)
  clear hn0 hn1
  have lra : (u8s (recA n)).toArray.size = 16 := by simp [u8s, recA_len]
  have lrb : (u8s (recB n)).toArray.size = 16 := by simp [u8s, recB_len]
  go_enter Tryd.func6, Tryd.ntmps6
  go_wp2_with (first
    | (go_at_call 17; refine hrec.out.mono ?_; rintro e w2 ⟨rfl, hb2⟩; have s2 := hb2.size; have e9 : Blk ((w2.alloc (.cells z16.toArray 43)).alloc (.cells z16.toArray 43)) w2.heap.size 43 z16.toArray := (Blk.new' rfl).alloc _; have e10 : Blk ((w2.alloc (.cells z16.toArray 43)).alloc (.cells z16.toArray 43)) (w2.heap.size + 1) 43 z16.toArray := Blk.new' (by simp))
    | ((with_reducible refine go_store_as (off := 0) (vs := (u8s (recA n)).toArray) (u8s (recA n)).toArray Tryd.agg16 e9 ?b1 ?b2 ?b3 ?b4 ?b5 ?b6 ?_); (case b1 => rfl); (case b2 => rfl); (case b3 => exact lra); (case b4 => exact Nat.le_refl _); (case b5 => exact u8s_one _); (case b6 => simp); intro w3 f9 c9; have f10 := e10.chg c9 (by omega))
    | ((with_reducible refine go_store_as (off := 0) (vs := (u8s (recB n)).toArray) (u8s (recB n)).toArray Tryd.agg16 f10 ?b1 ?b2 ?b3 ?b4 ?b5 ?b6 ?_); (case b1 => rfl); (case b2 => rfl); (case b3 => exact lrb); (case b4 => exact Nat.le_refl _); (case b5 => exact u8s_one _); (case b6 => simp); intro w4 h10 c10; have h9 := f9.chg c10 (by omega)))
  have hB : Below w.heap.size w w4 := (((hb2.alloc s2 _).alloc (by simp; omega) _).trans (c9.below (fun i hi => by omega) (by simp; omega))).trans (c10.below (fun i hi => by omega) (by have := c9.size; simp at this; omega))
  go_region
  all_goals go_wp2_with fail
  all_goals go_ret2
  all_goals exact ⟨_, _, rfl, (Reads.of_blk h9 (by simp [u8s, recA_len]) (fun j u hu => by simpa using hu)).drew, (Reads.of_blk h10 (by simp [u8s, recB_len]) (fun j u hu => by simpa using hu)).drew, hB.drew⟩

theorem wr_free {g s n : Nat} {left writes : Int} {bs : List Int} (hw : writes < 4611686018427387904) : WrOk g s n false left writes bs 0 false false left (writes + 1) (fun k ys => putSect bs k ys) :=
  fun W k ad c ys h0 h1 hd hr hg => write_free_i W hd k h0 h1 ad c ys hr hg hw
theorem wr_cut {g s n : Nat} {left writes : Int} {bs : List Int} (hl : 0 < left) (hw : writes < 4611686018427387904) : WrOk g s n true left writes bs 0 false true (left - 1) (writes + 1) (fun k ys => putSect bs k ys) :=
  fun W k ad c ys h0 h1 hd hr hg => write_cut_i W hd hl k h0 h1 ad c ys hr hg hw
theorem wr_stop {g s n : Nat} {writes : Int} {bs : List Int} : WrOk g s n true 0 writes bs 32 true false 0 writes (fun _ _ => bs) :=
  fun W k ad c ys h0 h1 hd hr hg => (write_stop_i W hd k h0 h1 (some ad) c).mono fun e w' ⟨he, hd', hc⟩ => ⟨he, hd', hc.mono fun i h => Or.inl h⟩

/-- the slots behind a whole record in one of them -/
theorem after0 {bs : List Int} {n : Nat} {q : Int} (hl : bs.length = n * 16) (hn : 4 ≤ n) (h0 : 1 ≤ q) (h1 : q ≤ 1099511627776) :
    standS (sect (putSect (putSect bs 0 (recA q)) (0 + 1) (recB q)) 0) (sect (putSect (putSect bs 0 (recA q)) (0 + 1) (recB q)) 1) = q ∧ standS (sect (putSect (putSect bs 0 (recA q)) (0 + 1) (recB q)) 2) (sect (putSect (putSect bs 0 (recA q)) (0 + 1) (recB q)) 3) = standS (sect bs 2) (sect bs 3) := by
  have l1 := putSect_len hl (show 0 < n by omega) (recA_len q)
  rw [sect_put_other l1 (by omega) (recB_len q) (by decide), sect_put_same hl (by omega) (recA_len q), sect_put_same l1 (by omega) (recB_len q), sect_put_other l1 (by omega) (recB_len q) (by decide), sect_put_other hl (by omega) (recA_len q) (by decide), sect_put_other l1 (by omega) (recB_len q) (by decide), sect_put_other hl (by omega) (recA_len q) (by decide)]
  exact ⟨standS_rec q h0 h1, rfl⟩
theorem after2 {bs : List Int} {n : Nat} {q : Int} (hl : bs.length = n * 16) (hn : 4 ≤ n) (h0 : 1 ≤ q) (h1 : q ≤ 1099511627776) :
    standS (sect (putSect (putSect bs 2 (recA q)) (2 + 1) (recB q)) 0) (sect (putSect (putSect bs 2 (recA q)) (2 + 1) (recB q)) 1) = standS (sect bs 0) (sect bs 1) ∧ standS (sect (putSect (putSect bs 2 (recA q)) (2 + 1) (recB q)) 2) (sect (putSect (putSect bs 2 (recA q)) (2 + 1) (recB q)) 3) = q := by
  have l1 := putSect_len hl (show 2 < n by omega) (recA_len q)
  rw [sect_put_other l1 (by omega) (recB_len q) (by decide), sect_put_other hl (by omega) (recA_len q) (by decide), sect_put_other l1 (by omega) (recB_len q) (by decide), sect_put_other hl (by omega) (recA_len q) (by decide), sect_put_other l1 (by omega) (recB_len q) (by decide), sect_put_same hl (by omega) (recA_len q), sect_put_same l1 (by omega) (recB_len q)]
  exact ⟨rfl, standS_rec q h0 h1⟩
theorem stand_zero : standS (sect (zeros 4) 0) (sect (zeros 4) 1) = 0 ∧ standS (sect (zeros 4) 2) (sect (zeros 4) 3) = 0 := by
  have h : ∀ k, k < 4 → numS (sect (zeros 4) k) = 0 := by decide +kernel
  constructor
  · unfold standS; rw [h 0 (by decide), if_pos (by omega)]
  · unfold standS; rw [h 2 (by decide), if_pos (by omega)]

/-- Next on a disk whose power stays -/
theorem next_free (w : World) {g s n : Nat} {left writes : Int} {bs : List Int} (hd : Dsk w g s false false left n writes bs) (ht : Tabs w) (hn4 : 4 ≤ n) (hw : writes < 4611686018427387903) (x0 x1 m : Int) (a : Nat) (hx0 : standS (sect bs 0) (sect bs 1) = x0) (hx1 : standS (sect bs 2) (sect bs 3) = x1)
    (hm0 : 0 ≤ m) (hm1 : m < 1099511627776) (hx : (x1 < x0 ∧ m = x0 ∧ a = 2) ∨ (x0 < x1 ∧ m = x1 ∧ a = 0) ∨ (x0 = x1 ∧ m = x1 ∧ a = 0)) :
    Calls Tryd.prog 12 #[.pointer (some ⟨g, 0, none⟩)] w fun e' w' => e' = .returned (.tuple #[.int .i64 (m + 1), .int .i64 0]) ∧ Dsk w' g s false false left n (writes + 1 + 1) (putSect (putSect bs a (recA (m + 1))) (a + 1) (recB (m + 1))) ∧ Chg (fun i => i = g ∨ i = s) w w' :=
  next_done w hd ht hn4 x0 x1 m a (slots_ok w hd ht hn4 x0 x1 hx0 hx1) hm0 hm1 hx (wr_free (by omega)) (bs2 := fun b k ys => putSect b k ys) (wr_free (by omega))
theorem Tabs.chg {w w' : World} {S : Nat → Prop} (h : Tabs w) (hc : Chg S w w') (h0 : ¬ S 0) : Tabs w' := fun i hi => by
  have hcell := h i hi
  exact (World.cell?_of_block (hc.block 0 (World.block_lt_of_cell? w _ hcell) h0)).trans hcell

set_option maxRecDepth 100000 in
set_option maxHeartbeats 2000000 in
theorem awake08 (w : World) (ht : Tabs w) (h0 : 0 < w.heap.size) : Calls Tryd.prog 8 #[] w fun e w' => e = .returned (.bool true) ∧ Below w.heap.size w w' := by
  obtain ⟨z0, z1⟩ := stand_zero
  go_enter Tryd.func8, Tryd.ntmps8
  go_wp2_with (first
    | (go_at_call 10; (with_reducible refine (new_i _ 4 (by omega) (by omega)).mono ?_); rintro e w1 ⟨g, s, rfl, hg, hs, hd1, hb1⟩; have hd1 : Dsk w1 g s false false 0 4 0 (zeros 4) := hd1; have lz : (zeros 4).length = 4 * 16 := rfl; have t1 := ht.below hb1 h0; have B1 := Lib.hid (next_free w1 hd1 t1 (by decide) (by omega) 0 0 0 0 z0 z1 (by omega) (by omega) (.inr (.inr ⟨rfl, rfl, rfl⟩))))
    | (go_at_call 12; (with_reducible refine (B1.out).mono ?_); rintro e w2 ⟨rfl, hd2, hc2⟩; have t2 := t1.chg hc2 (by omega); obtain ⟨a20, a21⟩ := after0 (q := 0 + 1) lz (by decide) (by decide) (by decide); rw [z1] at a21; have B2 := Lib.hid (next_free w2 hd2 t2 (by decide) (by omega) (0 + 1) 0 1 2 a20 a21 (by omega) (by omega) (.inl ⟨by decide, rfl, rfl⟩)); clear B1)
    | (go_at_call 12; (with_reducible refine (B2.out).mono ?_); rintro e w3 ⟨rfl, hd3, hc3⟩; have t3 := t2.chg hc3 (by omega); have l2 := hd2.len; obtain ⟨a30, a31⟩ := after2 (q := 1 + 1) l2 (by decide) (by decide) (by decide); rw [a20] at a30; have B3 := Lib.hid (next_free w3 hd3 t3 (by decide) (by omega) (0 + 1) (1 + 1) 2 0 a30 a31 (by omega) (by omega) (.inr (.inl ⟨by decide, rfl, rfl⟩))); clear B2)
    | (go_at_call 12; (with_reducible refine (B3.out).mono ?_); rintro e w4 ⟨rfl, hd4, hc4⟩; have t4 := t3.chg hc4 (by omega); have l3 := hd3.len; obtain ⟨a40, a41⟩ := after0 (q := 2 + 1) l3 (by decide) (by decide) (by decide); rw [a31] at a41; have S4 := Lib.hid (slots_ok w4 hd4 t4 (by decide) _ _ a40 a41); clear B3)
    | (go_at_call 15; (with_reducible refine (S4.out).mono ?_); rintro e w5 ⟨rfl, hb5⟩; have t5 := t4.below hb5 (by have := hd4.head.lt; omega); have R5 := Lib.hid (record_yes w5 t5 (by have := hb5.size; have := hd4.head.lt; omega) 1 (by decide) (by decide)))
    | (go_at_call 6; (with_reducible refine (R5.out).mono ?_); rintro e w6 ⟨b1, b2, rfl, hr1, hr2, hb6⟩))
  go_ret
  have h2 : Below w.heap.size w w2 := hb1.trans (hc2.below (fun i h => by omega) (by have := hb1.size; omega))
  have h3 : Below w.heap.size w w3 := h2.trans (hc3.below (fun i h => by omega) (by have := h2.size; omega))
  have h4 : Below w.heap.size w w4 := h3.trans (hc4.below (fun i h => by omega) (by have := h3.size; omega))
  have h5 : Below w.heap.size w w5 := h4.trans (hb5.mono h4.size)
  exact ⟨rfl, h5.trans (hb6.mono h5.size)⟩
end Go.Proofs.YtajokeimipllcaaDoor
