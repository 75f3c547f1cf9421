/-
  Layer 7: the statement DiskCuts: behind Cut(n) n writes go through, the next one finds the power gone, and the bytes are those behind the n. Every input; no condition.
-/
import Derived.Test.YtkbcnapfcojekaaDiskD
import Derived.Test.YtkbcnapfcojekaaLift
import Derived.Test.YtkbcnapfcojekaaOpen
import Derived.Deep.RegionHeld3
import Derived.Deep.LoopGhost
import Derived.Deep.RegionWith
import Derived.BigRegion
namespace Go.Proofs.Ytkbcnapfcojekaa
open Go.ChangeShapes Go.WideShapes Go.ChangeAt Go.RowKit Go.Ed Go.Joins

namespace cuts
theorem own : ownKnob Try.prog.godebug = none := by kernel_rfl
theorem laidOut : laidOutB Try.prog = true := by kernel_rfl

/-- what is known of the slice l: each element is a slice whose bytes can be read -/
def Rows2 (w : World) (A : Option Addr) (n : Nat) : Prop :=
  0 < n → ∃ b off, A = some ⟨b, off, none⟩ ∧ b < w.heap.size ∧ ∀ i, i < n → ∃ A' m c ys, w.cell? ⟨b, off + i, none⟩ = some (.slice A' m c) ∧ Reads w w.heap.size 1 A' m (u8s ys)

abbrev z16 : List Value := [.int .u8 0, .int .u8 0, .int .u8 0, .int .u8 0, .int .u8 0, .int .u8 0, .int .u8 0, .int .u8 0, .int .u8 0, .int .u8 0, .int .u8 0, .int .u8 0, .int .u8 0, .int .u8 0, .int .u8 0, .int .u8 0]

/-- the state behind k writes of which N go through -/
def St (wr : World) (g s S N k : Nat) (bs : List Int) : Prop :=
  (k ≤ N ∧ Dsk wr g s false true ((N : Int) - k) S k bs) ∨ (N < k ∧ Dsk wr g s true false 0 S N bs)

theorem s_bd (x : Int) : 1 ≤ RowKit.wrap64 (1 + RowKit.wrap64 ((IntKind.u64.wrap x).tmod 64)) ∧ RowKit.wrap64 (1 + RowKit.wrap64 ((IntKind.u64.wrap x).tmod 64)) ≤ 64 := by
  have h0 : 0 ≤ IntKind.u64.wrap x := by rw [IntKind.wrap_u64]; omega
  have h1 : (IntKind.u64.wrap x).tmod 64 = IntKind.u64.wrap x % 64 := Int.tmod_eq_emod_of_nonneg h0
  have h2 : 0 ≤ IntKind.u64.wrap x % 64 ∧ IntKind.u64.wrap x % 64 < 64 := by omega
  rw [h1]
  generalize IntKind.u64.wrap x % 64 = y at *
  simp only [RowKit.wrap64]
  omega
theorem n_bd (x : Int) : 0 ≤ RowKit.wrap64 ((IntKind.u64.wrap x).tmod 9) ∧ RowKit.wrap64 ((IntKind.u64.wrap x).tmod 9) ≤ 8 := by
  have h0 : 0 ≤ IntKind.u64.wrap x := by rw [IntKind.wrap_u64]; omega
  have h1 : (IntKind.u64.wrap x).tmod 9 = IntKind.u64.wrap x % 9 := Int.tmod_eq_emod_of_nonneg h0
  have h2 : 0 ≤ IntKind.u64.wrap x % 9 ∧ IntKind.u64.wrap x % 9 < 9 := by omega
  rw [h1]
  generalize IntKind.u64.wrap x % 9 = y at *
  simp only [RowKit.wrap64]
  omega

theorem St.chg {w w' : World} {Sx : Nat → Prop} {g s S N k : Nat} {bs : List Int} (h : St w g s S N k bs) (hc : Chg Sx w w') (hg : ¬ Sx g) (hs : ¬ Sx s) : St w' g s S N k bs := by
  rcases h with ⟨hk, hd⟩ | ⟨hk, hd⟩
  · exact .inl ⟨hk, hd.chg hc hg hs⟩
  · exact .inr ⟨hk, hd.chg hc hg hs⟩
theorem St.lt {w : World} {g s S N k : Nat} {bs : List Int} (h : St w g s S N k bs) : g < w.heap.size ∧ s < w.heap.size := by
  rcases h with ⟨hk, hd⟩ | ⟨hk, hd⟩ <;> exact ⟨hd.head.lt, hd.body.lt⟩
/-- what copy leaves of a row of sixteen zeros -/
theorem sixteen (m : Nat) (ys : List Int) (hm : ys.length = m) : ∃ zs : List Int, zs.length = 16 ∧ List.take (min m 16) (u8s ys) ++ List.drop (min m 16) z16 = u8s zs := by
  refine ⟨ys.take (min m 16) ++ (List.replicate 16 (0 : Int)).drop (min m 16), by simp; omega, ?_⟩
  have e : z16 = u8s (List.replicate 16 0) := rfl
  rw [e]
  simp [u8s, List.map_take, List.map_drop]

theorem write_st (w : World) {g s S N k : Nat} {bs : List Int} (hst : St w g s S N k bs) (hN : N ≤ 8) (kk : Int) (h0 : 0 ≤ kk) (h1 : kk < S) (ad : Addr) (c : Nat) (ys : List Int)
    (hr : Reads w w.heap.size 1 (some ad) 16 (u8s ys)) (hg : ad.block ≠ g) :
    (k < N → Calls Try.prog 15 #[.pointer (some ⟨g, 0, none⟩), .int .i64 kk, .slice (some ad) 16 c] w fun e w' => e = .returned (.int .i64 0) ∧ Dsk w' g s false true ((N : Int) - (k + 1 : Nat)) S (k + 1 : Nat) (putSect bs kk.toNat ys) ∧ Chg (fun i => i = g ∨ i = s) w w') ∧
    (N ≤ k → Calls Try.prog 15 #[.pointer (some ⟨g, 0, none⟩), .int .i64 kk, .slice (some ad) 16 c] w fun e w' => e = .returned (.int .i64 32) ∧ Dsk w' g s true false 0 S N bs ∧ Chg (fun i => i = g ∨ i = s) w w') := by
  rcases hst with ⟨hk, hd⟩ | ⟨hk, hd⟩
  · refine ⟨fun _ => (write_cut_i w hd (by omega) kk h0 h1 ad c ys hr hg (by omega)).mono fun e w' ⟨he, hd', hc⟩ => ⟨he, ?_, hc⟩, fun hge => ?_⟩
    · have e1 : ((N : Int) - (k + 1 : Nat)) = (N : Int) - k - 1 := by omega
      rw [e1]
      exact_mod_cast hd'
    · obtain rfl : k = N := by omega
      rw [Int.sub_self] at hd
      exact (write_stop_i w hd kk h0 h1 (some ad) c).mono fun e w' ⟨he, hd', hc⟩ => ⟨he, hd', hc.mono fun i h => Or.inl h⟩
  · exact ⟨fun _ => by omega, fun _ => (write_gone w hd kk _).mono fun e w' ⟨he, hw⟩ => ⟨he, hw ▸ hd, hw ▸ Chg.refl _ _⟩⟩

theorem on_st (w : World) {g s S N k : Nat} {bs : List Int} (hst : St w g s S N k bs) :
    Calls Try.prog 17 #[.pointer (some ⟨g, 0, none⟩)] w fun e w' => e = .returned (.tuple #[]) ∧ (∃ left, Dsk w' g s false false left S (if k < N then (k : Int) else N) bs) ∧ Chg (· = g) w w' := by
  rcases hst with ⟨hk, hd⟩ | ⟨hk, hd⟩
  · have e1 : (if k < N then (k : Int) else N) = k := by split <;> omega
    rw [e1]
    exact (on_there w hd).mono fun e w' ⟨he, hd', hc⟩ => ⟨he, ⟨_, hd'⟩, hc⟩
  · have e1 : (if k < N then (k : Int) else N) = N := by rw [if_neg (by omega)]
    rw [e1]
    exact (on_gone w hd).mono fun e w' ⟨he, hd', hc⟩ => ⟨he, ⟨_, hd'⟩, hc⟩

theorem Try.make16 (W : World) : (Instr.makeSlice 27 (.int .i64 16) (.int .i64 16)).run Try.prog W = .ok (.slice (some ⟨W.heap.size, 0, none⟩) 16 16) (W.alloc (.cells z16.toArray 5)) := by
  obtain ⟨i0, hi, hz, hs, hb⟩ := Try.inf_byte
  have hmk := run_make_rowN (P := Try.prog) 27 5 i0 _ Try.underlying27 hi hz .i64 .i64 16 16 (Nat.le_refl _) (by rw [hb]; omega) (by omega) W
  rw [hs] at hmk
  have e : madeCells (Value.int .u8 0).cells (16 * 1) = z16.toArray := madeCells_rep _ 1 16 (by omega)
  rw [e] at hmk
  exact hmk

/-- the first sector's string is the head of the whole one -/
theorem str_head (bs : List Int) (_ : 16 ≤ bs.length) : strOfNums (sect bs 0) = (strOfNums bs).extract 0 16 := by
  apply ByteArray.ext
  rw [ByteArray.data_extract]
  apply Array.ext'
  simp [strOfNums, sect, List.map_take]

set_option maxRecDepth 100000 in
set_option maxHeartbeats 1000000 in
theorem walk (sectors n : Int) (A : Option Addr) (l c : Nat) (w : World) (hl : Rows2 w A l) (hll : (l : Int) ≤ 9223372036854775807) :
    Calls Try.prog 3 #[.int .i64 sectors, .int .i64 n, .slice A l c] w fun e w' => e = .returned (.bool true) ∧ Below w.heap.size w w' := by
  have hSb := s_bd sectors
  have hNb := n_bd n
  go_enter Try.func3, Try.ntmps3
  go_wp2_with fail
  generalize RowKit.wrap64 (1 + RowKit.wrap64 ((IntKind.u64.wrap sectors).tmod 64)) = S' at *
  generalize RowKit.wrap64 ((IntKind.u64.wrap n).tmod 9) = N' at *
  obtain ⟨hS1, hS2⟩ := hSb
  obtain ⟨hN1, hN2⟩ := hNb
  obtain ⟨S, rfl⟩ := Int.eq_ofNat_of_zero_le (show 0 ≤ S' by omega)
  obtain ⟨N, rfl⟩ := Int.eq_ofNat_of_zero_le hN1
  refine (new_any _ S (by omega) (by omega)).mono ?_
  rintro e w1 ⟨g, s, rfl, hg, hs, hd, hb⟩
  go_wp2_with (first
    | (go_at_call 13; (with_reducible refine (cut_any _ hd N (by omega) (by omega)).mono ?_); rintro e w2 ⟨rfl, hd2, hc2⟩)
    | (go_at_call 14; (with_reducible refine (image_i _ hd2).mono ?_); rintro e w3 ⟨b3, c3, rfl, hb31, hb32, hcell3, hb3⟩; have hcv3 := Try.conv w3 b3 (S * 16) c3 (zeros S) (by simp [zeros]) hcell3; have hd3 := hd2.below hb3 hd2.head.lt hd2.body.lt; clear hcell3))
  have hs1 := hb.size
  have hg' : ∀ i, i = g → w.heap.size ≤ i := fun i h => h ▸ hg
  have hgs : ∀ i, (i = g ∨ i = s) → w.heap.size ≤ i := fun i h => by rcases h with h | h <;> subst h <;> assumption
  have h2 : Below w.heap.size w w2 := hb.trans (hc2.below hg' (by omega))
  have s2 := h2.size
  have h3 : Below w.heap.size w w3 := h2.trans (hb3.mono s2)
  have Hg := Lib.hid hg'
  have Hgs := Lib.hid hgs
  clear hg' hgs hcv3
  go_loopw [8, 37] (fun was i wr => ∃ (k : Nat) (bs : List Int), k ≤ l ∧ i = .int .i64 k ∧ was = .string (strOfNums bs) ∧ St wr g s S N k bs ∧ Below w.heap.size w wr) (fun _ i _ => l - (intOf i).toNat)
  case atStart => exact ⟨0, _, Nat.zero_le _, rfl, rfl, .inl ⟨Nat.zero_le _, by simpa using hd3⟩, h3⟩
  case round =>
    obtain ⟨k, bs, hk, rfl, rfl, hst, hbr⟩ := hrel
    clear hd hb hd2 hc2 hd3 hb3 h2 h3 s2 hs1 hb31 hb32
    by_cases hlt : k < l
    · have hlt' : (k : Int) < (l : Int) := by omega
      obtain ⟨b, off, rfl, hblt, hrows⟩ := hl (by omega)
      obtain ⟨A', m, c', ys, hcell, hrd⟩ := hrows k hlt
      have hcell' : wr.cell? ⟨b, off + k, none⟩ = some (.slice A' m c') := (hbr.cell (p := ⟨b, off + k, none⟩) hblt).trans hcell
      have hrd' := hrd.below hbr
      clear hrows hcell
      have hnew : Blk (wr.alloc (.cells z16.toArray 29)) wr.heap.size 29 z16.toArray := Blk.new _ _ _
      go_wp2_with ((with_reducible refine go_copy_blk (dLen := 16) (dCap := 16) (c := c') Try.underlying27 Try.inf_byte hnew (hrd'.alloc hbr.size _) (u8s_one ys) ?a1 ?a2 ?a3 ?_); (case a1 => rfl); (case a2 => rfl); (case a3 => rfl); intro w5 hb5 hc5)
      obtain ⟨zs, hzl, hzs⟩ := sixteen m ys (by simpa [u8s] using hrd.1)
      rw [hzs] at hb5
      have hlts := hst.lt
      have hsz := hbr.size
      have hst0 : St (wr.alloc (.cells z16.toArray 29)) g s S N k bs := hst.chg (Sx := fun _ => False) ((Chg.refl _ _).alloc _) (fun x => x) (fun x => x)
      have hst5 : St w5 g s S N k bs := hst0.chg hc5 (by omega) (by omega)
      have hbw5 : Below w.heap.size w w5 := (hbr.alloc hsz _).trans (hc5.below (by intro i hi; omega) (by simp; omega))
      have hrd5 : Reads w5.drew w5.drew.heap.size 1 (some ⟨wr.heap.size, 0, none⟩) 16 (u8s zs) := Reads.of_blk (t := 29) (w := w5.drew) (off := 0) hb5 (by simp [u8s, hzl]) (fun j u hu => by simpa using hu)
      have hst5' : St w5.drew g s S N k bs := hst5.chg (Sx := fun _ => False) ((Chg.refl _ _).drew) (fun x => x) (fun x => x)
      obtain ⟨hwr1, hwr2⟩ := write_st w5.drew hst5' (by omega) ((k : Int) % S) (Int.emod_nonneg _ (by omega)) (Int.emod_lt_of_pos _ (by omega)) _ 16 zs hrd5 (by simp; omega)
      have hwr1 := Lib.hid hwr1
      have hwr2 := Lib.hid hwr2
      have hrem : (k : Int).tmod S = (k : Int) % S := Int.tmod_eq_emod_of_nonneg (by omega)
      clear hrd hrd' hnew hst0 hst5 hst5' hrd5 hb5 hzs hst hc5 hcell'
      have hS0 : ¬ S = 0 := by omega
      go_still_tail 5, (by kernel_rfl)
      change wpList _ _ _ _ _ w5.drew
      clear hrem hS0
      have s5 := hbw5.size
      by_cases hkN : k < N
      · have hkN' : (k : Int) < (N : Int) := by omega
        have Hw := Lib.hid (hwr1.out hkN)
        clear hwr1 hwr2
        go_wp2_with (first
          | (go_at_call 15; (with_reducible refine (Hw.out).mono ?_); rintro e w6 ⟨rfl, hd6, hc6⟩)
          | (go_at_call 16; (with_reducible refine (dead_any _ hd6).mono ?_); rintro e w' ⟨rfl, rfl⟩)
          | (go_at_call 14; (with_reducible refine (image_i _ hd6).mono ?_); rintro e w7 ⟨b7, c7, rfl, hb71, hb72, hcell7, hb7⟩; have hcv7 := Try.conv w7 b7 (S * 16) c7 _ hd6.len hcell7; have hd7 := hd6.below hb7 hd6.head.lt hd6.body.lt; clear hcell7))
        have h6 : Below w.heap.size w w6 := hbw5.drew.trans (hc6.below Hgs.out s5)
        go_roundw
        case rel => exact ⟨k + 1, _, by omega, by go_num, rfl, .inl ⟨by omega, hd7⟩, h6.trans (hb7.mono h6.size)⟩
        case measure => simp [intOf]; omega
      · have hkN' : ¬ (k : Int) < (N : Int) := by omega
        have Hw := Lib.hid (hwr2.out (by omega))
        clear hwr1 hwr2
        go_wp2_with (first
          | (go_at_call 15; (with_reducible refine (Hw.out).mono ?_); rintro e w6 ⟨rfl, hd6, hc6⟩)
          | (go_at_call 16; (with_reducible refine (dead_any _ hd6).mono ?_); rintro e w' ⟨rfl, rfl⟩)
          | (go_at_call 14; (with_reducible refine (image_i _ hd6).mono ?_); rintro e w7 ⟨b7, c7, rfl, hb71, hb72, hcell7, hb7⟩; have hcv7 := Try.conv w7 b7 (S * 16) c7 _ hd6.len hcell7; have hd7 := hd6.below hb7 hd6.head.lt hd6.body.lt; clear hcell7))
        have h6 : Below w.heap.size w w6 := hbw5.drew.trans (hc6.below Hgs.out s5)
        go_roundw
        case rel => exact ⟨k + 1, _, by omega, by go_num, rfl, .inr ⟨by omega, hd7⟩, h6.trans (hb7.mono h6.size)⟩
        case measure => simp [intOf]; omega
    · have hkl : k = l := by omega
      subst hkl
      have hlts := hst.lt
      have sr := hbr.size
      by_cases hkN : (k : Int) ≤ (N : Int)
      · go_wp2_with (first
          | (go_at_call 17; (with_reducible refine (on_st _ hst).mono ?_); rintro e w4 ⟨rfl, ⟨left, hd4⟩, hc4⟩; have h4 : Below w.heap.size w w4 := hbr.trans (hc4.below Hg.out sr))
          | (go_at_call 16; (with_reducible refine (dead_any _ hd4).mono ?_); rintro e w' ⟨rfl, rfl⟩)
          | (go_at_call 14; (with_reducible refine (image_i _ hd4).mono ?_); rintro e w7 ⟨b7, c7, rfl, hb71, hb72, hcell7, hb7⟩; have hcv7 := Try.conv w7 b7 (S * 16) c7 _ hd4.len hcell7; have hd7 := hd4.below hb7 hd4.head.lt hd4.body.lt; have h7 : Below w.heap.size w w7 := h4.trans (hb7.mono h4.size); clear hcell7)
          | (go_at_call 18; (with_reducible refine (writes_any _ hd7).mono ?_); rintro e w' ⟨rfl, rfl⟩)
          | (go_at_call 19; (with_reducible refine (awake07 _).mono ?_); rintro e w9 ⟨rfl, hb9⟩))
        all_goals (go_ret; exact ⟨rfl, h7.trans (hb9.mono h7.size)⟩)
      · go_wp2_with (first
          | (go_at_call 17; (with_reducible refine (on_st _ hst).mono ?_); rintro e w4 ⟨rfl, ⟨left, hd4⟩, hc4⟩; have h4 : Below w.heap.size w w4 := hbr.trans (hc4.below Hg.out sr))
          | (go_at_call 16; (with_reducible refine (dead_any _ hd4).mono ?_); rintro e w' ⟨rfl, rfl⟩)
          | (go_at_call 14; (with_reducible refine (image_i _ hd4).mono ?_); rintro e w7 ⟨b7, c7, rfl, hb71, hb72, hcell7, hb7⟩; have hcv7 := Try.conv w7 b7 (S * 16) c7 _ hd4.len hcell7; have hd7 := hd4.below hb7 hd4.head.lt hd4.body.lt; have h7 : Below w.heap.size w w7 := h4.trans (hb7.mono h4.size); clear hcell7)
          | (go_at_call 18; (with_reducible refine (writes_any _ hd7).mono ?_); rintro e w' ⟨rfl, rfl⟩)
          | (go_at_call 20; (with_reducible refine (read_i _ hd7 0 (by omega) (by omega)).mono ?_); rintro e w8 ⟨b8, c8, rfl, hb81, hb82, hcell8, hlen8, hb8⟩))
        have h8 : Below w.heap.size w w8 := h7.trans (hb8.mono h7.size)
        have s8 := h8.size
        have hd8 := (hd7.below hb8 hd7.head.lt hd7.body.lt)
        have hsl : 16 ≤ bs.length := by have := hd7.len; omega
        have hcvAny : ∀ W : World, (∀ i, W.cell? ⟨b8, i, none⟩ = w8.cell? ⟨b8, i, none⟩) → Sem.run Try.prog (convert 27 9 (.slice (some ⟨b8, 0, none⟩) 16 c8)) W = .ok (.string ((strOfNums bs).extract 0 16)) W := by
          intro W hW
          have := Try.conv W b8 16 c8 _ hlen8 (fun i hi => (hW _).trans (hcell8 i hi))
          simp only [Int.toNat_zero] at this
          rwa [str_head bs hsl] at this
        have hcvAny := Lib.hid hcvAny
        have hsz8 : (strOfNums bs).size = bs.length := strOfNums_size bs
        have hsl2 : 16 ≤ (strOfNums bs).size := by omega
        have hsl3 : (16 : Int) ≤ ((strOfNums bs).size : Int) := by omega
        clear hsz8 hsl2
        have hm16 := Try.make16
        have hgs8 : g < b8 ∧ s < b8 := by have := hd7.head.lt; have := hd7.body.lt; omega
        have hcv0 := hcvAny.out w8.drew (fun _ => rfl)
        have hcv1 := hcvAny.out ((w8.alloc (.cells z16.toArray 5)).drew) (fun i => World.cell?_alloc_lt w8 _ ⟨b8, i, none⟩ hb82)
        clear hcell8 hcv7
        have hfree := write_free_i ((w8.alloc (.cells z16.toArray 5)).drew) ((hd8.alloc _).drew) 0 (by omega) (by omega) ⟨w8.heap.size, 0, none⟩ 16 (List.replicate 16 0) (Reads.of_blk (t := 5) (off := 0) (Blk.new w8 _ _).drew rfl (fun j u hu => by rw [Nat.zero_add]; simpa [u8s] using hu)) (by have := hd8.head.lt; simp; omega) (by split <;> omega)
        have hfree := Lib.hid hfree
        go_region_held3 (fun w' => Sem.run Try.prog (convert 27 9 (.slice (some ⟨b8, 0, none⟩) 16 c8)) w' = .ok (.string ((strOfNums bs).extract 0 16)) w') (first | exact hcv0 | exact hcv1 | exact hcv9 | exact hcv10)
          (first
          | (go_at_call 15; (with_reducible refine (hfree.out).mono ?_); rintro e w9 ⟨rfl, hd9, hc9⟩; have hcv9 := hcvAny.out w9 (fun i => (World.cell?_of_block (hc9.block b8 (by simp; omega) (by omega))).trans (World.cell?_alloc_lt w8 _ ⟨b8, i, none⟩ hb82)))
          | (go_at_call 19; (with_reducible refine (awake07 _).mono ?_); rintro e w10 ⟨rfl, hb10⟩; have hcv10 := hcvAny.out w10 (fun i => (hb10.cell (p := ⟨b8, i, none⟩) (by have := hc9.size; simp at this; show b8 < _; omega)).trans ((World.cell?_of_block (hc9.block b8 (by simp; omega) (by omega))).trans (World.cell?_alloc_lt w8 _ ⟨b8, i, none⟩ hb82)))))
        go_wp2
        go_ret
        have h8a : Below w.heap.size w ((w8.alloc (.cells z16.toArray 5)).drew) := (h8.alloc s8 _).drew
        have h9 : Below w.heap.size w w9 := h8a.trans (hc9.below Hgs.out h8a.size)
        exact ⟨rfl, h9.trans (hb10.mono h9.size)⟩

set_option maxRecDepth 100000 in
theorem lifted (os : Os) (started : os.Started) (H : Type) (enc : TypeId × Value → H) :
    ReturnsInHanded {} Try.checked os 3 .any (Rows.diskCutsSpec.pre6 enc Try.prog Try.f3 Rows.diskCutsRow.domain false) (Rows.diskCutsSpec.post enc Try.prog Try.f3 false true false false) := by
  refine lift_law (C := Try.checked) own started (by kernel_rfl) Try.func3
    (ChangeSpec.witness6 (enc := enc) (C := Try.checked) false ⟨#[], #[.int .i64 0, .int .i64 0, .slice none 0 0], []⟩ 8 (by kernel_rfl) (by kernel_rfl) (by kernel_rfl) (by kernel_rfl))
    laidOut (by kernel_rfl) rfl Try.underlying4 rfl (fun ds h => by match ds, h with | [d1, d2, d3], _ => rfl) ?_
  intro W base args ds p hval0 hA0 hsz
  have hval : ∀ (j : Nat) t v, Try.f3.params[j]? = some t → args[j]? = some v → Value.okWide Try.prog W .any base t v := hval0
  have hA : DataW.TrodAll enc Try.prog W 0 (fun _ => true) true Try.f3.params.toList args.toList ds p := hA0
  rw [Try.params3] at hA hval
  clear hA0 hval0
  obtain ⟨v0, vs0, d0, ds0, p0, q0, hargs, rfl, rfl, h0, r0⟩ := trodAll_cons hA
  obtain ⟨v1, vs1, d1, ds1, p1, q1, rfl, rfl, rfl, h1, r1⟩ := trodAll_cons r0
  obtain ⟨v2, vs2, d2, ds2, p2, q2, rfl, rfl, rfl, h2, r2⟩ := trodAll_cons r1
  obtain ⟨rfl, rfl, rfl⟩ := trodAll_nil r2
  obtain rfl := args_of_toList hargs
  obtain ⟨x0, rfl, _, _, _⟩ := open_int Try.underlying3 (hval 0 3 v0 rfl rfl) h0
  obtain ⟨x1, rfl, _, _, _⟩ := open_int Try.underlying3 (hval 1 3 v1 rfl rfl) h1
  obtain ⟨a2, l2, c2, rfl⟩ := okWide_slice Try.underlying22 (hval 2 22 v2 rfl rfl)
  obtain ⟨fuel, hf⟩ := h2
  obtain ⟨A, m, c, hcs, hm, hrows⟩ := open_rows_reads Try.underlying22 Try.underlying27 Try.underlying5 (by kernel_rfl) (by kernel_rfl) hf
  simp only [Value.cells, List.cons.injEq, Value.slice.injEq, and_true] at hcs
  obtain ⟨rfl, rfl, rfl⟩ := hcs
  unfold maxLen at hm
  exact walk x0 x1 _ _ _ W hrows (by omega)

theorem proved : Rows.DiskCutsSaid :=
  OpenClaim.holds_of_wide 3 Try.f3 rfl rfl rfl rfl rfl rfl rfl ⟨rfl, rfl, rfl, rfl, rfl⟩ rfl rfl rfl rfl rfl (by kernel_rfl) Try.func3 (by kernel_rfl)
    (of_decide_eq_true (by kernel_rfl)) (by unfold Func.isWrapper; first | (rw [if_pos (by decide +kernel)]; kernel_rfl) | (rw [if_neg (by decide +kernel)]; exact ⟨rfl, rfl⟩))
    (fun os started H enc _ => lifted os started H enc)
#print axioms proved

end cuts
end Go.Proofs.Ytkbcnapfcojekaa
