/-
  Layer 7 (disk): Clone, Read, Image.
-/
import Derived.Test.YtkbcnapfcojekaaDiskA
namespace Go.Proofs.Ytkbcnapfcojekaa
open Go.ChangeShapes Go.WideShapes Go.ChangeAt Go.RowKit Go.Ed

theorem Try.inf_byte : Inf Try.prog 5 (.int .u8 0) 1 1 := Inf.of (by kernel_rfl)

/-- bytes as values -/
def u8s (l : List Int) : List Value := l.map (Value.int .u8)
theorem u8s_one (l : List Int) : ∀ u ∈ u8s l, u.oneCell' = true := by
  intro u hu
  simp only [u8s, List.mem_map] at hu
  obtain ⟨x, _, rfl⟩ := hu
  rfl

theorem Try.inf_sector : Inf Try.prog 84 (.agg (Array.replicate 16 (.int .u8 0))) 16 16 := Inf.of (by kernel_rfl)

theorem Try.agg_sector : Agg Try.prog 84 16 := ⟨_, Try.underlying84, rfl, by kernel_rfl⟩

set_option maxRecDepth 100000 in
theorem clone_any (w : World) (ad : Addr) (n c : Nat) (xs : List Int) (hr : Reads w w.heap.size 1 (some ad) n (u8s xs)) (hn : n ≤ 1048576) :
    Calls Try.prog 60 #[.slice (some ad) n c] w fun e w' => ∃ v, e = .returned v ∧ w'.ownsRow w.heap.size 5 1 v n (u8s xs) ∧ Below w.heap.size w w' := by
  have hnil := fun W => Lib.run_eql_slice_nil (P := Try.prog) W 27 5 (some ad) n c 0 0 Try.underlying27
  go_enter Try.func60, Try.ntmps60
  have hown0 := World.ownsRow_lit (base := w.heap.size) (e := 5) (size := 1) w #[] 0 (Nat.le_refl _) (by simp [maxLen]) rfl
  have hr0 := hr.alloc (Nat.le_refl _) (.cells #[] 5)
  go_wp2_with ((with_reducible refine go_append_at (c := c) Try.underlying27 Try.inf_byte hown0 hr0 (u8s_one xs) ?c1 ?c2 ?c3 ?c4 ?c5 ?c6 ?c7 ?_); (case c1 => simp); (case c2 => rfl); (case c3 => rfl); (case c4 => rfl); (case c5 => omega); (case c6 => simp only [maxLen]; omega); (case c7 => omega); intro v1 w1 hown1 hb1 hg1 hat1)
  simp only [Nat.zero_add, List.nil_append] at hown1
  go_returns
  exact ⟨v1, rfl, hown1, ((Below.refl _ _).alloc (Nat.le_refl _) _).trans hb1⟩

/-- the k-th sector's bytes -/
def sect (bs : List Int) (k : Nat) : List Int := (bs.drop (k * 16)).take 16

set_option maxRecDepth 100000 in
theorem read_any (w : World) {g s n : Nat} {cut : Bool} {left writes : Int} {bs : List Int} (hd : Dsk w g s false cut left n writes bs) (k : Nat) (hk : k < n) :
    Calls Try.prog 20 #[.pointer (some ⟨g, 0, none⟩), .int .i64 k] w fun e w' => ∃ v, e = .returned (.tuple #[v, .int .i64 0]) ∧ w'.ownsRow w.heap.size 5 1 v 16 (u8s (sect bs k)) ∧ Below w.heap.size w w' := by
  have h3 := hd.c3
  have hk1 : (k : Int) < (n : Int) := by omega
  have hrd : Reads w w.heap.size 1 (some ⟨s, k * 16, none⟩) 16 (u8s (sect bs k)) := by
    have hl := hd.len
    refine Reads.of_blk hd.body (by simp [u8s, sect]; omega) ?_
    intro j u hu
    simp only [u8s, sect, List.getElem?_map, List.getElem?_take, List.getElem?_drop] at hu
    split at hu
    · simpa using hu
    · simp at hu
  go_enter Try.func20, Try.ntmps20
  go_wp2_with (first | (go_at_call 16; refine (dead_any _ hd).mono ?_; rintro e w' ⟨rfl, rfl⟩) | (go_at_call 57; refine (has_yes _ hd k (by omega) (by omega)).mono ?_; rintro e w' ⟨rfl, rfl⟩) | (go_at_call 60; refine (clone_any _ _ _ _ (sect bs k) hrd (by omega)).mono ?_; rintro e w' ⟨v, rfl, hv, hb⟩))
  go_ret2
  exact ⟨v, rfl, hv, hb⟩

set_option maxRecDepth 100000 in
/-- Image: all bytes, in memory of the call's own. -/
theorem image_any (w : World) {g s n : Nat} {gone cut : Bool} {left writes : Int} {bs : List Int} (hd : Dsk w g s gone cut left n writes bs) :
    Calls Try.prog 14 #[.pointer (some ⟨g, 0, none⟩)] w fun e w' => ∃ v, e = .returned v ∧ w'.ownsRow w.heap.size 5 1 v (n * 16) (u8s bs) ∧ Below w.heap.size w w' := by
  have h3 := hd.c3
  have hl := hd.len
  have hm := hd.most
  go_enter Try.func14, Try.ntmps14
  go_wp2_with (go_at_call 56; refine (none_no _ hd).mono ?_; rintro e w' ⟨rfl, rfl⟩)
  go_loopw [3, 13] (fun v i wr => ∃ k : Nat, k ≤ n ∧ i = .int .i64 k ∧ wr.ownsRow w.heap.size 5 1 v (k * 16) (u8s (bs.take (k * 16))) ∧ Below w.heap.size w wr) (fun _ i _ => n - (intOf i).toNat)
  case atStart => exact ⟨0, Nat.zero_le _, rfl, World.ownsRow_nil _ _ _ _, Below.refl _ _⟩
  case round =>
    obtain ⟨k, hk, rfl, hown, hb⟩ := hrel
    have hdr := hd.below hb hd.head.lt hd.body.lt
    by_cases hlt : k < n
    · have hlt' : (k : Int) < (n : Int) := by omega
      have hbs : ((bs.map (Value.int .u8)).toArray).size = n * 16 := by simp [hl]
      have hsec : ((((bs.map (Value.int .u8)).toArray).toList).drop (k * 16)).take 16 = u8s (sect bs k) := by simp [u8s, sect, List.map_take, List.map_drop]
      have hsl : (u8s (sect bs k)).length = 16 := by simp [u8s, sect]; omega
      have hr1 : Reads (wr.alloc (.cells (u8s (sect bs k)).toArray 84)) (wr.alloc (.cells (u8s (sect bs k)).toArray 84)).heap.size 1 (some ⟨wr.heap.size, 0, none⟩) 16 (u8s (sect bs k)) :=
        Reads.of_blk (Blk.new wr _ _) (by simpa using hsl) (fun j u hu => by simpa using hu)
      have hown0 := hown.alloc (.cells (u8s (sect bs k)).toArray 84)
      go_wp2_with (first | ((with_reducible refine go_load_as (off := k * 16) (u8s (sect bs k)) Try.agg_sector hdr.body ?a1 ?a2 ?a3 ?_); (case a1 => rfl); (case a2 => (rw [hbs]; omega)); (case a3 => exact hsec)) | ((with_reducible refine go_store_new (vs := (u8s (sect bs k)).toArray) Try.agg_sector ?b1 ?b2 ?b3 ?b4 ?b5 ?_); (case b1 => rfl); (case b2 => rfl); (case b3 => simpa using hsl); (case b4 => simp); (case b5 => exact u8s_one _)) | ((with_reducible refine go_append_at (c := 16) Try.underlying27 Try.inf_byte hown0 hr1 (u8s_one _) ?c1 ?c2 ?c3 ?c4 ?c5 ?c6 ?c7 ?_); (case c1 => (have := hb.size; simp; omega)); (case c2 => rfl); (case c3 => rfl); (case c4 => rfl); (case c5 => omega); (case c6 => simp only [maxLen]; omega); (case c7 => omega); intro v1 w1 hown1 hb1 hg1 hat1))
      go_roundw
      case rel =>
        refine ⟨k + 1, by omega, by go_num, ?_, (hb.alloc hb.size _).trans hb1⟩
        have e : u8s (bs.take (k * 16)) ++ u8s (sect bs k) = u8s (bs.take ((k + 1) * 16)) := by
          simp only [u8s, sect, ← List.map_append]
          rw [show (k + 1) * 16 = k * 16 + 16 by omega, List.take_add]
        rw [← e, show (k + 1) * 16 = k * 16 + 16 by omega]
        exact hown1
      case measure => simp [intOf]; omega
    · have hkn : k = n := by omega
      subst hkn
      go_wp2
      go_ret
      rw [← hl, List.take_length] at hown
      exact ⟨u3, rfl, by rw [← hl]; exact hown, hb⟩

end Go.Proofs.Ytkbcnapfcojekaa
