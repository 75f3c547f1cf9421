/-
  Layer 7 (disk): Clone, Read.
-/
import Derived.Test.YtajokeimipllcaaDoorDiskA
namespace Go.Proofs.YtajokeimipllcaaDoor
open Go.ChangeShapes Go.WideShapes Go.ChangeAt Go.RowKit Go.Ed

theorem Tryd.inf_byte : Inf Tryd.prog 5 (.int .u8 0) 1 1 := Inf.of (by kernel_rfl)

/-- bytes as values -/
def u8s (l : List Int) : List Value := l.map (Value.int .u8)
theorem u8s_one (l : List Int) : ∀ u ∈ u8s l, u.oneCell' = true := by
  intro u hu
  simp only [u8s, List.mem_map] at hu
  obtain ⟨x, _, rfl⟩ := hu
  rfl

theorem Tryd.inf_sector : Inf Tryd.prog 64 (.agg (Array.replicate 16 (.int .u8 0))) 16 16 := Inf.of (by kernel_rfl)

theorem Tryd.agg_sector : Agg Tryd.prog 64 16 := ⟨_, Tryd.underlying64, rfl, by kernel_rfl⟩

set_option maxRecDepth 100000 in
theorem clone_any (w : World) (ad : Addr) (n c : Nat) (xs : List Int) (hr : Reads w w.heap.size 1 (some ad) n (u8s xs)) (hn : n ≤ 1048576) :
    Calls Tryd.prog 32 #[.slice (some ad) n c] w fun e w' => ∃ v, e = .returned v ∧ w'.ownsRow w.heap.size 5 1 v n (u8s xs) ∧ Below w.heap.size w w' := by
  have hnil := fun W => Lib.run_eql_slice_nil (P := Tryd.prog) W 22 5 (some ad) n c 0 0 Tryd.underlying22
  go_enter Tryd.func32, Tryd.ntmps32
  have hown0 := World.ownsRow_lit (base := w.heap.size) (e := 5) (size := 1) w #[] 0 (Nat.le_refl _) (by simp [maxLen]) rfl
  have hr0 := hr.alloc (Nat.le_refl _) (.cells #[] 5)
  go_wp2_with ((with_reducible refine go_append_at (c := c) Tryd.underlying22 Tryd.inf_byte hown0 hr0 (u8s_one xs) ?c1 ?c2 ?c3 ?c4 ?c5 ?c6 ?c7 ?_); (case c1 => simp); (case c2 => rfl); (case c3 => rfl); (case c4 => rfl); (case c5 => omega); (case c6 => simp only [maxLen]; omega); (case c7 => omega); intro v1 w1 hown1 hb1 hg1 hat1)
  simp only [Nat.zero_add, List.nil_append] at hown1
  go_returns
  exact ⟨v1, rfl, hown1, ((Below.refl _ _).alloc (Nat.le_refl _) _).trans hb1⟩

/-- the k-th sector's bytes -/
def sect (bs : List Int) (k : Nat) : List Int := (bs.drop (k * 16)).take 16

set_option maxRecDepth 100000 in
theorem read_any (w : World) {g s n : Nat} {cut : Bool} {left writes : Int} {bs : List Int} (hd : Dsk w g s false cut left n writes bs) (k : Nat) (hk : k < n) :
    Calls Tryd.prog 30 #[.pointer (some ⟨g, 0, none⟩), .int .i64 k] w fun e w' => ∃ v, e = .returned (.tuple #[v, .int .i64 0]) ∧ w'.ownsRow w.heap.size 5 1 v 16 (u8s (sect bs k)) ∧ Below w.heap.size w w' := by
  have h3 := hd.c3
  have hk1 : (k : Int) < (n : Int) := by omega
  have hrd : Reads w w.heap.size 1 (some ⟨s, k * 16, none⟩) 16 (u8s (sect bs k)) := by
    have hl := hd.len
    refine Reads.of_blk hd.body (by simp [u8s, sect]; omega) ?_
    intro j u hu
    simp only [u8s, sect, List.getElem?_map, List.getElem?_take, List.getElem?_drop] at hu
    split at hu
    · simpa using hu
    · simp at hu
  go_enter Tryd.func30, Tryd.ntmps30
  go_wp2_with (first | (go_at_call 22; refine (dead_any _ hd).mono ?_; rintro e w' ⟨rfl, rfl⟩) | (go_at_call 27; refine (has_yes _ hd k (by omega) (by omega)).mono ?_; rintro e w' ⟨rfl, rfl⟩) | (go_at_call 32; refine (clone_any _ _ _ _ (sect bs k) hrd (by omega)).mono ?_; rintro e w' ⟨v, rfl, hv, hb⟩))
  go_ret2
  exact ⟨v, rfl, hv, hb⟩

end Go.Proofs.YtajokeimipllcaaDoor
