/-
  Layer 8 (boot): Slots in all its ways; Last.
-/
import Derived.Test.YtajokeimipllcaaDoorBtE
set_option linter.unusedVariables false
namespace Go.Proofs.YtajokeimipllcaaDoor
open Go.ChangeShapes Go.WideShapes Go.ChangeAt Go.RowKit Go.Ed

theorem slots_ok (w : World) {g s n : Nat} {cut : Bool} {left writes : Int} {bs : List Int} (hd : Dsk w g s false cut left n writes bs) (ht : Tabs w) (hn4 : 4 ≤ n) (x0 x1 : Int) (hx0 : standS (sect bs 0) (sect bs 1) = x0) (hx1 : standS (sect bs 2) (sect bs 3) = x1) :
    Calls Tryd.prog 15 #[.pointer (some ⟨g, 0, none⟩)] w fun e w' => e = .returned (.tuple #[.int .i64 x0, .int .i64 x1, .int .i64 0]) ∧ Below w.heap.size w w' :=
  callsIn_wide.1 (slots_in w hd ht hn4 x0 x1 hx0 hx1)

set_option maxRecDepth 100000 in
theorem slots_dead (w : World) {g s n : Nat} {cut : Bool} {left writes : Int} {bs : List Int} (hd : Dsk w g s true cut left n writes bs) :
    Calls Tryd.prog 15 #[.pointer (some ⟨g, 0, none⟩)] w fun e w' => e = .returned (.tuple #[.int .i64 0, .int .i64 0, .int .i64 32]) ∧ Below w.heap.size w w' := by
  have hd3 : Dsk (((w.alloc (.cells #[.int .i64 0] 2)).alloc (.cells #[.int .i64 0] 2)).alloc (.cells #[.int .i64 0] 31)) g s true cut left n writes bs := ((hd.alloc _).alloc _).alloc _
  go_enter Tryd.func15, Tryd.ntmps15
  go_wp2_with (go_at_call 22; (with_reducible refine (dead_any _ hd3).mono ?_); rintro e w' ⟨rfl, rfl⟩)
  refine bodyPost_ret (results_cells3 (fn := Tryd.f15) rfl rfl rfl rfl (run_load_int Tryd.underlying2 ?_) (run_load_int Tryd.underlying2 ?_) (run_load_int Tryd.underlying31 ?_)) rfl ⟨rfl, (((Below.refl _ w).alloc (Nat.le_refl _) _).alloc (by simp) _).alloc (by simp <;> omega) _⟩
  · exact (((Blk.new w _ _).alloc _).alloc _).cell 0
  · exact ((Blk.new' (by simp)).alloc _).cell 0
  · exact (Blk.new' (by simp)).cell 0
set_option maxRecDepth 100000 in
theorem slots_short (w : World) {g s n : Nat} {cut : Bool} {left writes : Int} {bs : List Int} (hd : Dsk w g s false cut left n writes bs) (hn : n < 4) :
    Calls Tryd.prog 15 #[.pointer (some ⟨g, 0, none⟩)] w fun e w' => e = .returned (.tuple #[.int .i64 0, .int .i64 0, .int .i64 31]) ∧ Below w.heap.size w w' := by
  have hn' : (n : Int) < 4 := by omega
  have hd3 : Dsk (((w.alloc (.cells #[.int .i64 0] 2)).alloc (.cells #[.int .i64 0] 2)).alloc (.cells #[.int .i64 0] 31)) g s false cut left n writes bs := ((hd.alloc _).alloc _).alloc _
  go_enter Tryd.func15, Tryd.ntmps15
  go_wp2_with (first | (go_at_call 22; (with_reducible refine (dead_any _ hd3).mono ?_); rintro e w' ⟨rfl, rfl⟩) | (go_at_call 23; (with_reducible refine (sectors_any _ hd3).mono ?_); rintro e w' ⟨rfl, rfl⟩))
  refine bodyPost_ret (results_cells3 (fn := Tryd.f15) rfl rfl rfl rfl (run_load_int Tryd.underlying2 ?_) (run_load_int Tryd.underlying2 ?_) (run_load_int Tryd.underlying31 ?_)) rfl ⟨rfl, (((Below.refl _ w).alloc (Nat.le_refl _) _).alloc (by simp) _).alloc (by simp <;> omega) _⟩
  · exact (((Blk.new w _ _).alloc _).alloc _).cell 0
  · exact ((Blk.new' (by simp)).alloc _).cell 0
  · exact (Blk.new' (by simp)).cell 0
set_option maxRecDepth 100000 in
theorem last_ok (w : World) {g : Nat} (x0 x1 e : Int) (hs : Calls Tryd.prog 15 #[.pointer (some ⟨g, 0, none⟩)] w fun e' w' => e' = .returned (.tuple #[.int .i64 x0, .int .i64 x1, .int .i64 e]) ∧ Below w.heap.size w w') :
    Calls Tryd.prog 11 #[.pointer (some ⟨g, 0, none⟩)] w fun e' w' => e' = .returned (.tuple #[.int .i64 (max x0 x1), .int .i64 e]) ∧ Below w.heap.size w w' := by
  have hs := Lib.hid hs
  go_enter Tryd.func11, Tryd.ntmps11
  go_wp2_with (go_at_call 15; refine hs.out.mono ?_; rintro e' w1 ⟨rfl, hb1⟩)
  all_goals go_ret2
  all_goals first | (have hm : max x0 x1 = x0 := by omega); (exact ⟨by rw [hm]; rfl, hb1⟩) | (have hm : max x0 x1 = x1 := by omega); (exact ⟨by rw [hm]; rfl, hb1⟩)
end Go.Proofs.YtajokeimipllcaaDoor
