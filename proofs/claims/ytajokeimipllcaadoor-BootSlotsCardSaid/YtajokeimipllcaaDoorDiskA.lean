/-
  Layer 7 (disk): the small functions of a disk, each by its contract.
-/
import Derived.Test.YtajokeimipllcaaDoorRows
import Derived.Test.YtajokeimipllcaaDoorBase
import Derived.WalkLawsBesides
import Derived.WalkSpells
import Derived.ProofKit
import Derived.Handy
import Derived.StillTailTactics
import Derived.Outline
namespace Go.Proofs.YtajokeimipllcaaDoor
open Go.ChangeShapes Go.WideShapes Go.ChangeAt Go.RowKit Go.Ed

/-- A disk that was made: its struct is block g, its bytes are block s. -/
structure Dsk (w : World) (g s : Nat) (gone cut : Bool) (left : Int) (n : Nat) (writes : Int) (bs : List Int) : Prop where
  head : Blk w g 53 #[.bool gone, .bool cut, .int .i64 left, .slice (some ⟨s, 0, none⟩) n n, .int .i64 writes]
  body : Blk w s 64 (bs.map (Value.int .u8)).toArray
  len : bs.length = n * 16
  pos : 0 < n
  most : n ≤ 64
  ne : g ≠ s
  left0 : 0 ≤ left ∧ left ≤ 9223372036854775807
  writes0 : 0 ≤ writes ∧ writes ≤ 4611686018427387904

section
variable {w w' : World} {g s n : Nat} {gone cut : Bool} {left writes : Int} {bs : List Int}
theorem Dsk.c0 (h : Dsk w g s gone cut left n writes bs) : w.cell? ⟨g, 0, none⟩ = some (.bool gone) := by rw [h.head.cell]; rfl
theorem Dsk.c1 (h : Dsk w g s gone cut left n writes bs) : w.cell? ⟨g, 1, none⟩ = some (.bool cut) := by rw [h.head.cell]; rfl
theorem Dsk.c2 (h : Dsk w g s gone cut left n writes bs) : w.cell? ⟨g, 2, none⟩ = some (.int .i64 left) := by rw [h.head.cell]; rfl
theorem Dsk.c3 (h : Dsk w g s gone cut left n writes bs) : w.cell? ⟨g, 3, none⟩ = some (.slice (some ⟨s, 0, none⟩) n n) := by rw [h.head.cell]; rfl
theorem Dsk.c4 (h : Dsk w g s gone cut left n writes bs) : w.cell? ⟨g, 4, none⟩ = some (.int .i64 writes) := by rw [h.head.cell]; rfl
theorem Dsk.n0 (h : Dsk w g s gone cut left n writes bs) : ((n : Int) == 0) = false := by have := h.pos; simp; omega
theorem Dsk.chg {S : Nat → Prop} (h : Dsk w g s gone cut left n writes bs) (hb : Chg S w w') (hg : ¬ S g) (hs : ¬ S s) : Dsk w' g s gone cut left n writes bs :=
  { h with head := h.head.chg hb hg, body := h.body.chg hb hs }
theorem Dsk.alloc (h : Dsk w g s gone cut left n writes bs) (o : Obj) : Dsk (w.alloc o) g s gone cut left n writes bs :=
  { h with head := h.head.alloc o, body := h.body.alloc o }
theorem Dsk.drew (h : Dsk w g s gone cut left n writes bs) : Dsk w.drew g s gone cut left n writes bs :=
  { h with head := h.head, body := h.body }
theorem Dsk.below {B : Nat} (h : Dsk w g s gone cut left n writes bs) (hb : Below B w w') (hg : g < B) (hs : s < B) : Dsk w' g s gone cut left n writes bs :=
  { h with head := h.head.below hb hg, body := h.body.below hb hs }
end

/-! ### none, Dead, Sectors, Writes -/
theorem none_nil (w : World) : Calls Tryd.prog 21 #[.pointer none] w fun e w' => e = .returned (.bool true) ∧ w = w' := by
  go_enter Tryd.func21, Tryd.ntmps21
  go_wp2
  go_ret
  exact ⟨rfl, rfl⟩
theorem none_zero (w : World) (g : Nat) (h : w.cell? ⟨g, 3, none⟩ = some (.slice none 0 0)) :
    Calls Tryd.prog 21 #[.pointer (some ⟨g, 0, none⟩)] w fun e w' => e = .returned (.bool true) ∧ w = w' := by
  go_enter Tryd.func21, Tryd.ntmps21
  go_wp2
  go_ret
  exact ⟨rfl, rfl⟩
theorem none_no (w : World) {g s n : Nat} {gone cut : Bool} {left writes : Int} {bs : List Int} (hd : Dsk w g s gone cut left n writes bs) :
    Calls Tryd.prog 21 #[.pointer (some ⟨g, 0, none⟩)] w fun e w' => e = .returned (.bool false) ∧ w = w' := by
  have h3 := hd.c3
  have hn := hd.n0
  go_enter Tryd.func21, Tryd.ntmps21
  go_wp2
  go_ret
  exact ⟨rfl, rfl⟩

theorem dead_nil (w : World) : Calls Tryd.prog 22 #[.pointer none] w fun e w' => e = .returned (.bool true) ∧ w = w' := by
  go_enter Tryd.func22, Tryd.ntmps22
  go_wp2_with (go_at_call 21; refine (none_nil _).mono ?_; rintro e w' ⟨rfl, rfl⟩)
  go_ret
  exact ⟨rfl, rfl⟩
theorem dead_zero (w : World) (g : Nat) (h : w.cell? ⟨g, 3, none⟩ = some (.slice none 0 0)) :
    Calls Tryd.prog 22 #[.pointer (some ⟨g, 0, none⟩)] w fun e w' => e = .returned (.bool true) ∧ w = w' := by
  go_enter Tryd.func22, Tryd.ntmps22
  go_wp2_with (go_at_call 21; refine (none_zero _ _ h).mono ?_; rintro e w' ⟨rfl, rfl⟩)
  go_ret
  exact ⟨rfl, rfl⟩
theorem dead_any (w : World) {g s n : Nat} {gone cut : Bool} {left writes : Int} {bs : List Int} (hd : Dsk w g s gone cut left n writes bs) :
    Calls Tryd.prog 22 #[.pointer (some ⟨g, 0, none⟩)] w fun e w' => e = .returned (.bool gone) ∧ w = w' := by
  have h0 := hd.c0
  go_enter Tryd.func22, Tryd.ntmps22
  go_wp2_with (go_at_call 21; refine (none_no _ hd).mono ?_; rintro e w' ⟨rfl, rfl⟩)
  go_ret
  exact ⟨rfl, rfl⟩

theorem sectors_nil (w : World) : Calls Tryd.prog 23 #[.pointer none] w fun e w' => e = .returned (.int .i64 0) ∧ w = w' := by
  go_enter Tryd.func23, Tryd.ntmps23
  go_wp2_with (go_at_call 21; refine (none_nil _).mono ?_; rintro e w' ⟨rfl, rfl⟩)
  go_ret
  exact ⟨rfl, rfl⟩
theorem sectors_zero (w : World) (g : Nat) (h : w.cell? ⟨g, 3, none⟩ = some (.slice none 0 0)) :
    Calls Tryd.prog 23 #[.pointer (some ⟨g, 0, none⟩)] w fun e w' => e = .returned (.int .i64 0) ∧ w = w' := by
  go_enter Tryd.func23, Tryd.ntmps23
  go_wp2_with (go_at_call 21; refine (none_zero _ _ h).mono ?_; rintro e w' ⟨rfl, rfl⟩)
  go_ret
  exact ⟨rfl, rfl⟩
theorem sectors_any (w : World) {g s n : Nat} {gone cut : Bool} {left writes : Int} {bs : List Int} (hd : Dsk w g s gone cut left n writes bs) :
    Calls Tryd.prog 23 #[.pointer (some ⟨g, 0, none⟩)] w fun e w' => e = .returned (.int .i64 n) ∧ w = w' := by
  have h3 := hd.c3
  go_enter Tryd.func23, Tryd.ntmps23
  go_wp2_with (go_at_call 21; refine (none_no _ hd).mono ?_; rintro e w' ⟨rfl, rfl⟩)
  go_ret
  exact ⟨rfl, rfl⟩

theorem writes_nil (w : World) : Calls Tryd.prog 16 #[.pointer none] w fun e w' => e = .returned (.int .i64 0) ∧ w = w' := by
  go_enter Tryd.func16, Tryd.ntmps16
  go_wp2_with (go_at_call 21; refine (none_nil _).mono ?_; rintro e w' ⟨rfl, rfl⟩)
  go_ret
  exact ⟨rfl, rfl⟩
theorem writes_zero (w : World) (g : Nat) (h : w.cell? ⟨g, 3, none⟩ = some (.slice none 0 0)) :
    Calls Tryd.prog 16 #[.pointer (some ⟨g, 0, none⟩)] w fun e w' => e = .returned (.int .i64 0) ∧ w = w' := by
  go_enter Tryd.func16, Tryd.ntmps16
  go_wp2_with (go_at_call 21; refine (none_zero _ _ h).mono ?_; rintro e w' ⟨rfl, rfl⟩)
  go_ret
  exact ⟨rfl, rfl⟩
theorem writes_any (w : World) {g s n : Nat} {gone cut : Bool} {left writes : Int} {bs : List Int} (hd : Dsk w g s gone cut left n writes bs) :
    Calls Tryd.prog 16 #[.pointer (some ⟨g, 0, none⟩)] w fun e w' => e = .returned (.int .i64 writes) ∧ w = w' := by
  have h4 := hd.c4
  go_enter Tryd.func16, Tryd.ntmps16
  go_wp2_with (go_at_call 21; refine (none_no _ hd).mono ?_; rintro e w' ⟨rfl, rfl⟩)
  go_ret
  exact ⟨rfl, rfl⟩

theorem has_yes (w : World) {g s n : Nat} {gone cut : Bool} {left writes : Int} {bs : List Int} (hd : Dsk w g s gone cut left n writes bs) (k : Int) (h0 : 0 ≤ k) (h1 : k < n) :
    Calls Tryd.prog 27 #[.pointer (some ⟨g, 0, none⟩), .int .i64 k] w fun e w' => e = .returned (.bool true) ∧ w = w' := by
  have h3 := hd.c3
  have hk : decide (k < (n : Int)) = true := by simpa using h1
  go_enter Tryd.func27, Tryd.ntmps27
  go_wp2
  go_ret
  exact ⟨rfl, rfl⟩

/-! ### Cut, On -/
theorem cut_nil (w : World) (k : Int) : Calls Tryd.prog 13 #[.pointer none, .int .i64 k] w fun e w' => e = .returned (.tuple #[]) ∧ w = w' := by
  go_enter Tryd.func13, Tryd.ntmps13
  go_wp2_with (go_at_call 21; refine (none_nil _).mono ?_; rintro e w' ⟨rfl, rfl⟩)
  go_returns
  exact ⟨rfl, rfl⟩
theorem cut_zero (w : World) (g : Nat) (k : Int) (h : w.cell? ⟨g, 3, none⟩ = some (.slice none 0 0)) :
    Calls Tryd.prog 13 #[.pointer (some ⟨g, 0, none⟩), .int .i64 k] w fun e w' => e = .returned (.tuple #[]) ∧ w = w' := by
  go_enter Tryd.func13, Tryd.ntmps13
  go_wp2_with (go_at_call 21; refine (none_zero _ _ h).mono ?_; rintro e w' ⟨rfl, rfl⟩)
  go_returns
  exact ⟨rfl, rfl⟩
theorem cut_any (w : World) {g s n : Nat} {gone cut : Bool} {left writes : Int} {bs : List Int} (hd : Dsk w g s gone cut left n writes bs) (k : Int) (hk : 0 ≤ k) (hk' : k ≤ 9223372036854775807) :
    Calls Tryd.prog 13 #[.pointer (some ⟨g, 0, none⟩), .int .i64 k] w fun e w' => e = .returned (.tuple #[]) ∧ Dsk w' g s gone true k n writes bs ∧ Chg (· = g) w w' := by
  have h1 := hd.c1
  have h2 := hd.c2
  have f1 := hd.head.frozen 1
  have f2 := hd.head.frozen 2
  go_enter Tryd.func13, Tryd.ntmps13
  go_wp2_with (go_at_call 21; refine (none_no _ hd).mono ?_; rintro e w' ⟨rfl, rfl⟩)
  go_returns
  exact ⟨rfl, { hd with head := (hd.head.set_ 1 _).set_ 2 _, body := (hd.body.far (Ne.symm hd.ne) _).far (Ne.symm hd.ne) _, left0 := ⟨hk, hk'⟩ },
    ((Chg.refl _ _).setCell (fun _ => by rfl) _).setCell (fun _ => by rfl) _⟩

theorem on_nil (w : World) : Calls Tryd.prog 14 #[.pointer none] w fun e w' => e = .returned (.tuple #[]) ∧ w = w' := by
  go_enter Tryd.func14, Tryd.ntmps14
  go_wp2_with (go_at_call 21; refine (none_nil _).mono ?_; rintro e w' ⟨rfl, rfl⟩)
  go_returns
  exact ⟨rfl, rfl⟩
theorem on_zero (w : World) (g : Nat) (h : w.cell? ⟨g, 3, none⟩ = some (.slice none 0 0)) :
    Calls Tryd.prog 14 #[.pointer (some ⟨g, 0, none⟩)] w fun e w' => e = .returned (.tuple #[]) ∧ w = w' := by
  go_enter Tryd.func14, Tryd.ntmps14
  go_wp2_with (go_at_call 21; refine (none_zero _ _ h).mono ?_; rintro e w' ⟨rfl, rfl⟩)
  go_returns
  exact ⟨rfl, rfl⟩
theorem on_gone (w : World) {g s n : Nat} {cut : Bool} {left writes : Int} {bs : List Int} (hd : Dsk w g s true cut left n writes bs) :
    Calls Tryd.prog 14 #[.pointer (some ⟨g, 0, none⟩)] w fun e w' => e = .returned (.tuple #[]) ∧ Dsk w' g s false cut left n writes bs ∧ Chg (· = g) w w' := by
  have h0 := hd.c0
  have f0 := hd.head.frozen 0
  go_enter Tryd.func14, Tryd.ntmps14
  go_wp2_with (go_at_call 21; refine (none_no _ hd).mono ?_; rintro e w' ⟨rfl, rfl⟩)
  go_returns
  exact ⟨rfl, { hd with head := hd.head.set_ 0 _, body := hd.body.far (Ne.symm hd.ne) _ }, (Chg.refl _ _).setCell (fun _ => by rfl) _⟩
theorem on_there (w : World) {g s n : Nat} {cut : Bool} {left writes : Int} {bs : List Int} (hd : Dsk w g s false cut left n writes bs) :
    Calls Tryd.prog 14 #[.pointer (some ⟨g, 0, none⟩)] w fun e w' => e = .returned (.tuple #[]) ∧ Dsk w' g s false false left n writes bs ∧ Chg (· = g) w w' := by
  have h0 := hd.c0
  have h1 := hd.c1
  have f0 := hd.head.frozen 0
  have f1 := hd.head.frozen 1
  go_enter Tryd.func14, Tryd.ntmps14
  go_wp2_with (go_at_call 21; refine (none_no _ hd).mono ?_; rintro e w' ⟨rfl, rfl⟩)
  go_returns
  exact ⟨rfl, { hd with head := (hd.head.set_ 1 _).set_ 0 _, body := (hd.body.far (Ne.symm hd.ne) _).far (Ne.symm hd.ne) _ }, ((Chg.refl _ _).setCell (fun _ => by rfl) _).setCell (fun _ => by rfl) _⟩

/-! ### power.write -/
theorem power_stop (w : World) {g s n : Nat} {gone : Bool} {writes : Int} {bs : List Int} (hd : Dsk w g s gone true 0 n writes bs) :
    Calls Tryd.prog 28 #[.pointer (some ⟨g, 0, none⟩)] w fun e w' => e = .returned (.bool false) ∧ Dsk w' g s true false 0 n writes bs ∧ Chg (· = g) w w' := by
  have h0 := hd.c0
  have h1 := hd.c1
  have h2 := hd.c2
  have f0 := hd.head.frozen 0
  have f1 := hd.head.frozen 1
  go_enter Tryd.func28, Tryd.ntmps28
  go_wp2
  go_returns
  exact ⟨rfl, { hd with head := (hd.head.set_ 0 _).set_ 1 _, body := (hd.body.far (Ne.symm hd.ne) _).far (Ne.symm hd.ne) _ }, ((Chg.refl _ _).setCell (fun _ => by rfl) _).setCell (fun _ => by rfl) _⟩
theorem power_cut (w : World) {g s n : Nat} {gone : Bool} {left writes : Int} {bs : List Int} (hd : Dsk w g s gone true left n writes bs) (hl : 0 < left) :
    Calls Tryd.prog 28 #[.pointer (some ⟨g, 0, none⟩)] w fun e w' => e = .returned (.bool true) ∧ Dsk w' g s gone true (left - 1) n writes bs ∧ Chg (· = g) w w' := by
  have h1 := hd.c1
  have h2 := hd.c2
  have f2 := hd.head.frozen 2
  have hl0 : (left == 0) = false := by simp; omega
  have hl1 := hd.left0
  go_enter Tryd.func28, Tryd.ntmps28
  go_wp2
  go_returns
  exact ⟨rfl, { hd with head := hd.head.set_ 2 _, body := hd.body.far (Ne.symm hd.ne) _, left0 := by omega }, (Chg.refl _ _).setCell (fun _ => by rfl) _⟩
theorem power_free (w : World) {g s n : Nat} {gone : Bool} {left writes : Int} {bs : List Int} (hd : Dsk w g s gone false left n writes bs) :
    Calls Tryd.prog 28 #[.pointer (some ⟨g, 0, none⟩)] w fun e w' => e = .returned (.bool true) ∧ w = w' := by
  have h1 := hd.c1
  go_enter Tryd.func28, Tryd.ntmps28
  go_wp2
  go_returns
  exact ⟨rfl, rfl⟩

/-! ### New -/
theorem new_no (w : World) (k : Int) (h : k < 1) : Calls Tryd.prog 10 #[.int .i64 k] w fun e w' => e = .returned (.pointer none) ∧ w = w' := by
  go_enter Tryd.func10, Tryd.ntmps10
  go_wp2
  go_ret
  exact ⟨rfl, rfl⟩

theorem Tryd.info_sector : (Tryd.prog.info? 64).map (fun i => (i.zero, i.size, i.bytes)) = some (some (.agg (Array.replicate 16 (.int .u8 0))), 16, 16) := by kernel_rfl

/-- the bytes of a new disk -/
def zeros (n : Nat) : List Int := List.replicate (n * 16) 0

theorem new_any (w : World) (n : Nat) (h0 : 0 < n) (h1 : n ≤ 64) :
    Calls Tryd.prog 10 #[.int .i64 n] w fun e w' => ∃ g s, e = .returned (.pointer (some ⟨g, 0, none⟩)) ∧ w.heap.size ≤ g ∧ w.heap.size ≤ s ∧ Dsk w' g s false false 0 n 0 (zeros n) ∧ Below w.heap.size w w' := by
  obtain ⟨i0, hi, hz, hs, hb⟩ := info_parts Tryd.info_sector
  have hmk := fun W => run_make_rowN (P := Tryd.prog) 51 64 i0 _ Tryd.underlying51 hi hz .i64 .i64 n n (Nat.le_refl _) (by rw [hb]; omega) (by omega) W
  rw [hs] at hmk
  simp only [Value.cells, madeCells_rep _ 16 _ (by omega)] at hmk
  clear hi hz hs hb
  go_enter Tryd.func10, Tryd.ntmps10
  go_wp2
  go_returns
  refine ⟨_, _, rfl, ?_, ?_, { head := Blk.new' (by simp), body := ?_, len := by simp [zeros], pos := h0, most := h1, ne := ?_, left0 := by omega, writes0 := by omega }, ?_⟩
  · omega
  · exact Nat.le_refl _
  · have := (Blk.new w 64 (Array.replicate (n * 16) (Value.int .u8 0))).alloc (.cells #[.bool false, .bool false, .int .i64 0, .slice (some ⟨w.heap.size, 0, none⟩) n n, .int .i64 0] 53)
    simpa [zeros] using this
  · omega
  · exact ((Below.refl _ _).alloc (Nat.le_refl _) _).alloc (by simp) _

end Go.Proofs.YtajokeimipllcaaDoor
