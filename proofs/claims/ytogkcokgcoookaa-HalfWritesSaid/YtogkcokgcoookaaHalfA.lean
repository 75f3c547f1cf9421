/-
  Layer 10 (half): slices.Clone at []api.Line, one (the code's) and One (the document's): a half-edge in memory of its own.
-/
import Derived.Test.YtogkcokgcoookaaHalfZ
import Derived.Deep.Onto
namespace Go.Proofs.Ytogkcokgcoookaa
open Go.RowKit Go.Shelf Go.Ed

set_option maxRecDepth 100000 in
set_option maxHeartbeats 2000000 in
theorem cloneL_any (w : World) (A : Option Addr) (n c : Nat) (xs : List Value) (hn0 : A = none → n = 0) (hn : n * 40 ≤ 140737488355328) (h1 : ∀ u ∈ xs, u.oneCell' = true) (hr : Reads w w.heap.size 4 A n xs) :
    Calls Try.prog 61 #[.slice A n c] w fun e w' => ∃ v, e = .returned v ∧ w'.ownsRow w.heap.size 44 4 v n xs ∧ Below w.heap.size w w' := by
  cases A with
  | none =>
    obtain rfl := hn0 rfl
    have hx : xs = [] := List.eq_nil_of_length_eq_zero (by simpa using hr.1)
    subst hx
    have e1 := fun w' => Lib.run_eql_slice_nil (P := Try.prog) w' 22 44 none 0 c 0 0 line_slice
    go_enter Try.func61, Try.ntmps61
    go_wp2
    go_ret
    exact ⟨_, rfl, World.ownsRow_nil _ _ _ _, by go_grown⟩
  | some ad =>
    have e1 := fun w' => Lib.run_eql_slice_nil (P := Try.prog) w' 22 44 (some ad) n c 0 0 line_slice
    go_enter Try.func61, Try.ntmps61
    have ho : (w.alloc (.cells #[] 44)).ownsRow w.heap.size 44 4 (.slice (some ⟨w.heap.size, 0, none⟩) 0 0) 0 [] := ⟨by simp, .inr ⟨_, 0, #[], rfl, Nat.le_refl _, heap_alloc_new _ _, by omega, by unfold maxLen; omega, by simp, by simp⟩⟩
    have hr0 := hr.alloc (Nat.le_refl _) (.cells #[] 44)
    go_wp2_with ((with_reducible refine go_append_at (c := c) line_slice line_inf ho hr0 h1 ?a0 ?a1 ?a2 ?a3 ?a4 ?a5 ?a6 ?_); (case a0 => simp); (case a1 => rfl); (case a2 => rfl); (case a3 => rfl); (case a4 => omega); (case a5 => unfold maxLen; omega); (case a6 => omega); rintro v w2 h1 h2 - -)
    go_ret
    rw [Nat.zero_add, List.nil_append] at h1
    exact ⟨_, rfl, h1, ((Below.refl _ w).alloc (Nat.le_refl _) _).trans h2⟩

/-- a half-edge whose lines are the call's own -/
def OneHalf (w : World) (h : Half) (e : Ending) (w' : World) : Prop := ∃ A c, e = .returned (HV.val ⟨h, A, c⟩) ∧ h.lines.length ≤ c ∧ w'.ownsRow w.heap.size 44 4 (.slice A h.lines.length c) h.lines.length (flat Line.cells h.lines) ∧ Below w.heap.size w w'

set_option maxRecDepth 100000 in
set_option maxHeartbeats 2000000 in
theorem one_any (w : World) (p bo li : Int) (ls : List Line) (A : Option Addr) (c : Nat) (pe : Bool) (mi : Int) (hn : ls.length * 40 ≤ 140737488355328) (hI : LinesAt w w.heap.size A ls.length ls) :
    Calls Try.prog 46 #[.agg #[.int .i64 p, .int .i64 bo, .int .i64 li, .slice A ls.length c, .bool pe, .int .i64 mi]] w (OneHalf w ⟨p, bo, li, ls, pe, mi⟩) := by
  obtain ⟨g, hg⟩ : ∃ g, g = w.heap.size := ⟨_, rfl⟩
  have hb0 : Below w.heap.size w ((w.alloc (.cells #[.int .i64 p, .int .i64 bo, .int .i64 li, .slice A ls.length c, .bool pe, .int .i64 mi] 24)).alloc (.cells #[.int .i64 0, .int .i64 0, .int .i64 0, .slice none 0 0, .bool false, .int .i64 0] 24)) := ((Below.refl _ w).alloc (Nat.le_refl _) _).alloc (by simp) _
  have hB0 : Blk ((w.alloc (.cells #[.int .i64 p, .int .i64 bo, .int .i64 li, .slice A ls.length c, .bool pe, .int .i64 mi] 24)).alloc (.cells #[.int .i64 0, .int .i64 0, .int .i64 0, .slice none 0 0, .bool false, .int .i64 0] 24)) g 24 #[.int .i64 p, .int .i64 bo, .int .i64 li, .slice A ls.length c, .bool pe, .int .i64 mi] := by rw [hg]; exact (Blk.new _ _ _).alloc _
  have hZ0 : Blk ((w.alloc (.cells #[.int .i64 p, .int .i64 bo, .int .i64 li, .slice A ls.length c, .bool pe, .int .i64 mi] 24)).alloc (.cells #[.int .i64 0, .int .i64 0, .int .i64 0, .slice none 0 0, .bool false, .int .i64 0] 24)) (g + 1) 24 #[.int .i64 0, .int .i64 0, .int .i64 0, .slice none 0 0, .bool false, .int .i64 0] := Blk.new' (by simp [hg])
  go_enter Try.func46, Try.ntmps46
  go_wp2_with fail
  generalize (w.alloc (.cells #[.int .i64 p, .int .i64 bo, .int .i64 li, .slice A ls.length c, .bool pe, .int .i64 mi] 24)).alloc (.cells #[.int .i64 0, .int .i64 0, .int .i64 0, .slice none 0 0, .bool false, .int .i64 0] 24) = W0 at *
  rw [← hg]
  replace hg := Lib.hid hg
  refine (cloneL_any _ A ls.length c (flat Line.cells ls) (LinesAt.none hI) hn (flat_one _ Line.one ls) (Reads.more (Reads.below hI hb0) hb0.size)).mono ?_
  rintro e w1 ⟨v, rfl, hown, h1⟩
  obtain ⟨A1, c1, rfl, hc1, _⟩ := own_slice hown
  have hb1 := hb0.trans (h1.mono hb0.size)
  have hB1 := hB0.below h1 hB0.lt
  have hZ1 := hZ0.below h1 hZ0.lt
  have hs0 := hb0.size
  have hbase : g < W0.heap.size := hB0.lt
  have hbase2 : g + 1 < W0.heap.size := hZ0.lt
  obtain ⟨k0, k1, k2, k3, k4, k5⟩ := cells6 hB1
  have f3 := hB1.frozen 3
  have hZ2 := hZ1.far (p := ⟨g, 3, none⟩) (by show g + 1 ≠ g; omega) (.slice A1 ls.length c1)
  have hB2 : Blk (w1.setCell ⟨g, 3, none⟩ (.slice A1 ls.length c1)) g 24 #[.int .i64 p, .int .i64 bo, .int .i64 li, .slice A1 ls.length c1, .bool pe, .int .i64 mi] := hB1.set_ 3 _
  clear hB0 hZ0 h1 hZ1 hb0 hB1
  replace hs0 := Lib.hid hs0
  replace hZ2 := Lib.hid hZ2
  replace hB2 := Lib.hid hB2
  go_wp2_with ((with_reducible refine go_store_as (off := 0) (vs := #[.int .i64 p, .int .i64 bo, .int .i64 li, .slice A1 ls.length c1, .bool pe, .int .i64 mi]) #[.int .i64 p, .int .i64 bo, .int .i64 li, .slice A1 ls.length c1, .bool pe, .int .i64 mi] agg_Half hZ2.out ?b1 ?b2 ?b3 ?b4 ?b5 ?b6 ?_); (case b1 => rfl); (case b2 => rfl); (case b3 => rfl); (case b4 => simp); (case b5 => simp [Value.oneCell']); (case b6 => rfl); intro w4 hB4 hC4)
  refine bodyPost_ret (results_blk rfl agg_Half hB4 rfl) rfl ?_
  have hc3 : Chg (fun i => i = g ∨ i = g + 1) w1 w4 := (((Chg.refl (· = g) w1).setCell (p := ⟨g, 3, none⟩) (fun _ => rfl) _).mono (fun i h => .inl h)).trans (hC4.mono (fun i h => .inr h))
  refine ⟨A1, c1, rfl, hc1, ?_, hb1.trans (hc3.below (fun i h => by have := hg.out; omega) hb1.size)⟩
  have := own_chg hown hc3 (fun i hi => by have := (hown.lt i hi).1; omega)
  exact World.ownsRow.mono this hs0.out

set_option maxRecDepth 100000 in
set_option maxHeartbeats 2000000 in
theorem refOne_any (w : World) (p bo li : Int) (ls : List Line) (A : Option Addr) (c : Nat) (pe : Bool) (mi : Int) (hn : ls.length * 40 ≤ 140737488355328) (hI : LinesAt w w.heap.size A ls.length ls) :
    Calls Try.prog 12 #[.agg #[.int .i64 p, .int .i64 bo, .int .i64 li, .slice A ls.length c, .bool pe, .int .i64 mi]] w (OneHalf w ⟨p, bo, li, ls, pe, mi⟩) := by
  obtain ⟨g, hg⟩ : ∃ g, g = w.heap.size := ⟨_, rfl⟩
  go_enter Try.func12, Try.ntmps12
  have hr0 : Reads w w.heap.size 4 A ls.length (flat Line.cells ls) := hI
  have h1 := flat_one _ Line.one ls
  have hb0 : Below w.heap.size w (((w.alloc (.cells #[.int .i64 p, .int .i64 bo, .int .i64 li, .slice A ls.length c, .bool pe, .int .i64 mi] 24)).alloc (.cells #[.int .i64 0, .int .i64 0, .int .i64 0, .slice none 0 0, .bool false, .int .i64 0] 24)).alloc (.cells #[.int .i64 p, .int .i64 bo, .int .i64 li, .slice none 0 0, .bool pe, .int .i64 mi] 24)) := (((Below.refl _ w).alloc (Nat.le_refl _) _).alloc (by simp) _).alloc (by simp; omega) _
  have hr3 := hr0.below hb0
  have hT0 : Blk (((w.alloc (.cells #[.int .i64 p, .int .i64 bo, .int .i64 li, .slice A ls.length c, .bool pe, .int .i64 mi] 24)).alloc (.cells #[.int .i64 0, .int .i64 0, .int .i64 0, .slice none 0 0, .bool false, .int .i64 0] 24)).alloc (.cells #[.int .i64 p, .int .i64 bo, .int .i64 li, .slice none 0 0, .bool pe, .int .i64 mi] 24)) (w.heap.size + 1 + 1) 24 #[.int .i64 p, .int .i64 bo, .int .i64 li, .slice none 0 0, .bool pe, .int .i64 mi] := Blk.new' (by simp)
  have hZ0 : Blk (((w.alloc (.cells #[.int .i64 p, .int .i64 bo, .int .i64 li, .slice A ls.length c, .bool pe, .int .i64 mi] 24)).alloc (.cells #[.int .i64 0, .int .i64 0, .int .i64 0, .slice none 0 0, .bool false, .int .i64 0] 24)).alloc (.cells #[.int .i64 p, .int .i64 bo, .int .i64 li, .slice none 0 0, .bool pe, .int .i64 mi] 24)) (w.heap.size + 1) 24 #[.int .i64 0, .int .i64 0, .int .i64 0, .slice none 0 0, .bool false, .int .i64 0] := (Blk.new' (by simp)).alloc _
  replace hT0 := Lib.hid hT0
  replace hZ0 := Lib.hid hZ0
  replace hg := Lib.hid hg
  go_wp2_with (first
    | ((with_reducible refine go_append_at (c := c) line_slice line_inf (World.ownsRow_nil _ (w.heap.size + 1 + 1 + 1) _ _) hr3 h1 ?a0 ?a1 ?a2 ?a3 ?a4 ?a5 ?a6 ?_); (case a0 => simp); (case a1 => rfl); (case a2 => rfl); (case a3 => rfl); (case a4 => omega); (case a5 => unfold maxLen; omega); (case a6 => omega); rintro v w2 hown hbel hgr hob; rw [Nat.zero_add, List.nil_append] at hown; obtain ⟨A1, c1, rfl, hc1, _⟩ := own_slice hown; have hT2 := hT0.out.below hbel (by omega); have hZ2 := Lib.hid ((hZ0.out.below hbel (by omega)).far (p := ⟨w.heap.size + 1 + 1, 3, none⟩) (by show w.heap.size + 1 ≠ w.heap.size + 1 + 1; omega) (.slice A1 ls.length c1)); obtain ⟨k0, k1, k2, k3, k4, k5⟩ := cells6 hT2; have f3 := hT2.frozen 3; clear hT2)
    | ((with_reducible refine go_store_as (off := 0) (vs := #[.int .i64 p, .int .i64 bo, .int .i64 li, .slice A1 ls.length c1, .bool pe, .int .i64 mi]) #[.int .i64 p, .int .i64 bo, .int .i64 li, .slice A1 ls.length c1, .bool pe, .int .i64 mi] agg_Half hZ2.out ?b1 ?b2 ?b3 ?b4 ?b5 ?b6 ?_); (case b1 => rfl); (case b2 => rfl); (case b3 => rfl); (case b4 => simp); (case b5 => simp [Value.oneCell']); (case b6 => rfl); intro w4 hB4 hC4))
  refine bodyPost_ret (results_blk rfl agg_Half hB4 rfl) rfl ?_
  have hb2 : Below w.heap.size w w2 := hb0.trans (hbel.mono (by omega))
  have hc3 : Chg (fun i => i = w.heap.size + 1 + 1 ∨ i = w.heap.size + 1) w2 w4 := (((Chg.refl (· = w.heap.size + 1 + 1) w2).setCell (p := ⟨w.heap.size + 1 + 1, 3, none⟩) (fun _ => rfl) _).mono (fun i h => .inl h)).trans (hC4.mono (fun i h => .inr h))
  refine ⟨A1, c1, rfl, hc1, ?_, hb2.trans (hc3.below (fun i h => by omega) hb2.size)⟩
  have := own_chg hown hc3 (fun i hi => by have := (hown.lt i hi).1; omega)
  exact World.ownsRow.mono this (by omega)

end Go.Proofs.Ytogkcokgcoookaa
