/-
  Layer 14 (shake): Begins, Parts, the code's and the document's.
-/
import Derived.Test.YtkbcnapfcojekaaHalfE
import Derived.Test.YtkbcnapfcojekaaShakeJ
import Derived.BigGuardPart
namespace Go.Proofs.Ytkbcnapfcojekaa
open Go.ChangeShapes Go.WideShapes Go.ChangeAt Go.RowKit Go.Shelf Go.Ed

def begins (o : Option Half) (bo li : Int) : Bool := match o with
  | none => true
  | some h => later bo li h.boot h.life
def parts (o : Option Half) (bo li : Int) : Bool := match o with
  | none => false
  | some h => h.boot == bo && h.life == li

set_option maxRecDepth 100000 in
set_option maxHeartbeats 4000000 in
theorem begins_any (w : World) (A : Option Addr) (n c : Nat) (o : Option Half) (kd src dst bo li ec el : Int) (A2 : Option Addr) (n2 c2 : Nat) (hF : ∀ W, Below w.heap.size w W → Calls Try.prog 75 #[.slice A n c, .int .i64 src] W (Found W o)) :
    Calls Try.prog 49 #[.slice A n c, .agg #[.int .i64 kd, .int .i64 src, .int .i64 dst, .int .i64 bo, .int .i64 li, .int .i64 ec, .int .i64 el, .slice A2 n2 c2]] w fun e w' => e = .returned (.bool (begins o bo li)) ∧ Below w.heap.size w w' := by
  obtain ⟨g, hg⟩ : ∃ g, g = w.heap.size := ⟨_, rfl⟩
  replace hF := Lib.hid hF
  have hb0 : Below w.heap.size w (w.alloc (.cells #[.int .i64 kd, .int .i64 src, .int .i64 dst, .int .i64 bo, .int .i64 li, .int .i64 ec, .int .i64 el, .slice A2 n2 c2] 71)) := (Below.refl _ w).alloc (Nat.le_refl _) _
  have hB0 : Blk (w.alloc (.cells #[.int .i64 kd, .int .i64 src, .int .i64 dst, .int .i64 bo, .int .i64 li, .int .i64 ec, .int .i64 el, .slice A2 n2 c2] 71)) g 71 #[.int .i64 kd, .int .i64 src, .int .i64 dst, .int .i64 bo, .int .i64 li, .int .i64 ec, .int .i64 el, .slice A2 n2 c2] := by rw [hg]; exact Blk.new _ _ _
  go_enter Try.func49, Try.ntmps49
  go_wp2_with fail
  generalize w.alloc (.cells #[.int .i64 kd, .int .i64 src, .int .i64 dst, .int .i64 bo, .int .i64 li, .int .i64 ec, .int .i64 el, .slice A2 n2 c2] 71) = W0 at *
  rw [← hg]
  replace hg := Lib.hid hg
  refine (hF.out _ hb0).mono ?_
  rintro e w1 ⟨A3, c3, rfl, -, -, h1⟩
  have hb1 := hb0.trans (h1.mono hb0.size)
  have hB1 := hB0.below h1 hB0.lt
  clear hB0 h1 hb0 hF
  obtain ⟨k0, k1, k2, k3, k4, k5, k6, k7⟩ := cells8 hB1
  have hl1 : g < w1.heap.size := hB1.lt
  replace k3 := cell_alloc k3 hl1
  replace k4 := cell_alloc k4 hl1
  clear k0 k1 k2 k5 k6 k7 hB1
  cases o with
  | none =>
    simp only [HV.val, Option.getD_none, Option.isSome_none, zeroHalf]
    go_wp2_with fail
    go_ret
    exact ⟨rfl, hb1.alloc hb1.size _⟩
  | some h =>
    obtain ⟨p, hb, hl, ls, pe, mi⟩ := h
    simp only [HV.val, Option.getD_some, Option.isSome_some]
    go_wp2_with fail
    refine (Later_any _ bo li hb hl).mono ?_
    rintro e w2 ⟨rfl, h2⟩
    go_wp2_with fail
    go_ret
    first
      | exact ⟨rfl, (hb1.alloc hb1.size _).trans (h2.mono (by have := hb1.size; simp; omega))⟩
      | exact ⟨rfl, hb1.alloc hb1.size _⟩
set_option maxRecDepth 100000 in
set_option maxHeartbeats 4000000 in
theorem refBegins_any (w : World) (A : Option Addr) (n c : Nat) (o : Option Half) (kd src dst bo li ec el : Int) (A2 : Option Addr) (n2 c2 : Nat) (hF : ∀ W, Below w.heap.size w W → Calls Try.prog 76 #[.slice A n c, .int .i64 src] W (Found W o)) :
    Calls Try.prog 50 #[.slice A n c, .agg #[.int .i64 kd, .int .i64 src, .int .i64 dst, .int .i64 bo, .int .i64 li, .int .i64 ec, .int .i64 el, .slice A2 n2 c2]] w fun e w' => e = .returned (.bool (begins o bo li)) ∧ Below w.heap.size w w' := by
  obtain ⟨g, hg⟩ : ∃ g, g = w.heap.size := ⟨_, rfl⟩
  replace hF := Lib.hid hF
  have hb0 : Below w.heap.size w (w.alloc (.cells #[.int .i64 kd, .int .i64 src, .int .i64 dst, .int .i64 bo, .int .i64 li, .int .i64 ec, .int .i64 el, .slice A2 n2 c2] 71)) := (Below.refl _ w).alloc (Nat.le_refl _) _
  have hB0 : Blk (w.alloc (.cells #[.int .i64 kd, .int .i64 src, .int .i64 dst, .int .i64 bo, .int .i64 li, .int .i64 ec, .int .i64 el, .slice A2 n2 c2] 71)) g 71 #[.int .i64 kd, .int .i64 src, .int .i64 dst, .int .i64 bo, .int .i64 li, .int .i64 ec, .int .i64 el, .slice A2 n2 c2] := by rw [hg]; exact Blk.new _ _ _
  go_enter Try.func50, Try.ntmps50
  go_wp2_with fail
  generalize w.alloc (.cells #[.int .i64 kd, .int .i64 src, .int .i64 dst, .int .i64 bo, .int .i64 li, .int .i64 ec, .int .i64 el, .slice A2 n2 c2] 71) = W0 at *
  rw [← hg]
  replace hg := Lib.hid hg
  refine (hF.out _ hb0).mono ?_
  rintro e w1 ⟨A3, c3, rfl, -, -, h1⟩
  have hb1 := hb0.trans (h1.mono hb0.size)
  have hB1 := hB0.below h1 hB0.lt
  clear hB0 h1 hb0 hF
  obtain ⟨k0, k1, k2, k3, k4, k5, k6, k7⟩ := cells8 hB1
  have hl1 : g < w1.heap.size := hB1.lt
  replace k3 := cell_alloc k3 hl1
  replace k4 := cell_alloc k4 hl1
  clear k0 k1 k2 k5 k6 k7 hB1
  cases o with
  | none =>
    simp only [HV.val, Option.getD_none, Option.isSome_none, zeroHalf]
    go_wp2_with fail
    go_ret
    exact ⟨rfl, hb1.alloc hb1.size _⟩
  | some h =>
    obtain ⟨p, hb, hl, ls, pe, mi⟩ := h
    simp only [HV.val, Option.getD_some, Option.isSome_some]
    go_wp2_with fail
    refine (refLater_any _ bo li hb hl).mono ?_
    rintro e w2 ⟨rfl, rfl⟩
    go_wp2_with fail
    go_ret
    first
      | exact ⟨rfl, (hb1.alloc hb1.size _).trans (h2.mono (by have := hb1.size; simp; omega))⟩
      | exact ⟨rfl, hb1.alloc hb1.size _⟩

set_option maxRecDepth 100000 in
set_option maxHeartbeats 4000000 in
theorem parts_any (w : World) (A : Option Addr) (n c : Nat) (o : Option Half) (kd src dst bo li ec el : Int) (A2 : Option Addr) (n2 c2 : Nat) (hF : ∀ W, Below w.heap.size w W → Calls Try.prog 75 #[.slice A n c, .int .i64 src] W (Found W o)) :
    Calls Try.prog 51 #[.slice A n c, .agg #[.int .i64 kd, .int .i64 src, .int .i64 dst, .int .i64 bo, .int .i64 li, .int .i64 ec, .int .i64 el, .slice A2 n2 c2]] w fun e w' => e = .returned (.bool (parts o bo li)) ∧ Below w.heap.size w w' := by
  obtain ⟨g, hg⟩ : ∃ g, g = w.heap.size := ⟨_, rfl⟩
  replace hF := Lib.hid hF
  have hb0 : Below w.heap.size w (w.alloc (.cells #[.int .i64 kd, .int .i64 src, .int .i64 dst, .int .i64 bo, .int .i64 li, .int .i64 ec, .int .i64 el, .slice A2 n2 c2] 71)) := (Below.refl _ w).alloc (Nat.le_refl _) _
  have hB0 : Blk (w.alloc (.cells #[.int .i64 kd, .int .i64 src, .int .i64 dst, .int .i64 bo, .int .i64 li, .int .i64 ec, .int .i64 el, .slice A2 n2 c2] 71)) g 71 #[.int .i64 kd, .int .i64 src, .int .i64 dst, .int .i64 bo, .int .i64 li, .int .i64 ec, .int .i64 el, .slice A2 n2 c2] := by rw [hg]; exact Blk.new _ _ _
  go_enter Try.func51, Try.ntmps51
  go_wp2_with fail
  generalize w.alloc (.cells #[.int .i64 kd, .int .i64 src, .int .i64 dst, .int .i64 bo, .int .i64 li, .int .i64 ec, .int .i64 el, .slice A2 n2 c2] 71) = W0 at *
  rw [← hg]
  replace hg := Lib.hid hg
  refine (hF.out _ hb0).mono ?_
  rintro e w1 ⟨A3, c3, rfl, -, -, h1⟩
  have hb1 := hb0.trans (h1.mono hb0.size)
  have hB1 := hB0.below h1 hB0.lt
  clear hB0 h1 hb0 hF
  obtain ⟨k0, k1, k2, k3, k4, k5, k6, k7⟩ := cells8 hB1
  have hl1 : g < w1.heap.size := hB1.lt
  replace k3 := cell_alloc k3 hl1
  replace k4 := cell_alloc k4 hl1
  clear k0 k1 k2 k5 k6 k7 hB1
  cases o with
  | none =>
    simp only [HV.val, Option.getD_none, Option.isSome_none, zeroHalf]
    go_wp2_with fail
    go_ret
    exact ⟨rfl, hb1.alloc hb1.size _⟩
  | some h =>
    obtain ⟨p, hb, hl, ls, pe, mi⟩ := h
    simp only [HV.val, Option.getD_some, Option.isSome_some]
    by_cases e1 : hb = bo
    · subst e1
      by_cases e2 : hl = li
      · subst e2
        go_wp2_with fail
        go_ret
        exact ⟨by rw [show parts (some ⟨p, hb, hl, ls, pe, mi⟩) hb hl = true by simp [parts]]; rfl, hb1.alloc hb1.size _⟩
      · have e2' : (hl == li) = false := by simpa using e2
        go_wp2_with fail
        go_ret
        exact ⟨by rw [show parts (some ⟨p, hb, hl, ls, pe, mi⟩) hb li = false by simp [parts, e2]]; rfl, hb1.alloc hb1.size _⟩
    · have e1' : (hb == bo) = false := by simpa using e1
      go_wp2_with fail
      go_ret
      exact ⟨by rw [show parts (some ⟨p, hb, hl, ls, pe, mi⟩) bo li = false by simp [parts, e1]]; rfl, hb1.alloc hb1.size _⟩
set_option maxRecDepth 100000 in
set_option maxHeartbeats 4000000 in
theorem refParts_any (w : World) (A : Option Addr) (n c : Nat) (o : Option Half) (kd src dst bo li ec el : Int) (A2 : Option Addr) (n2 c2 : Nat) (hF : ∀ W, Below w.heap.size w W → Calls Try.prog 76 #[.slice A n c, .int .i64 src] W (Found W o)) :
    Calls Try.prog 52 #[.slice A n c, .agg #[.int .i64 kd, .int .i64 src, .int .i64 dst, .int .i64 bo, .int .i64 li, .int .i64 ec, .int .i64 el, .slice A2 n2 c2]] w fun e w' => e = .returned (.bool (parts o bo li)) ∧ Below w.heap.size w w' := by
  obtain ⟨g, hg⟩ : ∃ g, g = w.heap.size := ⟨_, rfl⟩
  replace hF := Lib.hid hF
  have hb0 : Below w.heap.size w (w.alloc (.cells #[.int .i64 kd, .int .i64 src, .int .i64 dst, .int .i64 bo, .int .i64 li, .int .i64 ec, .int .i64 el, .slice A2 n2 c2] 71)) := (Below.refl _ w).alloc (Nat.le_refl _) _
  have hB0 : Blk (w.alloc (.cells #[.int .i64 kd, .int .i64 src, .int .i64 dst, .int .i64 bo, .int .i64 li, .int .i64 ec, .int .i64 el, .slice A2 n2 c2] 71)) g 71 #[.int .i64 kd, .int .i64 src, .int .i64 dst, .int .i64 bo, .int .i64 li, .int .i64 ec, .int .i64 el, .slice A2 n2 c2] := by rw [hg]; exact Blk.new _ _ _
  go_enter Try.func52, Try.ntmps52
  go_wp2_with fail
  generalize w.alloc (.cells #[.int .i64 kd, .int .i64 src, .int .i64 dst, .int .i64 bo, .int .i64 li, .int .i64 ec, .int .i64 el, .slice A2 n2 c2] 71) = W0 at *
  rw [← hg]
  replace hg := Lib.hid hg
  refine (hF.out _ hb0).mono ?_
  rintro e w1 ⟨A3, c3, rfl, -, -, h1⟩
  have hb1 := hb0.trans (h1.mono hb0.size)
  have hB1 := hB0.below h1 hB0.lt
  clear hB0 h1 hb0 hF
  obtain ⟨k0, k1, k2, k3, k4, k5, k6, k7⟩ := cells8 hB1
  have hl1 : g < w1.heap.size := hB1.lt
  replace k3 := cell_alloc k3 hl1
  replace k4 := cell_alloc k4 hl1
  clear k0 k1 k2 k5 k6 k7 hB1
  cases o with
  | none =>
    simp only [HV.val, Option.getD_none, Option.isSome_none, zeroHalf]
    go_wp2_with fail
    go_ret
    exact ⟨rfl, hb1.alloc hb1.size _⟩
  | some h =>
    obtain ⟨p, hb, hl, ls, pe, mi⟩ := h
    simp only [HV.val, Option.getD_some, Option.isSome_some]
    by_cases e1 : hb = bo
    · subst e1
      by_cases e2 : hl = li
      · subst e2
        go_wp2_with fail
        go_ret
        exact ⟨by rw [show parts (some ⟨p, hb, hl, ls, pe, mi⟩) hb hl = true by simp [parts]]; rfl, hb1.alloc hb1.size _⟩
      · have e2' : (hl == li) = false := by simpa using e2
        go_wp2_with fail
        go_ret
        exact ⟨by rw [show parts (some ⟨p, hb, hl, ls, pe, mi⟩) hb li = false by simp [parts, e2]]; rfl, hb1.alloc hb1.size _⟩
    · have e1' : (hb == bo) = false := by simpa using e1
      go_wp2_with fail
      go_ret
      exact ⟨by rw [show parts (some ⟨p, hb, hl, ls, pe, mi⟩) bo li = false by simp [parts, e1]]; rfl, hb1.alloc hb1.size _⟩

end Go.Proofs.Ytkbcnapfcojekaa
