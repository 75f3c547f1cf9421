/-
  Layer 10 (half): slices.BinarySearchFunc at []api.Half, place, Find (the code's and the document's).
-/
import Derived.Test.YtogkcokgcoookaaHalfA
namespace Go.Proofs.Ytogkcokgcoookaa
open Go.ChangeShapes Go.WideShapes Go.ChangeAt Go.RowKit Go.Shelf Go.Ed

set_option maxRecDepth 100000 in
theorem placeF_any (w : World) (p bo li : Int) (A : Option Addr) (n c : Nat) (pe : Bool) (mi q : Int) :
    Calls Try.prog 65 #[.agg #[.int .i64 p, .int .i64 bo, .int .i64 li, .slice A n c, .bool pe, .int .i64 mi], .int .i64 q] w fun e w' => e = .returned (.int .i64 (RowKit.wrap64 (p - q))) ∧ Below w.heap.size w w' := by
  go_enter Try.func65, Try.ntmps65
  go_wp2
  go_ret
  exact ⟨rfl, by go_grown⟩

/-- what place compares at number j -/
def dif (vs : List HV) (q : Int) (j : Nat) : Int := match vs[j]? with
  | some v => RowKit.wrap64 (v.h.peer - q)
  | none => 0
theorem dif_at {vs : List HV} {q : Int} {j : Nat} (hj : j < vs.length) : dif vs q j = RowKit.wrap64 (vs[j].h.peer - q) := by
  unfold dif
  rw [List.getElem?_eq_getElem hj]

/-- where the search ends -/
def Ends (vs : List HV) (q : Int) (i : Nat) : Prop := i ≤ vs.length ∧ (0 < i → dif vs q (i - 1) < 0) ∧ (i < vs.length → 0 ≤ dif vs q i)
def Searched (w : World) (vs : List HV) (q : Int) (e : Ending) (w' : World) : Prop := ∃ i, Ends vs q i ∧ e = .returned (.tuple #[.int .i64 (i : Nat), .bool (decide (i < vs.length) && dif vs q i == 0)]) ∧ Below w.heap.size w w'

set_option maxRecDepth 100000 in
set_option maxHeartbeats 4000000 in
theorem search_any (w : World) (A : Option Addr) (n c : Nat) (vs : List HV) (q : Int) (hn : (n : Int) ≤ 1000000000000) (hI : HalvesAt w w.heap.size A n vs) :
    Calls Try.prog 64 #[.slice A n c, .int .i64 q, .func (.func 65) #[] #[]] w (Searched w vs q) := by
  have hll := Lib.hid hI.len
  go_enter Try.func64, Try.ntmps64
  go_wp2_with fail
  go_loopw [9, 10] (fun lo hi wr => ∃ i j : Nat, i ≤ j ∧ j ≤ n ∧ lo = .int .i64 i ∧ hi = .int .i64 j ∧ (0 < i → dif vs q (i - 1) < 0) ∧ (j < n → 0 ≤ dif vs q j) ∧ Below w.heap.size w wr) (fun lo hi _ => (intOf hi).toNat - (intOf lo).toNat)
  case atStart => exact ⟨0, n, by omega, by omega, rfl, rfl, fun h => by omega, fun h => by omega, Below.refl _ _⟩
  case round =>
    obtain ⟨i, j, hij, hjn, rfl, rfl, h1, h2, hbr⟩ := hrel
    by_cases hlt : i < j
    · have hlt' : (i : Int) < (j : Int) := by omega
      obtain ⟨b, off, rfl, hbl, hx⟩ := (hI.below hbr).form (by omega)
      have hm1 : i ≤ (i + j) / 2 := by omega
      have hm2 : (i + j) / 2 < j := by omega
      have hmn : (i + j) / 2 < vs.length := by have := hll.out; omega
      obtain ⟨k0, k1, k2, k3, k4, k5⟩ := hx ((i + j) / 2) hmn
      obtain ⟨d, hd⟩ : ∃ d, dif vs q ((i + j) / 2) = d := ⟨_, rfl⟩
      have hd2 := hd
      rw [dif_at hmn] at hd2
      replace hd := Lib.hid hd
      replace hd2 := Lib.hid hd2
      clear hx
      go_wp2_with fail
      refine (placeF_any _ _ _ _ _ _ _ _ _ _).mono ?_
      rw [hd2.out]
      rintro e w1 ⟨rfl, g1⟩
      clear k0 k1 k2 k3 k4 k5
      by_cases hd0 : d < 0
      · go_wp2_with fail
        go_roundw
        case rel => exact ⟨(i + j) / 2 + 1, j, by omega, hjn, by go_num, rfl, fun _ => by rw [Nat.add_sub_cancel, hd.out]; exact hd0, h2, hbr.trans (g1.mono hbr.size)⟩
        case measure => simp [intOf]; omega
      · go_wp2_with fail
        go_roundw
        case rel => exact ⟨i, (i + j) / 2, by omega, by omega, rfl, by go_num, h1, fun _ => by rw [hd.out]; omega, hbr.trans (g1.mono hbr.size)⟩
        case measure => simp [intOf]; omega
    · obtain rfl : i = j := by omega
      have hE : Ends vs q i := ⟨by have := hll.out; omega, h1, fun h => h2 (by have := hll.out; omega)⟩
      replace hE := Lib.hid hE
      clear h1 h2
      by_cases hin : i < n
      · have hin' : (i : Int) < (n : Int) := by omega
        obtain ⟨b, off, rfl, hbl, hx⟩ := (hI.below hbr).form (by omega)
        have hmn : i < vs.length := by have := hll.out; omega
        obtain ⟨k0, k1, k2, k3, k4, k5⟩ := hx i hmn
        obtain ⟨d, hd⟩ : ∃ d, dif vs q i = d := ⟨_, rfl⟩
        have hd2 := hd
        rw [dif_at hmn] at hd2
        replace hd := Lib.hid hd
        replace hd2 := Lib.hid hd2
        clear hx
        go_wp2_with fail
        refine (placeF_any _ _ _ _ _ _ _ _ _ _).mono ?_
        rw [hd2.out]
        rintro e w1 ⟨rfl, g1⟩
        clear k0 k1 k2 k3 k4 k5
        go_wp2_with fail
        go_ret2
        exact ⟨i, hE.out, by rw [hd.out]; simp [hmn], hbr.trans (g1.mono hbr.size)⟩
      · have hin' : ¬ (i : Int) < (n : Int) := by omega
        have hmn : ¬ i < vs.length := by have := hll.out; omega
        go_wp2_with fail
        go_ret2
        exact ⟨i, hE.out, by simp [hmn], hbr⟩

end Go.Proofs.Ytogkcokgcoookaa
