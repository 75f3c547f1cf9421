/-
  Layer 10 (half): chapter 10's first example (awake).
-/
import Derived.Test.YtogkcokgcoookaaHalfY
import Derived.Test.YtogkcokgcoookaaHalfH
import Derived.Test.YtogkcokgcoookaaHalfO
namespace Go.Proofs.Ytogkcokgcoookaa
open Go.ChangeShapes Go.WideShapes Go.ChangeAt Go.RowKit Go.Shelf Go.Ed

def bm : ByteArray := ⟨#[109]⟩
def bn : ByteArray := ⟨#[110]⟩
theorem fieldRg (W : World) (a b c : Value) : Sem.run Try.prog (Instr.field 29 (.agg #[a, b, c]) 2) W = .ok c W := by kernel_rfl

theorem seek_one (x y z : Int) : seekL [⟨bm, x, y, z⟩] bm = 0 := by simp [seekL, lineLt, bytesLess_self, List.findIdx_cons]
theorem has_one (x y z : Int) : hasL [⟨bm, x, y, z⟩] bm = true := by simp [hasL, seek_one]
theorem reg_one (x y z : Int) : regL [⟨bm, x, y, z⟩] bm = ⟨x, y, z⟩ := by simp [regL, seek_one]
theorem lt_mn : Op.bytesLess bm.toList bn.toList = true := by rw [ByteArray.toList_eq, ByteArray.toList_eq]; rfl
theorem reg_two (x y z : Int) : regL [⟨bm, x, y, z⟩] bn = ⟨0, 0, 0⟩ := by simp [regL, seekL, lineLt, lt_mn, List.findIdx_cons, noRg]
theorem write_nil : writeL [] bm 1 2 7 = [⟨bm, 1, 2, 7⟩] := by simp [writeL, hasL, seekL, isZ]
theorem merge_no : mergeL 2 5 [⟨bm, 1, 2, 7⟩] bm ⟨1, 5, 9⟩ = ([⟨bm, 1, 2, 7⟩], false) := by simp [mergeL, reg_one, newer]
theorem write_two : writeL [⟨bm, 1, 2, 7⟩] bm 2 5 9 = [⟨bm, 2, 5, 9⟩] := by simp [writeL, has_one, seek_one, isZ]
theorem merge_yes : mergeL 2 5 [⟨bm, 1, 2, 7⟩] bm ⟨2, 5, 9⟩ = ([⟨bm, 2, 5, 9⟩], true) := by simp [mergeL, reg_one, newer, write_two, rgEq, fitR, regFit, isNode]
theorem fit_ex : fitH 2 ⟨5, 3, 0, [⟨bm, 1, 2, 7⟩], false, 0⟩ = true := by
  have h1 : nameOk bm = true := by simp [nameOk, bm, byteOk, ByteArray.size]
  simp [fitH, headOk, isNode, isIn, lineOk, lineAt, regFit, regZero, h1]

set_option maxRecDepth 100000 in
set_option maxHeartbeats 4000000 in
theorem awake10 (w : World) : Calls Try.prog 11 #[] w fun e w' => e = .returned (.bool true) ∧ Below w.heap.size w w' := by
  have hf2 := fieldRg
  go_enter Try.func11, Try.ntmps11
  go_wp2_with fail
  refine (begin10_any _ 5 3 0).mono ?_
  rintro e w1 ⟨rfl, h1⟩
  go_wp2_with fail
  refine (write_any _ 5 3 0 [] none 0 false 0 bm 1 2 7 (by simp) Reads.none_).mono ?_
  rw [write_nil]
  rintro e w2 ⟨A2, c2, rfl, hc2, hown2, h2⟩
  have hb2 := h1.trans (h2.mono h1.size)
  clear h1 h2
  have hA2 : Blk (w2.alloc (.cells #[.int .i64 5, .int .i64 3, .int .i64 0, .slice A2 1 c2, .bool false, .int .i64 0] 24)) w2.heap.size 24 #[.int .i64 5, .int .i64 3, .int .i64 0, .slice A2 1 c2, .bool false, .int .i64 0] := Blk.new _ _ _
  have hL2 : LinesAt (w2.alloc (.cells #[.int .i64 5, .int .i64 3, .int .i64 0, .slice A2 1 c2, .bool false, .int .i64 0] 24)) (w2.alloc (.cells #[.int .i64 5, .int .i64 3, .int .i64 0, .slice A2 1 c2, .bool false, .int .i64 0] 24)).heap.size A2 1 [⟨bm, 1, 2, 7⟩] :=
    Reads.more (Reads.below (Reads.of_own hown2) ((Below.refl _ w2).alloc (Nat.le_refl _) _)) (by simp)
  replace hb2 := hb2.alloc hb2.size (.cells #[.int .i64 5, .int .i64 3, .int .i64 0, .slice A2 1 c2, .bool false, .int .i64 0] 24)
  clear hown2 hc2
  simp only [HV.val, List.length_cons, List.length_nil, Nat.zero_add]
  go_wp2_with fail
  generalize w2.alloc (.cells #[.int .i64 5, .int .i64 3, .int .i64 0, .slice A2 1 c2, .bool false, .int .i64 0] 24) = U2 at *
  generalize w2.heap.size = g2 at *
  refine (merge_any _ 2 5 3 0 [⟨bm, 1, 2, 7⟩] A2 c2 false 0 bm ⟨1, 5, 9⟩ (by simp) hL2).mono ?_
  rw [merge_no]
  rintro e w3 ⟨A3, c3, rfl, -, -, h3⟩
  simp only [HV.val, List.length_cons, List.length_nil, Nat.zero_add]
  replace hA2 := (hA2.below h3 hA2.lt).alloc (.cells #[.int .i64 5, .int .i64 3, .int .i64 0, .slice A3 1 c3, .bool false, .int .i64 0] 24)
  replace hL2 : LinesAt (w3.alloc (.cells #[.int .i64 5, .int .i64 3, .int .i64 0, .slice A3 1 c3, .bool false, .int .i64 0] 24)) (w3.alloc (.cells #[.int .i64 5, .int .i64 3, .int .i64 0, .slice A3 1 c3, .bool false, .int .i64 0] 24)).heap.size A2 1 [⟨bm, 1, 2, 7⟩] := Reads.more (Reads.below hL2 (h3.alloc h3.size _)) (h3.alloc h3.size (.cells #[.int .i64 5, .int .i64 3, .int .i64 0, .slice A3 1 c3, .bool false, .int .i64 0] 24)).size
  replace hb2 := (hb2.trans (h3.mono hb2.size)).alloc (hb2.trans (h3.mono hb2.size)).size (.cells #[.int .i64 5, .int .i64 3, .int .i64 0, .slice A3 1 c3, .bool false, .int .i64 0] 24)
  clear h3
  obtain ⟨k0, k1, k2, k3, k4, k5⟩ := cells6 hA2
  go_wp2_with fail
  generalize w3.alloc (.cells #[.int .i64 5, .int .i64 3, .int .i64 0, .slice A3 1 c3, .bool false, .int .i64 0] 24) = U2 at *
  clear k0 k1 k2 k3 k4 k5
  refine (merge_any _ 2 5 3 0 [⟨bm, 1, 2, 7⟩] A2 c2 false 0 bm ⟨2, 5, 9⟩ (by simp) hL2).mono ?_
  rw [merge_yes]
  rintro e w4 ⟨A4, c4, rfl, -, hown4, h4⟩
  have hL4 : LinesAt (w4.alloc (.cells #[.int .i64 5, .int .i64 3, .int .i64 0, .slice A4 1 c4, .bool false, .int .i64 0] 24)) (w4.alloc (.cells #[.int .i64 5, .int .i64 3, .int .i64 0, .slice A4 1 c4, .bool false, .int .i64 0] 24)).heap.size A4 1 [⟨bm, 2, 5, 9⟩] :=
    Reads.more (Reads.below (Reads.of_own hown4) ((Below.refl _ w4).alloc (Nat.le_refl _) _)) (by simp)
  have hA4 : Blk (w4.alloc (.cells #[.int .i64 5, .int .i64 3, .int .i64 0, .slice A4 1 c4, .bool false, .int .i64 0] 24)) w4.heap.size 24 #[.int .i64 5, .int .i64 3, .int .i64 0, .slice A4 1 c4, .bool false, .int .i64 0] := Blk.new _ _ _
  simp only [HV.val, List.length_cons, List.length_nil, Nat.zero_add]
  replace hA2 := (hA2.below h4 hA2.lt).alloc (.cells #[.int .i64 5, .int .i64 3, .int .i64 0, .slice A4 1 c4, .bool false, .int .i64 0] 24)
  replace hL2 : LinesAt (w4.alloc (.cells #[.int .i64 5, .int .i64 3, .int .i64 0, .slice A4 1 c4, .bool false, .int .i64 0] 24)) (w4.alloc (.cells #[.int .i64 5, .int .i64 3, .int .i64 0, .slice A4 1 c4, .bool false, .int .i64 0] 24)).heap.size A2 1 [⟨bm, 1, 2, 7⟩] := Reads.more (Reads.below hL2 (h4.alloc h4.size _)) (h4.alloc h4.size (.cells #[.int .i64 5, .int .i64 3, .int .i64 0, .slice A4 1 c4, .bool false, .int .i64 0] 24)).size
  replace hb2 := (hb2.trans (h4.mono hb2.size)).alloc (hb2.trans (h4.mono hb2.size)).size (.cells #[.int .i64 5, .int .i64 3, .int .i64 0, .slice A4 1 c4, .bool false, .int .i64 0] 24)
  clear h4
  obtain ⟨k0, k1, k2, k3, k4, k5⟩ := cells6 hA2
  clear hown4
  go_wp2_with fail
  generalize w4.alloc (.cells #[.int .i64 5, .int .i64 3, .int .i64 0, .slice A4 1 c4, .bool false, .int .i64 0] 24) = U2 at *
  generalize w4.heap.size = g4 at *
  clear k0 k1 k2 k3 k4 k5
  refine (fitG_any _ 2 ⟨5, 3, 0, [⟨bm, 1, 2, 7⟩], false, 0⟩ A2 c2 hL2 (show (1 : Nat) ≤ 9223372036854775807 by omega) (fun l h => by rw [List.mem_singleton.1 h]; exact (show (1 : Nat) ≤ 9223372036854775807 by omega))).mono ?_
  rw [fit_ex]
  rintro e w5 ⟨rfl, h5⟩
  replace hA2 := hA2.below h5 hA2.lt
  replace hA4 := hA4.below h5 hA4.lt
  replace hL2 : LinesAt w5 w5.heap.size A2 1 [⟨bm, 1, 2, 7⟩] := Reads.more (Reads.below hL2 h5) h5.size
  replace hL4 : LinesAt w5 w5.heap.size A4 1 [⟨bm, 2, 5, 9⟩] := Reads.more (Reads.below hL4 h5) h5.size
  replace hb2 := hb2.trans (h5.mono hb2.size)
  clear h5
  obtain ⟨k0, k1, k2, k3, k4, k5⟩ := cells6 hA2
  obtain ⟨m0, m1, m2, m3, m4, m5⟩ := cells6 hA4
  go_wp2_with fail
  clear k0 k1 k2 k3 k4 k5 m0 m1 m2 m3 m4 m5
  refine (reg10_any _ 5 3 0 A2 1 c2 [⟨bm, 1, 2, 7⟩] false 0 bm (by omega) hL2).mono ?_
  rw [reg_one]
  rintro e w6 ⟨rfl, h6⟩
  replace hA2 := hA2.below h6 hA2.lt
  replace hA4 := hA4.below h6 hA4.lt
  replace hL2 : LinesAt w6 w6.heap.size A2 1 [⟨bm, 1, 2, 7⟩] := Reads.more (Reads.below hL2 h6) h6.size
  replace hL4 : LinesAt w6 w6.heap.size A4 1 [⟨bm, 2, 5, 9⟩] := Reads.more (Reads.below hL4 h6) h6.size
  replace hb2 := hb2.trans (h6.mono hb2.size)
  clear h6
  obtain ⟨k0, k1, k2, k3, k4, k5⟩ := cells6 hA2
  obtain ⟨m0, m1, m2, m3, m4, m5⟩ := cells6 hA4
  go_wp2_with fail
  clear k0 k1 k2 k3 k4 k5 m0 m1 m2 m3 m4 m5
  refine (reg10_any _ 5 3 0 A2 1 c2 [⟨bm, 1, 2, 7⟩] false 0 bn (by omega) hL2).mono ?_
  rw [reg_two]
  rintro e w7 ⟨rfl, h7⟩
  replace hA2 := hA2.below h7 hA2.lt
  replace hA4 := hA4.below h7 hA4.lt
  replace hL2 : LinesAt w7 w7.heap.size A2 1 [⟨bm, 1, 2, 7⟩] := Reads.more (Reads.below hL2 h7) h7.size
  replace hL4 : LinesAt w7 w7.heap.size A4 1 [⟨bm, 2, 5, 9⟩] := Reads.more (Reads.below hL4 h7) h7.size
  replace hb2 := hb2.trans (h7.mono hb2.size)
  clear h7
  obtain ⟨k0, k1, k2, k3, k4, k5⟩ := cells6 hA2
  obtain ⟨m0, m1, m2, m3, m4, m5⟩ := cells6 hA4
  have hE := fun W => reg_eql 0 0 0 0 0 0 W
  go_wp2_with fail
  clear k0 k1 k2 k3 k4 k5 m0 m1 m2 m3 m4 m5
  refine (reg10_any _ 5 3 0 A4 1 c4 [⟨bm, 2, 5, 9⟩] false 0 bm (by omega) hL4).mono ?_
  rw [reg_one]
  rintro e w8 ⟨rfl, h8⟩
  go_wp2_with fail
  go_ret
  exact ⟨rfl, hb2.trans (h8.mono hb2.size)⟩

end Go.Proofs.Ytogkcokgcoookaa
