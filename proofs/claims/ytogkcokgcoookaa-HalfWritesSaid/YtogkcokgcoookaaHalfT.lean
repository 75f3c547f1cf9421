/-
  Layer 10 (half): Peers, the code's and the document's.
-/
import Derived.Test.YtogkcokgcoookaaHalfO
namespace Go.Proofs.Ytogkcokgcoookaa
open Go.ChangeShapes Go.WideShapes Go.ChangeAt Go.RowKit Go.Shelf Go.Ed

theorem int_infH : Inf Try.prog 3 (.int .i64 0) 1 8 := Inf.of (by kernel_rfl)
theorem int_sliceH : Try.prog.underlying 56 = some (.slice 3) := by kernel_rfl
def peerC (h : Half) : List Value := [.int .i64 h.peer]
theorem peerC_len (h : Half) : (peerC h).length = 1 := rfl
theorem peerC_one (x : Half) : ∀ u ∈ peerC x, u.oneCell' = true := by
  intro u hu
  simp only [peerC, List.mem_singleton] at hu
  subst hu
  rfl
def Peered (w : World) (l : List Half) (e : Ending) (w' : World) : Prop := ∃ A c, e = .returned (.slice A l.length c) ∧ w'.ownsRow w.heap.size 3 1 (.slice A l.length c) l.length (flat peerC l) ∧ Below w.heap.size w w'

set_option maxRecDepth 100000 in
set_option maxHeartbeats 4000000 in
theorem peers10_any (w : World) (A : Option Addr) (n c : Nat) (vs : List HV) (hn : n * 64 ≤ 140737488355328) (hI : HalvesAt w w.heap.size A n vs) :
    Calls Try.prog 39 #[.slice A n c] w (Peered w (vs.map HV.h)) := by
  have hll := Lib.hid hI.len
  go_enter Try.func39, Try.ntmps39
  go_wp2_with fail
  go_loopw [3, 8] (fun o i wr => ∃ (k : Nat) (A2 : Option Addr) (c2 : Nat), k ≤ n ∧ i = .int .i64 k ∧ o = .slice A2 k c2 ∧ wr.ownsRow w.heap.size 3 1 (.slice A2 k c2) k (flat peerC ((vs.map HV.h).take k)) ∧ Below w.heap.size w wr)
    (fun _ i _ => n - (intOf i).toNat)
  case atStart => exact ⟨0, none, 0, Nat.zero_le _, rfl, rfl, World.ownsRow_nil _ _ _ _, Below.refl _ _⟩
  case round =>
    obtain ⟨k, A2, c2, hk, rfl, rfl, hown, hbr⟩ := hrel
    by_cases hlt : k < n
    · have hlt' : (k : Int) < (n : Int) := by omega
      have hkl : k < vs.length := by have := hll.out; omega
      obtain ⟨b, off, rfl, hbl, hxx⟩ := (hI.below hbr).1.form HV.len (by omega) (by omega)
      have hxc := hxx k hkl
      obtain ⟨⟨⟨p, bo, li, ls, pe, mi⟩, Al, cl⟩, hvi⟩ : ∃ v, vs[k] = v := ⟨_, rfl⟩
      rw [hvi] at hxc
      have hxh : (vs.map HV.h).take (k + 1) = (vs.map HV.h).take k ++ [⟨p, bo, li, ls, pe, mi⟩] := by
        rw [List.take_add_one, List.getElem?_map, List.getElem?_eq_getElem hkl, hvi]; rfl
      replace hxh := Lib.hid hxh
      replace hvi := Lib.hid hvi
      have q0 := hxc 0 _ rfl
      have q1 := hxc 1 _ rfl
      have q2 := hxc 2 _ rfl
      have q3 := hxc 3 _ rfl
      have q4 := hxc 4 _ rfl
      have q5 := hxc 5 _ rfl
      simp only [Nat.add_zero] at q0 q1 q2 q3 q4 q5
      clear hxc hxx
      have hz := hbr.size
      have hW3 : Below wr.heap.size wr ((wr.alloc (.cells #[.int .i64 p, .int .i64 bo, .int .i64 li, .slice Al ls.length cl, .bool pe, .int .i64 mi] 24)).alloc (.cells #[.int .i64 p] 3)) := ((Below.refl _ wr).alloc (Nat.le_refl _) _).alloc (by simp) _
      have hr3 : Reads ((wr.alloc (.cells #[.int .i64 p, .int .i64 bo, .int .i64 li, .slice Al ls.length cl, .bool pe, .int .i64 mi] 24)).alloc (.cells #[.int .i64 p] 3)) ((wr.alloc (.cells #[.int .i64 p, .int .i64 bo, .int .i64 li, .slice Al ls.length cl, .bool pe, .int .i64 mi] 24)).alloc (.cells #[.int .i64 p] 3)).heap.size 1 (some ⟨wr.heap.size + 1, 0, none⟩) 1 (peerC ⟨p, bo, li, ls, pe, mi⟩) := Reads.of_blk (Blk.new' (t := 3) (cs := #[.int .i64 p]) (by simp)) rfl (fun j u h => by simpa [peerC] using h)
      have ho3 := own_below hown hW3 fun i hi => (hown.lt i hi).2
      have hbs : w.heap.size ≤ ((wr.alloc (.cells #[.int .i64 p, .int .i64 bo, .int .i64 li, .slice Al ls.length cl, .bool pe, .int .i64 mi] 24)).alloc (.cells #[.int .i64 p] 3)).heap.size := Nat.le_trans hz hW3.size
      have hone := peerC_one ⟨p, bo, li, ls, pe, mi⟩
      go_wp2_with ((with_reducible refine go_append_at (c := 1) int_sliceH int_infH ho3 hr3 hone ?a0 ?a1 ?a2 ?a3 ?a4 ?a5 ?a6 ?_); (case a0 => exact hbs); (case a1 => rfl); (case a2 => rfl); (case a3 => rfl); (case a4 => omega); (case a5 => unfold maxLen; omega); (case a6 => omega); rintro v4 w4 g1 g2 - -)
      obtain ⟨A4, c4, rfl, hc4⟩ := own_slice' g1
      have hb4 : Below w.heap.size w w4 := (hbr.trans (hW3.mono hz)).trans g2
      have hfl : flat peerC ((vs.map HV.h).take k) ++ peerC ⟨p, bo, li, ls, pe, mi⟩ = flat peerC ((vs.map HV.h).take (k + 1)) := by rw [hxh.out, flat_append]; simp [flat]
      rw [hfl] at g1
      clear g2 hW3 hfl
      try go_wp2_with fail
      go_roundw
      case rel => exact ⟨k + 1, A4, c4, by omega, by go_num, rfl, g1, hb4⟩
      case measure => simp [intOf]; omega
    · obtain rfl : k = n := by omega
      have hT : (vs.map HV.h).take k = vs.map HV.h := List.take_of_length_le (by simp [hll.out])
      have hL : (vs.map HV.h).length = k := by simp [hll.out]
      rw [hT] at hown
      replace hL := Lib.hid hL
      clear hT
      go_wp2_with fail
      go_ret
      exact ⟨A2, c2, by rw [hL.out]; rfl, by rw [hL.out]; exact hown, hbr⟩

set_option maxRecDepth 100000 in
set_option maxHeartbeats 4000000 in
theorem refPeers10_any (w : World) (A : Option Addr) (n c : Nat) (vs : List HV) (hn : n * 64 ≤ 140737488355328) (hI : HalvesAt w w.heap.size A n vs) :
    Calls Try.prog 40 #[.slice A n c] w (Peered w (vs.map HV.h)) := by
  have hll := Lib.hid hI.len
  go_enter Try.func40, Try.ntmps40
  go_wp2_with fail
  go_loopw [3, 4] (fun o i wr => ∃ (k : Nat) (A2 : Option Addr) (c2 : Nat), k ≤ n ∧ i = .int .i64 k ∧ o = .slice A2 k c2 ∧ wr.ownsRow w.heap.size 3 1 (.slice A2 k c2) k (flat peerC ((vs.map HV.h).take k)) ∧ Below w.heap.size w wr)
    (fun _ i _ => n - (intOf i).toNat)
  case atStart => exact ⟨0, none, 0, Nat.zero_le _, rfl, rfl, World.ownsRow_nil _ _ _ _, Below.refl _ _⟩
  case round =>
    obtain ⟨k, A2, c2, hk, rfl, rfl, hown, hbr⟩ := hrel
    by_cases hlt : k < n
    · have hlt' : (k : Int) < (n : Int) := by omega
      have hkl : k < vs.length := by have := hll.out; omega
      obtain ⟨b, off, rfl, hbl, hxx⟩ := (hI.below hbr).1.form HV.len (by omega) (by omega)
      have hxc := hxx k hkl
      obtain ⟨⟨⟨p, bo, li, ls, pe, mi⟩, Al, cl⟩, hvi⟩ : ∃ v, vs[k] = v := ⟨_, rfl⟩
      rw [hvi] at hxc
      have hxh : (vs.map HV.h).take (k + 1) = (vs.map HV.h).take k ++ [⟨p, bo, li, ls, pe, mi⟩] := by
        rw [List.take_add_one, List.getElem?_map, List.getElem?_eq_getElem hkl, hvi]; rfl
      replace hxh := Lib.hid hxh
      replace hvi := Lib.hid hvi
      have q0 := hxc 0 _ rfl
      have q1 := hxc 1 _ rfl
      have q2 := hxc 2 _ rfl
      have q3 := hxc 3 _ rfl
      have q4 := hxc 4 _ rfl
      have q5 := hxc 5 _ rfl
      simp only [Nat.add_zero] at q0 q1 q2 q3 q4 q5
      clear hxc hxx
      have hz := hbr.size
      have hW3 : Below wr.heap.size wr (wr.alloc (.cells #[.int .i64 p] 3)) := (Below.refl _ wr).alloc (Nat.le_refl _) _
      have hr3 : Reads (wr.alloc (.cells #[.int .i64 p] 3)) (wr.alloc (.cells #[.int .i64 p] 3)).heap.size 1 (some ⟨wr.heap.size, 0, none⟩) 1 (peerC ⟨p, bo, li, ls, pe, mi⟩) := Reads.of_blk (Blk.new wr 3 #[.int .i64 p]) rfl (fun j u h => by simpa [peerC] using h)
      have ho3 := own_below hown hW3 fun i hi => (hown.lt i hi).2
      have hbs : w.heap.size ≤ (wr.alloc (.cells #[.int .i64 p] 3)).heap.size := Nat.le_trans hz hW3.size
      have hone := peerC_one ⟨p, bo, li, ls, pe, mi⟩
      go_wp2_with ((with_reducible refine go_append_at (c := 1) int_sliceH int_infH ho3 hr3 hone ?a0 ?a1 ?a2 ?a3 ?a4 ?a5 ?a6 ?_); (case a0 => exact hbs); (case a1 => rfl); (case a2 => rfl); (case a3 => rfl); (case a4 => omega); (case a5 => unfold maxLen; omega); (case a6 => omega); rintro v4 w4 g1 g2 - -)
      obtain ⟨A4, c4, rfl, hc4⟩ := own_slice' g1
      have hb4 : Below w.heap.size w w4 := (hbr.trans (hW3.mono hz)).trans g2
      have hfl : flat peerC ((vs.map HV.h).take k) ++ peerC ⟨p, bo, li, ls, pe, mi⟩ = flat peerC ((vs.map HV.h).take (k + 1)) := by rw [hxh.out, flat_append]; simp [flat]
      rw [hfl] at g1
      clear g2 hW3 hfl
      try go_wp2_with fail
      go_roundw
      case rel => exact ⟨k + 1, A4, c4, by omega, by go_num, rfl, g1, hb4⟩
      case measure => simp [intOf]; omega
    · obtain rfl : k = n := by omega
      have hT : (vs.map HV.h).take k = vs.map HV.h := List.take_of_length_le (by simp [hll.out])
      have hL : (vs.map HV.h).length = k := by simp [hll.out]
      rw [hT] at hown
      replace hL := Lib.hid hL
      clear hT
      go_wp2_with fail
      go_ret
      exact ⟨A2, c2, by rw [hL.out]; rfl, by rw [hL.out]; exact hown, hbr⟩

end Go.Proofs.Ytogkcokgcoookaa
