/-
  Layer 10 (half): the document's Reg.
-/
import Derived.Test.YtogkcokgcoookaaHalfX
import Derived.BigGuardPart
namespace Go.Proofs.Ytogkcokgcoookaa
open Go.ChangeShapes Go.WideShapes Go.ChangeAt Go.RowKit Go.Shelf Go.Ed

/-- the first line's register -/
def firstReg (ls : List Line) (nm : ByteArray) : Rg := match ls.find? fun x => x.nm.toList == nm.toList with
  | some x => ⟨x.ver, x.wt, x.fl⟩
  | none => noRg
theorem first_some {ls : List Line} {nm : ByteArray} {k : Nat} (hk : k < ls.length) (h : ∀ j (hj : j < ls.length), j < k → (ls[j].nm.toList == nm.toList) = false) (he : (ls[k].nm.toList == nm.toList) = true) :
    firstReg ls nm = ⟨ls[k].ver, ls[k].wt, ls[k].fl⟩ := by
  have : ls.find? (fun x => x.nm.toList == nm.toList) = some ls[k] := by
    rw [List.find?_eq_some_iff_getElem]
    exact ⟨he, k, hk, rfl, fun j hj => by have := h j (by omega) hj; simp only [Bool.not_eq_true']; exact this⟩
  simp [firstReg, this]
theorem first_none {ls : List Line} {nm : ByteArray} (h : ∀ j (hj : j < ls.length), (ls[j].nm.toList == nm.toList) = false) : firstReg ls nm = noRg := by
  have : ls.find? (fun x => x.nm.toList == nm.toList) = none := by
    rw [List.find?_eq_none]
    intro x hx
    obtain ⟨j, hj, rfl⟩ := List.mem_iff_getElem.1 hx
    rw [h j hj]; decide
  simp [firstReg, this]

set_option maxRecDepth 100000 in
set_option maxHeartbeats 2000000 in
theorem refReg10_any (w : World) (p bo li : Int) (A : Option Addr) (c : Nat) (ls : List Line) (pe : Bool) (mi : Int) (nm : ByteArray) (hn : (ls.length : Int) ≤ 9223372036854775806) (hI : LinesAt w w.heap.size A ls.length ls) :
    Calls Try.prog 10 #[.agg #[.int .i64 p, .int .i64 bo, .int .i64 li, .slice A ls.length c, .bool pe, .int .i64 mi], .string nm] w (ToldRg w (firstReg ls nm)) := by
  obtain ⟨g, hg⟩ : ∃ g, g = w.heap.size := ⟨_, rfl⟩
  have hb0 : Below w.heap.size w ((w.alloc (.cells #[.int .i64 p, .int .i64 bo, .int .i64 li, .slice A ls.length c, .bool pe, .int .i64 mi] 24)).alloc (.cells #[.int .i64 0, .int .i64 0, .int .i64 0] 29)) := ((Below.refl _ w).alloc (Nat.le_refl _) _).alloc (by simp) _
  have hB0 : Blk ((w.alloc (.cells #[.int .i64 p, .int .i64 bo, .int .i64 li, .slice A ls.length c, .bool pe, .int .i64 mi] 24)).alloc (.cells #[.int .i64 0, .int .i64 0, .int .i64 0] 29)) g 24 #[.int .i64 p, .int .i64 bo, .int .i64 li, .slice A ls.length c, .bool pe, .int .i64 mi] := by rw [hg]; exact (Blk.new _ _ _).alloc _
  have hZ0 : Blk ((w.alloc (.cells #[.int .i64 p, .int .i64 bo, .int .i64 li, .slice A ls.length c, .bool pe, .int .i64 mi] 24)).alloc (.cells #[.int .i64 0, .int .i64 0, .int .i64 0] 29)) (g + 1) 29 #[.int .i64 0, .int .i64 0, .int .i64 0] := Blk.new' (by simp [hg])
  obtain ⟨r, hr⟩ : ∃ r, firstReg ls nm = r := ⟨_, rfl⟩
  rw [hr]
  replace hr := Lib.hid hr
  go_enter Try.func10, Try.ntmps10
  go_wp2_with fail
  generalize (w.alloc (.cells #[.int .i64 p, .int .i64 bo, .int .i64 li, .slice A ls.length c, .bool pe, .int .i64 mi] 24)).alloc (.cells #[.int .i64 0, .int .i64 0, .int .i64 0] 29) = W0 at *
  rw [← hg]
  replace hg := Lib.hid hg
  replace hB0 := Lib.hid hB0
  replace hZ0 := Lib.hid hZ0
  go_loopw [5] (fun i wr => ∃ k : Nat, k ≤ ls.length ∧ i = .int .i64 k ∧ (∀ j (hj : j < ls.length), j < k → (ls[j].nm.toList == nm.toList) = false) ∧ wr = W0) (fun i _ => ls.length - (intOf i).toNat)
  case atStart => exact ⟨0, Nat.zero_le _, rfl, fun j _ h => by omega, rfl⟩
  case round =>
    obtain ⟨k, hk, rfl, hno, rfl⟩ := hrel
    replace hno := Lib.hid hno
    have k3 := hB0.out.cell 3
    simp only [List.getElem?_toArray, List.getElem?_cons_zero, List.getElem?_cons_succ] at k3
    by_cases hlt : k < ls.length
    · have hlt' : (k : Int) < (ls.length : Int) := by omega
      obtain ⟨b, off, rfl, hbl, hxx⟩ := LinesAt.form (Reads.below hI hb0) (by omega)
      obtain ⟨q0, q1, q2, q3⟩ := hxx k hlt
      obtain ⟨x, hx⟩ : ∃ x, ls[k] = x := ⟨_, rfl⟩
      rw [hx] at q0 q1 q2 q3
      replace hx := Lib.hid hx
      clear hxx
      by_cases he : x.nm = nm
      · have hE : ls[k].nm.toList == nm.toList := by rw [hx.out, he]; simp
        have hfin := first_some hlt hno.out hE
        rw [hx.out, hr.out] at hfin
        subst hfin
        subst he
        replace hE := Lib.hid hE
        go_wp2_with ((with_reducible refine go_store_as (off := 0) (vs := #[.int .i64 x.ver, .int .i64 x.wt, .int .i64 x.fl]) #[.int .i64 x.ver, .int .i64 x.wt, .int .i64 x.fl] agg_Reg hZ0.out ?b1 ?b2 ?b3 ?b4 ?b5 ?b6 ?_); (case b1 => rfl); (case b2 => rfl); (case b3 => rfl); (case b4 => simp); (case b5 => simp [Value.oneCell']); (case b6 => rfl); (intro w5 hB5 hC5))
        refine bodyPost_ret (results_blk rfl agg_Reg hB5 rfl) rfl ?_
        exact ⟨rfl, hb0.trans (hC5.below (fun i h => by have := hg.out; omega) hb0.size)⟩
      · have hne0 : (x.nm.toList == nm.toList) = false := by simpa using fun h => he (bytes_ext h)
        have hne : Hid ((ls[k].nm.toList == nm.toList) = false) := Lib.hid (by rw [hx.out]; exact hne0)
        go_wp2_with fail
        go_roundw
        case rel => exact ⟨k + 1, by omega, by go_num, fun j hj h => by
          by_cases e : j = k
          · subst e; exact hne.out
          · exact hno.out j hj (by omega), trivial⟩
        case measure => simp [intOf]; omega
    · obtain rfl : k = ls.length := by omega
      have hfin := first_none fun j hj => hno.out j hj hj
      rw [hr.out] at hfin
      subst hfin
      go_wp2_with ((with_reducible refine go_store_as (off := 0) (vs := #[.int .i64 0, .int .i64 0, .int .i64 0]) #[.int .i64 0, .int .i64 0, .int .i64 0] agg_Reg hZ0.out ?b1 ?b2 ?b3 ?b4 ?b5 ?b6 ?_); (case b1 => rfl); (case b2 => rfl); (case b3 => rfl); (case b4 => simp); (case b5 => simp [Value.oneCell']); (case b6 => rfl); (intro w5 hB5 hC5))
      refine bodyPost_ret (results_blk rfl agg_Reg hB5 rfl) rfl ?_
      exact ⟨rfl, hb0.trans (hC5.below (fun i h => by have := hg.out; omega) hb0.size)⟩

end Go.Proofs.Ytogkcokgcoookaa
