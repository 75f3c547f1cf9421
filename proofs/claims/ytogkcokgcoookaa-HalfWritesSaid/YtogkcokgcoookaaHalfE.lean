/-
  Layer 10 (half): the document's Find.
-/
import Derived.Test.YtogkcokgcoookaaHalfD
namespace Go.Proofs.Ytogkcokgcoookaa
open Go.ChangeShapes Go.WideShapes Go.ChangeAt Go.RowKit Go.Shelf Go.Ed

theorem findH_at {vs : List HV} {q : Int} {k : Nat} (hk : k < vs.length) (h : ∀ j (hj : j < vs.length), j < k → vs[j].h.peer ≠ q) (he : vs[k].h.peer = q) : findH (vs.map HV.h) q = some vs[k].h := by
  unfold findH
  rw [List.find?_eq_some_iff_getElem]
  exact ⟨by simpa using he, k, by simpa using hk, by simp, fun j hj => by simpa using h j (by omega) hj⟩
theorem findH_none {vs : List HV} {q : Int} (h : ∀ j (hj : j < vs.length), vs[j].h.peer ≠ q) : findH (vs.map HV.h) q = none := by
  unfold findH
  rw [List.find?_eq_none]
  intro x hx
  obtain ⟨v, hv, rfl⟩ := List.mem_map.1 hx
  obtain ⟨j, hj, rfl⟩ := List.getElem_of_mem hv
  simpa using h j hj

set_option maxRecDepth 100000 in
set_option maxHeartbeats 4000000 in
theorem refFind10_any (w : World) (A : Option Addr) (n c : Nat) (vs : List HV) (q : Int) (hn : (n : Int) ≤ 1000000000000) (hI : HalvesAt w w.heap.size A n vs) (hl : ∀ v ∈ vs, v.h.lines.length * 40 ≤ 140737488355328) :
    Calls Try.prog 33 #[.slice A n c, .int .i64 q] w (Found w (findH (vs.map HV.h) q)) := by
  obtain ⟨g, hg⟩ : ∃ g, g = w.heap.size := ⟨_, rfl⟩
  have hll := Lib.hid hI.len
  replace hl := Lib.hid hl
  have hb0 : Below w.heap.size w (w.alloc (.cells #[.int .i64 0, .int .i64 0, .int .i64 0, .slice none 0 0, .bool false, .int .i64 0] 24)) := (Below.refl _ w).alloc (Nat.le_refl _) _
  have hZ0 : Blk (w.alloc (.cells #[.int .i64 0, .int .i64 0, .int .i64 0, .slice none 0 0, .bool false, .int .i64 0] 24)) g 24 #[.int .i64 0, .int .i64 0, .int .i64 0, .slice none 0 0, .bool false, .int .i64 0] := Blk.new' (by simp [hg])
  go_enter Try.func33, Try.ntmps33
  go_wp2_with fail
  generalize w.alloc (.cells #[.int .i64 0, .int .i64 0, .int .i64 0, .slice none 0 0, .bool false, .int .i64 0] 24) = W0 at *
  rw [← hg]
  replace hg := Lib.hid hg
  go_loop [6] (fun i => ∃ k : Nat, k ≤ n ∧ i = .int .i64 k ∧ ∀ j (hj : j < vs.length), j < k → vs[j].h.peer ≠ q) (fun i => n - (intOf i).toNat)
  case atStart => exact ⟨0, Nat.zero_le _, rfl, fun j _ h => by omega⟩
  case round =>
    obtain ⟨k, hk, rfl, hpre⟩ := hrel
    replace hpre := Lib.hid hpre
    have hZ1 := Lib.hid hZ0
    by_cases hlt : k < n
    · have hi' : (k : Int) < (n : Int) := by omega
      have hi : k < vs.length := by have := hll.out; omega
      obtain ⟨b, off, rfl, hbl, hx⟩ := (hI.below hb0).form (by omega)
      obtain ⟨k0, k1, k2, k3, k4, k5⟩ := hx k hi
      have hv := ((hI.2 _ (List.getElem_mem hi)).below hb0).more hb0.size
      have hln := hl.out _ (List.getElem_mem hi)
      have hF0 : vs[k].h.peer = q → findH (vs.map HV.h) q = some vs[k].h := findH_at hi hpre.out
      have hN0 : vs[k].h.peer ≠ q → ∀ j (hj : j < vs.length), j < k + 1 → vs[j].h.peer ≠ q := fun hne j hj hjk => by
        rcases Nat.lt_or_ge j k with h | h
        · exact hpre.out j hj h
        · obtain rfl : j = k := by omega
          exact hne
      obtain ⟨⟨⟨p, bo, li, ls, pe, mi⟩, Al, cl⟩, hvi⟩ : ∃ v, vs[k] = v := ⟨_, rfl⟩
      rw [hvi] at k0 k1 k2 k3 k4 k5 hv hln hF0 hN0
      replace hvi := Lib.hid hvi
      simp only [] at k0 k1 k2 k3 k4 k5 hln hF0 hN0
      replace hF0 := Lib.hid hF0
      replace hN0 := Lib.hid hN0
      clear hx hZ0
      by_cases hpq : p = q
      · have HF := Lib.hid (hF0.out hpq)
        subst hpq
        go_wp2_with fail
        refine (refOne_any _ p bo li ls Al cl pe mi hln hv.2).mono ?_
        rintro e w2 ⟨A2, c2, rfl, hc2, hown, h2⟩
        have hb2 := hb0.trans (h2.mono hb0.size)
        have hZ2 := Lib.hid (hZ1.out.below h2 hZ1.out.lt)
        clear k0 k1 k2 k3 k4 k5
        simp only [HV.val]
        go_wp2_with ((with_reducible refine go_store_as (off := 0) (vs := #[.int .i64 p, .int .i64 bo, .int .i64 li, .slice A2 ls.length c2, .bool pe, .int .i64 mi]) #[.int .i64 p, .int .i64 bo, .int .i64 li, .slice A2 ls.length c2, .bool pe, .int .i64 mi] agg_Half hZ2.out ?b1 ?b2 ?b3 ?b4 ?b5 ?b6 ?_); (case b1 => rfl); (case b2 => rfl); (case b3 => rfl); (case b4 => simp); (case b5 => simp [Value.oneCell']); (case b6 => rfl); intro w4 hB4 hC4)
        refine bodyPost_ret (results_blk2 rfl agg_Half hB4 rfl rfl) rfl ?_
        rw [HF.out]
        refine ⟨A2, c2, rfl, hc2, ?_, hb2.trans (hC4.below (fun i h => by have := hg.out; omega) hb2.size)⟩
        have hs1 := hb0.size
        have hzl := hZ1.out.lt
        exact World.ownsRow.mono (own_chg hown hC4 (fun i hi => by have := (hown.lt i hi).1; omega)) hs1
      · have hpq' : (p == q) = false := by simpa using hpq
        go_wp2_with fail
        go_round
        case rel => exact ⟨k + 1, by omega, by go_num, hN0.out hpq⟩
        case measure => simp [intOf]; omega
    · obtain rfl : k = n := by omega
      have HF : Hid (findH (vs.map HV.h) q = none) := Lib.hid (findH_none fun j hj => hpre.out j hj (by have := hll.out; omega))
      go_wp2_with ((with_reducible refine go_store_as (off := 0) (vs := #[.int .i64 0, .int .i64 0, .int .i64 0, .slice none 0 0, .bool false, .int .i64 0]) #[.int .i64 0, .int .i64 0, .int .i64 0, .slice none 0 0, .bool false, .int .i64 0] agg_Half hZ1.out ?b1 ?b2 ?b3 ?b4 ?b5 ?b6 ?_); (case b1 => rfl); (case b2 => rfl); (case b3 => rfl); (case b4 => simp); (case b5 => simp [Value.oneCell']); (case b6 => rfl); intro w4 hB4 hC4)
      refine bodyPost_ret (results_blk2 rfl agg_Half hB4 rfl rfl) rfl ?_
      rw [HF.out]
      exact ⟨none, 0, rfl, Nat.le_refl _, World.ownsRow_nil _ _ _ _, hb0.trans (hC4.below (fun i h => by have := hg.out; omega) hb0.size)⟩

end Go.Proofs.Ytogkcokgcoookaa
