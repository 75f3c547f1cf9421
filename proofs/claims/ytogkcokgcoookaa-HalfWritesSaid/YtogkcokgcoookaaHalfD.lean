/-
  Layer 10 (half): Find, the code's and the document's.
-/
import Derived.Test.YtogkcokgcoookaaHalfC
namespace Go.Proofs.Ytogkcokgcoookaa
open Go.ChangeShapes Go.WideShapes Go.ChangeAt Go.RowKit Go.Shelf Go.Ed

/-- two results: a struct in a block that is known whole, and a slot -/
theorem results_blk2 {P : Program} {fn : Func} {p t : Tmp} {ty : TypeId} (h : fn.results = #[.cell p ty, .tmp t]) {tmps : Array Value} {w : World} {g : Nat} {tt : TypeId} {cs : Array Value} {v : Value} (hA : Agg P ty cs.size) (hg : Blk w g tt cs)
    (hp : tmps.getD p undef = .pointer (some ⟨g, 0, none⟩)) (ht : tmps.getD t undef = v) : (results fn tmps).run P w = .ok (.tuple #[.agg cs, v]) w := by
  obtain ⟨d, hu, hd, hi⟩ := hA
  have hp' : tmps[p]?.getD undef = .pointer (some ⟨g, 0, none⟩) := by simpa using hp
  have ht' : tmps[t]?.getD undef = v := by simpa using ht
  have hr := run_loadVar_row (P := P) w g tt ty cs (0, 0) d hg hu (by cases d <;> simp_all [aggD]) hi
  simp [results, h, hp', ht', asAddr, hr]

set_option maxRecDepth 100000 in
set_option maxHeartbeats 4000000 in
theorem find10_any (w : World) (A : Option Addr) (n c : Nat) (vs : List HV) (q : Int) (hn : (n : Int) ≤ 1000000000000) (hI : HalvesAt w w.heap.size A n vs) (hp : (vs.map HV.h).Pairwise fun a b => a.peer < b.peer) (hb : ∀ v ∈ vs, 0 ≤ v.h.peer ∧ v.h.peer < 16)
    (hq : -9223372036854775808 ≤ q ∧ q ≤ 9223372036854775807) (hl : ∀ v ∈ vs, v.h.lines.length * 40 ≤ 140737488355328) :
    Calls Try.prog 31 #[.slice A n c, .int .i64 q] w (Found w (findH (vs.map HV.h) q)) := by
  obtain ⟨g, hg⟩ : ∃ g, g = w.heap.size := ⟨_, rfl⟩
  have hll := Lib.hid hI.len
  replace hp := Lib.hid hp
  replace hb := Lib.hid hb
  replace hl := Lib.hid hl
  replace hq := Lib.hid hq
  have hb0 : Below w.heap.size w (w.alloc (.cells #[.int .i64 0, .int .i64 0, .int .i64 0, .slice none 0 0, .bool false, .int .i64 0] 24)) := (Below.refl _ w).alloc (Nat.le_refl _) _
  have hZ0 : Blk (w.alloc (.cells #[.int .i64 0, .int .i64 0, .int .i64 0, .slice none 0 0, .bool false, .int .i64 0] 24)) g 24 #[.int .i64 0, .int .i64 0, .int .i64 0, .slice none 0 0, .bool false, .int .i64 0] := Blk.new' (by simp [hg])
  go_enter Try.func31, Try.ntmps31
  go_wp2_with fail
  generalize w.alloc (.cells #[.int .i64 0, .int .i64 0, .int .i64 0, .slice none 0 0, .bool false, .int .i64 0] 24) = W0 at *
  rw [← hg]
  replace hg := Lib.hid hg
  refine (place_any _ A n c vs q hn ((hI.below hb0).more hb0.size)).mono ?_
  rintro e w1 ⟨i, hE, rfl, h1⟩
  have hb1 := hb0.trans (h1.mono hb0.size)
  have hZ1 := Lib.hid (hZ0.below h1 hZ0.lt)
  clear hZ0 h1 hb0
  have hF := find_place hE hp.out hb.out hq.out
  obtain ⟨ok, hok⟩ : ∃ ok, (decide (i < vs.length) && dif vs q i == 0) = ok := ⟨_, rfl⟩
  rw [hok] at hF ⊢
  clear hok
  cases ok
  · have HF := Lib.hid (hF.2 rfl)
    clear hF
    go_wp2_with ((with_reducible refine go_store_as (off := 0) (vs := #[.int .i64 0, .int .i64 0, .int .i64 0, .slice none 0 0, .bool false, .int .i64 0]) #[.int .i64 0, .int .i64 0, .int .i64 0, .slice none 0 0, .bool false, .int .i64 0] agg_Half hZ1.out ?b1 ?b2 ?b3 ?b4 ?b5 ?b6 ?_); (case b1 => rfl); (case b2 => rfl); (case b3 => rfl); (case b4 => simp); (case b5 => simp [Value.oneCell']); (case b6 => rfl); intro w4 hB4 hC4)
    refine bodyPost_ret (results_blk2 rfl agg_Half hB4 rfl rfl) rfl ?_
    rw [HF.out]
    exact ⟨none, 0, rfl, Nat.le_refl _, World.ownsRow_nil _ _ _ _, hb1.trans (hC4.below (fun i h => by have := hg.out; omega) hb1.size)⟩
  · obtain ⟨hi, hF2⟩ := hF.1 rfl
    have hi' : (i : Int) < (n : Int) := by have := hll.out; omega
    obtain ⟨b, off, rfl, hbl, hx⟩ := (hI.below hb1).form (by omega)
    obtain ⟨k0, k1, k2, k3, k4, k5⟩ := hx i hi
    have hv := ((hI.2 _ (List.getElem_mem hi)).below hb1).more hb1.size
    have hln := hl.out _ (List.getElem_mem hi)
    obtain ⟨⟨⟨p, bo, li, ls, pe, mi⟩, Al, cl⟩, hvi⟩ : ∃ v, vs[i] = v := ⟨_, rfl⟩
    rw [hvi] at k0 k1 k2 k3 k4 k5 hv hln
    rw [hvi] at hF2
    have HF := Lib.hid hF2
    clear hF2 hF
    replace hvi := Lib.hid hvi
    simp only [] at k0 k1 k2 k3 k4 k5 hln
    clear hx
    go_wp2_with fail
    refine (one_any _ p bo li ls Al cl pe mi hln hv.2).mono ?_
    rintro e w2 ⟨A2, c2, rfl, hc2, hown, h2⟩
    have hb2 := hb1.trans (h2.mono hb1.size)
    have hZ2 := Lib.hid (hZ1.out.below h2 hZ1.out.lt)
    clear k0 k1 k2 k3 k4 k5
    simp only [HV.val]
    go_wp2_with ((with_reducible refine go_store_as (off := 0) (vs := #[.int .i64 p, .int .i64 bo, .int .i64 li, .slice A2 ls.length c2, .bool pe, .int .i64 mi]) #[.int .i64 p, .int .i64 bo, .int .i64 li, .slice A2 ls.length c2, .bool pe, .int .i64 mi] agg_Half hZ2.out ?b1 ?b2 ?b3 ?b4 ?b5 ?b6 ?_); (case b1 => rfl); (case b2 => rfl); (case b3 => rfl); (case b4 => simp); (case b5 => simp [Value.oneCell']); (case b6 => rfl); intro w4 hB4 hC4)
    refine bodyPost_ret (results_blk2 rfl agg_Half hB4 rfl rfl) rfl ?_
    rw [HF.out]
    refine ⟨A2, c2, rfl, hc2, ?_, hb2.trans (hC4.below (fun i h => by have := hg.out; omega) hb2.size)⟩
    have hs1 := hb1.size
    have hzl := hZ1.out.lt
    exact World.ownsRow.mono (own_chg hown hC4 (fun i hi => by have := (hown.lt i hi).1; omega)) hs1

end Go.Proofs.Ytogkcokgcoookaa
