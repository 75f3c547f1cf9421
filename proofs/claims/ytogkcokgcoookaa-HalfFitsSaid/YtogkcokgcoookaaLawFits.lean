/-
  Layer 10: the statement HalfFits: the code's Fit, Fits and Same answer as the document's, and a copy is the same. Every input; no condition.
-/
import Derived.Test.YtogkcokgcoookaaOpenWide
import Derived.Test.YtogkcokgcoookaaHalfV
import Derived.Test.YtogkcokgcoookaaHalfO
namespace Go.Proofs.Ytogkcokgcoookaa
open Go.ChangeShapes Go.WideShapes Go.ChangeAt Go.RowKit Go.Ed Go.Joins

theorem hs_map (vs : List HV) : hs vs = vs.map HV.h := rfl
theorem copied_same {vs us : List HV} (h : us.map HV.h = vs.map HV.h) : sameB sameH (hs vs) (hs us) = true := by
  rw [sameB_iff sameH_iff, hs_map, hs_map, h]

namespace lawfits
set_option maxRecDepth 100000 in
set_option maxHeartbeats 8000000 in
theorem walk (id : Int) (V : HV) (A : Option Addr) (n c : Nat) (vs : List HV) (A' : Option Addr) (n' c' : Nat) (us : List HV) (w : World) (hV : ShortW V) (hVA : V.At w w.heap.size) (hn : n * 64 ≤ 140737488355328) (hI : HalvesAt w w.heap.size A n vs) (hv : ∀ v ∈ vs, ShortW v)
    (hn' : n' * 64 ≤ 140737488355328) (hI' : HalvesAt w w.heap.size A' n' us) :
    Calls Try.prog 5 #[.int .i64 id, V.val, .slice A n c, .slice A' n' c'] w fun e w' => e = .returned (.bool true) ∧ Below w.heap.size w w' := by
  obtain ⟨⟨p, bo, li, ls, pe, mi⟩, Al, cl⟩ := V
  simp only [HV.val]
  obtain ⟨f, hf⟩ : ∃ f, fitH id ⟨p, bo, li, ls, pe, mi⟩ = f := ⟨_, rfl⟩
  obtain ⟨f2, hf2⟩ : ∃ f, fitsH id (vs.map HV.h) = f := ⟨_, rfl⟩
  obtain ⟨s, hs1⟩ : ∃ f, sameB sameH (hs vs) (hs us) = f := ⟨_, rfl⟩
  replace hf := Lib.hid hf
  replace hf2 := Lib.hid hf2
  replace hs1 := Lib.hid hs1
  replace hv := Lib.hid hv
  replace hV := Lib.hid hV
  have hVl := Lib.hid hVA.2
  have hn1 : Hid ((n : Int) ≤ 9223372036854775807) := Lib.hid (by omega)
  have hn2 : Hid ((n' : Int) ≤ 9223372036854775807) := Lib.hid (by omega)
  replace hn := Lib.hid hn
  replace hI := Lib.hid hI
  replace hI' := Lib.hid hI'
  clear hn' hVA
  obtain ⟨g0, hg0⟩ : ∃ g, g = w.heap.size := ⟨_, rfl⟩
  go_enter Try.func5, Try.ntmps5
  go_wp2_with fail
  have hb0 : Below w.heap.size w (w.alloc (.cells #[.int .i64 p, .int .i64 bo, .int .i64 li, .slice Al ls.length cl, .bool pe, .int .i64 mi] 24)) := (Below.refl _ w).alloc (Nat.le_refl _) _
  have hB0 : Blk (w.alloc (.cells #[.int .i64 p, .int .i64 bo, .int .i64 li, .slice Al ls.length cl, .bool pe, .int .i64 mi] 24)) g0 24 #[.int .i64 p, .int .i64 bo, .int .i64 li, .slice Al ls.length cl, .bool pe, .int .i64 mi] := by rw [hg0]; exact Blk.new _ _ _
  generalize w.alloc (.cells #[.int .i64 p, .int .i64 bo, .int .i64 li, .slice Al ls.length cl, .bool pe, .int .i64 mi] 24) = W0 at *
  rw [← hg0]
  clear hg0
  have hT : Hid (∀ W, Below W0.heap.size W0 W → Below w.heap.size w W) := Lib.hid (fun W h => hb0.trans (h.mono hb0.size))
  have hgl := hB0.lt
  have hld : Hid (∀ W, Below W0.heap.size W0 W → ∀ j v, [Value.int .i64 p, .int .i64 bo, .int .i64 li, .slice Al ls.length cl, .bool pe, .int .i64 mi][j]? = some v → W.cell? ⟨g0, 0 + j, none⟩ = some v) := Lib.hid (fun W hW j v hv => by
    rw [Nat.zero_add, (hB0.below hW hgl).cell]; simpa using hv)
  clear hB0
  refine wp_region_held_drew (S := fun W => Below W0.heap.size W0 W) (by kernel_rfl) ((Below.refl _ _).drew) (fun hS0 => ?_)
  (refine wpAnyH_take (i := 0) (oi := ⟨some 9, _, _, _, _, _⟩) rfl (by kernel_rfl) (by kernel_rfl) (by kernel_rfl) (fun _ _ _ h => h) (.inl ⟨rfl, fun _ _ => rfl⟩) (by assumption) ?_); try simp only [Act.put, List.setIfInBounds_toArray, List.set_cons_zero, List.set_cons_succ]
  (refine wpAnyH_take (i := 1) (oi := ⟨some 10, _, _, _, _, _⟩) rfl (by kernel_rfl) (by kernel_rfl) (by kernel_rfl) (fun _ _ _ h => h) (.inl ⟨rfl, fun W hS => exec_load_list agg_Half rfl (hld.out W hS) rfl rfl⟩) (by assumption) ?_); try simp only [Act.put, List.setIfInBounds_toArray, List.set_cons_zero, List.set_cons_succ]
  (refine wpAnyH_take (i := 3) (oi := ⟨some 12, _, _, _, _, _⟩) rfl (by kernel_rfl) (by kernel_rfl) (by kernel_rfl) (fun _ _ _ h => h) (.inl ⟨rfl, fun _ _ => rfl⟩) (by assumption) ?_); try simp only [Act.put, List.setIfInBounds_toArray, List.set_cons_zero, List.set_cons_succ]
  (refine wpAnyH_take (i := 4) (oi := ⟨some 13, _, _, _, _, _⟩) rfl (by kernel_rfl) (by kernel_rfl) (by kernel_rfl) (fun _ _ _ h => h) (.inl ⟨rfl, fun W hS => exec_load_list agg_Half rfl (hld.out W hS) rfl rfl⟩) (by assumption) ?_); try simp only [Act.put, List.setIfInBounds_toArray, List.set_cons_zero, List.set_cons_succ]
  refine wpAnyH_ready (rs := [2]) (by kernel_rfl) (by simp) ?_
  refine AllReadyH.cons (o := ⟨some 11, _, _, _, _, _⟩) rfl (fun K hK => ?_) AllReadyH.nil
  go_simp
  refine (fitG_any _ id ⟨p, bo, li, ls, pe, mi⟩ Al cl (Reads.more (Reads.below hVl.out (hT.out _ hS0)) (hT.out _ hS0).size) hV.out.1.1 hV.out.1.2).mono ?_
  rw [hf.out]
  rintro e wz ⟨rfl, g⟩
  have hk1 : Below W0.heap.size W0 wz := hS0.trans (g.mono hS0.size)
  clear g hS0
  go_wp2_with fail
  refine hK.out _ _ hk1 (fun hS0 => ?_)
  clear hK K
  try simp only [Act.put, List.setIfInBounds_toArray, List.set_cons_zero, List.set_cons_succ]
  clear hk1
  refine wpAnyH_ready (rs := [5]) (by kernel_rfl) (by simp) ?_
  refine AllReadyH.cons (o := ⟨some 14, _, _, _, _, _⟩) rfl (fun K hK => ?_) AllReadyH.nil
  go_simp
  refine (refFit10_any _ id ⟨p, bo, li, ls, pe, mi⟩ Al cl (Reads.more (Reads.below hVl.out (hT.out _ hS0)) (hT.out _ hS0).size) hV.out.1.1 hV.out.1.2).mono ?_
  rw [hf.out]
  rintro e wz ⟨rfl, g⟩
  have hk1 : Below W0.heap.size W0 wz := hS0.trans (g.mono hS0.size)
  clear g hS0
  go_wp2_with fail
  refine hK.out _ _ hk1 (fun hS0 => ?_)
  clear hK K
  try simp only [Act.put, List.setIfInBounds_toArray, List.set_cons_zero, List.set_cons_succ]
  clear hk1
  (refine wpAnyH_take (i := 6) (oi := ⟨some 15, _, _, _, _, _⟩) (v := .bool true) rfl (by kernel_rfl) (by kernel_rfl) (by kernel_rfl) (fun _ _ _ h => h) (.inl ⟨rfl, fun W hS => by go_simp; all_goals (try simp [*]); all_goals (try omega)⟩) (by assumption) ?_); try simp only [Act.put, List.setIfInBounds_toArray, List.set_cons_zero, List.set_cons_succ]
  (refine wpAnyH_take (i := 7) (oi := ⟨some 16, _, _, _, _, _⟩) rfl (by kernel_rfl) (by kernel_rfl) (by kernel_rfl) (fun _ _ _ h => h) (.inl ⟨rfl, fun _ _ => rfl⟩) (by assumption) ?_); try simp only [Act.put, List.setIfInBounds_toArray, List.set_cons_zero, List.set_cons_succ]
  (refine wpAnyH_take (i := 8) (oi := ⟨some 17, _, _, _, _, _⟩) rfl (by kernel_rfl) (by kernel_rfl) (by kernel_rfl) (fun _ _ _ h => h) (.inl ⟨rfl, fun _ _ => rfl⟩) (by assumption) ?_); try simp only [Act.put, List.setIfInBounds_toArray, List.set_cons_zero, List.set_cons_succ]
  (refine wpAnyH_take (i := 9) (oi := ⟨some 18, _, _, _, _, _⟩) rfl (by kernel_rfl) (by kernel_rfl) (by kernel_rfl) (fun _ _ _ h => h) (.inl ⟨rfl, fun _ _ => rfl⟩) (by assumption) ?_); try simp only [Act.put, List.setIfInBounds_toArray, List.set_cons_zero, List.set_cons_succ]
  (refine wpAnyH_take (i := 11) (oi := ⟨some 20, _, _, _, _, _⟩) rfl (by kernel_rfl) (by kernel_rfl) (by kernel_rfl) (fun _ _ _ h => h) (.inl ⟨rfl, fun _ _ => rfl⟩) (by assumption) ?_); try simp only [Act.put, List.setIfInBounds_toArray, List.set_cons_zero, List.set_cons_succ]
  (refine wpAnyH_take (i := 12) (oi := ⟨some 21, _, _, _, _, _⟩) rfl (by kernel_rfl) (by kernel_rfl) (by kernel_rfl) (fun _ _ _ h => h) (.inl ⟨rfl, fun _ _ => rfl⟩) (by assumption) ?_); try simp only [Act.put, List.setIfInBounds_toArray, List.set_cons_zero, List.set_cons_succ]
  refine wpAnyH_ready (rs := [10]) (by kernel_rfl) (by simp) ?_
  refine AllReadyH.cons (o := ⟨some 19, _, _, _, _, _⟩) rfl (fun K hK => ?_) AllReadyH.nil
  go_simp
  refine (fitsG_any _ id A n c vs hn1.out ((hI.out.below (hT.out _ hS0)).more (hT.out _ hS0).size) (fun v h => (hv.out v h).1)).mono ?_
  rw [hf2.out]
  rintro e wz ⟨rfl, g⟩
  have hk1 : Below W0.heap.size W0 wz := hS0.trans (g.mono hS0.size)
  clear g hS0
  go_wp2_with fail
  refine hK.out _ _ hk1 (fun hS0 => ?_)
  clear hK K
  try simp only [Act.put, List.setIfInBounds_toArray, List.set_cons_zero, List.set_cons_succ]
  clear hk1
  refine wpAnyH_ready (rs := [13]) (by kernel_rfl) (by simp) ?_
  refine AllReadyH.cons (o := ⟨some 22, _, _, _, _, _⟩) rfl (fun K hK => ?_) AllReadyH.nil
  go_simp
  refine (refFits10_any _ id A n c vs hn1.out ((hI.out.below (hT.out _ hS0)).more (hT.out _ hS0).size) (fun v h => (hv.out v h).1)).mono ?_
  rw [hf2.out]
  rintro e wz ⟨rfl, g⟩
  have hk1 : Below W0.heap.size W0 wz := hS0.trans (g.mono hS0.size)
  clear g hS0
  go_wp2_with fail
  refine hK.out _ _ hk1 (fun hS0 => ?_)
  clear hK K
  try simp only [Act.put, List.setIfInBounds_toArray, List.set_cons_zero, List.set_cons_succ]
  clear hk1
  (refine wpAnyH_take (i := 14) (oi := ⟨some 23, _, _, _, _, _⟩) (v := .bool true) rfl (by kernel_rfl) (by kernel_rfl) (by kernel_rfl) (fun _ _ _ h => h) (.inl ⟨rfl, fun W hS => by go_simp; all_goals (try simp [*]); all_goals (try omega)⟩) (by assumption) ?_); try simp only [Act.put, List.setIfInBounds_toArray, List.set_cons_zero, List.set_cons_succ]
  (refine wpAnyH_take (i := 15) (oi := ⟨some 24, _, _, _, _, _⟩) rfl (by kernel_rfl) (by kernel_rfl) (by kernel_rfl) (fun _ _ _ h => h) (.inl ⟨rfl, fun _ _ => rfl⟩) (by assumption) ?_); try simp only [Act.put, List.setIfInBounds_toArray, List.set_cons_zero, List.set_cons_succ]
  (refine wpAnyH_take (i := 16) (oi := ⟨some 25, _, _, _, _, _⟩) rfl (by kernel_rfl) (by kernel_rfl) (by kernel_rfl) (fun _ _ _ h => h) (.inl ⟨rfl, fun _ _ => rfl⟩) (by assumption) ?_); try simp only [Act.put, List.setIfInBounds_toArray, List.set_cons_zero, List.set_cons_succ]
  (refine wpAnyH_take (i := 17) (oi := ⟨some 26, _, _, _, _, _⟩) rfl (by kernel_rfl) (by kernel_rfl) (by kernel_rfl) (fun _ _ _ h => h) (.inl ⟨rfl, fun _ _ => rfl⟩) (by assumption) ?_); try simp only [Act.put, List.setIfInBounds_toArray, List.set_cons_zero, List.set_cons_succ]
  (refine wpAnyH_take (i := 18) (oi := ⟨some 27, _, _, _, _, _⟩) rfl (by kernel_rfl) (by kernel_rfl) (by kernel_rfl) (fun _ _ _ h => h) (.inl ⟨rfl, fun _ _ => rfl⟩) (by assumption) ?_); try simp only [Act.put, List.setIfInBounds_toArray, List.set_cons_zero, List.set_cons_succ]
  (refine wpAnyH_take (i := 20) (oi := ⟨some 29, _, _, _, _, _⟩) rfl (by kernel_rfl) (by kernel_rfl) (by kernel_rfl) (fun _ _ _ h => h) (.inl ⟨rfl, fun _ _ => rfl⟩) (by assumption) ?_); try simp only [Act.put, List.setIfInBounds_toArray, List.set_cons_zero, List.set_cons_succ]
  (refine wpAnyH_take (i := 21) (oi := ⟨some 30, _, _, _, _, _⟩) rfl (by kernel_rfl) (by kernel_rfl) (by kernel_rfl) (fun _ _ _ h => h) (.inl ⟨rfl, fun _ _ => rfl⟩) (by assumption) ?_); try simp only [Act.put, List.setIfInBounds_toArray, List.set_cons_zero, List.set_cons_succ]
  refine wpAnyH_ready (rs := [19]) (by kernel_rfl) (by simp) ?_
  refine AllReadyH.cons (o := ⟨some 28, _, _, _, _, _⟩) rfl (fun K hK => ?_) AllReadyH.nil
  go_simp
  refine (same10_any _ A A' n n' c c' vs us hn1.out ((hI.out.below (hT.out _ hS0)).more (hT.out _ hS0).size) ((hI'.out.below (hT.out _ hS0)).more (hT.out _ hS0).size) (fun v h => (hv.out v h).1.1)).mono ?_
  rw [hs1.out]
  rintro e wz ⟨rfl, g⟩
  have hk1 : Below W0.heap.size W0 wz := hS0.trans (g.mono hS0.size)
  clear g hS0
  go_wp2_with fail
  refine hK.out _ _ hk1 (fun hS0 => ?_)
  clear hK K
  try simp only [Act.put, List.setIfInBounds_toArray, List.set_cons_zero, List.set_cons_succ]
  clear hk1
  refine wpAnyH_ready (rs := [22]) (by kernel_rfl) (by simp) ?_
  refine AllReadyH.cons (o := ⟨some 31, _, _, _, _, _⟩) rfl (fun K hK => ?_) AllReadyH.nil
  go_simp
  refine (refSame10_any _ A A' n n' c c' vs us hn1.out ((hI.out.below (hT.out _ hS0)).more (hT.out _ hS0).size) ((hI'.out.below (hT.out _ hS0)).more (hT.out _ hS0).size) (fun v h => (hv.out v h).1.1)).mono ?_
  rw [hs1.out]
  rintro e wz ⟨rfl, g⟩
  have hk1 : Below W0.heap.size W0 wz := hS0.trans (g.mono hS0.size)
  clear g hS0
  go_wp2_with fail
  refine hK.out _ _ hk1 (fun hS0 => ?_)
  clear hK K
  try simp only [Act.put, List.setIfInBounds_toArray, List.set_cons_zero, List.set_cons_succ]
  clear hk1
  (refine wpAnyH_take (i := 23) (oi := ⟨some 32, _, _, _, _, _⟩) (v := .bool true) rfl (by kernel_rfl) (by kernel_rfl) (by kernel_rfl) (fun _ _ _ h => h) (.inl ⟨rfl, fun W hS => by go_simp; all_goals (try simp [*]); all_goals (try omega)⟩) (by assumption) ?_); try simp only [Act.put, List.setIfInBounds_toArray, List.set_cons_zero, List.set_cons_succ]
  (refine wpAnyH_take (i := 24) (oi := ⟨some 33, _, _, _, _, _⟩) rfl (by kernel_rfl) (by kernel_rfl) (by kernel_rfl) (fun _ _ _ h => h) (.inl ⟨rfl, fun _ _ => rfl⟩) (by assumption) ?_); try simp only [Act.put, List.setIfInBounds_toArray, List.set_cons_zero, List.set_cons_succ]
  (refine wpAnyH_take (i := 25) (oi := ⟨some 34, _, _, _, _, _⟩) rfl (by kernel_rfl) (by kernel_rfl) (by kernel_rfl) (fun _ _ _ h => h) (.inl ⟨rfl, fun _ _ => rfl⟩) (by assumption) ?_); try simp only [Act.put, List.setIfInBounds_toArray, List.set_cons_zero, List.set_cons_succ]
  (refine wpAnyH_take (i := 26) (oi := ⟨some 35, _, _, _, _, _⟩) rfl (by kernel_rfl) (by kernel_rfl) (by kernel_rfl) (fun _ _ _ h => h) (.inl ⟨rfl, fun _ _ => rfl⟩) (by assumption) ?_); try simp only [Act.put, List.setIfInBounds_toArray, List.set_cons_zero, List.set_cons_succ]
  (refine wpAnyH_take (i := 27) (oi := ⟨some 36, _, _, _, _, _⟩) rfl (by kernel_rfl) (by kernel_rfl) (by kernel_rfl) (fun _ _ _ h => h) (.inl ⟨rfl, fun _ _ => rfl⟩) (by assumption) ?_); try simp only [Act.put, List.setIfInBounds_toArray, List.set_cons_zero, List.set_cons_succ]
  refine wpAnyH_ready (rs := [28]) (by kernel_rfl) (by simp) ?_
  refine AllReadyH.cons (o := ⟨some 37, _, _, _, _, _⟩) rfl (fun K hK => ?_) AllReadyH.nil
  go_simp
  refine (refCopy10_any _ A n c vs hn.out ((hI.out.below (hT.out _ hS0)).more (hT.out _ hS0).size) (fun v h => (hv.out v h).2)).mono ?_
  rintro e wz ⟨A3, n3, c3, xs, rfl, hx, hown, g⟩
  have hx2 := Lib.hid (copied_same hx)
  have hown2 := Lib.hid hown.halves
  clear hx hown
  have hk1 : Below W0.heap.size W0 wz := hS0.trans (g.mono hS0.size)
  clear g hS0
  have hS0 := hk1
  go_wp2_with fail
  refine hK.out _ _ hk1 (fun hS1 => ?_)
  clear hK K
  try simp only [Act.put, List.setIfInBounds_toArray, List.set_cons_zero, List.set_cons_succ]
  clear hS1
  refine wpAnyH_ready (rs := [29]) (by kernel_rfl) (by simp) ?_
  refine AllReadyH.cons (o := ⟨some 38, _, _, _, _, _⟩) rfl (fun K hK => ?_) AllReadyH.nil
  go_simp
  refine (same10_any _ A A3 n n3 c c3 vs xs hn1.out ((hI.out.below (hT.out _ hS0)).more (hT.out _ hS0).size) hown2.out (fun v h => (hv.out v h).1.1)).mono ?_
  rw [hx2.out]
  rintro e wz ⟨rfl, g⟩
  clear hk1
  have hk1 : Below W0.heap.size W0 wz := hS0.trans (g.mono hS0.size)
  clear g hS0
  go_wp2_with fail
  refine hK.out _ _ hk1 (fun hS0 => ?_)
  clear hK K
  try simp only [Act.put, List.setIfInBounds_toArray, List.set_cons_zero, List.set_cons_succ]
  clear hk1
  (refine wpAnyH_take (i := 30) (oi := ⟨some 39, _, _, _, _, _⟩) rfl (by kernel_rfl) (by kernel_rfl) (by kernel_rfl) (fun _ _ _ h => h) (.inl ⟨rfl, fun _ _ => rfl⟩) (by assumption) ?_); try simp only [Act.put, List.setIfInBounds_toArray, List.set_cons_zero, List.set_cons_succ]
  (refine wpAnyH_take (i := 31) (oi := ⟨some 40, _, _, _, _, _⟩) rfl (by kernel_rfl) (by kernel_rfl) (by kernel_rfl) (fun _ _ _ h => h) (.inl ⟨rfl, fun _ _ => rfl⟩) (by assumption) ?_); try simp only [Act.put, List.setIfInBounds_toArray, List.set_cons_zero, List.set_cons_succ]
  refine wpAnyH_ready (rs := [32]) (by kernel_rfl) (by simp) ?_
  refine AllReadyH.cons (o := ⟨some 41, _, _, _, _, _⟩) rfl (fun K hK => ?_) AllReadyH.nil
  go_simp
  refine (awake10 _).mono ?_
  rintro e wz ⟨rfl, g⟩
  have hk1 : Below W0.heap.size W0 wz := hS0.trans (g.mono hS0.size)
  clear g hS0
  go_wp2_with fail
  refine hK.out _ _ hk1 (fun hS0 => ?_)
  clear hK K
  try simp only [Act.put, List.setIfInBounds_toArray, List.set_cons_zero, List.set_cons_succ]
  (refine wpAnyH_take (i := 33) (oi := ⟨some 42, _, _, _, _, _⟩) rfl (by kernel_rfl) (by kernel_rfl) (by kernel_rfl) (fun _ _ _ h => h) (.inl ⟨rfl, fun _ _ => rfl⟩) (by assumption) ?_); try simp only [Act.put, List.setIfInBounds_toArray, List.set_cons_zero, List.set_cons_succ]
  (refine wpAnyH_take (i := 34) (oi := ⟨some 8, _, _, _, _, _⟩) rfl (by kernel_rfl) (by kernel_rfl) (by kernel_rfl) (fun _ _ _ h => h) (.inl ⟨rfl, fun _ _ => rfl⟩) (by assumption) ?_); try simp only [Act.put, List.setIfInBounds_toArray, List.set_cons_zero, List.set_cons_succ]
  refine wpAnyH_done (by kernel_rfl) ?_ _
  clear hS0
  go_wp2_with fail
  go_ret
  exact ⟨rfl, hT.out _ hk1⟩

theorem own : ownKnob Try.prog.godebug = none := by kernel_rfl
theorem laidOut : laidOutB Try.prog = true := by kernel_rfl

set_option maxRecDepth 100000 in
theorem lifted (os : Os) (started : os.Started) (H : Type) (enc : TypeId × Value → H) :
    ReturnsInHanded {} Try.checked os 5 .any (Rows.halfFitsSpec.pre6 enc Try.prog Try.f5 Rows.halfFitsRow.domain false) (Rows.halfFitsSpec.post enc Try.prog Try.f5 false true false false) := by
  refine lift_law (C := Try.checked) own started (by kernel_rfl) Try.func5
    (ChangeSpec.witness6 (enc := enc) (C := Try.checked) false ⟨#[], #[.int .i64 0, .agg #[.int .i64 0, .int .i64 0, .int .i64 0, .slice none 0 0, .bool false, .int .i64 0], .slice none 0 0, .slice none 0 0], []⟩ 8 (by kernel_rfl) (by kernel_rfl) (by kernel_rfl) (by kernel_rfl))
    laidOut (by kernel_rfl) rfl Try.underlying4 rfl (fun ds h => by match ds, h with | [d0, d1, d2, d3], _ => rfl) ?_
  intro W base args ds p hval0 hA0 hsz
  have hval : ∀ (j : Nat) t v, Try.f5.params[j]? = some t → args[j]? = some v → Value.okWide Try.prog W .any base t v := hval0
  have hA : DataW.TrodAll enc Try.prog W 0 (fun _ => true) true Try.f5.params.toList args.toList ds p := hA0
  rw [Try.params5] at hA hval
  clear hA0 hval0
  obtain ⟨v0, vs0, d0, ds0, p0, q0, hargs, rfl, rfl, h0, r0⟩ := trodAll_cons hA
  obtain ⟨v1, vs1, d1, ds1, p1, q1, rfl, rfl, rfl, h1, r1⟩ := trodAll_cons r0
  obtain ⟨v2, vs2, d2, ds2, p2, q2, rfl, rfl, rfl, h2, r2⟩ := trodAll_cons r1
  obtain ⟨v3, vs3, d3, ds3, p3, q3, rfl, rfl, rfl, h3, r3⟩ := trodAll_cons r2
  obtain ⟨rfl, rfl, rfl⟩ := trodAll_nil r3
  obtain rfl := args_of_toList hargs
  obtain ⟨x0, rfl, _, _, _wf0⟩ := open_int Try.underlying3 (hval 0 3 v0 rfl rfl) h0
  have hz1 := weights_at hsz (j := 1) (t := 24) (by kernel_rfl) rfl
  obtain ⟨_vs1, rfl, _⟩ := okWide_struct Try.underlying24 (hval 1 24 v1 rfl rfl)
  obtain ⟨_fuel1, hf1⟩ := h1
  obtain ⟨V1, hv1, hI1, hcs1⟩ := open_halfw hf1 hz1
  simp only [Value.cells] at hcs1
  obtain rfl := args_of_toList hcs1
  have hz2 := weights_at hsz (j := 2) (t := 39) (by kernel_rfl) rfl
  obtain ⟨_a2, _l2, _c2, rfl⟩ := okWide_slice Try.underlying39 (hval 2 39 v2 rfl rfl)
  obtain ⟨_fuel2, hf2⟩ := h2
  obtain ⟨A2, m2, c2, vs2_, hcs2, hm2, hc2, hI2, hv2⟩ := open_halvesw hf2 hz2
  simp only [Value.cells, List.cons.injEq, Value.slice.injEq, and_true] at hcs2
  obtain ⟨rfl, rfl, rfl⟩ := hcs2
  have hz3 := weights_at hsz (j := 3) (t := 39) (by kernel_rfl) rfl
  obtain ⟨_a3, _l3, _c3, rfl⟩ := okWide_slice Try.underlying39 (hval 3 39 v3 rfl rfl)
  obtain ⟨_fuel3, hf3⟩ := h3
  obtain ⟨A3, m3, c3, vs3_, hcs3, hm3, hc3, hI3, hv3⟩ := open_halvesw hf3 hz3
  simp only [Value.cells, List.cons.injEq, Value.slice.injEq, and_true] at hcs3
  obtain ⟨rfl, rfl, rfl⟩ := hcs3
  exact walk x0 V1 _ _ _ vs2_ _ _ _ vs3_ W hv1 hI1 hm2 hI2 hv2 hm3 hI3

theorem proved : Rows.HalfFitsSaid :=
  OpenClaim.holds_of_wide 5 Try.f5 rfl rfl rfl rfl rfl rfl rfl ⟨rfl, rfl, rfl, rfl, rfl⟩ rfl rfl rfl rfl rfl (by kernel_rfl) Try.func5 (by kernel_rfl)
    (of_decide_eq_true (by kernel_rfl)) (by unfold Func.isWrapper; first | (rw [if_pos (by decide +kernel)]; kernel_rfl) | (rw [if_neg (by decide +kernel)]; exact ⟨rfl, rfl⟩))
    (fun os started H enc _ => lifted os started H enc)
#print axioms proved

end lawfits
end Go.Proofs.Ytogkcokgcoookaa
