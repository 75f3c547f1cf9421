/-
  Layer 10 (half): slices.Delete of one element at []api.Half.
-/
import Derived.Test.YtogkcokgcoookaaInsertH
import Derived.Test.YtogkcokgcoookaaDeleteL
namespace Go.Proofs.Ytogkcokgcoookaa
open Go.RowKit Go.Shelf Go.Ed

set_option maxRecDepth 100000 in
set_option maxHeartbeats 4000000 in
theorem deleteH_own (w : World) (base : Nat) (A : Option Addr) (n c i : Nat) (xs : List Value) (hown : w.ownsRow base 24 6 (.slice A n c) n xs) (hi : i < n) (hn : n ≤ 1000000000000) (h1x : ∀ u ∈ xs, u.oneCell' = true) :
    Calls Try.prog 56 #[.slice A n c, .int .i64 i, .int .i64 ((i : Int) + 1)] w fun e w' =>
      ∃ v, e = .returned v ∧ w'.ownsRow base 24 6 v (n - 1) (xs.take (i * 6) ++ xs.drop ((i + 1) * 6)) ∧ Chg (fun i => some i = (Value.slice A n c).ownBlock) w w' := by
  rcases hown.2 with ⟨_, h⟩ | ⟨g, cap, cur', e, hb, hg', hnc, hcm, hcs', hx⟩
  · omega
  injection e with e1 e2 e3
  subst e1
  subst e3
  obtain ⟨cur, hcc⟩ : ∃ cur : List Value, cur'.toList = cur := ⟨_, rfl⟩
  have hg : Blk w g 24 cur.toArray := by subst hcc; simpa [Blk] using hg'
  have hcs : cur.length = c * 6 := by subst hcc; simpa using hcs'
  rw [hcc] at hx
  clear hg' hcs' hcc
  unfold maxLen at hcm
  have hxl : xs.length = n * 6 := hown.1
  obtain ⟨i0, hi0, hz0, hzs, hzb⟩ := half_inf
  have hap : ∀ ty ad cc, (ad = ⟨g, (i + 1) * 6, none⟩ ∨ c = i + 1) → (Builtin.append_ #[39, 39] ty #[.slice (some ⟨g, 0, none⟩) i c, .slice (some ad) (n - (i + 1)) cc]).run Try.prog w.drew =
      .ok (.slice (some ⟨g, 0, none⟩) (n - 1) c) (w.drew.setRow g (over cur (i * 6) (xs.drop ((i + 1) * 6))).toArray) := fun ty ad cc had => by
    have hl : (xs.drop ((i + 1) * 6)).length = (n - (i + 1)) * i0.size := by rw [List.length_drop, hxl, hzs]; omega
    have h := run_append_room (P := Try.prog) w.drew 39 ty 24 i0 half_slice hi0 g i c cur.toArray hg.drew ad (n - (i + 1)) cc (xs.drop ((i + 1) * 6)) hl (fun j u hj => by
      rcases had with rfl | rfl
      · rw [ed_add_plain, hg.drew.cell]
        rw [List.getElem?_drop, ← hx, List.getElem?_take] at hj
        split at hj
        · simpa using hj
        · cases hj
      · have : xs.drop ((i + 1) * 6) = [] := List.drop_of_length_le (by omega)
        rw [this] at hj
        simp at hj) (fun v hv => h1x v (List.mem_of_mem_drop hv)) (by omega) (by rw [hl, hzs, List.size_toArray, hcs]; omega)
    rw [h, hzs, show i + (n - (i + 1)) = n - 1 by omega]
    rfl
  obtain ⟨L1, hL1⟩ : ∃ L1, L1 = over cur (i * 6) (xs.drop ((i + 1) * 6)) := ⟨_, rfl⟩
  have hl1 : L1.length = cur.length := by rw [hL1]; exact over_length (by rw [List.length_drop]; omega)
  rw [← hL1] at hap
  obtain ⟨W1, hW1⟩ : ∃ W1, W1 = w.drew.setRow g L1.toArray := ⟨_, rfl⟩
  rw [← hW1] at hap
  have hg1 : Blk W1 g 24 L1.toArray := by rw [hW1]; exact hg.drew.setRow_ _
  have hb1 : Chg (fun i => some i = some g) w W1 := by rw [hW1]; exact (Chg.refl (fun i => some i = some g) w).drew.setRow (fun _ => rfl) _
  have hzv : ∀ W, (zeroValue 24).run Try.prog W = .ok (.agg #[.int .i64 0, .int .i64 0, .int .i64 0, .slice none 0 0, .bool false, .int .i64 0]) W := fun W => by kernel_rfl
  have hclr : ∀ ty cc, (Builtin.clear_ #[39] ty #[.slice (some ⟨g, (n - 1) * 6, none⟩) (n - (n - 1)) cc]).run Try.prog W1 = _ := fun ty cc =>
    run_clear_row 39 24 ty _ half_slice hzv (k := 6) rfl (by omega) (by simp [Value.cells, Value.oneCell']) g ((n - 1) * 6) (n - (n - 1)) cc hg1 (by omega) (by omega)
  obtain ⟨Z, hZ, hZl⟩ : ∃ Z : List Value, Z = (Builtin.zeroCells (Value.agg #[.int .i64 0, .int .i64 0, .int .i64 0, .slice none 0 0, .bool false, .int .i64 0]).cells (n - (n - 1))).toList ∧ Z.length = 6 := ⟨_, rfl, by rw [Array.length_toList, zeroCells_length, show n - (n - 1) = 1 by omega]; rfl⟩
  rw [← hZ] at hclr
  have hfin : (W1.setRow g (over L1 ((n - 1) * 6) Z).toArray).ownsRow base 24 6 (.slice (some ⟨g, 0, none⟩) (n - 1) c) (n - 1) (xs.take (i * 6) ++ xs.drop ((i + 1) * 6)) := by
    refine ⟨by simp; omega, .inr ⟨g, c, _, rfl, hb, hg1.setRow_ _, by omega, by unfold maxLen; omega, ?_, ?_⟩⟩
    · rw [List.size_toArray, over_length (by omega)]; omega
    · rw [hL1]
      exact over_cut hi hcs hnc hx
  have hbf : Chg (fun i => some i = some g) w (W1.setRow g (over L1 ((n - 1) * 6) Z).toArray) := hb1.setRow (fun _ => rfl) _
  have Hfin := Lib.hid hfin
  have hw1 : ¬ ((i : Int) = (i : Int) + 1) := by omega
  have hin : i ≤ c := by omega
  have hi0p : (0 : Int) ≤ (i : Int) + 1 := by omega
  have hin2 : (i : Int) + 1 ≤ (n : Int) := by omega
  have hin3 : (i : Int) ≤ (i : Int) + 1 := by omega
  have hin4 : (n : Int) ≤ (c : Int) := by omega
  have hb4 : ¬ (c = n - 1) := by omega
  have Hap := Lib.hid hap
  have Hclr := Lib.hid hclr
  clear hcs hx hl1 hL1 hW1 hfin hZ hZl hclr hap hown hg hg1
  have hcl2 : ∀ cc, (Builtin.clear_ #[39] 0 #[.slice (some ⟨g, (n - 1) * 6, none⟩) (n - (n - 1)) cc]).run Try.prog W1 = .ok (.tuple #[]) (W1.setRow g (over L1 ((n - 1) * 6) Z).toArray) := fun cc => Hclr.out 0 cc
  by_cases hc1 : c = i + 1
  · have hn1 : n = i + 1 := by omega
    have hc1' : (c : Int) = (i : Int) + 1 := by omega
    have hcl1 := hcl2 1
    rw [show n - (n - 1) = 1 by omega, show (n - 1) * 6 = i * 6 by omega] at hcl1
    rw [show (n - 1) * 6 = i * 6 by omega] at Hfin hbf
    clear hcl2
    go_enter Try.func56, Try.ntmps56
    go_wp2_with fail
    go_region_law (refine step_append_run rfl rfl (fun ty => Hap.out ty ⟨g, 0, none⟩ 0 (.inr hc1)) (by simp [Act.eval, Act.put, hc1]) (by simp [Act.eval, Act.put, hn1]) ?_)
    go_wp2
    go_ret
    have h := Hfin.out
    rw [show n - 1 = i by omega, hc1] at h
    exact ⟨_, rfl, by rw [show n - 1 = i by omega]; exact h, hbf⟩
  · go_enter Try.func56, Try.ntmps56
    go_wp2_with fail
    go_region_law (refine step_append_run rfl rfl (fun ty => Hap.out ty ⟨g, (i + 1) * 6, none⟩ (c - (i + 1)) (.inl rfl)) (by simp [Act.eval, Act.put]) (by simp [Act.eval, Act.put]) ?_)
    go_wp2
    go_ret
    exact ⟨_, rfl, Hfin.out, hbf⟩

end Go.Proofs.Ytogkcokgcoookaa
