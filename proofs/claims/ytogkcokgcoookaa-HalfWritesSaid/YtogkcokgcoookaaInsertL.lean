/-
  Layer 10 (half): slices.Insert at []api.Line.
-/
import Derived.Test.YtogkcokgcoookaaHalfA
namespace Go.Proofs.Ytogkcokgcoookaa
open Go.RowKit Go.Shelf Go.Ed


set_option maxRecDepth 100000 in
set_option maxHeartbeats 4000000 in
/-- at the end -/
theorem insert_endL (w : World) (base : Nat) (A : Option Addr) (n c vb : Nat) (xs ys : List Value) (hown : w.ownsRow base 44 4 (.slice A n c) n xs) (hbase : base ≤ w.heap.size) (hn : n ≤ 1000000000000)
    (hv : Blk w vb 44 ys.toArray) (hy : ys.length = 4) (h1 : ∀ u ∈ ys, u.oneCell' = true) :
    Calls Try.prog 49 #[.slice A n c, .int .i64 n, .slice (some ⟨vb, 0, none⟩) 1 1] w fun e w' =>
      ∃ v, e = .returned v ∧ w'.ownsRow base 44 4 v (n + 1) (xs ++ ys) ∧ Below base w w' := by
  have hr : Reads w w.heap.size 4 (some ⟨vb, 0, none⟩) 1 ys := Reads.of_blk hv (by omega) (fun j u h => by simpa using h)
  have hnc : n ≤ c := by
    obtain ⟨A', c', e, hc, _⟩ := own_slice hown
    injection e with _ _ e
    omega
  have hnn : A = none → n = 0 := by
    rintro rfl
    rcases hown.2 with ⟨_, h⟩ | ⟨g, cap, cur, h, _⟩
    · exact h
    · cases h
  cases A with
  | none =>
    obtain rfl := hnn rfl
    go_enter Try.func49, Try.ntmps49
    go_wp2_with ((with_reducible refine go_append_at (c := 1) line_slice line_inf hown hr h1 ?a0 ?a1 ?a2 ?a3 ?a4 ?a5 ?a6 ?_); (case a0 => exact hbase); (case a1 => rfl); (case a2 => rfl); (case a3 => rfl); (case a4 => omega); (case a5 => unfold maxLen; omega); (case a6 => omega); rintro v w2 h1 h2 - -)
    go_ret
    exact ⟨_, rfl, h1, h2⟩
  | some ad =>
    go_enter Try.func49, Try.ntmps49
    go_wp2_with ((with_reducible refine go_append_at (c := 1) line_slice line_inf hown hr h1 ?a0 ?a1 ?a2 ?a3 ?a4 ?a5 ?a6 ?_); (case a0 => exact hbase); (case a1 => rfl); (case a2 => rfl); (case a3 => rfl); (case a4 => omega); (case a5 => unfold maxLen; omega); (case a6 => omega); rintro v w2 h1 h2 - -)
    all_goals
      go_ret
      exact ⟨_, rfl, h1, h2⟩

set_option maxRecDepth 100000 in
set_option maxHeartbeats 4000000 in
/-- inside, with room -/
theorem insert_shiftL (w : World) (base g n c i vb : Nat) (cur xs ys : List Value) (hb : base ≤ g) (hg : Blk w g 44 cur.toArray) (hcur : cur.length = c * 4) (hx : cur.take (n * 4) = xs) (hi : i < n) (hc : n + 1 ≤ c) (hcm : c ≤ 9223372036854775807) (hn : n ≤ 1000000000000)
    (hv : Blk w vb 44 ys.toArray) (hy : ys.length = 4) (hne : vb ≠ g) (h1 : ∀ u ∈ ys, u.oneCell' = true) (h1x : ∀ u ∈ xs, u.oneCell' = true) :
    Calls Try.prog 49 #[.slice (some ⟨g, 0, none⟩) n c, .int .i64 i, .slice (some ⟨vb, 0, none⟩) 1 1] w fun e w' =>
      ∃ v, e = .returned v ∧ w'.ownsRow base 44 4 v (n + 1) (xs.take (i * 4) ++ ys ++ xs.drop (i * 4)) ∧ Below base w w' := by
  have hov : ∀ lb cb, (callFunc 62 #[.slice (some ⟨vb, 0, none⟩) 1 1, .slice (some ⟨g, (i + 1) * 4, none⟩) lb cb]).run Try.prog w = .ok (.value (.bool false)) w := fun lb cb => by
    rw [run_callFunc_extern Try.func62 (by kernel_rfl) (by kernel_rfl) (by kernel_rfl) (e := Extern.SlicesOverlaps.overlaps #[22, 22] #[4]) (by kernel_rfl),
      Lib.run_overlaps_apart w 22 4 44 line_slice 4 (fun w' => by kernel_rfl) ⟨vb, 0, none⟩ ⟨g, (i + 1) * 4, none⟩ 1 1 lb cb hne _ _ _ _ (blk_shape hv) (blk_shape hg) (by rw [List.size_toArray]; omega) (hv.frozen 0) (hv.frozen _)]
    rfl
  have hxl : xs.length = n * 4 := by rw [← hx, List.length_take]; omega
  have hcp1 : ∀ ty dc sc, (Builtin.copy_ #[22, 22] ty #[.slice (some ⟨g, (i + 1) * 4, none⟩) (n - i) dc, .slice (some ⟨g, i * 4, none⟩) (n + 1 - i) sc]).run Try.prog w.drew = _ := fun ty dc sc =>
    run_copyN (w := w.drew) (k := 4) (m := n - i) (cur := cur) (news := xs.drop (i * 4)) line_slice line_inf.size_ hg.drew (by omega) (by rw [List.length_drop]; omega) (fun _ => ⟨_, rfl, fun j v hj => by
      rw [ed_add_plain, hg.drew.cell]
      rw [List.getElem?_drop, ← hx, List.getElem?_take] at hj
      split at hj
      · simpa using hj
      · cases hj⟩) (by omega) (fun v hv => h1x v (List.mem_of_mem_drop hv))
  obtain ⟨L1, hL1⟩ : ∃ L1, L1 = over cur ((i + 1) * 4) (xs.drop (i * 4)) := ⟨_, rfl⟩
  have hl1 : L1.length = cur.length := by rw [hL1]; exact over_length (by rw [List.length_drop]; omega)
  rw [← hL1] at hcp1
  obtain ⟨W1, hW1⟩ : ∃ W1, W1 = w.drew.setRow g L1.toArray := ⟨_, rfl⟩
  rw [← hW1] at hcp1
  have hg1 : Blk W1 g 44 L1.toArray := by rw [hW1]; exact hg.drew.setRow_ _
  have hv1 : Blk W1 vb 44 ys.toArray := by rw [hW1]; exact hv.drew.setRow_far hne _
  have hb1 : Below base w W1 := by rw [hW1]; exact below_setRow (Below.refl _ _).drew hb _
  have hcp2 : ∀ ty dc, (Builtin.copy_ #[22, 22] ty #[.slice (some ⟨g, i * 4, none⟩) (n + 1 - i) dc, .slice (some ⟨vb, 0, none⟩) 1 1]).run Try.prog W1 = _ := fun ty dc =>
    run_copyN (w := W1) (k := 4) (m := 1) (cur := L1) (news := ys) line_slice line_inf.size_ hg1 (by omega) (by omega) (fun _ => ⟨_, rfl, fun j v hj => by
      rw [ed_add_plain, hv1.cell]
      simpa using hj⟩) (by omega) h1
  have hw1 : IntKind.i64.wrap ((i : Int) + 1) = (i : Int) + 1 := by rw [IntKind.wrap_i64]; omega
  have hw2 : IntKind.i64.wrap ((n : Int) + 1) = (n : Int) + 1 := by rw [IntKind.wrap_i64]; omega
  have hz2 : ¬ ((i : Int) = (n : Int)) := by omega
  have hb2 : ¬ (c = i + 1) := by omega
  have hb4 : ¬ (c = i) := by omega
  have hb1' : (0 : Int) ≤ (i : Int) + 1 := by omega
  have hb3 : (i : Int) ≤ (n : Int) + 1 := by omega
  have hin : i ≤ n := by omega
  have hfin : ((W1.setRow g (over L1 (i * 4) ys).toArray)).ownsRow base 44 4 (.slice (some ⟨g, 0, none⟩) (n + 1) c) (n + 1) (xs.take (i * 4) ++ ys ++ xs.drop (i * 4)) := by
    refine ⟨by simp; omega, .inr ⟨g, c, _, rfl, hb, hg1.setRow_ _, hc, by unfold maxLen; omega, ?_, ?_⟩⟩
    · rw [List.size_toArray, over_length (by omega)]; omega
    · rw [hL1]
      exact over_shift hi hc hcur hx hy
  have hbf : Below base w (W1.setRow g (over L1 (i * 4) ys).toArray) := below_setRow hb1 hb _
  have Hfin := Lib.hid hfin
  clear hcur hx hl1 hL1 hW1 hfin
  go_enter Try.func49, Try.ntmps49
  go_wp2_with (simp only [hov])
  go_region_law (refine step_copy_run rfl rfl (fun ty => hcp1 ty _ _) (by simp [Act.eval, Act.put]) (by simp [Act.eval, Act.put]) ?_)
  go_wp2
  go_ret
  exact ⟨_, rfl, Hfin.out, hbf⟩

set_option maxRecDepth 100000 in
set_option maxHeartbeats 4000000 in
/-- inside, without room -/
theorem insert_growL (w : World) (base g n i vb : Nat) (xs ys : List Value) (hb : base ≤ g) (hg : Blk w g 44 xs.toArray) (hxl : xs.length = n * 4) (hi : i < n) (hn : n ≤ 1000000000000)
    (hv : Blk w vb 44 ys.toArray) (hy : ys.length = 4) (h1 : ∀ u ∈ ys, u.oneCell' = true) (h1x : ∀ u ∈ xs, u.oneCell' = true) :
    Calls Try.prog 49 #[.slice (some ⟨g, 0, none⟩) n n, .int .i64 i, .slice (some ⟨vb, 0, none⟩) 1 1] w fun e w' =>
      ∃ v, e = .returned v ∧ w'.ownsRow base 44 4 v (n + 1) (xs.take (i * 4) ++ ys ++ xs.drop (i * 4)) ∧ Below base w w' := by
  obtain ⟨i0, hi0, hz0, hzs, hzb⟩ := line_inf
  have hkk : (n : Int) + 1 - (i : Int) = ((n + 1 - i : Nat) : Int) := by omega
  have hik : i + (n + 1 - i) = n + 1 := by omega
  have hcw : ∀ j v, (xs.take (i * 4))[j]? = some v → w.cell? ((⟨g, 0, none⟩ : Addr).add j) = some v := fun j v hj => by
    rw [ed_add_plain, Nat.zero_add, hg.cell]
    rw [List.getElem?_take] at hj
    split at hj
    · simpa using hj
    · cases hj
  have hold : (Builtin.firstCells i0.size i (.slice (some ⟨g, 0, none⟩) i n)).run Try.prog w.drew = .ok (xs.take (i * 4)).toArray w.drew := by
    rw [hzs]
    exact run_firstCells_some w.drew 4 i _ i n _ (by rw [List.length_take]; omega) hcw
  have hrz : ∀ ty, (Builtin.append_ #[22, 3] ty #[.slice (some ⟨g, 0, none⟩) i n, .int .i64 ((n : Int) + 1 - (i : Int))]).run Try.prog w =
      .ok (.slice (some ⟨w.heap.size, 0, none⟩) (n + 1) (grownCap w (n + 1) n 44)) (w.drew.alloc (.cells ((xs.take (i * 4)).toArray ++ Builtin.zeroCells (Value.agg #[.string ⟨#[]⟩, .int .i64 0, .int .i64 0, .int .i64 0]).cells (n + 1 - i) ++
        Builtin.zeroCells (Value.agg #[.string ⟨#[]⟩, .int .i64 0, .int .i64 0, .int .i64 0]).cells (grownCap w (n + 1) n 44 - (n + 1))) 44)) := fun ty => by
    have h := Lib.run_append_grow_zeros w 22 3 ty 44 i0 _ .i64 .i64 line_slice (by kernel_rfl) hi0 hz0 (some ⟨g, 0, none⟩) i n (xs.take (i * 4)) hold (n + 1 - i) (by omega) (by omega) (by omega) (by omega) (by rw [hzb]; omega) (by rw [hzb, hik]; exact growslice_fits (by omega) (by omega))
    rw [hik] at h
    rw [hkk]
    exact h
  obtain ⟨G, hG⟩ : ∃ G, G = grownCap w (n + 1) n 44 := ⟨_, rfl⟩
  rw [← hG] at hrz
  obtain ⟨Z, hZ, hZl⟩ : ∃ Z : List Value, (xs.take (i * 4)).toArray ++ Builtin.zeroCells (Value.agg #[.string ⟨#[]⟩, .int .i64 0, .int .i64 0, .int .i64 0]).cells (n + 1 - i) ++ Builtin.zeroCells (Value.agg #[.string ⟨#[]⟩, .int .i64 0, .int .i64 0, .int .i64 0]).cells (G - (n + 1)) = (xs.take (i * 4) ++ Z).toArray ∧ Z.length = (n + 1 - i) * 4 + (G - (n + 1)) * 4 := by
    refine ⟨(Builtin.zeroCells (Value.agg #[.string ⟨#[]⟩, .int .i64 0, .int .i64 0, .int .i64 0]).cells (n + 1 - i) ++ Builtin.zeroCells (Value.agg #[.string ⟨#[]⟩, .int .i64 0, .int .i64 0, .int .i64 0]).cells (G - (n + 1))).toList, ?_, ?_⟩
    · apply Array.ext'
      simp
    · simp [zeroCells_length, Value.cells]
  rw [hZ] at hrz
  clear hZ
  have hGn : n + 1 ≤ G := by rw [hG]; exact grownCap_ge w _ _ _
  have hG63 : G ≤ maxLen := by rw [hG]; exact grownCap_le_maxLen w (n + 1) n _ (by unfold maxLen; omega)
  clear hG hold hi0 hz0 hzs hzb i0
  obtain ⟨L0, hL0⟩ : ∃ L0, L0 = xs.take (i * 4) ++ Z := ⟨_, rfl⟩
  have hl0 : L0.length = G * 4 := by rw [hL0, List.length_append, List.length_take, hZl]; omega
  rw [← hL0] at hrz
  obtain ⟨W1, hW1⟩ : ∃ W1, W1 = w.drew.alloc (.cells L0.toArray 44) := ⟨_, rfl⟩
  rw [← hW1] at hrz
  have hN : Blk W1 w.heap.size 44 L0.toArray := by rw [hW1]; exact Blk.new _ _ _
  have hg1 : Blk W1 g 44 xs.toArray := by rw [hW1]; exact hg.drew.alloc _
  have hv1 : Blk W1 vb 44 ys.toArray := by rw [hW1]; exact hv.drew.alloc _
  have hb1 : Below w.heap.size w W1 := by rw [hW1]; exact (Below.refl _ w).drew.alloc (Nat.le_refl _) _
  have hcpA : ∀ ty dc, (Builtin.copy_ #[22, 22] ty #[.slice (some ⟨w.heap.size, i * 4, none⟩) (n + 1 - i) dc, .slice (some ⟨vb, 0, none⟩) 1 1]).run Try.prog W1 = _ := fun ty dc =>
    run_copyN (w := W1) (k := 4) (m := 1) (cur := L0) (news := ys) line_slice line_inf.size_ hN (by omega) (by omega) (fun _ => ⟨_, rfl, fun j v hj => by
      rw [ed_add_plain, hv1.cell]
      simpa using hj⟩) (by omega) h1
  obtain ⟨L1, hL1⟩ : ∃ L1, L1 = over L0 (i * 4) ys := ⟨_, rfl⟩
  have hl1 : L1.length = L0.length := by rw [hL1]; exact over_length (by omega)
  rw [← hL1] at hcpA
  obtain ⟨W2, hW2⟩ : ∃ W2, W2 = W1.setRow w.heap.size L1.toArray := ⟨_, rfl⟩
  rw [← hW2] at hcpA
  have hN2 : Blk W2 w.heap.size 44 L1.toArray := by rw [hW2]; exact hN.setRow_ _
  have hg2 : Blk W2 g 44 xs.toArray := by rw [hW2]; exact hg1.setRow_far (by have := hg.lt; omega) _
  have hb2 : Below w.heap.size w W2 := by rw [hW2]; exact below_setRow hb1 (Nat.le_refl _) _
  have hcpB : ∀ ty dc sc, (Builtin.copy_ #[22, 22] ty #[.slice (some ⟨w.heap.size, (i + 1) * 4, none⟩) (n - i) dc, .slice (some ⟨g, i * 4, none⟩) (n - i) sc]).run Try.prog W2.drew = _ := fun ty dc sc =>
    run_copyN (w := W2.drew) (k := 4) (m := n - i) (cur := L1) (news := xs.drop (i * 4)) line_slice line_inf.size_ hN2.drew (by omega) (by rw [List.length_drop]; omega) (fun _ => ⟨_, rfl, fun j v hj => by
      rw [ed_add_plain, hg2.drew.cell]
      rw [List.getElem?_drop] at hj
      simpa using hj⟩) (by omega) (fun v hv => h1x v (List.mem_of_mem_drop hv))
  obtain ⟨L2, hL2⟩ : ∃ L2, L2 = over L1 ((i + 1) * 4) (xs.drop (i * 4)) := ⟨_, rfl⟩
  have hl2 : L2.length = L1.length := by rw [hL2]; exact over_length (by rw [List.length_drop]; omega)
  rw [← hL2] at hcpB
  obtain ⟨W3, hW3⟩ : ∃ W3, W3 = W2.drew.setRow w.heap.size L2.toArray := ⟨_, rfl⟩
  rw [← hW3] at hcpB
  have hbw : base ≤ w.heap.size := by have := hg.lt; omega
  have hfin : W3.ownsRow base 44 4 (.slice (some ⟨w.heap.size, 0, none⟩) (n + 1) G) (n + 1) (xs.take (i * 4) ++ ys ++ xs.drop (i * 4)) := by
    refine ⟨by simp; omega, .inr ⟨_, G, L2.toArray, rfl, hbw, ?_, hGn, hG63, ?_, ?_⟩⟩
    · rw [hW3]; exact hN2.drew.setRow_ _
    · rw [List.size_toArray]; omega
    · rw [hL2, hL1, hL0]
      exact over_grow hi hxl hy (by omega)
  have hbf : Below base w W3 := by rw [hW3]; exact (below_setRow hb2.drew (Nat.le_refl _) _).mono hbw
  have hw1 : IntKind.i64.wrap ((i : Int) + 1) = (i : Int) + 1 := by rw [IntKind.wrap_i64]; omega
  have hw2 : IntKind.i64.wrap ((n : Int) + 1) = (n : Int) + 1 := by rw [IntKind.wrap_i64]; omega
  have hz2 : ¬ ((i : Int) = (n : Int)) := by omega
  have hc2 : ¬ (G = i + 1) := by clear hw1 hw2; omega
  have hc4 : ¬ (G = i) := by clear hw1 hw2; omega
  have hc5 : ¬ (n = i) := by omega
  have hb1' : (0 : Int) ≤ (i : Int) + 1 := by omega
  have hb3 : (i : Int) ≤ (n : Int) := by omega
  have hin : i ≤ n := by omega
  have Hfin := Lib.hid hfin
  clear hfin hL2 hL1 hL0 hl2 hl1 hl0 hW3 hW2 hW1 hkk hik hZl hcw
  go_enter Try.func49, Try.ntmps49
  go_wp2_with ((with_reducible refine go_append_run hrz ?a1 ?a2 ?_); (case a1 => rfl); (case a2 => rfl))
  go_region_law (refine step_copy_run rfl rfl (fun ty => hcpB ty _ _) (by simp [Act.eval, Act.put]) (by simp [Act.eval, Act.put]) ?_)
  go_wp2
  go_ret
  exact ⟨_, rfl, Hfin.out, hbf⟩

/-- slices.Insert of one element into a row of the call's own -/
theorem insert_ownL (w : World) (base : Nat) (A : Option Addr) (n c i vb : Nat) (xs ys : List Value) (hown : w.ownsRow base 44 4 (.slice A n c) n xs) (hbase : base ≤ w.heap.size) (hi : i ≤ n) (hn : n ≤ 1000000000000)
    (hv : Blk w vb 44 ys.toArray) (hy : ys.length = 4) (hne : ∀ ad, A = some ad → vb ≠ ad.block) (h1 : ∀ u ∈ ys, u.oneCell' = true) (h1x : ∀ u ∈ xs, u.oneCell' = true) :
    Calls Try.prog 49 #[.slice A n c, .int .i64 i, .slice (some ⟨vb, 0, none⟩) 1 1] w fun e w' =>
      ∃ v, e = .returned v ∧ w'.ownsRow base 44 4 v (n + 1) (xs.take (i * 4) ++ ys ++ xs.drop (i * 4)) ∧ Below base w w' := by
  rcases Nat.lt_or_ge i n with hlt | hge
  · rcases hown.2 with ⟨_, h⟩ | ⟨g, cap, cur, e, hb, hg, hnc, hcm, hcs, hx⟩
    · omega
    · injection e with e1 e2 e3
      subst e1
      subst e3
      rcases Nat.lt_or_ge n c with hr | hr
      · exact insert_shiftL w base g n c i vb cur.toList xs ys hb (by simpa [Blk] using hg) (by simpa using hcs) hx hlt hr (by unfold maxLen at hcm; omega) hn hv hy (hne _ rfl) h1 h1x
      · obtain rfl : c = n := by omega
        have hcx : cur = xs.toArray := by
          apply Array.ext'
          rw [← hx]
          simp only
          rw [List.take_of_length_le (by simp; omega)]
        subst hcx
        exact insert_growL w base g c i vb xs ys hb hg (by simpa using hcs) hlt hn hv hy h1 h1x
  · obtain rfl : i = n := by omega
    have hxl := hown.1
    rw [List.take_of_length_le (by omega), List.drop_of_length_le (by omega), List.append_nil]
    exact insert_endL w base A i c vb xs ys hown hbase hn hv hy h1

end Go.Proofs.Ytogkcokgcoookaa
