/-
  Layer 10 (half): slices.Delete of one element at []api.Line.
-/
import Derived.Test.YtogkcokgcoookaaInsertL
namespace Go.Ed
open Go.RowKit
section
variable {P : Program} {w : World} {ops : Array Oper} {rest : List Oper} {a : Act} {Q : Exit → Act → World → Prop}
/-- append with its run known, as one step of a region that draws -/
theorem step_append_run {o : Oper} {K : Act → World → Prop} {E : Prop} {d s : Operand} {dT sT : TypeId} (hg : o.guard = none) (ho : o.op = .call { callee := .builtin .append, args := #[d, s], argTypes := #[dT, sT] })
    {v u : Value} {v' : Value} {w' : World} (hr : ∀ ty, (Builtin.append_ #[dT, sT] ty #[v, u]).run P w = .ok v' w') (hd : a.eval d = v) (hs : a.eval s = u)
    (h : K (a.put o.dst v') w') : if Region.wanted o (yielded ops a.tmps) = true then Oper.wp P o a w K Q else E := by
  have hw : Region.wanted o (yielded ops a.tmps) = true := by simp [Region.wanted, hg]
  rw [if_pos hw]
  unfold Oper.wp
  simp [execOp, ho, resolve, invoke, builtin, hd, hs, hr, Result.andThen]
  exact h
/-- clear with its run known -/
theorem go_clear_run {dst : Option Tmp} {type : TypeId} {pos : String} {after : Array Edge} {s : Operand} {sT : TypeId} {u : Value} {v' : Value} {w' : World} (hr : ∀ ty, (Builtin.clear_ #[sT] ty #[u]).run P w = .ok v' w') (hs : a.eval s = u)
    (h : wpList P ops Q rest (a.put dst v') w') : wpList P ops Q (⟨dst, .call { callee := .builtin .clear, args := #[s], argTypes := #[sT] }, type, pos, after, none⟩ :: rest) a w :=
  wpList_plain rfl fun K hK => by
    unfold Oper.wp execOp
    simp only [resolve, invoke, builtin, Sem.run_bind, Sem.run_pure, Result.andThen_ok, List.map_toArray, List.map_cons, List.map_nil, hs, hr]
    exact hK _ _ h
theorem run_clear_row (t e ty : TypeId) (z : Value) (ht : P.underlying t = some (.slice e)) (hv : ∀ w, (zeroValue e).run P w = .ok z w) {k : Nat} (hz : z.cells.size = k) (hk : 0 < k) (hz1 : ∀ u ∈ z.cells.toList, u.oneCell' = true) {T : TypeId} (g o n c : Nat) {cur : List Value} (hg : Blk w g T cur.toArray) (hn : 0 < n)
    (hfit : o + n * k ≤ cur.length) : (Builtin.clear_ #[t] ty #[.slice (some ⟨g, o, none⟩) n c]).run P w = .ok (.tuple #[]) (w.setRow g (over cur o (Builtin.zeroCells z.cells n).toList).toArray) := by
  have hl : (Builtin.zeroCells z.cells n).toList.length = n * k := by rw [Array.length_toList, zeroCells_length, hz]
  have h1 : ∀ u ∈ (Builtin.zeroCells z.cells n).toList, u.oneCell' = true := by
    intro u hu
    simp only [Builtin.zeroCells] at hu
    simp at hu
    obtain ⟨j, hj, rfl⟩ := hu
    have : j % z.cells.size < z.cells.size := Nat.mod_lt _ (by omega)
    refine hz1 _ ?_
    simp [this]
  have hst := run_storeCells_at P g o T (Builtin.zeroCells z.cells n).toList 0 cur.toArray w hg (by rw [hl]; simpa using hfit) h1
  simp only [Nat.add_zero] at hst
  obtain ⟨m, rfl⟩ : ∃ m, n = m + 1 := ⟨n - 1, by omega⟩
  simp [Builtin.clear_, run_underlying ht, hv, hst, over]
end
/-- what a deletion leaves -/
theorem over_cut {cur xs Z : List Value} {n i c k : Nat} (hi : i < n) (hcur : cur.length = c * k) (hnc : n ≤ c) (hx : cur.take (n * k) = xs) :
    (over (over cur (i * k) (xs.drop ((i + 1) * k))) ((n - 1) * k) Z).take ((n - 1) * k) = xs.take (i * k) ++ xs.drop ((i + 1) * k) := by
  have h1 : i * k + k ≤ n * k := by rw [← Nat.succ_mul]; exact Nat.mul_le_mul_right _ hi
  have h2 : n * k ≤ c * k := Nat.mul_le_mul_right _ hnc
  have h3 : (i + 1) * k = i * k + k := Nat.succ_mul _ _
  have h4 : (n - 1) * k = n * k - k := by rw [Nat.sub_mul, Nat.one_mul]
  have hxl : xs.length = n * k := by rw [← hx, List.length_take]; omega
  have hxt : xs.take (i * k) = cur.take (i * k) := by rw [← hx, List.take_take, Nat.min_eq_left (by omega)]
  rw [h3, h4, hxt]
  generalize i * k = a at *
  generalize n * k = b at *
  have hl : (cur.take a ++ xs.drop (a + k)).length = b - k := by rw [List.length_append, List.length_take, List.length_drop, hxl]; omega
  have hL : (over cur a (xs.drop (a + k))).take (b - k) = cur.take a ++ xs.drop (a + k) := by
    unfold over
    rw [← hl, List.append_assoc, ← List.append_assoc, List.take_left]
  have hlo : b - k ≤ (over cur a (xs.drop (a + k))).length := by rw [over_length (by rw [List.length_drop, hxl]; omega)]; omega
  rw [over, List.append_assoc, List.take_append_of_le_length (by rw [List.length_take]; omega), List.take_take, Nat.min_self, hL]
end Go.Ed
namespace Go.Proofs.Ytogkcokgcoookaa
open Go.RowKit Go.Shelf Go.Ed

set_option maxRecDepth 100000 in
set_option maxHeartbeats 4000000 in
theorem deleteL_own (w : World) (base : Nat) (A : Option Addr) (n c i : Nat) (xs : List Value) (hown : w.ownsRow base 44 4 (.slice A n c) n xs) (hi : i < n) (hn : n ≤ 1000000000000) (h1x : ∀ u ∈ xs, u.oneCell' = true) :
    Calls Try.prog 48 #[.slice A n c, .int .i64 i, .int .i64 ((i : Int) + 1)] w fun e w' =>
      ∃ v, e = .returned v ∧ w'.ownsRow base 44 4 v (n - 1) (xs.take (i * 4) ++ xs.drop ((i + 1) * 4)) ∧ Below base w w' := by
  rcases hown.2 with ⟨_, h⟩ | ⟨g, cap, cur', e, hb, hg', hnc, hcm, hcs', hx⟩
  · omega
  injection e with e1 e2 e3
  subst e1
  subst e3
  obtain ⟨cur, hcc⟩ : ∃ cur : List Value, cur'.toList = cur := ⟨_, rfl⟩
  have hg : Blk w g 44 cur.toArray := by subst hcc; simpa [Blk] using hg'
  have hcs : cur.length = c * 4 := by subst hcc; simpa using hcs'
  rw [hcc] at hx
  clear hg' hcs' hcc
  unfold maxLen at hcm
  have hxl : xs.length = n * 4 := hown.1
  obtain ⟨i0, hi0, hz0, hzs, hzb⟩ := line_inf
  have hap : ∀ ty ad cc, (ad = ⟨g, (i + 1) * 4, none⟩ ∨ c = i + 1) → (Builtin.append_ #[22, 22] ty #[.slice (some ⟨g, 0, none⟩) i c, .slice (some ad) (n - (i + 1)) cc]).run Try.prog w.drew =
      .ok (.slice (some ⟨g, 0, none⟩) (n - 1) c) (w.drew.setRow g (over cur (i * 4) (xs.drop ((i + 1) * 4))).toArray) := fun ty ad cc had => by
    have hl : (xs.drop ((i + 1) * 4)).length = (n - (i + 1)) * i0.size := by rw [List.length_drop, hxl, hzs]; omega
    have h := run_append_room (P := Try.prog) w.drew 22 ty 44 i0 line_slice hi0 g i c cur.toArray hg.drew ad (n - (i + 1)) cc (xs.drop ((i + 1) * 4)) hl (fun j u hj => by
      rcases had with rfl | rfl
      · rw [ed_add_plain, hg.drew.cell]
        rw [List.getElem?_drop, ← hx, List.getElem?_take] at hj
        split at hj
        · simpa using hj
        · cases hj
      · have : xs.drop ((i + 1) * 4) = [] := List.drop_of_length_le (by omega)
        rw [this] at hj
        simp at hj) (fun v hv => h1x v (List.mem_of_mem_drop hv)) (by omega) (by rw [hl, hzs, List.size_toArray, hcs]; omega)
    rw [h, hzs, show i + (n - (i + 1)) = n - 1 by omega]
    rfl
  obtain ⟨L1, hL1⟩ : ∃ L1, L1 = over cur (i * 4) (xs.drop ((i + 1) * 4)) := ⟨_, rfl⟩
  have hl1 : L1.length = cur.length := by rw [hL1]; exact over_length (by rw [List.length_drop]; omega)
  rw [← hL1] at hap
  obtain ⟨W1, hW1⟩ : ∃ W1, W1 = w.drew.setRow g L1.toArray := ⟨_, rfl⟩
  rw [← hW1] at hap
  have hg1 : Blk W1 g 44 L1.toArray := by rw [hW1]; exact hg.drew.setRow_ _
  have hb1 : Below base w W1 := by rw [hW1]; exact below_setRow (Below.refl _ _).drew hb _
  have hzv : ∀ W, (zeroValue 44).run Try.prog W = .ok (.agg #[.string ⟨#[]⟩, .int .i64 0, .int .i64 0, .int .i64 0]) W := fun W => by kernel_rfl
  have hclr : ∀ ty cc, (Builtin.clear_ #[22] ty #[.slice (some ⟨g, (n - 1) * 4, none⟩) (n - (n - 1)) cc]).run Try.prog W1 = _ := fun ty cc =>
    run_clear_row 22 44 ty _ line_slice hzv (k := 4) rfl (by omega) (by simp [Value.cells, Value.oneCell']) g ((n - 1) * 4) (n - (n - 1)) cc hg1 (by omega) (by omega)
  obtain ⟨Z, hZ, hZl⟩ : ∃ Z : List Value, Z = (Builtin.zeroCells (Value.agg #[.string ⟨#[]⟩, .int .i64 0, .int .i64 0, .int .i64 0]).cells (n - (n - 1))).toList ∧ Z.length = 4 := ⟨_, rfl, by rw [Array.length_toList, zeroCells_length, show n - (n - 1) = 1 by omega]; rfl⟩
  rw [← hZ] at hclr
  have hfin : (W1.setRow g (over L1 ((n - 1) * 4) Z).toArray).ownsRow base 44 4 (.slice (some ⟨g, 0, none⟩) (n - 1) c) (n - 1) (xs.take (i * 4) ++ xs.drop ((i + 1) * 4)) := by
    refine ⟨by simp; omega, .inr ⟨g, c, _, rfl, hb, hg1.setRow_ _, by omega, by unfold maxLen; omega, ?_, ?_⟩⟩
    · rw [List.size_toArray, over_length (by omega)]; omega
    · rw [hL1]
      exact over_cut hi hcs hnc hx
  have hbf : Below base w (W1.setRow g (over L1 ((n - 1) * 4) Z).toArray) := below_setRow hb1 hb _
  have Hfin := Lib.hid hfin
  have hw1 : ¬ ((i : Int) = (i : Int) + 1) := by omega
  have hin : i ≤ c := by omega
  have hi0p : (0 : Int) ≤ (i : Int) + 1 := by omega
  have hin2 : (i : Int) + 1 ≤ (n : Int) := by omega
  have hin3 : (i : Int) ≤ (i : Int) + 1 := by omega
  have hin4 : (n : Int) ≤ (c : Int) := by omega
  have hb4 : ¬ (c = n - 1) := by omega
  have Hap := Lib.hid hap
  have Hclr := Lib.hid hclr
  clear hcs hx hl1 hL1 hW1 hfin hZ hZl hclr hap hown hg hg1
  have hcl2 : ∀ cc, (Builtin.clear_ #[22] 0 #[.slice (some ⟨g, (n - 1) * 4, none⟩) (n - (n - 1)) cc]).run Try.prog W1 = .ok (.tuple #[]) (W1.setRow g (over L1 ((n - 1) * 4) Z).toArray) := fun cc => Hclr.out 0 cc
  by_cases hc1 : c = i + 1
  · have hn1 : n = i + 1 := by omega
    have hc1' : (c : Int) = (i : Int) + 1 := by omega
    have hcl1 := hcl2 1
    rw [show n - (n - 1) = 1 by omega, show (n - 1) * 4 = i * 4 by omega] at hcl1
    rw [show (n - 1) * 4 = i * 4 by omega] at Hfin hbf
    clear hcl2
    go_enter Try.func48, Try.ntmps48
    go_wp2_with fail
    go_region_law (refine step_append_run rfl rfl (fun ty => Hap.out ty ⟨g, 0, none⟩ 0 (.inr hc1)) (by simp [Act.eval, Act.put, hc1]) (by simp [Act.eval, Act.put, hn1]) ?_)
    go_wp2
    go_ret
    have h := Hfin.out
    rw [show n - 1 = i by omega, hc1] at h
    exact ⟨_, rfl, by rw [show n - 1 = i by omega]; exact h, hbf⟩
  · go_enter Try.func48, Try.ntmps48
    go_wp2_with fail
    go_region_law (refine step_append_run rfl rfl (fun ty => Hap.out ty ⟨g, (i + 1) * 4, none⟩ (c - (i + 1)) (.inl rfl)) (by simp [Act.eval, Act.put]) (by simp [Act.eval, Act.put]) ?_)
    go_wp2
    go_ret
    exact ⟨_, rfl, Hfin.out, hbf⟩

end Go.Proofs.Ytogkcokgcoookaa
