/-
  Layer 8 (boot): the iterator over the slots.
-/
import Derived.Test.YtajokeimipllcaaDoorBtC
set_option linter.unusedVariables false
namespace Go.Proofs.YtajokeimipllcaaDoor
open Go.ChangeShapes Go.WideShapes Go.ChangeAt Go.RowKit Go.Ed
attribute [local go_sem] Oper.semAt_some

/-- a sector read, as a slice to be read -/
theorem read_r (w : World) {g s n : Nat} {cut : Bool} {left writes : Int} {bs : List Int} (hd : Dsk w g s false cut left n writes bs) (k : Int) (hk0 : 0 ≤ k) (hk : k < n) :
    Calls Tryd.prog 30 #[.pointer (some ⟨g, 0, none⟩), .int .i64 k] w fun e w' => ∃ b c, e = .returned (.tuple #[.slice (some ⟨b, 0, none⟩) 16 c, .int .i64 0]) ∧
      Reads w' w'.heap.size 1 (some ⟨b, 0, none⟩) 16 (u8s (sect bs k.toNat)) ∧ Below w.heap.size w w' := by
  refine (read_i w hd k hk0 hk).mono ?_
  rintro e w1 ⟨b, c, rfl, hb0, hb1, hcell, hlen, hb⟩
  refine ⟨b, c, rfl, ⟨by simp [u8s, hlen], fun _ => ⟨_, rfl, hb1, fun j u hu => ?_⟩⟩, hb⟩
  have hj : j < 16 := by have := (List.getElem?_eq_some_iff.1 hu).1; simpa [u8s, hlen] using this
  rw [ed_add_plain, hcell j hj]
  rw [← hu]
  simp [u8s, List.getD, List.getElem?_eq_getElem (show j < (sect bs k.toNat).length by omega)]

/-- memory while the iterator is at work -/
structure IW (W : World) (B g s n : Nat) (cut : Bool) (left writes : Int) (bs : List Int) : Prop where
  dsk : Dsk W g s false cut left n writes bs
  tab : Tabs W
  box : Blk W B 28 #[.pointer (some ⟨g, 0, none⟩)]
theorem IW.below {W W' : World} {m B g s n : Nat} {cut : Bool} {left writes : Int} {bs : List Int} (h : IW W B g s n cut left writes bs) (hb : Below m W W') (h0 : 0 < m) (hB : B < m) (hg : g < m) (hs : s < m) : IW W' B g s n cut left writes bs :=
  ⟨h.dsk.below hb hg hs, h.tab.below hb h0, h.box.below hb hB⟩

theorem _root_.Go.Ed.Reads.at0 {w : World} {B n : Nat} {ad : Addr} {xs : List Value} (h : Reads w B 1 (some ad) n xs) {j : Nat} {u : Value} (hj : xs[j]? = some u) : w.cell? (ad.add j) = some u := by
  have hl := (List.getElem?_eq_some_iff.1 hj).1
  obtain ⟨ad', e, _, hc⟩ := h.2 (by have := h.1; omega)
  cases e
  exact hc j u hj
/-- what a round keeps: the table, the disk, the iterator's box -/
def Keep4 (g s B : Nat) (W W' : World) : Prop := Chg (fun i => i ≠ 0 ∧ i ≠ g ∧ i ≠ s ∧ i ≠ B) W W'
theorem IW.keep {W W' : World} {B g s n : Nat} {cut : Bool} {left writes : Int} {bs : List Int} (h : IW W B g s n cut left writes bs) (hk : Keep4 g s B W W') : IW W' B g s n cut left writes bs :=
  ⟨h.dsk.chg hk (by simp) (by simp), fun i hi => by
    have hc := h.tab i hi
    have hlt : 0 < W.heap.size := World.block_lt_of_cell? W _ hc
    exact (World.cell?_of_block (hk.block 0 hlt (by simp))).trans hc, h.box.chg hk (by simp)⟩
theorem grown_all {w w' : World} (h : Below w.heap.size w w') : w.grownBy w' none := ⟨h.os, h.tape, h.output, h.size, fun k hk _ => h.block k hk⟩
set_option maxRecDepth 100000 in
set_option maxHeartbeats 8000000 in
theorem slots1_stops (w : World) (n0 B g s n : Nat) (cut : Bool) (left writes : Int) (bs : List Int) (hI : IW w B g s n cut left writes bs) (hn4 : 4 ≤ n) (h0 : 0 < n0) (hB : B < n0) (hg : g < n0) (hs : s < n0) (hn0 : n0 ≤ w.heap.size) :
    SeqStopsK Fence.wide 5 Tryd.prog 29 #[.pointer (some ⟨B, 0, none⟩)] (fun x : Int => #[.int .i64 x, .int .i64 0]) (Keep4 g s B)
      (fun xs => xs = [standS (sect bs 0) (sect bs 1), standS (sect bs 2) (sect bs 3)]) (fun _ => True) 2 w := by
  intro l J Jx W hW hJ hJx hY hJ0
  have hIW : IW W B g s n cut left writes bs := hI.below hW (by omega) (by omega) (by omega) (by omega)
  have hnW : n0 ≤ W.heap.size := Nat.le_trans hn0 hW.size
  refine callsIn_wide.2 ?_
  go_enter Tryd.func29, Tryd.ntmps29
  go_wp2_with fail
  go_loopw [3] (fun v wr => ∃ j : Nat, j ≤ 2 ∧ v = .int .i64 (2 * (j : Int)) ∧ J ([standS (sect bs 0) (sect bs 1), standS (sect bs 2) (sect bs 3)].take j) wr ∧ IW wr B g s n cut left writes bs ∧ n0 ≤ wr.heap.size) (fun v _ => 4 - (intOf v).toNat)
  case atStart => exact ⟨0, by omega, rfl, hJ0, hIW, hnW⟩
  case round =>
    obtain ⟨j, hj2, rfl, hJr, hIr, hnr⟩ := hrel
    generalize hc14 : Code.region 14 _ _ = c14
    by_cases hlt : j < 2
    · have hlt' : 2 * (j : Int) < 4 := by omega
      have hbx := hIr.box.cell 0
      simp only [List.getElem?_toArray, List.getElem?_cons_zero] at hbx
      go_wp2_with (first
        | (go_at_call 30; (with_reducible refine (read_r _ hIr.dsk (2 * (j : Int)) (by omega) (by omega)).mono ?_); rintro e w1 ⟨b1, c1, rfl, hr1, hb1⟩; have hI1 := hIr.below hb1 (by omega) (by omega) (by omega) (by omega); have hbx1 := hI1.box.cell 0; simp only [List.getElem?_toArray, List.getElem?_cons_zero] at hbx1)
        | (go_at_call 30; (with_reducible refine (read_r _ hI1.dsk (2 * (j : Int) + 1) (by omega) (by omega)).mono ?_); rintro e w2 ⟨b2, c2, rfl, hr2, hb2⟩; have hI2 := hI1.below hb2 (by have := hb1.size; omega) (by have := hb1.size; omega) (by have := hb1.size; omega) (by have := hb1.size; omega)))
      have hX : [standS (sect bs 0) (sect bs 1), standS (sect bs 2) (sect bs 3)].take (j + 1) = [standS (sect bs 0) (sect bs 1), standS (sect bs 2) (sect bs 3)].take j ++ [standS (sect bs (2 * (j : Int)).toNat) (sect bs (2 * (j : Int) + 1).toNat)] := by
        rcases (show j = 0 ∨ j = 1 by omega) with rfl | rfl <;> rfl
      have sz1 := hb1.size
      have sz2 := hb2.size
      have hr1' := (hr1.below hb2).more sz2
      have hS : Below w2.heap.size w2 w2.drew := (Below.refl _ _).drew
      generalize hsa : sect bs (2 * (j : Int)).toNat = sa at hr1 hr1' hX
      generalize hsb : sect bs (2 * (j : Int) + 1).toNat = sb at hr2 hX
      have la : (u8s sa).length = 16 := hr1.1
      have lb : (u8s sb).length = 16 := hr2.1
      have la' : (u8s sa).toArray.size = 16 := by simpa using la
      have lb' : (u8s sb).toArray.size = 16 := by simpa using lb
      have harr : ∀ (b c : Nat) (W : World), (Instr.arrayAt 43 (.slice (some ⟨b, 0, none⟩) 16 c)).run Tryd.prog W = .ok (.pointer (some ⟨b, 0, none⟩)) W := fun b c W => by simp [Instr.arrayAt, run_underlying Tryd.underlying43]
      refine wp_region_held (S := Below w2.heap.size w2) (by kernel_rfl) ?_
      change wpAnyH _ _ _ _ _ _ _ _ w2.drew
      (refine wpAnyH_take (i := 0) (oi := ⟨_, .move _, _, _, _, none⟩) (v := .slice (some ⟨b1, 0, none⟩) 16 c1) rfl (by kernel_rfl) (by kernel_rfl) (by kernel_rfl) (fun _ _ _ h => h) (Or.inl ⟨by rfl, fun W hSW => ?_⟩) hS ?_; go_simp; try simp only [Act.put, List.setIfInBounds_toArray, List.set_cons_zero, List.set_cons_succ])
      (refine wpAnyH_take (i := 3) (oi := ⟨_, .move _, _, _, _, none⟩) (v := .slice (some ⟨b2, 0, none⟩) 16 c2) rfl (by kernel_rfl) (by kernel_rfl) (by kernel_rfl) (fun _ _ _ h => h) (Or.inl ⟨by rfl, fun W hSW => ?_⟩) hS ?_; go_simp; try simp only [Act.put, List.setIfInBounds_toArray, List.set_cons_zero, List.set_cons_succ])
      (refine wpAnyH_take (i := 1) (oi := ⟨_, .sliceToArrayPointer _ _, _, _, _, none⟩) (v := .pointer (some ⟨b1, 0, none⟩)) rfl (by kernel_rfl) (by kernel_rfl) (by kernel_rfl) (fun _ _ _ h => h) (Or.inl ⟨by rfl, fun W hSW => ?_⟩) hS ?_; go_simp; try simp only [Act.put, List.setIfInBounds_toArray, List.set_cons_zero, List.set_cons_succ])
      (refine wpAnyH_take (i := 4) (oi := ⟨_, .sliceToArrayPointer _ _, _, _, _, none⟩) (v := .pointer (some ⟨b2, 0, none⟩)) rfl (by kernel_rfl) (by kernel_rfl) (by kernel_rfl) (fun _ _ _ h => h) (Or.inl ⟨by rfl, fun W hSW => ?_⟩) hS ?_; go_simp; try simp only [Act.put, List.setIfInBounds_toArray, List.set_cons_zero, List.set_cons_succ])
      (refine wpAnyH_take (i := 2) (oi := ⟨_, .load _ _, _, _, _, none⟩) (v := .agg (u8s sa).toArray) rfl (by kernel_rfl) (by kernel_rfl) (by kernel_rfl) (fun _ _ _ h => h) (yields_load_list (ad := ⟨b1, 0, none⟩) Tryd.agg16 la rfl (fun W hW j u hj => (hr1'.below hW).at0 hj)) hS ?_; try simp only [Act.put, List.setIfInBounds_toArray, List.set_cons_zero, List.set_cons_succ])
      (refine wpAnyH_take (i := 5) (oi := ⟨_, .load _ _, _, _, _, none⟩) (v := .agg (u8s sb).toArray) rfl (by kernel_rfl) (by kernel_rfl) (by kernel_rfl) (fun _ _ _ h => h) (yields_load_list (ad := ⟨b2, 0, none⟩) Tryd.agg16 lb rfl (fun W hW j u hj => (hr2.below hW).at0 hj)) hS ?_; try simp only [Act.put, List.setIfInBounds_toArray, List.set_cons_zero, List.set_cons_succ])
      obtain ⟨w3, hw3⟩ : ∃ w3, w3 = w2.drew := ⟨_, rfl⟩
      rw [← hw3] at hS ⊢
      have sd : w3.heap.size = w2.heap.size := by rw [hw3]; rfl
      clear hw3
      refine wpAnyH_ready (rs := [6, 7]) (by kernel_rfl) (by simp) ?_
      refine' meet3 _ (fun p8 p9 w6 => Blk w6 p8 43 (u8s sa).toArray ∧ Blk w6 p9 43 (u8s sb).toArray ∧ Below w2.heap.size w2 w6) (fun tail => ?main) ?tl
      case main =>
        refine AllReadyH.cons rfl (fun K' hK => ?brA) (AllReadyH.cons rfl (fun K' hK => ?brB) AllReadyH.nil)
        case brA =>
          (go_simp; refine hK.out _ _ (hS.alloc (by simp [sd]) _) (fun hSn => ?_); clear hK K'; have hS := hSn; clear hSn)
          refine wpAnyH_ready (rs := [7]) (by kernel_rfl) (by simp) ?_
          refine AllReadyH.cons rfl (fun K' hK => ?_) AllReadyH.nil
          (go_simp; refine hK.out _ _ (hS.alloc (by simp [sd]) _) (fun hSn => ?_); clear hK K'; have hS := hSn; clear hSn)
          have e8 : Blk ((w3.alloc (.cells z16.toArray 43)).alloc (.cells z16.toArray 43)) w2.heap.size 43 z16.toArray := (Blk.new' (by simp [sd])).alloc _
          have e9 : Blk ((w3.alloc (.cells z16.toArray 43)).alloc (.cells z16.toArray 43)) (w2.heap.size + 1) 43 z16.toArray := Blk.new' (by simp [sd])
          (generalize ((w3.alloc (.cells z16.toArray 43)).alloc (.cells z16.toArray 43)) = w4 at hS e8 e9 ⊢; refine wpAnyH_ready (rs := [8]) (by kernel_rfl) (by simp) ?_; refine AllReadyH.cons rfl (fun K' hK => ?_) AllReadyH.nil; (refine step_store_all (u8s sa) Tryd.agg16 e8 ?_ ?_ rfl (la') (u8s_one _) ?_; rfl; rfl; intro w5 f8 c8; go_simp; refine hK.out _ _ (hS.trans ((c8).below (fun i hi => by omega) (by have := hS.size; omega))) (fun hSn => ?_); clear hK K'; have hS := hSn; clear hSn); have f9 := e9.chg c8 (by omega); refine wpAnyH_ready (rs := [9]) (by kernel_rfl) (by simp) ?_; refine AllReadyH.cons rfl (fun K' hK => ?_) AllReadyH.nil; (refine step_store_all (u8s sb) Tryd.agg16 f9 ?_ ?_ rfl (lb') (u8s_one _) ?_; rfl; rfl; intro w6 g9 c9; go_simp; refine hK.out _ _ (hS.trans ((c9).below (fun i hi => by omega) (by have := hS.size; omega))) (fun hSn => ?_); clear hK K'; have hS := hSn; clear hSn); have g8 := f8.chg c9 (by omega); refine wpAnyH_done (by kernel_rfl) ?_ _)
          generalize w2.heap.size + 1 = p9 at g9 ⊢
          generalize w2.heap.size = p8 at g8 ⊢
          exact tail _ _ _ ⟨g8, g9, hS⟩
        case brB =>
          (go_simp; refine hK.out _ _ (hS.alloc (by simp [sd]) _) (fun hSn => ?_); clear hK K'; have hS := hSn; clear hSn)
          refine wpAnyH_ready (rs := [6]) (by kernel_rfl) (by simp) ?_
          refine AllReadyH.cons rfl (fun K' hK => ?_) AllReadyH.nil
          (go_simp; refine hK.out _ _ (hS.alloc (by simp [sd]) _) (fun hSn => ?_); clear hK K'; have hS := hSn; clear hSn)
          have e9 : Blk ((w3.alloc (.cells z16.toArray 43)).alloc (.cells z16.toArray 43)) w2.heap.size 43 z16.toArray := (Blk.new' (by simp [sd])).alloc _
          have e8 : Blk ((w3.alloc (.cells z16.toArray 43)).alloc (.cells z16.toArray 43)) (w2.heap.size + 1) 43 z16.toArray := Blk.new' (by simp [sd])
          (generalize ((w3.alloc (.cells z16.toArray 43)).alloc (.cells z16.toArray 43)) = w4 at hS e8 e9 ⊢; refine wpAnyH_ready (rs := [8]) (by kernel_rfl) (by simp) ?_; refine AllReadyH.cons rfl (fun K' hK => ?_) AllReadyH.nil; (refine step_store_all (u8s sa) Tryd.agg16 e8 ?_ ?_ rfl (la') (u8s_one _) ?_; rfl; rfl; intro w5 f8 c8; go_simp; refine hK.out _ _ (hS.trans ((c8).below (fun i hi => by omega) (by have := hS.size; omega))) (fun hSn => ?_); clear hK K'; have hS := hSn; clear hSn); have f9 := e9.chg c8 (by omega); refine wpAnyH_ready (rs := [9]) (by kernel_rfl) (by simp) ?_; refine AllReadyH.cons rfl (fun K' hK => ?_) AllReadyH.nil; (refine step_store_all (u8s sb) Tryd.agg16 f9 ?_ ?_ rfl (lb') (u8s_one _) ?_; rfl; rfl; intro w6 g9 c9; go_simp; refine hK.out _ _ (hS.trans ((c9).below (fun i hi => by omega) (by have := hS.size; omega))) (fun hSn => ?_); clear hK K'; have hS := hSn; clear hSn); have g8 := f8.chg c9 (by omega); refine wpAnyH_done (by kernel_rfl) ?_ _)
          generalize w2.heap.size + 1 = p8 at g8 ⊢
          generalize w2.heap.size = p9 at g9 ⊢
          exact tail _ _ _ ⟨g8, g9, hS⟩
      case tl =>
        rintro p8 p9 w6 ⟨g8, g9, hS⟩
        have hB6 : Below wr.heap.size wr w6 := hb1.trans ((hb2.mono sz1).trans (hS.mono (by omega)))
        have hI6 := hI2.below hS (by omega) (by omega) (by omega) (by omega)
        have hr6 : Reads w6 w6.heap.size 1 (some ⟨p8, 0, none⟩) 8 (u8s (sa.take 8)) := Reads.of_blk g8 (by simp [u8s] at la ⊢; omega) (fun i u hu => by simp only [u8s, List.map_take, List.getElem?_take] at hu; split at hu; simpa [u8s] using hu; cases hu)
        clear hr1 hr2 hb1 hb2 hI1 hbx1 hS
        have hread : Calls Tryd.prog 31 #[.slice (some ⟨p8, 0, none⟩) 8 16] w6 fun e w' => e = .returned (.int .i64 (numS sa)) ∧ w6 = w' := read_any8 _ _ 8 16 _ hr6 (by omega)
        have hst : standS sa sb = if numS sa < 1 ∨ 1099511627776 < numS sa then 0 else if sa = recA (numS sa) ∧ sb = recB (numS sa) then numS sa else 0 := rfl
        generalize numS sa = m at hread hst
        have hread := Lib.hid hread
        by_cases q1 : m < 1
        · rw [if_pos (Or.inl q1)] at hst
          go_wp2_with (go_at_call 31; refine hread.out.mono ?_; rintro e w7 ⟨rfl, rfl⟩)
          (have hJ7 := hJ _ wr w6 none hJr (grown_all hB6) (fun r e => by cases e); obtain ⟨fn, tmps, assign, body, hy, hR⟩ := hY _ (0) w6 hJ7 (by simp; omega); rw [← hc14]; refine (wpIn_wide (n := 5)).1 ?_; gi_wp2; refine hR.mono ?_; rintro e W3 (⟨rfl, hJ3, hk3⟩ | ⟨rfl, hJx3⟩); (case inl => (gi_wp2; go_wp2_with fail; go_roundw; (case rel => exact ⟨j + 1, by omega, by first | go_num | (congr 1; omega), by rw [hX, hst]; exact hJ3, (hI6).keep hk3, by have := hk3.size; have := (hB6).size; omega⟩); (case measure => simp [intOf]; omega))); (case inr => (gi_wp2; go_wp2_with fail; refine bodyPost_ret (results_none rfl _ _ _) rfl ?_; exact ⟨⟨_, rfl⟩, .inr ⟨_, trivial, hJx3⟩⟩)))
        · by_cases q2 : 1099511627776 < m
          · rw [if_pos (Or.inr q2)] at hst
            have d1 : decide (m < 1) = false := decide_eq_false q1
            have d2 : decide (1099511627776 < m) = true := decide_eq_true q2
            clear q1 q2
            go_wp2_with (go_at_call 31; refine hread.out.mono ?_; rintro e w7 ⟨rfl, rfl⟩)
            (have hJ7 := hJ _ wr w6 none hJr (grown_all hB6) (fun r e => by cases e); obtain ⟨fn, tmps, assign, body, hy, hR⟩ := hY _ (0) w6 hJ7 (by simp; omega); rw [← hc14]; refine (wpIn_wide (n := 5)).1 ?_; gi_wp2; refine hR.mono ?_; rintro e W3 (⟨rfl, hJ3, hk3⟩ | ⟨rfl, hJx3⟩); (case inl => (gi_wp2; go_wp2_with fail; go_roundw; (case rel => exact ⟨j + 1, by omega, by first | go_num | (congr 1; omega), by rw [hX, hst]; exact hJ3, (hI6).keep hk3, by have := hk3.size; have := (hB6).size; omega⟩); (case measure => simp [intOf]; omega))); (case inr => (gi_wp2; go_wp2_with fail; refine bodyPost_ret (results_none rfl _ _ _) rfl ?_; exact ⟨⟨_, rfl⟩, .inr ⟨_, trivial, hJx3⟩⟩)))
          · rw [if_neg (by omega)] at hst
            have hrec := Lib.hid (record_any w6 hI6.tab (by have := g8.lt; omega) m (by omega) (by omega))
            have lra : (u8s (recA m)).toArray.size = 16 := by simp [u8s, recA_len]
            have lrb : (u8s (recB m)).toArray.size = 16 := by simp [u8s, recB_len]
            have ea := fun W => Tryd.eq16 W sa (recA m) (by simpa [u8s] using la) (recA_len m)
            have eb := fun W => Tryd.eq16 W sb (recB m) (by simpa [u8s] using lb) (recB_len m)
            have d1 : decide (m < 1) = false := decide_eq_false q1
            have d2 : decide (1099511627776 < m) = false := decide_eq_false q2
            clear q1 q2
            by_cases qa : sa = recA m
            · rw [decide_eq_true qa] at ea
              by_cases qb : sb = recB m
              · rw [decide_eq_true qb] at eb
                rw [if_pos ⟨qa, qb⟩] at hst
                clear qa qb
                (go_wp2_with (first | (go_at_call 31; refine hread.out.mono ?_; rintro e w7 ⟨rfl, rfl⟩) | (go_at_call 17; refine hrec.out.mono ?_; rintro e w8 ⟨rfl, hb8⟩; have e11 : Blk ((w8.alloc (.cells z16.toArray 43)).alloc (.cells z16.toArray 43)) w8.heap.size 43 z16.toArray := (Blk.new' rfl).alloc _; have e12 : Blk ((w8.alloc (.cells z16.toArray 43)).alloc (.cells z16.toArray 43)) (w8.heap.size + 1) 43 z16.toArray := Blk.new' (by simp)) | ((with_reducible refine go_store_as (off := 0) (vs := (u8s (recA m)).toArray) (u8s (recA m)).toArray Tryd.agg16 e11 ?b1 ?b2 ?b3 ?b4 ?b5 ?b6 ?_); (case b1 => rfl); (case b2 => rfl); (case b3 => exact lra); (case b4 => exact Nat.le_refl _); (case b5 => exact u8s_one _); (case b6 => simp); intro w9 f11 c11; have f12 := e12.chg c11 (by omega)) | ((with_reducible refine go_store_as (off := 0) (vs := (u8s (recB m)).toArray) (u8s (recB m)).toArray Tryd.agg16 f12 ?b1 ?b2 ?b3 ?b4 ?b5 ?b6 ?_); (case b1 => rfl); (case b2 => rfl); (case b3 => exact lrb); (case b4 => exact Nat.le_refl _); (case b5 => exact u8s_one _); (case b6 => simp); intro w10 h12 c12; have s8 := hb8.size; have l8 := g8.lt; have l9 := g9.lt; have h11 := f11.chg c12 (by omega); have G8 := ((((g8.below hb8 l8).alloc (.cells z16.toArray 43)).alloc (.cells z16.toArray 43)).chg c11 (by omega)).chg c12 (by omega); have G9 := ((((g9.below hb8 l9).alloc (.cells z16.toArray 43)).alloc (.cells z16.toArray 43)).chg c11 (by omega)).chg c12 (by omega)) | (with_reducible refine go_load_as (off := 0) (u8s sa) Tryd.agg16 G8 rfl (by omega) (by first | (rw [List.drop_zero]; exact List.take_of_length_le (by simp at la ⊢; omega)) ) ?_) | (with_reducible refine go_load_as (off := 0) (u8s (recA m)) Tryd.agg16 h11 rfl (by omega) (by first | (rw [List.drop_zero]; exact List.take_of_length_le (by simp at lra ⊢; omega)) ) ?_) | ((with_reducible refine go_load_gd (u8s sb) Tryd.agg16 G9 ?b1 ?b2 ?b3 ?_); (case b1 => rfl); (case b2 => exact lb); (case b3 => rfl)) | ((with_reducible refine go_load_gd (u8s (recB m)) Tryd.agg16 h12 ?b1 ?b2 ?b3 ?_); (case b1 => rfl); (case b2 => simpa using lrb); (case b3 => rfl))); have hB10 : Below wr.heap.size wr w10 := hB6.trans (((((hb8.mono hB6.size).alloc (by have := hB6.size; omega) _).alloc (by have := hB6.size; simp; omega) _).trans (c11.below (fun i hi => by have := hB6.size; omega) (by have := hB6.size; simp; omega))).trans (c12.below (fun i hi => by have := hB6.size; omega) (by have := hB6.size; have := c11.size; simp at this; omega))); have hI10 := hIr.below hB10 (by omega) (by omega) (by omega) (by omega))
                (have hJ7 := hJ _ wr w10 none hJr (grown_all hB10) (fun r e => by cases e); obtain ⟨fn, tmps, assign, body, hy, hR⟩ := hY _ (m) w10 hJ7 (by simp; omega); rw [← hc14]; refine (wpIn_wide (n := 5)).1 ?_; gi_wp2; refine hR.mono ?_; rintro e W3 (⟨rfl, hJ3, hk3⟩ | ⟨rfl, hJx3⟩); (case inl => (gi_wp2; go_wp2_with fail; go_roundw; (case rel => exact ⟨j + 1, by omega, by first | go_num | (congr 1; omega), by rw [hX, hst]; exact hJ3, (hI10).keep hk3, by have := hk3.size; have := (hB10).size; omega⟩); (case measure => simp [intOf]; omega))); (case inr => (gi_wp2; go_wp2_with fail; refine bodyPost_ret (results_none rfl _ _ _) rfl ?_; exact ⟨⟨_, rfl⟩, .inr ⟨_, trivial, hJx3⟩⟩)))
              · rw [decide_eq_false qb] at eb
                rw [if_neg (fun h => qb h.2)] at hst
                clear qa qb
                (go_wp2_with (first | (go_at_call 31; refine hread.out.mono ?_; rintro e w7 ⟨rfl, rfl⟩) | (go_at_call 17; refine hrec.out.mono ?_; rintro e w8 ⟨rfl, hb8⟩; have e11 : Blk ((w8.alloc (.cells z16.toArray 43)).alloc (.cells z16.toArray 43)) w8.heap.size 43 z16.toArray := (Blk.new' rfl).alloc _; have e12 : Blk ((w8.alloc (.cells z16.toArray 43)).alloc (.cells z16.toArray 43)) (w8.heap.size + 1) 43 z16.toArray := Blk.new' (by simp)) | ((with_reducible refine go_store_as (off := 0) (vs := (u8s (recA m)).toArray) (u8s (recA m)).toArray Tryd.agg16 e11 ?b1 ?b2 ?b3 ?b4 ?b5 ?b6 ?_); (case b1 => rfl); (case b2 => rfl); (case b3 => exact lra); (case b4 => exact Nat.le_refl _); (case b5 => exact u8s_one _); (case b6 => simp); intro w9 f11 c11; have f12 := e12.chg c11 (by omega)) | ((with_reducible refine go_store_as (off := 0) (vs := (u8s (recB m)).toArray) (u8s (recB m)).toArray Tryd.agg16 f12 ?b1 ?b2 ?b3 ?b4 ?b5 ?b6 ?_); (case b1 => rfl); (case b2 => rfl); (case b3 => exact lrb); (case b4 => exact Nat.le_refl _); (case b5 => exact u8s_one _); (case b6 => simp); intro w10 h12 c12; have s8 := hb8.size; have l8 := g8.lt; have l9 := g9.lt; have h11 := f11.chg c12 (by omega); have G8 := ((((g8.below hb8 l8).alloc (.cells z16.toArray 43)).alloc (.cells z16.toArray 43)).chg c11 (by omega)).chg c12 (by omega); have G9 := ((((g9.below hb8 l9).alloc (.cells z16.toArray 43)).alloc (.cells z16.toArray 43)).chg c11 (by omega)).chg c12 (by omega)) | (with_reducible refine go_load_as (off := 0) (u8s sa) Tryd.agg16 G8 rfl (by omega) (by first | (rw [List.drop_zero]; exact List.take_of_length_le (by simp at la ⊢; omega)) ) ?_) | (with_reducible refine go_load_as (off := 0) (u8s (recA m)) Tryd.agg16 h11 rfl (by omega) (by first | (rw [List.drop_zero]; exact List.take_of_length_le (by simp at lra ⊢; omega)) ) ?_) | ((with_reducible refine go_load_gd (u8s sb) Tryd.agg16 G9 ?b1 ?b2 ?b3 ?_); (case b1 => rfl); (case b2 => exact lb); (case b3 => rfl)) | ((with_reducible refine go_load_gd (u8s (recB m)) Tryd.agg16 h12 ?b1 ?b2 ?b3 ?_); (case b1 => rfl); (case b2 => simpa using lrb); (case b3 => rfl))); have hB10 : Below wr.heap.size wr w10 := hB6.trans (((((hb8.mono hB6.size).alloc (by have := hB6.size; omega) _).alloc (by have := hB6.size; simp; omega) _).trans (c11.below (fun i hi => by have := hB6.size; omega) (by have := hB6.size; simp; omega))).trans (c12.below (fun i hi => by have := hB6.size; omega) (by have := hB6.size; have := c11.size; simp at this; omega))); have hI10 := hIr.below hB10 (by omega) (by omega) (by omega) (by omega))
                (have hJ7 := hJ _ wr w10 none hJr (grown_all hB10) (fun r e => by cases e); obtain ⟨fn, tmps, assign, body, hy, hR⟩ := hY _ (0) w10 hJ7 (by simp; omega); rw [← hc14]; refine (wpIn_wide (n := 5)).1 ?_; gi_wp2; refine hR.mono ?_; rintro e W3 (⟨rfl, hJ3, hk3⟩ | ⟨rfl, hJx3⟩); (case inl => (gi_wp2; go_wp2_with fail; go_roundw; (case rel => exact ⟨j + 1, by omega, by first | go_num | (congr 1; omega), by rw [hX, hst]; exact hJ3, (hI10).keep hk3, by have := hk3.size; have := (hB10).size; omega⟩); (case measure => simp [intOf]; omega))); (case inr => (gi_wp2; go_wp2_with fail; refine bodyPost_ret (results_none rfl _ _ _) rfl ?_; exact ⟨⟨_, rfl⟩, .inr ⟨_, trivial, hJx3⟩⟩)))
            · rw [decide_eq_false qa] at ea
              rw [if_neg (fun h => qa h.1)] at hst
              clear qa
              (go_wp2_with (first | (go_at_call 31; refine hread.out.mono ?_; rintro e w7 ⟨rfl, rfl⟩) | (go_at_call 17; refine hrec.out.mono ?_; rintro e w8 ⟨rfl, hb8⟩; have e11 : Blk ((w8.alloc (.cells z16.toArray 43)).alloc (.cells z16.toArray 43)) w8.heap.size 43 z16.toArray := (Blk.new' rfl).alloc _; have e12 : Blk ((w8.alloc (.cells z16.toArray 43)).alloc (.cells z16.toArray 43)) (w8.heap.size + 1) 43 z16.toArray := Blk.new' (by simp)) | ((with_reducible refine go_store_as (off := 0) (vs := (u8s (recA m)).toArray) (u8s (recA m)).toArray Tryd.agg16 e11 ?b1 ?b2 ?b3 ?b4 ?b5 ?b6 ?_); (case b1 => rfl); (case b2 => rfl); (case b3 => exact lra); (case b4 => exact Nat.le_refl _); (case b5 => exact u8s_one _); (case b6 => simp); intro w9 f11 c11; have f12 := e12.chg c11 (by omega)) | ((with_reducible refine go_store_as (off := 0) (vs := (u8s (recB m)).toArray) (u8s (recB m)).toArray Tryd.agg16 f12 ?b1 ?b2 ?b3 ?b4 ?b5 ?b6 ?_); (case b1 => rfl); (case b2 => rfl); (case b3 => exact lrb); (case b4 => exact Nat.le_refl _); (case b5 => exact u8s_one _); (case b6 => simp); intro w10 h12 c12; have s8 := hb8.size; have l8 := g8.lt; have l9 := g9.lt; have h11 := f11.chg c12 (by omega); have G8 := ((((g8.below hb8 l8).alloc (.cells z16.toArray 43)).alloc (.cells z16.toArray 43)).chg c11 (by omega)).chg c12 (by omega); have G9 := ((((g9.below hb8 l9).alloc (.cells z16.toArray 43)).alloc (.cells z16.toArray 43)).chg c11 (by omega)).chg c12 (by omega)) | (with_reducible refine go_load_as (off := 0) (u8s sa) Tryd.agg16 G8 rfl (by omega) (by first | (rw [List.drop_zero]; exact List.take_of_length_le (by simp at la ⊢; omega)) ) ?_) | (with_reducible refine go_load_as (off := 0) (u8s (recA m)) Tryd.agg16 h11 rfl (by omega) (by first | (rw [List.drop_zero]; exact List.take_of_length_le (by simp at lra ⊢; omega)) ) ?_) | ((with_reducible refine go_load_gd (u8s sb) Tryd.agg16 G9 ?b1 ?b2 ?b3 ?_); (case b1 => rfl); (case b2 => exact lb); (case b3 => rfl)) | ((with_reducible refine go_load_gd (u8s (recB m)) Tryd.agg16 h12 ?b1 ?b2 ?b3 ?_); (case b1 => rfl); (case b2 => simpa using lrb); (case b3 => rfl))); have hB10 : Below wr.heap.size wr w10 := hB6.trans (((((hb8.mono hB6.size).alloc (by have := hB6.size; omega) _).alloc (by have := hB6.size; simp; omega) _).trans (c11.below (fun i hi => by have := hB6.size; omega) (by have := hB6.size; simp; omega))).trans (c12.below (fun i hi => by have := hB6.size; omega) (by have := hB6.size; have := c11.size; simp at this; omega))); have hI10 := hIr.below hB10 (by omega) (by omega) (by omega) (by omega))
              (have hJ7 := hJ _ wr w10 none hJr (grown_all hB10) (fun r e => by cases e); obtain ⟨fn, tmps, assign, body, hy, hR⟩ := hY _ (0) w10 hJ7 (by simp; omega); rw [← hc14]; refine (wpIn_wide (n := 5)).1 ?_; gi_wp2; refine hR.mono ?_; rintro e W3 (⟨rfl, hJ3, hk3⟩ | ⟨rfl, hJx3⟩); (case inl => (gi_wp2; go_wp2_with fail; go_roundw; (case rel => exact ⟨j + 1, by omega, by first | go_num | (congr 1; omega), by rw [hX, hst]; exact hJ3, (hI10).keep hk3, by have := hk3.size; have := (hB10).size; omega⟩); (case measure => simp [intOf]; omega))); (case inr => (gi_wp2; go_wp2_with fail; refine bodyPost_ret (results_none rfl _ _ _) rfl ?_; exact ⟨⟨_, rfl⟩, .inr ⟨_, trivial, hJx3⟩⟩)))
    · have hj : j = 2 := by omega
      subst hj
      go_wp2_with fail
      refine bodyPost_end (results_none rfl _ _ _) rfl ?_
      exact ⟨⟨_, rfl⟩, .inl ⟨_, rfl, hJr⟩⟩
end Go.Proofs.YtajokeimipllcaaDoor
