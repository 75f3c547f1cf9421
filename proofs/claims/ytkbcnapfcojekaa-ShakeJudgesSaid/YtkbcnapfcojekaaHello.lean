/-
  Layer 14 (shake): Hello, Welcome, the code's and the document's.
-/
import Derived.Test.YtkbcnapfcojekaaTurns
namespace Go.Proofs.Ytkbcnapfcojekaa
open Go.ChangeShapes Go.WideShapes Go.ChangeAt Go.RowKit Go.Ed Go.Joins

theorem ite_wanted {b : Bool} {A B : Prop} (h : b = true) (hA : A) : if b = true then A else B := by rw [if_pos h]; exact hA

theorem refGet_lit (w : World) (A : Option Addr) (len cap : Nat) (ls : List Seen) (p : Int) {q b l m : Int} (hs : refGot ls p = ⟨q, b, l, m⟩) (hlen : (len : Int) ≤ 9223372036854775807) (hI : SeenAt w w.heap.size A len ls) :
    Calls Try.prog 36 #[.slice A len cap, .int .i64 p] w fun e w' => e = .returned (.agg #[.int .i64 q, .int .i64 b, .int .i64 l, .int .i64 m]) ∧ Below w.heap.size w w' := by
  have h := refGet_any w w.heap.size A len cap ls p hlen hI (Nat.le_refl _)
  rw [hs] at h
  exact h

set_option maxRecDepth 100000 in
theorem hello_any (w : World) (id boot peer : Int) (A : Option Addr) (n c : Nat) (ls : List Seen) {q b l m : Int} (hg : got ls peer = ⟨q, b, l, m⟩) (hn : (n : Int) ≤ 9223372036854775807) (hI : SeenAt w w.heap.size A n ls) :
    Calls Try.prog 43 #[.int .i64 id, .int .i64 boot, .slice A n c, .int .i64 peer] w fun e w' =>
      e = .returned (.agg #[.int .i64 1, .int .i64 id, .int .i64 peer, .int .i64 boot, .int .i64 m, .int .i64 0, .int .i64 0, .slice none 0 0]) ∧ Below w.heap.size w w' := by
  have hf3 := field3
  replace hg := Lib.hid hg
  have hb0 : Below w.heap.size w (w.alloc (.cells #[.int .i64 0, .int .i64 0, .int .i64 0, .int .i64 0, .int .i64 0, .int .i64 0, .int .i64 0, .slice none 0 0] 71)) := (Below.refl _ w).alloc (Nat.le_refl _) _
  have hB0 : Blk (w.alloc (.cells #[.int .i64 0, .int .i64 0, .int .i64 0, .int .i64 0, .int .i64 0, .int .i64 0, .int .i64 0, .slice none 0 0] 71)) w.heap.size 71 #[.int .i64 0, .int .i64 0, .int .i64 0, .int .i64 0, .int .i64 0, .int .i64 0, .int .i64 0, .slice none 0 0] := Blk.new _ _ _
  go_enter Try.func43, Try.ntmps43
  go_wp2_with fail
  refine (Get_lit _ A n c ls peer hg.out hn ((hI.below hb0).more hb0.size)).mono ?_
  rintro e w1 ⟨rfl, h1⟩
  have hb1 := hb0.trans (h1.mono hb0.size)
  have hB1 := hB0.below h1 hB0.lt
  clear hb0 hB0 h1
  go_wp2_with ((with_reducible refine go_store_as (off := 0) (vs := #[.int .i64 1, .int .i64 id, .int .i64 peer, .int .i64 boot, .int .i64 m, .int .i64 0, .int .i64 0, .slice none 0 0]) #[.int .i64 1, .int .i64 id, .int .i64 peer, .int .i64 boot, .int .i64 m, .int .i64 0, .int .i64 0, .slice none 0 0] agg_Packet' hB1 ?b1 ?b2 ?b3 ?b4 ?b5 ?b6 ?_); (case b1 => rfl); (case b2 => rfl); (case b3 => rfl); (case b4 => simp); (case b5 => simp [Value.oneCell']); (case b6 => rfl); intro w4 hB4 hC4)
  refine bodyPost_ret (results_blk rfl agg_Packet' hB4 rfl) rfl ?_
  exact ⟨rfl, hb1.trans (hC4.below (fun i h => by subst h; exact Nat.le_refl _) hb1.size)⟩
set_option maxRecDepth 100000 in
theorem refHello_any (w : World) (id boot peer : Int) (A : Option Addr) (n c : Nat) (ls : List Seen) {q b l m : Int} (hg : refGot ls peer = ⟨q, b, l, m⟩) (hn : (n : Int) ≤ 9223372036854775807) (hI : SeenAt w w.heap.size A n ls) :
    Calls Try.prog 54 #[.int .i64 id, .int .i64 boot, .slice A n c, .int .i64 peer] w fun e w' =>
      e = .returned (.agg #[.int .i64 1, .int .i64 id, .int .i64 peer, .int .i64 boot, .int .i64 m, .int .i64 0, .int .i64 0, .slice none 0 0]) ∧ Below w.heap.size w w' := by
  have hf3 := field3
  replace hg := Lib.hid hg
  have hb0 : Below w.heap.size w (w.alloc (.cells #[.int .i64 0, .int .i64 0, .int .i64 0, .int .i64 0, .int .i64 0, .int .i64 0, .int .i64 0, .slice none 0 0] 71)) := (Below.refl _ w).alloc (Nat.le_refl _) _
  have hB0 : Blk (w.alloc (.cells #[.int .i64 0, .int .i64 0, .int .i64 0, .int .i64 0, .int .i64 0, .int .i64 0, .int .i64 0, .slice none 0 0] 71)) w.heap.size 71 #[.int .i64 0, .int .i64 0, .int .i64 0, .int .i64 0, .int .i64 0, .int .i64 0, .int .i64 0, .slice none 0 0] := Blk.new _ _ _
  go_enter Try.func54, Try.ntmps54
  go_wp2_with fail
  refine (refGet_lit _ A n c ls peer hg.out hn ((hI.below hb0).more hb0.size)).mono ?_
  rintro e w1 ⟨rfl, h1⟩
  have hb1 := hb0.trans (h1.mono hb0.size)
  have hB1 := hB0.below h1 hB0.lt
  clear hb0 hB0 h1
  go_wp2_with ((with_reducible refine go_store_as (off := 0) (vs := #[.int .i64 1, .int .i64 id, .int .i64 peer, .int .i64 boot, .int .i64 m, .int .i64 0, .int .i64 0, .slice none 0 0]) #[.int .i64 1, .int .i64 id, .int .i64 peer, .int .i64 boot, .int .i64 m, .int .i64 0, .int .i64 0, .slice none 0 0] agg_Packet' hB1 ?b1 ?b2 ?b3 ?b4 ?b5 ?b6 ?_); (case b1 => rfl); (case b2 => rfl); (case b3 => rfl); (case b4 => simp); (case b5 => simp [Value.oneCell']); (case b6 => rfl); intro w4 hB4 hC4)
  refine bodyPost_ret (results_blk rfl agg_Packet' hB4 rfl) rfl ?_
  exact ⟨rfl, hb1.trans (hC4.below (fun i h => by subst h; exact Nat.le_refl _) hb1.size)⟩


set_option maxRecDepth 100000 in
set_option maxHeartbeats 2000000 in
theorem welcome_any (w : World) (id boot : Int) (A : Option Addr) (n c : Nat) (ls : List Seen) (kd src dst bo li ec el : Int) (A2 : Option Addr) (n2 c2 : Nat) {q b l m : Int} (hg : got ls src = ⟨q, b, l, m⟩) (hn : (n : Int) ≤ 9223372036854775807) (hI : SeenAt w w.heap.size A n ls) :
    Calls Try.prog 44 #[.int .i64 id, .int .i64 boot, .slice A n c, .agg #[.int .i64 kd, .int .i64 src, .int .i64 dst, .int .i64 bo, .int .i64 li, .int .i64 ec, .int .i64 el, .slice A2 n2 c2]] w fun e w' =>
      e = .returned (.agg #[.int .i64 2, .int .i64 id, .int .i64 src, .int .i64 boot, .int .i64 m, .int .i64 bo, .int .i64 li, .slice none 0 0]) ∧ Below w.heap.size w w' := by
  have hf3 := field3
  replace hg := Lib.hid hg
  obtain ⟨gp, hgp⟩ : ∃ g, g = w.heap.size := ⟨_, rfl⟩
  go_enter Try.func44, Try.ntmps44
  go_wp2_with fail
  have hb0 : Below w.heap.size w ((w.alloc (.cells #[.int .i64 kd, .int .i64 src, .int .i64 dst, .int .i64 bo, .int .i64 li, .int .i64 ec, .int .i64 el, .slice A2 n2 c2] 71)).alloc (.cells #[.int .i64 0, .int .i64 0, .int .i64 0, .int .i64 0, .int .i64 0, .int .i64 0, .int .i64 0, .slice none 0 0] 71)) := ((Below.refl _ w).alloc (Nat.le_refl _) _).alloc (by simp) _
  have hB0 : Blk ((w.alloc (.cells #[.int .i64 kd, .int .i64 src, .int .i64 dst, .int .i64 bo, .int .i64 li, .int .i64 ec, .int .i64 el, .slice A2 n2 c2] 71)).alloc (.cells #[.int .i64 0, .int .i64 0, .int .i64 0, .int .i64 0, .int .i64 0, .int .i64 0, .int .i64 0, .slice none 0 0] 71)) gp 71 #[.int .i64 kd, .int .i64 src, .int .i64 dst, .int .i64 bo, .int .i64 li, .int .i64 ec, .int .i64 el, .slice A2 n2 c2] := by rw [hgp]; exact (Blk.new _ _ _).alloc _
  have hZ0 : Blk ((w.alloc (.cells #[.int .i64 kd, .int .i64 src, .int .i64 dst, .int .i64 bo, .int .i64 li, .int .i64 ec, .int .i64 el, .slice A2 n2 c2] 71)).alloc (.cells #[.int .i64 0, .int .i64 0, .int .i64 0, .int .i64 0, .int .i64 0, .int .i64 0, .int .i64 0, .slice none 0 0] 71)) (gp + 1) 71 #[.int .i64 0, .int .i64 0, .int .i64 0, .int .i64 0, .int .i64 0, .int .i64 0, .int .i64 0, .slice none 0 0] := Blk.new' (by simp [hgp])
  generalize (w.alloc (.cells #[.int .i64 kd, .int .i64 src, .int .i64 dst, .int .i64 bo, .int .i64 li, .int .i64 ec, .int .i64 el, .slice A2 n2 c2] 71)).alloc (.cells #[.int .i64 0, .int .i64 0, .int .i64 0, .int .i64 0, .int .i64 0, .int .i64 0, .int .i64 0, .slice none 0 0] 71) = W0 at *
  rw [← hgp]
  replace hgp := Lib.hid hgp
  refine wp_region_held_drew (S := fun W => Below w.heap.size w W ∧ Blk W gp 71 #[.int .i64 kd, .int .i64 src, .int .i64 dst, .int .i64 bo, .int .i64 li, .int .i64 ec, .int .i64 el, .slice A2 n2 c2]) (by kernel_rfl) ⟨hb0.drew, hB0.drew⟩ (fun hS0 => ?_)
  (refine wpAnyH_take (i := 0) (oi := ⟨some 9, _, _, _, _, _⟩) rfl (by kernel_rfl) (by kernel_rfl) (by kernel_rfl) (fun _ _ _ h => h) (.inl ⟨rfl, fun _ _ => rfl⟩) (by assumption) ?_); try simp only [Act.put, List.setIfInBounds_toArray, List.set_cons_zero, List.set_cons_succ]
  (refine wpAnyH_take (i := 1) (oi := ⟨some 10, _, _, _, _, _⟩) rfl (by kernel_rfl) (by kernel_rfl) (by kernel_rfl) (fun _ _ _ h => h) (.inl ⟨rfl, fun _ _ => rfl⟩) (by assumption) ?_); try simp only [Act.put, List.setIfInBounds_toArray, List.set_cons_zero, List.set_cons_succ]
  (refine wpAnyH_take (i := 2) (oi := ⟨some 11, _, _, _, _, _⟩) rfl (by kernel_rfl) (by kernel_rfl) (by kernel_rfl) (fun _ _ _ h => h) (.inl ⟨rfl, fun W hS => by (have c' := hS.2.cell 1); go_simp; try rfl⟩) (by assumption) ?_); try simp only [Act.put, List.setIfInBounds_toArray, List.set_cons_zero, List.set_cons_succ]
  (refine wpAnyH_take (i := 3) (oi := ⟨some 12, _, _, _, _, _⟩) rfl (by kernel_rfl) (by kernel_rfl) (by kernel_rfl) (fun _ _ _ h => h) (.inl ⟨rfl, fun _ _ => rfl⟩) (by assumption) ?_); try simp only [Act.put, List.setIfInBounds_toArray, List.set_cons_zero, List.set_cons_succ]
  (refine wpAnyH_take (i := 4) (oi := ⟨some 13, _, _, _, _, _⟩) rfl (by kernel_rfl) (by kernel_rfl) (by kernel_rfl) (fun _ _ _ h => h) (.inl ⟨rfl, fun _ _ => rfl⟩) (by assumption) ?_); try simp only [Act.put, List.setIfInBounds_toArray, List.set_cons_zero, List.set_cons_succ]
  (refine wpAnyH_take (i := 5) (oi := ⟨some 14, _, _, _, _, _⟩) rfl (by kernel_rfl) (by kernel_rfl) (by kernel_rfl) (fun _ _ _ h => h) (.inl ⟨rfl, fun _ _ => rfl⟩) (by assumption) ?_); try simp only [Act.put, List.setIfInBounds_toArray, List.set_cons_zero, List.set_cons_succ]
  (refine wpAnyH_take (i := 6) (oi := ⟨some 15, _, _, _, _, _⟩) rfl (by kernel_rfl) (by kernel_rfl) (by kernel_rfl) (fun _ _ _ h => h) (.inl ⟨rfl, fun W hS => by (have c' := hS.2.cell 1); go_simp; try rfl⟩) (by assumption) ?_); try simp only [Act.put, List.setIfInBounds_toArray, List.set_cons_zero, List.set_cons_succ]
  (refine wpAnyH_take (i := 9) (oi := ⟨some 18, _, _, _, _, _⟩) rfl (by kernel_rfl) (by kernel_rfl) (by kernel_rfl) (fun _ _ _ h => h) (.inl ⟨rfl, fun _ _ => rfl⟩) (by assumption) ?_); try simp only [Act.put, List.setIfInBounds_toArray, List.set_cons_zero, List.set_cons_succ]
  (refine wpAnyH_take (i := 10) (oi := ⟨some 19, _, _, _, _, _⟩) rfl (by kernel_rfl) (by kernel_rfl) (by kernel_rfl) (fun _ _ _ h => h) (.inl ⟨rfl, fun W hS => by (have c' := hS.2.cell 3); go_simp; try rfl⟩) (by assumption) ?_); try simp only [Act.put, List.setIfInBounds_toArray, List.set_cons_zero, List.set_cons_succ]
  (refine wpAnyH_take (i := 11) (oi := ⟨some 20, _, _, _, _, _⟩) rfl (by kernel_rfl) (by kernel_rfl) (by kernel_rfl) (fun _ _ _ h => h) (.inl ⟨rfl, fun _ _ => rfl⟩) (by assumption) ?_); try simp only [Act.put, List.setIfInBounds_toArray, List.set_cons_zero, List.set_cons_succ]
  (refine wpAnyH_take (i := 12) (oi := ⟨some 21, _, _, _, _, _⟩) rfl (by kernel_rfl) (by kernel_rfl) (by kernel_rfl) (fun _ _ _ h => h) (.inl ⟨rfl, fun W hS => by (have c' := hS.2.cell 4); go_simp; try rfl⟩) (by assumption) ?_); try simp only [Act.put, List.setIfInBounds_toArray, List.set_cons_zero, List.set_cons_succ]
  refine wpAnyH_ready (rs := [7]) (by kernel_rfl) (by simp) ?_
  refine AllReadyH.cons (o := ⟨some 16, _, _, _, _, _⟩) rfl (fun K hK => ?_) AllReadyH.nil
  go_simp
  refine (Get_lit _ A n c ls src hg.out hn (SeenAt.more (SeenAt.below hI hS0.1) hS0.1.size)).mono ?_
  rintro e u1 ⟨rfl, g1⟩
  have hk1 := hS0.1.trans (g1.mono hS0.1.size)
  have hB1 := hS0.2.below g1 hS0.2.lt
  have hZ1 := hZ0.drew.below g1 hZ0.lt
  clear g1 hS0 hb0 hB0 hZ0
  go_wp2_with fail
  refine hK.out _ _ ⟨hk1, hB1⟩ (fun hS1 => ?_)
  clear hK K
  try simp only [Act.put, List.setIfInBounds_toArray, List.set_cons_zero, List.set_cons_succ]
  (refine wpAnyH_take (i := 8) (oi := ⟨some 17, _, _, _, _, _⟩) rfl (by kernel_rfl) (by kernel_rfl) (by kernel_rfl) (fun _ _ _ h => h) (.inl ⟨rfl, fun W hS => by skip; go_simp; try rfl⟩) (by assumption) ?_); try simp only [Act.put, List.setIfInBounds_toArray, List.set_cons_zero, List.set_cons_succ]
  (refine wpAnyH_take (i := 13) (oi := ⟨some 22, _, _, _, _, _⟩) rfl (by kernel_rfl) (by kernel_rfl) (by kernel_rfl) (fun _ _ _ h => h) (.inl ⟨rfl, fun W hS => by skip; go_simp; try rfl⟩) (by assumption) ?_); try simp only [Act.put, List.setIfInBounds_toArray, List.set_cons_zero, List.set_cons_succ]
  refine wpAnyH_ready (rs := [14]) (by kernel_rfl) (by simp) ?_
  refine AllReadyH.cons (o := ⟨none, _, _, _, _, _⟩) rfl (fun K hK => ?_) AllReadyH.nil
  obtain ⟨d, hu, hd, hi⟩ := agg_Packet'
  refine ite_wanted rfl (wp_store_at _ _ _ rfl (gp + 1) 0 8 rfl _ _ #[.int .i64 2, .int .i64 id, .int .i64 src, .int .i64 boot, .int .i64 m, .int .i64 bo, .int .i64 li, .slice none 0 0] rfl hZ1 hi rfl (by simp) (by simp [Value.oneCell']) ?_)
  have hw2 : Blk (u1.setRow (gp + 1) (List.take 0 (#[.int .i64 0, .int .i64 0, .int .i64 0, .int .i64 0, .int .i64 0, .int .i64 0, .int .i64 0, .slice none 0 0] : Array Value).toList ++ (#[.int .i64 2, .int .i64 id, .int .i64 src, .int .i64 boot, .int .i64 m, .int .i64 bo, .int .i64 li, .slice none 0 0] : Array Value).toList ++ List.drop (0 + 8) (#[.int .i64 0, .int .i64 0, .int .i64 0, .int .i64 0, .int .i64 0, .int .i64 0, .int .i64 0, .slice none 0 0] : Array Value).toList).toArray) (gp + 1) 71 #[.int .i64 2, .int .i64 id, .int .i64 src, .int .i64 boot, .int .i64 m, .int .i64 bo, .int .i64 li, .slice none 0 0] := hZ1.setRow_ _
  have hk2 : Below w.heap.size w (u1.setRow (gp + 1) (List.take 0 (#[.int .i64 0, .int .i64 0, .int .i64 0, .int .i64 0, .int .i64 0, .int .i64 0, .int .i64 0, .slice none 0 0] : Array Value).toList ++ (#[.int .i64 2, .int .i64 id, .int .i64 src, .int .i64 boot, .int .i64 m, .int .i64 bo, .int .i64 li, .slice none 0 0] : Array Value).toList ++ List.drop (0 + 8) (#[.int .i64 0, .int .i64 0, .int .i64 0, .int .i64 0, .int .i64 0, .int .i64 0, .int .i64 0, .slice none 0 0] : Array Value).toList).toArray) := hk1.trans (((Chg.refl (· = gp + 1) u1).setRow (fun _ => rfl) _).below (fun i h => by have := hgp.out; omega) hk1.size)
  have hB2 := hB1.setRow_far (k := gp + 1) (by omega) (List.take 0 (#[.int .i64 0, .int .i64 0, .int .i64 0, .int .i64 0, .int .i64 0, .int .i64 0, .int .i64 0, .slice none 0 0] : Array Value).toList ++ (#[.int .i64 2, .int .i64 id, .int .i64 src, .int .i64 boot, .int .i64 m, .int .i64 bo, .int .i64 li, .slice none 0 0] : Array Value).toList ++ List.drop (0 + 8) (#[.int .i64 0, .int .i64 0, .int .i64 0, .int .i64 0, .int .i64 0, .int .i64 0, .int .i64 0, .slice none 0 0] : Array Value).toList).toArray
  refine hK.out _ _ ⟨hk2, hB2⟩ (fun hS2 => ?_)
  clear hK K
  simp only [Act.put]
  refine wpAnyH_done (by kernel_rfl) ?_ _
  clear hS1 hS2 hB1 hZ1 hk1 hB2
  generalize u1.setRow (gp + 1) _ = u2 at *
  go_wp2_with fail
  refine bodyPost_ret (results_blk rfl agg_Packet' hw2 rfl) rfl ?_
  exact ⟨rfl, hk2⟩
set_option maxRecDepth 100000 in
set_option maxHeartbeats 2000000 in
theorem refWelcome_any (w : World) (id boot : Int) (A : Option Addr) (n c : Nat) (ls : List Seen) (kd src dst bo li ec el : Int) (A2 : Option Addr) (n2 c2 : Nat) {q b l m : Int} (hg : refGot ls src = ⟨q, b, l, m⟩) (hn : (n : Int) ≤ 9223372036854775807) (hI : SeenAt w w.heap.size A n ls) :
    Calls Try.prog 55 #[.int .i64 id, .int .i64 boot, .slice A n c, .agg #[.int .i64 kd, .int .i64 src, .int .i64 dst, .int .i64 bo, .int .i64 li, .int .i64 ec, .int .i64 el, .slice A2 n2 c2]] w fun e w' =>
      e = .returned (.agg #[.int .i64 2, .int .i64 id, .int .i64 src, .int .i64 boot, .int .i64 m, .int .i64 bo, .int .i64 li, .slice none 0 0]) ∧ Below w.heap.size w w' := by
  have hf3 := field3
  replace hg := Lib.hid hg
  obtain ⟨gp, hgp⟩ : ∃ g, g = w.heap.size := ⟨_, rfl⟩
  go_enter Try.func55, Try.ntmps55
  go_wp2_with fail
  have hb0 : Below w.heap.size w ((w.alloc (.cells #[.int .i64 kd, .int .i64 src, .int .i64 dst, .int .i64 bo, .int .i64 li, .int .i64 ec, .int .i64 el, .slice A2 n2 c2] 71)).alloc (.cells #[.int .i64 0, .int .i64 0, .int .i64 0, .int .i64 0, .int .i64 0, .int .i64 0, .int .i64 0, .slice none 0 0] 71)) := ((Below.refl _ w).alloc (Nat.le_refl _) _).alloc (by simp) _
  have hB0 : Blk ((w.alloc (.cells #[.int .i64 kd, .int .i64 src, .int .i64 dst, .int .i64 bo, .int .i64 li, .int .i64 ec, .int .i64 el, .slice A2 n2 c2] 71)).alloc (.cells #[.int .i64 0, .int .i64 0, .int .i64 0, .int .i64 0, .int .i64 0, .int .i64 0, .int .i64 0, .slice none 0 0] 71)) gp 71 #[.int .i64 kd, .int .i64 src, .int .i64 dst, .int .i64 bo, .int .i64 li, .int .i64 ec, .int .i64 el, .slice A2 n2 c2] := by rw [hgp]; exact (Blk.new _ _ _).alloc _
  have hZ0 : Blk ((w.alloc (.cells #[.int .i64 kd, .int .i64 src, .int .i64 dst, .int .i64 bo, .int .i64 li, .int .i64 ec, .int .i64 el, .slice A2 n2 c2] 71)).alloc (.cells #[.int .i64 0, .int .i64 0, .int .i64 0, .int .i64 0, .int .i64 0, .int .i64 0, .int .i64 0, .slice none 0 0] 71)) (gp + 1) 71 #[.int .i64 0, .int .i64 0, .int .i64 0, .int .i64 0, .int .i64 0, .int .i64 0, .int .i64 0, .slice none 0 0] := Blk.new' (by simp [hgp])
  generalize (w.alloc (.cells #[.int .i64 kd, .int .i64 src, .int .i64 dst, .int .i64 bo, .int .i64 li, .int .i64 ec, .int .i64 el, .slice A2 n2 c2] 71)).alloc (.cells #[.int .i64 0, .int .i64 0, .int .i64 0, .int .i64 0, .int .i64 0, .int .i64 0, .int .i64 0, .slice none 0 0] 71) = W0 at *
  rw [← hgp]
  replace hgp := Lib.hid hgp
  refine wp_region_held_drew (S := fun W => Below w.heap.size w W ∧ Blk W gp 71 #[.int .i64 kd, .int .i64 src, .int .i64 dst, .int .i64 bo, .int .i64 li, .int .i64 ec, .int .i64 el, .slice A2 n2 c2]) (by kernel_rfl) ⟨hb0.drew, hB0.drew⟩ (fun hS0 => ?_)
  (refine wpAnyH_take (i := 0) (oi := ⟨some 9, _, _, _, _, _⟩) rfl (by kernel_rfl) (by kernel_rfl) (by kernel_rfl) (fun _ _ _ h => h) (.inl ⟨rfl, fun _ _ => rfl⟩) (by assumption) ?_); try simp only [Act.put, List.setIfInBounds_toArray, List.set_cons_zero, List.set_cons_succ]
  (refine wpAnyH_take (i := 1) (oi := ⟨some 10, _, _, _, _, _⟩) rfl (by kernel_rfl) (by kernel_rfl) (by kernel_rfl) (fun _ _ _ h => h) (.inl ⟨rfl, fun _ _ => rfl⟩) (by assumption) ?_); try simp only [Act.put, List.setIfInBounds_toArray, List.set_cons_zero, List.set_cons_succ]
  (refine wpAnyH_take (i := 2) (oi := ⟨some 11, _, _, _, _, _⟩) rfl (by kernel_rfl) (by kernel_rfl) (by kernel_rfl) (fun _ _ _ h => h) (.inl ⟨rfl, fun W hS => by (have c' := hS.2.cell 1); go_simp; try rfl⟩) (by assumption) ?_); try simp only [Act.put, List.setIfInBounds_toArray, List.set_cons_zero, List.set_cons_succ]
  (refine wpAnyH_take (i := 3) (oi := ⟨some 12, _, _, _, _, _⟩) rfl (by kernel_rfl) (by kernel_rfl) (by kernel_rfl) (fun _ _ _ h => h) (.inl ⟨rfl, fun _ _ => rfl⟩) (by assumption) ?_); try simp only [Act.put, List.setIfInBounds_toArray, List.set_cons_zero, List.set_cons_succ]
  (refine wpAnyH_take (i := 4) (oi := ⟨some 13, _, _, _, _, _⟩) rfl (by kernel_rfl) (by kernel_rfl) (by kernel_rfl) (fun _ _ _ h => h) (.inl ⟨rfl, fun _ _ => rfl⟩) (by assumption) ?_); try simp only [Act.put, List.setIfInBounds_toArray, List.set_cons_zero, List.set_cons_succ]
  (refine wpAnyH_take (i := 5) (oi := ⟨some 14, _, _, _, _, _⟩) rfl (by kernel_rfl) (by kernel_rfl) (by kernel_rfl) (fun _ _ _ h => h) (.inl ⟨rfl, fun _ _ => rfl⟩) (by assumption) ?_); try simp only [Act.put, List.setIfInBounds_toArray, List.set_cons_zero, List.set_cons_succ]
  (refine wpAnyH_take (i := 6) (oi := ⟨some 15, _, _, _, _, _⟩) rfl (by kernel_rfl) (by kernel_rfl) (by kernel_rfl) (fun _ _ _ h => h) (.inl ⟨rfl, fun W hS => by (have c' := hS.2.cell 1); go_simp; try rfl⟩) (by assumption) ?_); try simp only [Act.put, List.setIfInBounds_toArray, List.set_cons_zero, List.set_cons_succ]
  (refine wpAnyH_take (i := 9) (oi := ⟨some 18, _, _, _, _, _⟩) rfl (by kernel_rfl) (by kernel_rfl) (by kernel_rfl) (fun _ _ _ h => h) (.inl ⟨rfl, fun _ _ => rfl⟩) (by assumption) ?_); try simp only [Act.put, List.setIfInBounds_toArray, List.set_cons_zero, List.set_cons_succ]
  (refine wpAnyH_take (i := 10) (oi := ⟨some 19, _, _, _, _, _⟩) rfl (by kernel_rfl) (by kernel_rfl) (by kernel_rfl) (fun _ _ _ h => h) (.inl ⟨rfl, fun W hS => by (have c' := hS.2.cell 3); go_simp; try rfl⟩) (by assumption) ?_); try simp only [Act.put, List.setIfInBounds_toArray, List.set_cons_zero, List.set_cons_succ]
  (refine wpAnyH_take (i := 11) (oi := ⟨some 20, _, _, _, _, _⟩) rfl (by kernel_rfl) (by kernel_rfl) (by kernel_rfl) (fun _ _ _ h => h) (.inl ⟨rfl, fun _ _ => rfl⟩) (by assumption) ?_); try simp only [Act.put, List.setIfInBounds_toArray, List.set_cons_zero, List.set_cons_succ]
  (refine wpAnyH_take (i := 12) (oi := ⟨some 21, _, _, _, _, _⟩) rfl (by kernel_rfl) (by kernel_rfl) (by kernel_rfl) (fun _ _ _ h => h) (.inl ⟨rfl, fun W hS => by (have c' := hS.2.cell 4); go_simp; try rfl⟩) (by assumption) ?_); try simp only [Act.put, List.setIfInBounds_toArray, List.set_cons_zero, List.set_cons_succ]
  refine wpAnyH_ready (rs := [7]) (by kernel_rfl) (by simp) ?_
  refine AllReadyH.cons (o := ⟨some 16, _, _, _, _, _⟩) rfl (fun K hK => ?_) AllReadyH.nil
  go_simp
  refine (refGet_lit _ A n c ls src hg.out hn (SeenAt.more (SeenAt.below hI hS0.1) hS0.1.size)).mono ?_
  rintro e u1 ⟨rfl, g1⟩
  have hk1 := hS0.1.trans (g1.mono hS0.1.size)
  have hB1 := hS0.2.below g1 hS0.2.lt
  have hZ1 := hZ0.drew.below g1 hZ0.lt
  clear g1 hS0 hb0 hB0 hZ0
  go_wp2_with fail
  refine hK.out _ _ ⟨hk1, hB1⟩ (fun hS1 => ?_)
  clear hK K
  try simp only [Act.put, List.setIfInBounds_toArray, List.set_cons_zero, List.set_cons_succ]
  (refine wpAnyH_take (i := 8) (oi := ⟨some 17, _, _, _, _, _⟩) rfl (by kernel_rfl) (by kernel_rfl) (by kernel_rfl) (fun _ _ _ h => h) (.inl ⟨rfl, fun W hS => by skip; go_simp; try rfl⟩) (by assumption) ?_); try simp only [Act.put, List.setIfInBounds_toArray, List.set_cons_zero, List.set_cons_succ]
  (refine wpAnyH_take (i := 13) (oi := ⟨some 22, _, _, _, _, _⟩) rfl (by kernel_rfl) (by kernel_rfl) (by kernel_rfl) (fun _ _ _ h => h) (.inl ⟨rfl, fun W hS => by skip; go_simp; try rfl⟩) (by assumption) ?_); try simp only [Act.put, List.setIfInBounds_toArray, List.set_cons_zero, List.set_cons_succ]
  refine wpAnyH_ready (rs := [14]) (by kernel_rfl) (by simp) ?_
  refine AllReadyH.cons (o := ⟨none, _, _, _, _, _⟩) rfl (fun K hK => ?_) AllReadyH.nil
  obtain ⟨d, hu, hd, hi⟩ := agg_Packet'
  refine ite_wanted rfl (wp_store_at _ _ _ rfl (gp + 1) 0 8 rfl _ _ #[.int .i64 2, .int .i64 id, .int .i64 src, .int .i64 boot, .int .i64 m, .int .i64 bo, .int .i64 li, .slice none 0 0] rfl hZ1 hi rfl (by simp) (by simp [Value.oneCell']) ?_)
  have hw2 : Blk (u1.setRow (gp + 1) (List.take 0 (#[.int .i64 0, .int .i64 0, .int .i64 0, .int .i64 0, .int .i64 0, .int .i64 0, .int .i64 0, .slice none 0 0] : Array Value).toList ++ (#[.int .i64 2, .int .i64 id, .int .i64 src, .int .i64 boot, .int .i64 m, .int .i64 bo, .int .i64 li, .slice none 0 0] : Array Value).toList ++ List.drop (0 + 8) (#[.int .i64 0, .int .i64 0, .int .i64 0, .int .i64 0, .int .i64 0, .int .i64 0, .int .i64 0, .slice none 0 0] : Array Value).toList).toArray) (gp + 1) 71 #[.int .i64 2, .int .i64 id, .int .i64 src, .int .i64 boot, .int .i64 m, .int .i64 bo, .int .i64 li, .slice none 0 0] := hZ1.setRow_ _
  have hk2 : Below w.heap.size w (u1.setRow (gp + 1) (List.take 0 (#[.int .i64 0, .int .i64 0, .int .i64 0, .int .i64 0, .int .i64 0, .int .i64 0, .int .i64 0, .slice none 0 0] : Array Value).toList ++ (#[.int .i64 2, .int .i64 id, .int .i64 src, .int .i64 boot, .int .i64 m, .int .i64 bo, .int .i64 li, .slice none 0 0] : Array Value).toList ++ List.drop (0 + 8) (#[.int .i64 0, .int .i64 0, .int .i64 0, .int .i64 0, .int .i64 0, .int .i64 0, .int .i64 0, .slice none 0 0] : Array Value).toList).toArray) := hk1.trans (((Chg.refl (· = gp + 1) u1).setRow (fun _ => rfl) _).below (fun i h => by have := hgp.out; omega) hk1.size)
  have hB2 := hB1.setRow_far (k := gp + 1) (by omega) (List.take 0 (#[.int .i64 0, .int .i64 0, .int .i64 0, .int .i64 0, .int .i64 0, .int .i64 0, .int .i64 0, .slice none 0 0] : Array Value).toList ++ (#[.int .i64 2, .int .i64 id, .int .i64 src, .int .i64 boot, .int .i64 m, .int .i64 bo, .int .i64 li, .slice none 0 0] : Array Value).toList ++ List.drop (0 + 8) (#[.int .i64 0, .int .i64 0, .int .i64 0, .int .i64 0, .int .i64 0, .int .i64 0, .int .i64 0, .slice none 0 0] : Array Value).toList).toArray
  refine hK.out _ _ ⟨hk2, hB2⟩ (fun hS2 => ?_)
  clear hK K
  simp only [Act.put]
  refine wpAnyH_done (by kernel_rfl) ?_ _
  clear hS1 hS2 hB1 hZ1 hk1 hB2
  generalize u1.setRow (gp + 1) _ = u2 at *
  go_wp2_with fail
  refine bodyPost_ret (results_blk rfl agg_Packet' hw2 rfl) rfl ?_
  exact ⟨rfl, hk2⟩

end Go.Proofs.Ytkbcnapfcojekaa
