/-
  Layer 14 (shake): the iterator over what was seen, and find.
-/
import Derived.Test.YtkbcnapfcojekaaRows
import Derived.Test.YtkbcnapfcojekaaSeen
import Derived.RangeFuncNested
import Derived.RangeFuncBound
import Derived.RangeFuncCalls
import Derived.RangeFuncLeaves
import Derived.RangeFuncBox
import Derived.Shelf.Abstract
import Derived.Shelf.RegionOpen
import Derived.WalkKit
import Derived.WalkLawsBesides
import Derived.WalkSpells
import Derived.ProofKit
import Derived.Handy
import Derived.OwnWalkIn
import Derived.TacticsInMore
import Derived.LoopNIn
import Derived.LoopIn
namespace Go.Proofs.Ytkbcnapfcojekaa
open Go.ChangeShapes Go.WideShapes Go.ChangeAt Go.RowKit Go.Shelf Go.Ed

attribute [local go_sem] Oper.semAt_some

set_option maxRecDepth 100000 in
theorem of_any (w : World) (s : Seen) : Calls Try.prog 99 #[s.val] w fun e w' => e = .returned s.sight ∧ Below w.heap.size w w' := by
  obtain ⟨p, b, l, m⟩ := s
  simp only [Seen.val, Seen.sight]
  go_enter Try.func99, Try.ntmps99
  go_wp2
  go_returns
  exact ⟨rfl, by go_grown⟩

set_option maxRecDepth 100000 in
theorem plain_any (w : World) (s : Seen) : Calls Try.prog 68 #[s.sight] w fun e w' => e = .returned s.val ∧ Below w.heap.size w w' := by
  obtain ⟨p, b, l, m⟩ := s
  simp only [Seen.val, Seen.sight]
  go_enter Try.func68, Try.ntmps68
  go_wp2
  go_returns
  exact ⟨rfl, by go_grown⟩

/-- the first k of what comes -/
def firsts (l : List Seen) (k : Nat) : List (Nat × Seen) := (List.range k).map fun j => (j, l.getD j ⟨0, 0, 0, 0⟩)
theorem firsts_succ (l : List Seen) (k : Nat) : firsts l (k + 1) = firsts l k ++ [(k, l.getD k ⟨0, 0, 0, 0⟩)] := by simp [firsts, List.range_succ]
theorem firsts_length (l : List Seen) (k : Nat) : (firsts l k).length = k := by simp [firsts]

def encSight (x : Nat × Seen) : Array Value := #[.int .i64 (x.1 : Int), x.2.sight]

set_option maxRecDepth 100000 in
theorem sights_any (w : World) (A : Option Addr) (n c : Nat) :
    Calls Try.prog 84 #[.slice A n c] w fun e w' => e = .returned (.func (.func 98) #[] #[.pointer (some ⟨w.heap.size, 0, none⟩)]) ∧ w' = w.alloc (.cells #[.slice A n c] 52) := by
  go_enter Try.func84, Try.ntmps84
  go_wp2
  go_ret
  exact ⟨rfl, rfl⟩

set_option maxRecDepth 100000 in
set_option maxHeartbeats 2000000 in
/-- sights's closure: the loop body is called with each element in turn, till it says no more. -/
theorem sights1_any (n : Nat) (hn : 1 ≤ n) (l Bs n₀ : Nat) (A : Option Addr) (len cap : Nat) (ls : List Seen) (hlen : (len : Int) ≤ 9223372036854775807) (J Jx : List (Nat × Seen) → World → Prop)
    (hY : ∀ pre x W, J pre W → pre.length < len → YieldAt Fence.wide (n - 1) Try.prog l (encSight x) W fun e W' =>
      (e = .returned (.bool true) ∧ J (pre ++ [x]) W' ∧ Below n₀ W W') ∨ (e = .returned (.bool false) ∧ Jx (pre ++ [x]) W'))
    (hJ : ∀ (pre : List (Nat × Seen)) (A B : World), J pre A → A.grownBy B none → J pre B)
    (W : World) (hW0 : n₀ ≤ W.heap.size) (hBs : W.cell? ⟨Bs, 0, none⟩ = some (.slice A len cap)) (hc : SeenAt W n₀ A len ls) (h0 : J [] W) :
    CallsIn Fence.wide n Try.prog 98 #[.func (.yield l) #[] #[], .pointer (some ⟨Bs, 0, none⟩)] W fun e W' => (∃ v, e = .returned v) ∧
      ((∃ ys, ys = firsts ls len ∧ J ys W') ∨ (∃ pre, (∃ k, k ≤ len ∧ pre = firsts ls k) ∧ Jx pre W')) := by
  have hll := hc.len
  refine callsIn_of_wp Try.func98 rfl trivial ?_ rfl
  simp only [Try.ntmps98, List.size_toArray, List.length_cons, List.length_nil, Nat.reduceAdd, Nat.reduceSub, Array.replicate_succ, Array.replicate_zero, List.push_toArray, List.append_toArray, List.nil_append, List.cons_append]
  gi_wp2
  gi_loopw [7] (fun i wr => ∃ k : Nat, k ≤ len ∧ i = .int .i64 k ∧ J (firsts ls k) wr ∧ Below n₀ W wr)
    (fun i _ => len - (intOf i).toNat)
  case atStart => exact ⟨0, Nat.zero_le _, rfl, h0, Below.refl _ _⟩
  case round =>
    obtain ⟨k, hk, rfl, hJs, hnx⟩ := hrel
    by_cases hlt : k < len
    · have hlt' : (k : Int) < (len : Int) := by omega
      have hcx := hc.below hnx
      obtain ⟨b, off, rfl, hbn, hcells⟩ := hcx.form (by omega)
      obtain ⟨c0, c1, c2, c3⟩ := hcells k (by omega)
      obtain ⟨s, hs⟩ : ∃ s, s = ls[k]'(by omega) := ⟨_, rfl⟩
      rw [← hs] at c0 c1 c2 c3
      have hsd : ls.getD k ⟨0, 0, 0, 0⟩ = s := by rw [hs]; simp [List.getD, List.getElem?_eq_getElem (show k < ls.length by omega)]
      have Hsd := Lib.hid hsd
      clear hs hsd hcells
      gi_wp2_with (refine ⟨trivial, ?_⟩; gi_at_call 99; refine (callsIn_wide.2 (of_any _ s)).mono ?_; rintro e w2 ⟨rfl, hb2⟩)
      have hg2 : wr.grownBy w2 none := ⟨hb2.os, hb2.tape, hb2.output, by have := hb2.size; simp at this; omega, fun i hi _ => (hb2.block i (by simp; omega)).trans (Below.heap_alloc wr _ i hi)⟩
      have hbw2 : Below n₀ wr w2 := ⟨hg2.os, hg2.tape, hg2.output, hg2.size, fun i hi => hg2.block i (by have := hnx.size; omega) (by simp)⟩
      obtain ⟨fn, tmps, assign, body, hy, hR⟩ := hY _ (k, s) w2 (hJ _ _ _ hJs hg2) (by rw [firsts_length]; exact hlt)
      simp only [encSight, Seen.sight] at hy
      simp only [Seen.sight]
      gi_wp2
      rw [hy]
      gi_wp2
      refine hR.mono ?_
      rintro e W3 (⟨rfl, hJ3, hk3⟩ | ⟨rfl, hJx3⟩)
      · gi_wp2
        go_roundw
        case rel => exact ⟨k + 1, by omega, by go_num, by rw [firsts_succ, Hsd.out]; exact hJ3, (hnx.trans hbw2).trans hk3⟩
        case measure => simp [intOf]; omega
      · gi_wp2
        refine bodyPost_ret (results_none rfl _ _ _) rfl ?_
        exact ⟨⟨_, rfl⟩, .inr ⟨_, ⟨k + 1, by omega, by rw [firsts_succ, Hsd.out]⟩, hJx3⟩⟩
    · obtain rfl : k = len := by omega
      gi_wp2
      go_end0
      exact ⟨⟨_, rfl⟩, .inl ⟨_, rfl, hJs⟩⟩

/-- sights's function value, as the law of a range over a function takes it. -/
theorem sights_stops (n : Nat) (hn : 1 ≤ n) (Bs n₀ : Nat) (A : Option Addr) (len cap : Nat) (ls : List Seen) (hlen : (len : Int) ≤ 9223372036854775807) (w : World) (hBs : Bs < w.heap.size) (hn₀ : n₀ ≤ w.heap.size)
    (hc : w.cell? ⟨Bs, 0, none⟩ = some (.slice A len cap)) (hI : SeenAt w n₀ A len ls) :
    SeqStopsK Fence.wide n Try.prog 98 #[.pointer (some ⟨Bs, 0, none⟩)] encSight (Below n₀) (fun ys => ys = firsts ls len)
      (fun pre => ∃ k, k ≤ len ∧ pre = firsts ls k) len w := fun l J Jx W hW hJ _ hY h0 => by
  have hc' := (hW.cell (p := ⟨Bs, 0, none⟩) hBs).trans hc
  exact sights1_any n hn l Bs n₀ A len cap ls hlen J Jx hY (fun pre X Y hX hg => hJ pre X Y none hX hg (fun r e => by cases e)) W (Nat.le_trans hn₀ hW.size) hc' (hI.below (hW.mono hn₀)) h0

theorem blk_kept {W W' : World} {row : Option Nat} {g : Nat} {t : TypeId} {cs : Array Value} (h : Blk W g t cs) (hg : W.grownBy W' row) (hrow : ∀ r, row = some r → ∃ o : Obj, W.heap[r]? = some o ∧ o.isCells = false) : Blk W' g t cs :=
  h.grown hg (fun e => by
    obtain ⟨o, ho, hc⟩ := hrow g e.symm
    have h' : W.heap[g]? = some (.cells cs t (0, 0)) := h
    rw [h'] at ho
    cases ho
    cases hc)

/-- all that has come is below p -/
def AllBelow (pre : List (Nat × Seen)) (p : Int) : Prop := ∀ y ∈ pre, y.2.peer < p

/-- the three results of find, as they lie -/
structure FindBlks (W : World) (N : Nat) (p i : Int) (s : Seen) (ok : Bool) : Prop where
  b0 : Blk W N 3 #[.int .i64 p]
  b1 : Blk W (N + 1) 3 #[.int .i64 i]
  b2 : Blk W (N + 1 + 1) 106 #[.int .i64 s.boot, .int .i64 s.life, .int .i64 s.peer, .int .i64 s.mine]
  b3 : Blk W (N + 1 + 1 + 1) 4 #[.bool ok]
theorem FindBlks.kept {W W' : World} {row : Option Nat} {N : Nat} {p i : Int} {s : Seen} {ok : Bool} (h : FindBlks W N p i s ok) (hg : W.grownBy W' row) (hrow : ∀ r, row = some r → ∃ o : Obj, W.heap[r]? = some o ∧ o.isCells = false) : FindBlks W' N p i s ok :=
  ⟨blk_kept h.b0 hg hrow, blk_kept h.b1 hg hrow, blk_kept h.b2 hg hrow, blk_kept h.b3 hg hrow⟩
theorem FindBlks.alloc {W : World} {N : Nat} {p i : Int} {s : Seen} {ok : Bool} (h : FindBlks W N p i s ok) (o : Obj) : FindBlks (W.alloc o) N p i s ok :=
  ⟨h.b0.alloc o, h.b1.alloc o, h.b2.alloc o, h.b3.alloc o⟩

theorem firsts_mem {ls : List Seen} {k j : Nat} (hj : j < k) : (j, ls.getD j ⟨0, 0, 0, 0⟩) ∈ firsts ls k := by
  simp only [firsts, List.mem_map, List.mem_range]
  exact ⟨j, hj, rfl⟩
theorem getD_lt {ls : List Seen} {j : Nat} (hj : j < ls.length) : ls.getD j ⟨0, 0, 0, 0⟩ = ls[j] := by simp [List.getD, List.getElem?_eq_getElem hj]
theorem find_none {ls : List Seen} {len : Nat} {p : Int} (hl : ls.length = len) (h : AllBelow (firsts ls len) p) : seek ls p = len ∧ got ls p = ⟨p, 0, 0, 0⟩ ∧ has ls p = false := by
  have hs : seek ls p = len := seek_eq (by omega) (fun j hj hjl => by have h1 := h _ (firsts_mem (ls := ls) hjl); simp only [getD_lt hj] at h1; exact h1) (fun hk => by omega)
  have hn : ls[seek ls p]? = none := List.getElem?_eq_none (by omega)
  exact ⟨hs, by unfold got; rw [hn], by unfold has; rw [hn]⟩
theorem find_some {ls : List Seen} {k : Nat} {p : Int} {ini : List (Nat × Seen)} {last : Nat × Seen} (hk : k ≤ ls.length) (e : firsts ls k = ini ++ [last]) (h : AllBelow ini p) (hp : p ≤ last.2.peer) :
    ((seek ls p : Nat) : Int) = last.1 ∧ got ls p = (if last.2.peer = p then last.2 else ⟨p, 0, 0, 0⟩) ∧ has ls p = (last.2.peer == p) := by
  cases k with
  | zero => simp [firsts] at e
  | succ k =>
    have hk' : k < ls.length := hk
    rw [firsts_succ] at e
    obtain ⟨rfl, e5⟩ := List.append_inj' e rfl
    have e6 : last = (k, ls.getD k ⟨0, 0, 0, 0⟩) := by simpa using e5.symm
    rw [getD_lt hk'] at e6
    subst e6
    have hs : seek ls p = k := seek_eq (Nat.le_of_lt hk') (fun j hj hjl => by have h1 := h _ (firsts_mem (ls := ls) hjl); simp only [getD_lt hj] at h1; exact h1) (fun _ => hp)
    have hn : ls[seek ls p]? = some (ls[k]'hk') := by rw [hs]; exact List.getElem?_eq_getElem _
    exact ⟨by rw [hs], by unfold got; rw [hn], by unfold has; rw [hn]⟩

theorem find_results {W : World} {N : Nat} {p i : Int} {s : Seen} {ok : Bool} (h : FindBlks W N p i s ok) (tmps : Array Value) (h4 : tmps.getD 4 undef = .pointer (some ⟨N + 1, 0, none⟩)) (h5 : tmps.getD 5 undef = .pointer (some ⟨N + 1 + 1, 0, none⟩))
    (h6 : tmps.getD 6 undef = .pointer (some ⟨N + 1 + 1 + 1, 0, none⟩)) : (results Try.f67 tmps).run Try.prog W = .ok (.tuple #[.int .i64 i, s.sight, .bool ok]) W := by
  have q1 := h.b1.cell 0
  have q20 := h.b2.cell 0
  have q21 := h.b2.cell 1
  have q22 := h.b2.cell 2
  have q23 := h.b2.cell 3
  have q3 := h.b3.cell 0
  simp only [List.getElem?_toArray, List.getElem?_cons_zero, List.getElem?_cons_succ] at q1 q20 q21 q22 q23 q3
  simp only [Array.getD_eq_getD_getElem?] at h4 h5 h6
  simp [results, Try.f67, go_sem, q1, q20, q21, q22, q23, q3, h4, h5, h6, Seen.sight]

/-- the world behind find's three results -/
def findPut (W : World) (N : Nat) (i b l p m : Int) (ok : Bool) : World :=
  ((((((W.setCell ⟨N + 1, 0, none⟩ (.int .i64 i)).setCell ⟨N + 1 + 1, 0, none⟩ (.int .i64 b)).setCell ⟨N + 1 + 1, 1, none⟩ (.int .i64 l)).setCell ⟨N + 1 + 1, 2, none⟩ (.int .i64 p)).setCell ⟨N + 1 + 1, 3, none⟩ (.int .i64 m)).setCell
    ⟨N + 1 + 1 + 1, 0, none⟩ (.bool ok)).drew
theorem findPut_blks {W : World} {N : Nat} {q i0 : Int} {s0 : Seen} {ok0 : Bool} (h : FindBlks W N q i0 s0 ok0) (i b l p m : Int) (ok : Bool) : FindBlks (findPut W N i b l p m ok) N q i ⟨p, b, l, m⟩ ok := by
  have e01 : N ≠ N + 1 := by omega
  have e02 : N ≠ N + 1 + 1 := by omega
  have e03 : N ≠ N + 1 + 1 + 1 := by omega
  have e12 : N + 1 ≠ N + 1 + 1 := by omega
  have e13 : N + 1 ≠ N + 1 + 1 + 1 := by omega
  have e23 : N + 1 + 1 ≠ N + 1 + 1 + 1 := by omega
  unfold findPut
  refine ⟨?_, ?_, ?_, ?_⟩
  · exact ((((((h.b0.far e01 _).far e02 _).far e02 _).far e02 _).far e02 _).far e03 _).drew
  · exact ((((((h.b1.set_ 0 _).far e12 _).far e12 _).far e12 _).far e12 _).far e13 _).drew
  · exact ((((((h.b2.far e12.symm _).set_ 0 _).set_ 1 _).set_ 2 _).set_ 3 _).far e23 _).drew
  · exact ((((((h.b3.far e13.symm _).far e23.symm _).far e23.symm _).far e23.symm _).far e23.symm _).set_ 0 _).drew
theorem findPut_below {W w : World} (h : Below w.heap.size w W) (i b l p m : Int) (ok : Bool) : Below w.heap.size w (findPut W w.heap.size i b l p m ok) := by
  unfold findPut
  exact ((((((h.setCell (p := ⟨w.heap.size + 1, 0, none⟩) (by simp) _).setCell (p := ⟨w.heap.size + 1 + 1, 0, none⟩) (by simp; omega) _).setCell (p := ⟨w.heap.size + 1 + 1, 1, none⟩) (by simp; omega) _).setCell (p := ⟨w.heap.size + 1 + 1, 2, none⟩) (by simp; omega) _).setCell
    (p := ⟨w.heap.size + 1 + 1, 3, none⟩) (by simp; omega) _).setCell (p := ⟨w.heap.size + 1 + 1 + 1, 0, none⟩) (by simp; omega) _).drew
theorem findPut_keeps (W : World) (N : Nat) (i b l p m : Int) (ok : Bool) : KeepsOthers W (findPut W N i b l p m ok) := by
  unfold findPut
  exact ((((((KeepsOthers.setCell _ _ _).trans (KeepsOthers.setCell _ _ _)).trans (KeepsOthers.setCell _ _ _)).trans (KeepsOthers.setCell _ _ _)).trans (KeepsOthers.setCell _ _ _)).trans (KeepsOthers.setCell _ _ _)).trans (KeepsOthers.drew _)

set_option maxRecDepth 100000 in
set_option maxHeartbeats 2000000 in
theorem find_any (w : World) (A : Option Addr) (len cap : Nat) (ls : List Seen) (p : Int) (hlen : (len : Int) ≤ 9223372036854775807) (hI : SeenAt w w.heap.size A len ls) :
    Calls Try.prog 67 #[.slice A len cap, .int .i64 p] w fun e w' => e = .returned (.tuple #[.int .i64 (seek ls p : Nat), (got ls p).sight, .bool (has ls p)]) ∧ Below w.heap.size w w' := by
  refine (callsIn_wide (n := 5)).1 ?_
  refine callsIn_of_wp_marks Try.func67 rfl trivial ?_ rfl
  simp only [Try.ntmps67, List.size_toArray, List.length_cons, List.length_nil, Nat.reduceAdd, Nat.reduceSub, Array.replicate_succ, Array.replicate_zero, List.push_toArray, List.append_toArray, List.nil_append, List.cons_append]
  gi_wp2_with (refine ⟨trivial, ?_⟩; gi_at_call 84; refine (callsIn_wide.2 (sights_any _ _ _ _)).mono ?_; rintro e w' ⟨rfl, rfl⟩)
  generalize hW0 : (((((w.alloc (.cells #[.int .i64 p] 3)).alloc (.cells #[.int .i64 0] 3)).alloc (.cells #[.int .i64 0, .int .i64 0, .int .i64 0, .int .i64 0] 106)).alloc (.cells #[.bool false] 4)).alloc (.cells #[.slice A len cap] 52)) = W0
  have hsz : W0.heap.size = w.heap.size + 1 + 1 + 1 + 1 + 1 := by rw [← hW0]; simp
  have hB0 : Below w.heap.size w W0 := by rw [← hW0]; go_grown
  have hF0 : FindBlks W0 w.heap.size p 0 ⟨0, 0, 0, 0⟩ false := by
    rw [← hW0]
    refine FindBlks.alloc ⟨?_, ?_, ?_, ?_⟩ _
    · exact (((Blk.new w _ _).alloc _).alloc _).alloc _
    · exact ((Blk.new' (by simp)).alloc _).alloc _
    · exact (Blk.new' (by simp)).alloc _
    · exact Blk.new' (by simp)
  have hc0 : W0.cell? ⟨w.heap.size + 1 + 1 + 1 + 1, 0, none⟩ = some (.slice A len cap) := by
    rw [← hW0]
    exact (Blk.new' (t := 52) (cs := #[.slice A len cap]) (by simp)).cell 0
  clear hW0
  refine wpIn_rangeFunc_ownH rfl (by omega) (gf := 98) (lb := #[.pointer (some ⟨w.heap.size + 1 + 1 + 1 + 1, 0, none⟩)]) rfl trivial (enters_of Try.func98 (by kernel_rfl) rfl)
    (sights_stops (5 - 1) (by omega) (w.heap.size + 1 + 1 + 1 + 1) w.heap.size A len cap ls hlen W0 (by omega) (by omega) hc0 (hI.below hB0)) belowK_t (belowK_b (by omega)) (Below.refl _ _) (fun _ => rfl)
    (fun pre W => (AllBelow pre p ∧ FindBlks W w.heap.size p 0 ⟨0, 0, 0, 0⟩ false) ∧ Below w.heap.size w W)
    (fun c pre W => (c = .ret ∧ ∃ ini last, pre = ini ++ [last] ∧ AllBelow ini p ∧ p ≤ last.2.peer ∧ FindBlks W w.heap.size p last.1 (if last.2.peer = p then last.2 else ⟨p, 0, 0, 0⟩) (last.2.peer == p)) ∧ Below w.heap.size w W)
    (OwnFrom.and (Own.from (fun s X Y row hs hg hr => ⟨hs.1, hs.2.kept hg hr⟩) _) (ownFrom_below (Nat.le_refl _) (by omega)))
    (fun c => OwnFrom.and (Own.from (fun s X Y row hs hg hr => by obtain ⟨hc, ini, last, e1, e2, e3, e4⟩ := hs; exact ⟨hc, ini, last, e1, e2, e3, e4.kept hg hr⟩) _) (ownFrom_below (Nat.le_refl _) (by omega)))
    ⟨⟨fun _ h => by simp at h, hF0⟩, hB0⟩
    (fun x a' W => ∃ Bx, w.heap.size + 1 + 1 + 1 < Bx ∧ Blk W Bx 106 #[.int .i64 x.2.boot, .int .i64 x.2.life, .int .i64 x.2.peer, .int .i64 x.2.mine] ∧
      a' = { tmps := #[.slice A len cap, .int .i64 p, undef, .pointer (some ⟨w.heap.size, 0, none⟩), .pointer (some ⟨w.heap.size + 1, 0, none⟩), .pointer (some ⟨w.heap.size + 1 + 1, 0, none⟩), .pointer (some ⟨w.heap.size + 1 + 1 + 1, 0, none⟩),
        .int .i64 (x.1 : Int), .pointer (some ⟨Bx, 0, none⟩), .slice A len cap, .func (.func 98) #[] #[.pointer (some ⟨w.heap.size + 1 + 1 + 1 + 1, 0, none⟩)], .int .i64 (x.1 : Int), x.2.sight,
        undef, undef, undef, undef, undef, undef, undef, undef, undef, undef, undef, undef, undef, undef, undef, undef, undef], defers := [] })
    (fun x a' _ X Y row hs hg hr => by obtain ⟨Bx, h1, h2, h3⟩ := hs; exact ⟨Bx, h1, blk_kept h2 hg (fun r e => (hr r e).2), h3⟩) ?assign ?body ?done ?stop
  case assign =>
    rintro l pre x W K ⟨⟨hp, hF⟩, hB⟩ hK
    have hs := hB.size
    have hs2 := hF.b3.lt
    simp only [encSight, Seen.sight]
    gi_wp2
    exact hK _ _ ((KeepsOthers.alloc _ _).from _) ((Below.refl _ W).alloc hs _) ⟨⟨hp, hF.alloc _⟩, hB.alloc hs _⟩ ⟨W.heap.size, by omega, Blk.new W _ _, rfl⟩
  case body =>
    rintro l pre x a' W hl ⟨r, hr⟩ ⟨⟨hp, hF⟩, hB⟩ ⟨Bx, hBx, bX, rfl⟩ hlt
    have hs := hB.size
    have p0 := hF.b0.cell 0
    have r1 := hF.b1.cell 0
    have r20 := hF.b2.cell 0
    have r21 := hF.b2.cell 1
    have r22 := hF.b2.cell 2
    have r23 := hF.b2.cell 3
    have r3 := hF.b3.cell 0
    have f1 := hF.b1.frozen 0
    have f20 := hF.b2.frozen 0
    have f21 := hF.b2.frozen 1
    have f22 := hF.b2.frozen 2
    have f23 := hF.b2.frozen 3
    have f3 := hF.b3.frozen 0
    have x0 := bX.cell 0
    have x1 := bX.cell 1
    have x2 := bX.cell 2
    have x3 := bX.cell 3
    simp only [List.getElem?_toArray, List.getElem?_cons_zero, List.getElem?_cons_succ] at p0 r1 r20 r21 r22 r23 r3 x0 x1 x2 x3
    have Hp := Lib.hid hp
    have HF := Lib.hid hF
    clear hp hF hlt
    have hne1 : Bx ≠ w.heap.size := by omega
    have hne2 : Bx ≠ w.heap.size + 1 := by omega
    by_cases h1 : p ≤ x.2.peer
    · by_cases h2 : x.2.peer = p
      · have h3 : (x.2.peer == p) = true := by simpa using h2
        have H2 := Lib.hid h2
        clear h2
        gi_wp2
        gi_region
        all_goals
          gi_wp2
          exact ⟨(findPut_keeps W w.heap.size x.1 x.2.boot x.2.life x.2.peer x.2.mine true).from _,
            ⟨rfl, pre, x, rfl, Hp.out, h1, by rw [if_pos H2.out, h3]; exact findPut_blks HF.out x.1 x.2.boot x.2.life x.2.peer x.2.mine true⟩, findPut_below hB x.1 x.2.boot x.2.life x.2.peer x.2.mine true⟩
      · have h3 : (x.2.peer == p) = false := by simpa using h2
        have H2 := Lib.hid h2
        clear h2
        gi_wp2
        gi_region
        all_goals
          gi_wp2
          exact ⟨(findPut_keeps W w.heap.size x.1 0 0 p 0 false).from _,
            ⟨rfl, pre, x, rfl, Hp.out, h1, by rw [if_neg H2.out, h3]; exact findPut_blks HF.out x.1 0 0 p 0 false⟩, findPut_below hB x.1 0 0 p 0 false⟩
    · have h1' : x.2.peer < p := by omega
      gi_wp2
      refine ⟨KeepsFrom.refl _ _, Below.refl _ _, ⟨?_, HF.out⟩, hB⟩
      show ∀ y ∈ pre ++ [x], y.2.peer < p
      intro y hy
      rcases List.mem_append.1 hy with e | e
      · exact Hp.out y e
      · rw [List.mem_singleton.1 e]
        exact h1'
  case done =>
    rintro D ys W hD rfl ⟨⟨hp, hF⟩, hB⟩ hK
    have p0 := hF.b0.cell 0
    have r1 := hF.b1.cell 0
    have r20 := hF.b2.cell 0
    have r21 := hF.b2.cell 1
    have r22 := hF.b2.cell 2
    have r23 := hF.b2.cell 3
    have r3 := hF.b3.cell 0
    have f1 := hF.b1.frozen 0
    have f20 := hF.b2.frozen 0
    have f21 := hF.b2.frozen 1
    have f22 := hF.b2.frozen 2
    have f23 := hF.b2.frozen 3
    have f3 := hF.b3.frozen 0
    simp only [List.getElem?_toArray, List.getElem?_cons_zero, List.getElem?_cons_succ] at p0 r1 r20 r21 r22 r23 r3
    have Hp := Lib.hid hp
    have HF := Lib.hid hF
    have HK := Lib.hid hK
    clear hp hF hK
    gi_wp2
    gi_region
    all_goals
      gi_wp2
      have hF2 := findPut_blks HF.out len 0 0 p 0 false
      have hB2 := findPut_below hB len 0 0 p 0 false
      have hK2 := (findPut_keeps W w.heap.size len 0 0 p 0 false).same D _ HK.out rfl
      have hn2 : (findPut W w.heap.size len 0 0 p 0 false).grownBy _ (some D) := grownBy_putObj' _ D (.deferred none)
      have hF3 := hF2.kept hn2 (fun r e => by cases e; exact ⟨_, hK2, rfl⟩)
      refine ⟨by simp, .inl ⟨_, _, rfl, run_takeDeferred hK2, ?_⟩⟩
      obtain ⟨e1, e2, e3⟩ := find_none (by have := hI.len; omega) Hp.out
      exact ⟨_, find_results hF3 _ rfl rfl rfl, by rw [e1, e2, e3], hB2.trans (belowK_b (w := w) (Nat.le_refl _) _ D _ _ (by omega) hK2 rfl rfl)⟩
  case stop =>
    rintro D c pre W hD ⟨k, hk, rfl⟩ ⟨⟨rfl, ini, last, e1, e2, e3, hF⟩, hB⟩ hK
    have Hx := Lib.hid e1
    have HF := Lib.hid hF
    have H2 := Lib.hid e2
    have H3 := Lib.hid e3
    clear e1 hF e2 e3
    gi_wp2
    have hn2 : W.grownBy _ (some D) := grownBy_putObj' _ D (.deferred none)
    have hF3 := HF.out.kept hn2 (fun r e => by cases e; exact ⟨_, hK, rfl⟩)
    refine ⟨by simp, .inl ⟨_, _, rfl, run_takeDeferred hK, ?_⟩⟩
    obtain ⟨e4, e5, e6⟩ := find_some (by have := hI.len; omega) Hx.out H2.out H3.out
    exact ⟨_, find_results hF3 _ rfl rfl rfl, by rw [e4, e5, e6], hB.trans (belowK_b (w := w) (Nat.le_refl _) _ D _ _ (by omega) hK rfl rfl)⟩

end Go.Proofs.Ytkbcnapfcojekaa
