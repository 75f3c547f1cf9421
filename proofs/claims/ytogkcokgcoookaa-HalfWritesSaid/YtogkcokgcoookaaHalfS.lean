/-
  Layer 10 (half): the iterator over a half-edge's lines, and seek.
-/
import Derived.Test.YtogkcokgcoookaaHalfA
import Derived.RangeFuncNested
import Derived.RangeFuncBound
import Derived.RangeFuncCalls
import Derived.RangeFuncLeaves
import Derived.RangeFuncBox
import Derived.Shelf.RegionOpen
import Derived.WalkLawsBesides
import Derived.OwnWalkIn
import Derived.TacticsInMore
import Derived.LoopNIn
import Derived.LoopIn
import Derived.Scope
namespace Go.Proofs.Ytogkcokgcoookaa
open Go.ChangeShapes Go.WideShapes Go.ChangeAt Go.RowKit Go.Shelf Go.Ed

attribute [local go_sem] Oper.semAt_some

def noLine : Line := ⟨⟨#[]⟩, 0, 0, 0⟩
def lineLt (x : Line) (nm : ByteArray) : Bool := Op.bytesLess x.nm.toList nm.toList
/-- where the line of a name stands, or would stand -/
def seekL (ls : List Line) (nm : ByteArray) : Nat := ls.findIdx fun x => !lineLt x nm
def hasL (ls : List Line) (nm : ByteArray) : Bool := match ls[seekL ls nm]? with
  | some x => x.nm.toList == nm.toList
  | none => false
theorem bytesLess_self (l : List UInt8) : Op.bytesLess l l = false := by
  induction l with
  | nil => rfl
  | cons x l ih => simp [Op.bytesLess, ih]

theorem seekL_eq {ls : List Line} {nm : ByteArray} {k : Nat} (hk : k ≤ ls.length) (h : ∀ j (hj : j < ls.length), j < k → lineLt ls[j] nm = true) (he : ∀ hk : k < ls.length, lineLt ls[k] nm = false) : seekL ls nm = k := by
  unfold seekL
  rcases Nat.lt_or_ge k ls.length with h1 | h1
  · rw [List.findIdx_eq h1]
    exact ⟨by simp [he h1], fun j hj => by simp [h j (by omega) hj]⟩
  · obtain rfl : k = ls.length := by omega
    rw [List.findIdx_eq_length]
    intro x hx
    obtain ⟨j, hj, rfl⟩ := List.getElem_of_mem hx
    simp [h j hj hj]

/-- the first k of what comes -/
def firstL (l : List Line) (k : Nat) : List (Nat × Line) := (List.range k).map fun j => (j, l.getD j noLine)
theorem firstL_succ (l : List Line) (k : Nat) : firstL l (k + 1) = firstL l k ++ [(k, l.getD k noLine)] := by simp [firstL, List.range_succ]
theorem firstL_length (l : List Line) (k : Nat) : (firstL l k).length = k := by simp [firstL]
def encLine (x : Nat × Line) : Array Value := #[.int .i64 (x.1 : Int), .agg #[.string x.2.nm, .int .i64 x.2.ver, .int .i64 x.2.wt, .int .i64 x.2.fl]]

set_option maxRecDepth 100000 in
theorem allL_any (w : World) (A : Option Addr) (n c : Nat) :
    Calls Try.prog 68 #[.slice A n c] w fun e w' => e = .returned (.func (.func 71) #[] #[.pointer (some ⟨w.heap.size, 0, none⟩)]) ∧ w' = w.alloc (.cells #[.slice A n c] 22) := by
  go_enter Try.func68, Try.ntmps68
  go_wp2
  go_ret
  exact ⟨rfl, rfl⟩

set_option maxRecDepth 100000 in
theorem lines_any (w : World) (p bo li : Int) (A : Option Addr) (n c : Nat) (pe : Bool) (mi : Int) :
    Calls Try.prog 57 #[.agg #[.int .i64 p, .int .i64 bo, .int .i64 li, .slice A n c, .bool pe, .int .i64 mi]] w fun e w' => e = .returned (.func (.func 71) #[] #[.pointer (some ⟨w.heap.size + 1, 0, none⟩)]) ∧
      w' = (w.alloc (.cells #[.int .i64 p, .int .i64 bo, .int .i64 li, .slice A n c, .bool pe, .int .i64 mi] 24)).alloc (.cells #[.slice A n c] 22) := by
  go_enter Try.func57, Try.ntmps57
  go_wp2_with fail
  refine (allL_any _ A n c).mono ?_
  rintro e w1 ⟨rfl, rfl⟩
  simp only [World.size_alloc]
  go_wp2_with fail
  go_ret
  exact ⟨rfl, rfl⟩

set_option maxRecDepth 100000 in
set_option maxHeartbeats 2000000 in
/-- the closure: the loop body is called with each element in turn, till it says no more. -/
theorem allL1_any (n : Nat) (hn : 1 ≤ n) (l Bs n₀ : Nat) (A : Option Addr) (len cap : Nat) (ls : List Line) (hlen : (len : Int) ≤ 9223372036854775807) (J Jx : List (Nat × Line) → World → Prop)
    (hY : ∀ pre x W, J pre W → pre.length < len → YieldAt Fence.wide (n - 1) Try.prog l (encLine x) W fun e W' =>
      (e = .returned (.bool true) ∧ J (pre ++ [x]) W' ∧ Below n₀ W W') ∨ (e = .returned (.bool false) ∧ Jx (pre ++ [x]) W'))
    (hJ : ∀ (pre : List (Nat × Line)) (A B : World), J pre A → A.grownBy B none → J pre B)
    (W : World) (hW0 : n₀ ≤ W.heap.size) (hBs : W.cell? ⟨Bs, 0, none⟩ = some (.slice A len cap)) (hc : LinesAt W n₀ A len ls) (h0 : J [] W) :
    CallsIn Fence.wide n Try.prog 71 #[.func (.yield l) #[] #[], .pointer (some ⟨Bs, 0, none⟩)] W fun e W' => (∃ v, e = .returned v) ∧
      ((∃ ys, ys = firstL ls len ∧ J ys W') ∨ (∃ pre, (∃ k, k ≤ len ∧ pre = firstL ls k) ∧ Jx pre W')) := by
  have hll := hc.len
  refine callsIn_of_wp Try.func71 rfl trivial ?_ rfl
  simp only [Try.ntmps71, List.size_toArray, List.length_cons, List.length_nil, Nat.reduceAdd, Nat.reduceSub, Array.replicate_succ, Array.replicate_zero, List.push_toArray, List.append_toArray, List.nil_append, List.cons_append]
  gi_wp2
  gi_loopw [7] (fun i wr => ∃ k : Nat, k ≤ len ∧ i = .int .i64 k ∧ J (firstL ls k) wr ∧ Below n₀ W wr)
    (fun i _ => len - (intOf i).toNat)
  case atStart => exact ⟨0, Nat.zero_le _, rfl, h0, Below.refl _ _⟩
  case round =>
    obtain ⟨k, hk, rfl, hJs, hnx⟩ := hrel
    by_cases hlt : k < len
    · have hlt' : (k : Int) < (len : Int) := by omega
      have hcx := hc.below hnx
      obtain ⟨b, off, rfl, hbn, hcells⟩ := hcx.form (by omega)
      obtain ⟨c0, c1, c2, c3⟩ := hcells k (by omega)
      obtain ⟨s, hs⟩ : ∃ s, s = ls[k]'(by omega) := ⟨_, rfl⟩
      rw [← hs] at c0 c1 c2 c3
      have hsd : ls.getD k noLine = s := by rw [hs]; simp [List.getD, List.getElem?_eq_getElem (show k < ls.length by omega)]
      have Hsd := Lib.hid hsd
      clear hs hsd hcells
      obtain ⟨nm, ver, wt, fl⟩ := s
      have hg2 : wr.grownBy (wr.alloc (.cells #[.string nm, .int .i64 ver, .int .i64 wt, .int .i64 fl] 44)) none := ⟨rfl, rfl, rfl, by simp, fun i hi _ => Below.heap_alloc wr _ i hi⟩
      have hbw2 : Below n₀ wr (wr.alloc (.cells #[.string nm, .int .i64 ver, .int .i64 wt, .int .i64 fl] 44)) := ⟨hg2.os, hg2.tape, hg2.output, hg2.size, fun i hi => hg2.block i (by have := hnx.size; omega) (by simp)⟩
      obtain ⟨fn, tmps, assign, body, hy, hR⟩ := hY _ (k, ⟨nm, ver, wt, fl⟩) _ (hJ _ _ _ hJs hg2) (by rw [firstL_length]; exact hlt)
      simp only [encLine] at hy
      gi_wp2
      refine hR.mono ?_
      rintro e W3 (⟨rfl, hJ3, hk3⟩ | ⟨rfl, hJx3⟩)
      · gi_wp2
        go_roundw
        case rel => exact ⟨k + 1, by omega, by go_num, by rw [firstL_succ, Hsd.out]; exact hJ3, (hnx.trans hbw2).trans hk3⟩
        case measure => simp [intOf]; omega
      · gi_wp2
        refine bodyPost_ret (results_none rfl _ _ _) rfl ?_
        exact ⟨⟨_, rfl⟩, .inr ⟨_, ⟨k + 1, by omega, by rw [firstL_succ, Hsd.out]⟩, hJx3⟩⟩
    · obtain rfl : k = len := by omega
      gi_wp2
      go_end0
      exact ⟨⟨_, rfl⟩, .inl ⟨_, rfl, hJs⟩⟩

/-- the closure as a range takes it -/
theorem allL_stops (n : Nat) (hn : 1 ≤ n) (Bs n₀ : Nat) (A : Option Addr) (len cap : Nat) (ls : List Line) (hlen : (len : Int) ≤ 9223372036854775807) (w : World) (hBs : Bs < w.heap.size) (hn₀ : n₀ ≤ w.heap.size)
    (hc : w.cell? ⟨Bs, 0, none⟩ = some (.slice A len cap)) (hI : LinesAt w n₀ A len ls) :
    SeqStopsK Fence.wide n Try.prog 71 #[.pointer (some ⟨Bs, 0, none⟩)] encLine (Below n₀) (fun ys => ys = firstL ls len)
      (fun pre => ∃ k, k ≤ len ∧ pre = firstL ls k) len w := fun l J Jx W hW hJ _ hY h0 => by
  have hc' := (hW.cell (p := ⟨Bs, 0, none⟩) hBs).trans hc
  exact allL1_any n hn l Bs n₀ A len cap ls hlen J Jx hY (fun pre X Y hX hg => hJ pre X Y none hX hg (fun r e => by cases e)) W (Nat.le_trans hn₀ hW.size) hc' (hI.below (hW.mono hn₀)) h0

theorem blk_keptL {W W' : World} {row : Option Nat} {g : Nat} {t : TypeId} {cs : Array Value} (h : Blk W g t cs) (hg : W.grownBy W' row) (hrow : ∀ r, row = some r → ∃ o : Obj, W.heap[r]? = some o ∧ o.isCells = false) : Blk W' g t cs :=
  h.grown hg (fun e => by
    obtain ⟨o, ho, hc⟩ := hrow g e.symm
    have h' : W.heap[g]? = some (.cells cs t (0, 0)) := h
    rw [h'] at ho
    cases ho
    cases hc)

/-- all that has come is below the name -/
def AllLess (pre : List (Nat × Line)) (nm : ByteArray) : Prop := ∀ y ∈ pre, lineLt y.2 nm = true

/-- the name and the two results of seek, as they lie -/
structure SeekBlks (W : World) (N : Nat) (nm : ByteArray) (i : Int) (ok : Bool) : Prop where
  b1 : Blk W (N + 1) 9 #[.string nm]
  b2 : Blk W (N + 1 + 1) 3 #[.int .i64 i]
  b3 : Blk W (N + 1 + 1 + 1) 4 #[.bool ok]
theorem SeekBlks.kept {W W' : World} {row : Option Nat} {N : Nat} {nm : ByteArray} {i : Int} {ok : Bool} (h : SeekBlks W N nm i ok) (hg : W.grownBy W' row) (hrow : ∀ r, row = some r → ∃ o : Obj, W.heap[r]? = some o ∧ o.isCells = false) : SeekBlks W' N nm i ok :=
  ⟨blk_keptL h.b1 hg hrow, blk_keptL h.b2 hg hrow, blk_keptL h.b3 hg hrow⟩
theorem SeekBlks.alloc {W : World} {N : Nat} {nm : ByteArray} {i : Int} {ok : Bool} (h : SeekBlks W N nm i ok) (o : Obj) : SeekBlks (W.alloc o) N nm i ok := ⟨h.b1.alloc o, h.b2.alloc o, h.b3.alloc o⟩

theorem firstL_mem {ls : List Line} {k j : Nat} (hj : j < k) : (j, ls.getD j noLine) ∈ firstL ls k := by
  simp only [firstL, List.mem_map, List.mem_range]
  exact ⟨j, hj, rfl⟩
theorem getDL_lt {ls : List Line} {j : Nat} (hj : j < ls.length) : ls.getD j noLine = ls[j] := by simp [List.getD, List.getElem?_eq_getElem hj]
theorem seek_none {ls : List Line} {len : Nat} {nm : ByteArray} (hl : ls.length = len) (h : AllLess (firstL ls len) nm) : seekL ls nm = len ∧ hasL ls nm = false := by
  have hs : seekL ls nm = len := seekL_eq (by omega) (fun j hj hjl => by have h1 := h _ (firstL_mem (ls := ls) hjl); simp only [getDL_lt hj] at h1; exact h1) (fun hk => by omega)
  have hn : ls[seekL ls nm]? = none := List.getElem?_eq_none (by omega)
  exact ⟨hs, by unfold hasL; rw [hn]⟩
theorem seek_some {ls : List Line} {k : Nat} {nm : ByteArray} {ini : List (Nat × Line)} {last : Nat × Line} (hk : k ≤ ls.length) (e : firstL ls k = ini ++ [last]) (h : AllLess ini nm) (hp : lineLt last.2 nm = false) :
    ((seekL ls nm : Nat) : Int) = last.1 ∧ hasL ls nm = (last.2.nm.toList == nm.toList) := by
  cases k with
  | zero => simp [firstL] at e
  | succ k =>
    have hk' : k < ls.length := hk
    rw [firstL_succ] at e
    obtain ⟨rfl, e5⟩ := List.append_inj' e rfl
    have e6 : last = (k, ls.getD k noLine) := by simpa using e5.symm
    rw [getDL_lt hk'] at e6
    subst e6
    have hs : seekL ls nm = k := seekL_eq (Nat.le_of_lt hk') (fun j hj hjl => by have h1 := h _ (firstL_mem (ls := ls) hjl); simp only [getDL_lt hj] at h1; exact h1) (fun _ => hp)
    have hn : ls[seekL ls nm]? = some (ls[k]'hk') := by rw [hs]; exact List.getElem?_eq_getElem _
    exact ⟨by rw [hs], by unfold hasL; rw [hn]⟩

theorem seek_results {W : World} {a b : Value} (tmps : Array Value) (h4 : tmps.getD 4 undef = a) (h5 : tmps.getD 5 undef = b) : (results Try.f43 tmps).run Try.prog W = .ok (.tuple #[a, b]) W := by
  simp only [Array.getD_eq_getD_getElem?] at h4 h5
  simp [results, Try.f43, h4, h5]
theorem seekPut1_blks {W : World} {N : Nat} {nm : ByteArray} {i0 : Int} (h : SeekBlks W N nm i0 false) (i : Int) : SeekBlks (W.setCell ⟨N + 1 + 1, 0, none⟩ (.int .i64 i)) N nm i false :=
  ⟨h.b1.far (by show N + 1 ≠ N + 1 + 1; omega) _, h.b2.set_ 0 _, h.b3.far (by show N + 1 + 1 + 1 ≠ N + 1 + 1; omega) _⟩
theorem seekPut_blks {W : World} {N : Nat} {nm : ByteArray} {i0 : Int} {ok0 : Bool} (h : SeekBlks W N nm i0 ok0) (i : Int) (ok : Bool) : SeekBlks ((W.setCell ⟨N + 1 + 1, 0, none⟩ (.int .i64 i)).setCell ⟨N + 1 + 1 + 1, 0, none⟩ (.bool ok)) N nm i ok :=
  ⟨(h.b1.far (by show N + 1 ≠ N + 1 + 1; omega) _).far (by show N + 1 ≠ N + 1 + 1 + 1; omega) _, (h.b2.set_ 0 _).far (by show N + 1 + 1 ≠ N + 1 + 1 + 1; omega) _, (h.b3.far (by show N + 1 + 1 + 1 ≠ N + 1 + 1; omega) _).set_ 0 _⟩
theorem seekPut1_below {W w : World} (h : Below w.heap.size w W) (i : Int) : Below w.heap.size w (W.setCell ⟨w.heap.size + 1 + 1, 0, none⟩ (.int .i64 i)) := h.setCell (p := ⟨w.heap.size + 1 + 1, 0, none⟩) (by simp; omega) _
theorem seekPut_below {W w : World} (h : Below w.heap.size w W) (i : Int) (ok : Bool) : Below w.heap.size w ((W.setCell ⟨w.heap.size + 1 + 1, 0, none⟩ (.int .i64 i)).setCell ⟨w.heap.size + 1 + 1 + 1, 0, none⟩ (.bool ok)) :=
  (h.setCell (p := ⟨w.heap.size + 1 + 1, 0, none⟩) (by simp; omega) _).setCell (p := ⟨w.heap.size + 1 + 1 + 1, 0, none⟩) (by simp; omega) _

set_option maxRecDepth 100000 in
set_option maxHeartbeats 2000000 in
theorem seekL_any (w : World) (p bo li : Int) (A : Option Addr) (len cap : Nat) (ls : List Line) (pe : Bool) (mi : Int) (nm : ByteArray) (hlen : (len : Int) ≤ 9223372036854775807) (hI : LinesAt w w.heap.size A len ls) :
    Calls Try.prog 43 #[.agg #[.int .i64 p, .int .i64 bo, .int .i64 li, .slice A len cap, .bool pe, .int .i64 mi], .string nm] w fun e w' => e = .returned (.tuple #[.int .i64 (seekL ls nm : Nat), .bool (hasL ls nm)]) ∧ Below w.heap.size w w' := by
  refine (callsIn_wide (n := 5)).1 ?_
  refine callsIn_of_wp_marks Try.func43 rfl trivial ?_ rfl
  simp only [Try.ntmps43, List.size_toArray, List.length_cons, List.length_nil, Nat.reduceAdd, Nat.reduceSub, Array.replicate_succ, Array.replicate_zero, List.push_toArray, List.append_toArray, List.nil_append, List.cons_append]
  gi_wp2
  refine wpIn_wide.2 (wp_scope_straight ((wpIn_wide (n := 5)).1 ?_))
  gi_wp2
  refine wpIn_label ?_
  gi_wp2_with (refine ⟨trivial, ?_⟩; gi_at_call 57; refine (callsIn_wide.2 (lines_any _ _ _ _ _ _ _ _ _)).mono ?_; rintro e w' ⟨rfl, rfl⟩)
  generalize hW0 : ((((((w.alloc (.cells #[.int .i64 p, .int .i64 bo, .int .i64 li, .slice A len cap, .bool pe, .int .i64 mi] 24)).alloc (.cells #[.string nm] 9)).alloc (.cells #[.int .i64 len] 3)).alloc (.cells #[.bool false] 4)).alloc (.cells #[.int .i64 p, .int .i64 bo, .int .i64 li, .slice A len cap, .bool pe, .int .i64 mi] 24)).alloc (.cells #[.slice A len cap] 22)) = W0
  have hsz : W0.heap.size = w.heap.size + 1 + 1 + 1 + 1 + 1 + 1 := by rw [← hW0]; simp
  have hB0 : Below w.heap.size w W0 := by rw [← hW0]; go_grown
  have hF0 : SeekBlks W0 w.heap.size nm len false := by
    rw [← hW0]
    refine SeekBlks.alloc (SeekBlks.alloc ⟨?_, ?_, ?_⟩ _) _
    · exact ((Blk.new' (by simp)).alloc _).alloc _
    · exact (Blk.new' (by simp)).alloc _
    · exact Blk.new' (by simp)
  have hc0 : W0.cell? ⟨w.heap.size + 1 + 1 + 1 + 1 + 1, 0, none⟩ = some (.slice A len cap) := by
    rw [← hW0]
    exact (Blk.new' (t := 22) (cs := #[.slice A len cap]) (by simp)).cell 0
  clear hW0
  refine wpIn_rangeFunc_ownH rfl (by omega) (gf := 71) (lb := #[.pointer (some ⟨w.heap.size + 1 + 1 + 1 + 1 + 1, 0, none⟩)]) rfl trivial (enters_of Try.func71 (by kernel_rfl) rfl)
    (allL_stops (5 - 1) (by omega) (w.heap.size + 1 + 1 + 1 + 1 + 1) w.heap.size A len cap ls hlen W0 (by omega) (by omega) hc0 (hI.below hB0)) belowK_t (belowK_b (by omega)) (Below.refl _ _) (fun _ => rfl)
    (fun pre W => (AllLess pre nm ∧ SeekBlks W w.heap.size nm len false) ∧ Below w.heap.size w W)
    (fun c pre W => (c = .exit 0 ∧ ∃ ini last, pre = ini ++ [last] ∧ AllLess ini nm ∧ lineLt last.2 nm = false ∧ SeekBlks W w.heap.size nm last.1 (last.2.nm.toList == nm.toList)) ∧ Below w.heap.size w W)
    (OwnFrom.and (Own.from (fun s X Y row hs hg hr => ⟨hs.1, hs.2.kept hg hr⟩) _) (ownFrom_below (Nat.le_refl _) (by omega)))
    (fun c => OwnFrom.and (Own.from (fun s X Y row hs hg hr => by obtain ⟨hc, ini, last, e1, e2, e3, e4⟩ := hs; exact ⟨hc, ini, last, e1, e2, e3, e4.kept hg hr⟩) _) (ownFrom_below (Nat.le_refl _) (by omega)))
    ⟨⟨fun _ h => by simp at h, hF0⟩, hB0⟩
    (fun x a' W => ∃ Bx, w.heap.size + 1 + 1 + 1 < Bx ∧ Blk W Bx 44 #[.string x.2.nm, .int .i64 x.2.ver, .int .i64 x.2.wt, .int .i64 x.2.fl] ∧
      a' = { tmps := #[.agg #[.int .i64 p, .int .i64 bo, .int .i64 li, .slice A len cap, .bool pe, .int .i64 mi], .string nm, .pointer (some ⟨w.heap.size, 0, none⟩), .pointer (some ⟨w.heap.size + 1, 0, none⟩), .int .i64 0, .bool false,
        .pointer (some ⟨w.heap.size + 1 + 1, 0, none⟩), .pointer (some ⟨w.heap.size + 1 + 1 + 1, 0, none⟩), .int .i64 (x.1 : Int), .pointer (some ⟨Bx, 0, none⟩), .pointer (some ⟨w.heap.size, 3, none⟩), .slice A len cap, .int .i64 len,
        .agg #[.int .i64 p, .int .i64 bo, .int .i64 li, .slice A len cap, .bool pe, .int .i64 mi], .func (.func 71) #[] #[.pointer (some ⟨w.heap.size + 1 + 1 + 1 + 1 + 1, 0, none⟩)], .int .i64 (x.1 : Int),
        .agg #[.string x.2.nm, .int .i64 x.2.ver, .int .i64 x.2.wt, .int .i64 x.2.fl], undef, undef, undef, undef, undef, undef, undef, undef, undef, undef, undef, undef, undef, undef], defers := [] })
    (fun x a' _ X Y row hs hg hr => by obtain ⟨Bx, h1, h2, h3⟩ := hs; exact ⟨Bx, h1, blk_keptL h2 hg (fun r e => (hr r e).2), h3⟩) ?assign ?body ?done ?stop
  case assign =>
    rintro l pre x W K ⟨⟨hp, hF⟩, hB⟩ hK
    have hs := hB.size
    have hs2 := hF.b3.lt
    simp only [encLine]
    gi_wp2
    exact hK _ _ ((KeepsOthers.alloc _ _).from _) ((Below.refl _ W).alloc hs _) ⟨⟨hp, hF.alloc _⟩, hB.alloc hs _⟩ ⟨W.heap.size, by omega, Blk.new W _ _, rfl⟩
  case body =>
    rintro l pre x a' W hl ⟨r, hr⟩ ⟨⟨hp, hF⟩, hB⟩ ⟨Bx, hBx, bX, rfl⟩ hlt
    have hs := hB.size
    have r1 := hF.b1.cell 0
    have r2 := hF.b2.cell 0
    have r3 := hF.b3.cell 0
    have f2 := hF.b2.frozen 0
    have f3 := hF.b3.frozen 0
    have x0 := bX.cell 0
    simp only [List.getElem?_toArray, List.getElem?_cons_zero] at r1 r2 r3 x0
    have Hp := Lib.hid hp
    have HF := Lib.hid hF
    clear hp hF hlt
    have hne2 : Bx ≠ w.heap.size + 1 + 1 := by omega
    have hne3 : Bx ≠ w.heap.size + 1 + 1 + 1 := by omega
    by_cases h1 : (x.2.nm.toList == nm.toList) = true
    · have hx : lineLt x.2 nm = false := by
        unfold lineLt
        rw [eq_of_beq h1]
        exact bytesLess_self _
      replace hx := Lib.hid hx
      gi_wp2
      exact ⟨((KeepsOthers.setCell _ _ _).trans (KeepsOthers.setCell _ _ _)).from _, ⟨rfl, pre, x, rfl, Hp.out, hx.out, by rw [h1]; exact seekPut_blks HF.out x.1 true⟩, seekPut_below hB x.1 true⟩
    · obtain h1 : (x.2.nm.toList == nm.toList) = false := by simpa using h1
      by_cases h2 : Op.bytesLess x.2.nm.toList nm.toList = true
      · gi_wp2
        refine ⟨KeepsFrom.refl _ _, Below.refl _ _, ⟨?_, HF.out⟩, hB⟩
        show ∀ y ∈ pre ++ [x], lineLt y.2 nm = true
        intro y hy
        rcases List.mem_append.1 hy with e | e
        · exact Hp.out y e
        · rw [List.mem_singleton.1 e]
          exact h2
      · obtain h2 : Op.bytesLess x.2.nm.toList nm.toList = false := by simpa using h2
        gi_wp2
        exact ⟨(KeepsOthers.setCell _ _ _).from _, ⟨rfl, pre, x, rfl, Hp.out, h2, by rw [h1]; exact seekPut1_blks HF.out x.1⟩, seekPut1_below hB x.1⟩
  case done =>
    rintro D ys W hD rfl ⟨⟨hp, hF⟩, hB⟩ hK
    have r2 := hF.b2.cell 0
    have r3 := hF.b3.cell 0
    simp only [List.getElem?_toArray, List.getElem?_cons_zero] at r2 r3
    obtain ⟨e1, e2⟩ := seek_none (nm := nm) (by have := hI.len; omega) hp
    have E1 := Lib.hid e1
    have E2 := Lib.hid e2
    clear e1 e2 hp
    gi_wp2
    gi_region
    all_goals
      gi_wp2
      rw [Exit.noGoto_ret]
      refine ⟨by simp, .inl ⟨_, _, rfl, run_takeDeferred (w := W.drew) hK, ?_⟩⟩
      exact ⟨_, seek_results _ rfl rfl, by rw [E1.out, E2.out]; rfl, hB.drew.trans (belowK_b (w := w) (Nat.le_refl _) _ D _ _ (by omega) hK rfl rfl)⟩
  case stop =>
    rintro D c pre W hD ⟨k, hk, rfl⟩ ⟨⟨rfl, ini, last, e1, e2, e3, hF⟩, hB⟩ hK
    have r2 := hF.b2.cell 0
    have r3 := hF.b3.cell 0
    simp only [List.getElem?_toArray, List.getElem?_cons_zero] at r2 r3
    obtain ⟨e4, e5⟩ := seek_some (by have := hI.len; omega) e1 e2 e3
    rw [← e4] at r2
    rw [← e5] at r3
    clear e1 e2 e3 e4 e5
    gi_wp2
    gi_region
    all_goals
      gi_wp2
      rw [Exit.noGoto_ret]
      refine ⟨by simp, .inl ⟨_, _, rfl, run_takeDeferred (w := W.drew) hK, ?_⟩⟩
      exact ⟨_, seek_results _ rfl rfl, rfl, hB.drew.trans (belowK_b (w := w) (Nat.le_refl _) _ D _ _ (by omega) hK rfl rfl)⟩

end Go.Proofs.Ytogkcokgcoookaa
