/-
  Layer 10 (half): Begin, Reg, Newer of the code (and the document's Begin, Reg, Newer).
-/
import Derived.Test.YtogkcokgcoookaaHalfW
namespace Go.Proofs.Ytogkcokgcoookaa
open Go.ChangeShapes Go.WideShapes Go.ChangeAt Go.RowKit Go.Shelf Go.Ed

/-- a register's three numbers -/
structure Rg where
  ver : Int
  wt : Int
  fl : Int
def Line.rg (x : Line) : Rg := ⟨x.ver, x.wt, x.fl⟩
def noRg : Rg := ⟨0, 0, 0⟩
/-- the register that Reg tells -/
def regL (ls : List Line) (nm : ByteArray) : Rg := match ls[seekL ls nm]? with
  | some x => if x.nm.toList == nm.toList then ⟨x.ver, x.wt, x.fl⟩ else noRg
  | none => noRg
theorem regL_has {ls : List Line} {nm : ByteArray} (h : hasL ls nm = true) : ∃ hl : seekL ls nm < ls.length, regL ls nm = ⟨ls[seekL ls nm].ver, ls[seekL ls nm].wt, ls[seekL ls nm].fl⟩ := by
  obtain ⟨hl, e⟩ := hasL_lt h
  refine ⟨hl, ?_⟩
  unfold regL
  rw [List.getElem?_eq_getElem hl]
  simp [e]
theorem regL_not {ls : List Line} {nm : ByteArray} (h : hasL ls nm = false) : regL ls nm = noRg := by
  unfold hasL at h
  unfold regL
  split at h
  · rename_i x hx
    rw [hx]
    simp [h]
  · rename_i hx
    rw [hx]
/-- the first is newer -/
def newer (a b : Rg) : Bool := decide (b.ver < a.ver) || (a.ver == b.ver && decide (a.wt < b.wt))

set_option maxRecDepth 100000 in
theorem begin10_any (w : World) (p bo li : Int) : Calls Try.prog 37 #[.int .i64 p, .int .i64 bo, .int .i64 li] w fun e w' => e = .returned (.agg #[.int .i64 p, .int .i64 bo, .int .i64 li, .slice none 0 0, .bool false, .int .i64 0]) ∧ Below w.heap.size w w' := by
  have hZ0 : Blk (w.alloc (.cells #[.int .i64 0, .int .i64 0, .int .i64 0, .slice none 0 0, .bool false, .int .i64 0] 24)) w.heap.size 24 #[.int .i64 0, .int .i64 0, .int .i64 0, .slice none 0 0, .bool false, .int .i64 0] := Blk.new _ _ _
  go_enter Try.func37, Try.ntmps37
  go_wp2_with ((with_reducible refine go_store_as (off := 0) (vs := #[.int .i64 p, .int .i64 bo, .int .i64 li, .slice none 0 0, .bool false, .int .i64 0]) #[.int .i64 p, .int .i64 bo, .int .i64 li, .slice none 0 0, .bool false, .int .i64 0] agg_Half hZ0 ?b1 ?b2 ?b3 ?b4 ?b5 ?b6 ?_); (case b1 => rfl); (case b2 => rfl); (case b3 => rfl); (case b4 => simp); (case b5 => simp [Value.oneCell']); (case b6 => rfl); intro w4 hB4 hC4)
  refine bodyPost_ret (results_blk rfl agg_Half hB4 rfl) rfl ?_
  exact ⟨rfl, ((Below.refl _ w).alloc (Nat.le_refl _) _).trans (hC4.below (fun i h => by subst h; exact Nat.le_refl _) (by simp))⟩
set_option maxRecDepth 100000 in
theorem refBegin10_any (w : World) (p bo li : Int) : Calls Try.prog 38 #[.int .i64 p, .int .i64 bo, .int .i64 li] w fun e w' => e = .returned (.agg #[.int .i64 p, .int .i64 bo, .int .i64 li, .slice none 0 0, .bool false, .int .i64 0]) ∧ Below w.heap.size w w' := by
  have hZ0 : Blk (w.alloc (.cells #[.int .i64 0, .int .i64 0, .int .i64 0, .slice none 0 0, .bool false, .int .i64 0] 24)) w.heap.size 24 #[.int .i64 0, .int .i64 0, .int .i64 0, .slice none 0 0, .bool false, .int .i64 0] := Blk.new _ _ _
  go_enter Try.func38, Try.ntmps38
  go_wp2_with ((with_reducible refine go_store_as (off := 0) (vs := #[.int .i64 p, .int .i64 bo, .int .i64 li, .slice none 0 0, .bool false, .int .i64 0]) #[.int .i64 p, .int .i64 bo, .int .i64 li, .slice none 0 0, .bool false, .int .i64 0] agg_Half hZ0 ?b1 ?b2 ?b3 ?b4 ?b5 ?b6 ?_); (case b1 => rfl); (case b2 => rfl); (case b3 => rfl); (case b4 => simp); (case b5 => simp [Value.oneCell']); (case b6 => rfl); intro w4 hB4 hC4)
  refine bodyPost_ret (results_blk rfl agg_Half hB4 rfl) rfl ?_
  exact ⟨rfl, ((Below.refl _ w).alloc (Nat.le_refl _) _).trans (hC4.below (fun i h => by subst h; exact Nat.le_refl _) (by simp))⟩

set_option maxRecDepth 100000 in
theorem ahead_any (w : World) (a b c d : Int) : Calls Try.prog 60 #[.int .i64 a, .int .i64 b, .int .i64 c, .int .i64 d] w fun e w' => e = .returned (.bool (decide (c < a) || (a == c && decide (b < d)))) ∧ Below w.heap.size w w' := by
  obtain ⟨r, hr⟩ : ∃ r, (decide (c < a) || (a == c && decide (b < d))) = r := ⟨_, rfl⟩
  rw [hr]
  replace hr := Lib.hid hr
  go_enter Try.func60, Try.ntmps60
  go_wp2_with fail
  all_goals
    go_ret
    refine ⟨congrArg (fun b => Ending.returned (.bool b)) (?_ : _ = r), Below.refl _ _⟩
    rw [← hr.out]
    clear hr
    first | (simp [*]; done) | (simp [*]; omega)

set_option maxRecDepth 100000 in
theorem newer_any (w : World) (a b : Rg) (r : Bool) (hr : newer a b = r) : Calls Try.prog 45 #[.agg #[.int .i64 a.ver, .int .i64 a.wt, .int .i64 a.fl], .agg #[.int .i64 b.ver, .int .i64 b.wt, .int .i64 b.fl]] w fun e w' => e = .returned (.bool r) ∧ Below w.heap.size w w' := by
  obtain ⟨a0, a1, a2⟩ := a
  obtain ⟨b0, b1, b2⟩ := b
  have e : (decide (b0 < a0) || (a0 == b0 && decide (a1 < b1))) = r := hr
  clear hr
  have Hb : Hid (∀ cs cs' : Array Value, Below w.heap.size w ((w.alloc (.cells cs 29)).alloc (.cells cs' 29))) := Lib.hid (fun cs cs' => ((Below.refl _ w).alloc (Nat.le_refl _) _).alloc (by simp) _)
  replace e := Lib.hid e
  go_enter Try.func45, Try.ntmps45
  go_wp2_with fail
  refine (ahead_any _ a0 a1 b0 b1).mono ?_
  rw [e.out]
  rintro e w1 ⟨rfl, h1⟩
  go_wp2_with fail
  go_ret
  exact ⟨rfl, (Hb.out _ _).trans (h1.mono (Hb.out _ _).size)⟩

set_option maxRecDepth 100000 in
theorem refNewer_any (w : World) (a b : Rg) (r : Bool) (hr : newer a b = r) : Calls Try.prog 16 #[.agg #[.int .i64 a.ver, .int .i64 a.wt, .int .i64 a.fl], .agg #[.int .i64 b.ver, .int .i64 b.wt, .int .i64 b.fl]] w fun e w' => e = .returned (.bool r) ∧ Below w.heap.size w w' := by
  obtain ⟨a0, a1, a2⟩ := a
  obtain ⟨b0, b1, b2⟩ := b
  have e : (decide (b0 < a0) || (a0 == b0 && decide (a1 < b1))) = r := hr
  clear hr
  have Hb : Hid (∀ cs cs' : Array Value, Below w.heap.size w ((w.alloc (.cells cs 29)).alloc (.cells cs' 29))) := Lib.hid (fun cs cs' => ((Below.refl _ w).alloc (Nat.le_refl _) _).alloc (by simp) _)
  replace e := Lib.hid e
  go_enter Try.func16, Try.ntmps16
  go_wp2_with fail
  all_goals
    go_ret
    refine ⟨congrArg (fun b => Ending.returned (.bool b)) (?_ : _ = r), Hb.out _ _⟩
    rw [← e.out]
    clear e Hb
    by_cases h : a0 = b0
    · subst h
      simp_all
    · have h2 : (a0 == b0) = false := by simpa using h
      simp_all

def ToldRg (w : World) (r : Rg) (e : Ending) (w' : World) : Prop := e = .returned (.agg #[.int .i64 r.ver, .int .i64 r.wt, .int .i64 r.fl]) ∧ Below w.heap.size w w'

set_option maxRecDepth 100000 in
set_option maxHeartbeats 2000000 in
theorem reg10_any (w : World) (p bo li : Int) (A : Option Addr) (len c : Nat) (ls : List Line) (pe : Bool) (mi : Int) (nm : ByteArray) (hn : (len : Int) ≤ 9223372036854775807) (hI : LinesAt w w.heap.size A len ls) :
    Calls Try.prog 14 #[.agg #[.int .i64 p, .int .i64 bo, .int .i64 li, .slice A len c, .bool pe, .int .i64 mi], .string nm] w (ToldRg w (regL ls nm)) := by
  have hll := hI.len
  obtain ⟨g, hg⟩ : ∃ g, g = w.heap.size := ⟨_, rfl⟩
  have hb0 : Below w.heap.size w ((w.alloc (.cells #[.int .i64 p, .int .i64 bo, .int .i64 li, .slice A len c, .bool pe, .int .i64 mi] 24)).alloc (.cells #[.int .i64 0, .int .i64 0, .int .i64 0] 29)) := ((Below.refl _ w).alloc (Nat.le_refl _) _).alloc (by simp) _
  have hB0 : Blk ((w.alloc (.cells #[.int .i64 p, .int .i64 bo, .int .i64 li, .slice A len c, .bool pe, .int .i64 mi] 24)).alloc (.cells #[.int .i64 0, .int .i64 0, .int .i64 0] 29)) g 24 #[.int .i64 p, .int .i64 bo, .int .i64 li, .slice A len c, .bool pe, .int .i64 mi] := by rw [hg]; exact (Blk.new _ _ _).alloc _
  have hZ0 : Blk ((w.alloc (.cells #[.int .i64 p, .int .i64 bo, .int .i64 li, .slice A len c, .bool pe, .int .i64 mi] 24)).alloc (.cells #[.int .i64 0, .int .i64 0, .int .i64 0] 29)) (g + 1) 29 #[.int .i64 0, .int .i64 0, .int .i64 0] := Blk.new' (by simp [hg])
  obtain ⟨r, hr⟩ : ∃ r, regL ls nm = r := ⟨_, rfl⟩
  obtain ⟨k, hk⟩ : ∃ k, seekL ls nm = k := ⟨_, rfl⟩
  obtain ⟨b, hb⟩ : ∃ b, hasL ls nm = b := ⟨_, rfl⟩
  have hT : b = true → ∃ hl : k < ls.length, r = ⟨ls[k].ver, ls[k].wt, ls[k].fl⟩ := fun h => by
    obtain ⟨hl, e⟩ := regL_has (hb.trans h)
    subst hk
    exact ⟨hl, hr.symm.trans e⟩
  have hF : b = false → r = noRg := fun h => hr.symm.trans (regL_not (hb.trans h))
  rw [hr]
  clear hr
  replace hk := Lib.hid hk
  replace hb := Lib.hid hb
  replace hT := Lib.hid hT
  replace hF := Lib.hid hF
  go_enter Try.func14, Try.ntmps14
  go_wp2_with fail
  generalize (w.alloc (.cells #[.int .i64 p, .int .i64 bo, .int .i64 li, .slice A len c, .bool pe, .int .i64 mi] 24)).alloc (.cells #[.int .i64 0, .int .i64 0, .int .i64 0] 29) = W0 at *
  rw [← hg]
  replace hg := Lib.hid hg
  refine (seekL_any _ p bo li A len c ls pe mi nm hn (Reads.more (Reads.below hI hb0) hb0.size)).mono ?_
  rw [hk.out, hb.out]
  rintro e w1 ⟨rfl, h1⟩
  have hb1 := hb0.trans (h1.mono hb0.size)
  have hB1 := hB0.below h1 hB0.lt
  have hZ1 := Lib.hid (hZ0.below h1 hZ0.lt)
  clear hB0 hZ0 h1 hb0
  have k3 := hB1.cell 3
  simp only [List.getElem?_toArray, List.getElem?_cons_zero, List.getElem?_cons_succ] at k3
  clear hB1
  cases b
  · obtain rfl := hF.out rfl
    go_wp2_with ((with_reducible refine go_store_as (off := 0) (vs := #[.int .i64 0, .int .i64 0, .int .i64 0]) #[.int .i64 0, .int .i64 0, .int .i64 0] agg_Reg hZ1.out ?b1 ?b2 ?b3 ?b4 ?b5 ?b6 ?_); (case b1 => rfl); (case b2 => rfl); (case b3 => rfl); (case b4 => simp); (case b5 => simp [Value.oneCell']); (case b6 => rfl); (intro w5 hB5 hC5))
    refine bodyPost_ret (results_blk rfl agg_Reg hB5 rfl) rfl ?_
    exact ⟨rfl, hb1.trans (hC5.below (fun i h => by have := hg.out; omega) hb1.size)⟩
  · obtain ⟨hl, rfl⟩ := hT.out rfl
    have hl' : (k : Int) < (len : Int) := by omega
    obtain ⟨b, off, rfl, hbl, hxx⟩ := LinesAt.form (Reads.below hI hb1) (by omega)
    obtain ⟨q0, q1, q2, q3⟩ := hxx k hl
    obtain ⟨x, hx⟩ : ∃ x, ls[k] = x := ⟨_, rfl⟩
    rw [hx] at q0 q1 q2 q3 ⊢
    replace hx := Lib.hid hx
    clear hxx
    go_wp2_with ((with_reducible refine go_store_as (off := 0) (vs := #[.int .i64 x.ver, .int .i64 x.wt, .int .i64 x.fl]) #[.int .i64 x.ver, .int .i64 x.wt, .int .i64 x.fl] agg_Reg hZ1.out ?b1 ?b2 ?b3 ?b4 ?b5 ?b6 ?_); (case b1 => rfl); (case b2 => rfl); (case b3 => rfl); (case b4 => simp); (case b5 => simp [Value.oneCell']); (case b6 => rfl); (intro w5 hB5 hC5))
    refine bodyPost_ret (results_blk rfl agg_Reg hB5 rfl) rfl ?_
    exact ⟨by rw [hx.out], hb1.trans (hC5.below (fun i h => by have := hg.out; omega) hb1.size)⟩

end Go.Proofs.Ytogkcokgcoookaa
