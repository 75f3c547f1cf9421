/-
  Layer 5 (wire): the document's Ext and Item answer some bool, whatever they are handed; nothing that was there is turned.
-/
import Derived.Test.YtkbcnapfcojekaaName
import Derived.BigGuardPart
namespace Go.Proofs.Ytkbcnapfcojekaa
open Go.ChangeShapes Go.WideShapes Go.ChangeAt Go.RowKit Go.Shelf Go.Ed

/-- some bool, and nothing that was there is turned -/
def SomeBool (w : World) (e : Ending) (w' : World) : Prop := ∃ b : Bool, e = .returned (.bool b) ∧ Below w.heap.size w w'
/-- some bool, and the world as it was -/
def JustBool (w : World) (e : Ending) (w' : World) : Prop := ∃ b : Bool, e = .returned (.bool b) ∧ w = w'

set_option maxRecDepth 100000 in
theorem node05_any (w : World) (n : Int) : Calls Try.prog 70 #[.int .i64 n] w fun e w' => e = .returned (.bool (isNode n)) ∧ w = w' := by
  by_cases h1 : 0 ≤ n
  · have hr : isNode n = decide (n < 16) := by simp [isNode, h1]
    rw [hr]
    clear hr
    go_enter Try.func70, Try.ntmps70
    go_wp2
    go_ret
    exact ⟨rfl, rfl⟩
  · have hr : isNode n = false := by simp [isNode, h1]
    rw [hr]
    clear hr
    go_enter Try.func70, Try.ntmps70
    go_wp2
    go_ret
    exact ⟨rfl, rfl⟩
set_option maxRecDepth 100000 in
theorem within05_any (w : World) (x a b : Int) : Calls Try.prog 71 #[.int .i64 x, .int .i64 a, .int .i64 b] w fun e w' => e = .returned (.bool (isIn x a b)) ∧ w = w' := by
  by_cases h1 : a ≤ x
  · have hr : isIn x a b = decide (x ≤ b) := by simp [isIn, h1]
    rw [hr]
    clear hr
    go_enter Try.func71, Try.ntmps71
    go_wp2
    go_ret
    exact ⟨rfl, rfl⟩
  · have hr : isIn x a b = false := by simp [isIn, h1]
    rw [hr]
    clear hr
    go_enter Try.func71, Try.ntmps71
    go_wp2
    go_ret
    exact ⟨rfl, rfl⟩
set_option maxRecDepth 100000 in
theorem flow05_any (w : World) (x : Int) : Calls Try.prog 86 #[.int .i64 x] w fun e w' => e = .returned (.bool (isIn x (-2147483647) 2147483647)) ∧ w = w' := by
  go_enter Try.func86, Try.ntmps86
  go_wp2_with (go_at_call 71; (with_reducible refine (within05_any _ _ _ _).mono ?_); rintro e w' ⟨rfl, rfl⟩)
  go_ret
  exact ⟨rfl, rfl⟩

theorem node05_some (w : World) (n : Int) : Calls Try.prog 70 #[.int .i64 n] w (JustBool w) := (node05_any w n).mono fun _ _ ⟨a, b⟩ => ⟨_, a, b⟩
theorem within05_some (w : World) (x a b : Int) : Calls Try.prog 71 #[.int .i64 x, .int .i64 a, .int .i64 b] w (JustBool w) := (within05_any w x a b).mono fun _ _ ⟨a, b⟩ => ⟨_, a, b⟩
theorem flow05_some (w : World) (x : Int) : Calls Try.prog 86 #[.int .i64 x] w (JustBool w) := (flow05_any w x).mono fun _ _ ⟨a, b⟩ => ⟨_, a, b⟩
theorem name05_some (w : World) (s : ByteArray) (hs : s.size ≤ maxLen) : Calls Try.prog 85 #[.string s] w (JustBool w) := (refName_any w s hs).mono fun _ _ ⟨a, b⟩ => ⟨_, a, b⟩

/-- == at the struct of an extreme value, at that of a register: some bool -/
theorem ext_eql (h h' : Bool) (v o a v' o' a' : Int) : ∃ b : Bool, ∀ W : World, Sem.run Try.prog (binOp .eql 118 (.agg #[.bool h, .int .i64 v, .int .i64 o, .int .i64 a]) (.agg #[.bool h', .int .i64 v', .int .i64 o', .int .i64 a'])) W = .ok (.bool b) W := by
  refine ⟨h == h' && (v == v' && (o == o' && a == a')), fun W => ?_⟩
  rw [run_eql_struct]
  by_cases h0 : h = h' <;> by_cases h1 : v = v' <;> by_cases h2 : o = o' <;> by_cases h3 : a = a' <;> simp [go_sem, run_equalIn_agg, run_equalIn_int, h0, h1, h2, h3]

set_option maxRecDepth 100000 in
theorem ext05_some (w : World) (h : Bool) (v o a : Int) : Calls Try.prog 87 #[.agg #[.bool h, .int .i64 v, .int .i64 o, .int .i64 a]] w (SomeBool w) := by
  cases h
  · obtain ⟨b, hb⟩ := ext_eql false false v o a 0 0 0
    go_enter Try.func87, Try.ntmps87
    go_wp2_with fail
    go_ret
    exact ⟨b, rfl, by go_grown⟩
  · go_enter Try.func87, Try.ntmps87
    go_wp2_with fail
    refine (flow05_some _ _).mono ?_
    rintro e w' ⟨b1, rfl, rfl⟩
    cases b1
    · go_wp2_with fail
      go_ret
      exact ⟨_, rfl, by go_grown⟩
    go_wp2_with fail
    refine (node05_some _ _).mono ?_
    rintro e w' ⟨b2, rfl, rfl⟩
    cases b2
    · go_wp2_with fail
      go_ret
      exact ⟨_, rfl, by go_grown⟩
    go_wp2_with fail
    refine (within05_some _ _ _ _).mono ?_
    rintro e w' ⟨b3, rfl, rfl⟩
    go_wp2_with fail
    go_ret
    exact ⟨_, rfl, by go_grown⟩

theorem reg_neq (v w' f v2 w2 f2 : Int) : ∃ b : Bool, ∀ W : World, Sem.run Try.prog (binOp .neq 116 (.agg #[.int .i64 v, .int .i64 w', .int .i64 f]) (.agg #[.int .i64 v2, .int .i64 w2, .int .i64 f2])) W = .ok (.bool b) W := by
  refine ⟨!(v == v2 && (w' == w2 && f == f2)), fun W => ?_⟩
  rw [run_neq_struct]
  by_cases h1 : v = v2 <;> by_cases h2 : w' = w2 <;> by_cases h3 : f = f2 <;> simp [go_sem, run_equalIn_agg, run_equalIn_int, h1, h2, h3]
theorem agg_Chan : Agg Try.prog 114 6 := ⟨_, Try.underlying114, rfl, by kernel_rfl⟩
theorem agg_Reg : Agg Try.prog 116 3 := ⟨_, Try.underlying116, rfl, by kernel_rfl⟩
theorem agg_Ext : Agg Try.prog 118 4 := ⟨_, Try.underlying118, rfl, by kernel_rfl⟩

theorem item_mid {w w9 : World} {t2 : TypeId} {ds : Array Value} {c0 c1 c2 c3 c4 c5 c6 c7 c8 c9 c10 c11 c12 c13 c14 c15 c16 c17 c18 : Value} {t : TypeId}
    (hb : Below ((w.alloc (.cells #[c0, c1, c2, c3, c4, c5, c6, c7, c8, c9, c10, c11, c12, c13, c14, c15, c16, c17, c18] t)).alloc (.cells ds t2)).heap.size ((w.alloc (.cells #[c0, c1, c2, c3, c4, c5, c6, c7, c8, c9, c10, c11, c12, c13, c14, c15, c16, c17, c18] t)).alloc (.cells ds t2)) w9) :
    Below w.heap.size w w9 ∧ w9.cell? ⟨w.heap.size, 15, none⟩ = some c15 ∧ w9.cell? ⟨w.heap.size, 16, none⟩ = some c16 ∧ w9.cell? ⟨w.heap.size, 17, none⟩ = some c17 ∧ w9.cell? ⟨w.heap.size, 18, none⟩ = some c18 := by
  have h := ((Blk.new w t #[c0, c1, c2, c3, c4, c5, c6, c7, c8, c9, c10, c11, c12, c13, c14, c15, c16, c17, c18]).alloc (.cells ds t2)).below hb (by simp; omega)
  exact ⟨((((Below.refl _ w).alloc (Nat.le_refl _) _).alloc (by simp) _).trans (hb.mono (by simp; omega))), h.cell 15, h.cell 16, h.cell 17, h.cell 18⟩

set_option maxRecDepth 100000 in
set_option maxHeartbeats 4000000 in
theorem item05_some (w : World) (nm : ByteArray) (hnm : nm.size ≤ maxLen) (ep mk : Int) (al : Bool) (kd sc ve wt fl : Int) (hr : Bool) (rs : Int) (h1 : Bool) (v1 o1 a1 : Int) (h2 : Bool) (v2 o2 a2 : Int) :
    Calls Try.prog 72 #[.agg #[.string nm, .int .i64 ep, .int .i64 mk, .bool al, .int .i64 kd, .int .i64 sc, .int .i64 ve, .int .i64 wt, .int .i64 fl, .bool hr, .int .i64 rs, .bool h1, .int .i64 v1, .int .i64 o1, .int .i64 a1, .bool h2, .int .i64 v2, .int .i64 o2, .int .i64 a2]] w (SomeBool w) := by
  obtain ⟨bR, hR⟩ := reg_neq ve wt fl 0 0 0
  obtain ⟨bE1, hE1⟩ := ext_eql h1 false v1 o1 a1 0 0 0
  obtain ⟨bE2, hE2⟩ := ext_eql h2 false v2 o2 a2 0 0 0
  replace hnm := Lib.hid hnm
  go_enter Try.func72, Try.ntmps72
  repeat' (go_wp2_with fail; first
    | (go_ret; exact ⟨_, rfl, by go_grown⟩)
    | (go_at_call 85; (with_reducible refine (name05_some _ _ hnm.out).mono ?_); rintro e w' ⟨b, rfl, rfl⟩; cases b)
    | (go_at_call 71; (with_reducible refine (within05_some _ _ _ _).mono ?_); rintro e w' ⟨b, rfl, rfl⟩; cases b)
    | (go_at_call 70; (with_reducible refine (node05_some _ _).mono ?_); rintro e w' ⟨b, rfl, rfl⟩; cases b)
    | (go_at_call 86; (with_reducible refine (flow05_some _ _).mono ?_); rintro e w' ⟨b, rfl, rfl⟩; cases b)
    | (go_at_call 87; (with_reducible refine (ext05_some _ h1 _ _ _).mono ?_); rintro e w9 ⟨b, rfl, hb⟩; obtain ⟨hBw, k0, k1, k2, k3⟩ := item_mid hb; have hBw := Lib.hid hBw; clear hb; cases b)
    | (go_at_call 87; (with_reducible refine (ext05_some _ h2 _ _ _).mono ?_); rintro e w10 ⟨b, rfl, hb⟩; have hB2 := hBw.out.trans (hb.mono hBw.out.size); clear hb hBw)
    | (go_ret; exact ⟨_, rfl, hBw.out⟩)
    | (go_ret; exact ⟨_, rfl, hB2⟩))

end Go.Proofs.Ytkbcnapfcojekaa
