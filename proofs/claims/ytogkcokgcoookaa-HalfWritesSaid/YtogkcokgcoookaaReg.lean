/-
  Layer 9 (reg): the document's Fit.
-/
import Derived.Test.YtogkcokgcoookaaRows
import Derived.Test.YtogkcokgcoookaaNum
import Derived.BigGuardPart
namespace Go.Proofs.Ytogkcokgcoookaa
open Go.ChangeShapes Go.WideShapes Go.ChangeAt Go.RowKit Go.Shelf Go.Ed

theorem agg_Reg : Agg Try.prog 29 3 := ⟨_, Try.underlying29, rfl, by kernel_rfl⟩
/-- a register is one of the edge between id and peer -/
def regFit (ver wt fl id peer : Int) : Bool := isNode id && isNode peer && !(id == peer) && ((ver == 0 && wt == 0 && fl == 0) || (decide (1 ≤ ver) && decide (ver ≤ 1099511627776) && (wt == id || wt == peer) && decide (-2147483647 ≤ fl) && decide (fl ≤ 2147483647)))

set_option maxRecDepth 100000 in
theorem node09_any (w : World) (n : Int) : Calls Try.prog 42 #[.int .i64 n] w fun e w' => e = .returned (.bool (isNode n)) ∧ w = w' := by
  by_cases h1 : 0 ≤ n
  · have hr : isNode n = decide (n < 16) := by simp [isNode, h1]
    rw [hr]
    clear hr
    go_enter Try.func42, Try.ntmps42
    go_wp2
    go_ret
    exact ⟨rfl, rfl⟩
  · have hr : isNode n = false := by simp [isNode, h1]
    rw [hr]
    clear hr
    go_enter Try.func42, Try.ntmps42
    go_wp2
    go_ret
    exact ⟨rfl, rfl⟩

theorem reg_eql (v w' f v2 w2 f2 : Int) (W : World) : Sem.run Try.prog (binOp .eql 29 (.agg #[.int .i64 v, .int .i64 w', .int .i64 f]) (.agg #[.int .i64 v2, .int .i64 w2, .int .i64 f2])) W = .ok (.bool (v == v2 && (w' == w2 && f == f2))) W := by
  rw [run_eql_struct]
  by_cases h1 : v = v2 <;> by_cases h2 : w' = w2 <;> by_cases h3 : f = f2 <;> simp [go_sem, run_equalIn_agg, run_equalIn_int, h1, h2, h3]

set_option maxRecDepth 100000 in
set_option maxHeartbeats 4000000 in
theorem reg09_any (w : World) (ver wt fl id peer : Int) : Calls Try.prog 13 #[.agg #[.int .i64 ver, .int .i64 wt, .int .i64 fl], .int .i64 id, .int .i64 peer] w fun e w' => e = .returned (.bool (regFit ver wt fl id peer)) ∧ Below w.heap.size w w' := by
  obtain ⟨r, hr⟩ : ∃ r, regFit ver wt fl id peer = r := ⟨_, rfl⟩
  rw [hr]
  obtain ⟨z, hz⟩ : ∃ z : Bool, (ver == 0 && (wt == 0 && fl == 0)) = z := ⟨_, rfl⟩
  have hR := fun W => reg_eql ver wt fl 0 0 0 W
  rw [hz] at hR
  have e : r = (isNode id && isNode peer && !(id == peer) && (z || (decide (1 ≤ ver) && decide (ver ≤ 1099511627776) && (wt == id || wt == peer) && decide (-2147483647 ≤ fl) && decide (fl ≤ 2147483647)))) := by
    rw [← hr, ← hz, regFit, Bool.and_assoc (ver == 0)]
  replace e := Lib.hid e
  clear hz hr
  go_enter Try.func13, Try.ntmps13
  repeat' (go_wp2_with fail; first
    | (go_at_call 42; (with_reducible refine (node09_any _ _).mono ?_); rintro e w' ⟨rfl, rfl⟩)
    | (go_ret; refine ⟨congrArg (fun b => Ending.returned (.bool b)) (?_ : _ = r), by go_grown⟩; rw [e.out]; clear e hR; refine Eq.symm ?_; first | (simp only [*, Bool.false_and, Bool.and_false, Bool.true_and]; done) | (simp [*]; done) | (simp [*]; intros; omega) | (simp [*])))

end Go.Proofs.Ytogkcokgcoookaa
