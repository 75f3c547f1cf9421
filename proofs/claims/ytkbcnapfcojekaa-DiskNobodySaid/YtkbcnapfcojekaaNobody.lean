/-
  Layer 7: the statement DiskNobody: a disk that was not made has no power. Every input; no condition.
-/
import Derived.Test.YtkbcnapfcojekaaDiskD
import Derived.Test.YtkbcnapfcojekaaLift
import Derived.Lib.SmallJoins
namespace Go.Proofs.Ytkbcnapfcojekaa
open Go.ChangeShapes Go.WideShapes Go.ChangeAt Go.RowKit Go.Ed Go.Joins

namespace nobody
theorem own : ownKnob Try.prog.godebug = none := by kernel_rfl
theorem laidOut : laidOutB Try.prog = true := by kernel_rfl

set_option maxRecDepth 100000 in
theorem walk_nil (k n : Int) (A : Option Addr) (l c : Nat) (w : World) :
    Calls Try.prog 4 #[.bool false, .agg #[.int .i64 k, .int .i64 n, .slice A l c]] w fun e w' => e = .returned (.bool true) ∧ Below w.heap.size w w' := by
  go_enter Try.func4, Try.ntmps4
  go_wp2_with (first
    | (go_at_call 13; (with_reducible refine (cut_nil _ _).mono ?_); rintro e w' ⟨rfl, rfl⟩)
    | (go_at_call 17; (with_reducible refine (on_nil _).mono ?_); rintro e w' ⟨rfl, rfl⟩)
    | (go_at_call 20; (with_reducible refine (read_nil _ _).mono ?_); rintro e w' ⟨rfl, rfl⟩)
    | (go_at_call 15; (with_reducible refine (write_dead_nil _ _ _).mono ?_); rintro e w' ⟨rfl, rfl⟩)
    | (go_at_call 16; (with_reducible refine (dead_nil _).mono ?_); rintro e w' ⟨rfl, rfl⟩)
    | (go_at_call 21; (with_reducible refine (sectors_nil _).mono ?_); rintro e w' ⟨rfl, rfl⟩)
    | (go_at_call 18; (with_reducible refine (writes_nil _).mono ?_); rintro e w' ⟨rfl, rfl⟩)
    | (go_at_call 14; (with_reducible refine (image_nil _).mono ?_); rintro e w' ⟨rfl, rfl⟩)
    | (go_at_call 19; (with_reducible refine (awake07 _).mono ?_); rintro e w9 ⟨rfl, hb9⟩))
  go_ret
  exact ⟨rfl, ((Below.refl _ _).alloc (Nat.le_refl _) _).trans (hb9.mono (by simp))⟩

set_option maxRecDepth 100000 in
theorem walk_zero (k n : Int) (A : Option Addr) (l c : Nat) (w : World) :
    Calls Try.prog 4 #[.bool true, .agg #[.int .i64 k, .int .i64 n, .slice A l c]] w fun e w' => e = .returned (.bool true) ∧ Below w.heap.size w w' := by
  go_enter Try.func4, Try.ntmps4
  go_wp2_with (first
    | (go_at_call 13; (with_reducible refine (cut_zero _ _ _ ?h0).mono ?_); (case h0 => simp [go_sem]); rintro e w' ⟨rfl, rfl⟩)
    | (go_at_call 17; (with_reducible refine (on_zero _ _ ?h0).mono ?_); (case h0 => simp [go_sem]); rintro e w' ⟨rfl, rfl⟩)
    | (go_at_call 20; (with_reducible refine (read_zero _ _ _ ?h0).mono ?_); (case h0 => simp [go_sem]); rintro e w' ⟨rfl, rfl⟩)
    | (go_at_call 15; (with_reducible refine (write_dead_zero _ _ _ _ ?h0).mono ?_); (case h0 => simp [go_sem]); rintro e w' ⟨rfl, rfl⟩)
    | (go_at_call 16; (with_reducible refine (dead_zero _ _ ?h0).mono ?_); (case h0 => simp [go_sem]); rintro e w' ⟨rfl, rfl⟩)
    | (go_at_call 21; (with_reducible refine (sectors_zero _ _ ?h0).mono ?_); (case h0 => simp [go_sem]); rintro e w' ⟨rfl, rfl⟩)
    | (go_at_call 18; (with_reducible refine (writes_zero _ _ ?h0).mono ?_); (case h0 => simp [go_sem]); rintro e w' ⟨rfl, rfl⟩)
    | (go_at_call 14; (with_reducible refine (image_zero _ _ ?h0).mono ?_); (case h0 => simp [go_sem]); rintro e w' ⟨rfl, rfl⟩)
    | (go_at_call 19; (with_reducible refine (awake07 _).mono ?_); rintro e w9 ⟨rfl, hb9⟩))
  go_ret
  exact ⟨rfl, (((Below.refl _ _).alloc (Nat.le_refl _) _).alloc (by simp) _).trans (hb9.mono (by simp; omega))⟩

theorem walk (z : Bool) (k n : Int) (A : Option Addr) (l c : Nat) (w : World) :
    Calls Try.prog 4 #[.bool z, .agg #[.int .i64 k, .int .i64 n, .slice A l c]] w fun e w' => e = .returned (.bool true) ∧ Below w.heap.size w w' := by
  cases z
  · exact walk_nil k n A l c w
  · exact walk_zero k n A l c w

set_option maxRecDepth 100000 in
theorem lifted (os : Os) (started : os.Started) (H : Type) (enc : TypeId × Value → H) :
    ReturnsInHanded {} Try.checked os 4 .any (Rows.diskNobodySpec.pre6 enc Try.prog Try.f4 Rows.diskNobodyRow.domain false) (Rows.diskNobodySpec.post enc Try.prog Try.f4 false true false false) := by
  refine lift_law (C := Try.checked) own started (by kernel_rfl) Try.func4
    (ChangeSpec.witness6 (enc := enc) (C := Try.checked) false ⟨#[], #[.bool false, .agg #[.int .i64 0, .int .i64 0, .slice none 0 0]], []⟩ 8 (by kernel_rfl) (by kernel_rfl) (by kernel_rfl) (by kernel_rfl))
    laidOut (by kernel_rfl) rfl Try.underlying4 rfl (fun ds h => by match ds, h with | [d1, d2], _ => rfl) ?_
  intro W base args ds p hval0 hA0 _
  have hval : ∀ (j : Nat) t v, Try.f4.params[j]? = some t → args[j]? = some v → Value.okWide Try.prog W .any base t v := hval0
  have hA : DataW.TrodAll enc Try.prog W 0 (fun _ => true) true Try.f4.params.toList args.toList ds p := hA0
  rw [Try.params4] at hA hval
  clear hA0 hval0
  obtain ⟨v0, vs0, d0, ds0, p0, q0, hargs, rfl, rfl, h0, r0⟩ := trodAll_cons hA
  obtain ⟨v1, vs1, d1, ds1, p1, q1, rfl, rfl, rfl, h1, r1⟩ := trodAll_cons r0
  obtain ⟨rfl, rfl, rfl⟩ := trodAll_nil r1
  obtain rfl := args_of_toList hargs
  obtain ⟨z, rfl, _, _⟩ := open_bool Try.underlying4 (hval 0 4 v0 rfl rfl) h0
  obtain ⟨c0, c1, c2, y0, y1, y2, m, rfl, _, _, hy0, hy1, hy2⟩ := open_agg3 Try.underlying38 (by kernel_rfl) (by kernel_rfl) (hval 1 38 v1 rfl rfl) h1
  obtain ⟨x0, e0, _, _⟩ := DataW.trod_int Try.underlying3 hy0
  obtain ⟨x1, e1, _, _⟩ := DataW.trod_int Try.underlying3 hy1
  simp at e0 e1
  subst e0 e1
  obtain ⟨A, l, c, rfl⟩ : ∃ A l c, c2 = .slice A l c := by
    have := slice_form Try.underlying27 hy2
    simpa using this
  exact walk z x0 x1 A l c W

theorem proved : Rows.DiskNobodySaid :=
  OpenClaim.holds_of_wide 4 Try.f4 rfl rfl rfl rfl rfl rfl rfl ⟨rfl, rfl, rfl, rfl, rfl⟩ rfl rfl rfl rfl rfl (by kernel_rfl) Try.func4 (by kernel_rfl)
    (of_decide_eq_true (by kernel_rfl)) (by unfold Func.isWrapper; first | (rw [if_pos (by decide +kernel)]; kernel_rfl) | (rw [if_neg (by decide +kernel)]; exact ⟨rfl, rfl⟩))
    (fun os started H enc _ => lifted os started H enc)
#print axioms proved
end nobody
end Go.Proofs.Ytkbcnapfcojekaa
