/-
  Audit: the auditor's methods, as far as the chapter's example goes.
-/
import Derived.Test.YtajokeimipllcaaUb
import Derived.Test.YtajokeimipllcaaEq
set_option linter.unusedSimpArgs false
set_option linter.unusedVariables false
namespace Go.Dl
attribute [push_cast] KeyB
theorem allS_n : (([] : List (Option Bas)).all fun x => x.isSome) = true := rfl
theorem allS_c {b : Bas} {l : List (Option Bas)} : ((some b :: l).all fun x => x.isSome) = (l.all fun x => x.isSome) := rfl
attribute [push_cast] allS_n allS_c
end Go.Dl
namespace Go.Proofs.Ytajokeimipllcaa
open Go.Dl
set_option maxRecDepth 100000
set_option maxHeartbeats 2000000
attribute [local irreducible] DW DOp Weak CallM CallC CallO Later
attribute [local push_cast] noLoc retL RetL resV res1 parts part1 vleT pleL vleL Go.Dl.isL fle rnOf List.mem_cons List.not_mem_nil or_false forall_eq false_implies implies_true
abbrev gS (s : ByteArray) : V := .c (.f (eS s))
abbrev bAu (n : Int) : BL := [(0, 50, [.f (eI n), .o 1, .o 2, .o 3, .o 4, .o 5, .o 6])]
abbrev aAu (w : List (List F)) (out : List Fnd) : RL := [(1, mtag 45 1 false false, 2, []), (2, mtag 46 2 true false, 3, w), (3, mtag 46 2 true false, 3, []), (4, mtag 47 2 true false, 3, []), (5, mtag 48 2 true false, 3, []), (6, 31, 3, out.map encFn)]
theorem auNode_m (n v : Int) (w : List (List F)) (out : List Fnd) : CallM Try.prog 16 [.loc 0 0, gI v] (bAu n) (aAu w out) (gB (decide (0 ≤ v) && decide (v < n))) (bAu n) (aAu w out) := by
  refine emx [.tmp 4] Try.func16 fun XX X G w0 => ?_
  repeat' (first | (refine spl ?_ ?_ <;> (intro hb; refine ne ?_)) | (refine kont hR ?_; clear hR) | refine s1 ?_ | exact True.intro | exact fmx [(1, 1), (2, 2), (3, 3), (4, 4), (5, 5), (6, 6)] | (refine s2 ?_; try with_reducible intro R hR) | fail)
  all_goals skip
theorem auNode_t (n v : Int) (w : List (List F)) (out : List Fnd) (h : 0 ≤ v ∧ v < n) : CallM Try.prog 16 [.loc 0 0, gI v] (bAu n) (aAu w out) (gB true) (bAu n) (aAu w out) := by
  have := auNode_m n v w out
  rwa [show (decide (0 ≤ v) && decide (v < n)) = true by simp [h.1, h.2]] at this
theorem auNode_f (n v : Int) (w : List (List F)) (out : List Fnd) (h : n ≤ v) : CallM Try.prog 16 [.loc 0 0, gI v] (bAu n) (aAu w out) (gB false) (bAu n) (aAu w out) := by
  have := auNode_m n v w out
  rwa [show (decide (0 ≤ v) && decide (v < n)) = false by simp; omega] at this
theorem chkInt (b : Bool) (v : Value) (w : World) : (Instr.checkKey b 9999 3 v).run Try.prog w = .ok () w := by
  show (Instr.checkKey b (9998 + 1) _ _).run _ w = .ok () w
  rw [Instr.checkKey, Sem.run_bind, run_underlying Try.underlying3 w]
  rfl
theorem partInt (xs : Array Value) (k : Nat) (v : Value) (h : xs[k]? = some v) (w : World) : (part 3 xs k).run Try.prog w = .ok v w := by
  simp [part, isAgg, run_underlying Try.underlying3, h]
theorem keyWard : KeyOk Try.prog 62 [some (.int .i64), some (.int .i64)] := by
  intro us b w h
  have hl : us.toList.length = 2 := by have := congrArg List.length h; simpa using this
  obtain ⟨l⟩ := us
  match l, hl with
  | [x, y], _ =>
    show (Instr.checkKey b (9999 + 1) _ _).run _ w = .ok () w
    rw [Instr.checkKey, Sem.run_bind, run_underlying Try.underlying62 w]
    simp [partInt ⟨[x, y]⟩ 0 x rfl, partInt ⟨[x, y]⟩ 1 y rfl, chkInt]
abbrev vTl (n k p : Int) (nm : ByteArray) (num : Int) : V := .agg [.f (eI n), .f (eI k), .f (eI p), .f (eS nm), .f (eI num)]
theorem auShaped_m (w : List (List F)) (out : List Fnd) : CallM Try.prog 18 [.loc 0 0, gI 0, .agg [.f (eI 2), .f (eI 1), .f (eS noS), .f (eI 1)]] (bAu 2) (aAu w out) (gB true) (bAu 2) (aAu w out) := by
  have hs0 : (noS.toList == ({ data := #[] } : ByteArray).toList) = true := beq_self_eq_true _
  refine emx [.tmp 6] Try.func18 fun XX X G w0 => ?_
  repeat' (first | (refine spl ?_ ?_ <;> (intro hb; refine ne ?_)) | (refine kont hR ?_; clear hR) | refine s1 ?_ | exact True.intro | refine cM [(0, 0)] [(1, 1), (2, 2), (3, 3), (4, 4), (5, 5), (6, 6)] (auNode_t 2 1 w out (by decide)) ?_ | refine rdb [] ?_ | refine rdb [6] ?_ | exact fmx [(1, 1), (2, 2), (3, 3), (4, 4), (5, 5), (6, 6)] | (refine s2 ?_; try with_reducible intro R hR) | fail)
theorem auRule1_m (w : List (List F)) (out : List Fnd) : CallM Try.prog 13 [.loc 0 0, vTl 0 2 1 noS 1] (bAu 2) (aAu w out) (gI 5) (bAu 2) (aAu w out) := by
  have kW := keyWard
  refine emx [.tmp 4] Try.func13 fun XX X G w0 => ?_
  repeat' (first | (refine spl ?_ ?_ <;> (intro hb; refine ne ?_)) | (refine kont hR ?_; clear hR) | refine s1 ?_ | exact True.intro | refine cM [(0, 0)] [(1, 1), (2, 2), (3, 3), (4, 4), (5, 5), (6, 6)] (auNode_t 2 0 w out (by decide)) ?_ | refine cM [(0, 0)] [(1, 1), (2, 2), (3, 3), (4, 4), (5, 5), (6, 6)] (auShaped_m w out) ?_ | (exfalso; exact hb) | refine rdb [] ?_ | refine rdb [6] ?_ | exact fmx [(1, 1), (2, 2), (3, 3), (4, 4), (5, 5), (6, 6)] | (refine s2 ?_; try with_reducible intro R hR) | fail)
theorem auRule2_m (nm : ByteArray) (w : List (List F)) (out : List Fnd) : CallM Try.prog 13 [.loc 0 0, vTl 2 5 0 nm 1] (bAu 2) (aAu w out) (gI 1) (bAu 2) (aAu w out) := by
  have kW := keyWard
  refine emx [.tmp 4] Try.func13 fun XX X G w0 => ?_
  repeat' (first | (refine spl ?_ ?_ <;> (intro hb; refine ne ?_)) | (refine kont hR ?_; clear hR) | refine s1 ?_ | exact True.intro | refine cM [(0, 0)] [(1, 1), (2, 2), (3, 3), (4, 4), (5, 5), (6, 6)] (auNode_f 2 2 w out (by decide)) ?_ | refine rdb [] ?_ | refine rdb [6] ?_ | exact fmx [(1, 1), (2, 2), (3, 3), (4, 4), (5, 5), (6, 6)] | (refine s2 ?_; try with_reducible intro R hR) | fail)
abbrev vSt (k a b : Int) (nm : ByteArray) (q n : Int) : V := .agg [.f (eI k), .f (eI a), .f (eI b), .f (eS nm), .f (eI q), .f (eI n)]
theorem auStep1_m (out : List Fnd) : CallM Try.prog 12 [.loc 0 0, vSt 1 0 1 noS 0 0] (bAu 2) (aAu [] out) (.tup []) (bAu 2) (aAu [[eI 0, eI 1, eI 1]] out) := by
  have kW := keyWard
  refine emx [] Try.func12 fun XX X G w0 => ?_
  repeat' (first | (refine spl ?_ ?_ <;> (intro hb; refine ne ?_)) | (refine kont hR ?_; clear hR) | refine s1 ?_ | exact True.intro | refine cM [(0, 0)] [(1, 1), (2, 2), (3, 3), (4, 4), (5, 5), (6, 6)] (auNode_t 2 0 [] out (by decide)) ?_ | refine cM [(0, 0)] [(1, 1), (2, 2), (3, 3), (4, 4), (5, 5), (6, 6)] (auNode_t 2 1 [] out (by decide)) ?_ | refine rtl 9 [] ?_ | ((with_reducible refine dw_last_c fun R hR => ?_); refine rtl 9 [] ?_) | refine lat ?_ | (refine dop_mapNew rfl hT tt46 rfl tt62 tt3 (by decide) rfl (by rfl) (by rfl) (by rfl) (by rfl) (by rfl) (by rfl) (by rfl) (by rfl) (by rfl) (by rfl) (And.intro keyWard rfl) ?_; simp only [push_cast, seval, *]) | refine rdb [] ?_ | refine rdb [6] ?_ | exact fmx [(1, 1), (2, 2), (3, 3), (4, 4), (5, 5), (6, 6)] | (refine s2 ?_; try with_reducible intro R hR) | fail)
theorem auStep2_m (w : List (List F)) (out : List Fnd) : CallM Try.prog 12 [.loc 0 0, vSt 6 0 0 noS 0 0] (bAu 2) (aAu w out) (.tup []) (bAu 2) (aAu w out) := by
  have kW := keyWard
  refine emx [] Try.func12 fun XX X G w0 => ?_
  repeat' (first | (refine spl ?_ ?_ <;> (intro hb; refine ne ?_)) | (refine kont hR ?_; clear hR) | refine s1 ?_ | exact True.intro | refine cM [(0, 0)] [(1, 1), (2, 2), (3, 3), (4, 4), (5, 5), (6, 6)] (auNode_t 2 0 w out (by decide)) ?_ | refine rdb [] ?_ | refine rdb [6] ?_ | exact fmx [(1, 1), (2, 2), (3, 3), (4, 4), (5, 5), (6, 6)] | (refine s2 ?_; try with_reducible intro R hR) | fail)
end Go.Proofs.Ytajokeimipllcaa
