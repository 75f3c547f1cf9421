/-
  Audit: the chapter's example.
-/
import Derived.Test.YtajokeimipllcaaUc
import Derived.Test.YtajokeimipllcaaUd
import Derived.Test.YtajokeimipllcaaDj
set_option linter.unusedSimpArgs false
set_option linter.unusedVariables false
namespace Go.Proofs.Ytajokeimipllcaa
open Go.Dl
set_option maxRecDepth 100000
set_option maxHeartbeats 2000000
attribute [local irreducible] DW DOp Weak CallM CallC CallO Later
attribute [local push_cast] noLoc retL RetL resV res1 parts part1 vleT pleL vleL Go.Dl.isL fle rnOf List.mem_cons List.not_mem_nil or_false forall_eq false_implies implies_true
def mS : ByteArray := ⟨#[109]⟩
def exO : List Otc := [⟨0, []⟩, ⟨0, [⟨0, 2, 1, noS, 1⟩, ⟨2, 5, 0, mS, 1⟩]⟩]
def exP : List Plc := [((0, -1), noT), ((1, -1), noT), ((1, 0), ⟨0, 2, 1, noS, 1⟩), ((1, 1), ⟨2, 5, 0, mS, 1⟩)]
def exR : List (List F) := exO.map encOu
def stR : List (List F) := [[eI 1, eI 0, eI 1, eS noS, eI 0, eI 0], [eI 6, eI 0, eI 0, eS noS, eI 0, eI 0]]
theorem exI (M : Nat) : IterC Try.prog 15 [.rd [.l 2 exR]] (elL exP gPl) M := places_i exO (by decide) (fun o ho => by
  rcases List.mem_cons.1 ho with rfl | ho
  · decide
  · rcases List.mem_cons.1 ho with rfl | ho
    · decide
    · cases ho) M
def oR (k : Nat) : List Fnd := [⟨5, 1, 0⟩, ⟨1, 1, 1⟩].take (k - 2)
def wR (k : Nat) : List (List F) := if k = 0 then [] else [[eI 0, eI 1, eI 1]]
theorem q0 : wR 0 = [] := rfl
theorem q1 : wR 1 = [[eI 0, eI 1, eI 1]] := rfl
theorem q2 : wR 2 = [[eI 0, eI 1, eI 1]] := rfl
theorem q3 : wR 3 = [[eI 0, eI 1, eI 1]] := rfl
theorem q4 : wR 4 = [[eI 0, eI 1, eI 1]] := rfl
theorem p0 : oR 0 = [] := rfl
theorem p1 : oR 1 = [] := rfl
theorem p2 : oR 2 = [] := rfl
theorem p3 : oR 3 = [⟨5, 1, 0⟩] := rfl
theorem p4 : oR 4 = [⟨5, 1, 0⟩, ⟨1, 1, 1⟩] := rfl
attribute [simp] encFn q0 q1 q2 q3 q4 p0 p1 p2 p3 p4
attribute [push_cast] q0 q1 q2 q3 q4 p0 p1 p2 p3 p4
theorem eq_Place : EqOk Try.prog 55 [some (.int .i64), some (.int .i64)] := eqOk_of (ks := [.int .i64, .int .i64]) 3 (by decide) (by kernel_rfl) (by kernel_rfl) (by kernel_rfl)
theorem eq_Fnd : EqOk Try.prog 31 [some (.int .i64), some (.int .i64), some (.int .i64)] := eqOk_of (ks := [.int .i64, .int .i64, .int .i64]) 3 (by decide) (by kernel_rfl) (by kernel_rfl) (by kernel_rfl)
abbrev aAr (w out : List (List F)) : RL := [(1, mtag 45 1 false false, 2, []), (2, mtag 46 2 true false, 3, w), (3, mtag 46 2 true false, 3, []), (4, mtag 47 2 true false, 3, []), (5, mtag 48 2 true false, 3, []), (6, 31, 3, out)]
theorem check_c : CallC Try.prog 10 [gI 2, .c (.f (.l 6 stR)), .c (.f (.l 2 exR))] (gFn [⟨5, 1, 0⟩, ⟨1, 1, 1⟩]) := by
  have eqp := eq_Place
  have r1 : exR.length = 2 := rfl
  have r2 : exR.take 2 = exR := rfl
  have r3 : exR.getD 0 [] = [eI 0, .l 5 []] := rfl
  have r4 : exR.getD 1 [] = [eI 0, .l 5 [[eI 0, eI 2, eI 1, eS noS, eI 1], [eI 2, eI 5, eI 0, eS mS, eI 1]]] := rfl
  have r5 : stR.length = 2 := rfl
  have r6 : stR.getD 0 [] = [eI 1, eI 0, eI 1, eS noS, eI 0, eI 0] := rfl
  have r7 : stR.getD 1 [] = [eI 6, eI 0, eI 0, eS noS, eI 0, eI 0] := rfl
  have g0 : gPl (exP[0]'(by decide)) = [.agg [.f (eI 0), .f (eI (-1))], vTl 0 0 0 noS 0] := rfl
  have g1 : gPl (exP[1]'(by decide)) = [.agg [.f (eI 1), .f (eI (-1))], vTl 0 0 0 noS 0] := rfl
  have g2 : gPl (exP[2]'(by decide)) = [.agg [.f (eI 1), .f (eI 0)], vTl 0 2 1 noS 1] := rfl
  have g3 : gPl (exP[3]'(by decide)) = [.agg [.f (eI 1), .f (eI 1)], vTl 2 5 0 mS 1] := rfl
  have pl : exP.length = 4 := rfl
  have hpl : CallC Try.prog 11 [.c (.f (.l 2 exR))] (.clo 15 [] [.rd [.l 2 exR]]) := places_c exO
  have hr2 : CallM Try.prog 13 [.loc 0 0, vTl 2 5 0 mS 1] (bAu 2) (aAr [[eI 0, eI 1, eI 1]] [[eI 5, eI 1, eI 0]]) (gI 1) (bAu 2) (aAr [[eI 0, eI 1, eI 1]] [[eI 5, eI 1, eI 0]]) := auRule2_m mS [[eI 0, eI 1, eI 1]] [⟨5, 1, 0⟩]
  refine enx [.tmp 6] Try.func10 fun X w0 => ?_
  repeat' (first | (refine spl ?_ ?_ <;> (intro hb; refine ne ?_)) | (refine kont hR ?_; clear hR) | refine s1 ?_ | exact True.intro | (exact absurd trivial hb) | (exact False.elim hb) | (refine dop_mkMap rfl hT tt45 rfl tt3 tt3 (by decide) rfl rfl ?_; simp only [push_cast, seval, *]) | (refine dop_mkMap rfl hT tt46 rfl tt62 tt3 (by decide) rfl rfl ?_; simp only [push_cast, seval, *]) | (refine dop_mkMap rfl hT tt47 rfl tt62 tt2 (by decide) rfl rfl ?_; simp only [push_cast, seval, *]) | (refine dop_mkMap rfl hT tt48 rfl tt66 tt2 (by decide) rfl rfl ?_; simp only [push_cast, seval, *]) | refine cal (hpl) ?_ | (with_reducible refine dw_scope rfl ?_) | (with_reducible refine dw_label ?_) | (dsimp only [noGo]) | (first | (refine ra_n (by assumption) ?_; intro XX I0 w2 RQ hRn hRr hRe) | refine rq_r (by assumption) ?_ | refine rq_e (by assumption) ?_) | (have hgd : k < 4 := hkk; clear hgd; (rcases (show k = 0 ∨ k = 1 ∨ k = 2 ∨ k = 3 by omega) with rfl | rfl | rfl | rfl)) | (refine dw_weak (weak_nilB 21 6 90 31 3 (by rfl) (by rfl) (by rfl)) ?_; refine dw_rangeE (ι := Nat) [(4, .loc 4 0), (5, .loc 5 0), (7, .loc 7 0), (30, .clo 15 [] [.rd [.l 2 exR]])] (fun k _ => [(4, 42, [.f (.l 6 stR)]), (5, 23, [.f (.l 2 exR)]), (7, 44, [.p 21 0]), (21, 50, [.f (eI 2), .o 15, .o 16, .o 17, .o 18, .o 19, .o 90])]) (fun k x => [(15, 15, mtag 45 1 false false, 2, []), (16, 16, mtag 46 2 true false, 3, wR k), (17, 17, mtag 46 2 true false, 3, []), (18, 18, mtag 47 2 true false, 3, []), (19, 19, mtag 48 2 true false, 3, []), (90, x, 31, 3, (oR k).map encFn)]) (fun _ _ => True) 90 [4, 5, 7, 21] (.inl rfl) (by (refine weak_ofA rfl ?_ ?_ ?_ <;> simp); done) ?_ (by rfl) (by rfl) (by rfl) (by rfl) (by rfl) (exI _) (fun _ => by rfl) (by decide) (fun k x hkk hqx XX I0 Gr lr w1 hG RA hRA => ?_) (fun x hqx => ?_)) | refine cM [(0, 21)] [(1, 15), (2, 16), (3, 17), (4, 18), (5, 19), (6, 90)] (auStep1_m []) ?_ | refine cM [(0, 21)] [(1, 15), (2, 16), (3, 17), (4, 18), (5, 19), (6, 90)] (auStep2_m [[eI 0, eI 1, eI 1]] []) ?_ | refine cM [(0, 21)] [(1, 15), (2, 16), (3, 17), (4, 18), (5, 19), (6, 90)] (auRule1_m [[eI 0, eI 1, eI 1]] []) ?_ | refine cM [(0, 21)] [(1, 15), (2, 16), (3, 17), (4, 18), (5, 19), (6, 90)] (hr2) ?_ | refine rtl 6 [] ?_ | refine lat ?_ | (refine dw_any rfl ?_; (refine any_firstR 5 (by decide +kernel) hT (by decide) rfl rfl rfl (by decide +kernel) (by decide +kernel) (by decide +kernel) ?_; simp only [push_cast, seval, *]); (refine any_firstR 6 (by decide +kernel) hT (by decide) rfl rfl rfl (by decide +kernel) (by decide +kernel) (by decide +kernel) ?_; simp only [push_cast, seval, *]); (refine any_firstR 8 (by decide +kernel) hT (by decide) rfl rfl rfl (by decide +kernel) (by decide +kernel) (by decide +kernel) ?_; simp only [push_cast, seval, *]); (refine any_ldR 1 true (by decide +kernel) hT (by decide) rfl (by decide +kernel) ?_; simp only [push_cast, seval, *]; simp only [scl, sclC, List.all_cons, List.all_nil, Bool.and_self, Option.some.injEq, exists_eq_left', true_and, implies_true, forall_const, push_cast, seval]); (refine any_firstR 2 (by decide +kernel) hT (by decide) rfl rfl rfl (by decide +kernel) (by decide +kernel) (by decide +kernel) ?_; simp only [push_cast, seval, *]); (refine any_firstR 3 (by decide +kernel) hT (by decide) rfl rfl rfl (by decide +kernel) (by decide +kernel) (by decide +kernel) ?_; simp only [push_cast, seval, *]); (refine any_ldR 4 true (by decide +kernel) hT (by decide) rfl (by decide +kernel) ?_; simp only [push_cast, seval, *]; simp only [scl, sclC, List.all_cons, List.all_nil, Bool.and_self, Option.some.injEq, exists_eq_left', true_and, implies_true, forall_const, push_cast, seval]); (refine any_ldR 7 true (by decide +kernel) hT (by decide) rfl (by decide +kernel) ?_; simp only [push_cast, seval, *]; simp only [scl, sclC, List.all_cons, List.all_nil, Bool.and_self, Option.some.injEq, exists_eq_left', true_and, implies_true, forall_const, push_cast, seval]); (refine any_ldR 9 true (by decide +kernel) hT (by decide) rfl (by decide +kernel) ?_; simp only [push_cast, seval, *]; simp only [scl, sclC, List.all_cons, List.all_nil, Bool.and_self, Option.some.injEq, exists_eq_left', true_and, implies_true, forall_const, push_cast, seval]); repeat' (first | (with_reducible refine And.intro ?_ ?_) | (refine any_firstR 13 (by decide +kernel) hT (by decide) rfl rfl rfl (by decide +kernel) (by decide +kernel) (by decide +kernel) ?_; simp only [push_cast, seval, *]) | (refine any_firstR 14 (by decide +kernel) hT (by decide) rfl rfl rfl (by decide +kernel) (by decide +kernel) (by decide +kernel) ?_; simp only [push_cast, seval, *]) | (refine any_all [0, 10] hT (by decide) (by decide +kernel) (by decide) ?_; simp only [allA]; simp only [push_cast, seval, *]) | (refine any_all [0, 11] hT (by decide) (by decide +kernel) (by decide) ?_; simp only [allA]; simp only [push_cast, seval, *]) | (refine any_all [0, 12] hT (by decide) (by decide +kernel) (by decide) ?_; simp only [allA]; simp only [push_cast, seval, *]) | (refine any_all [10] hT (by decide) (by decide +kernel) (by decide) ?_; simp only [allA]; simp only [push_cast, seval, *]) | (refine any_all [11] hT (by decide) (by decide +kernel) (by decide) ?_; simp only [allA]; simp only [push_cast, seval, *]) | (refine any_all [12] hT (by decide) (by decide +kernel) (by decide) ?_; simp only [allA]; simp only [push_cast, seval, *]) | (refine any_all [0] hT (by decide) (by decide +kernel) (by decide) ?_; simp only [allA]; simp only [push_cast, seval, *]) | (refine any_all [15] hT (by decide) (by decide +kernel) (by decide) ?_; simp only [allA]; simp only [push_cast, seval, *]) | (refine any_done (by decide +kernel) ?_))) | (rw [if_pos (rfl : 1 = 1)]) | (unfold maxLen; omega) | (refine rq_n (by assumption) (90) ?_ ?_; (focus ((refine weak_ofA rfl ?_ ?_ ?_ <;> simp); done))) | (refine rq_n (by assumption) (99) ?_ ?_; (focus ((refine weak_ofA rfl ?_ ?_ ?_ <;> simp); done))) | (refine s2 ?_; try with_reducible intro R hR) | fail)
end Go.Proofs.Ytajokeimipllcaa
