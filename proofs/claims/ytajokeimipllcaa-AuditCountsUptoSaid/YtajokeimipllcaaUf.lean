/-
  Audit: awake, and the law AuditCounts as a contract.
-/
import Derived.Test.YtajokeimipllcaaUe
set_option linter.unusedSimpArgs false
set_option linter.unusedVariables false
namespace Go.Dl
theorem nil_in {w : World} {I : Nat → Prop} {k : Nat} {x : F} {r : List F} {rs : List (List F)} {u : Value} (h : RepF w I (.l k ((x :: .s (.slice none 0 0) :: r) :: rs)) u) : RepF w I (.l k ((x :: .l 5 [] :: r) :: rs)) u := by
  cases h with
  | l us hl hn hk hc hI hcell hx =>
    refine .l us (by simpa using hl) hn (fun q hq => ?_) hc hI (fun j y hj => ?_) fun j y hj => ?_
    · rcases List.mem_cons.1 hq with rfl | hq
      · have := hk _ (List.mem_cons_self ..); simpa using this
      · exact hk q (List.mem_cons_of_mem _ hq)
    · match j with
      | 0 => exact hcell 0 x rfl
      | 1 => exact hcell 1 (.s (.slice none 0 0)) rfl
      | j + 2 => exact hcell (j + 2) y (by simpa using hj)
    · match j with
      | 0 => simp at hj; subst hj; exact hx 0 x rfl
      | 1 =>
        simp at hj; subst hj
        have h1 := hx 1 (.s (.slice none 0 0)) rfl
        generalize us 1 = v at h1
        cases h1
        exact .e
      | j + 2 => exact hx (j + 2) y (by simpa using hj)
theorem callC_arg {P : Program} {f : FuncId} {args args' : List V} {res : V} (h : CallC P f args res) (hl : args'.length = args.length) (hm : ∀ (j : Nat) x x', args[j]? = some x → args'[j]? = some x' → ∀ (w : World) (I : Nat → Prop) (u : Value), RepV w (.pure I) x' u → RepV w (.pure I) x u) : CallC P f args' res :=
  ⟨h.1, fun w us I hI hs hr => h.2 w us I hI (hl ▸ hs) fun j x u hx hu => by
    have hj : j < args'.length := by rw [hl]; exact (List.getElem?_eq_some_iff.1 hx).1
    exact hm j x _ hx (List.getElem?_eq_getElem hj) w I u (hr j _ u (List.getElem?_eq_getElem hj) hu)⟩
theorem nil_V {w : World} {E : Env} {k : Nat} {x : F} {r : List F} {rs : List (List F)} {u : Value} (h : RepV w E (.c (.f (.l k ((x :: .s (.slice none 0 0) :: r) :: rs)))) u) : RepV w E (.c (.f (.l k ((x :: .l 5 [] :: r) :: rs)))) u := by
  cases h with
  | c h => cases h with
    | f h => exact .c (.f (nil_in h))
end Go.Dl
namespace Go.Proofs.Ytajokeimipllcaa
open Go.Dl
set_option maxRecDepth 100000
set_option maxHeartbeats 2000000
attribute [local irreducible] DW DOp Weak CallM CallC CallO Later
attribute [local push_cast] noLoc retL RetL resV res1 parts part1 vleT pleL vleL Go.Dl.isL fle rnOf List.mem_cons List.not_mem_nil or_false forall_eq false_implies implies_true
theorem awake_c : CallC Try.prog 9 [] (gB true) := by
  have eqf := eq_Fnd
  have c1 : CallC Try.prog 10 [gI 2, .c (.f (.l 6 [[eI 1, eI 0, eI 1, eS noS, eI 0, eI 0], [eI 6, eI 0, eI 0, eS noS, eI 0, eI 0]])), .c (.f (.l 2 [[eI 0, .l 5 []], [eI 0, .l 5 [[eI 0, eI 2, eI 1, eS noS, eI 1], [eI 2, eI 5, eI 0, eS mS, eI 1]]]]))] (.c (.f (.l 3 [[eI 5, eI 1, eI 0], [eI 1, eI 1, eI 1]]))) := check_c
  have c2 : CallC Try.prog 5 [.c (.f (.l 3 [[eI 5, eI 1, eI 0], [eI 1, eI 1, eI 1]]))] (.c (.f (.l 1 [[eI 0], [eI 1], [eI 0], [eI 0], [eI 0], [eI 1], [eI 0], [eI 0], [eI 0]]))) := count_c [⟨5, 1, 0⟩, ⟨1, 1, 1⟩] (by decide)
  have c3 : CallC Try.prog 7 [.c (.f (.l 2 [[eI 0, .l 5 []], [eI 0, .l 5 [[eI 0, eI 2, eI 1, eS noS, eI 1], [eI 2, eI 5, eI 0, eS mS, eI 1]]]]))] (.c (.f (.l 1 [[eI 0], [eI 0], [eI 1], [eI 0], [eI 0], [eI 1], [eI 0]]))) := tally_c exO (by decide) (fun o ho => by
    rcases List.mem_cons.1 ho with rfl | ho
    · decide
    · rcases List.mem_cons.1 ho with rfl | ho
      · decide
      · cases ho)
  have d1 := callC_arg (args' := [gI 2, .c (.f (.l 6 [[eI 1, eI 0, eI 1, eS noS, eI 0, eI 0], [eI 6, eI 0, eI 0, eS noS, eI 0, eI 0]])), .c (.f (.l 2 [[eI 0, .s (.slice none 0 0)], [eI 0, .l 5 [[eI 0, eI 2, eI 1, eS noS, eI 1], [eI 2, eI 5, eI 0, eS mS, eI 1]]]]))]) c1 rfl (fun j x x' h1 h2 w I u h3 => by
    match j with
    | 0 => cases h1; cases h2; exact h3
    | 1 => cases h1; cases h2; exact h3
    | 2 => cases h1; cases h2; exact nil_V h3
    | j + 3 => simp at h1)
  have d3 := callC_arg (args' := [.c (.f (.l 2 [[eI 0, .s (.slice none 0 0)], [eI 0, .l 5 [[eI 0, eI 2, eI 1, eS noS, eI 1], [eI 2, eI 5, eI 0, eS mS, eI 1]]]]))]) c3 rfl (fun j x x' h1 h2 w I u h3 => by
    match j with
    | 0 => cases h1; cases h2; exact nil_V h3
    | j + 1 => simp at h1)
  refine enx [.tmp 0] Try.func9 fun X w0 => ?_
  repeat' (first | (refine spl ?_ ?_ <;> (intro hb; refine ne ?_)) | (refine kont hR ?_; clear hR) | refine s1 ?_ | exact True.intro | (refine dop_lits rfl hT tt42 (by rfl) (by rfl) (by rfl) (by rfl) (by rfl) (by decide) (by decide) ?_; simp only [push_cast, seval, *]) | (refine dop_lits rfl hT tt33 (by rfl) (by rfl) (by rfl) (by rfl) (by rfl) (by decide) (by decide) ?_; simp only [push_cast, seval, *]) | (refine dop_lits rfl hT tt23 (by rfl) (by rfl) (by rfl) (by rfl) (by rfl) (by decide) (by decide) ?_; simp only [push_cast, seval, *]) | refine cal (d1) ?_ | refine cal (c2) ?_ | refine cal (d3) ?_ | refine rdb [] ?_ | (refine s2 ?_; try with_reducible intro R hR) | fail)
theorem law_c (l : List Fnd) (o : List Otc) (hl : l.length < 1000000000) (ho : o.length < 1000000000) (hv : EvOk o) : CallC Try.prog 3 [gFn l, gOu o] (gB true) := by
  have e1 := ints_c (cntF l) (cntF l) (by rw [cntF_len]; decide) (by rw [cntF_len]; decide)
  have e2 := ints_c (cntT o) (cntT o) (by rw [cntT_len]; decide) (by rw [cntT_len]; decide)
  rw [show decide (cntF l = cntF l) = true by simp] at e1
  rw [show decide (cntT o = cntT o) = true by simp] at e2
  refine enx [.tmp 4] Try.func3 fun X w0 => ?_
  repeat' (first | (refine spl ?_ ?_ <;> (intro hb; refine ne ?_)) | (refine kont hR ?_; clear hR) | refine s1 ?_ | exact True.intro | refine cal (count_c l hl) ?_ | refine cal (refCount_c l hl) ?_ | refine cal (tally_c o ho hv) ?_ | refine cal (refTally_c o ho hv) ?_ | refine cal (e1) ?_ | refine cal (e2) ?_ | refine cal (awake_c) ?_ | (refine s2 ?_; try with_reducible intro R hR) | fail)
end Go.Proofs.Ytajokeimipllcaa
