/-
  Audit: the places of a run's outcomes.
-/
import Derived.Test.YtajokeimipllcaaUb
set_option linter.unusedSimpArgs false
set_option linter.unusedVariables false
namespace Go.Proofs.Ytajokeimipllcaa
open Go.Dl
set_option maxRecDepth 100000
set_option maxHeartbeats 2000000
attribute [local irreducible] DW DOp Weak CallM CallC CallO Later
attribute [local push_cast] noLoc retL RetL resV res1 parts part1 vleT pleL vleL Go.Dl.isL fle rnOf List.mem_cons List.not_mem_nil or_false forall_eq false_implies implies_true
theorem drop_at {α : Type} {l : List α} {k : Nat} (h : k < l.length) : l.drop k = l[k] :: l.drop (k + 1) := List.drop_eq_getElem_cons h
abbrev Plc := (Int × Int) × Tld
def noT : Tld := ⟨0, 0, 0, noS, 0⟩
def plcE (k i : Int) : List Tld → List Plc
  | [] => []
  | x :: r => ((k, i), x) :: plcE k (i + 1) r
def plcF (k : Int) : List Otc → List Plc
  | [] => []
  | o :: r => ((k, -1), noT) :: (plcE k 0 o.ev ++ plcF (k + 1) r)
def gPl (x : Plc) : List V := [.agg [.f (eI x.1.1), .f (eI x.1.2)], .agg ((encTl x.2).map .f)]
theorem places_c (l : List Otc) : CallC Try.prog 11 [gOu l] (.clo 15 [] [.rd [.l 2 (l.map encOu)]]) := by
  refine enx [.tmp 2] Try.func11 fun X w0 => ?_
  repeat' (first | (refine spl ?_ ?_ <;> (intro hb; refine ne ?_)) | (refine kont hR ?_; clear hR) | refine s1 ?_ | exact True.intro | (refine fzx 1 ?_; refine dw_ret ?_) | (refine s2 ?_; try with_reducible intro R hR) | fail)
theorem places_i (l : List Otc) (hl : l.length < 1000000000) (hv : EvOk l) (M : Nat) : IterC Try.prog 15 [.rd [.l 2 (l.map encOu)]] (elL (plcF 0 l) gPl) M := by
  refine iter_of Try.func15 rfl (by decide) (by simp [Try.ntmps15]) rfl (fun I J yl hJ hY hM => ?_)
  repeat' (first | (refine spl ?_ ?_ <;> (intro hb; refine ne ?_)) | (refine kontY hR ?_; clear hR) | refine t1 ?_ | exact True.intro | ((with_reducible first | refine iterQ_r ?_ | refine iterQ_n ?_); intro n hn; cases hn) | ((with_reducible refine dy_isrange ?_); refine dy_range (ι := Nat) (l.length) (fun _ n => some n) (fun k _ => St.ofA [(0, yV yl), (7, gOu l), (8, gI l.length), (9, gI k)] [] []) (fun k n => (plcF 0 l).drop n = plcF k (l.drop k)) 0 hJ (by omega) hT (by decide) (fun k x => ⟨by rfl, by rfl⟩) (by rfl) (fun X hb => (by (refine weak_ofY hb rfl ?_ ?_ ?_ <;> simp); done)) ?_ (fun k n hqn hkk => ?_) (fun n hqn => ?_)) | (have hLk := hv _ (List.getElem_mem hkk); ((with_reducible refine dy_isrange ?_); refine dy_range (ι := Nat) (l[k].ev.length) (fun _ n => some n) (fun j _ => St.ofA [(0, yV yl), (3, gI k), (7, gOu l), (8, gI l.length), (9, gI k), (21, gTl l[k].ev), (22, gI l[k].ev.length), (23, gI j)] [] []) (fun j n => (plcF 0 l).drop n = plcE k j (l[k].ev.drop j) ++ plcF (k + 1) (l.drop (k + 1))) (n + 1) hJ (by omega) hT (by decide) (fun k x => ⟨by rfl, by rfl⟩) (by rfl) (fun X hb => (by (refine weak_ofY hb rfl ?_ ?_ ?_ <;> simp); done)) ?_ (fun j m hqm hkj => ?_) (fun m hqm => ?_))) | (refine dopY_yield_s hY rfl rfl (by rfl) rfl (by simp only [push_cast, seval, *]; exact (elL_drop (f := gPl) (x := ((k, j), l[k].ev[j])) (by rw [hqm, drop_at hkj, plcE] <;> rfl)).1) (by rfl) ?_ ?_ <;> simp only [push_cast, seval, *]) | (refine dopY_yield_s hY rfl rfl (by rfl) rfl (by simp only [push_cast, seval, *]; exact (elL_drop (f := gPl) (x := ((k, -1), noT)) (by rw [hqn, drop_at hkk, plcF] <;> rfl)).1) (by rfl) ?_ ?_ <;> simp only [push_cast, seval, *]) | (refine ry_i (m + 1) rfl ?_ ?_ ?_; (focus (intro X hb; (refine weak_ofY hb rfl ?_ ?_ ?_ <;> simp); done)); (focus (simp only [push_cast, seval, *]; done))) | (refine ry_i (m) rfl ?_ ?_ ?_; (focus (intro X hb; (refine weak_ofY hb rfl ?_ ?_ ?_ <;> simp); done)); (focus (simp only [push_cast, seval, *]; done))) | (refine t2 ?_; try with_reducible intro R hR) | fail)
  all_goals (first | rfl | exact elL_stop (by rw [hqn]; simp [plcF]) | (rw [(elL_drop (f := gPl) (x := ((k, -1), noT)) (by rw [hqn, drop_at hkk, plcF] <;> rfl)).2]; rfl) | (rw [(elL_drop (f := gPl) (x := ((k, j), l[k].ev[j])) (by rw [hqm, drop_at hkj, plcE] <;> rfl)).2, Int.natCast_succ]; rfl) | (rw [hqm, List.drop_length, plcE, List.nil_append, Int.natCast_succ]))
end Go.Proofs.Ytajokeimipllcaa
