/-
  Layer 8 (boot): two arrays compared; what stands in a slot; the iterator over the slots.
-/
import Derived.Test.YtajokeimipllcaaDoorBtB
import Derived.ChangeKeysEq
import Derived.Deep.RegionHeld
import Derived.RangeFuncNested
import Derived.RangeFuncBound
import Derived.RangeFuncCalls
import Derived.RangeFuncLeaves
import Derived.Shelf.Abstract
import Derived.OwnWalkIn
import Derived.TacticsInMore
import Derived.LoopNIn
import Derived.LoopIn
namespace Go.Ed
open Go.RowKit
/-- an array that is loaded from memory that the row leaves alone may be loaded first -/
theorem yields_load_list {P : Program} {S : World → Prop} {ops : Array Oper} {a : Act} {dst : Option Tmp} {type : TypeId} {pos : String} {after : Array Edge} {ty : TypeId} {x : Operand} {k : Nat} {ad : Addr} {vs : List Value} (hA : Agg P ty k) (hl : vs.length = k)
    (hx : a.eval x = .pointer (some ad)) (hc : ∀ w, S w → ∀ j v, vs[j]? = some v → w.cell? (ad.add j) = some v) : YieldsIf P ops S ⟨dst, .load ty x, type, pos, after, none⟩ (.agg vs.toArray) a :=
  Or.inl ⟨rfl, fun w hS => by
    unfold execOp
    simp only [hx, Instr.loadAt, Instr.sureAddr, Sem.run_bind, Sem.run_pure, Result.andThen_ok, run_loadVar_list hA ad vs hl (hc w hS)]⟩
/-- ways that meet again: what follows is shown once -/
theorem meet3 {G : Prop} (T : Nat → Nat → World → Prop) (F : Nat → Nat → World → Prop) (main : (∀ p q w, F p q w → T p q w) → G) (tl : ∀ p q w, F p q w → T p q w) : G := main tl
/-- a guarded load that is wanted -/
theorem go_load_gd {P : Program} {w : World} {ops : Array Oper} {rest : List Oper} {a : Act} {Q : Exit → Act → World → Prop} {dst : Option Tmp} {type : TypeId} {pos : String} {after : Array Edge} {gd : Nat × Bool} {ty : TypeId} {x : Operand} {g k : Nat} {t : TypeId} (vs : List Value) (hA : Agg P ty k) (hg : Blk w g t vs.toArray)
    (hx : a.eval x = .pointer (some ⟨g, 0, none⟩)) (hk : vs.length = k) (hw : Region.wanted (⟨dst, .load ty x, type, pos, after, some gd⟩ : Oper) (yielded ops a.tmps) = true)
    (h : wpList P ops Q rest (a.put dst (.agg vs.toArray)) w) : wpList P ops Q (⟨dst, .load ty x, type, pos, after, some gd⟩ :: rest) a w := by
  obtain ⟨d, hu, hd, hi⟩ := hA
  refine wpList_step fun K hK => ?_
  rw [if_pos hw]
  refine wp_load_at ty x rfl g 0 k hx t vs.toArray (0, 0) d hg hu hd hi (by simp; omega) (hK _ _ ?_)
  have e : vs.toArray.extract 0 (0 + k) = vs.toArray := by
    apply Array.ext'
    simp [← hk]
  rw [e]; exact h
end Go.Ed
namespace Go.Proofs.YtajokeimipllcaaDoor
open Go.ChangeShapes Go.WideShapes Go.ChangeAt Go.RowKit Go.Ed

theorem eqItems_u8s {P : Program} {e : TypeId} (d : Nat) (he : P.underlying e = some (.int .u8)) (hk : P.plainKey e = true) (w : World) (xs ys : List Int) (hl : ys.length = xs.length) : ∀ (js : List Nat), (∀ j ∈ js, j < xs.length) →
    (Op.eqItems (d + 1) e 1 (u8s xs).toArray (u8s ys).toArray js).run P w = .ok (js.all fun j => xs.getD j 0 == ys.getD j 0) w
  | [], _ => rfl
  | j :: js, h => by
    have hj := h j (by simp)
    have ih := eqItems_u8s d he hk w xs ys hl js fun i hi => h i (by simp [hi])
    have p1 := run_part_plain (P := P) (w := w) hk (xs := (u8s xs).toArray) (off := j * 1) (v := .int .u8 (xs.getD j 0)) (by simp [u8s, List.getD, List.getElem?_eq_getElem hj])
    have p2 := run_part_plain (P := P) (w := w) hk (xs := (u8s ys).toArray) (off := j * 1) (v := .int .u8 (ys.getD j 0)) (by simp [u8s, List.getD, List.getElem?_eq_getElem (show j < ys.length by omega)])
    simp only [Op.eqItems, Sem.run_bind, p1, p2, Result.andThen_ok, run_equalIn_int w d e .u8 .u8 _ _ he, List.all_cons]
    cases hb : (xs.getD j 0 == ys.getD j 0) with
    | true => simpa using ih
    | false => simp
theorem all_getD : ∀ {xs ys : List Int}, ys.length = xs.length → ((List.range xs.length).all fun j => xs.getD j 0 == ys.getD j 0) = decide (xs = ys) := by
  intro xs ys hl
  by_cases h : xs = ys
  · subst h; simp
  · simp only [h, decide_false]
    rw [List.all_eq_false]
    refine Classical.byContradiction fun hn => h ?_
    refine List.ext_getElem hl.symm fun i h1 h2 => ?_
    refine Classical.byContradiction fun hi => hn ⟨i, by simpa using h1, ?_⟩
    simpa [List.getD, List.getElem?_eq_getElem h1, List.getElem?_eq_getElem h2] using hi
theorem Tryd.eq16 (w : World) (xs ys : List Int) (hx : xs.length = 16) (hy : ys.length = 16) :
    (Op.equalIn 10000 43 (.agg (u8s xs).toArray) (.agg (u8s ys).toArray)).run Tryd.prog w = .ok (decide (xs = ys)) w := by
  obtain ⟨i0, hi, _⟩ := Tryd.inf_byte
  have h := run_equalIn_array (P := Tryd.prog) (w := w) 9999 (u8s xs).toArray (u8s ys).toArray Tryd.underlying43 hi
  have hc : Tryd.prog.cellsOf 5 = 1 := by kernel_rfl
  rw [hc] at h
  rw [show (10000 : Nat) = 9999 + 1 from rfl, h]
  have h2 := eqItems_u8s (P := Tryd.prog) 9998 Tryd.underlying5 (by kernel_rfl) w xs ys (by omega) (List.range 16) (fun j hj => by have := List.mem_range.1 hj; omega)
  rw [show (9999 : Nat) = 9998 + 1 from rfl, h2]
  have h3 := all_getD (xs := xs) (ys := ys) (by omega)
  rw [hx] at h3
  rw [h3]

/-- what stands in two sectors; 0: nothing -/
def numS (a : List Int) : Int := wrap64 (rdN (a.take 8) 8)
def standS (a b : List Int) : Int := if numS a < 1 ∨ 1099511627776 < numS a then 0 else if a = recA (numS a) ∧ b = recB (numS a) then numS a else 0
end Go.Proofs.YtajokeimipllcaaDoor
