/-
  Layer 8 (boot): what the laid table gives; a law's walk lifted under a laid list; Load in all its ways.
-/
import Derived.Test.YtajokeimipllcaaDoorBtJ
import Derived.Test.YtajokeimipllcaaDoorOpen
import Derived.LaidMore
import Derived.Handed
import Derived.MakeChecks
import Derived.OpenShut
import Derived.LaidOnce
set_option linter.unusedVariables false
namespace Go.Ed
open Go.ChangeShapes Go.WideShapes Go.ChangeAt Go.RowKit
theorem lift_law_laid {H : Type} {enc : TypeId × Value → H} {C : Checked} {os : Os} {f : FuncId} {fn : Func} {s : ChangeSpec} {tb : TypeId} {X : World → Array Value → Prop} (hX : ∀ (w w' : World) (args : Array Value), w.heap = w'.heap → X w args → X w' args)
    (own : ownKnob C.prog.godebug = none) (started : os.Started) (noInit : C.prog.inits.idxOf? f = none) (hfn : C.prog.funcs[f]? = some fn)
    (witness : ∃ (w : World) (tape : Tape) (i : Input), w.os = os ∧ (w.forCall tape i).Shaped C.prog ∧ i.vars = [] ∧ Input.okWide C.prog (w.forCall tape i) .any w.heap.size f i ∧
      ((s.pre enc C.prog fn [] false (w.forCall tape i).memory i.args ∧ X (w.forCall tape i).memory i.args) ∧ sizedMet enc C.prog fn (OpenSpec.ofChange s) false (w.forCall tape i).memory i.args) ∧ Assume.holds {} C.prog (lone (Frame.enter C.prog f i.args .normal) [] (w.forCall tape i)))
    (hl : laidOutB C.prog = true) (hpar : fn.params.toList.all (fun t => C.prog.readableRec t && decide (t < C.prog.types.size)) = true)
    (hres : fn.resultTypes = #[tb]) (hb : C.prog.underlying tb = some .bool) (hv : s.vars = [])
    (hs : ∀ ds : List (DataW H), ds.length = fn.params.size → s.fn H (ds ++ []) = { results := [.lit (.bool true)], args := ds })
    (walk : ∀ (W : World) (base : Nat) (args : Array Value) (ds : List (DataW H)) (p : List MemPlace),
      (∀ (j : Nat) t v, fn.params[j]? = some t → args[j]? = some v → Value.okWide C.prog W .any base t v) →
      DataW.TrodAll enc C.prog W 0 (fun _ => true) true fn.params.toList args.toList ds p → X W args →
      Calls C.prog f args W fun e W' => e = .returned (.bool true) ∧ Below W.heap.size W W') :
    ReturnsInHanded {} C os f .any (fun w args => (s.pre enc C.prog fn [] false w args ∧ X w args) ∧ sizedMet enc C.prog fn (OpenSpec.ofChange s) false w args) (s.post enc C.prog fn false true false false) := by
  refine returnsInHanded_of_change_and hX own started noInit hfn witness ?_
  intro W base args ds gs before hval hW _ _ hx _
  have hW' := hW
  obtain ⟨p, q, hA, hV, rfl, _, _⟩ := hW
  rw [hv] at hV
  obtain ⟨rfl, rfl⟩ := trodVars_none hV
  have hlen : ds.length = fn.params.size := by
    have : ∀ (ts : List TypeId) (vs : List Value) (ds : List (DataW H)) (ps : List MemPlace), DataW.TrodAll enc C.prog W 0 (fun _ => true) true ts vs ds ps → ds.length = ts.length := by
      intro ts
      induction ts with
      | nil => intro vs ds ps h; cases vs <;> cases ds <;> first | rfl | exact h.elim
      | cons t ts ih =>
        intro vs ds ps h
        cases vs with
        | nil => exact h.elim
        | cons v vs =>
          cases ds with
          | nil => exact h.elim
          | cons d ds =>
            obtain ⟨p, q, _, h2, _⟩ := h
            simp [ih vs ds q h2]
    simpa using this _ _ _ _ hA
  refine (walk W base args ds p hval hA hx).mono fun e W' ⟨he, bel⟩ => ?_
  subst he
  refine ⟨_, rfl, ds, [], _, [], p, [], hW', ?_, ?_, ?_, bel.frame _, fun h => by cases h⟩
  · rw [hs ds hlen, hres]
    exact trodAll_mk1 (shut_bool hb _)
  · rw [hs ds hlen]
    exact trodAll_below hl bel _ _ _ _ hpar hA
  · rw [hv, hs ds hlen]
    rfl
end Go.Ed
namespace Go.Proofs.YtajokeimipllcaaDoor
open Go.ChangeShapes Go.WideShapes Go.ChangeAt Go.RowKit Go.Ed Go.Joins

/-- the table's name -/
def tabName : String := (Rows.bootSlotsRow.laid.head?.map (·.1)).getD ""
theorem gTable : Tryd.prog.globalNamed tabName = some 0 := by kernel_rfl
theorem tTable : (Tryd.prog.globals[0]?).map (·.type) = some 69 := by kernel_rfl
/-- WHAT THE CONDITION GIVES: the table's cells. -/
theorem of_laid {W : World} (h0 : laidMetH Tryd.prog Rows.bootSlotsRow.laid W) : Tabs W ∧ 0 < W.heap.size := by
  have h : laidMetH Tryd.prog [(tabName, Rows.laid_eddy_seal_table)] W := h0
  clear h0
  rw [MakeChecks.laidMetH_plain _ _ _ (by kernel_rfl)] at h
  obtain ⟨ps, ⟨g0, t0, cs0, f0, p0, q0, hg0, ht0, hv0, hd0, _, _⟩, _, _⟩ := h
  obtain rfl := Option.some.inj (gTable.symm.trans hg0)
  obtain rfl := Option.some.inj (tTable.symm.trans ht0)
  obtain ⟨xs, m1, rfl, hx1, hlen, hn, hel⟩ := DataW.trod_array Tryd.underlying69 hd0
  have c1 : Tryd.prog.cellsOf 46 = 1 := by kernel_rfl
  have hmap : xs.map (·.1) = crcTab.map (fun n => DataW.lit (.int .u32 n)) := by
    simp only [Rows.laid_eddy_seal_table, Prod.mk.injEq, DataW.agg.injEq] at hx1
    exact hx1.1.symm
  have htab : Tabs W := by
    intro i hi
    have h1 := hel i hi
    rw [List.getElem?_eq_getElem (show i < xs.length by omega)] at h1
    obtain ⟨k, e1, e2, _⟩ := DataW.trod_int Tryd.underlying46 h1
    have h2 : (xs.map (·.1))[i]? = (crcTab.map (fun n => DataW.lit (H := Unit) (.int .u32 n)))[i]? := by rw [hmap]
    have hcl : i < crcTab.length := hi
    rw [List.getElem?_map, List.getElem?_map, List.getElem?_eq_getElem (show i < xs.length by omega), List.getElem?_eq_getElem hcl, e2] at h2
    simp only [Option.map_some, Option.some.injEq, DataW.lit.injEq, Lit.int.injEq, true_and] at h2
    rw [World.var?_cell hg0 hv0 i]
    rw [c1, Nat.mul_one] at e1
    have h3 : cs0.toList[i]? = some (.int .u32 k) := by
      have := congrArg (fun l => l[0]?) e1
      simpa [List.getElem?_take, List.getElem?_drop] using this
    rw [← Array.getElem?_toList, h3, h2]
    simp [List.getD, List.getElem?_eq_getElem hcl]
  exact ⟨htab, World.block_lt_of_cell? W _ (htab 0 (by decide))⟩
end Go.Proofs.YtajokeimipllcaaDoor
