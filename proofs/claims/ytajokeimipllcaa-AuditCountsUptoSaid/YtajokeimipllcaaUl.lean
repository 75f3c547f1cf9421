/- For every input that a machine can hold (the '..UptoSaid' form: all that the arguments reach weighs at most 1048576) the Go function eddylaw28.AuditCounts returns true and leaves its arguments as they were. -/
import Derived.Test.YtajokeimipllcaaUo
set_option linter.unusedSimpArgs false
set_option linter.unusedVariables false
namespace Go.Proofs.Ytajokeimipllcaa.auditCounts
open Go.Dl Go.ChangeShapes Go.WideShapes Go.ChangeAt Go.RowKit Go.Joins Go.Deep Go.Ed
set_option maxRecDepth 100000 in
theorem lifted (os : Os) (started : os.Started) (H : Type) (enc : TypeId × Value → H) (F : Stop.Interp) :
    ReturnsInHanded {} Try.checked os 3 .any ((Rows.OpenSpec.upto Rows.auditCountsSpec).pre6 enc Try.prog Try.f3 Rows.auditCountsUptoRow.domain false) (((Rows.OpenSpec.upto Rows.auditCountsSpec).at F).post enc Try.prog Try.f3 false true false false) := by
  refine lift_upto (C := Try.checked) own started (by kernel_rfl) Try.func3
    (OpenSpec.witness (enc := enc) (C := Try.checked) (s := Rows.OpenSpec.upto Rows.auditCountsSpec) (k := Rows.uptoSmall) rfl false ⟨#[], #[.slice none 0 0, .slice none 0 0], []⟩ 8 (by kernel_rfl) (by kernel_rfl) (by kernel_rfl)
      (x := ([.nil, .nil], [], [])) (by kernel_rfl) rfl (by kernel_rfl))
    laidOut (by kernel_rfl) rfl Try.underlying4 rfl (fun ds h => by match ds, h with | [d0, d1], _ => rfl) ?_
  intro W base args ds p hval0 hA0 hb
  have hval : ∀ (j : Nat) t v, Try.f3.params[j]? = some t → args[j]? = some v → Value.okWide Try.prog W .any base t v := hval0
  have hA : DataW.TrodAll enc Try.prog W 0 (fun _ => true) true Try.f3.params.toList args.toList ds p := hA0
  rw [Try.params3] at hA hval
  clear hA0 hval0
  obtain ⟨v0, vs0, d0, ds0, p0, q0, hargs, rfl, rfl, h0, r0⟩ := trodAll_cons hA
  obtain ⟨v1, vs1, d1, ds1, p1, q1, rfl, rfl, rfl, h1, r1⟩ := trodAll_cons r0
  obtain ⟨rfl, rfl, rfl⟩ := trodAll_nil r1
  obtain rfl := args_of_toList hargs
  simp only [Rows.uptoBulkAll] at hb
  obtain ⟨x0, g0, k0⟩ := opv_Findings (hval 0 22 v0 rfl rfl) h0 (by omega)
  obtain ⟨x1, g1, k1⟩ := opv_Outcomes (hval 1 23 v1 rfl rfl) h1 (by omega)
  exact calls_true (law_c x0 x1 (by have := g0; omega) (by have := g1.1; omega) (fun o ho => by have := g1.2 o ho; omega)) W _ rfl (fun j v u hv hu => by
    match j with
    | 0 => cases hv; cases hu; exact k0
    | 1 => cases hv; cases hu; exact k1
    | j + 2 => cases hv)
theorem facts1 : Rows.auditCountsUptoRow.inPlace = Try.prog.inPlace 3 := by kernel_rfl
theorem facts2 : Rows.auditCountsUptoRow.unfollowed = Try.prog.unfollowed 3 := by kernel_rfl
theorem facts3 : Rows.auditCountsUptoRow.recurses = Try.prog.recurses 3 := by rw [Program.recurses, ← facts2]; rfl
theorem facts4 : Rows.auditCountsUptoRow.named = Try.prog.varsNamed 3 := by kernel_rfl
theorem facts : joinedFacts Try.prog 3 Try.f3 (Rows.OpenSpec.upto Rows.auditCountsSpec).bare Rows.auditCountsUptoRow = true := joined_of facts1 facts2 facts3 facts4 (by kernel_rfl)
theorem proved : Rows.AuditCountsUptoSaid :=
  OpenClaim.holds_of_cond 3 Try.f3 rfl rfl rfl rfl rfl rfl rfl ⟨rfl, rfl, rfl, rfl, rfl⟩ rfl rfl rfl rfl rfl (by kernel_rfl) Try.func3 facts
    (of_decide_eq_true (by kernel_rfl)) (by unfold Func.isWrapper; first | (rw [if_pos (by decide +kernel)]; kernel_rfl) | (rw [if_neg (by decide +kernel)]; exact ⟨rfl, rfl⟩))
    (fun os started H enc _ F => lifted os started H enc F)
#print axioms proved
end Go.Proofs.Ytajokeimipllcaa.auditCounts
