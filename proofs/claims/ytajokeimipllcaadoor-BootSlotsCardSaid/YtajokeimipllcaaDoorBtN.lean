/-
  Layer 8: the statement BootSlots: Next writes twice, one slot alone; the other one's number stands. Every input; no condition. (A tied card: the table of half bytes is laid by its own initialiser.)
-/
import Derived.Test.YtajokeimipllcaaDoorBtM
import Derived.Test.YtajokeimipllcaaDoorBtK
import Derived.Test.YtajokeimipllcaaDoorBtL
import Derived.Test.YtajokeimipllcaaDoorTie
import Derived.Test.YtajokeimipllcaaDoorCards
import Derived.SevenTiedAt
set_option linter.unusedVariables false
namespace Go.Proofs.YtajokeimipllcaaDoor
open Go.ChangeShapes Go.WideShapes Go.ChangeAt Go.RowKit Go.Ed Go.Joins

theorem new_big (w : World) (k : Int) (h : 64 < k) : Calls Tryd.prog 10 #[.int .i64 k] w fun e w' => e = .returned (.pointer none) ∧ w = w' := by
  have h1 : ¬ k < 1 := by omega
  go_enter Tryd.func10, Tryd.ntmps10
  go_wp2_with fail
  go_ret
  exact ⟨rfl, rfl⟩
set_option maxRecDepth 100000 in
theorem load_none (w : World) (A : Option Addr) (n c : Nat) (h : n = 0 ∨ 64 < n) (hb : n * 16 ≤ 9223372036854775807) : Calls Tryd.prog 9 #[.slice A (n * 16) c] w fun e w' => e = .returned (.pointer none) ∧ w = w' := by
  have hm : ((n * 16 : Nat) : Int).tmod 16 = 0 := by rw [Int.tmod_eq_emod_of_nonneg (by omega)]; omega
  have hq : ((n * 16 : Nat) : Int).tdiv 16 = n := by rw [Int.tdiv_eq_ediv_of_nonneg (by omega)]; omega
  have hN : Calls Tryd.prog 10 #[.int .i64 n] w fun e w' => e = .returned (.pointer none) ∧ w = w' := by
    rcases h with rfl | h
    · exact new_no w _ (by decide)
    · exact new_big w _ (by omega)
  have hN := Lib.hid hN
  clear h
  go_enter Tryd.func9, Tryd.ntmps9
  go_wp2_with (go_at_call 10; refine hN.out.mono ?_; rintro e w' ⟨rfl, rfl⟩)
  go_ret
  exact ⟨rfl, rfl⟩
/-- Load in all its ways -/
theorem load_all (w : World) (A : Option Addr) (l c : Nat) (xs : List Int) (hr : Reads w w.heap.size 1 A l (u8s xs)) (hc : l ≤ c) (hl : l ≤ 9223372036854775807) : LdNil w A l c ∨ ∃ n, LdOk w A l c n xs ∧ xs.length = n * 16 := by
  by_cases h : l % 16 = 0
  · obtain ⟨n, rfl⟩ : ∃ n, l = n * 16 := ⟨l / 16, by omega⟩
    by_cases h2 : n = 0 ∨ 64 < n
    · exact .inl (load_none w A n c h2 hl)
    · exact .inr ⟨n, load_ok w A n c xs hr (by omega) (by omega) hc, by simpa [u8s] using hr.1⟩
  · exact .inl (load_odd w A l c h)

theorem ord3 (x0 x1 : Int) : ∃ m, (x1 < x0 ∧ m = x0) ∨ (x0 < x1 ∧ m = x1) ∨ (x0 = x1 ∧ m = x1) := by
  rcases Int.lt_trichotomy x0 x1 with h | h | h
  · exact ⟨x1, .inr (.inl ⟨h, rfl⟩)⟩
  · exact ⟨x1, .inr (.inr ⟨h, rfl⟩)⟩
  · exact ⟨x0, .inl ⟨h, rfl⟩⟩
theorem bootSlots_walk (w : World) (ht : Tabs w) (h0 : 0 < w.heap.size) (A : Option Addr) (l c : Nat) (xs : List Int) (hr : Reads w w.heap.size 1 A l (u8s xs)) (hc : l ≤ c) (hl : l ≤ 9223372036854775807) (cut : Int) :
    Calls Tryd.prog 5 #[.slice A l c, .int .i64 cut] w fun e w' => e = .returned (.bool true) ∧ Below w.heap.size w w' := by
  obtain ⟨C0, C3⟩ := c_bd cut
  generalize hC : RowKit.wrap64 ((IntKind.u64.wrap cut).tmod 4) = C at C0 C3
  have hCC : C = 0 ∨ C = 1 ∨ C = 2 ∨ C = 3 := by omega
  rcases load_all w A l c xs hr hc hl with hL | ⟨n, hL, hxl⟩
  · rcases hCC with rfl | rfl | rfl | rfl
    · exact bs_c0_nil w ht h0 A l c cut hL hC
    · exact bs_c1_nil w ht h0 A l c cut hL hC
    · exact bs_c2_nil w ht h0 A l c cut hL hC
    · exact bs_c3_nil w ht h0 A l c cut hL hC
  · by_cases hn4 : n < 4
    · exact bs_short w ht h0 A l c n cut xs hL hn4
    · have hn4 : 4 ≤ n := by omega
      obtain ⟨a1, a2⟩ := standS_rng (sect xs 0) (sect xs 1)
      obtain ⟨b1, b2⟩ := standS_rng (sect xs 2) (sect xs 3)
      generalize hx0 : standS (sect xs 0) (sect xs 1) = x0 at a1 a2
      generalize hx1 : standS (sect xs 2) (sect xs 3) = x1 at b1 b2
      obtain ⟨m, hx⟩ := ord3 x0 x1
      have hm0 : 0 ≤ m := by omega
      by_cases hm : m = 1099511627776
      · rcases hx with h | h | h
        · exact bs_max_lt w ht h0 A l c n cut C xs hxl hL hn4 x0 x1 m hx0 hx1 hm0 hm h hC C0 C3
        · exact bs_max_gt w ht h0 A l c n cut C xs hxl hL hn4 x0 x1 m hx0 hx1 hm0 hm h hC C0 C3
        · exact bs_max_eq w ht h0 A l c n cut C xs hxl hL hn4 x0 x1 m hx0 hx1 hm0 hm h hC C0 C3
      · have hm1 : m < 1099511627776 := by omega
        rcases hCC with rfl | rfl | rfl | rfl <;> rcases hx with h | h | h
        · exact bs_c0_lt w ht h0 A l c n cut xs hxl hL hn4 x0 x1 m hx0 hx1 hm0 hm1 h hC
        · exact bs_c0_gt w ht h0 A l c n cut xs hxl hL hn4 x0 x1 m hx0 hx1 hm0 hm1 h hC
        · exact bs_c0_eq w ht h0 A l c n cut xs hxl hL hn4 x0 x1 m hx0 hx1 hm0 hm1 h hC
        · exact bs_c1_lt w ht h0 A l c n cut xs hxl hL hn4 x0 x1 m hx0 hx1 hm0 hm1 h hC
        · exact bs_c1_gt w ht h0 A l c n cut xs hxl hL hn4 x0 x1 m hx0 hx1 hm0 hm1 h hC
        · exact bs_c1_eq w ht h0 A l c n cut xs hxl hL hn4 x0 x1 m hx0 hx1 hm0 hm1 h hC
        · exact bs_c2_lt w ht h0 A l c n cut xs hxl hL hn4 x0 x1 m hx0 hx1 hm0 hm1 h hC
        · exact bs_c2_gt w ht h0 A l c n cut xs hxl hL hn4 x0 x1 m hx0 hx1 hm0 hm1 h hC
        · exact bs_c2_eq w ht h0 A l c n cut xs hxl hL hn4 x0 x1 m hx0 hx1 hm0 hm1 h hC
        · exact bs_c3_lt w ht h0 A l c n cut xs hxl hL hn4 x0 x1 m hx0 hx1 hm0 hm1 h hC
        · exact bs_c3_gt w ht h0 A l c n cut xs hxl hL hn4 x0 x1 m hx0 hx1 hm0 hm1 h hC
        · exact bs_c3_eq w ht h0 A l c n cut xs hxl hL hn4 x0 x1 m hx0 hx1 hm0 hm1 h hC

namespace bootSlots
theorem own : ownKnob Tryd.prog.godebug = none := by kernel_rfl
theorem laidOut : laidOutB Tryd.prog = true := by kernel_rfl
/-- The door's own heap meets the condition. -/
theorem door_met (os : Os) (args : Array Value) : laidMetH Tryd.prog Rows.bootSlotsRow.laid ((World.doorLaid Tryd.prog 400 os).forCall (fun _ _ => 0) ⟨#[], args, []⟩).memory :=
  laidMetH_of_parts3 (fuel := 8) (laidMet_of_run' 8 (by kernel_rfl) (by kernel_rfl)) (by kernel_rfl) (by kernel_rfl)

set_option maxRecDepth 100000 in
theorem lifted (os : Os) (started : os.Started) (H : Type) (enc : TypeId × Value → H) :
    ReturnsInHanded {} Tryd.checked os 5 .any (fun w args => (Rows.bootSlotsSpec.pre enc Tryd.prog Tryd.f5 [] false w args ∧ laidMetH Tryd.prog Rows.bootSlotsRow.laid w) ∧ sizedMet enc Tryd.prog Tryd.f5 (OpenSpec.ofChange Rows.bootSlotsSpec) false w args)
      (Rows.bootSlotsSpec.post enc Tryd.prog Tryd.f5 false true false false) := by
  refine lift_law_laid (C := Tryd.checked) (X := fun w _ => laidMetH Tryd.prog Rows.bootSlotsRow.laid w) (fun _ _ _ hh h => h.of_heap hh) own started (by kernel_rfl) Tryd.func5
    (ChangeSpec.witness_shaped (enc := enc) (C := Tryd.checked) (os := os) (X := fun w _ => laidMetH Tryd.prog Rows.bootSlotsRow.laid w) false (World.doorLaid Tryd.prog 400 os) #[.slice none 0 0, .int .i64 0] 8 rfl (World.shaped_of_RefB (by kernel_rfl) (by kernel_rfl)) (by kernel_rfl) (by kernel_rfl) (by kernel_rfl) (door_met os _))
    laidOut (by kernel_rfl) rfl Tryd.underlying4 rfl (fun ds h => by match ds, h with | [d1, d2], _ => rfl) ?_
  intro W base args ds p hval0 hA0 hX
  have hval : ∀ (j : Nat) t v, Tryd.f5.params[j]? = some t → args[j]? = some v → Value.okWide Tryd.prog W .any base t v := hval0
  have hA : DataW.TrodAll enc Tryd.prog W 0 (fun _ => true) true Tryd.f5.params.toList args.toList ds p := hA0
  rw [Tryd.params5] at hA hval
  clear hA0 hval0
  obtain ⟨v0, vs0, d0, ds0, p0, q0, hargs, rfl, rfl, h0, r0⟩ := trodAll_cons hA
  obtain ⟨v1, vs1, d1, ds1, p1, q1, rfl, rfl, rfl, h1, r1⟩ := trodAll_cons r0
  obtain ⟨rfl, rfl, rfl⟩ := trodAll_nil r1
  obtain rfl := args_of_toList hargs
  obtain ⟨a0, l0, c0, rfl⟩ := okWide_slice Tryd.underlying22 (hval 0 22 v0 rfl rfl)
  obtain ⟨x1, rfl, _, _, _⟩ := open_int Tryd.underlying3 (hval 1 3 v1 rfl rfl) h1
  obtain ⟨fuel, hf⟩ := h0
  obtain ⟨A, m, c, zs, hcs, hm, hmc, hrd, _⟩ := open_ints_reads Tryd.underlying22 Tryd.underlying5 (by kernel_rfl) hf
  simp only [Value.cells, List.cons.injEq, Value.slice.injEq, and_true] at hcs
  obtain ⟨rfl, rfl, rfl⟩ := hcs
  unfold maxLen at hm
  obtain ⟨ht, hz⟩ := of_laid hX
  exact bootSlots_walk W ht hz _ _ _ zs hrd hmc (by omega) x1

theorem held : Rows.BootSlotsSaid :=
  OpenClaim.holds_of_wide 5 Tryd.f5 rfl rfl rfl rfl rfl rfl rfl ⟨rfl, rfl, rfl, rfl, rfl⟩ rfl rfl rfl rfl rfl (by kernel_rfl) Tryd.func5 (by kernel_rfl)
    (of_decide_eq_true (by kernel_rfl)) (by unfold Func.isWrapper; first | (rw [if_pos (by decide +kernel)]; kernel_rfl) | (rw [if_neg (by decide +kernel)]; exact ⟨rfl, rfl⟩))
    (fun os started H enc _ => lifted os started H enc)
theorem proved : Rows.BootSlotsCardSaid :=
  Claim7.holds_tied_plain_at .later [] [.data] true (true, "c1d7fc015defb88d8e66f63d20a2298134f5dc83b09514968fd52f43da0d5f08") false
    held (fun _ h => by cases h) (by kernel_rfl) (fun _ h => by cases h) bootSlots_row_tie rfl ⟨rfl, rfl⟩ (by kernel_rfl) rfl
    (fun f fn hf hfn => by
      obtain rfl : f = 5 := Option.some.inj ((show Tryd.prog.funcNamed "eddy/eddylaw08.BootSlots" = some 5 by kernel_rfl).symm.trans hf) |>.symm
      obtain rfl : fn = Tryd.f5 := (Option.some.inj (Tryd.func5.symm.trans hfn)).symm
      exact ⟨by kernel_rfl, fun j t ht => by
        rw [Tryd.params5] at ht
        have hm : t ∈ [22, 3] := by simpa using Array.mem_of_getElem? ht
        have hall : ([22, 3].all fun u => !Tryd.prog.wantsStandIn u) = true := by kernel_rfl
        exact (show Tryd.prog.wantsStandIn t = false by simpa using List.all_eq_true.1 hall t hm)⟩)
    (by kernel_rfl)
#print axioms proved
end bootSlots
end Go.Proofs.YtajokeimipllcaaDoor
