/-
  Layer 7 (disk): Load; layer 8: Record.
-/
import Derived.Test.YtajokeimipllcaaDoorBtG
set_option linter.unusedVariables false
namespace Go.Proofs.YtajokeimipllcaaDoor
open Go.ChangeShapes Go.WideShapes Go.ChangeAt Go.RowKit Go.Ed

set_option maxRecDepth 100000 in
/-- a write through an interface -/
theorem write_i (w : World) {g : Nat} (k : Int) (v : Value) {R : World → Prop} {e0 : Int} (h : Calls Tryd.prog 20 #[.pointer (some ⟨g, 0, none⟩), .int .i64 k, v] w fun e w' => e = .returned (.int .i64 e0) ∧ R w') :
    Calls Tryd.prog 19 #[.iface 28 (.pointer (some ⟨g, 0, none⟩)), .int .i64 k, v] w fun e w' => e = .returned (.tuple #[]) ∧ R w' := by
  have h := Lib.hid h
  go_enter Tryd.func19, Tryd.ntmps19
  go_wp2_with (go_at_call 20; refine h.out.mono ?_; rintro e w1 ⟨rfl, h1⟩)
  go_returns
  exact ⟨rfl, h1⟩

set_option maxRecDepth 100000 in
theorem load_odd (w : World) (A : Option Addr) (l c : Nat) (h : l % 16 ≠ 0) : Calls Tryd.prog 9 #[.slice A l c] w fun e w' => e = .returned (.pointer none) ∧ w = w' := by
  have h' : ¬ (l : Int).tmod 16 = 0 := by rw [Int.tmod_eq_emod_of_nonneg (by omega)]; omega
  go_enter Tryd.func9, Tryd.ntmps9
  go_wp2_with fail
  go_ret
  exact ⟨rfl, rfl⟩

theorem put_next {xs : List Int} {n k : Nat} (hl : xs.length = n * 16) (hk : k < n) : putSect (xs.take (k * 16) ++ (zeros n).drop (k * 16)) (k : Int).toNat ((xs.drop (k * 16)).take 16) = xs.take ((k + 1) * 16) ++ (zeros n).drop ((k + 1) * 16) := by
  have e : (k : Int).toNat = k := by omega
  have l1 : (xs.take (k * 16)).length = k * 16 := by rw [List.length_take]; omega
  rw [e, putSect, List.take_left' l1, show k * 16 + 16 = (xs.take (k * 16)).length + 16 by omega, List.drop_length_add_append, List.drop_drop]
  rw [show (k + 1) * 16 = k * 16 + 16 by omega, List.take_add]
set_option maxRecDepth 100000 in
theorem load_ok (w : World) (A : Option Addr) (n c : Nat) (xs : List Int) (hr : Reads w w.heap.size 1 A (n * 16) (u8s xs)) (h0 : 1 ≤ n) (h1 : n ≤ 64) (hcap : n * 16 ≤ c) :
    Calls Tryd.prog 9 #[.slice A (n * 16) c] w fun e w' => ∃ g s, e = .returned (.pointer (some ⟨g, 0, none⟩)) ∧ w.heap.size ≤ g ∧ w.heap.size ≤ s ∧ Dsk w' g s false false 0 n 0 xs ∧ Below w.heap.size w w' := by
  obtain ⟨⟨b, o, sp⟩, rfl, hlt, hcl⟩ := hr.2 (by omega)
  have hlt : b < w.heap.size := hlt
  have hxl : xs.length = n * 16 := by have := hr.1; simpa [u8s] using this
  have hm : ((n * 16 : Nat) : Int).tmod 16 = 0 := by rw [Int.tmod_eq_emod_of_nonneg (by omega)]; omega
  have hq : ((n * 16 : Nat) : Int).tdiv 16 = n := by rw [Int.tdiv_eq_ediv_of_nonneg (by omega)]; omega
  go_enter Tryd.func9, Tryd.ntmps9
  go_wp2_with (go_at_call 10; refine (new_any w n h0 h1).mono ?_; rintro e w1 ⟨g, s, rfl, hg, hs, hd, hb⟩; have c3 := hd.c3)
  have s1 := hb.size
  go_loopw [20] (fun v wr => ∃ k : Nat, k ≤ n ∧ v = .int .i64 k ∧ Dsk wr g s false false 0 n k (xs.take (k * 16) ++ (zeros n).drop (k * 16)) ∧ Chg (fun i => i = g ∨ i = s) w1 wr) (fun v _ => n - (intOf v).toNat)
  case atStart => exact ⟨0, Nat.zero_le _, rfl, by simpa using hd, Chg.refl _ _⟩
  case round =>
    obtain ⟨k, hk, rfl, hdk, hC⟩ := hrel
    by_cases hlt' : k < n
    · have hlt2 : (k : Int) < (n : Int) := by omega
      have hrk : Reads wr wr.heap.size 1 (some ((⟨b, o, sp⟩ : Addr).add (k * 16))) 16 (u8s ((xs.drop (k * 16)).take 16)) :=
        ⟨by simp [u8s, hxl]; omega, fun _ => ⟨_, rfl, by rw [block_of_add]; have := hC.size; show b < _; omega, fun j u hj => by
          rw [add_of_add]
          have hj16 : j < 16 := by have := (List.getElem?_eq_some_iff.1 hj).1; simp [u8s] at this; omega
          have h2 : (u8s xs)[k * 16 + j]? = some u := by
            rw [← hj]; simp only [u8s, List.getElem?_map, List.getElem?_take, List.getElem?_drop, if_pos hj16]
          have h3 := hcl _ u h2
          have hbb : ((⟨b, o, sp⟩ : Addr).add (k * 16 + j)).block = b := block_of_add _ _
          rw [World.cell?_of_block (hC.block _ (by rw [hbb]; omega) (by rw [hbb]; omega)), World.cell?_of_block (hb.block _ (by rw [hbb]; omega))]
          exact h3⟩⟩
      have hl16 : (k + 1) * 16 - k * 16 = 16 := by omega
      have hbk : ((⟨b, o, sp⟩ : Addr).add (k * 16)).block ≠ g := by rw [block_of_add]; show b ≠ g; omega
      have hwr := Lib.hid (write_i wr (k : Int) (.slice (some ((⟨b, o, sp⟩ : Addr).add (k * 16))) 16 (c - k * 16)) (write_free_i wr hdk (k : Int) (by omega) (by omega) _ (c - k * 16) _ hrk hbk (by omega)))
      go_wp2_with (go_at_call 19; refine hwr.out.mono ?_; rintro e w2 ⟨rfl, hd2, hc2⟩)
      go_roundw
      case rel =>
        refine ⟨k + 1, by omega, by go_num, ?_, hC.trans hc2⟩
        have e1 : putSect (xs.take (k * 16) ++ (zeros n).drop (k * 16)) (k : Int).toNat ((xs.drop (k * 16)).take 16) = xs.take ((k + 1) * 16) ++ (zeros n).drop ((k + 1) * 16) := put_next hxl hlt'
        rw [e1] at hd2
        exact_mod_cast hd2
      case measure => simp [intOf]; omega
    · have hkn : k = n := by omega
      subst hkn
      have c4 := hdk.c4
      have f4 := hdk.head.frozen 4
      go_wp2_with fail
      go_ret
      have ex : xs.take (k * 16) ++ (zeros k).drop (k * 16) = xs := by
        rw [List.take_of_length_le (by omega), List.drop_of_length_le (by simp [zeros])]; simp
      rw [ex] at hdk
      refine ⟨g, s, rfl, hg, hs, { hdk with head := hdk.head.set_ 4 _, body := hdk.body.far (Ne.symm hdk.ne) _, writes0 := by omega }, ?_⟩
      exact (hb.trans (hC.below (fun i h => by omega) s1)).setCell (p := ⟨g, 4, none⟩) hg _

set_option maxRecDepth 100000 in
theorem record_no (w : World) (n : Int) (h : n < 1 ∨ 1099511627776 < n) : Calls Tryd.prog 6 #[.int .i64 n] w fun e w' => e = .returned (.tuple #[.slice none 0 0, .slice none 0 0]) ∧ w = w' := by
  by_cases h1 : n < 1
  · go_enter Tryd.func6, Tryd.ntmps6
    go_wp2_with fail
    go_ret2
    exact ⟨rfl, rfl⟩
  · have d1 : decide (n < 1) = false := decide_eq_false h1
    have d2 : decide (1099511627776 < n) = true := decide_eq_true (by omega)
    clear h h1
    go_enter Tryd.func6, Tryd.ntmps6
    go_wp2_with fail
    go_ret2
    exact ⟨rfl, rfl⟩
end Go.Proofs.YtajokeimipllcaaDoor
