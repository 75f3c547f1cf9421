/-
  Layer 14 (shake): the document's See, Dropped, Same.
-/
import Derived.Test.YtkbcnapfcojekaaShakeP
namespace Go.Proofs.Ytkbcnapfcojekaa
open Go.ChangeShapes Go.WideShapes Go.ChangeAt Go.RowKit Go.Shelf Go.Ed

set_option maxRecDepth 100000 in
set_option maxHeartbeats 4000000 in
theorem refSee_any (w : World) (A : Option Addr) (n c : Nat) (ls : List Seen) (p boot life : Int) (hn : n ≤ 100000000000) (hnc : n ≤ c) (hI : SeenAt w w.heap.size A n ls) :
    Calls Try.prog 38 #[.slice A n c, .int .i64 p, .int .i64 boot, .int .i64 life] w fun e w' =>
      ∃ v, e = .returned v ∧ w'.ownsRow w.heap.size 60 4 v (putS ls (seeS (refGot ls p) boot life)).length (rowCells (putS ls (seeS (refGot ls p) boot life))) ∧ Below w.heap.size w w' := by
  have hll := hI.len
  obtain ⟨⟨q, b, l, m⟩, hg⟩ : ∃ s, refGot ls p = s := ⟨_, rfl⟩
  have hget : ∀ W B, B ≤ W.heap.size → SeenAt W B A n ls → Calls Try.prog 36 #[.slice A n c, .int .i64 p] W fun e w' => e = .returned (.agg #[.int .i64 q, .int .i64 b, .int .i64 l, .int .i64 m]) ∧ Below W.heap.size W w' := fun W B hB hIW => by
    have h := refGet_any W B A n c ls p (by omega) hIW hB
    rw [hg] at h
    exact h
  have Hget := Lib.hid hget
  clear hget
  rw [hg]
  go_enter Try.func38, Try.ntmps38
  by_cases hl : later boot life b l = true
  · have hs : seeS ⟨q, b, l, m⟩ boot life = ⟨q, boot, life, m⟩ := by simp [seeS, hl]
    have Hs := Lib.hid hs
    clear hs
    go_wp2_with (first
      | (go_at_call 36; refine (Hget.out _ w.heap.size (Nat.le_refl _) hI).mono ?_; rintro e w2 ⟨rfl, hb2⟩)
      | (go_at_call 46; refine (refLater_any _ _ _ _ _).mono ?_; rintro e w3 ⟨rfl, rfl⟩)
      | (go_at_call 69; refine (refPut_any _ A n c ls _ _ _ _ hn hnc ((hI.below (hb2.alloc hb2.size _)).more (by have := hb2.size; simp; omega))).mono ?_; rintro e w4 ⟨v4, rfl, hown4, hb4⟩))
    go_ret
    rw [Hs.out]
    exact ⟨_, rfl, hown4.mono (by have := hb2.size; simp; omega), (hb2.alloc hb2.size _).trans (hb4.mono (by have := hb2.size; simp; omega))⟩
  · have hs : seeS ⟨q, b, l, m⟩ boot life = ⟨q, b, l, m⟩ := by simp [seeS, hl]
    have Hs := Lib.hid hs
    clear hs
    go_wp2_with (first
      | (go_at_call 36; refine (Hget.out _ w.heap.size (Nat.le_refl _) hI).mono ?_; rintro e w2 ⟨rfl, hb2⟩)
      | (go_at_call 46; refine (refLater_any _ _ _ _ _).mono ?_; rintro e w3 ⟨rfl, rfl⟩)
      | (go_at_call 69; refine (refPut_any _ A n c ls _ _ _ _ hn hnc ((hI.below (hb2.alloc hb2.size _)).more (by have := hb2.size; simp; omega))).mono ?_; rintro e w4 ⟨v4, rfl, hown4, hb4⟩))
    go_ret
    rw [Hs.out]
    exact ⟨_, rfl, hown4.mono (by have := hb2.size; simp; omega), (hb2.alloc hb2.size _).trans (hb4.mono (by have := hb2.size; simp; omega))⟩

set_option maxRecDepth 100000 in
set_option maxHeartbeats 4000000 in
theorem refDropped_any (w : World) (A : Option Addr) (n c : Nat) (ls : List Seen) (p : Int) (hn : n ≤ 100000000000) (hnc : n ≤ c) (hm : (refGot ls p).mine < 9223372036854775807) (hm0 : -9223372036854775808 ≤ (refGot ls p).mine) (hI : SeenAt w w.heap.size A n ls) :
    Calls Try.prog 39 #[.slice A n c, .int .i64 p] w fun e w' =>
      ∃ v, e = .returned v ∧ w'.ownsRow w.heap.size 60 4 v (putS ls (dropS (refGot ls p))).length (rowCells (putS ls (dropS (refGot ls p)))) ∧ Below w.heap.size w w' := by
  have hll := hI.len
  obtain ⟨⟨q, b, l, m⟩, hg⟩ : ∃ s, refGot ls p = s := ⟨_, rfl⟩
  have hget : ∀ W B, B ≤ W.heap.size → SeenAt W B A n ls → Calls Try.prog 36 #[.slice A n c, .int .i64 p] W fun e w' => e = .returned (.agg #[.int .i64 q, .int .i64 b, .int .i64 l, .int .i64 m]) ∧ Below W.heap.size W w' := fun W B hB hIW => by
    have h := refGet_any W B A n c ls p (by omega) hIW hB
    rw [hg] at h
    exact h
  have Hget := Lib.hid hget
  clear hget
  rw [hg] at hm hm0 ⊢
  have hw : IntKind.i64.wrap (m + 1) = m + 1 := by rw [IntKind.wrap_i64]; dsimp only at hm hm0; omega
  go_enter Try.func39, Try.ntmps39
  by_cases hl : 1099511627776 < m + 1
  · have hs : dropS ⟨q, b, l, m⟩ = ⟨q, b, l, 1099511627776⟩ := by unfold dropS; dsimp only; rw [show min (m + 1) 1099511627776 = 1099511627776 by omega]
    have Hs := Lib.hid hs
    clear hs
    go_wp2_with (first
      | (go_at_call 36; refine (Hget.out _ w.heap.size (Nat.le_refl _) hI).mono ?_; rintro e w2 ⟨rfl, hb2⟩)
      | (go_at_call 46; refine (refLater_any _ _ _ _ _).mono ?_; rintro e w3 ⟨rfl, rfl⟩)
      | (go_at_call 69; refine (refPut_any _ A n c ls _ _ _ _ hn hnc ((hI.below (hb2.alloc hb2.size _)).more (by have := hb2.size; simp; omega))).mono ?_; rintro e w4 ⟨v4, rfl, hown4, hb4⟩))
    go_ret
    rw [Hs.out]
    exact ⟨_, rfl, hown4.mono (by have := hb2.size; simp; omega), (hb2.alloc hb2.size _).trans (hb4.mono (by have := hb2.size; simp; omega))⟩
  · have hs : dropS ⟨q, b, l, m⟩ = ⟨q, b, l, m + 1⟩ := by unfold dropS; dsimp only; rw [show min (m + 1) 1099511627776 = m + 1 by omega]
    have Hs := Lib.hid hs
    clear hs
    go_wp2_with (first
      | (go_at_call 36; refine (Hget.out _ w.heap.size (Nat.le_refl _) hI).mono ?_; rintro e w2 ⟨rfl, hb2⟩)
      | (go_at_call 46; refine (refLater_any _ _ _ _ _).mono ?_; rintro e w3 ⟨rfl, rfl⟩)
      | (go_at_call 69; refine (refPut_any _ A n c ls _ _ _ _ hn hnc ((hI.below (hb2.alloc hb2.size _)).more (by have := hb2.size; simp; omega))).mono ?_; rintro e w4 ⟨v4, rfl, hown4, hb4⟩))
    go_ret
    rw [Hs.out]
    exact ⟨_, rfl, hown4.mono (by have := hb2.size; simp; omega), (hb2.alloc hb2.size _).trans (hb4.mono (by have := hb2.size; simp; omega))⟩

end Go.Proofs.Ytkbcnapfcojekaa
