/-
  Layer 14 (shake): the document's Same.
-/
import Derived.Test.YtkbcnapfcojekaaShakeB
import Derived.Deep.QuietTactic
import Derived.BigQuiet
namespace Go.Proofs.Ytkbcnapfcojekaa
open Go.ChangeShapes Go.WideShapes Go.ChangeAt Go.RowKit Go.Shelf Go.Ed

theorem seen_ne (q b l m q' b' l' m' : Int) (W : World) : Sem.run Try.prog (binOp .neq 60 (.agg #[.int .i64 q, .int .i64 b, .int .i64 l, .int .i64 m]) (.agg #[.int .i64 q', .int .i64 b', .int .i64 l', .int .i64 m'])) W =
    .ok (.bool (!(q == q' && (b == b' && (l == l' && m == m'))))) W := by
  rw [run_neq_struct]
  by_cases h0 : q = q' <;> by_cases h1 : b = b' <;> by_cases h2 : l = l' <;> by_cases h3 : m = m' <;> simp [go_sem, run_equalIn_agg, run_equalIn_int, h0, h1, h2, h3]

set_option maxRecDepth 100000 in
set_option maxHeartbeats 4000000 in
theorem Same_any (w : World) (B : Nat) (A A' : Option Addr) (n n' c c' : Nat) (ls ls' : List Seen) (hn : (n : Int) ≤ 9223372036854775807) (hI : SeenAt w B A n ls) (hI' : SeenAt w B A' n' ls') :
    Calls Try.prog 37 #[.slice A n c, .slice A' n' c'] w fun e w' => e = .returned (.bool (decide (ls = ls'))) ∧ Below w.heap.size w w' := by
  have hll := hI.len
  have hll' := hI'.len
  by_cases hnn : n = n'
  · subst hnn
    go_enter Try.func37, Try.ntmps37
    go_wp2
    go_loopw [5] (fun i wr => ∃ k : Nat, k ≤ n ∧ i = .int .i64 k ∧ (∀ j (h : j < ls.length) (h' : j < ls'.length), j < k → ls[j] = ls'[j]) ∧ ∃ m, wr = w.drewN m)
      (fun i _ => n - (intOf i).toNat)
    case atStart => exact ⟨0, Nat.zero_le _, rfl, fun j _ _ h => by omega, 0, rfl⟩
    case round =>
      obtain ⟨k, hk, rfl, hok, md, rfl⟩ := hrel
      by_cases hlt : k < n
      · have hlt' : (k : Int) < (n : Int) := by omega
        have hk0 : (0 : Int) ≤ (k : Int) := by omega
        obtain ⟨b, off, rfl, hbn, hcells⟩ := hI.form (by omega)
        obtain ⟨b', off', rfl, hbn', hcells'⟩ := hI'.form (by omega)
        obtain ⟨c0, c1, c2, c3⟩ := hcells k (by omega)
        obtain ⟨e0, e1, e2, e3⟩ := hcells' k (by omega)
        obtain ⟨⟨q, bo, li, mi⟩, hs⟩ : ∃ s, s = ls[k]'(by omega) := ⟨_, rfl⟩
        obtain ⟨⟨q', bo', li', mi'⟩, hs'⟩ : ∃ s, s = ls'[k]'(by omega) := ⟨_, rfl⟩
        rw [← hs] at c0 c1 c2 c3
        rw [← hs'] at e0 e1 e2 e3
        dsimp only at c0 c1 c2 c3 e0 e1 e2 e3
        have Hok := Lib.hid hok
        have Hs := Lib.hid hs
        have Hs' := Lib.hid hs'
        clear hcells hcells' hok hs hs'
        have hne := fun W => seen_ne q bo li mi q' bo' li' mi' W
        by_cases he : (q = q' ∧ bo = bo' ∧ li = li' ∧ mi = mi')
        · have hb : (!(q == q' && (bo == bo' && (li == li' && mi == mi')))) = false := by obtain ⟨h1, h2, h3, h4⟩ := he; simp [h1, h2, h3, h4]
          rw [hb] at hne
          have He := Lib.hid he
          clear he
          go_wp2
          go_quiet (fail)
          go_wp2
          go_roundw
          case rel =>
            exact ⟨k + 1, by omega, by go_num, fun j h h' hj => by
              rcases Nat.lt_or_ge j k with hjk | hjk
              · exact Hok.out j h h' hjk
              · obtain rfl : j = k := by omega
                rw [← Hs.out, ← Hs'.out]
                obtain ⟨h1, h2, h3, h4⟩ := He.out
                rw [h1, h2, h3, h4], _, rfl⟩
          case measure => simp [intOf]; omega
        · have hb : (!(q == q' && (bo == bo' && (li == li' && mi == mi')))) = true := by
            by_cases h1 : q = q' <;> by_cases h2 : bo = bo' <;> by_cases h3 : li = li' <;> by_cases h4 : mi = mi' <;> simp [h1, h2, h3, h4]
            exact he ⟨h1, h2, h3, h4⟩
          rw [hb] at hne
          have He := Lib.hid he
          clear he
          go_wp2
          go_quiet (fail)
          go_wp2
          go_ret
          refine ⟨?_, ⟨rfl, rfl, rfl, Nat.le_refl _, fun _ _ => rfl⟩⟩
          rw [decide_eq_false]
          · rfl
          · intro e
            subst e
            apply He.out
            have := Hs.out.trans Hs'.out.symm
            injection this with h1 h2 h3 h4
            exact ⟨h1, h2, h3, h4⟩
      · obtain rfl : k = n := by omega
        have he : ls = ls' := List.ext_getElem (by omega) fun j h h' => hok j h h' (by omega)
        have He := Lib.hid he
        clear he
        go_wp2
        go_ret
        refine ⟨?_, ⟨rfl, rfl, rfl, Nat.le_refl _, fun _ _ => rfl⟩⟩
        rw [decide_eq_true He.out]
        rfl
  · have hne : ¬ ls = ls' := fun e => by subst e; omega
    have Hne := Lib.hid hne
    clear hne
    go_enter Try.func37, Try.ntmps37
    go_wp2
    go_ret
    refine ⟨?_, Below.refl _ _⟩
    rw [decide_eq_false Hne.out]
    rfl

end Go.Proofs.Ytkbcnapfcojekaa
