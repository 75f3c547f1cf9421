/-
  Layer 14 (shake): with, See, Dropped.
-/
import Derived.Test.YtkbcnapfcojekaaShakeB
import Derived.Deep.Onto
namespace Go.Proofs.Ytkbcnapfcojekaa
open Go.ChangeShapes Go.WideShapes Go.ChangeAt Go.RowKit Go.Shelf Go.Ed

/-- what See makes of a sight -/
def seeS (s : Seen) (boot life : Int) : Seen := if later boot life s.boot s.life then { s with boot := boot, life := life } else s
/-- what Dropped makes of it -/
def dropS (s : Seen) : Seen := { s with mine := min (s.mine + 1) 1099511627776 }

theorem cells4 {w : World} {g : Nat} {t : TypeId} {a b c d : Value} (h : Blk w g t #[a, b, c, d]) : w.cell? ⟨g, 0, none⟩ = some a ∧ w.cell? ⟨g, 1, none⟩ = some b ∧ w.cell? ⟨g, 2, none⟩ = some c ∧ w.cell? ⟨g, 3, none⟩ = some d :=
  ⟨h.cell 0, h.cell 1, h.cell 2, h.cell 3⟩
theorem frozen4 {w : World} {g : Nat} {t : TypeId} {cs : Array Value} (h : Blk w g t cs) : w.frozen? ⟨g, 0, none⟩ = false ∧ w.frozen? ⟨g, 1, none⟩ = false ∧ w.frozen? ⟨g, 2, none⟩ = false ∧ w.frozen? ⟨g, 3, none⟩ = false :=
  ⟨h.frozen 0, h.frozen 1, h.frozen 2, h.frozen 3⟩

set_option maxRecDepth 100000 in
theorem dropF_any (w : World) (g : Nat) (p b l m : Int) (hm : m < 9223372036854775807) (hm0 : -9223372036854775808 ≤ m) (hB : Blk w g 106 #[.int .i64 b, .int .i64 l, .int .i64 p, .int .i64 m]) :
    Calls Try.prog 66 #[.pointer (some ⟨g, 0, none⟩)] w fun e w' => (∃ v, e = .returned v) ∧ Blk w' g 106 #[.int .i64 b, .int .i64 l, .int .i64 p, .int .i64 (min (m + 1) 1099511627776)] ∧ Chg (· = g) w w' := by
  obtain ⟨c0, c1, c2, c3⟩ := cells4 hB
  obtain ⟨f0, f1, f2, f3⟩ := frozen4 hB
  have hw : IntKind.i64.wrap (m + 1) = m + 1 := by rw [IntKind.wrap_i64]; omega
  have HB := Lib.hid hB
  clear hB
  go_enter Try.func66, Try.ntmps66
  go_wp2
  · go_returns
    refine ⟨⟨_, rfl⟩, ?_, ((Chg.refl (· = g) w).setCell (p := ⟨g, 3, none⟩) (fun _ => rfl) _)⟩
    rw [show min (m + 1) 1099511627776 = 1099511627776 by omega]
    exact HB.out.set_ 3 _
  · go_returns
    refine ⟨⟨_, rfl⟩, ?_, ((Chg.refl (· = g) w).setCell (p := ⟨g, 3, none⟩) (fun _ => rfl) _)⟩
    rw [show min (m + 1) 1099511627776 = m + 1 by omega]
    exact HB.out.set_ 3 _

set_option maxRecDepth 100000 in
theorem seeF_any (w : World) (g bB lB : Nat) (p b l m boot life : Int) (hB : Blk w g 106 #[.int .i64 b, .int .i64 l, .int .i64 p, .int .i64 m]) (hb : w.cell? ⟨bB, 0, none⟩ = some (.int .i64 boot)) (hl : w.cell? ⟨lB, 0, none⟩ = some (.int .i64 life)) :
    Calls Try.prog 64 #[.pointer (some ⟨g, 0, none⟩), .pointer (some ⟨bB, 0, none⟩), .pointer (some ⟨lB, 0, none⟩)] w fun e w' => (∃ v, e = .returned v) ∧
      Blk w' g 106 #[.int .i64 (seeS ⟨p, b, l, m⟩ boot life).boot, .int .i64 (seeS ⟨p, b, l, m⟩ boot life).life, .int .i64 p, .int .i64 m] ∧ Chg (· = g) w w' := by
  obtain ⟨c0, c1, c2, c3⟩ := cells4 hB
  obtain ⟨f0, f1, f2, f3⟩ := frozen4 hB
  have HB := Lib.hid hB
  have hlt := hB.lt
  clear hB
  go_enter Try.func64, Try.ntmps64
  go_wp2
  obtain ⟨W1, hW1⟩ : ∃ W1, W1 = w.alloc (.cells #[.int .i64 boot, .int .i64 life] 103) := ⟨_, rfl⟩
  have hB1 : Blk W1 g 106 #[.int .i64 b, .int .i64 l, .int .i64 p, .int .i64 m] := by rw [hW1]; exact HB.out.alloc _
  have hN1 : Blk W1 w.heap.size 103 #[.int .i64 boot, .int .i64 life] := by rw [hW1]; exact Blk.new _ _ _
  have hC1 : Chg (· = g) w W1 := by rw [hW1]; exact (Chg.refl _ _).alloc _
  rw [← hW1]
  clear hW1 c0 c1 c2 c3 f0 f1 f2 f3 hb hl
  obtain ⟨c0, c1, c2, c3⟩ := cells4 hB1
  have d0 : W1.cell? ⟨w.heap.size, 0, none⟩ = some (.int .i64 boot) := hN1.cell 0
  have d1 : W1.cell? ⟨w.heap.size, 1, none⟩ = some (.int .i64 life) := hN1.cell 1
  have HB1 := Lib.hid hB1
  have HN1 := Lib.hid hN1
  clear hB1 hN1
  go_still_tail 5, (by kernel_rfl)
  change wpList _ _ _ _ _ W1.drew
  by_cases hlt2 : later boot life b l = true
  · have hs : seeS ⟨p, b, l, m⟩ boot life = ⟨p, boot, life, m⟩ := by simp [seeS, hlt2]
    have Hs := Lib.hid hs
    clear hs
    go_wp2_with (go_at_call 65; refine (stamp_later _ _ _ _ _).mono ?_; rintro e w3 ⟨rfl, hb3⟩; have hB3 : Blk w3 g 106 #[.int .i64 b, .int .i64 l, .int .i64 p, .int .i64 m] := HB1.out.drew.below hb3 HB1.out.lt; have hN3 : Blk w3 w.heap.size 103 #[.int .i64 boot, .int .i64 life] := HN1.out.drew.below hb3 HN1.out.lt; obtain ⟨r0, r1, r2, r3⟩ := cells4 hB3; obtain ⟨f0, f1, f2, f3⟩ := frozen4 hB3; have e0 : w3.cell? ⟨w.heap.size, 0, none⟩ = some (.int .i64 boot) := hN3.cell 0; have e1 : w3.cell? ⟨w.heap.size, 1, none⟩ = some (.int .i64 life) := hN3.cell 1; have HB3 := Lib.hid hB3; clear hB3 hN3 c0 c1 c2 c3)
    go_returns
    rw [Hs.out]
    refine ⟨⟨_, rfl⟩, (HB3.out.set_ 0 _).set_ 1 _, ?_⟩
    exact ((hC1.drew.trans (Chg.of_below hb3 _)).setCell (p := ⟨g, 0, none⟩) (fun _ => rfl) _).setCell (p := ⟨g, 1, none⟩) (fun _ => rfl) _
  · have hs : seeS ⟨p, b, l, m⟩ boot life = ⟨p, b, l, m⟩ := by simp [seeS, hlt2]
    have Hs := Lib.hid hs
    clear hs
    go_wp2_with (go_at_call 65; refine (stamp_later _ _ _ _ _).mono ?_; rintro e w3 ⟨rfl, hb3⟩; have hB3 : Blk w3 g 106 #[.int .i64 b, .int .i64 l, .int .i64 p, .int .i64 m] := HB1.out.drew.below hb3 HB1.out.lt; have hN3 : Blk w3 w.heap.size 103 #[.int .i64 boot, .int .i64 life] := HN1.out.drew.below hb3 HN1.out.lt; obtain ⟨r0, r1, r2, r3⟩ := cells4 hB3; obtain ⟨f0, f1, f2, f3⟩ := frozen4 hB3; have e0 : w3.cell? ⟨w.heap.size, 0, none⟩ = some (.int .i64 boot) := hN3.cell 0; have e1 : w3.cell? ⟨w.heap.size, 1, none⟩ = some (.int .i64 life) := hN3.cell 1; have HB3 := Lib.hid hB3; clear hB3 hN3 c0 c1 c2 c3)
    go_returns
    rw [Hs.out]
    exact ⟨⟨_, rfl⟩, HB3.out, hC1.drew.trans (Chg.of_below hb3 _)⟩

/-- the list with what was seen of a peer put as s -/
def setS (l : List Seen) (p : Int) (s : Seen) : List Seen :=
  if s = got l p then l else if has l p then l.take (seek l p) ++ s :: l.drop (seek l p + 1) else l.take (seek l p) ++ s :: l.drop (seek l p)

theorem sight_eq (b l q m b' l' m' : Int) (W : World) : Sem.run Try.prog (binOp .eql 106 (.agg #[.int .i64 b', .int .i64 l', .int .i64 q, .int .i64 m']) (.agg #[.int .i64 b, .int .i64 l, .int .i64 q, .int .i64 m])) W = .ok (.bool (b' == b && (l' == l && m' == m))) W := by
  rw [run_eql_struct]
  by_cases h1 : b' = b <;> by_cases h2 : l' = l <;> by_cases h3 : m' = m <;> simp [go_sem, run_equalIn_agg, run_equalIn_int, h1, h2, h3]

theorem rowCells_ins (l : List Seen) (k : Nat) (s : Seen) : rowCells (l.take k ++ s :: l.drop k) = (rowCells l).take (k * 4) ++ s.cells ++ (rowCells l).drop (k * 4) := by
  rw [rowCells_take, rowCells_drop, rowCells_append]
  simp [rowCells]

theorem with_mid {w w1 w2 w3 : World} {X Y : Obj} {n c1 : Nat} {A1 : Option Addr} {e : TypeId} {xs : List Value} (hown1 : w1.ownsRow w.heap.size e 4 (.slice A1 n c1) n xs) (hb1 : Below w.heap.size w w1) (hb2 : Below w1.heap.size w1 w2)
    (hC3 : Chg (· = w2.heap.size) ((w2.alloc X).alloc Y) w3) : w3.ownsRow w.heap.size e 4 (.slice A1 n c1) n xs ∧ Below w.heap.size w w3 := by
  have s1 := hb1.size
  have s2 := hb2.size
  have h2 : Below w.heap.size w ((w2.alloc X).alloc Y) := ((hb1.trans (hb2.mono s1)).alloc (by omega) _).alloc (by simp; omega) _
  refine ⟨?_, h2.trans (hC3.below (fun i h => by subst h; omega) (by simp; omega))⟩
  have h3 : w2.ownsRow w.heap.size e 4 (.slice A1 n c1) n xs := own_below hown1 hb2 fun g hg => (hown1.lt g hg).2
  exact own_chg ((h3.alloc X).alloc Y) hC3 fun g hg e => by have := (hown1.lt g hg).2; omega

set_option maxRecDepth 100000 in
set_option maxHeartbeats 2000000 in
theorem with_see (w : World) (A : Option Addr) (n c : Nat) (ls : List Seen) (p : Int) (x y : Value) {q b l m b' l' m' : Int} (hn : n ≤ 1000000000000) (hn0 : A = none → n = 0) (hI : SeenAt w w.heap.size A n ls) (hgot : got ls p = ⟨q, b, l, m⟩)
    (hf : ∀ W g, Below w.heap.size w W → w.heap.size ≤ g → Blk W g 106 #[.int .i64 b, .int .i64 l, .int .i64 q, .int .i64 m] → Calls Try.prog 64 #[.pointer (some ⟨g, 0, none⟩), x, y] W fun e W' =>
      (∃ v, e = .returned v) ∧ Blk W' g 106 #[.int .i64 b', .int .i64 l', .int .i64 q, .int .i64 m'] ∧ Chg (· = g) W W') :
    Calls Try.prog 63 #[.slice A n c, .int .i64 p, .func (.func 64) #[] #[x, y]] w fun e w' =>
      ∃ v, e = .returned v ∧ w'.ownsRow w.heap.size 60 4 v (setS ls p ⟨q, b', l', m'⟩).length (rowCells (setS ls p ⟨q, b', l', m'⟩)) ∧ Below w.heap.size w w' := by
  have hll := hI.len
  have hseek := seek_le ls p
  by_cases hs : b = b' ∧ l = l' ∧ m = m'
  · obtain ⟨rfl, rfl, rfl⟩ := hs
    go_enter Try.func63, Try.ntmps63
    go_wp2_with (first
      | (go_at_call 82; refine (clone_any _ _ _ _ (rowCells ls) hn0 hn (rowCells_one ls) hI).mono ?_; rintro e w1 ⟨v1, rfl, hown1, hb1⟩; obtain ⟨A1, c1, rfl, hc1, hA1⟩ := own_slice hown1)
      | (go_at_call 67; refine (find_as _ _ _ _ ls _ ?_ ?_ hgot).mono ?_; (· omega); (· exact (hI.below hb1).more hb1.size); rintro e w2 ⟨rfl, hb2⟩)
      | (go_at_call 64; refine (hf _ w2.heap.size ?_ ?_ ?_).mono ?_; (· exact (with_mid hown1 hb1 hb2 (Chg.refl _ _)).2); (· have := hb1.size; have := hb2.size; omega); (· exact (Blk.new w2 _ _).alloc _); rintro e w3 ⟨⟨v3, rfl⟩, hB3, hC3⟩; obtain ⟨hown3, hb3⟩ := with_mid hown1 hb1 hb2 hC3; have hD3 : Blk w3 (w2.heap.size + 1) 106 #[.int .i64 b, .int .i64 l, .int .i64 q, .int .i64 m] := (Blk.new' (w := w2.alloc _) (by simp)).chg hC3 (by omega); obtain ⟨r0, r1, r2, r3⟩ := cells4 hB3; obtain ⟨d0, d1, d2, d3⟩ := cells4 hD3; clear hB3 hD3))
    go_ret
    have e : setS ls p ⟨q, b, l, m⟩ = ls := by unfold setS; rw [if_pos hgot.symm]
    rw [e, hll]
    exact ⟨_, rfl, hown3, hb3⟩
  · have hne : ¬ ((⟨q, b', l', m'⟩ : Seen) = got ls p) := by
      rw [hgot]
      intro e
      injection e with e1 e2 e3 e4
      exact hs ⟨e2.symm, e3.symm, e4.symm⟩
    have heq : ∀ W, Sem.run Try.prog (binOp .eql 106 (.agg #[.int .i64 b', .int .i64 l', .int .i64 q, .int .i64 m']) (.agg #[.int .i64 b, .int .i64 l, .int .i64 q, .int .i64 m])) W = .ok (.bool false) W := by
      intro W
      rw [sight_eq, show (b' == b && (l' == l && m' == m)) = false by simpa using fun x y z => hs ⟨x.symm, y.symm, z.symm⟩]
    by_cases hh : has ls p = true
    · have hsl : seek ls p < ls.length := by
        rcases Nat.lt_or_ge (seek ls p) ls.length with h | h
        · exact h
        · unfold has at hh
          rw [List.getElem?_eq_none h] at hh
          cases hh
      have e : setS ls p ⟨q, b', l', m'⟩ = ls.take (seek ls p) ++ ⟨q, b', l', m'⟩ :: ls.drop (seek ls p + 1) := by unfold setS; rw [if_neg hne, if_pos hh]
      rw [e]
      have He := Lib.hid e
      have hk1 : ((seek ls p : Nat) : Int) < (n : Int) := by omega
      have hk2 : (0 : Int) ≤ ((seek ls p : Nat) : Int) := by omega
      clear e hs hne
      go_enter Try.func63, Try.ntmps63
      go_wp2_with (first
        | (go_at_call 82; refine (clone_any _ _ _ _ (rowCells ls) hn0 hn (rowCells_one ls) hI).mono ?_; rintro e w1 ⟨v1, rfl, hown1, hb1⟩; obtain ⟨g, c1, rfl, hbg, hgl⟩ := hown1.form (by omega))
        | (go_at_call 67; refine (find_as _ _ _ _ ls _ ?_ ?_ hgot).mono ?_; (· omega); (· exact (hI.below hb1).more hb1.size); rintro e w2 ⟨rfl, hb2⟩)
        | (go_at_call 64; refine (hf _ w2.heap.size ?_ ?_ ?_).mono ?_; (· exact (with_mid hown1 hb1 hb2 (Chg.refl _ _)).2); (· have := hb1.size; have := hb2.size; omega); (· exact (Blk.new w2 _ _).alloc _); rintro e w3 ⟨⟨v3, rfl⟩, hB3, hC3⟩; obtain ⟨hown3, hb3⟩ := with_mid hown1 hb1 hb2 hC3; have hD3 : Blk w3 (w2.heap.size + 1) 106 #[.int .i64 b, .int .i64 l, .int .i64 q, .int .i64 m] := (Blk.new' (w := w2.alloc _) (by simp)).chg hC3 (by omega); obtain ⟨r0, r1, r2, r3⟩ := cells4 hB3; obtain ⟨d0, d1, d2, d3⟩ := cells4 hD3; clear hB3 hD3)
        | (go_at_call 68; refine (plain_as _ _ _ _ _).mono ?_; rintro e w4 ⟨rfl, hb4⟩; have hown4 := own_below hown3 hb4 (fun g hg => (hown3.lt g hg).2); obtain ⟨cur, hcb, -, hnc, hcm, hcl, hcx⟩ := own_blk hown4; obtain ⟨D, hD⟩ : ∃ D : List Value, D = cur.take (seek ls p * 4) ++ [Value.int .i64 q, Value.int .i64 b', Value.int .i64 l', Value.int .i64 m'] ++ cur.drop (seek ls p * 4 + 4) := ⟨_, rfl⟩)
        | ((with_reducible refine go_store_as (off := seek ls p * 4) (vs := #[.int .i64 q, .int .i64 b', .int .i64 l', .int .i64 m']) D.toArray agg_Seen hcb ?b1 ?b2 ?b3 ?b4 ?b5 ?b6 ?_); (case b1 => rfl); (case b2 => rfl); (case b3 => rfl); (case b4 => (rw [List.size_toArray]; omega)); (case b5 => simp [Value.oneCell']); (case b6 => (rw [hD])); intro w5 hB5 hC5))
      go_ret
      have hl : (ls.take (seek ls p) ++ ⟨q, b', l', m'⟩ :: ls.drop (seek ls p + 1)).length = n := by simp; omega
      rw [hl, rowCells_set ls _ hsl]
      refine ⟨_, rfl, ?_, (hb3.trans (hb4.mono hb3.size)).trans (hC5.below (fun i h => by subst h; exact hbg) (by have := hb4.size; have := hb3.size; omega))⟩
      rw [hD] at hB5
      refine own_of_blk hB5 hbg hnc hcm ?_ ?_
      · simp only [List.length_append, List.length_take, List.length_drop, List.length_cons, List.length_nil]; omega
      · rw [take_put (by omega) hcx (by omega) rfl, List.append_assoc]
        rfl
    · have hh' : has ls p = false := by simpa using hh
      have e : setS ls p ⟨q, b', l', m'⟩ = ls.take (seek ls p) ++ ⟨q, b', l', m'⟩ :: ls.drop (seek ls p) := by unfold setS; rw [if_neg hne, if_neg hh]
      rw [e]
      clear e hs hne hh
      go_enter Try.func63, Try.ntmps63
      go_wp2_with (first
        | (go_at_call 82; refine (clone_any _ _ _ _ (rowCells ls) hn0 hn (rowCells_one ls) hI).mono ?_; rintro e w1 ⟨v1, rfl, hown1, hb1⟩; obtain ⟨A1, c1, rfl, hc1, hA1⟩ := own_slice hown1)
        | (go_at_call 67; refine (find_as _ _ _ _ ls _ ?_ ?_ hgot).mono ?_; (· omega); (· exact (hI.below hb1).more hb1.size); rintro e w2 ⟨rfl, hb2⟩)
        | (go_at_call 64; refine (hf _ w2.heap.size ?_ ?_ ?_).mono ?_; (· exact (with_mid hown1 hb1 hb2 (Chg.refl _ _)).2); (· have := hb1.size; have := hb2.size; omega); (· exact (Blk.new w2 _ _).alloc _); rintro e w3 ⟨⟨v3, rfl⟩, hB3, hC3⟩; obtain ⟨hown3, hb3⟩ := with_mid hown1 hb1 hb2 hC3; have hD3 : Blk w3 (w2.heap.size + 1) 106 #[.int .i64 b, .int .i64 l, .int .i64 q, .int .i64 m] := (Blk.new' (w := w2.alloc _) (by simp)).chg hC3 (by omega); obtain ⟨r0, r1, r2, r3⟩ := cells4 hB3; obtain ⟨d0, d1, d2, d3⟩ := cells4 hD3; clear hB3 hD3)
        | (go_at_call 68; refine (plain_as _ _ _ _ _).mono ?_; rintro e w4 ⟨rfl, hb4⟩; have hown4 := own_below hown3 hb4 (fun g hg => (hown3.lt g hg).2))
        | (go_at_call 83; refine (insert_own _ w.heap.size A1 n c1 (seek ls p) w4.heap.size (rowCells ls) [.int .i64 q, .int .i64 b', .int .i64 l', .int .i64 m'] (hown4.alloc _) ?_ ?_ hn (Blk.new _ _ _) rfl ?_ ?_ (rowCells_one ls)).mono ?_; (· have := hb3.size; have := hb4.size; simp; omega); (· omega); (· intro ad e; subst e; have := (hown4.lt ad.block rfl).2; omega); (· simp [Value.oneCell']); rintro e w5 ⟨v5, rfl, hown5, hb5⟩))
      go_ret
      have hl : (ls.take (seek ls p) ++ ⟨q, b', l', m'⟩ :: ls.drop (seek ls p)).length = n + 1 := by simp; omega
      rw [hl, rowCells_ins]
      exact ⟨_, rfl, hown5, ((hb3.trans (hb4.mono hb3.size)).alloc (by have := hb3.size; have := hb4.size; omega) _).trans hb5⟩

set_option maxRecDepth 100000 in
set_option maxHeartbeats 2000000 in
theorem with_drop (w : World) (A : Option Addr) (n c : Nat) (ls : List Seen) (p : Int) {q b l m b' l' m' : Int} (hn : n ≤ 1000000000000) (hn0 : A = none → n = 0) (hI : SeenAt w w.heap.size A n ls) (hgot : got ls p = ⟨q, b, l, m⟩)
    (hf : ∀ W g, Below w.heap.size w W → w.heap.size ≤ g → Blk W g 106 #[.int .i64 b, .int .i64 l, .int .i64 q, .int .i64 m] → Calls Try.prog 66 #[.pointer (some ⟨g, 0, none⟩)] W fun e W' =>
      (∃ v, e = .returned v) ∧ Blk W' g 106 #[.int .i64 b', .int .i64 l', .int .i64 q, .int .i64 m'] ∧ Chg (· = g) W W') :
    Calls Try.prog 63 #[.slice A n c, .int .i64 p, .func (.func 66) #[] #[]] w fun e w' =>
      ∃ v, e = .returned v ∧ w'.ownsRow w.heap.size 60 4 v (setS ls p ⟨q, b', l', m'⟩).length (rowCells (setS ls p ⟨q, b', l', m'⟩)) ∧ Below w.heap.size w w' := by
  have hll := hI.len
  have hseek := seek_le ls p
  by_cases hs : b = b' ∧ l = l' ∧ m = m'
  · obtain ⟨rfl, rfl, rfl⟩ := hs
    go_enter Try.func63, Try.ntmps63
    go_wp2_with (first
      | (go_at_call 82; refine (clone_any _ _ _ _ (rowCells ls) hn0 hn (rowCells_one ls) hI).mono ?_; rintro e w1 ⟨v1, rfl, hown1, hb1⟩; obtain ⟨A1, c1, rfl, hc1, hA1⟩ := own_slice hown1)
      | (go_at_call 67; refine (find_as _ _ _ _ ls _ ?_ ?_ hgot).mono ?_; (· omega); (· exact (hI.below hb1).more hb1.size); rintro e w2 ⟨rfl, hb2⟩)
      | (go_at_call 66; refine (hf _ w2.heap.size ?_ ?_ ?_).mono ?_; (· exact (with_mid hown1 hb1 hb2 (Chg.refl _ _)).2); (· have := hb1.size; have := hb2.size; omega); (· exact (Blk.new w2 _ _).alloc _); rintro e w3 ⟨⟨v3, rfl⟩, hB3, hC3⟩; obtain ⟨hown3, hb3⟩ := with_mid hown1 hb1 hb2 hC3; have hD3 : Blk w3 (w2.heap.size + 1) 106 #[.int .i64 b, .int .i64 l, .int .i64 q, .int .i64 m] := (Blk.new' (w := w2.alloc _) (by simp)).chg hC3 (by omega); obtain ⟨r0, r1, r2, r3⟩ := cells4 hB3; obtain ⟨d0, d1, d2, d3⟩ := cells4 hD3; clear hB3 hD3))
    go_ret
    have e : setS ls p ⟨q, b, l, m⟩ = ls := by unfold setS; rw [if_pos hgot.symm]
    rw [e, hll]
    exact ⟨_, rfl, hown3, hb3⟩
  · have hne : ¬ ((⟨q, b', l', m'⟩ : Seen) = got ls p) := by
      rw [hgot]
      intro e
      injection e with e1 e2 e3 e4
      exact hs ⟨e2.symm, e3.symm, e4.symm⟩
    have heq : ∀ W, Sem.run Try.prog (binOp .eql 106 (.agg #[.int .i64 b', .int .i64 l', .int .i64 q, .int .i64 m']) (.agg #[.int .i64 b, .int .i64 l, .int .i64 q, .int .i64 m])) W = .ok (.bool false) W := by
      intro W
      rw [sight_eq, show (b' == b && (l' == l && m' == m)) = false by simpa using fun x y z => hs ⟨x.symm, y.symm, z.symm⟩]
    by_cases hh : has ls p = true
    · have hsl : seek ls p < ls.length := by
        rcases Nat.lt_or_ge (seek ls p) ls.length with h | h
        · exact h
        · unfold has at hh
          rw [List.getElem?_eq_none h] at hh
          cases hh
      have e : setS ls p ⟨q, b', l', m'⟩ = ls.take (seek ls p) ++ ⟨q, b', l', m'⟩ :: ls.drop (seek ls p + 1) := by unfold setS; rw [if_neg hne, if_pos hh]
      rw [e]
      have He := Lib.hid e
      have hk1 : ((seek ls p : Nat) : Int) < (n : Int) := by omega
      have hk2 : (0 : Int) ≤ ((seek ls p : Nat) : Int) := by omega
      clear e hs hne
      go_enter Try.func63, Try.ntmps63
      go_wp2_with (first
        | (go_at_call 82; refine (clone_any _ _ _ _ (rowCells ls) hn0 hn (rowCells_one ls) hI).mono ?_; rintro e w1 ⟨v1, rfl, hown1, hb1⟩; obtain ⟨g, c1, rfl, hbg, hgl⟩ := hown1.form (by omega))
        | (go_at_call 67; refine (find_as _ _ _ _ ls _ ?_ ?_ hgot).mono ?_; (· omega); (· exact (hI.below hb1).more hb1.size); rintro e w2 ⟨rfl, hb2⟩)
        | (go_at_call 66; refine (hf _ w2.heap.size ?_ ?_ ?_).mono ?_; (· exact (with_mid hown1 hb1 hb2 (Chg.refl _ _)).2); (· have := hb1.size; have := hb2.size; omega); (· exact (Blk.new w2 _ _).alloc _); rintro e w3 ⟨⟨v3, rfl⟩, hB3, hC3⟩; obtain ⟨hown3, hb3⟩ := with_mid hown1 hb1 hb2 hC3; have hD3 : Blk w3 (w2.heap.size + 1) 106 #[.int .i64 b, .int .i64 l, .int .i64 q, .int .i64 m] := (Blk.new' (w := w2.alloc _) (by simp)).chg hC3 (by omega); obtain ⟨r0, r1, r2, r3⟩ := cells4 hB3; obtain ⟨d0, d1, d2, d3⟩ := cells4 hD3; clear hB3 hD3)
        | (go_at_call 68; refine (plain_as _ _ _ _ _).mono ?_; rintro e w4 ⟨rfl, hb4⟩; have hown4 := own_below hown3 hb4 (fun g hg => (hown3.lt g hg).2); obtain ⟨cur, hcb, -, hnc, hcm, hcl, hcx⟩ := own_blk hown4; obtain ⟨D, hD⟩ : ∃ D : List Value, D = cur.take (seek ls p * 4) ++ [Value.int .i64 q, Value.int .i64 b', Value.int .i64 l', Value.int .i64 m'] ++ cur.drop (seek ls p * 4 + 4) := ⟨_, rfl⟩)
        | ((with_reducible refine go_store_as (off := seek ls p * 4) (vs := #[.int .i64 q, .int .i64 b', .int .i64 l', .int .i64 m']) D.toArray agg_Seen hcb ?b1 ?b2 ?b3 ?b4 ?b5 ?b6 ?_); (case b1 => rfl); (case b2 => rfl); (case b3 => rfl); (case b4 => (rw [List.size_toArray]; omega)); (case b5 => simp [Value.oneCell']); (case b6 => (rw [hD])); intro w5 hB5 hC5))
      go_ret
      have hl : (ls.take (seek ls p) ++ ⟨q, b', l', m'⟩ :: ls.drop (seek ls p + 1)).length = n := by simp; omega
      rw [hl, rowCells_set ls _ hsl]
      refine ⟨_, rfl, ?_, (hb3.trans (hb4.mono hb3.size)).trans (hC5.below (fun i h => by subst h; exact hbg) (by have := hb4.size; have := hb3.size; omega))⟩
      rw [hD] at hB5
      refine own_of_blk hB5 hbg hnc hcm ?_ ?_
      · simp only [List.length_append, List.length_take, List.length_drop, List.length_cons, List.length_nil]; omega
      · rw [take_put (by omega) hcx (by omega) rfl, List.append_assoc]
        rfl
    · have hh' : has ls p = false := by simpa using hh
      have e : setS ls p ⟨q, b', l', m'⟩ = ls.take (seek ls p) ++ ⟨q, b', l', m'⟩ :: ls.drop (seek ls p) := by unfold setS; rw [if_neg hne, if_neg hh]
      rw [e]
      clear e hs hne hh
      go_enter Try.func63, Try.ntmps63
      go_wp2_with (first
        | (go_at_call 82; refine (clone_any _ _ _ _ (rowCells ls) hn0 hn (rowCells_one ls) hI).mono ?_; rintro e w1 ⟨v1, rfl, hown1, hb1⟩; obtain ⟨A1, c1, rfl, hc1, hA1⟩ := own_slice hown1)
        | (go_at_call 67; refine (find_as _ _ _ _ ls _ ?_ ?_ hgot).mono ?_; (· omega); (· exact (hI.below hb1).more hb1.size); rintro e w2 ⟨rfl, hb2⟩)
        | (go_at_call 66; refine (hf _ w2.heap.size ?_ ?_ ?_).mono ?_; (· exact (with_mid hown1 hb1 hb2 (Chg.refl _ _)).2); (· have := hb1.size; have := hb2.size; omega); (· exact (Blk.new w2 _ _).alloc _); rintro e w3 ⟨⟨v3, rfl⟩, hB3, hC3⟩; obtain ⟨hown3, hb3⟩ := with_mid hown1 hb1 hb2 hC3; have hD3 : Blk w3 (w2.heap.size + 1) 106 #[.int .i64 b, .int .i64 l, .int .i64 q, .int .i64 m] := (Blk.new' (w := w2.alloc _) (by simp)).chg hC3 (by omega); obtain ⟨r0, r1, r2, r3⟩ := cells4 hB3; obtain ⟨d0, d1, d2, d3⟩ := cells4 hD3; clear hB3 hD3)
        | (go_at_call 68; refine (plain_as _ _ _ _ _).mono ?_; rintro e w4 ⟨rfl, hb4⟩; have hown4 := own_below hown3 hb4 (fun g hg => (hown3.lt g hg).2))
        | (go_at_call 83; refine (insert_own _ w.heap.size A1 n c1 (seek ls p) w4.heap.size (rowCells ls) [.int .i64 q, .int .i64 b', .int .i64 l', .int .i64 m'] (hown4.alloc _) ?_ ?_ hn (Blk.new _ _ _) rfl ?_ ?_ (rowCells_one ls)).mono ?_; (· have := hb3.size; have := hb4.size; simp; omega); (· omega); (· intro ad e; subst e; have := (hown4.lt ad.block rfl).2; omega); (· simp [Value.oneCell']); rintro e w5 ⟨v5, rfl, hown5, hb5⟩))
      go_ret
      have hl : (ls.take (seek ls p) ++ ⟨q, b', l', m'⟩ :: ls.drop (seek ls p)).length = n + 1 := by simp; omega
      rw [hl, rowCells_ins]
      exact ⟨_, rfl, hown5, ((hb3.trans (hb4.mono hb3.size)).alloc (by have := hb3.size; have := hb4.size; omega) _).trans hb5⟩


theorem got_peer (l : List Seen) (p : Int) : (got l p).peer = p := by
  unfold got
  split
  · split
    · assumption
    · rfl
  · rfl

set_option maxRecDepth 100000 in
theorem See_any (w : World) (A : Option Addr) (n c : Nat) (ls : List Seen) (p boot life : Int) (hn : n ≤ 1000000000000) (hn0 : A = none → n = 0) (hI : SeenAt w w.heap.size A n ls) :
    Calls Try.prog 33 #[.slice A n c, .int .i64 p, .int .i64 boot, .int .i64 life] w fun e w' =>
      ∃ v, e = .returned v ∧ w'.ownsRow w.heap.size 60 4 v (setS ls p (seeS (got ls p) boot life)).length (rowCells (setS ls p (seeS (got ls p) boot life))) ∧ Below w.heap.size w w' := by
  obtain ⟨⟨q, b, l, m⟩, hg⟩ : ∃ s, got ls p = s := ⟨_, rfl⟩
  have he : seeS ⟨q, b, l, m⟩ boot life = ⟨q, (seeS ⟨q, b, l, m⟩ boot life).boot, (seeS ⟨q, b, l, m⟩ boot life).life, m⟩ := by unfold seeS; split <;> rfl
  rw [hg, he]
  go_enter Try.func33, Try.ntmps33
  have h0 : Below w.heap.size w ((w.alloc (.cells #[.int .i64 boot] 2)).alloc (.cells #[.int .i64 life] 2)) := ((Below.refl _ w).alloc (Nat.le_refl _) _).alloc (by simp) _
  go_wp2_with (go_at_call 63; refine (with_see _ A n c ls p _ _ hn hn0 ((hI.below h0).more (by simp; omega)) hg (fun W g hW hgB hB => seeF_any W g _ _ _ _ _ _ boot life hB ?_ ?_)).mono ?_; (· exact (hW.cell (by simp; omega)).trans (((Blk.new w 2 #[.int .i64 boot]).alloc _).cell 0)); (· exact (hW.cell (by simp)).trans ((Blk.new' (t := 2) (cs := #[.int .i64 life]) (by simp)).cell 0)); rintro e w2 ⟨v, rfl, hown, hb⟩)
  go_ret
  exact ⟨_, rfl, hown.mono (by simp; omega), h0.trans (hb.mono (by simp; omega))⟩

set_option maxRecDepth 100000 in
theorem Dropped_any (w : World) (A : Option Addr) (n c : Nat) (ls : List Seen) (p : Int) (hn : n ≤ 1000000000000) (hn0 : A = none → n = 0) (hm : (got ls p).mine < 9223372036854775807) (hm0 : -9223372036854775808 ≤ (got ls p).mine) (hI : SeenAt w w.heap.size A n ls) :
    Calls Try.prog 34 #[.slice A n c, .int .i64 p] w fun e w' =>
      ∃ v, e = .returned v ∧ w'.ownsRow w.heap.size 60 4 v (setS ls p (dropS (got ls p))).length (rowCells (setS ls p (dropS (got ls p)))) ∧ Below w.heap.size w w' := by
  obtain ⟨⟨q, b, l, m⟩, hg⟩ : ∃ s, got ls p = s := ⟨_, rfl⟩
  rw [hg] at hm hm0 ⊢
  simp only [dropS]
  go_enter Try.func34, Try.ntmps34
  go_wp2_with (go_at_call 63; refine (with_drop _ A n c ls p hn hn0 hI hg (fun W g hW hgB hB => dropF_any W g _ _ _ _ hm hm0 hB)).mono ?_; rintro e w2 ⟨v, rfl, hown, hb⟩)
  go_ret
  exact ⟨_, rfl, hown, hb⟩

end Go.Proofs.Ytkbcnapfcojekaa
