/-
  Layer 14 (shake): the small functions, Get.
-/
import Derived.Test.YtkbcnapfcojekaaShakeA
import Derived.Test.YtkbcnapfcojekaaInsert
namespace Go.Proofs.Ytkbcnapfcojekaa
open Go.ChangeShapes Go.WideShapes Go.ChangeAt Go.RowKit Go.Shelf Go.Ed

set_option maxRecDepth 100000 in
theorem stamp_later (w : World) (a b c d : Int) : Calls Try.prog 65 #[.agg #[.int .i64 a, .int .i64 b], .agg #[.int .i64 c, .int .i64 d]] w fun e w' => e = .returned (.bool (later a b c d)) ∧ Below w.heap.size w w' := by
  by_cases h1 : c < a
  · have hr : later a b c d = true := by simp [later, h1]
    rw [hr]
    clear hr
    go_enter Try.func65, Try.ntmps65
    go_wp2
    go_ret
    exact ⟨rfl, by go_grown⟩
  · by_cases h2 : a = c
    · have hr : later a b c d = decide (d < b) := by simp [later, h2]
      rw [hr]
      clear hr
      go_enter Try.func65, Try.ntmps65
      go_wp2
      go_ret
      exact ⟨rfl, by go_grown⟩
    · have hr : later a b c d = false := by simp [later, h1, h2]
      rw [hr]
      clear hr
      go_enter Try.func65, Try.ntmps65
      go_wp2
      go_ret
      exact ⟨rfl, by go_grown⟩

set_option maxRecDepth 100000 in
theorem Later_any (w : World) (a b c d : Int) : Calls Try.prog 40 #[.int .i64 a, .int .i64 b, .int .i64 c, .int .i64 d] w fun e w' => e = .returned (.bool (later a b c d)) ∧ Below w.heap.size w w' := by
  go_enter Try.func40, Try.ntmps40
  go_wp2_with (go_at_call 65; refine (stamp_later _ _ _ _ _).mono ?_; rintro e w' ⟨rfl, hb⟩)
  go_ret
  exact ⟨rfl, hb⟩

set_option maxRecDepth 100000 in
theorem refLater_any (w : World) (a b c d : Int) : Calls Try.prog 46 #[.int .i64 a, .int .i64 b, .int .i64 c, .int .i64 d] w fun e w' => e = .returned (.bool (later a b c d)) ∧ w' = w := by
  by_cases h1 : c < a
  · have hr : later a b c d = true := by simp [later, h1]
    rw [hr]
    clear hr
    go_enter Try.func46, Try.ntmps46
    go_wp2
    go_ret
    exact ⟨rfl, rfl⟩
  · by_cases h2 : a = c
    · have hr : later a b c d = decide (d < b) := by simp [later, h2]
      rw [hr]
      clear hr
      go_enter Try.func46, Try.ntmps46
      go_wp2
      go_ret
      exact ⟨rfl, rfl⟩
    · have hr : later a b c d = false := by simp [later, h1, h2]
      rw [hr]
      clear hr
      go_enter Try.func46, Try.ntmps46
      go_wp2
      go_ret
      exact ⟨rfl, rfl⟩

/-- a node's name -/
def isNode (n : Int) : Bool := decide (0 ≤ n) && decide (n < 16)

set_option maxRecDepth 100000 in
theorem refNode_any (w : World) (n : Int) : Calls Try.prog 62 #[.int .i64 n] w fun e w' => e = .returned (.bool (isNode n)) ∧ w' = w := by
  by_cases h1 : 0 ≤ n
  · have hr : isNode n = decide (n < 16) := by simp [isNode, h1]
    rw [hr]
    clear hr
    go_enter Try.func62, Try.ntmps62
    go_wp2
    go_ret
    exact ⟨rfl, rfl⟩
  · have hr : isNode n = false := by simp [isNode, h1]
    rw [hr]
    clear hr
    go_enter Try.func62, Try.ntmps62
    go_wp2
    go_ret
    exact ⟨rfl, rfl⟩

set_option maxRecDepth 100000 in
theorem lawNode_any (w : World) (n : Int) : Calls Try.prog 29 #[.int .i64 n] w fun e w' => e = .returned (.bool (isNode n)) ∧ w' = w := by
  by_cases h1 : 0 ≤ n
  · have hr : isNode n = decide (n < 16) := by simp [isNode, h1]
    rw [hr]
    clear hr
    go_enter Try.func29, Try.ntmps29
    go_wp2
    go_ret
    exact ⟨rfl, rfl⟩
  · have hr : isNode n = false := by simp [isNode, h1]
    rw [hr]
    clear hr
    go_enter Try.func29, Try.ntmps29
    go_wp2
    go_ret
    exact ⟨rfl, rfl⟩

def isIn (x a b : Int) : Bool := decide (a ≤ x) && decide (x ≤ b)
set_option maxRecDepth 100000 in
theorem within_any (w : World) (x a b : Int) : Calls Try.prog 30 #[.int .i64 x, .int .i64 a, .int .i64 b] w fun e w' => e = .returned (.bool (isIn x a b)) ∧ w' = w := by
  by_cases h1 : a ≤ x
  · have hr : isIn x a b = decide (x ≤ b) := by simp [isIn, h1]
    rw [hr]
    clear hr
    go_enter Try.func30, Try.ntmps30
    go_wp2
    go_ret
    exact ⟨rfl, rfl⟩
  · have hr : isIn x a b = false := by simp [isIn, h1]
    rw [hr]
    clear hr
    go_enter Try.func30, Try.ntmps30
    go_wp2
    go_ret
    exact ⟨rfl, rfl⟩

theorem agg_Seen : Agg Try.prog 60 4 := ⟨_, Try.underlying60, rfl, by kernel_rfl⟩
theorem agg_sight : Agg Try.prog 106 4 := ⟨_, Try.underlying106, rfl, by kernel_rfl⟩
theorem agg_stamp : Agg Try.prog 103 2 := ⟨_, Try.underlying103, rfl, by kernel_rfl⟩

/-- find, the sight's fields named -/
theorem find_as (w : World) (A : Option Addr) (len cap : Nat) (ls : List Seen) (p : Int) (hlen : (len : Int) ≤ 9223372036854775807) (hI : SeenAt w w.heap.size A len ls) {q b l m : Int} (hg : got ls p = ⟨q, b, l, m⟩) :
    Calls Try.prog 67 #[.slice A len cap, .int .i64 p] w fun e w' => e = .returned (.tuple #[.int .i64 (seek ls p : Nat), .agg #[.int .i64 b, .int .i64 l, .int .i64 q, .int .i64 m], .bool (has ls p)]) ∧ Below w.heap.size w w' := by
  have h := find_any w A len cap ls p hlen hI
  rw [hg] at h
  exact h
theorem plain_as (w : World) (q b l m : Int) : Calls Try.prog 68 #[.agg #[.int .i64 b, .int .i64 l, .int .i64 q, .int .i64 m]] w fun e w' => e = .returned (.agg #[.int .i64 q, .int .i64 b, .int .i64 l, .int .i64 m]) ∧ Below w.heap.size w w' :=
  plain_any w ⟨q, b, l, m⟩

theorem get_blk {w w2 w3 : World} {t t' : TypeId} {cs ds : Array Value} (h2 : Below (w.alloc (.cells cs t)).heap.size (w.alloc (.cells cs t)) w2) (h3 : Below (w2.alloc (.cells ds t')).heap.size (w2.alloc (.cells ds t')) w3) :
    Blk w3 w.heap.size t cs ∧ Below w.heap.size w w3 := by
  have hs2 := h2.size
  simp at hs2
  exact ⟨(((Blk.new w t cs).below h2 (by simp)).alloc _).below h3 (by simp; omega),
    (((Below.refl _ w).alloc (Nat.le_refl _) _).trans (h2.mono (by simp))).trans (((Below.refl _ w2).alloc (by omega) _).trans (h3.mono (by simp; omega)))⟩

set_option maxRecDepth 100000 in
theorem Get_any (w : World) (A : Option Addr) (len cap : Nat) (ls : List Seen) (p : Int) (hlen : (len : Int) ≤ 9223372036854775807) (hI : SeenAt w w.heap.size A len ls) :
    Calls Try.prog 35 #[.slice A len cap, .int .i64 p] w fun e w' => e = .returned (got ls p).val ∧ Below w.heap.size w w' := by
  obtain ⟨⟨q, b, l, m⟩, hg⟩ : ∃ s, got ls p = s := ⟨_, rfl⟩
  rw [hg]
  simp only [Seen.val]
  have hI' := hI.below ((Below.refl _ w).alloc (Nat.le_refl _) (.cells #[.int .i64 0, .int .i64 0, .int .i64 0, .int .i64 0] 60))
  go_enter Try.func35, Try.ntmps35
  go_wp2_with (first
    | (go_at_call 67; refine (find_as _ _ _ _ ls _ hlen (hI'.more (by simp)) hg).mono ?_; rintro e w2 ⟨rfl, hb2⟩)
    | (go_at_call 68; refine (plain_as _ _ _ _ _).mono ?_; rintro e w3 ⟨rfl, hb3⟩; obtain ⟨hB, hbw⟩ := get_blk hb2 hb3)
    | ((with_reducible refine go_store_as (off := 0) (vs := #[.int .i64 q, .int .i64 b, .int .i64 l, .int .i64 m]) #[.int .i64 q, .int .i64 b, .int .i64 l, .int .i64 m] agg_Seen hB ?b1 ?b2 ?b3 ?b4 ?b5 ?b6 ?_); (case b1 => rfl); (case b2 => rfl); (case b3 => rfl); (case b4 => simp); (case b5 => simp [Value.oneCell']); (case b6 => rfl);
        intro w4 hB4 hC4))
  refine bodyPost_ret (results_blk rfl agg_Seen hB4 rfl) rfl ?_
  exact ⟨rfl, hbw.trans (hC4.below (fun i h => by subst h; exact Nat.le_refl _) hbw.size)⟩

theorem cell_alloc {w : World} {p : Addr} {u : Value} (h : w.cell? p = some u) (hb : p.block < w.heap.size) (o : Obj) : (w.alloc o).cell? p = some u := (World.cell?_alloc_lt w o p hb).trans h

/-- what the document's Get finds: the first that fits -/
def refGot (l : List Seen) (p : Int) : Seen := (l.find? fun s => s.peer == p).getD ⟨p, 0, 0, 0⟩
theorem find_split {l : List Seen} {p : Int} {k : Nat} (hk : k < l.length) (h : ∀ j (hj : j < l.length), j < k → l[j].peer ≠ p) (h2 : l[k].peer = p) : refGot l p = l[k] := by
  unfold refGot
  have e : l.find? (fun s => s.peer == p) = some l[k] := by
    rw [List.find?_eq_some_iff_getElem]
    exact ⟨by simpa using h2, k, hk, rfl, fun j hj => by simpa using h j (by omega) hj⟩
  rw [e]; rfl
theorem find_not {l : List Seen} {p : Int} (h : ∀ j (hj : j < l.length), l[j].peer ≠ p) : refGot l p = ⟨p, 0, 0, 0⟩ := by
  unfold refGot
  have e : l.find? (fun s => s.peer == p) = none := by
    rw [List.find?_eq_none]
    intro x hx
    obtain ⟨j, hj, rfl⟩ := List.getElem_of_mem hx
    simpa using h j hj
  rw [e]; rfl

set_option maxRecDepth 100000 in
theorem refGet_any (w : World) (B : Nat) (A : Option Addr) (len cap : Nat) (ls : List Seen) (p : Int) (hlen : (len : Int) ≤ 9223372036854775807) (hI : SeenAt w B A len ls) (hB : B ≤ w.heap.size) :
    Calls Try.prog 36 #[.slice A len cap, .int .i64 p] w fun e w' => e = .returned (refGot ls p).val ∧ Below w.heap.size w w' := by
  have hll := hI.len
  go_enter Try.func36, Try.ntmps36
  go_wp2
  go_loop [5] (fun i => ∃ k : Nat, k ≤ len ∧ i = .int .i64 k ∧ ∀ j (hj : j < ls.length), j < k → ls[j].peer ≠ p)
    (fun i => len - (intOf i).toNat)
  case atStart => exact ⟨0, Nat.zero_le _, rfl, fun j _ h => by omega⟩
  case round =>
    obtain ⟨k, hk, rfl, hp⟩ := hrel
    by_cases hlt : k < len
    · have hlt' : (k : Int) < (len : Int) := by omega
      obtain ⟨b, off, rfl, hbn, hcells⟩ := hI.form (by omega)
      obtain ⟨c0, c1, c2, c3⟩ := hcells k (by omega)
      obtain ⟨⟨q, bo, li, mi⟩, hs⟩ : ∃ s, s = ls[k]'(by omega) := ⟨_, rfl⟩
      rw [← hs] at c0 c1 c2 c3
      have hbne : b < w.heap.size := by omega
      have g0 := cell_alloc c0 hbne
      have g1 := cell_alloc c1 hbne
      have g2 := cell_alloc c2 hbne
      have g3 := cell_alloc c3 hbne
      have Hp := Lib.hid hp
      have Hs := Lib.hid hs
      dsimp only at g0 g1 g2 g3
      clear hcells hp hs c0 c1 c2 c3
      by_cases he : q = p
      · go_wp2
        go_returns
        refine ⟨?_, by go_grown⟩
        have hgot : refGot ls p = ⟨q, bo, li, mi⟩ := by
          rw [Hs.out]
          exact find_split (by omega) Hp.out (by rw [← Hs.out]; exact he)
        rw [hgot]
        simp only [Seen.val, he]
      · go_wp2
        go_round
        case rel => exact ⟨k + 1, by omega, by go_num, fun j hj hjk => by
          rcases Nat.lt_or_ge j k with h | h
          · exact Hp.out j hj h
          · have e : j = k := by omega
            subst e
            rw [← Hs.out]
            exact he⟩
        case measure => simp [intOf]; omega
    · obtain rfl : k = len := by omega
      go_wp2
      go_returns
      refine ⟨?_, by go_grown⟩
      rw [find_not (fun j hj => hp j hj (by omega))]
      rfl

end Go.Proofs.Ytkbcnapfcojekaa
