/-
  Layer 14 (shake): what a node has seen, as data; plain functions. No program in sight.
-/
import Derived.Test.YtkbcnapfcojekaaBase
namespace Go.Ed
open Go.RowKit

/-- api.Seen -/
structure Seen where
  peer : Int
  boot : Int
  life : Int
  mine : Int
  deriving DecidableEq

/-- its cells -/
def Seen.cells (s : Seen) : List Value := [.int .i64 s.peer, .int .i64 s.boot, .int .i64 s.life, .int .i64 s.mine]
/-- as shake.sight lies -/
def Seen.sight (s : Seen) : Value := .agg #[.int .i64 s.boot, .int .i64 s.life, .int .i64 s.peer, .int .i64 s.mine]
def Seen.val (s : Seen) : Value := .agg #[.int .i64 s.peer, .int .i64 s.boot, .int .i64 s.life, .int .i64 s.mine]
def rowCells (l : List Seen) : List Value := l.flatMap Seen.cells

theorem rowCells_length (l : List Seen) : (rowCells l).length = l.length * 4 := by
  induction l with
  | nil => rfl
  | cons x l ih => simp only [rowCells, List.flatMap_cons, List.length_append] at *; rw [ih]; simp [Seen.cells]; omega
theorem rowCells_append (a b : List Seen) : rowCells (a ++ b) = rowCells a ++ rowCells b := by simp [rowCells]
theorem rowCells_one : ∀ (l : List Seen), ∀ u ∈ rowCells l, u.oneCell' = true := by
  intro l u hu
  simp only [rowCells, List.mem_flatMap] at hu
  obtain ⟨s, _, h⟩ := hu
  simp only [Seen.cells, List.mem_cons, List.not_mem_nil, or_false] at h
  rcases h with rfl | rfl | rfl | rfl <;> rfl
theorem rowCells_at (l : List Seen) (k : Nat) (hk : k < l.length) (i : Nat) (hi : i < 4) : (rowCells l)[k * 4 + i]? = (l[k].cells)[i]? := by
  induction l generalizing k with
  | nil => simp at hk
  | cons x l ih =>
    have hl : x.cells.length = 4 := rfl
    cases k with
    | zero =>
      simp only [rowCells, List.flatMap_cons, Nat.zero_mul, Nat.zero_add, List.getElem_cons_zero]
      rw [List.getElem?_append_left (by omega)]
    | succ k =>
      simp only [rowCells, List.flatMap_cons, List.getElem_cons_succ]
      rw [List.getElem?_append_right (by omega), hl, show (k + 1) * 4 + i - 4 = k * 4 + i by omega]
      exact ih k (by simpa using hk)
theorem rowCells_take (l : List Seen) (k : Nat) : (rowCells l).take (k * 4) = rowCells (l.take k) := by
  induction l generalizing k with
  | nil => simp [rowCells]
  | cons x l ih =>
    cases k with
    | zero => simp [rowCells]
    | succ k =>
      have hl : x.cells.length = 4 := rfl
      simp only [rowCells, List.flatMap_cons, List.take_succ_cons] at *
      rw [List.take_append, hl, show (k + 1) * 4 - 4 = k * 4 by omega, ih, List.take_of_length_le (by omega)]
theorem rowCells_drop (l : List Seen) (k : Nat) : (rowCells l).drop (k * 4) = rowCells (l.drop k) := by
  induction l generalizing k with
  | nil => simp [rowCells]
  | cons x l ih =>
    cases k with
    | zero => simp [rowCells]
    | succ k =>
      have hl : x.cells.length = 4 := rfl
      simp only [rowCells, List.flatMap_cons, List.drop_succ_cons] at *
      rw [List.drop_append, hl, show (k + 1) * 4 - 4 = k * 4 by omega, ih, List.drop_of_length_le (by omega), List.nil_append]
theorem rowCells_set (l : List Seen) (k : Nat) (_ : k < l.length) (s : Seen) : rowCells (l.take k ++ s :: l.drop (k + 1)) = (rowCells l).take (k * 4) ++ (s.cells ++ (rowCells l).drop (k * 4 + 4)) := by
  rw [rowCells_take, show k * 4 + 4 = (k + 1) * 4 by omega, rowCells_drop, rowCells_append]
  simp [rowCells]

/-- The list lies in memory: the slice value '.slice A n _' reads as l. -/
def SeenAt (w : World) (B : Nat) (A : Option Addr) (n : Nat) (l : List Seen) : Prop := Reads w B 4 A n (rowCells l)

theorem SeenAt.len {w : World} {B : Nat} {A : Option Addr} {n : Nat} {l : List Seen} (h : SeenAt w B A n l) : l.length = n := by
  have := h.1
  rw [rowCells_length] at this
  omega
theorem SeenAt.below {w w' : World} {B : Nat} {A : Option Addr} {n : Nat} {l : List Seen} (h : SeenAt w B A n l) (hb : Below B w w') : SeenAt w' B A n l := Reads.below h hb
theorem SeenAt.more {w : World} {B B' : Nat} {A : Option Addr} {n : Nat} {l : List Seen} (h : SeenAt w B A n l) (hb : B ≤ B') : SeenAt w B' A n l := Reads.more h hb
/-- the four cells of an element -/
theorem SeenAt.form {w : World} {B : Nat} {A : Option Addr} {n : Nat} {l : List Seen} (h : SeenAt w B A n l) (hn : 0 < n) :
    ∃ b off, A = some ⟨b, off, none⟩ ∧ b < B ∧ ∀ k (hk : k < l.length), w.cell? ⟨b, off + k * 4, none⟩ = some (.int .i64 l[k].peer) ∧ w.cell? ⟨b, off + k * 4 + 1, none⟩ = some (.int .i64 l[k].boot) ∧
      w.cell? ⟨b, off + k * 4 + 2, none⟩ = some (.int .i64 l[k].life) ∧ w.cell? ⟨b, off + k * 4 + 3, none⟩ = some (.int .i64 l[k].mine) := by
  have hl := h.len
  obtain ⟨ad, rfl, hb, hc⟩ := h.2 hn
  obtain ⟨b, off, spot⟩ := ad
  have h0 := hc 0 _ (by have := rowCells_at l 0 (by omega) 0 (by omega); simpa [Seen.cells] using this)
  have hs : spot = none := by
    have := World.cell?_spot h0
    simpa [Addr.add] using this
  subst hs
  refine ⟨b, off, rfl, hb, fun k hk => ?_⟩
  have key : ∀ i u, i < 4 → (l[k].cells)[i]? = some u → w.cell? ⟨b, off + k * 4 + i, none⟩ = some u := by
    intro i u hi hu
    have := hc (k * 4 + i) u ((rowCells_at l k hk i hi).trans hu)
    rw [ed_add_plain] at this
    rwa [Nat.add_assoc]
  exact ⟨key 0 _ (by omega) rfl, key 1 _ (by omega) rfl, key 2 _ (by omega) rfl, key 3 _ (by omega) rfl⟩

/-! ### plain functions -/
/-- which incarnation is later -/
def later (a b c d : Int) : Bool := decide (c < a) || ((a == c) && decide (d < b))
/-- where a peer stands, or would stand -/
def seek (l : List Seen) (p : Int) : Nat := (l.takeWhile fun s => decide (s.peer < p)).length
def got (l : List Seen) (p : Int) : Seen := match l[seek l p]? with
  | some s => if s.peer = p then s else ⟨p, 0, 0, 0⟩
  | none => ⟨p, 0, 0, 0⟩
def has (l : List Seen) (p : Int) : Bool := match l[seek l p]? with
  | some s => s.peer == p
  | none => false

theorem seek_le (l : List Seen) (p : Int) : seek l p ≤ l.length := by
  unfold seek; exact (List.takeWhile_prefix _).length_le
theorem takeWhile_mem {α : Type} {q : α → Bool} : ∀ {l : List α} {x : α}, x ∈ l.takeWhile q → q x = true
  | [], _, h => by simp at h
  | y :: l, x, h => by
    rw [List.takeWhile_cons] at h
    split at h
    · rename_i hy
      rcases List.mem_cons.1 h with rfl | h
      · exact hy
      · exact takeWhile_mem h
    · simp at h
theorem seek_lt_of {l : List Seen} {p : Int} {j : Nat} (hj : j < l.length) (h : j < seek l p) : l[j].peer < p := by
  unfold seek at h
  have h1 : (l.takeWhile fun s => decide (s.peer < p))[j] = l[j] := (List.takeWhile_prefix _).getElem h
  have h2 := takeWhile_mem (List.getElem_mem h)
  rw [h1] at h2
  simpa using h2
/-- the first k that are below p: the place is behind them -/
theorem seek_eq {l : List Seen} {p : Int} {k : Nat} (hk : k ≤ l.length) (h : ∀ j (hj : j < l.length), j < k → l[j].peer < p) (h2 : ∀ (hk : k < l.length), p ≤ l[k].peer) : seek l p = k := by
  unfold seek
  induction l generalizing k with
  | nil => simp at hk; simp [hk]
  | cons x l ih =>
    cases k with
    | zero =>
      have := h2 (by simp)
      simp only [List.getElem_cons_zero] at this
      rw [List.takeWhile_cons, if_neg (by simp; omega)]
      rfl
    | succ k =>
      have h0 := h 0 (by simp) (by omega)
      simp only [List.getElem_cons_zero] at h0
      rw [List.takeWhile_cons, if_pos (by simpa using h0), List.length_cons]
      congr 1
      exact ih (by simpa using hk) (fun j hj hjk => by have := h (j + 1) (by simpa using hj) (by omega); simpa using this) (fun hk => by have := h2 (by simpa using hk); simpa using this)

end Go.Ed
