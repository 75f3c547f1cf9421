/-
  Rows of elements of k cells each, whatever the elements; half-edges and their lines as data, and how they lie in memory. No program in sight.
-/
import Derived.Test.YtogkcokgcoookaaBase
import Derived.Test.YtogkcokgcoookaaMore
namespace Go.Ed
open Go.RowKit

section
variable {α : Type} (f : α → List Value) {n : Nat}
/-- the cells of a list, one element behind the other -/
def flat (l : List α) : List Value := l.flatMap f
theorem flat_nil : flat f [] = [] := rfl
theorem flat_cons (x : α) (l : List α) : flat f (x :: l) = f x ++ flat f l := by simp [flat]
theorem flat_append (a b : List α) : flat f (a ++ b) = flat f a ++ flat f b := by simp [flat]
theorem flat_length (hf : ∀ x, (f x).length = n) (l : List α) : (flat f l).length = l.length * n := by
  induction l with
  | nil => simp [flat]
  | cons x l ih => rw [flat_cons, List.length_append, ih, hf, List.length_cons, Nat.succ_mul]; omega
theorem flat_one (h1 : ∀ x, ∀ u ∈ f x, u.oneCell' = true) (l : List α) : ∀ u ∈ flat f l, u.oneCell' = true := by
  intro u hu
  simp only [flat, List.mem_flatMap] at hu
  obtain ⟨s, _, h⟩ := hu
  exact h1 s u h
theorem flat_at (hf : ∀ x, (f x).length = n) (l : List α) (k : Nat) (hk : k < l.length) (i : Nat) (hi : i < n) : (flat f l)[k * n + i]? = (f l[k])[i]? := by
  induction l generalizing k with
  | nil => simp at hk
  | cons x l ih =>
    have hl := hf x
    cases k with
    | zero =>
      rw [flat_cons, Nat.zero_mul, Nat.zero_add, List.getElem?_append_left (by omega)]
      rfl
    | succ k =>
      have h3 : (k + 1) * n = k * n + n := Nat.succ_mul _ _
      rw [flat_cons, List.getElem?_append_right (by omega), hl, show (k + 1) * n + i - n = k * n + i by omega]
      exact ih k (by simpa using hk)
theorem flat_take (hf : ∀ x, (f x).length = n) (l : List α) (k : Nat) : (flat f l).take (k * n) = flat f (l.take k) := by
  induction l generalizing k with
  | nil => simp [flat]
  | cons x l ih =>
    have hl := hf x
    cases k with
    | zero => simp [flat]
    | succ k =>
      have h3 : (k + 1) * n = k * n + n := Nat.succ_mul _ _
      rw [flat_cons, List.take_succ_cons, flat_cons, List.take_append, hl, show (k + 1) * n - n = k * n by omega, ih, List.take_of_length_le (by omega)]
theorem flat_drop (hf : ∀ x, (f x).length = n) (l : List α) (k : Nat) : (flat f l).drop (k * n) = flat f (l.drop k) := by
  induction l generalizing k with
  | nil => simp [flat]
  | cons x l ih =>
    have hl := hf x
    cases k with
    | zero => simp [flat]
    | succ k =>
      have h3 : (k + 1) * n = k * n + n := Nat.succ_mul _ _
      rw [flat_cons, List.drop_succ_cons, List.drop_append, hl, show (k + 1) * n - n = k * n by omega, ih, List.drop_of_length_le (by omega), List.nil_append]
end

/-- a slice that reads as a list of elements of n cells each -/
theorem Reads.elems {w : World} {B n : Nat} {A : Option Addr} {m : Nat} {α : Type} {f : α → List Value} {l : List α} (hf : ∀ x, (f x).length = n) (hn : 0 < n) (h : Reads w B n A m (flat f l)) : l.length = m := by
  have := h.1
  rw [flat_length f hf] at this
  exact Nat.eq_of_mul_eq_mul_right hn this
theorem Reads.form {w : World} {B n : Nat} {A : Option Addr} {m : Nat} {α : Type} {f : α → List Value} {l : List α} (hf : ∀ x, (f x).length = n) (hn : 0 < n) (h : Reads w B n A m (flat f l)) (hm : 0 < m) :
    ∃ b off, A = some ⟨b, off, none⟩ ∧ b < B ∧ ∀ k (hk : k < l.length), ∀ i v, (f l[k])[i]? = some v → w.cell? ⟨b, off + k * n + i, none⟩ = some v := by
  have hl := h.elems hf hn
  obtain ⟨ad, rfl, hb, hc⟩ := h.2 hm
  obtain ⟨b, off, spot⟩ := ad
  have hx : ∃ v, (f (l[0]'(by omega)))[0]? = some v := ⟨_, List.getElem?_eq_getElem (by rw [hf]; exact hn)⟩
  obtain ⟨v0, hv0⟩ := hx
  have h0 := hc 0 v0 (by have := flat_at f hf l 0 (by omega) 0 hn; simpa [hv0] using this)
  have hs : spot = none := by
    have := World.cell?_spot h0
    simpa [Addr.add] using this
  subst hs
  refine ⟨b, off, rfl, hb, fun k hk i v hv => ?_⟩
  have hi : i < n := by
    rcases Nat.lt_or_ge i n with h | h
    · exact h
    · rw [List.getElem?_eq_none (by rw [hf]; exact h)] at hv; cases hv
  have := hc (k * n + i) v ((flat_at f hf l k hk i hi).trans hv)
  rw [ed_add_plain] at this
  rwa [Nat.add_assoc]

/-- api.Line: a name and a register -/
structure Line where
  nm : ByteArray
  ver : Int
  wt : Int
  fl : Int
def Line.cells (x : Line) : List Value := [.string x.nm, .int .i64 x.ver, .int .i64 x.wt, .int .i64 x.fl]
theorem Line.len (x : Line) : x.cells.length = 4 := rfl
theorem Line.one (x : Line) : ∀ u ∈ x.cells, u.oneCell' = true := by
  intro u hu
  simp only [Line.cells, List.mem_cons, List.not_mem_nil, or_false] at hu
  rcases hu with rfl | rfl | rfl | rfl <;> rfl
/-- api.Half -/
structure Half where
  peer : Int
  boot : Int
  life : Int
  lines : List Line
  pend : Bool
  miss : Int
/-- a half-edge as it lies: its lines' slice -/
structure HV where
  h : Half
  A : Option Addr
  c : Nat
def HV.cells (v : HV) : List Value := [.int .i64 v.h.peer, .int .i64 v.h.boot, .int .i64 v.h.life, .slice v.A v.h.lines.length v.c, .bool v.h.pend, .int .i64 v.h.miss]
def HV.val (v : HV) : Value := .agg #[.int .i64 v.h.peer, .int .i64 v.h.boot, .int .i64 v.h.life, .slice v.A v.h.lines.length v.c, .bool v.h.pend, .int .i64 v.h.miss]
theorem HV.len (v : HV) : v.cells.length = 6 := rfl
theorem HV.one (x : HV) : ∀ u ∈ x.cells, u.oneCell' = true := by
  intro u hu
  simp only [HV.cells, List.mem_cons, List.not_mem_nil, or_false] at hu
  rcases hu with rfl | rfl | rfl | rfl | rfl | rfl <;> rfl

def LinesAt (w : World) (B : Nat) (A : Option Addr) (n : Nat) (ls : List Line) : Prop := Reads w B 4 A n (flat Line.cells ls)
/-- what a half-edge's slice leads to -/
def HV.At (w : World) (B : Nat) (v : HV) : Prop := v.h.lines.length ≤ v.c ∧ LinesAt w B v.A v.h.lines.length v.h.lines
/-- half-edges lie there -/
def HalvesAt (w : World) (B : Nat) (A : Option Addr) (n : Nat) (vs : List HV) : Prop := Reads w B 6 A n (flat HV.cells vs) ∧ ∀ v ∈ vs, v.At w B

theorem LinesAt.below {w w' : World} {B : Nat} {A : Option Addr} {n : Nat} {l : List Line} (h : LinesAt w B A n l) (hb : Below B w w') : LinesAt w' B A n l := Reads.below h hb
theorem LinesAt.more {w : World} {B B' : Nat} {A : Option Addr} {n : Nat} {l : List Line} (h : LinesAt w B A n l) (hb : B ≤ B') : LinesAt w B' A n l := Reads.more h hb
theorem HV.At.below {w w' : World} {B : Nat} {v : HV} (h : v.At w B) (hb : Below B w w') : v.At w' B := ⟨h.1, h.2.below hb⟩
theorem HV.At.more {w : World} {B B' : Nat} {v : HV} (h : v.At w B) (hb : B ≤ B') : v.At w B' := ⟨h.1, h.2.more hb⟩
theorem HalvesAt.below {w w' : World} {B : Nat} {A : Option Addr} {n : Nat} {vs : List HV} (h : HalvesAt w B A n vs) (hb : Below B w w') : HalvesAt w' B A n vs := ⟨Reads.below h.1 hb, fun v hv => (h.2 v hv).below hb⟩
theorem HalvesAt.more {w : World} {B B' : Nat} {A : Option Addr} {n : Nat} {vs : List HV} (h : HalvesAt w B A n vs) (hb : B ≤ B') : HalvesAt w B' A n vs := ⟨Reads.more h.1 hb, fun v hv => (h.2 v hv).more hb⟩
theorem HalvesAt.len {w : World} {B : Nat} {A : Option Addr} {n : Nat} {vs : List HV} (h : HalvesAt w B A n vs) : vs.length = n := h.1.elems HV.len (by omega)
/-- the six cells of an element -/
theorem HalvesAt.form {w : World} {B : Nat} {A : Option Addr} {n : Nat} {vs : List HV} (h : HalvesAt w B A n vs) (hn : 0 < n) :
    ∃ b off, A = some ⟨b, off, none⟩ ∧ b < B ∧ ∀ k (hk : k < vs.length), w.cell? ⟨b, off + k * 6, none⟩ = some (.int .i64 vs[k].h.peer) ∧ w.cell? ⟨b, off + k * 6 + 1, none⟩ = some (.int .i64 vs[k].h.boot) ∧
      w.cell? ⟨b, off + k * 6 + 2, none⟩ = some (.int .i64 vs[k].h.life) ∧ w.cell? ⟨b, off + k * 6 + 3, none⟩ = some (.slice vs[k].A vs[k].h.lines.length vs[k].c) ∧ w.cell? ⟨b, off + k * 6 + 4, none⟩ = some (.bool vs[k].h.pend) ∧
      w.cell? ⟨b, off + k * 6 + 5, none⟩ = some (.int .i64 vs[k].h.miss) := by
  obtain ⟨b, off, e, hb, hc⟩ := h.1.form HV.len (by omega) hn
  exact ⟨b, off, e, hb, fun k hk => ⟨hc k hk 0 _ rfl, hc k hk 1 _ rfl, hc k hk 2 _ rfl, hc k hk 3 _ rfl, hc k hk 4 _ rfl, hc k hk 5 _ rfl⟩⟩
/-- the four cells of a line -/
theorem LinesAt.form {w : World} {B : Nat} {A : Option Addr} {n : Nat} {ls : List Line} (h : LinesAt w B A n ls) (hn : 0 < n) :
    ∃ b off, A = some ⟨b, off, none⟩ ∧ b < B ∧ ∀ k (hk : k < ls.length), w.cell? ⟨b, off + k * 4, none⟩ = some (.string ls[k].nm) ∧ w.cell? ⟨b, off + k * 4 + 1, none⟩ = some (.int .i64 ls[k].ver) ∧
      w.cell? ⟨b, off + k * 4 + 2, none⟩ = some (.int .i64 ls[k].wt) ∧ w.cell? ⟨b, off + k * 4 + 3, none⟩ = some (.int .i64 ls[k].fl) := by
  obtain ⟨b, off, e, hb, hc⟩ := Reads.form Line.len (by omega) h hn
  exact ⟨b, off, e, hb, fun k hk => ⟨hc k hk 0 _ rfl, hc k hk 1 _ rfl, hc k hk 2 _ rfl, hc k hk 3 _ rfl⟩⟩
theorem LinesAt.len {w : World} {B : Nat} {A : Option Addr} {n : Nat} {ls : List Line} (h : LinesAt w B A n ls) : ls.length = n := Reads.elems Line.len (by omega) h
theorem LinesAt.none {w : World} {B : Nat} {A : Option Addr} {n : Nat} {ls : List Line} (h : LinesAt w B A n ls) : A = none → n = 0 := by
  intro e
  rcases Nat.eq_zero_or_pos n with h0 | h0
  · exact h0
  · obtain ⟨ad, e2, _⟩ := h.2 h0
    rw [e] at e2
    cases e2
end Go.Ed
