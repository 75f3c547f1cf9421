/-
  Layer 14 (shake): contracts with their answers named; a fit list is short; a row of the call's own that is written over.
-/
import Derived.Test.YtkbcnapfcojekaaShakeW
import Derived.Test.YtkbcnapfcojekaaShakeG
import Derived.Test.YtkbcnapfcojekaaShakeQ
import Derived.Test.YtkbcnapfcojekaaShakeL
namespace Go.Proofs.Ytkbcnapfcojekaa
open Go.ChangeShapes Go.WideShapes Go.ChangeAt Go.RowKit Go.Shelf Go.Ed

theorem Fit_lit (w : World) (id : Int) (A : Option Addr) (n c : Nat) (ls : List Seen) (r : Bool) (hr : fitL id ls = r) (hlen : (n : Int) ≤ 9223372036854775807) (hI : SeenAt w w.heap.size A n ls) :
    Calls Try.prog 28 #[.int .i64 id, .slice A n c] w fun e w' => e = .returned (.bool r) ∧ Below w.heap.size w w' := hr ▸ refFit_any w w.heap.size id A n c ls hlen hI (Nat.le_refl _)
theorem node_lit (w : World) (n : Int) (r : Bool) (hr : isNode n = r) : Calls Try.prog 29 #[.int .i64 n] w fun e w' => e = .returned (.bool r) ∧ w = w' := (lawNode_any w n).mono fun _ _ ⟨a, b⟩ => ⟨hr ▸ a, b.symm⟩
theorem within_lit (w : World) (x a b : Int) (r : Bool) (hr : isIn x a b = r) : Calls Try.prog 30 #[.int .i64 x, .int .i64 a, .int .i64 b] w fun e w' => e = .returned (.bool r) ∧ w = w' := (within_any w x a b).mono fun _ _ ⟨h1, h2⟩ => ⟨hr ▸ h1, h2.symm⟩
theorem Same_true (w : World) (A A' : Option Addr) (n n' c c' : Nat) (ls ls' : List Seen) (e : ls = ls') (hn : (n : Int) ≤ 9223372036854775807) (hI : SeenAt w w.heap.size A n ls) (hI' : SeenAt w w.heap.size A' n' ls') :
    Calls Try.prog 37 #[.slice A n c, .slice A' n' c'] w fun e w' => e = .returned (.bool true) ∧ Below w.heap.size w w' := by
  have h := Same_any w w.heap.size A A' n n' c c' ls ls' hn hI hI'
  rwa [decide_eq_true e] at h

theorem Fit.len {id : Int} {ls : List Seen} (h : Fit id ls) : ls.length ≤ 16 := by
  have key : ∀ k (hk : k < ls.length), (k : Int) ≤ (ls[k]).peer := by
    intro k
    induction k with
    | zero => intro hk; have := (h.ok _ (List.getElem_mem hk)).1; simpa using this
    | succ k ih =>
      intro hk
      have h1 := ih (by omega)
      have h2 := List.pairwise_iff_getElem.1 h.up k (k + 1) (by omega) hk (by omega)
      omega
  rcases Nat.eq_zero_or_pos ls.length with h0 | h0
  · omega
  · have h1 := key (ls.length - 1) (by omega)
    have h2 := (h.ok _ (List.getElem_mem (show ls.length - 1 < ls.length by omega))).2.1
    omega

theorem SeenAt.none {w : World} {B n : Nat} {A : Option Addr} {ls : List Seen} (h : SeenAt w B A n ls) : A = none → n = 0 := by
  intro e
  rcases Nat.eq_zero_or_pos n with h0 | h0
  · exact h0
  · obtain ⟨ad, e2, _⟩ := h.2 h0
    rw [e] at e2
    cases e2

/-- a row of the call's own that may be written over, between two places of the heap -/
def OwnA (w : World) (B C : Nat) (A : Option Addr) (n c : Nat) : Prop := 0 < n → ∃ g, ∃ cur : Array Value, A = some ⟨g, 0, none⟩ ∧ B ≤ g ∧ g < C ∧ n ≤ c ∧ Blk w g 60 cur ∧ cur.size = c * 4
theorem OwnA.of {w : World} {B n m c : Nat} {A : Option Addr} {xs : List Value} (h : w.ownsRow B 60 4 (.slice A n c) m xs) (hm : n = m) : OwnA w B w.heap.size A n c := by
  subst hm
  intro hn
  obtain ⟨g, c', e, _, hgl⟩ := h.form hn
  injection e with e1 e2 e3
  subst e1 e3
  obtain ⟨cur, hg, hb, hnc, _, hl, _⟩ := own_blk h
  exact ⟨g, cur.toArray, rfl, hb, hgl, hnc, hg, by simpa using hl⟩
theorem OwnA.below {w w' : World} {B C n c : Nat} {A : Option Addr} (h : OwnA w B C A n c) (hb : Below w.heap.size w w') : OwnA w' B C A n c := fun hn => by
  obtain ⟨g, cur, e, h0, h1, h2, h3, h4⟩ := h hn
  exact ⟨g, cur, e, h0, h1, h2, h3.below hb h3.lt, h4⟩
theorem OwnA.far {w : World} {B C n c : Nat} {A : Option Addr} (h : OwnA w B C A n c) {p : Addr} (hp : p.block < B ∨ C ≤ p.block) (u : Value) : OwnA (w.setCell p u) B C A n c := fun hn => by
  obtain ⟨g, cur, e, h0, h1, h2, h3, h4⟩ := h hn
  exact ⟨g, cur, e, h0, h1, h2, h3.far (by omega) u, h4⟩
/-- the cell of a field, and what a store to it leaves -/
theorem OwnA.put {w : World} {B C n c : Nat} {A : Option Addr} (h : OwnA w B C A n c) {k : Nat} (hk : k < n) (u : Value) :
    ∃ g, A = some ⟨g, 0, none⟩ ∧ B ≤ g ∧ g < C ∧ g < w.heap.size ∧ (∃ v, w.cell? ⟨g, k * 4 + 3, none⟩ = some v) ∧ w.frozen? ⟨g, k * 4 + 3, none⟩ = false ∧ OwnA (w.setCell ⟨g, k * 4 + 3, none⟩ u) B C A n c := by
  obtain ⟨g, cur, e, h0, h1, h2, h3, h4⟩ := h (by omega)
  refine ⟨g, e, h0, h1, h3.lt, ⟨cur[k * 4 + 3]'(by omega), ?_⟩, h3.frozen _, fun _ => ⟨g, _, e, h0, h1, h2, h3.set_ _ u, by simpa using h4⟩⟩
  rw [h3.cell, Array.getElem?_eq_getElem]
theorem own_slice' {w : World} {base : Nat} {e : TypeId} {v : Value} {n : Nat} {xs : List Value} {size : Nat} (h : w.ownsRow base e size v n xs) : ∃ A c, v = .slice A n c ∧ n ≤ c := by
  obtain ⟨A, c, h1, h2, _⟩ := own_slice h
  exact ⟨A, c, h1, h2⟩

end Go.Proofs.Ytkbcnapfcojekaa
