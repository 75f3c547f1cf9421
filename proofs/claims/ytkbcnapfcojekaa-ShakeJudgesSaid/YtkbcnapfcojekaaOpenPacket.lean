/-
  Arguments opened: a packet (seven integers, and a slice of items).
-/
import Derived.Test.YtkbcnapfcojekaaFit5
import Derived.Test.YtkbcnapfcojekaaOpenRows
namespace Go.Ed
open Go.ChangeShapes Go.WideShapes Go.ChangeAt Go.RowKit Go.Joins Go.Deep
/-- each field of a struct can be read -/
theorem open_fields {H : Type} {enc : TypeId × Value → H} {P : Program} {w : World} {t : TypeId} {fs : Array Field} {k fuel : Nat} {cs : List Value} {x : DataW H × List MemPlace} (ht : P.underlying t = some (.struct fs)) (ce : P.cellsOf t = k)
    (h : DataW.trod enc P w 0 (fun _ => true) true fuel t cs = some x) :
    cs.length = k ∧ ∀ (j : Nat) (f : Field), fs[j]? = some f → ∃ fuel' y, DataW.trod enc P w 0 (fun _ => true) true fuel' f.type ((cs.drop f.offset).take (P.cellsOf f.type)) = some y := by
  obtain ⟨xs, k', hk, hxy, hl, hxl, hf⟩ := DataW.trod_struct ht h
  refine ⟨hl.trans ce, fun j f hjf => ?_⟩
  have hj : j < xs.length := by
    rw [hxl]
    rcases Nat.lt_or_ge j fs.size with h | h
    · simpa using h
    · rw [Array.getElem?_eq_none h] at hjf; cases hjf
  exact ⟨_, _, (hf j f hjf).trans (List.getElem?_eq_getElem hj)⟩
end Go.Ed
namespace Go.Proofs.Ytkbcnapfcojekaa
open Go.ChangeShapes Go.WideShapes Go.ChangeAt Go.RowKit Go.Joins Go.Deep Go.Ed

theorem co_string : Try.prog.cellsOf 9 = 1 := by kernel_rfl
theorem co_int : Try.prog.cellsOf 3 = 1 := by kernel_rfl
theorem co_int64 : Try.prog.cellsOf 2 = 1 := by kernel_rfl
theorem co_bool : Try.prog.cellsOf 4 = 1 := by kernel_rfl
theorem co_Chan : Try.prog.cellsOf 114 = 6 := by kernel_rfl
theorem co_Reg : Try.prog.cellsOf 116 = 3 := by kernel_rfl
theorem co_Ext : Try.prog.cellsOf 118 = 4 := by kernel_rfl
theorem co_Item : Try.prog.cellsOf 120 = 19 := by kernel_rfl
theorem co_Items : Try.prog.cellsOf 69 = 1 := by kernel_rfl
theorem co_Packet : Try.prog.cellsOf 71 = 8 := by kernel_rfl

section
variable {H : Type} {enc : TypeId × Value → H} {w : World} {fuel : Nat} {cs : List Value} {y : DataW H × List MemPlace}
set_option maxRecDepth 100000 in
theorem open_chan (h : DataW.trod enc Try.prog w 0 (fun _ => true) true fuel 114 cs = some y) :
    ∃ (nm : ByteArray) (ep mk : Int) (al : Bool) (kd sc : Int), nm.size ≤ maxLen ∧ cs = [.string nm, .int .i64 ep, .int .i64 mk, .bool al, .int .i64 kd, .int .i64 sc] := by
  obtain ⟨hl, hf⟩ := open_fields Try.underlying114 co_Chan h
  match cs, hl with
  | [c0, c1, c2, c3, c4, c5], _ =>
    obtain ⟨_, _, g0⟩ := hf 0 _ rfl
    obtain ⟨_, _, g1⟩ := hf 1 _ rfl
    obtain ⟨_, _, g2⟩ := hf 2 _ rfl
    obtain ⟨_, _, g3⟩ := hf 3 _ rfl
    obtain ⟨_, _, g4⟩ := hf 4 _ rfl
    obtain ⟨_, _, g5⟩ := hf 5 _ rfl
    simp [co_string, co_int, co_int64, co_bool] at g0 g1 g2 g3 g4 g5
    obtain ⟨n0, r0, -, k0⟩ := DataW.trod_string Try.underlying9 g0
    obtain ⟨n1, r1, -⟩ := DataW.trod_int Try.underlying2 g1
    obtain ⟨n2, r2, -⟩ := DataW.trod_int Try.underlying3 g2
    obtain ⟨n3, r3, -⟩ := DataW.trod_bool Try.underlying4 g3
    obtain ⟨n4, r4, -⟩ := DataW.trod_int Try.underlying3 g4
    obtain ⟨n5, r5, -⟩ := DataW.trod_int Try.underlying2 g5
    simp only [List.cons.injEq, and_true] at r0 r1 r2 r3 r4 r5
    subst r0 r1 r2 r3 r4 r5
    exact ⟨_, _, _, _, _, _, k0, rfl⟩
set_option maxRecDepth 100000 in
theorem open_reg (h : DataW.trod enc Try.prog w 0 (fun _ => true) true fuel 116 cs = some y) : ∃ v wt fl : Int, cs = [.int .i64 v, .int .i64 wt, .int .i64 fl] := by
  obtain ⟨hl, hf⟩ := open_fields Try.underlying116 co_Reg h
  match cs, hl with
  | [c0, c1, c2], _ =>
    obtain ⟨_, _, g0⟩ := hf 0 _ rfl
    obtain ⟨_, _, g1⟩ := hf 1 _ rfl
    obtain ⟨_, _, g2⟩ := hf 2 _ rfl
    simp [co_int, co_int64] at g0 g1 g2
    obtain ⟨n0, r0, -⟩ := DataW.trod_int Try.underlying2 g0
    obtain ⟨n1, r1, -⟩ := DataW.trod_int Try.underlying3 g1
    obtain ⟨n2, r2, -⟩ := DataW.trod_int Try.underlying2 g2
    simp only [List.cons.injEq, and_true] at r0 r1 r2
    subst r0 r1 r2
    exact ⟨_, _, _, rfl⟩
set_option maxRecDepth 100000 in
theorem open_ext (h : DataW.trod enc Try.prog w 0 (fun _ => true) true fuel 118 cs = some y) : ∃ (b : Bool) (v o a : Int), cs = [.bool b, .int .i64 v, .int .i64 o, .int .i64 a] := by
  obtain ⟨hl, hf⟩ := open_fields Try.underlying118 co_Ext h
  match cs, hl with
  | [c0, c1, c2, c3], _ =>
    obtain ⟨_, _, g0⟩ := hf 0 _ rfl
    obtain ⟨_, _, g1⟩ := hf 1 _ rfl
    obtain ⟨_, _, g2⟩ := hf 2 _ rfl
    obtain ⟨_, _, g3⟩ := hf 3 _ rfl
    simp [co_int, co_int64, co_bool] at g0 g1 g2 g3
    obtain ⟨n0, r0, -⟩ := DataW.trod_bool Try.underlying4 g0
    obtain ⟨n1, r1, -⟩ := DataW.trod_int Try.underlying2 g1
    obtain ⟨n2, r2, -⟩ := DataW.trod_int Try.underlying3 g2
    obtain ⟨n3, r3, -⟩ := DataW.trod_int Try.underlying2 g3
    simp only [List.cons.injEq, and_true] at r0 r1 r2 r3
    subst r0 r1 r2 r3
    exact ⟨_, _, _, _, rfl⟩
set_option maxRecDepth 100000 in
theorem open_item (h : DataW.trod enc Try.prog w 0 (fun _ => true) true fuel 120 cs = some y) : ∃ x : Itm, x.nm.size ≤ maxLen ∧ cs = x.cells := by
  obtain ⟨hl, hf⟩ := open_fields Try.underlying120 co_Item h
  match cs, hl with
  | [c0, c1, c2, c3, c4, c5, c6, c7, c8, c9, c10, c11, c12, c13, c14, c15, c16, c17, c18], _ =>
    obtain ⟨_, _, g0⟩ := hf 0 _ rfl
    obtain ⟨_, _, g1⟩ := hf 1 _ rfl
    obtain ⟨_, _, g2⟩ := hf 2 _ rfl
    obtain ⟨_, _, g3⟩ := hf 3 _ rfl
    obtain ⟨_, _, g4⟩ := hf 4 _ rfl
    obtain ⟨_, _, g5⟩ := hf 5 _ rfl
    simp [co_int64, co_bool, co_Chan, co_Reg, co_Ext] at g0 g1 g2 g3 g4 g5
    obtain ⟨nm, ep, mk, al, kd, sc, hnm, r0⟩ := open_chan g0
    obtain ⟨ve, wt, fl, r1⟩ := open_reg g1
    obtain ⟨n2, r2, -⟩ := DataW.trod_bool Try.underlying4 g2
    obtain ⟨n3, r3, -⟩ := DataW.trod_int Try.underlying2 g3
    obtain ⟨b4, v4, o4, a4, r4⟩ := open_ext g4
    obtain ⟨b5, v5, o5, a5, r5⟩ := open_ext g5
    simp only [List.cons.injEq, and_true] at r0 r1 r2 r3 r4 r5
    obtain ⟨rfl, rfl, rfl, rfl, rfl, rfl⟩ := r0
    obtain ⟨rfl, rfl, rfl⟩ := r1
    subst r2 r3
    obtain ⟨rfl, rfl, rfl, rfl⟩ := r4
    obtain ⟨rfl, rfl, rfl, rfl⟩ := r5
    exact ⟨⟨nm, ep, mk, al, kd, sc, ve, wt, fl, n2, n3, b4, v4, o4, a4, b5, v5, o5, a5⟩, hnm, rfl⟩

theorem open_items (h : DataW.trod enc Try.prog w 0 (fun _ => true) true fuel 69 cs = some y) : ∃ (A : Option Addr) (n c : Nat), cs = [.slice A n c] ∧ n ≤ maxLen ∧ n ≤ c ∧ ItemsAt w w.heap.size A n := by
  rcases open_slice Try.underlying69 h with ⟨rfl, _⟩ | ⟨a, len, cap, m, n, D, Pl, rfl, hb, hl, hm, hmm, rfl, hx⟩
  · exact ⟨none, 0, 0, rfl, Nat.zero_le _, Nat.le_refl _, fun h => absurd h (by omega)⟩
  have hmc : m = cap := by simpa using hmm
  refine ⟨some a, len, cap, rfl, by omega, hl, fun h0 => ?_⟩
  have key : ∀ k, k < len → ∃ x : Itm, x.nm.size ≤ maxLen ∧ ∀ j v, x.cells[j]? = some v → w.cell? (a.add (k * 19 + j)) = some v := by
    intro k hk
    obtain ⟨cs', h1, h2⟩ := hx k (by omega)
    rw [co_Item] at h1
    obtain ⟨x, hnm, rfl⟩ := open_item h2
    obtain ⟨_, hlen, hcell⟩ := World.cells?_some h1
    refine ⟨x, hnm, fun j v hv => ?_⟩
    have hj : j < 19 := by
      rcases Nat.lt_or_ge j 19 with h | h
      · exact h
      · rw [List.getElem?_eq_none (by simpa [Itm.cells] using h)] at hv; cases hv
    have := hcell j hj
    rw [add_of_add] at this
    rw [this, hv]
  obtain ⟨x, hnm, hc⟩ := key 0 h0
  have h00 := hc 0 _ rfl
  have hsp : a.spot = none := by have := World.cell?_spot h00; rwa [Nat.zero_mul, Nat.add_zero, Addr.add_zero'] at this
  obtain ⟨b, off, spot⟩ := a
  simp only at hsp
  subst hsp
  refine ⟨b, off, rfl, by have := lt_of_cell h00; rwa [block_of_add] at this, fun k hk => ?_⟩
  obtain ⟨x, h1, h2⟩ := key k hk
  refine ⟨x, h1, fun j v hv => ?_⟩
  have := h2 j v hv
  rwa [ed_add_plain, ← Nat.add_assoc] at this

set_option maxRecDepth 100000 in
theorem open_packet (h : DataW.trod enc Try.prog w 0 (fun _ => true) true fuel 71 cs = some y) :
    ∃ (kd src dst bo li ec el : Int) (A : Option Addr) (n c : Nat), cs = [.int .i64 kd, .int .i64 src, .int .i64 dst, .int .i64 bo, .int .i64 li, .int .i64 ec, .int .i64 el, .slice A n c] ∧ n ≤ maxLen ∧ n ≤ c ∧ ItemsAt w w.heap.size A n := by
  obtain ⟨hl, hf⟩ := open_fields Try.underlying71 co_Packet h
  match cs, hl with
  | [c0, c1, c2, c3, c4, c5, c6, c7], _ =>
    obtain ⟨_, _, g0⟩ := hf 0 _ rfl
    obtain ⟨_, _, g1⟩ := hf 1 _ rfl
    obtain ⟨_, _, g2⟩ := hf 2 _ rfl
    obtain ⟨_, _, g3⟩ := hf 3 _ rfl
    obtain ⟨_, _, g4⟩ := hf 4 _ rfl
    obtain ⟨_, _, g5⟩ := hf 5 _ rfl
    obtain ⟨_, _, g6⟩ := hf 6 _ rfl
    obtain ⟨_, _, g7⟩ := hf 7 _ rfl
    simp [co_int64, co_int, co_Items] at g0 g1 g2 g3 g4 g5 g6 g7
    obtain ⟨n0, r0, -⟩ := DataW.trod_int Try.underlying3 g0
    obtain ⟨n1, r1, -⟩ := DataW.trod_int Try.underlying3 g1
    obtain ⟨n2, r2, -⟩ := DataW.trod_int Try.underlying3 g2
    obtain ⟨n3, r3, -⟩ := DataW.trod_int Try.underlying2 g3
    obtain ⟨n4, r4, -⟩ := DataW.trod_int Try.underlying2 g4
    obtain ⟨n5, r5, -⟩ := DataW.trod_int Try.underlying2 g5
    obtain ⟨n6, r6, -⟩ := DataW.trod_int Try.underlying2 g6
    obtain ⟨A, n, c, r7, k1, k2, k3⟩ := open_items g7
    simp only [List.cons.injEq, and_true] at r0 r1 r2 r3 r4 r5 r6 r7
    subst r0 r1 r2 r3 r4 r5 r6 r7
    exact ⟨_, _, _, _, _, _, _, A, n, c, rfl, k1, k2, k3⟩
end
end Go.Proofs.Ytkbcnapfcojekaa
