/-
  Layer 10 (half): names in lines of half-edges of the call's own are written over; other memory stays. No program in sight.
-/
import Derived.Test.YtogkcokgcoookaaHalfO
namespace Go.Proofs.Ytogkcokgcoookaa
open Go.ChangeShapes Go.WideShapes Go.ChangeAt Go.RowKit Go.Shelf Go.Ed

/-- the blocks that may be turned: the call's own, no half-edges' row -/
def Turns (base : Nat) (Wp : World) (i : Nat) : Prop := base ≤ i ∧ ∀ cs, ¬ Blk Wp i 24 cs
/-- a row of lines that may be turned -/
def Ruin (base : Nat) (Wp W : World) (v : HV) : Prop := v.h.lines.length = 0 ∨ ∃ g cs, v.A = some ⟨g, 0, none⟩ ∧ Turns base Wp g ∧ Blk W g 44 cs ∧ cs.size = v.c * 4 ∧ v.h.lines.length ≤ v.c
structure Spoil (base : Nat) (Wp W : World) (vs : List HV) : Prop where
  chg : Chg (Turns base Wp) Wp W
  rows : ∀ v ∈ vs, Ruin base Wp W v

theorem Ruin.start {base : Nat} {W : World} {v : HV} (h : OwnLs W base v) : Ruin base W W v := by
  obtain ⟨hc, h0, h⟩ := h
  rcases h with h | ⟨g, cap, cur, hv, hb, hg, hn, hcm, hs, hx⟩
  · exact .inl h.2
  · injection hv with h1 h2 h3
    subst h3
    exact .inr ⟨g, cur, h1, ⟨hb, fun cs hcs => by have := blk_inj (show Blk W g _ cur from hg) hcs; revert this; decide⟩, hg, hs, hc⟩
theorem Spoil.start {base : Nat} {W : World} {A : Option Addr} {n c : Nat} {vs : List HV} (h : OwnHs W base A n c vs) : Spoil base W W vs :=
  ⟨Chg.refl _ _, fun v hv => Ruin.start (h.2.2.2 v hv)⟩
theorem Ruin.set_ {base : Nat} {Wp W : World} {v : HV} (h : Ruin base Wp W v) (g j : Nat) (u : Value) : Ruin base Wp (W.setCell ⟨g, j, none⟩ u) v := by
  rcases h with h | ⟨g', cs, hA, hT, hg, hs, hl⟩
  · exact .inl h
  · by_cases e : g' = g
    · subst e
      exact .inr ⟨g', _, hA, hT, hg.set_ j u, by simpa using hs, hl⟩
    · exact .inr ⟨g', cs, hA, hT, hg.far e u, hs, hl⟩
theorem Spoil.set_ {base : Nat} {Wp W : World} {vs : List HV} (h : Spoil base Wp W vs) {g : Nat} (hg : Turns base Wp g) (j : Nat) (u : Value) : Spoil base Wp (W.setCell ⟨g, j, none⟩ u) vs :=
  ⟨h.chg.setCell (fun _ => hg) u, fun v hv => (h.rows v hv).set_ g j u⟩
/-- the half-edges' row stays -/
theorem Spoil.row {base : Nat} {Wp W : World} {A : Option Addr} {n c : Nat} {vs : List HV} (h : Spoil base Wp W vs) (ho : OwnHs Wp base A n c vs) : Reads W W.heap.size 6 A n (flat HV.cells vs) :=
  Reads.of_own (own_chg ho.2.2.1 h.chg fun _ hg hT => by obtain ⟨cs, hcs⟩ := own_at ho.2.2.1 hg; exact hT.2 cs hcs)
theorem Spoil.below {base B : Nat} {Wp W : World} {vs : List HV} (h : Spoil base Wp W vs) (hb : B ≤ base) (hB : B ≤ Wp.heap.size) : Below B Wp W := h.chg.below (fun _ hi => Nat.le_trans hb hi.1) hB
theorem Spoil.drawn {base : Nat} {Wp W W' : World} {vs : List HV} (h : Spoil base Wp W vs) (hb : Below W.heap.size W W') : Spoil base Wp W' vs :=
  ⟨h.chg.trans (Chg.of_below hb _), fun v hv => by
    rcases h.rows v hv with h | ⟨g', cs, hA, hT, hg, hs, hl⟩
    · exact .inl h
    · exact .inr ⟨g', cs, hA, hT, hg.below hb hg.lt, hs, hl⟩⟩
/-- a line's cell -/
theorem Ruin.cell {base : Nat} {Wp W : World} {v : HV} (h : Ruin base Wp W v) {k : Nat} (hk : k < v.h.lines.length) : ∃ g u, v.A = some ⟨g, 0, none⟩ ∧ Turns base Wp g ∧ W.cell? ⟨g, k * 4, none⟩ = some u ∧ W.frozen? ⟨g, k * 4, none⟩ = false := by
  rcases h with h | ⟨g, cs, hA, hT, hg, hs, hl⟩
  · omega
  · have h1 : k * 4 < cs.size := by omega
    exact ⟨g, cs[k * 4], hA, hT, by rw [hg.cell]; simp [h1], hg.frozen _⟩
end Go.Proofs.Ytogkcokgcoookaa
