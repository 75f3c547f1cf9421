/-
  Layer 10 (half): half-edges in memory of the call's own; Copy, the code's and the document's.
-/
import Derived.Test.YtogkcokgcoookaaHalfA
import Derived.Test.YtogkcokgcoookaaHalfM
import Derived.Test.YtogkcokgcoookaaInsertH
namespace Go.Proofs.Ytogkcokgcoookaa
open Go.ChangeShapes Go.WideShapes Go.ChangeAt Go.RowKit Go.Shelf Go.Ed

section
variable {W W' : World} {base B : Nat} {v : HV} {vs : List HV} {A : Option Addr} {n c : Nat}
/-- a half-edge whose lines lie in memory of the call's own -/
def OwnLs (W : World) (base : Nat) (v : HV) : Prop := v.h.lines.length ≤ v.c ∧ W.ownsRow base 44 4 (.slice v.A v.h.lines.length v.c) v.h.lines.length (flat Line.cells v.h.lines)
/-- half-edges in memory of the call's own, their lines as well -/
def OwnHs (W : World) (base : Nat) (A : Option Addr) (n c : Nat) (vs : List HV) : Prop := vs.length = n ∧ n ≤ c ∧ W.ownsRow base 24 6 (.slice A n c) n (flat HV.cells vs) ∧ ∀ v ∈ vs, OwnLs W base v

theorem own_grown {w w' : World} {e : TypeId} {size n : Nat} {xs : List Value} {x : Value} {row : Option Nat} (h : w.ownsRow base e size x n xs) (hg : w.grownBy w' row) (hne : ∀ g, x.ownBlock = some g → some g ≠ row) : w'.ownsRow base e size x n xs :=
  own_keep h fun g hx => hg.block g (h.lt g hx).2 (hne g hx)
theorem own_at {w : World} {e : TypeId} {size n : Nat} {xs : List Value} {x : Value} (h : w.ownsRow base e size x n xs) {g : Nat} (hx : x.ownBlock = some g) : ∃ cs, Blk w g e cs := by
  rcases h.2 with ⟨h2, _⟩ | ⟨g', cap, cur, rfl, hb, hg, _⟩
  · subst h2; cases hx
  · cases hx
    exact ⟨_, hg⟩
theorem blk_inj {w : World} {g : Nat} {t t' : TypeId} {cs cs' : Array Value} (h : Blk w g t cs) (h' : Blk w g t' cs') : t = t' := by
  unfold Blk at h h'
  rw [h] at h'
  injection h' with h'
  injection h'

theorem OwnLs.below (h : OwnLs W base v) (hb : Below W.heap.size W W') : OwnLs W' base v := ⟨h.1, own_below h.2 hb fun g hg => (h.2.lt g hg).2⟩
theorem OwnLs.more (h : OwnLs W B v) (hB : base ≤ B) : OwnLs W base v := ⟨h.1, World.ownsRow.mono h.2 hB⟩
theorem OwnLs.at_ (h : OwnLs W base v) : v.At W W.heap.size := ⟨h.1, Reads.of_own h.2⟩
theorem OwnHs.below (h : OwnHs W base A n c vs) (hb : Below W.heap.size W W') : OwnHs W' base A n c vs :=
  ⟨h.1, h.2.1, own_below h.2.2.1 hb fun g hg => (h.2.2.1.lt g hg).2, fun v hv => (h.2.2.2 v hv).below hb⟩
theorem OwnHs.more (h : OwnHs W B A n c vs) (hB : base ≤ B) : OwnHs W base A n c vs := ⟨h.1, h.2.1, World.ownsRow.mono h.2.2.1 hB, fun v hv => (h.2.2.2 v hv).more hB⟩
theorem OwnHs.halves (h : OwnHs W base A n c vs) : HalvesAt W W.heap.size A n vs := ⟨Reads.of_own h.2.2.1, fun v hv => (h.2.2.2 v hv).at_⟩
theorem OwnHs.nil (W : World) (base : Nat) : OwnHs W base none 0 0 [] := ⟨rfl, Nat.le_refl _, World.ownsRow_nil _ _ _ _, fun v h => by simp at h⟩
/-- lines' rows are no half-edges' row -/
theorem OwnLs.grown (h : OwnLs W base v) {row : Option Nat} (hg : W.grownBy W' row) (hr : ∀ g, row = some g → ∃ cs, Blk W g 24 cs) : OwnLs W' base v :=
  ⟨h.1, own_grown h.2 hg fun g hx e => by
    obtain ⟨cs, h1⟩ := own_at h.2 hx
    obtain ⟨cs', h2⟩ := hr g e.symm
    have := blk_inj h1 h2
    revert this
    decide⟩
end

theorem half_one_flat (vs : List HV) : ∀ u ∈ flat HV.cells vs, u.oneCell' = true := flat_one _ HV.one vs

/-- one half-edge appended to a row of the call's own -/
theorem own_push {W W2 W3 : World} {base : Nat} {A A3 : Option Addr} {n c c3 : Nat} {vs : List HV} {v : HV} (h : OwnHs W base A n c vs) (hv : OwnLs W2 base v) (hb : Below W.heap.size W W2) (hg : W2.grownBy W3 (Value.slice A n c).ownBlock)
    (ho : W3.ownsRow base 24 6 (.slice A3 (n + 1) c3) (n + 1) (flat HV.cells vs ++ HV.cells v)) (hc : n + 1 ≤ c3) : OwnHs W3 base A3 (n + 1) c3 (vs ++ [v]) := by
  have h2 := h.below hb
  have hr : ∀ g, (Value.slice A n c).ownBlock = some g → ∃ cs, Blk W2 g 24 cs := fun g hx => own_at h2.2.2.1 hx
  refine ⟨by simp [h.1], hc, by rw [flat_append]; simpa [flat] using ho, fun x hx => ?_⟩
  rcases List.mem_append.1 hx with hx | hx
  · exact (h2.2.2.2 x hx).grown hg hr
  · rw [List.mem_singleton.1 hx]
    exact hv.grown hg hr

/-- a copy of half-edges: memory of the call's own -/
def Copied (w : World) (l : List Half) (e : Ending) (w' : World) : Prop := ∃ A n c vs, e = .returned (.slice A n c) ∧ vs.map HV.h = l ∧ OwnHs w' w.heap.size A n c vs ∧ Below w.heap.size w w'

set_option maxRecDepth 100000 in
set_option maxHeartbeats 4000000 in
theorem copy10_any (w : World) (A : Option Addr) (n c : Nat) (vs : List HV) (hn : n * 64 ≤ 140737488355328) (hI : HalvesAt w w.heap.size A n vs) (hv : ∀ v ∈ vs, v.h.lines.length * 40 ≤ 140737488355328) :
    Calls Try.prog 36 #[.slice A n c] w (Copied w (vs.map HV.h)) := by
  have hll := Lib.hid hI.len
  replace hv := Lib.hid hv
  go_enter Try.func36, Try.ntmps36
  go_wp2_with fail
  go_loopw [3, 8] (fun o i wr => ∃ (k : Nat) (A2 : Option Addr) (c2 : Nat) (us : List HV), k ≤ n ∧ i = .int .i64 k ∧ o = .slice A2 k c2 ∧ us.map HV.h = (vs.map HV.h).take k ∧ OwnHs wr w.heap.size A2 k c2 us ∧ Below w.heap.size w wr)
    (fun _ i _ => n - (intOf i).toNat)
  case atStart => exact ⟨0, none, 0, [], Nat.zero_le _, rfl, rfl, by simp, OwnHs.nil _ _, Below.refl _ _⟩
  case round =>
    obtain ⟨k, A2, c2, us, hk, rfl, rfl, hus, hown, hbr⟩ := hrel
    replace hus := Lib.hid hus
    replace hown := Lib.hid hown
    by_cases hlt : k < n
    · have hlt' : (k : Int) < (n : Int) := by omega
      have hkl : k < vs.length := by have := hll.out; omega
      obtain ⟨b, off, rfl, hbl, hxx⟩ := (hI.below hbr).1.form HV.len (by omega) (by omega)
      have hxc := hxx k hkl
      have hvs := hv.out _ (List.getElem_mem hkl)
      have hvA := ((hI.2 _ (List.getElem_mem hkl)).below hbr).more hbr.size
      obtain ⟨⟨⟨p, bo, li, ls, pe, mi⟩, Al, cl⟩, hvi⟩ : ∃ v, vs[k] = v := ⟨_, rfl⟩
      rw [hvi] at hxc hvs hvA
      have hxh : (vs.map HV.h).take (k + 1) = (vs.map HV.h).take k ++ [⟨p, bo, li, ls, pe, mi⟩] := by
        rw [List.take_add_one, List.getElem?_map, List.getElem?_eq_getElem hkl, hvi]; rfl
      replace hxh := Lib.hid hxh
      replace hvi := Lib.hid hvi
      have q0 := hxc 0 _ rfl
      have q1 := hxc 1 _ rfl
      have q2 := hxc 2 _ rfl
      have q3 := hxc 3 _ rfl
      have q4 := hxc 4 _ rfl
      have q5 := hxc 5 _ rfl
      simp only [Nat.add_zero] at q0 q1 q2 q3 q4 q5
      simp only [] at hvs
      clear hxc hxx
      go_wp2_with fail
      have hbz := (Below.refl _ wr).alloc (Nat.le_refl _) (.cells #[.int .i64 p, .int .i64 bo, .int .i64 li, .slice Al ls.length cl, .bool pe, .int .i64 mi] 24)
      refine (one_any _ p bo li ls Al cl pe mi hvs ((hvA.2.below hbz).more hbz.size)).mono ?_
      clear hbz
      rintro e w2 ⟨A3, c3, rfl, hc3, hown3, h2⟩
      have hbz := (Below.refl _ wr).alloc (Nat.le_refl _) (.cells #[.int .i64 p, .int .i64 bo, .int .i64 li, .slice Al ls.length cl, .bool pe, .int .i64 mi] 24)
      have hb2 : Below wr.heap.size wr w2 := hbz.trans (h2.mono hbz.size)
      have hO2 : OwnLs w2 w.heap.size ⟨⟨p, bo, li, ls, pe, mi⟩, A3, c3⟩ := ⟨hc3, World.ownsRow.mono hown3 (Nat.le_trans hbr.size hbz.size)⟩
      clear hown3 h2 hbz q0 q1 q2 q3 q4 q5
      have hbw2 : Below w.heap.size w w2 := hbr.trans (hb2.mono hbr.size)
      have hW3 : Below wr.heap.size wr (w2.alloc (.cells #[.int .i64 p, .int .i64 bo, .int .i64 li, .slice A3 ls.length c3, .bool pe, .int .i64 mi] 24)) := hb2.alloc hb2.size _
      have hO3 : OwnLs (w2.alloc (.cells #[.int .i64 p, .int .i64 bo, .int .i64 li, .slice A3 ls.length c3, .bool pe, .int .i64 mi] 24)) w.heap.size ⟨⟨p, bo, li, ls, pe, mi⟩, A3, c3⟩ := hO2.below ((Below.refl _ w2).alloc (Nat.le_refl _) _)
      have hr3 : Reads (w2.alloc (.cells #[.int .i64 p, .int .i64 bo, .int .i64 li, .slice A3 ls.length c3, .bool pe, .int .i64 mi] 24)) (w2.alloc (.cells #[.int .i64 p, .int .i64 bo, .int .i64 li, .slice A3 ls.length c3, .bool pe, .int .i64 mi] 24)).heap.size 6 (some ⟨w2.heap.size, 0, none⟩) 1 (HV.cells ⟨⟨p, bo, li, ls, pe, mi⟩, A3, c3⟩) :=
        Reads.of_blk (Blk.new w2 24 #[.int .i64 p, .int .i64 bo, .int .i64 li, .slice A3 ls.length c3, .bool pe, .int .i64 mi]) rfl (fun j u h => by simpa [HV.cells] using h)
      have hbs : w.heap.size ≤ (w2.alloc (.cells #[.int .i64 p, .int .i64 bo, .int .i64 li, .slice A3 ls.length c3, .bool pe, .int .i64 mi] 24)).heap.size := Nat.le_trans hbr.size hW3.size
      have ho3 := (hown.out.below hW3).2.2.1
      simp only [HV.val]
      go_wp2_with ((with_reducible refine go_append_at (c := 1) half_slice half_inf ho3 hr3 (HV.one _) ?a0 ?a1 ?a2 ?a3 ?a4 ?a5 ?a6 ?_); (case a0 => exact hbs); (case a1 => rfl); (case a2 => rfl); (case a3 => rfl); (case a4 => omega); (case a5 => unfold maxLen; omega); (case a6 => omega); rintro v4 w4 g1 g2 g3 -)
      obtain ⟨A4, c4, rfl, hc4⟩ := own_slice' g1
      have hO4 := own_push hown.out hO3 hW3 g3 g1 hc4
      have hb4 : Below w.heap.size w w4 := (hbr.trans (hW3.mono hbr.size)).trans g2
      clear g1 g2 g3 hO3 hW3 hO2
      try go_wp2_with fail
      go_roundw
      case rel => exact ⟨k + 1, A4, c4, us ++ [⟨⟨p, bo, li, ls, pe, mi⟩, A3, c3⟩], by omega, by go_num, rfl, by rw [hxh.out, List.map_append, hus.out]; rfl, hO4, hb4⟩
      case measure => simp [intOf]; omega
    · obtain rfl : k = n := by omega
      go_wp2_with fail
      go_ret
      exact ⟨A2, k, c2, us, rfl, by rw [hus.out, List.take_of_length_le (by simp [hll.out])], hown.out, hbr⟩
set_option maxRecDepth 100000 in
set_option maxHeartbeats 4000000 in
theorem refCopy10_any (w : World) (A : Option Addr) (n c : Nat) (vs : List HV) (hn : n * 64 ≤ 140737488355328) (hI : HalvesAt w w.heap.size A n vs) (hv : ∀ v ∈ vs, v.h.lines.length * 40 ≤ 140737488355328) :
    Calls Try.prog 25 #[.slice A n c] w (Copied w (vs.map HV.h)) := by
  have hll := Lib.hid hI.len
  replace hv := Lib.hid hv
  go_enter Try.func25, Try.ntmps25
  go_wp2_with fail
  go_loopw [3, 4] (fun o i wr => ∃ (k : Nat) (A2 : Option Addr) (c2 : Nat) (us : List HV), k ≤ n ∧ i = .int .i64 k ∧ o = .slice A2 k c2 ∧ us.map HV.h = (vs.map HV.h).take k ∧ OwnHs wr w.heap.size A2 k c2 us ∧ Below w.heap.size w wr)
    (fun _ i _ => n - (intOf i).toNat)
  case atStart => exact ⟨0, none, 0, [], Nat.zero_le _, rfl, rfl, by simp, OwnHs.nil _ _, Below.refl _ _⟩
  case round =>
    obtain ⟨k, A2, c2, us, hk, rfl, rfl, hus, hown, hbr⟩ := hrel
    replace hus := Lib.hid hus
    replace hown := Lib.hid hown
    by_cases hlt : k < n
    · have hlt' : (k : Int) < (n : Int) := by omega
      have hkl : k < vs.length := by have := hll.out; omega
      obtain ⟨b, off, rfl, hbl, hxx⟩ := (hI.below hbr).1.form HV.len (by omega) (by omega)
      have hxc := hxx k hkl
      have hvs := hv.out _ (List.getElem_mem hkl)
      have hvA := ((hI.2 _ (List.getElem_mem hkl)).below hbr).more hbr.size
      obtain ⟨⟨⟨p, bo, li, ls, pe, mi⟩, Al, cl⟩, hvi⟩ : ∃ v, vs[k] = v := ⟨_, rfl⟩
      rw [hvi] at hxc hvs hvA
      have hxh : (vs.map HV.h).take (k + 1) = (vs.map HV.h).take k ++ [⟨p, bo, li, ls, pe, mi⟩] := by
        rw [List.take_add_one, List.getElem?_map, List.getElem?_eq_getElem hkl, hvi]; rfl
      replace hxh := Lib.hid hxh
      replace hvi := Lib.hid hvi
      have q0 := hxc 0 _ rfl
      have q1 := hxc 1 _ rfl
      have q2 := hxc 2 _ rfl
      have q3 := hxc 3 _ rfl
      have q4 := hxc 4 _ rfl
      have q5 := hxc 5 _ rfl
      simp only [Nat.add_zero] at q0 q1 q2 q3 q4 q5
      simp only [] at hvs
      clear hxc hxx
      go_wp2_with fail
      have hbz := Below.refl wr.heap.size wr
      refine (refOne_any _ p bo li ls Al cl pe mi hvs ((hvA.2.below hbz).more hbz.size)).mono ?_
      clear hbz
      rintro e w2 ⟨A3, c3, rfl, hc3, hown3, h2⟩
      have hbz := Below.refl wr.heap.size wr
      have hb2 : Below wr.heap.size wr w2 := hbz.trans (h2.mono hbz.size)
      have hO2 : OwnLs w2 w.heap.size ⟨⟨p, bo, li, ls, pe, mi⟩, A3, c3⟩ := ⟨hc3, World.ownsRow.mono hown3 (Nat.le_trans hbr.size hbz.size)⟩
      clear hown3 h2 hbz q0 q1 q2 q3 q4 q5
      have hbw2 : Below w.heap.size w w2 := hbr.trans (hb2.mono hbr.size)
      have hW3 : Below wr.heap.size wr (w2.alloc (.cells #[.int .i64 p, .int .i64 bo, .int .i64 li, .slice A3 ls.length c3, .bool pe, .int .i64 mi] 24)) := hb2.alloc hb2.size _
      have hO3 : OwnLs (w2.alloc (.cells #[.int .i64 p, .int .i64 bo, .int .i64 li, .slice A3 ls.length c3, .bool pe, .int .i64 mi] 24)) w.heap.size ⟨⟨p, bo, li, ls, pe, mi⟩, A3, c3⟩ := hO2.below ((Below.refl _ w2).alloc (Nat.le_refl _) _)
      have hr3 : Reads (w2.alloc (.cells #[.int .i64 p, .int .i64 bo, .int .i64 li, .slice A3 ls.length c3, .bool pe, .int .i64 mi] 24)) (w2.alloc (.cells #[.int .i64 p, .int .i64 bo, .int .i64 li, .slice A3 ls.length c3, .bool pe, .int .i64 mi] 24)).heap.size 6 (some ⟨w2.heap.size, 0, none⟩) 1 (HV.cells ⟨⟨p, bo, li, ls, pe, mi⟩, A3, c3⟩) :=
        Reads.of_blk (Blk.new w2 24 #[.int .i64 p, .int .i64 bo, .int .i64 li, .slice A3 ls.length c3, .bool pe, .int .i64 mi]) rfl (fun j u h => by simpa [HV.cells] using h)
      have hbs : w.heap.size ≤ (w2.alloc (.cells #[.int .i64 p, .int .i64 bo, .int .i64 li, .slice A3 ls.length c3, .bool pe, .int .i64 mi] 24)).heap.size := Nat.le_trans hbr.size hW3.size
      have ho3 := (hown.out.below hW3).2.2.1
      simp only [HV.val]
      go_wp2_with ((with_reducible refine go_append_at (c := 1) half_slice half_inf ho3 hr3 (HV.one _) ?a0 ?a1 ?a2 ?a3 ?a4 ?a5 ?a6 ?_); (case a0 => exact hbs); (case a1 => rfl); (case a2 => rfl); (case a3 => rfl); (case a4 => omega); (case a5 => unfold maxLen; omega); (case a6 => omega); rintro v4 w4 g1 g2 g3 -)
      obtain ⟨A4, c4, rfl, hc4⟩ := own_slice' g1
      have hO4 := own_push hown.out hO3 hW3 g3 g1 hc4
      have hb4 : Below w.heap.size w w4 := (hbr.trans (hW3.mono hbr.size)).trans g2
      clear g1 g2 g3 hO3 hW3 hO2
      try go_wp2_with fail
      go_roundw
      case rel => exact ⟨k + 1, A4, c4, us ++ [⟨⟨p, bo, li, ls, pe, mi⟩, A3, c3⟩], by omega, by go_num, rfl, by rw [hxh.out, List.map_append, hus.out]; rfl, hO4, hb4⟩
      case measure => simp [intOf]; omega
    · obtain rfl : k = n := by omega
      go_wp2_with fail
      go_ret
      exact ⟨A2, k, c2, us, rfl, by rw [hus.out, List.take_of_length_le (by simp [hll.out])], hown.out, hbr⟩

end Go.Proofs.Ytogkcokgcoookaa
