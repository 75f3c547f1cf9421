/-
  Layer 14 (shake): the chapter's examples.
-/
import Derived.Test.YtkbcnapfcojekaaShakeJ
import Derived.Test.YtkbcnapfcojekaaShakeR
import Derived.Deep.RegionHeld3
namespace Go.Proofs.Ytkbcnapfcojekaa
open Go.ChangeShapes Go.WideShapes Go.ChangeAt Go.RowKit Go.Shelf Go.Ed

theorem agg_Packet : Agg Try.prog 71 8 := ⟨_, Try.underlying71, rfl, by kernel_rfl⟩

theorem bcell {W w1 : World} (hb : Below W.heap.size W w1) : (∀ b o, b < W.heap.size → w1.cell? ⟨b, o, none⟩ = W.cell? ⟨b, o, none⟩) ∧ (∀ b o, b < W.heap.size → w1.frozen? ⟨b, o, none⟩ = W.frozen? ⟨b, o, none⟩) :=
  ⟨fun b o h => hb.cell (p := ⟨b, o, none⟩) h, fun b o h => hb.frozen (p := ⟨b, o, none⟩) h⟩

theorem Judge_lit (w : World) (A : Option Addr) (n c : Nat) (ls : List Seen) (me : Int) (kd src dst bo li ec el r : Int) (A2 : Option Addr) (n2 c2 : Nat) (hr : judge (got ls src) me ⟨kd, src, dst, bo, li, ec, el⟩ = r) (hn : (n : Int) ≤ 9223372036854775807) (hI : SeenAt w w.heap.size A n ls) :
    Calls Try.prog 42 #[.slice A n c, .int .i64 me, .agg #[.int .i64 kd, .int .i64 src, .int .i64 dst, .int .i64 bo, .int .i64 li, .int .i64 ec, .int .i64 el, .slice A2 n2 c2]] w fun e w' =>
      e = .returned (.int .i64 r) ∧ Below w.heap.size w w' := hr ▸ Judge_any w A n c ls me kd src dst bo li ec el A2 n2 c2 hn hI

theorem Later_lit (w : World) (a b c d : Int) (r : Bool) (hr : later a b c d = r) : Calls Try.prog 40 #[.int .i64 a, .int .i64 b, .int .i64 c, .int .i64 d] w fun e w' => e = .returned (.bool r) ∧ Below w.heap.size w w' := hr ▸ Later_any w a b c d

theorem one_at {W : World} {b : Nat} {t : TypeId} {s : Seen} (h : Blk W b t s.cells.toArray) : SeenAt W W.heap.size (some ⟨b, 0, none⟩) 1 [s] :=
  Reads.of_blk h rfl (fun j u hu => by simpa [rowCells] using hu)

theorem take4 {cur : List Value} {a b c d : Value} (h : cur.take 4 = [a, b, c, d]) : cur.toArray[0]? = some a ∧ cur.toArray[1]? = some b ∧ cur.toArray[2]? = some c ∧ cur.toArray[3]? = some d := by
  match cur, h with
  | x0 :: x1 :: x2 :: x3 :: r, h => simp at h; simp [h]

set_option maxRecDepth 100000 in
set_option maxHeartbeats 4000000 in
theorem awake14 (w : World) : Calls Try.prog 31 #[] w fun e w' => e = .returned (.bool true) ∧ Below w.heap.size w w' := by
  have hS : setS [⟨5, 3, 1, 2⟩] 5 (seeS (got [⟨5, 3, 1, 2⟩] 5) 3 2) = [⟨5, 3, 2, 2⟩] := by decide
  have HS := Lib.hid hS
  clear hS
  go_enter Try.func31, Try.ntmps31
  go_wp2_with fail
  obtain ⟨W, hW⟩ : ∃ W, W = (((w.alloc (.cells #[.int .i64 5, .int .i64 3, .int .i64 1, .int .i64 2] 60)).alloc (.cells #[.int .i64 3, .int .i64 5, .int .i64 2, .int .i64 3, .int .i64 1, .int .i64 7, .int .i64 2, .slice none 0 0] 71)).alloc
    (.cells #[.int .i64 3, .int .i64 5, .int .i64 2, .int .i64 3, .int .i64 1, .int .i64 7, .int .i64 1, .slice none 0 0] 71)).alloc (.cells #[.int .i64 3, .int .i64 5, .int .i64 2, .int .i64 3, .int .i64 0, .int .i64 7, .int .i64 2, .slice none 0 0] 71) := ⟨_, rfl⟩
  have hsz : W.heap.size = w.heap.size + 4 := by rw [hW]; simp
  have hbW : Below w.heap.size w W := by rw [hW]; exact ((((Below.refl _ w).alloc (Nat.le_refl _) _).alloc (by simp) _).alloc (by simp; omega) _).alloc (by simp; omega) _
  have b0 : Blk W w.heap.size 60 (Seen.cells ⟨5, 3, 1, 2⟩).toArray := by rw [hW]; exact (((Blk.new w _ _).alloc _).alloc _).alloc _
  have b1 : Blk W (w.heap.size + 1) 71 #[.int .i64 3, .int .i64 5, .int .i64 2, .int .i64 3, .int .i64 1, .int .i64 7, .int .i64 2, .slice none 0 0] := by rw [hW]; exact ((Blk.new' (by simp)).alloc _).alloc _
  have b2 : Blk W (w.heap.size + 1 + 1) 71 #[.int .i64 3, .int .i64 5, .int .i64 2, .int .i64 3, .int .i64 1, .int .i64 7, .int .i64 1, .slice none 0 0] := by rw [hW]; exact (Blk.new' (by simp)).alloc _
  have b3 : Blk W (w.heap.size + 1 + 1 + 1) 71 #[.int .i64 3, .int .i64 5, .int .i64 2, .int .i64 3, .int .i64 0, .int .i64 7, .int .i64 2, .slice none 0 0] := by rw [hW]; exact Blk.new' (by simp)
  rw [← hW]
  have Hsz := Lib.hid hsz
  clear hW hsz
  refine (See_any W _ 1 1 [⟨5, 3, 1, 2⟩] 5 3 2 (by omega) (by simp) (one_at b0)).mono ?_
  rintro e w1 ⟨v, rfl, hown, hb1⟩
  rw [HS.out] at hown
  obtain ⟨g, c1, rfl, hg, hgl⟩ := hown.form (by simp)
  have s1 := hb1.size
  have hs0 := Hsz.out
  obtain ⟨cur, hcb, -, -, -, -, hcx⟩ := own_blk hown
  have h1 : Below w.heap.size w w1 := hbW.trans (hb1.mono (by omega))
  have c1' := b0.below hb1 b0.lt
  have c2' := b1.below hb1 b1.lt
  have c3' := b2.below hb1 b2.lt
  have c4' := b3.below hb1 b3.lt
  obtain ⟨o0, o1, o2, o3⟩ := take4 hcx
  have HC := Lib.hid hcb
  clear b0 b1 b2 b3 hcx hown hb1 hs0 s1 hbW HS hcb
  obtain ⟨k0, k1, k2, k3, k4, k5, k6, k7⟩ := cells8 c2'
  go_wp2_with fail
  refine (Judge_lit _ (some ⟨w.heap.size, 0, none⟩) 1 1 [⟨5, 3, 1, 2⟩] 7 3 5 2 3 1 7 2 2 none 0 0 (by decide) (by omega) (one_at c1')).mono ?_
  rintro e w2 ⟨rfl, hb2⟩
  have h2 : Below w.heap.size w w2 := h1.trans (hb2.mono h1.size)
  have d1' := c1'.below hb2 c1'.lt
  have d3' := c3'.below hb2 c3'.lt
  have d4' := c4'.below hb2 c4'.lt
  have HC2 := Lib.hid (HC.out.below hb2 hgl)
  have hgl2 : g < w2.heap.size := by have := hb2.size; omega
  clear k0 k1 k2 k3 k4 k5 k6 k7 c1' c2' c3' c4' HC hb2 hgl
  obtain ⟨k0, k1, k2, k3, k4, k5, k6, k7⟩ := cells8 d3'
  go_wp2_with fail
  refine (Judge_lit _ (some ⟨w.heap.size, 0, none⟩) 1 1 [⟨5, 3, 1, 2⟩] 7 3 5 2 3 1 7 1 3 none 0 0 (by decide) (by omega) (one_at d1')).mono ?_
  rintro e w3 ⟨rfl, hb3⟩
  have h3 : Below w.heap.size w w3 := h2.trans (hb3.mono h2.size)
  have e1' := d1'.below hb3 d1'.lt
  have e4' := d4'.below hb3 d4'.lt
  have HC3 := Lib.hid (HC2.out.below hb3 hgl2)
  have hgl3 : g < w3.heap.size := by have := hb3.size; omega
  clear k0 k1 k2 k3 k4 k5 k6 k7 d1' d3' d4' HC2 hb3 hgl2
  obtain ⟨k0, k1, k2, k3, k4, k5, k6, k7⟩ := cells8 e4'
  go_wp2_with fail
  refine (Judge_lit _ (some ⟨w.heap.size, 0, none⟩) 1 1 [⟨5, 3, 1, 2⟩] 7 3 5 2 3 0 7 2 1 none 0 0 (by decide) (by omega) (one_at e1')).mono ?_
  rintro e w4 ⟨rfl, hb4⟩
  have h4 : Below w.heap.size w w4 := h3.trans (hb4.mono h3.size)
  have hC4 := HC3.out.below hb4 hgl3
  have r0 := (hC4.cell 0).trans o0
  have r1 := (hC4.cell 1).trans o1
  have r2 := (hC4.cell 2).trans o2
  have r3 := (hC4.cell 3).trans o3
  clear k0 k1 k2 k3 k4 k5 k6 k7 e1' e4' HC3 hb4 hgl3 hC4 o0 o1 o2 o3
  go_wp2_with fail
  refine (Later_lit _ 3 0 2 9 true (by decide)).mono ?_
  rintro e w5 ⟨rfl, hb5⟩
  go_wp2_with fail
  go_ret
  exact ⟨rfl, h4.trans (hb5.mono h4.size)⟩

end Go.Proofs.Ytkbcnapfcojekaa
