/-
  Layer 14: the statement ShakeFinds: of two nodes that have seen nothing later of each other than there is, the Welcome to a Hello is good, and what goes back by it. Every input; no condition.
-/
import Derived.Test.YtkbcnapfcojekaaHello
namespace Go.Proofs.Ytkbcnapfcojekaa
open Go.ChangeShapes Go.WideShapes Go.ChangeAt Go.RowKit Go.Ed Go.Joins

theorem judge_first {s : Seen} {bootA bootB mx src dst : Int} (h : later s.boot s.life bootA mx = false) : judge s bootB ⟨1, src, dst, bootA, mx, 0, 0⟩ = 3 := by
  unfold judge
  rw [if_neg (by simp [h]), if_neg (by simp), if_pos (by simp)]
theorem judge_fine {s : Seen} {me bo li kd src dst : Int} (h : later s.boot s.life bo li = false) (hk : kd ≠ 1) : judge s me ⟨kd, src, dst, bo, li, me, s.mine⟩ = 2 := by
  unfold judge
  rw [if_neg (by simp [h]), if_pos (by simp [hk])]

namespace finds
set_option maxRecDepth 100000 in
set_option maxHeartbeats 8000000 in
theorem walk (a b bootA bootB : Int) (A : Option Addr) (n cp : Nat) (la : List Seen) (A2 : Option Addr) (n2 cp2 : Nat) (lb : List Seen) (w : World) (hn : (n : Int) ≤ 9223372036854775807) (hn2 : (n2 : Int) ≤ 9223372036854775807) (hI : SeenAt w w.heap.size A n la) (hI2 : SeenAt w w.heap.size A2 n2 lb) :
    Calls Try.prog 9 #[.int .i64 a, .int .i64 b, .int .i64 bootA, .int .i64 bootB, .slice A n cp, .slice A2 n2 cp2] w fun e w' => e = .returned (.bool true) ∧ Below w.heap.size w w' := by
  obtain ⟨n1, h1⟩ : ∃ f, isNode a = f := ⟨_, rfl⟩
  obtain ⟨n2', h2⟩ : ∃ f, isNode b = f := ⟨_, rfl⟩
  obtain ⟨fa, h3⟩ : ∃ f, fitL a la = f := ⟨_, rfl⟩
  obtain ⟨fb, h4⟩ : ∃ f, fitL b lb = f := ⟨_, rfl⟩
  obtain ⟨m1, h5⟩ : ∃ f, isIn bootA 1 1099511627776 = f := ⟨_, rfl⟩
  obtain ⟨m2, h6⟩ : ∃ f, isIn bootB 1 1099511627776 = f := ⟨_, rfl⟩
  replace h1 := Lib.hid h1
  replace h2 := Lib.hid h2
  replace h3 := Lib.hid h3
  replace h4 := Lib.hid h4
  replace h5 := Lib.hid h5
  replace h6 := Lib.hid h6
  have hb0 : Below w.heap.size w w := Below.refl _ _
  go_enter Try.func9, Try.ntmps9
  go_wp2_with fail
  refine (node_lit _ a n1 h1.out).mono ?_
  rintro e w' ⟨rfl, rfl⟩
  cases n1
  · go_wp2_with fail
    refine (awake14 _).mono ?_
    rintro e w9 ⟨rfl, h9⟩
    go_wp2_with fail
    go_ret
    exact ⟨rfl, hb0.trans (h9.mono hb0.size)⟩
  go_wp2_with fail
  refine (node_lit _ b n2' h2.out).mono ?_
  rintro e w' ⟨rfl, rfl⟩
  cases n2'
  · go_wp2_with fail
    refine (awake14 _).mono ?_
    rintro e w9 ⟨rfl, h9⟩
    go_wp2_with fail
    go_ret
    exact ⟨rfl, hb0.trans (h9.mono hb0.size)⟩
  by_cases hab : a = b
  · subst hab
    go_wp2_with fail
    refine (awake14 _).mono ?_
    rintro e w9 ⟨rfl, h9⟩
    go_wp2_with fail
    go_ret
    exact ⟨rfl, hb0.trans (h9.mono hb0.size)⟩
  have hab' : (a == b) = false := by simpa using hab
  clear hab
  go_wp2_with fail
  refine (Fit_lit _ a A n cp la fa h3.out hn hI).mono ?_
  rintro e w1 ⟨rfl, hb1⟩
  clear hb0
  cases fa
  · go_wp2_with fail
    refine (awake14 _).mono ?_
    rintro e w9 ⟨rfl, h9⟩
    go_wp2_with fail
    go_ret
    exact ⟨rfl, hb1.trans (h9.mono hb1.size)⟩
  go_wp2_with fail
  refine (Fit_lit _ b A2 n2 cp2 lb fb h4.out hn2 ((hI2.below hb1).more hb1.size)).mono ?_
  rintro e w2 ⟨rfl, hb⟩
  have hb2 := hb1.trans (hb.mono hb1.size)
  clear hb1 hb
  cases fb
  · go_wp2_with fail
    refine (awake14 _).mono ?_
    rintro e w9 ⟨rfl, h9⟩
    go_wp2_with fail
    go_ret
    exact ⟨rfl, hb2.trans (h9.mono hb2.size)⟩
  go_wp2_with fail
  refine (within_lit _ bootA _ _ m1 h5.out).mono ?_
  rintro e w' ⟨rfl, rfl⟩
  cases m1
  · go_wp2_with fail
    refine (awake14 _).mono ?_
    rintro e w9 ⟨rfl, h9⟩
    go_wp2_with fail
    go_ret
    exact ⟨rfl, hb2.trans (h9.mono hb2.size)⟩
  go_wp2_with fail
  refine (within_lit _ bootB _ _ m2 h6.out).mono ?_
  rintro e w' ⟨rfl, rfl⟩
  cases m2
  · go_wp2_with fail
    refine (awake14 _).mono ?_
    rintro e w9 ⟨rfl, h9⟩
    go_wp2_with fail
    go_ret
    exact ⟨rfl, hb2.trans (h9.mono hb2.size)⟩
  obtain ⟨⟨qx, bx, lx, mx⟩, hgx⟩ : ∃ s, got la b = s := ⟨_, rfl⟩
  obtain ⟨⟨qy, ky, ly, my⟩, hgy⟩ : ∃ s, got lb a = s := ⟨_, rfl⟩
  replace hgx := Lib.hid hgx
  replace hgy := Lib.hid hgy
  -- x, y
  go_wp2_with fail
  refine (Get_lit _ A n cp la b hgx.out hn ((hI.below hb2).more hb2.size)).mono ?_
  rintro e u1 ⟨rfl, g1⟩
  have hu1 := (hb2.trans (g1.mono hb2.size)).alloc (hb2.trans (g1.mono hb2.size)).size (.cells #[.int .i64 qx, .int .i64 bx, .int .i64 lx, .int .i64 mx] 60)
  have hX1 : Blk (u1.alloc (.cells #[.int .i64 qx, .int .i64 bx, .int .i64 lx, .int .i64 mx] 60)) u1.heap.size 60 #[.int .i64 qx, .int .i64 bx, .int .i64 lx, .int .i64 mx] := Blk.new _ _ _
  clear g1 hb2
  go_wp2_with fail
  generalize u1.alloc (.cells #[.int .i64 qx, .int .i64 bx, .int .i64 lx, .int .i64 mx] 60) = U1 at *
  generalize u1.heap.size = gx at *
  refine (Get_lit _ A2 n2 cp2 lb a hgy.out hn2 ((hI2.below hu1).more hu1.size)).mono ?_
  rintro e u2 ⟨rfl, g2⟩
  have hu2 := (hu1.trans (g2.mono hu1.size)).alloc (hu1.trans (g2.mono hu1.size)).size (.cells #[.int .i64 qy, .int .i64 ky, .int .i64 ly, .int .i64 my] 60)
  have hY2 : Blk (u2.alloc (.cells #[.int .i64 qy, .int .i64 ky, .int .i64 ly, .int .i64 my] 60)) u2.heap.size 60 #[.int .i64 qy, .int .i64 ky, .int .i64 ly, .int .i64 my] := Blk.new _ _ _
  have hX2 := (hX1.below g2 hX1.lt).alloc (.cells #[.int .i64 qy, .int .i64 ky, .int .i64 ly, .int .i64 my] 60)
  obtain ⟨x0, x1, x2, x3⟩ := cells4 hX2
  clear g2 hu1 hX1
  go_wp2_with fail
  generalize u2.alloc (.cells #[.int .i64 qy, .int .i64 ky, .int .i64 ly, .int .i64 my] 60) = U2 at *
  generalize u2.heap.size = gy at *
  obtain ⟨y0, y1, y2, y3⟩ := cells4 hY2
  obtain ⟨r1, hr1⟩ : ∃ r, later bx lx bootB my = r := ⟨_, rfl⟩
  obtain ⟨r2, hr2⟩ : ∃ r, later ky ly bootA mx = r := ⟨_, rfl⟩
  replace hr1 := Lib.hid hr1
  replace hr2 := Lib.hid hr2
  refine (Later_lit _ bx lx bootB my r1 hr1.out).mono ?_
  rintro e u3 ⟨rfl, g3⟩
  have hu3 := hu2.trans (g3.mono hu2.size)
  have hX3 := hX2.below g3 hX2.lt
  have hY3 := hY2.below g3 hY2.lt
  clear g3 hu2 hX2 hY2 x0 x1 x2 x3 y0 y1 y2 y3
  by_cases hc1 : r1 = true
  · subst hc1
    go_wp2_with fail
    refine (awake14 _).mono ?_
    rintro e w9 ⟨rfl, h9⟩
    go_wp2_with fail
    go_ret
    exact ⟨rfl, hu3.trans (h9.mono hu3.size)⟩
  obtain rfl : r1 = false := by simpa using hc1
  clear hc1
  obtain ⟨x0, x1, x2, x3⟩ := cells4 hX3
  obtain ⟨y0, y1, y2, y3⟩ := cells4 hY3
  go_wp2_with fail
  refine (Later_lit _ ky ly bootA mx r2 hr2.out).mono ?_
  rintro e u4 ⟨rfl, g4⟩
  have hu4 := hu3.trans (g4.mono hu3.size)
  have hX4 := hX3.below g4 hX3.lt
  clear g4 hu3 hX3 hY3 x0 x1 x2 x3 y0 y1 y2 y3
  by_cases hc1 : r2 = true
  · subst hc1
    go_wp2_with fail
    refine (awake14 _).mono ?_
    rintro e w9 ⟨rfl, h9⟩
    go_wp2_with fail
    go_ret
    exact ⟨rfl, hu4.trans (h9.mono hu4.size)⟩
  obtain rfl : r2 = false := by simpa using hc1
  clear hc1
  -- Hello
  go_wp2_with fail
  refine (hello_any _ a bootA b A n cp la hgx.out hn ((hI.below hu4).more hu4.size)).mono ?_
  rintro e u5 ⟨rfl, g5⟩
  have hu5 := (hu4.trans (g5.mono hu4.size)).alloc (hu4.trans (g5.mono hu4.size)).size (.cells #[.int .i64 1, .int .i64 a, .int .i64 b, .int .i64 bootA, .int .i64 mx, .int .i64 0, .int .i64 0, .slice none 0 0] 71)
  have hH5 : Blk (u5.alloc (.cells #[.int .i64 1, .int .i64 a, .int .i64 b, .int .i64 bootA, .int .i64 mx, .int .i64 0, .int .i64 0, .slice none 0 0] 71)) u5.heap.size 71 #[.int .i64 1, .int .i64 a, .int .i64 b, .int .i64 bootA, .int .i64 mx, .int .i64 0, .int .i64 0, .slice none 0 0] := Blk.new _ _ _
  have hX5 := (hX4.below g5 hX4.lt).alloc (.cells #[.int .i64 1, .int .i64 a, .int .i64 b, .int .i64 bootA, .int .i64 mx, .int .i64 0, .int .i64 0, .slice none 0 0] 71)
  clear g5 hu4 hX4
  go_wp2_with fail
  generalize u5.alloc (.cells #[.int .i64 1, .int .i64 a, .int .i64 b, .int .i64 bootA, .int .i64 mx, .int .i64 0, .int .i64 0, .slice none 0 0] 71) = U5 at *
  generalize u5.heap.size = gh at *
  have j1 : judge (got lb a) bootB ⟨1, a, b, bootA, mx, 0, 0⟩ = 3 := by rw [hgy.out]; exact judge_first hr2.out
  refine (Judge_lit _ A2 n2 cp2 lb bootB 1 a b bootA mx 0 0 3 none 0 0 j1 hn2 ((hI2.below hu5).more hu5.size)).mono ?_
  rintro e u6 ⟨rfl, g6⟩
  have hu6 := hu5.trans (g6.mono hu5.size)
  have hX6 := hX5.below g6 hX5.lt
  have hH6 := hH5.below g6 hH5.lt
  clear g6 hu5 hX5 hH5 j1
  obtain ⟨k0, k1, k2, k3, k4, k5, k6, k7⟩ := cells8 hH6
  -- Welcome
  go_wp2_with fail
  refine (welcome_any _ b bootB A2 n2 cp2 lb 1 a b bootA mx 0 0 none 0 0 hgy.out hn2 ((hI2.below hu6).more hu6.size)).mono ?_
  rintro e u7 ⟨rfl, g7⟩
  have hu7 := (hu6.trans (g7.mono hu6.size)).alloc (hu6.trans (g7.mono hu6.size)).size (.cells #[.int .i64 2, .int .i64 b, .int .i64 a, .int .i64 bootB, .int .i64 my, .int .i64 bootA, .int .i64 mx, .slice none 0 0] 71)
  have hH7 : Blk (u7.alloc (.cells #[.int .i64 2, .int .i64 b, .int .i64 a, .int .i64 bootB, .int .i64 my, .int .i64 bootA, .int .i64 mx, .slice none 0 0] 71)) u7.heap.size 71 #[.int .i64 2, .int .i64 b, .int .i64 a, .int .i64 bootB, .int .i64 my, .int .i64 bootA, .int .i64 mx, .slice none 0 0] := Blk.new _ _ _
  have hX7 := (hX6.below g7 hX6.lt).alloc (.cells #[.int .i64 2, .int .i64 b, .int .i64 a, .int .i64 bootB, .int .i64 my, .int .i64 bootA, .int .i64 mx, .slice none 0 0] 71)
  clear g7 hu6 hX6 hH6 k0 k1 k2 k3 k4 k5 k6 k7
  go_wp2_with fail
  generalize u7.alloc (.cells #[.int .i64 2, .int .i64 b, .int .i64 a, .int .i64 bootB, .int .i64 my, .int .i64 bootA, .int .i64 mx, .slice none 0 0] 71) = U7 at *
  generalize u7.heap.size = gw at *
  have j2 : judge (got la b) bootA ⟨2, b, a, bootB, my, bootA, mx⟩ = 2 := by rw [hgx.out]; exact judge_fine (s := ⟨qx, bx, lx, mx⟩) hr1.out (by omega)
  refine (Judge_lit _ A n cp la bootA 2 b a bootB my bootA mx 2 none 0 0 j2 hn ((hI.below hu7).more hu7.size)).mono ?_
  rintro e u8 ⟨rfl, g8⟩
  have hu8 := hu7.trans (g8.mono hu7.size)
  have hX8 := hX7.below g8 hX7.lt
  have hH8 := hH7.below g8 hH7.lt
  clear g8 hu7 hX7 hH7 j2
  obtain ⟨k0, k1, k2, k3, k4, k5, k6, k7⟩ := cells8 hH8
  obtain ⟨x0, x1, x2, x3⟩ := cells4 hX8
  have hu9 := hu8.alloc hu8.size (.cells #[.int .i64 3, .int .i64 a, .int .i64 b, .int .i64 bootA, .int .i64 mx, .int .i64 bootB, .int .i64 my, .slice none 0 0] 71)
  have j3 : judge (got lb a) bootB ⟨3, a, b, bootA, mx, bootB, my⟩ = 2 := by rw [hgy.out]; exact judge_fine (s := ⟨qy, ky, ly, my⟩) hr2.out (by omega)
  go_wp2_with fail
  refine (Judge_lit _ A2 n2 cp2 lb bootB 3 a b bootA mx bootB my 2 none 0 0 j3 hn2 ((hI2.below hu9).more hu9.size)).mono ?_
  rintro e ua ⟨rfl, ga⟩
  have hua := hu9.trans (ga.mono hu9.size)
  clear ga hu9 j3 k0 k1 k2 k3 k4 k5 k6 k7 x0 x1 x2 x3 hX8 hH8
  go_wp2_with fail
  refine (awake14 _).mono ?_
  rintro e w9 ⟨rfl, h9⟩
  go_wp2_with fail
  go_ret
  exact ⟨rfl, hua.trans (h9.mono hua.size)⟩

theorem own : ownKnob Try.prog.godebug = none := by kernel_rfl
theorem laidOut : laidOutB Try.prog = true := by kernel_rfl

set_option maxRecDepth 100000 in
theorem lifted (os : Os) (started : os.Started) (H : Type) (enc : TypeId × Value → H) :
    ReturnsInHanded {} Try.checked os 9 .any (Rows.shakeFindsSpec.pre6 enc Try.prog Try.f9 Rows.shakeFindsRow.domain false) (Rows.shakeFindsSpec.post enc Try.prog Try.f9 false true false false) := by
  refine lift_law (C := Try.checked) own started (by kernel_rfl) Try.func9
    (ChangeSpec.witness6 (enc := enc) (C := Try.checked) false ⟨#[], #[.int .i64 0, .int .i64 0, .int .i64 0, .int .i64 0, .slice none 0 0, .slice none 0 0], []⟩ 8 (by kernel_rfl) (by kernel_rfl) (by kernel_rfl) (by kernel_rfl))
    laidOut (by kernel_rfl) rfl Try.underlying4 rfl (fun ds h => by match ds, h with | [d0, d1, d2, d3, d4, d5], _ => rfl) ?_
  intro W base args ds p hval0 hA0 hsz
  have hval : ∀ (j : Nat) t v, Try.f9.params[j]? = some t → args[j]? = some v → Value.okWide Try.prog W .any base t v := hval0
  have hA : DataW.TrodAll enc Try.prog W 0 (fun _ => true) true Try.f9.params.toList args.toList ds p := hA0
  rw [Try.params9] at hA hval
  clear hA0 hval0
  obtain ⟨v0, vs0, d0, ds0, p0, q0, hargs, rfl, rfl, h0, r0⟩ := trodAll_cons hA
  obtain ⟨v1, vs1, d1, ds1, p1, q1, rfl, rfl, rfl, h1, r1⟩ := trodAll_cons r0
  obtain ⟨v2, vs2, d2, ds2, p2, q2, rfl, rfl, rfl, h2, r2⟩ := trodAll_cons r1
  obtain ⟨v3, vs3, d3, ds3, p3, q3, rfl, rfl, rfl, h3, r3⟩ := trodAll_cons r2
  obtain ⟨v4, vs4, d4, ds4, p4, q4, rfl, rfl, rfl, h4, r4⟩ := trodAll_cons r3
  obtain ⟨v5, vs5, d5, ds5, p5, q5, rfl, rfl, rfl, h5, r5⟩ := trodAll_cons r4
  obtain ⟨rfl, rfl, rfl⟩ := trodAll_nil r5
  obtain rfl := args_of_toList hargs
  obtain ⟨x0, rfl, _, _, _wf0⟩ := open_int Try.underlying3 (hval 0 3 v0 rfl rfl) h0
  obtain ⟨x1, rfl, _, _, _wf1⟩ := open_int Try.underlying3 (hval 1 3 v1 rfl rfl) h1
  obtain ⟨x2, rfl, _, _, _wf2⟩ := open_int Try.underlying2 (hval 2 2 v2 rfl rfl) h2
  obtain ⟨x3, rfl, _, _, _wf3⟩ := open_int Try.underlying2 (hval 3 2 v3 rfl rfl) h3
  obtain ⟨_a4, _l4, _c4, rfl⟩ := okWide_slice Try.underlying52 (hval 4 52 v4 rfl rfl)
  obtain ⟨_fuel4, hf4⟩ := h4
  obtain ⟨A4, m4, c4, ls4, hcs4, hm4, hc4, hI4, hw4⟩ := (open_seens Try.underlying52 Try.underlying60 (by kernel_rfl) rfl rfl rfl rfl (by kernel_rfl) (by kernel_rfl) (by kernel_rfl) (by kernel_rfl) (by kernel_rfl) (by kernel_rfl) (by kernel_rfl) (by kernel_rfl)) hf4
  simp only [Value.cells, List.cons.injEq, Value.slice.injEq, and_true] at hcs4
  obtain ⟨rfl, rfl, rfl⟩ := hcs4
  obtain ⟨_a5, _l5, _c5, rfl⟩ := okWide_slice Try.underlying52 (hval 5 52 v5 rfl rfl)
  obtain ⟨_fuel5, hf5⟩ := h5
  obtain ⟨A5, m5, c5, ls5, hcs5, hm5, hc5, hI5, hw5⟩ := (open_seens Try.underlying52 Try.underlying60 (by kernel_rfl) rfl rfl rfl rfl (by kernel_rfl) (by kernel_rfl) (by kernel_rfl) (by kernel_rfl) (by kernel_rfl) (by kernel_rfl) (by kernel_rfl) (by kernel_rfl)) hf5
  simp only [Value.cells, List.cons.injEq, Value.slice.injEq, and_true] at hcs5
  obtain ⟨rfl, rfl, rfl⟩ := hcs5
  exact walk x0 x1 x2 x3 _ _ _ ls4 _ _ _ ls5 W (by unfold maxLen at hm4; omega) (by unfold maxLen at hm5; omega) hI4 hI5

theorem proved : Rows.ShakeFindsSaid :=
  OpenClaim.holds_of_wide 9 Try.f9 rfl rfl rfl rfl rfl rfl rfl ⟨rfl, rfl, rfl, rfl, rfl⟩ rfl rfl rfl rfl rfl (by kernel_rfl) Try.func9 (by kernel_rfl)
    (of_decide_eq_true (by kernel_rfl)) (by unfold Func.isWrapper; first | (rw [if_pos (by decide +kernel)]; kernel_rfl) | (rw [if_neg (by decide +kernel)]; exact ⟨rfl, rfl⟩))
    (fun os started H enc _ => lifted os started H enc)
#print axioms proved

end finds
end Go.Proofs.Ytkbcnapfcojekaa
