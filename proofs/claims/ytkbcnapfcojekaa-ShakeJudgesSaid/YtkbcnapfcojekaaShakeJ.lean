/-
  Layer 14 (shake): Judge, the code's and the document's.
-/
import Derived.Test.YtkbcnapfcojekaaShakeC
namespace Go.Proofs.Ytkbcnapfcojekaa
open Go.ChangeShapes Go.WideShapes Go.ChangeAt Go.RowKit Go.Shelf Go.Ed

/-- api.Packet, all but its items -/
structure Pk where
  kind : Int
  src : Int
  dst : Int
  boot : Int
  life : Int
  echo : Int
  echoLife : Int

/-- what becomes of a packet, by what was seen of its sender -/
def judge (s : Seen) (boot : Int) (p : Pk) : Int :=
  if later s.boot s.life p.boot p.life then 1 else if p.kind ≠ 1 ∧ p.echo = boot ∧ p.echoLife = s.mine then 2 else if p.kind = 1 ∨ p.kind = 3 then 3 else 4

theorem cells8 {w : World} {g : Nat} {t : TypeId} {a b c d e f h i : Value} (k : Blk w g t #[a, b, c, d, e, f, h, i]) : w.cell? ⟨g, 0, none⟩ = some a ∧ w.cell? ⟨g, 1, none⟩ = some b ∧ w.cell? ⟨g, 2, none⟩ = some c ∧ w.cell? ⟨g, 3, none⟩ = some d ∧
    w.cell? ⟨g, 4, none⟩ = some e ∧ w.cell? ⟨g, 5, none⟩ = some f ∧ w.cell? ⟨g, 6, none⟩ = some h ∧ w.cell? ⟨g, 7, none⟩ = some i :=
  ⟨k.cell 0, k.cell 1, k.cell 2, k.cell 3, k.cell 4, k.cell 5, k.cell 6, k.cell 7⟩

theorem judge_mid {w W0 w2 w3 : World} {g : Nat} {t t2 : TypeId} {cs ds : Array Value} (hB0 : Blk W0 g t cs) (hb2 : Below W0.heap.size W0 w2) (hb3 : Below (w2.alloc (.cells ds t2)).heap.size (w2.alloc (.cells ds t2)) w3) (_ : W0.heap.size = w.heap.size + 1) :
    Blk w3 g t cs ∧ Blk w3 w2.heap.size t2 ds := by
  have h1 := hB0.lt
  have h2 := hb2.size
  exact ⟨((hB0.below hb2 h1).alloc _).below hb3 (by simp; omega), (Blk.new w2 _ _).below hb3 (by simp)⟩
set_option maxRecDepth 100000 in
set_option maxHeartbeats 4000000 in
theorem Judge_any (w : World) (A : Option Addr) (n c : Nat) (ls : List Seen) (me : Int) (kd src dst bo li ec el : Int) (A2 : Option Addr) (n2 c2 : Nat) (hn : (n : Int) ≤ 9223372036854775807) (hI : SeenAt w w.heap.size A n ls) :
    Calls Try.prog 42 #[.slice A n c, .int .i64 me, .agg #[.int .i64 kd, .int .i64 src, .int .i64 dst, .int .i64 bo, .int .i64 li, .int .i64 ec, .int .i64 el, .slice A2 n2 c2]] w fun e w' =>
      e = .returned (.int .i64 (judge (got ls src) me ⟨kd, src, dst, bo, li, ec, el⟩)) ∧ Below w.heap.size w w' := by
  obtain ⟨⟨q, b, l, m⟩, hg⟩ : ∃ s, got ls src = s := ⟨_, rfl⟩
  rw [hg]
  have hb0 : Below w.heap.size w (w.alloc (.cells #[.int .i64 kd, .int .i64 src, .int .i64 dst, .int .i64 bo, .int .i64 li, .int .i64 ec, .int .i64 el, .slice A2 n2 c2] 71)) := (Below.refl _ w).alloc (Nat.le_refl _) _
  have hs0 : (w.alloc (.cells #[.int .i64 kd, .int .i64 src, .int .i64 dst, .int .i64 bo, .int .i64 li, .int .i64 ec, .int .i64 el, .slice A2 n2 c2] 71)).heap.size = w.heap.size + 1 := by simp
  have hB0 : Blk (w.alloc (.cells #[.int .i64 kd, .int .i64 src, .int .i64 dst, .int .i64 bo, .int .i64 li, .int .i64 ec, .int .i64 el, .slice A2 n2 c2] 71)) w.heap.size 71 #[.int .i64 kd, .int .i64 src, .int .i64 dst, .int .i64 bo, .int .i64 li, .int .i64 ec, .int .i64 el, .slice A2 n2 c2] := Blk.new _ _ _
  have HB0 := Lib.hid hB0
  clear hB0
  by_cases h1 : later b l bo li = true
  · have hj : judge ⟨q, b, l, m⟩ me ⟨kd, src, dst, bo, li, ec, el⟩ = 1 := by simp [judge, h1]
    have Hj := Lib.hid hj
    clear hj
    go_enter Try.func42, Try.ntmps42
    go_wp2_with (first | (go_at_call 67; refine (find_as _ _ _ _ ls _ hn ((hI.below hb0).more (by omega)) hg).mono ?_; rintro e w2 ⟨rfl, hb2⟩; have s2 : w.heap.size < w2.heap.size := (by have := hb2.size; omega); have hB2 := HB0.out.below hb2 (by omega); obtain ⟨k0, k1, k2, k3, k4, k5, k6, k7⟩ := cells8 hB2; replace k0 := cell_alloc k0 s2; replace k3 := cell_alloc k3 s2; replace k4 := cell_alloc k4 s2; replace k5 := cell_alloc k5 s2; replace k6 := cell_alloc k6 s2; clear hB2 k1 k2 k7) | (go_at_call 65; refine (stamp_later _ _ _ _ _).mono ?_; rintro e w3 ⟨rfl, hb3⟩; obtain ⟨hP3, hS3⟩ := judge_mid HB0.out hb2 hb3 (by omega); obtain ⟨k0, k1, k2, k3, k4, k5, k6, k7⟩ := cells8 hP3; obtain ⟨e0, e1, e2, e3⟩ := cells4 hS3; clear hP3 hS3))
    go_ret
    rw [Hj.out]
    exact ⟨rfl, (hb0.trans (hb2.mono (by omega))).trans (((Below.refl _ w2).alloc (by omega) _).trans (hb3.mono (by simp; omega)))⟩
  have h1' : later b l bo li = false := by simpa using h1
  clear h1
  by_cases h2 : kd = 1
  · subst h2
    have hj : judge ⟨q, b, l, m⟩ me ⟨1, src, dst, bo, li, ec, el⟩ = 3 := by simp [judge, h1']
    have Hj := Lib.hid hj
    clear hj
    go_enter Try.func42, Try.ntmps42
    go_wp2_with (first | (go_at_call 67; refine (find_as _ _ _ _ ls _ hn ((hI.below hb0).more (by omega)) hg).mono ?_; rintro e w2 ⟨rfl, hb2⟩; have s2 : w.heap.size < w2.heap.size := (by have := hb2.size; omega); have hB2 := HB0.out.below hb2 (by omega); obtain ⟨k0, k1, k2, k3, k4, k5, k6, k7⟩ := cells8 hB2; replace k0 := cell_alloc k0 s2; replace k3 := cell_alloc k3 s2; replace k4 := cell_alloc k4 s2; replace k5 := cell_alloc k5 s2; replace k6 := cell_alloc k6 s2; clear hB2 k1 k2 k7) | (go_at_call 65; refine (stamp_later _ _ _ _ _).mono ?_; rintro e w3 ⟨rfl, hb3⟩; obtain ⟨hP3, hS3⟩ := judge_mid HB0.out hb2 hb3 (by omega); obtain ⟨k0, k1, k2, k3, k4, k5, k6, k7⟩ := cells8 hP3; obtain ⟨e0, e1, e2, e3⟩ := cells4 hS3; clear hP3 hS3))
    go_ret
    rw [Hj.out]
    exact ⟨rfl, (hb0.trans (hb2.mono (by omega))).trans (((Below.refl _ w2).alloc (by omega) _).trans (hb3.mono (by simp; omega)))⟩
  have b2 : (kd == 1) = false := by simpa using h2
  have b2' : (kd != 1) = true := by simpa using h2
  by_cases h3 : ec = me
  · subst h3
    by_cases h4 : el = m
    · subst h4
      have hj : judge ⟨q, b, l, el⟩ ec ⟨kd, src, dst, bo, li, ec, el⟩ = 2 := by simp [judge, h1', h2]
      have Hj := Lib.hid hj
      clear hj
      go_enter Try.func42, Try.ntmps42
      go_wp2_with (first | (go_at_call 67; refine (find_as _ _ _ _ ls _ hn ((hI.below hb0).more (by omega)) hg).mono ?_; rintro e w2 ⟨rfl, hb2⟩; have s2 : w.heap.size < w2.heap.size := (by have := hb2.size; omega); have hB2 := HB0.out.below hb2 (by omega); obtain ⟨k0, k1, k2, k3, k4, k5, k6, k7⟩ := cells8 hB2; replace k0 := cell_alloc k0 s2; replace k3 := cell_alloc k3 s2; replace k4 := cell_alloc k4 s2; replace k5 := cell_alloc k5 s2; replace k6 := cell_alloc k6 s2; clear hB2 k1 k2 k7) | (go_at_call 65; refine (stamp_later _ _ _ _ _).mono ?_; rintro e w3 ⟨rfl, hb3⟩; obtain ⟨hP3, hS3⟩ := judge_mid HB0.out hb2 hb3 (by omega); obtain ⟨k0, k1, k2, k3, k4, k5, k6, k7⟩ := cells8 hP3; obtain ⟨e0, e1, e2, e3⟩ := cells4 hS3; clear hP3 hS3))
      go_ret
      rw [Hj.out]
      exact ⟨rfl, (hb0.trans (hb2.mono (by omega))).trans (((Below.refl _ w2).alloc (by omega) _).trans (hb3.mono (by simp; omega)))⟩
    have b4 : (el == m) = false := by simpa using h4
    by_cases h5 : kd = 3
    · subst h5
      have hj : judge ⟨q, b, l, m⟩ ec ⟨3, src, dst, bo, li, ec, el⟩ = 3 := by simp [judge, h1', h4]
      have Hj := Lib.hid hj
      clear hj
      go_enter Try.func42, Try.ntmps42
      go_wp2_with (first | (go_at_call 67; refine (find_as _ _ _ _ ls _ hn ((hI.below hb0).more (by omega)) hg).mono ?_; rintro e w2 ⟨rfl, hb2⟩; have s2 : w.heap.size < w2.heap.size := (by have := hb2.size; omega); have hB2 := HB0.out.below hb2 (by omega); obtain ⟨k0, k1, k2, k3, k4, k5, k6, k7⟩ := cells8 hB2; replace k0 := cell_alloc k0 s2; replace k3 := cell_alloc k3 s2; replace k4 := cell_alloc k4 s2; replace k5 := cell_alloc k5 s2; replace k6 := cell_alloc k6 s2; clear hB2 k1 k2 k7) | (go_at_call 65; refine (stamp_later _ _ _ _ _).mono ?_; rintro e w3 ⟨rfl, hb3⟩; obtain ⟨hP3, hS3⟩ := judge_mid HB0.out hb2 hb3 (by omega); obtain ⟨k0, k1, k2, k3, k4, k5, k6, k7⟩ := cells8 hP3; obtain ⟨e0, e1, e2, e3⟩ := cells4 hS3; clear hP3 hS3))
      go_ret
      rw [Hj.out]
      exact ⟨rfl, (hb0.trans (hb2.mono (by omega))).trans (((Below.refl _ w2).alloc (by omega) _).trans (hb3.mono (by simp; omega)))⟩
    · have b5 : (kd == 3) = false := by simpa using h5
      have hj : judge ⟨q, b, l, m⟩ ec ⟨kd, src, dst, bo, li, ec, el⟩ = 4 := by simp [judge, h1', h2, h4, h5]
      have Hj := Lib.hid hj
      clear hj
      go_enter Try.func42, Try.ntmps42
      go_wp2_with (first | (go_at_call 67; refine (find_as _ _ _ _ ls _ hn ((hI.below hb0).more (by omega)) hg).mono ?_; rintro e w2 ⟨rfl, hb2⟩; have s2 : w.heap.size < w2.heap.size := (by have := hb2.size; omega); have hB2 := HB0.out.below hb2 (by omega); obtain ⟨k0, k1, k2, k3, k4, k5, k6, k7⟩ := cells8 hB2; replace k0 := cell_alloc k0 s2; replace k3 := cell_alloc k3 s2; replace k4 := cell_alloc k4 s2; replace k5 := cell_alloc k5 s2; replace k6 := cell_alloc k6 s2; clear hB2 k1 k2 k7) | (go_at_call 65; refine (stamp_later _ _ _ _ _).mono ?_; rintro e w3 ⟨rfl, hb3⟩; obtain ⟨hP3, hS3⟩ := judge_mid HB0.out hb2 hb3 (by omega); obtain ⟨k0, k1, k2, k3, k4, k5, k6, k7⟩ := cells8 hP3; obtain ⟨e0, e1, e2, e3⟩ := cells4 hS3; clear hP3 hS3))
      go_ret
      rw [Hj.out]
      exact ⟨rfl, (hb0.trans (hb2.mono (by omega))).trans (((Below.refl _ w2).alloc (by omega) _).trans (hb3.mono (by simp; omega)))⟩
  have b3 : (ec == me) = false := by simpa using h3
  by_cases h5 : kd = 3
  · subst h5
    have hj : judge ⟨q, b, l, m⟩ me ⟨3, src, dst, bo, li, ec, el⟩ = 3 := by simp [judge, h1', h3]
    have Hj := Lib.hid hj
    clear hj
    go_enter Try.func42, Try.ntmps42
    go_wp2_with (first | (go_at_call 67; refine (find_as _ _ _ _ ls _ hn ((hI.below hb0).more (by omega)) hg).mono ?_; rintro e w2 ⟨rfl, hb2⟩; have s2 : w.heap.size < w2.heap.size := (by have := hb2.size; omega); have hB2 := HB0.out.below hb2 (by omega); obtain ⟨k0, k1, k2, k3, k4, k5, k6, k7⟩ := cells8 hB2; replace k0 := cell_alloc k0 s2; replace k3 := cell_alloc k3 s2; replace k4 := cell_alloc k4 s2; replace k5 := cell_alloc k5 s2; replace k6 := cell_alloc k6 s2; clear hB2 k1 k2 k7) | (go_at_call 65; refine (stamp_later _ _ _ _ _).mono ?_; rintro e w3 ⟨rfl, hb3⟩; obtain ⟨hP3, hS3⟩ := judge_mid HB0.out hb2 hb3 (by omega); obtain ⟨k0, k1, k2, k3, k4, k5, k6, k7⟩ := cells8 hP3; obtain ⟨e0, e1, e2, e3⟩ := cells4 hS3; clear hP3 hS3))
    go_ret
    rw [Hj.out]
    exact ⟨rfl, (hb0.trans (hb2.mono (by omega))).trans (((Below.refl _ w2).alloc (by omega) _).trans (hb3.mono (by simp; omega)))⟩
  · have b5 : (kd == 3) = false := by simpa using h5
    have hj : judge ⟨q, b, l, m⟩ me ⟨kd, src, dst, bo, li, ec, el⟩ = 4 := by simp [judge, h1', h2, h3, h5]
    have Hj := Lib.hid hj
    clear hj
    go_enter Try.func42, Try.ntmps42
    go_wp2_with (first | (go_at_call 67; refine (find_as _ _ _ _ ls _ hn ((hI.below hb0).more (by omega)) hg).mono ?_; rintro e w2 ⟨rfl, hb2⟩; have s2 : w.heap.size < w2.heap.size := (by have := hb2.size; omega); have hB2 := HB0.out.below hb2 (by omega); obtain ⟨k0, k1, k2, k3, k4, k5, k6, k7⟩ := cells8 hB2; replace k0 := cell_alloc k0 s2; replace k3 := cell_alloc k3 s2; replace k4 := cell_alloc k4 s2; replace k5 := cell_alloc k5 s2; replace k6 := cell_alloc k6 s2; clear hB2 k1 k2 k7) | (go_at_call 65; refine (stamp_later _ _ _ _ _).mono ?_; rintro e w3 ⟨rfl, hb3⟩; obtain ⟨hP3, hS3⟩ := judge_mid HB0.out hb2 hb3 (by omega); obtain ⟨k0, k1, k2, k3, k4, k5, k6, k7⟩ := cells8 hP3; obtain ⟨e0, e1, e2, e3⟩ := cells4 hS3; clear hP3 hS3))
    go_ret
    rw [Hj.out]
    exact ⟨rfl, (hb0.trans (hb2.mono (by omega))).trans (((Below.refl _ w2).alloc (by omega) _).trans (hb3.mono (by simp; omega)))⟩

set_option maxRecDepth 100000 in
set_option maxHeartbeats 4000000 in
theorem refJudge_any (w : World) (A : Option Addr) (n c : Nat) (ls : List Seen) (me : Int) (kd src dst bo li ec el : Int) (A2 : Option Addr) (n2 c2 : Nat) (hn : (n : Int) ≤ 9223372036854775807) (hI : SeenAt w w.heap.size A n ls) :
    Calls Try.prog 48 #[.slice A n c, .int .i64 me, .agg #[.int .i64 kd, .int .i64 src, .int .i64 dst, .int .i64 bo, .int .i64 li, .int .i64 ec, .int .i64 el, .slice A2 n2 c2]] w fun e w' =>
      e = .returned (.int .i64 (judge (refGot ls src) me ⟨kd, src, dst, bo, li, ec, el⟩)) ∧ Below w.heap.size w w' := by
  obtain ⟨⟨q, b, l, m⟩, hg⟩ : ∃ s, refGot ls src = s := ⟨_, rfl⟩
  rw [hg]
  have hget : ∀ W B, B ≤ W.heap.size → SeenAt W B A n ls → Calls Try.prog 36 #[.slice A n c, .int .i64 src] W fun e w' => e = .returned (.agg #[.int .i64 q, .int .i64 b, .int .i64 l, .int .i64 m]) ∧ Below W.heap.size W w' := fun W B hB hIW => by
    have h := refGet_any W B A n c ls src hn hIW hB
    rw [hg] at h
    exact h
  have Hget := Lib.hid hget
  clear hget
  have hb0 : Below w.heap.size w (w.alloc (.cells #[.int .i64 kd, .int .i64 src, .int .i64 dst, .int .i64 bo, .int .i64 li, .int .i64 ec, .int .i64 el, .slice A2 n2 c2] 71)) := (Below.refl _ w).alloc (Nat.le_refl _) _
  have hs0 : (w.alloc (.cells #[.int .i64 kd, .int .i64 src, .int .i64 dst, .int .i64 bo, .int .i64 li, .int .i64 ec, .int .i64 el, .slice A2 n2 c2] 71)).heap.size = w.heap.size + 1 := by simp
  have hB0 : Blk (w.alloc (.cells #[.int .i64 kd, .int .i64 src, .int .i64 dst, .int .i64 bo, .int .i64 li, .int .i64 ec, .int .i64 el, .slice A2 n2 c2] 71)) w.heap.size 71 #[.int .i64 kd, .int .i64 src, .int .i64 dst, .int .i64 bo, .int .i64 li, .int .i64 ec, .int .i64 el, .slice A2 n2 c2] := Blk.new _ _ _
  have HB0 := Lib.hid hB0
  clear hB0
  by_cases h1 : later b l bo li = true
  · have hj : judge ⟨q, b, l, m⟩ me ⟨kd, src, dst, bo, li, ec, el⟩ = 1 := by simp [judge, h1]
    have Hj := Lib.hid hj
    clear hj
    go_enter Try.func48, Try.ntmps48
    go_wp2_with (first | (go_at_call 36; refine (Hget.out _ w.heap.size (by omega) (hI.below hb0)).mono ?_; rintro e w2 ⟨rfl, hb2⟩; have s2 : w.heap.size < w2.heap.size := (by have := hb2.size; omega); have hB2 := HB0.out.below hb2 (by omega); obtain ⟨k0, k1, k2, k3, k4, k5, k6, k7⟩ := cells8 hB2; replace k0 := cell_alloc k0 s2; replace k3 := cell_alloc k3 s2; replace k4 := cell_alloc k4 s2; replace k5 := cell_alloc k5 s2; replace k6 := cell_alloc k6 s2; clear hB2 k1 k2 k7) | (go_at_call 46; refine (refLater_any _ _ _ _ _).mono ?_; rintro e w3 ⟨rfl, rfl⟩))
    go_ret
    rw [Hj.out]
    exact ⟨rfl, (hb0.trans (hb2.mono (by omega))).trans ((Below.refl _ w2).alloc (by omega) _)⟩
  have h1' : later b l bo li = false := by simpa using h1
  clear h1
  by_cases h2 : kd = 1
  · subst h2
    have hj : judge ⟨q, b, l, m⟩ me ⟨1, src, dst, bo, li, ec, el⟩ = 3 := by simp [judge, h1']
    have Hj := Lib.hid hj
    clear hj
    go_enter Try.func48, Try.ntmps48
    go_wp2_with (first | (go_at_call 36; refine (Hget.out _ w.heap.size (by omega) (hI.below hb0)).mono ?_; rintro e w2 ⟨rfl, hb2⟩; have s2 : w.heap.size < w2.heap.size := (by have := hb2.size; omega); have hB2 := HB0.out.below hb2 (by omega); obtain ⟨k0, k1, k2, k3, k4, k5, k6, k7⟩ := cells8 hB2; replace k0 := cell_alloc k0 s2; replace k3 := cell_alloc k3 s2; replace k4 := cell_alloc k4 s2; replace k5 := cell_alloc k5 s2; replace k6 := cell_alloc k6 s2; clear hB2 k1 k2 k7) | (go_at_call 46; refine (refLater_any _ _ _ _ _).mono ?_; rintro e w3 ⟨rfl, rfl⟩))
    go_ret
    rw [Hj.out]
    exact ⟨rfl, (hb0.trans (hb2.mono (by omega))).trans ((Below.refl _ w2).alloc (by omega) _)⟩
  have b2 : (kd == 1) = false := by simpa using h2
  have b2' : (kd != 1) = true := by simpa using h2
  by_cases h3 : ec = me
  · subst h3
    by_cases h4 : el = m
    · subst h4
      have hj : judge ⟨q, b, l, el⟩ ec ⟨kd, src, dst, bo, li, ec, el⟩ = 2 := by simp [judge, h1', h2]
      have Hj := Lib.hid hj
      clear hj
      go_enter Try.func48, Try.ntmps48
      go_wp2_with (first | (go_at_call 36; refine (Hget.out _ w.heap.size (by omega) (hI.below hb0)).mono ?_; rintro e w2 ⟨rfl, hb2⟩; have s2 : w.heap.size < w2.heap.size := (by have := hb2.size; omega); have hB2 := HB0.out.below hb2 (by omega); obtain ⟨k0, k1, k2, k3, k4, k5, k6, k7⟩ := cells8 hB2; replace k0 := cell_alloc k0 s2; replace k3 := cell_alloc k3 s2; replace k4 := cell_alloc k4 s2; replace k5 := cell_alloc k5 s2; replace k6 := cell_alloc k6 s2; clear hB2 k1 k2 k7) | (go_at_call 46; refine (refLater_any _ _ _ _ _).mono ?_; rintro e w3 ⟨rfl, rfl⟩))
      go_ret
      rw [Hj.out]
      exact ⟨rfl, (hb0.trans (hb2.mono (by omega))).trans ((Below.refl _ w2).alloc (by omega) _)⟩
    have b4 : (el == m) = false := by simpa using h4
    by_cases h5 : kd = 3
    · subst h5
      have hj : judge ⟨q, b, l, m⟩ ec ⟨3, src, dst, bo, li, ec, el⟩ = 3 := by simp [judge, h1', h4]
      have Hj := Lib.hid hj
      clear hj
      go_enter Try.func48, Try.ntmps48
      go_wp2_with (first | (go_at_call 36; refine (Hget.out _ w.heap.size (by omega) (hI.below hb0)).mono ?_; rintro e w2 ⟨rfl, hb2⟩; have s2 : w.heap.size < w2.heap.size := (by have := hb2.size; omega); have hB2 := HB0.out.below hb2 (by omega); obtain ⟨k0, k1, k2, k3, k4, k5, k6, k7⟩ := cells8 hB2; replace k0 := cell_alloc k0 s2; replace k3 := cell_alloc k3 s2; replace k4 := cell_alloc k4 s2; replace k5 := cell_alloc k5 s2; replace k6 := cell_alloc k6 s2; clear hB2 k1 k2 k7) | (go_at_call 46; refine (refLater_any _ _ _ _ _).mono ?_; rintro e w3 ⟨rfl, rfl⟩))
      go_ret
      rw [Hj.out]
      exact ⟨rfl, (hb0.trans (hb2.mono (by omega))).trans ((Below.refl _ w2).alloc (by omega) _)⟩
    · have b5 : (kd == 3) = false := by simpa using h5
      have hj : judge ⟨q, b, l, m⟩ ec ⟨kd, src, dst, bo, li, ec, el⟩ = 4 := by simp [judge, h1', h2, h4, h5]
      have Hj := Lib.hid hj
      clear hj
      go_enter Try.func48, Try.ntmps48
      go_wp2_with (first | (go_at_call 36; refine (Hget.out _ w.heap.size (by omega) (hI.below hb0)).mono ?_; rintro e w2 ⟨rfl, hb2⟩; have s2 : w.heap.size < w2.heap.size := (by have := hb2.size; omega); have hB2 := HB0.out.below hb2 (by omega); obtain ⟨k0, k1, k2, k3, k4, k5, k6, k7⟩ := cells8 hB2; replace k0 := cell_alloc k0 s2; replace k3 := cell_alloc k3 s2; replace k4 := cell_alloc k4 s2; replace k5 := cell_alloc k5 s2; replace k6 := cell_alloc k6 s2; clear hB2 k1 k2 k7) | (go_at_call 46; refine (refLater_any _ _ _ _ _).mono ?_; rintro e w3 ⟨rfl, rfl⟩))
      go_ret
      rw [Hj.out]
      exact ⟨rfl, (hb0.trans (hb2.mono (by omega))).trans ((Below.refl _ w2).alloc (by omega) _)⟩
  have b3 : (ec == me) = false := by simpa using h3
  by_cases h5 : kd = 3
  · subst h5
    have hj : judge ⟨q, b, l, m⟩ me ⟨3, src, dst, bo, li, ec, el⟩ = 3 := by simp [judge, h1', h3]
    have Hj := Lib.hid hj
    clear hj
    go_enter Try.func48, Try.ntmps48
    go_wp2_with (first | (go_at_call 36; refine (Hget.out _ w.heap.size (by omega) (hI.below hb0)).mono ?_; rintro e w2 ⟨rfl, hb2⟩; have s2 : w.heap.size < w2.heap.size := (by have := hb2.size; omega); have hB2 := HB0.out.below hb2 (by omega); obtain ⟨k0, k1, k2, k3, k4, k5, k6, k7⟩ := cells8 hB2; replace k0 := cell_alloc k0 s2; replace k3 := cell_alloc k3 s2; replace k4 := cell_alloc k4 s2; replace k5 := cell_alloc k5 s2; replace k6 := cell_alloc k6 s2; clear hB2 k1 k2 k7) | (go_at_call 46; refine (refLater_any _ _ _ _ _).mono ?_; rintro e w3 ⟨rfl, rfl⟩))
    go_ret
    rw [Hj.out]
    exact ⟨rfl, (hb0.trans (hb2.mono (by omega))).trans ((Below.refl _ w2).alloc (by omega) _)⟩
  · have b5 : (kd == 3) = false := by simpa using h5
    have hj : judge ⟨q, b, l, m⟩ me ⟨kd, src, dst, bo, li, ec, el⟩ = 4 := by simp [judge, h1', h2, h3, h5]
    have Hj := Lib.hid hj
    clear hj
    go_enter Try.func48, Try.ntmps48
    go_wp2_with (first | (go_at_call 36; refine (Hget.out _ w.heap.size (by omega) (hI.below hb0)).mono ?_; rintro e w2 ⟨rfl, hb2⟩; have s2 : w.heap.size < w2.heap.size := (by have := hb2.size; omega); have hB2 := HB0.out.below hb2 (by omega); obtain ⟨k0, k1, k2, k3, k4, k5, k6, k7⟩ := cells8 hB2; replace k0 := cell_alloc k0 s2; replace k3 := cell_alloc k3 s2; replace k4 := cell_alloc k4 s2; replace k5 := cell_alloc k5 s2; replace k6 := cell_alloc k6 s2; clear hB2 k1 k2 k7) | (go_at_call 46; refine (refLater_any _ _ _ _ _).mono ?_; rintro e w3 ⟨rfl, rfl⟩))
    go_ret
    rw [Hj.out]
    exact ⟨rfl, (hb0.trans (hb2.mono (by omega))).trans ((Below.refl _ w2).alloc (by omega) _)⟩

end Go.Proofs.Ytkbcnapfcojekaa
