/-
  Layer 14: the statement ShakeTurns: what is good is not good any more behind Dropped; and stale, once a later incarnation was seen. Every input; no condition.
-/
import Derived.Test.YtkbcnapfcojekaaShakeN
import Derived.Test.YtkbcnapfcojekaaOpenPacket
import Derived.Test.YtkbcnapfcojekaaOpenRows
namespace Go.Proofs.Ytkbcnapfcojekaa
open Go.ChangeShapes Go.WideShapes Go.ChangeAt Go.RowKit Go.Ed Go.Joins

theorem Get_lit (w : World) (A : Option Addr) (len cap : Nat) (ls : List Seen) (p : Int) {q b l m : Int} (hs : got ls p = ⟨q, b, l, m⟩) (hlen : (len : Int) ≤ 9223372036854775807) (hI : SeenAt w w.heap.size A len ls) :
    Calls Try.prog 35 #[.slice A len cap, .int .i64 p] w fun e w' => e = .returned (.agg #[.int .i64 q, .int .i64 b, .int .i64 l, .int .i64 m]) ∧ Below w.heap.size w w' := by
  have h := Get_any w A len cap ls p hlen hI
  rw [hs] at h
  exact h
theorem field3 (W : World) (a b c d : Value) : Sem.run Try.prog (Instr.field 60 (.agg #[a, b, c, d]) 3) W = .ok d W := by kernel_rfl

theorem judge_good {s : Seen} {boot : Int} {p : Pk} (h : judge s boot p = 2) : later s.boot s.life p.boot p.life = false ∧ p.kind ≠ 1 ∧ p.echo = boot ∧ p.echoLife = s.mine := by
  unfold judge at h
  by_cases h1 : later s.boot s.life p.boot p.life = true
  · rw [if_pos h1] at h; omega
  · rw [if_neg h1] at h
    by_cases h2 : p.kind ≠ 1 ∧ p.echo = boot ∧ p.echoLife = s.mine
    · exact ⟨by simpa using h1, h2⟩
    · rw [if_neg h2] at h
      split at h <;> omega
theorem judge_drop {s : Seen} {boot : Int} {p : Pk} (h : judge s boot p = 2) (hm : s.mine < 1099511627776) : judge (dropS s) boot p ≠ 2 := by
  intro h2
  have h3 := (judge_good h).2.2.2
  have h4 := (judge_good h2).2.2.2
  simp only [dropS] at h4
  omega
theorem judge_see {s : Seen} {boot lt : Int} {p : Pk} (h : judge s boot p = 2) (hl : p.boot < lt) : judge (seeS s lt 0) boot p = 1 := by
  have h1 := (judge_good h).1
  have h2 : later lt 0 s.boot s.life = true := by
    rw [later_bool]
    left
    have : ¬ (later s.boot s.life p.boot p.life = true) := by simp [h1]
    rw [later_bool] at this
    omega
  unfold judge seeS
  rw [if_pos h2, if_pos]
  rw [later_bool]
  left
  exact hl

namespace turns

set_option maxRecDepth 100000 in
set_option maxHeartbeats 8000000 in
theorem walk (id boot lt : Int) (A : Option Addr) (n cp : Nat) (ls : List Seen) (kd src dst bo li ec el : Int) (A2 : Option Addr) (n2 c2 : Nat) (w : World) (hn : (n : Int) ≤ 9223372036854775807) (hI : SeenAt w w.heap.size A n ls) (hI2 : ItemsAt w w.heap.size A2 n2) (hn2 : n2 ≤ maxLen) :
    Calls Try.prog 8 #[.int .i64 id, .slice A n cp, .int .i64 boot, .agg #[.int .i64 kd, .int .i64 src, .int .i64 dst, .int .i64 bo, .int .i64 li, .int .i64 ec, .int .i64 el, .slice A2 n2 c2], .int .i64 lt] w fun e w' => e = .returned (.bool true) ∧ Below w.heap.size w w' := by
  obtain ⟨f, hf⟩ : ∃ f, fitL id ls = f := ⟨_, rfl⟩
  obtain ⟨n1, hbo⟩ : ∃ f, isIn boot 1 1099511627776 = f := ⟨_, rfl⟩
  obtain ⟨jr, hj⟩ : ∃ j, judge (got ls src) boot ⟨kd, src, dst, bo, li, ec, el⟩ = j := ⟨_, rfl⟩
  replace hf := Lib.hid hf
  replace hbo := Lib.hid hbo
  replace hj := Lib.hid hj
  go_enter Try.func8, Try.ntmps8
  obtain ⟨gp, hgp⟩ : ∃ g, g = w.heap.size := ⟨_, rfl⟩
  go_wp2_with fail
  have hb0 : Below w.heap.size w (w.alloc (.cells #[.int .i64 kd, .int .i64 src, .int .i64 dst, .int .i64 bo, .int .i64 li, .int .i64 ec, .int .i64 el, .slice A2 n2 c2] 71)) := (Below.refl _ w).alloc (Nat.le_refl _) _
  have hB0 : Blk (w.alloc (.cells #[.int .i64 kd, .int .i64 src, .int .i64 dst, .int .i64 bo, .int .i64 li, .int .i64 ec, .int .i64 el, .slice A2 n2 c2] 71)) gp 71 #[.int .i64 kd, .int .i64 src, .int .i64 dst, .int .i64 bo, .int .i64 li, .int .i64 ec, .int .i64 el, .slice A2 n2 c2] := by rw [hgp]; exact Blk.new _ _ _
  generalize w.alloc (.cells #[.int .i64 kd, .int .i64 src, .int .i64 dst, .int .i64 bo, .int .i64 li, .int .i64 ec, .int .i64 el, .slice A2 n2 c2] 71) = W0 at *
  rw [← hgp]
  replace hgp := Lib.hid hgp
  refine (Fit_lit _ id A n cp ls f hf.out hn ((hI.below hb0).more hb0.size)).mono ?_
  rintro e w1 ⟨rfl, h1⟩
  have hb1 := hb0.trans (h1.mono hb0.size)
  have hB1 := hB0.below h1 hB0.lt
  clear hB0 h1 hb0
  cases f
  · go_wp2_with fail
    refine (awake14 _).mono ?_
    rintro e w9 ⟨rfl, h9⟩
    go_wp2_with fail
    go_ret
    exact ⟨rfl, hb1.trans (h9.mono hb1.size)⟩
  have hfit := fit_iff.1 hf.out
  have hlen := hfit.len
  have hll := Lib.hid hI.len
  replace hfit := Lib.hid hfit
  go_wp2_with fail
  refine (within_lit _ boot _ _ n1 hbo.out).mono ?_
  rintro e w' ⟨rfl, rfl⟩
  cases n1
  · go_wp2_with fail
    refine (awake14 _).mono ?_
    rintro e w9 ⟨rfl, h9⟩
    go_wp2_with fail
    go_ret
    exact ⟨rfl, hb1.trans (h9.mono hb1.size)⟩
  obtain ⟨k0, k1, k2, k3, k4, k5, k6, k7⟩ := cells8 hB1
  go_wp2_with fail
  refine (fit05_any _ kd src dst bo li ec el A2 n2 c2 ((hI2.below hb1).more hb1.size) hn2).mono ?_
  rintro e w2 ⟨b, rfl, h2, hFB⟩
  have hb2 := hb1.trans (h2.mono hb1.size)
  have hB2 := hB1.below h2 hB1.lt
  clear hB1 h2 hb1 k0 k1 k2 k3 k4 k5 k6 k7
  cases b
  · go_wp2_with fail
    refine (awake14 _).mono ?_
    rintro e w9 ⟨rfl, h9⟩
    go_wp2_with fail
    go_ret
    exact ⟨rfl, hb2.trans (h9.mono hb2.size)⟩
  replace hFB := hFB rfl
  obtain ⟨k0, k1, k2, k3, k4, k5, k6, k7⟩ := cells8 hB2
  by_cases hsi : src = id
  · subst hsi
    clear hFB
    go_wp2_with fail
    refine (awake14 _).mono ?_
    rintro e w9 ⟨rfl, h9⟩
    go_wp2_with fail
    go_ret
    exact ⟨rfl, hb2.trans (h9.mono hb2.size)⟩
  have hsi' : (src == id) = false := by simpa using hsi
  have hsrc := Lib.hid hFB.2.2.1
  have hbo1 : 1 ≤ bo ∧ bo ≤ 1099511627776 := by have := hFB.2.2.2.2.2.1; unfold isIn at this; simpa using this
  obtain ⟨hbo2, hbo3⟩ := hbo1
  clear hFB
  replace hsi := Lib.hid hsi
  go_wp2_with fail
  refine (Judge_lit _ A n cp ls boot kd src dst bo li ec el jr A2 n2 c2 hj.out hn ((hI.below hb2).more hb2.size)).mono ?_
  rintro e w3 ⟨rfl, h3⟩
  have hb3 := hb2.trans (h3.mono hb2.size)
  have hB3 := hB2.below h3 hB2.lt
  clear hB2 h3 hb2 k0 k1 k2 k3 k4 k5 k6 k7
  by_cases hjr : jr ≠ 2
  · have hjr' : (jr != 2) = true := by simpa using hjr
    go_wp2_with fail
    refine (awake14 _).mono ?_
    rintro e w9 ⟨rfl, h9⟩
    go_wp2_with fail
    go_ret
    exact ⟨rfl, hb3.trans (h9.mono hb3.size)⟩
  obtain rfl : jr = 2 := by omega
  have hgl : gp < w3.heap.size := hB3.lt
  have hBx := Lib.hid hB3
  have hI3 := (hI.below hb3).more hb3.size
  have hgf := got_form (p := src) hfit.out
  obtain ⟨⟨q, b, l, m⟩, hg⟩ : ∃ s, got ls src = s := ⟨_, rfl⟩
  rw [hg] at hgf
  simp only [] at hgf
  obtain ⟨-, -, -, -, -, hm0, hm1, -⟩ := hgf
  have Hj := hj
  rw [hg] at Hj
  replace hg := Lib.hid hg
  have hf3 := field3
  have hpk : Hid (∀ W, Below w3.heap.size w3 W → ∀ j v, [Value.int .i64 kd, .int .i64 src, .int .i64 dst, .int .i64 bo, .int .i64 li, .int .i64 ec, .int .i64 el, .slice A2 n2 c2][j]? = some v → W.cell? ⟨gp, 0 + j, none⟩ = some v) := Lib.hid (fun W hW j v hv => by
    rw [Nat.zero_add]
    exact (hW.cell (p := ⟨gp, j, none⟩) hgl).trans ((hBx.out.cell j).trans (by simpa using hv)))
  clear hB3
  go_wp2_with fail
  refine wp_region_held_drew (S := fun W => Below w3.heap.size w3 W) (by kernel_rfl) ((Below.refl _ _).drew) (fun hS0 => ?_)
  (refine wpAnyH_take (i := 0) (oi := ⟨some 39, _, _, _, _, _⟩) rfl (by kernel_rfl) (by kernel_rfl) (by kernel_rfl) (fun _ _ _ h => h) (.inl ⟨rfl, fun _ _ => rfl⟩) (by assumption) ?_); try simp only [Act.put, List.setIfInBounds_toArray, List.set_cons_zero, List.set_cons_succ]
  (refine wpAnyH_take (i := 1) (oi := ⟨some 40, _, _, _, _, _⟩) rfl (by kernel_rfl) (by kernel_rfl) (by kernel_rfl) (fun _ _ _ h => h) (.inl ⟨rfl, fun _ _ => rfl⟩) (by assumption) ?_); try simp only [Act.put, List.setIfInBounds_toArray, List.set_cons_zero, List.set_cons_succ]
  (refine wpAnyH_take (i := 2) (oi := ⟨some 41, _, _, _, _, _⟩) rfl (by kernel_rfl) (by kernel_rfl) (by kernel_rfl) (fun _ _ _ h => h) (.inl ⟨rfl, fun W hS => by (have c' := (hS.cell (p := ⟨gp, 1, none⟩) hgl).trans (hBx.out.cell 1)); go_simp; try rfl⟩) (by assumption) ?_); try simp only [Act.put, List.setIfInBounds_toArray, List.set_cons_zero, List.set_cons_succ]
  refine wpAnyH_ready (rs := [3]) (by kernel_rfl) (by simp) ?_
  refine AllReadyH.cons (o := ⟨some 42, _, _, _, _, _⟩) rfl (fun K hK => ?_) AllReadyH.nil
  go_simp
  refine (Get_lit _ A n cp ls src hg.out hn (SeenAt.more (SeenAt.below hI3 hS0) hS0.size)).mono ?_
  rintro e u1 ⟨rfl, g1⟩
  have hk1 : Below w3.heap.size w3 u1 := hS0.trans (g1.mono hS0.size)
  clear g1
  go_wp2_with fail
  refine hK.out _ _ hk1 (fun hS1 => ?_)
  clear hK K
  try simp only [Act.put, List.setIfInBounds_toArray, List.set_cons_zero, List.set_cons_succ]
  clear hS0
  (refine wpAnyH_take (i := 4) (oi := ⟨some 43, _, _, _, _, _⟩) rfl (by kernel_rfl) (by kernel_rfl) (by kernel_rfl) (fun _ _ _ h => h) (.inl ⟨rfl, fun W hS => by skip; go_simp; try rfl⟩) (by assumption) ?_); try simp only [Act.put, List.setIfInBounds_toArray, List.set_cons_zero, List.set_cons_succ]
  by_cases hm : m < 1099511627776
  · obtain ⟨lb, hlb⟩ : ∃ lb, lb = setS ls src (dropS (got ls src)) := ⟨_, rfl⟩
    have hlb2 := drop_law hfit.out hsrc.out hsi.out
    have hgb := got_set (q := src) (s := dropS (got ls src)) hfit.out (got_form hfit.out).1 hlb2.2
    rw [if_pos rfl, ← hlb, hg.out] at hgb
    have hlbn := hlb2.2.len
    rw [← hlb] at hlbn
    have hjn := judge_drop Hj hm
    rw [← hgb] at hjn
    obtain ⟨j2, hj2⟩ : ∃ j, judge (got lb src) boot ⟨kd, src, dst, bo, li, ec, el⟩ = j := ⟨_, rfl⟩
    rw [hj2] at hjn
    replace hlb := Lib.hid hlb
    replace hj2 := Lib.hid hj2
    replace Hj := Lib.hid Hj
    clear hlb2 hgb
    have hjn' : (j2 == 2) = false := by simpa using hjn
    (refine wpAnyH_take (i := 5) (oi := ⟨some 44, _, _, _, _, _⟩) (v := .bool true) rfl (by kernel_rfl) (by kernel_rfl) (by kernel_rfl) (fun _ _ _ h => h) (.inl ⟨rfl, fun W hS => by skip; go_simp⟩) (by assumption) ?_); try simp only [Act.put, List.setIfInBounds_toArray, List.set_cons_zero, List.set_cons_succ]
    (refine wpAnyH_take (i := 6) (oi := ⟨some 45, _, _, _, _, _⟩) rfl (by kernel_rfl) (by kernel_rfl) (by kernel_rfl) (fun _ _ _ h => h) (.inl ⟨rfl, fun _ _ => rfl⟩) (by assumption) ?_); try simp only [Act.put, List.setIfInBounds_toArray, List.set_cons_zero, List.set_cons_succ]
    (refine wpAnyH_take (i := 7) (oi := ⟨some 46, _, _, _, _, _⟩) rfl (by kernel_rfl) (by kernel_rfl) (by kernel_rfl) (fun _ _ _ h => h) (.inl ⟨rfl, fun _ _ => rfl⟩) (by assumption) ?_); try simp only [Act.put, List.setIfInBounds_toArray, List.set_cons_zero, List.set_cons_succ]
    (refine wpAnyH_take (i := 8) (oi := ⟨some 47, _, _, _, _, _⟩) rfl (by kernel_rfl) (by kernel_rfl) (by kernel_rfl) (fun _ _ _ h => h) (.inl ⟨rfl, fun _ _ => rfl⟩) (by assumption) ?_); try simp only [Act.put, List.setIfInBounds_toArray, List.set_cons_zero, List.set_cons_succ]
    (refine wpAnyH_take (i := 9) (oi := ⟨some 48, _, _, _, _, _⟩) rfl (by kernel_rfl) (by kernel_rfl) (by kernel_rfl) (fun _ _ _ h => h) (.inl ⟨rfl, fun W hS => by (have c' := (hS.cell (p := ⟨gp, 1, none⟩) hgl).trans (hBx.out.cell 1)); go_simp; try rfl⟩) (by assumption) ?_); try simp only [Act.put, List.setIfInBounds_toArray, List.set_cons_zero, List.set_cons_succ]
    (refine wpAnyH_take (i := 11) (oi := ⟨some 50, _, _, _, _, _⟩) rfl (by kernel_rfl) (by kernel_rfl) (by kernel_rfl) (fun _ _ _ h => h) (.inl ⟨rfl, fun _ _ => rfl⟩) (by assumption) ?_); try simp only [Act.put, List.setIfInBounds_toArray, List.set_cons_zero, List.set_cons_succ]
    (refine wpAnyH_take (i := 12) (oi := ⟨some 51, _, _, _, _, _⟩) rfl (by kernel_rfl) (by kernel_rfl) (by kernel_rfl) (fun _ _ _ h => h) (.inl ⟨rfl, fun W hS => exec_load_list agg_Packet' rfl (hpk.out W hS) rfl rfl⟩) (by assumption) ?_); try simp only [Act.put, List.setIfInBounds_toArray, List.set_cons_zero, List.set_cons_succ]
    refine wpAnyH_ready (rs := [10]) (by kernel_rfl) (by simp) ?_
    refine AllReadyH.cons (o := ⟨some 49, _, _, _, _, _⟩) rfl (fun K hK => ?_) AllReadyH.nil
    go_simp
    refine (Dropped_any _ A n cp ls src (by have := hll.out; omega) (SeenAt.none hI3) (by rw [hg.out]; simp only []; omega) (by rw [hg.out]; simp only []; omega) (SeenAt.more (SeenAt.below hI3 hk1) hk1.size)).mono ?_
    rw [← hlb.out]
    rintro e u2 ⟨v2, rfl, hown2, g2⟩
    obtain ⟨A4, c4, rfl, hc4⟩ := own_slice' hown2
    have hr4 : SeenAt u2 u2.heap.size A4 lb.length lb := Reads.of_own hown2
    have hk2 : Below w3.heap.size w3 u2 := hk1.trans (g2.mono hk1.size)
    clear g2 hown2
    go_wp2_with fail
    refine hK.out _ _ hk2 (fun hS2 => ?_)
    clear hK K
    try simp only [Act.put, List.setIfInBounds_toArray, List.set_cons_zero, List.set_cons_succ]
    refine wpAnyH_ready (rs := [13]) (by kernel_rfl) (by simp) ?_
    refine AllReadyH.cons (o := ⟨some 52, _, _, _, _, _⟩) rfl (fun K hK => ?_) AllReadyH.nil
    go_simp
    refine (Judge_lit _ A4 lb.length c4 lb boot kd src dst bo li ec el j2 A2 n2 c2 hj2.out (by omega) hr4).mono ?_
    rintro e u3 ⟨rfl, g3⟩
    have hk3 : Below w3.heap.size w3 u3 := hk2.trans (g3.mono hk2.size)
    clear g3 hr4
    go_wp2_with fail
    refine hK.out _ _ hk3 (fun hS3 => ?_)
    clear hK K
    try simp only [Act.put, List.setIfInBounds_toArray, List.set_cons_zero, List.set_cons_succ]
    (refine wpAnyH_take (i := 14) (oi := ⟨some 53, _, _, _, _, _⟩) (v := .bool false) rfl (by kernel_rfl) (by kernel_rfl) (by kernel_rfl) (fun _ _ _ h => h) (.inl ⟨rfl, fun W hS => by skip; go_simp⟩) (by assumption) ?_); try simp only [Act.put, List.setIfInBounds_toArray, List.set_cons_zero, List.set_cons_succ]
    (refine wpAnyH_take (i := 15) (oi := ⟨some 54, _, _, _, _, _⟩) rfl (by kernel_rfl) (by kernel_rfl) (by kernel_rfl) (fun _ _ _ h => h) (.inl ⟨rfl, fun _ _ => rfl⟩) (by assumption) ?_); try simp only [Act.put, List.setIfInBounds_toArray, List.set_cons_zero, List.set_cons_succ]
    refine wpAnyH_done (by kernel_rfl) ?_ _
    clear hS1 hS2 hS3 hk1 hk2
    have hBu := hBx.out.below hk3 hgl
    have hbu := hb3.trans (hk3.mono hb3.size)
    have hIu := (hI.below hbu).more hbu.size
    obtain ⟨k0, k1, k2, k3, k4, k5, k6, k7⟩ := cells8 hBu
    obtain ⟨n5, hwl⟩ : ∃ f, isIn lt (bo + 1) 1099511627776 = f := ⟨_, rfl⟩
    replace hwl := Lib.hid hwl
    go_wp2_with fail
    refine (within_lit _ lt (bo + 1) _ n5 hwl.out).mono ?_
    rintro e w' ⟨rfl, rfl⟩
    cases n5
    · go_wp2_with fail
      refine (awake14 _).mono ?_
      rintro e w9 ⟨rfl, h9⟩
      go_wp2_with fail
      go_ret
      exact ⟨rfl, hbu.trans (h9.mono hbu.size)⟩
    have hlt : bo + 1 ≤ lt ∧ lt ≤ 1099511627776 := by have := hwl.out; unfold isIn at this; simpa using this
    obtain ⟨la, hla⟩ : ∃ la, la = setS ls src (seeS (got ls src) lt 0) := ⟨_, rfl⟩
    have hla2 := see_law (boot := lt) (life := 0) hfit.out hsrc.out hsi.out ⟨by omega, by omega⟩ ⟨by omega, by omega⟩
    have hga := got_set (q := src) (s := seeS (got ls src) lt 0) hfit.out ((see_peer _ _ _).trans (got_form hfit.out).1) hla2.2
    rw [if_pos rfl, ← hla, hg.out] at hga
    have hlan := hla2.2.len
    rw [← hla] at hlan
    have hjs : judge (got la src) boot ⟨kd, src, dst, bo, li, ec, el⟩ = 1 := by
      rw [hga]
      exact judge_see Hj.out (by simp only []; omega)
    replace hla := Lib.hid hla
    replace hjs := Lib.hid hjs
    replace hBu := Lib.hid hBu
    have hglu : gp < u3.heap.size := hBu.out.lt
    have hpku : Hid (∀ W, Below u3.heap.size u3 W → ∀ j v, [Value.int .i64 kd, .int .i64 src, .int .i64 dst, .int .i64 bo, .int .i64 li, .int .i64 ec, .int .i64 el, .slice A2 n2 c2][j]? = some v → W.cell? ⟨gp, 0 + j, none⟩ = some v) := Lib.hid (fun W hW j v hv => by
      rw [Nat.zero_add]
      exact (hW.cell (p := ⟨gp, j, none⟩) hglu).trans ((hBu.out.cell j).trans (by simpa using hv)))
    clear hla2 hga hpk k0 k1 k2 k3 k4 k5 k6 k7
    go_wp2_with fail
    refine wp_region_held_drew (S := fun W => Below u3.heap.size u3 W) (by kernel_rfl) ((Below.refl _ _).drew) (fun hS0 => ?_)
    (refine wpAnyH_take (i := 0) (oi := ⟨some 62, _, _, _, _, _⟩) rfl (by kernel_rfl) (by kernel_rfl) (by kernel_rfl) (fun _ _ _ h => h) (.inl ⟨rfl, fun _ _ => rfl⟩) (by assumption) ?_); try simp only [Act.put, List.setIfInBounds_toArray, List.set_cons_zero, List.set_cons_succ]
    (refine wpAnyH_take (i := 1) (oi := ⟨some 63, _, _, _, _, _⟩) rfl (by kernel_rfl) (by kernel_rfl) (by kernel_rfl) (fun _ _ _ h => h) (.inl ⟨rfl, fun _ _ => rfl⟩) (by assumption) ?_); try simp only [Act.put, List.setIfInBounds_toArray, List.set_cons_zero, List.set_cons_succ]
    (refine wpAnyH_take (i := 2) (oi := ⟨some 64, _, _, _, _, _⟩) rfl (by kernel_rfl) (by kernel_rfl) (by kernel_rfl) (fun _ _ _ h => h) (.inl ⟨rfl, fun W hS => by (have c' := (hS.cell (p := ⟨gp, 1, none⟩) hglu).trans (hBu.out.cell 1)); go_simp; try rfl⟩) (by assumption) ?_); try simp only [Act.put, List.setIfInBounds_toArray, List.set_cons_zero, List.set_cons_succ]
    (refine wpAnyH_take (i := 3) (oi := ⟨some 65, _, _, _, _, _⟩) rfl (by kernel_rfl) (by kernel_rfl) (by kernel_rfl) (fun _ _ _ h => h) (.inl ⟨rfl, fun _ _ => rfl⟩) (by assumption) ?_); try simp only [Act.put, List.setIfInBounds_toArray, List.set_cons_zero, List.set_cons_succ]
    (refine wpAnyH_take (i := 5) (oi := ⟨some 67, _, _, _, _, _⟩) rfl (by kernel_rfl) (by kernel_rfl) (by kernel_rfl) (fun _ _ _ h => h) (.inl ⟨rfl, fun _ _ => rfl⟩) (by assumption) ?_); try simp only [Act.put, List.setIfInBounds_toArray, List.set_cons_zero, List.set_cons_succ]
    (refine wpAnyH_take (i := 6) (oi := ⟨some 68, _, _, _, _, _⟩) rfl (by kernel_rfl) (by kernel_rfl) (by kernel_rfl) (fun _ _ _ h => h) (.inl ⟨rfl, fun W hS => exec_load_list agg_Packet' rfl (hpku.out W hS) rfl rfl⟩) (by assumption) ?_); try simp only [Act.put, List.setIfInBounds_toArray, List.set_cons_zero, List.set_cons_succ]
    refine wpAnyH_ready (rs := [4]) (by kernel_rfl) (by simp) ?_
    refine AllReadyH.cons (o := ⟨some 66, _, _, _, _, _⟩) rfl (fun K hK => ?_) AllReadyH.nil
    go_simp
    refine (See_any _ A n cp ls src lt 0 (by have := hll.out; omega) (SeenAt.none hIu) (SeenAt.more (SeenAt.below hIu hS0) hS0.size)).mono ?_
    rw [← hla.out]
    rintro e y1 ⟨v1, rfl, hown1, g1⟩
    obtain ⟨A5, c5, rfl, hc5⟩ := own_slice' hown1
    have hr5 : SeenAt y1 y1.heap.size A5 la.length la := Reads.of_own hown1
    have hy1 : Below u3.heap.size u3 y1 := hS0.trans (g1.mono hS0.size)
    clear g1 hown1 hS0
    go_wp2_with fail
    refine hK.out _ _ hy1 (fun hS1 => ?_)
    clear hK K
    try simp only [Act.put, List.setIfInBounds_toArray, List.set_cons_zero, List.set_cons_succ]
    refine wpAnyH_ready (rs := [7]) (by kernel_rfl) (by simp) ?_
    refine AllReadyH.cons (o := ⟨some 69, _, _, _, _, _⟩) rfl (fun K hK => ?_) AllReadyH.nil
    go_simp
    refine (Judge_lit _ A5 la.length c5 la boot kd src dst bo li ec el 1 A2 n2 c2 hjs.out (by omega) hr5).mono ?_
    rintro e y2 ⟨rfl, g2⟩
    have hy2 : Below u3.heap.size u3 y2 := hy1.trans (g2.mono hy1.size)
    clear g2 hr5
    go_wp2_with fail
    refine hK.out _ _ hy2 (fun hS2 => ?_)
    clear hK K
    try simp only [Act.put, List.setIfInBounds_toArray, List.set_cons_zero, List.set_cons_succ]
    (refine wpAnyH_take (i := 8) (oi := ⟨some 70, _, _, _, _, _⟩) rfl (by kernel_rfl) (by kernel_rfl) (by kernel_rfl) (fun _ _ _ h => h) (.inl ⟨rfl, fun _ _ => rfl⟩) (by assumption) ?_); try simp only [Act.put, List.setIfInBounds_toArray, List.set_cons_zero, List.set_cons_succ]
    (refine wpAnyH_take (i := 9) (oi := ⟨some 71, _, _, _, _, _⟩) rfl (by kernel_rfl) (by kernel_rfl) (by kernel_rfl) (fun _ _ _ h => h) (.inl ⟨rfl, fun _ _ => rfl⟩) (by assumption) ?_); try simp only [Act.put, List.setIfInBounds_toArray, List.set_cons_zero, List.set_cons_succ]
    refine wpAnyH_ready (rs := [10]) (by kernel_rfl) (by simp) ?_
    refine AllReadyH.cons (o := ⟨some 72, _, _, _, _, _⟩) rfl (fun K hK => ?_) AllReadyH.nil
    go_simp
    refine (awake14 _).mono ?_
    rintro e y3 ⟨rfl, g3⟩
    have hy3 : Below u3.heap.size u3 y3 := hy2.trans (g3.mono hy2.size)
    clear g3
    go_wp2_with fail
    refine hK.out _ _ hy3 (fun hS3 => ?_)
    clear hK K
    try simp only [Act.put, List.setIfInBounds_toArray, List.set_cons_zero, List.set_cons_succ]
    (refine wpAnyH_take (i := 11) (oi := ⟨some 73, _, _, _, _, _⟩) rfl (by kernel_rfl) (by kernel_rfl) (by kernel_rfl) (fun _ _ _ h => h) (.inl ⟨rfl, fun _ _ => rfl⟩) (by assumption) ?_); try simp only [Act.put, List.setIfInBounds_toArray, List.set_cons_zero, List.set_cons_succ]
    (refine wpAnyH_take (i := 12) (oi := ⟨some 10, _, _, _, _, _⟩) rfl (by kernel_rfl) (by kernel_rfl) (by kernel_rfl) (fun _ _ _ h => h) (.inl ⟨rfl, fun _ _ => rfl⟩) (by assumption) ?_); try simp only [Act.put, List.setIfInBounds_toArray, List.set_cons_zero, List.set_cons_succ]
    refine wpAnyH_done (by kernel_rfl) ?_ _
    clear hS1 hS2 hS3 hy1 hy2
    go_wp2_with fail
    go_ret
    exact ⟨rfl, hbu.trans (hy3.mono hbu.size)⟩
  · have hm' : ¬ m < 1099511627776 := hm
    replace Hj := Lib.hid Hj
    (refine wpAnyH_take (i := 5) (oi := ⟨some 44, _, _, _, _, _⟩) (v := .bool false) rfl (by kernel_rfl) (by kernel_rfl) (by kernel_rfl) (fun _ _ _ h => h) (.inl ⟨rfl, fun W hS => by skip; go_simp⟩) (by assumption) ?_); try simp only [Act.put, List.setIfInBounds_toArray, List.set_cons_zero, List.set_cons_succ]
    (refine wpAnyH_take (i := 6) (oi := ⟨some 45, _, _, _, _, _⟩) rfl (by kernel_rfl) (by kernel_rfl) (by kernel_rfl) (fun _ _ _ h => h) (.inl ⟨rfl, fun _ _ => rfl⟩) (by assumption) ?_); try simp only [Act.put, List.setIfInBounds_toArray, List.set_cons_zero, List.set_cons_succ]
    (refine wpAnyH_take (i := 7) (oi := ⟨some 46, _, _, _, _, _⟩) rfl (by kernel_rfl) (by kernel_rfl) (by kernel_rfl) (fun _ _ _ h => h) (.inr ⟨rfl, rfl⟩) (by assumption) ?_); try simp only [Act.put, List.setIfInBounds_toArray, List.set_cons_zero, List.set_cons_succ]
    (refine wpAnyH_take (i := 8) (oi := ⟨some 47, _, _, _, _, _⟩) rfl (by kernel_rfl) (by kernel_rfl) (by kernel_rfl) (fun _ _ _ h => h) (.inr ⟨rfl, rfl⟩) (by assumption) ?_); try simp only [Act.put, List.setIfInBounds_toArray, List.set_cons_zero, List.set_cons_succ]
    (refine wpAnyH_take (i := 9) (oi := ⟨some 48, _, _, _, _, _⟩) rfl (by kernel_rfl) (by kernel_rfl) (by kernel_rfl) (fun _ _ _ h => h) (.inr ⟨rfl, rfl⟩) (by assumption) ?_); try simp only [Act.put, List.setIfInBounds_toArray, List.set_cons_zero, List.set_cons_succ]
    (refine wpAnyH_take (i := 11) (oi := ⟨some 50, _, _, _, _, _⟩) rfl (by kernel_rfl) (by kernel_rfl) (by kernel_rfl) (fun _ _ _ h => h) (.inr ⟨rfl, rfl⟩) (by assumption) ?_); try simp only [Act.put, List.setIfInBounds_toArray, List.set_cons_zero, List.set_cons_succ]
    (refine wpAnyH_take (i := 12) (oi := ⟨some 51, _, _, _, _, _⟩) rfl (by kernel_rfl) (by kernel_rfl) (by kernel_rfl) (fun _ _ _ h => h) (.inr ⟨rfl, rfl⟩) (by assumption) ?_); try simp only [Act.put, List.setIfInBounds_toArray, List.set_cons_zero, List.set_cons_succ]
    (refine wpAnyH_take (i := 10) (oi := ⟨some 49, _, _, _, _, _⟩) rfl (by kernel_rfl) (by kernel_rfl) (by kernel_rfl) (fun _ _ _ h => h) (.inr ⟨rfl, rfl⟩) (by assumption) ?_); try simp only [Act.put, List.setIfInBounds_toArray, List.set_cons_zero, List.set_cons_succ]
    (refine wpAnyH_take (i := 13) (oi := ⟨some 52, _, _, _, _, _⟩) rfl (by kernel_rfl) (by kernel_rfl) (by kernel_rfl) (fun _ _ _ h => h) (.inr ⟨rfl, rfl⟩) (by assumption) ?_); try simp only [Act.put, List.setIfInBounds_toArray, List.set_cons_zero, List.set_cons_succ]
    (refine wpAnyH_take (i := 14) (oi := ⟨some 53, _, _, _, _, _⟩) rfl (by kernel_rfl) (by kernel_rfl) (by kernel_rfl) (fun _ _ _ h => h) (.inr ⟨rfl, rfl⟩) (by assumption) ?_); try simp only [Act.put, List.setIfInBounds_toArray, List.set_cons_zero, List.set_cons_succ]
    (refine wpAnyH_take (i := 15) (oi := ⟨some 54, _, _, _, _, _⟩) rfl (by kernel_rfl) (by kernel_rfl) (by kernel_rfl) (fun _ _ _ h => h) (.inl ⟨rfl, fun _ _ => rfl⟩) (by assumption) ?_); try simp only [Act.put, List.setIfInBounds_toArray, List.set_cons_zero, List.set_cons_succ]
    refine wpAnyH_done (by kernel_rfl) ?_ _
    clear hS1
    have hBu := hBx.out.below hk1 hgl
    have hbu := hb3.trans (hk1.mono hb3.size)
    have hIu := (hI.below hbu).more hbu.size
    obtain ⟨k0, k1, k2, k3, k4, k5, k6, k7⟩ := cells8 hBu
    obtain ⟨n5, hwl⟩ : ∃ f, isIn lt (bo + 1) 1099511627776 = f := ⟨_, rfl⟩
    replace hwl := Lib.hid hwl
    go_wp2_with fail
    refine (within_lit _ lt (bo + 1) _ n5 hwl.out).mono ?_
    rintro e w' ⟨rfl, rfl⟩
    cases n5
    · go_wp2_with fail
      refine (awake14 _).mono ?_
      rintro e w9 ⟨rfl, h9⟩
      go_wp2_with fail
      go_ret
      exact ⟨rfl, hbu.trans (h9.mono hbu.size)⟩
    have hlt : bo + 1 ≤ lt ∧ lt ≤ 1099511627776 := by have := hwl.out; unfold isIn at this; simpa using this
    obtain ⟨la, hla⟩ : ∃ la, la = setS ls src (seeS (got ls src) lt 0) := ⟨_, rfl⟩
    have hla2 := see_law (boot := lt) (life := 0) hfit.out hsrc.out hsi.out ⟨by omega, by omega⟩ ⟨by omega, by omega⟩
    have hga := got_set (q := src) (s := seeS (got ls src) lt 0) hfit.out ((see_peer _ _ _).trans (got_form hfit.out).1) hla2.2
    rw [if_pos rfl, ← hla, hg.out] at hga
    have hlan := hla2.2.len
    rw [← hla] at hlan
    have hjs : judge (got la src) boot ⟨kd, src, dst, bo, li, ec, el⟩ = 1 := by
      rw [hga]
      exact judge_see Hj.out (by simp only []; omega)
    replace hla := Lib.hid hla
    replace hjs := Lib.hid hjs
    replace hBu := Lib.hid hBu
    have hglu : gp < u1.heap.size := hBu.out.lt
    have hpku : Hid (∀ W, Below u1.heap.size u1 W → ∀ j v, [Value.int .i64 kd, .int .i64 src, .int .i64 dst, .int .i64 bo, .int .i64 li, .int .i64 ec, .int .i64 el, .slice A2 n2 c2][j]? = some v → W.cell? ⟨gp, 0 + j, none⟩ = some v) := Lib.hid (fun W hW j v hv => by
      rw [Nat.zero_add]
      exact (hW.cell (p := ⟨gp, j, none⟩) hglu).trans ((hBu.out.cell j).trans (by simpa using hv)))
    clear hla2 hga hpk k0 k1 k2 k3 k4 k5 k6 k7
    go_wp2_with fail
    refine wp_region_held_drew (S := fun W => Below u1.heap.size u1 W) (by kernel_rfl) ((Below.refl _ _).drew) (fun hS0 => ?_)
    (refine wpAnyH_take (i := 0) (oi := ⟨some 62, _, _, _, _, _⟩) rfl (by kernel_rfl) (by kernel_rfl) (by kernel_rfl) (fun _ _ _ h => h) (.inl ⟨rfl, fun _ _ => rfl⟩) (by assumption) ?_); try simp only [Act.put, List.setIfInBounds_toArray, List.set_cons_zero, List.set_cons_succ]
    (refine wpAnyH_take (i := 1) (oi := ⟨some 63, _, _, _, _, _⟩) rfl (by kernel_rfl) (by kernel_rfl) (by kernel_rfl) (fun _ _ _ h => h) (.inl ⟨rfl, fun _ _ => rfl⟩) (by assumption) ?_); try simp only [Act.put, List.setIfInBounds_toArray, List.set_cons_zero, List.set_cons_succ]
    (refine wpAnyH_take (i := 2) (oi := ⟨some 64, _, _, _, _, _⟩) rfl (by kernel_rfl) (by kernel_rfl) (by kernel_rfl) (fun _ _ _ h => h) (.inl ⟨rfl, fun W hS => by (have c' := (hS.cell (p := ⟨gp, 1, none⟩) hglu).trans (hBu.out.cell 1)); go_simp; try rfl⟩) (by assumption) ?_); try simp only [Act.put, List.setIfInBounds_toArray, List.set_cons_zero, List.set_cons_succ]
    (refine wpAnyH_take (i := 3) (oi := ⟨some 65, _, _, _, _, _⟩) rfl (by kernel_rfl) (by kernel_rfl) (by kernel_rfl) (fun _ _ _ h => h) (.inl ⟨rfl, fun _ _ => rfl⟩) (by assumption) ?_); try simp only [Act.put, List.setIfInBounds_toArray, List.set_cons_zero, List.set_cons_succ]
    (refine wpAnyH_take (i := 5) (oi := ⟨some 67, _, _, _, _, _⟩) rfl (by kernel_rfl) (by kernel_rfl) (by kernel_rfl) (fun _ _ _ h => h) (.inl ⟨rfl, fun _ _ => rfl⟩) (by assumption) ?_); try simp only [Act.put, List.setIfInBounds_toArray, List.set_cons_zero, List.set_cons_succ]
    (refine wpAnyH_take (i := 6) (oi := ⟨some 68, _, _, _, _, _⟩) rfl (by kernel_rfl) (by kernel_rfl) (by kernel_rfl) (fun _ _ _ h => h) (.inl ⟨rfl, fun W hS => exec_load_list agg_Packet' rfl (hpku.out W hS) rfl rfl⟩) (by assumption) ?_); try simp only [Act.put, List.setIfInBounds_toArray, List.set_cons_zero, List.set_cons_succ]
    refine wpAnyH_ready (rs := [4]) (by kernel_rfl) (by simp) ?_
    refine AllReadyH.cons (o := ⟨some 66, _, _, _, _, _⟩) rfl (fun K hK => ?_) AllReadyH.nil
    go_simp
    refine (See_any _ A n cp ls src lt 0 (by have := hll.out; omega) (SeenAt.none hIu) (SeenAt.more (SeenAt.below hIu hS0) hS0.size)).mono ?_
    rw [← hla.out]
    rintro e y1 ⟨v1, rfl, hown1, g1⟩
    obtain ⟨A5, c5, rfl, hc5⟩ := own_slice' hown1
    have hr5 : SeenAt y1 y1.heap.size A5 la.length la := Reads.of_own hown1
    have hy1 : Below u1.heap.size u1 y1 := hS0.trans (g1.mono hS0.size)
    clear g1 hown1 hS0
    go_wp2_with fail
    refine hK.out _ _ hy1 (fun hS1 => ?_)
    clear hK K
    try simp only [Act.put, List.setIfInBounds_toArray, List.set_cons_zero, List.set_cons_succ]
    refine wpAnyH_ready (rs := [7]) (by kernel_rfl) (by simp) ?_
    refine AllReadyH.cons (o := ⟨some 69, _, _, _, _, _⟩) rfl (fun K hK => ?_) AllReadyH.nil
    go_simp
    refine (Judge_lit _ A5 la.length c5 la boot kd src dst bo li ec el 1 A2 n2 c2 hjs.out (by omega) hr5).mono ?_
    rintro e y2 ⟨rfl, g2⟩
    have hy2 : Below u1.heap.size u1 y2 := hy1.trans (g2.mono hy1.size)
    clear g2 hr5
    go_wp2_with fail
    refine hK.out _ _ hy2 (fun hS2 => ?_)
    clear hK K
    try simp only [Act.put, List.setIfInBounds_toArray, List.set_cons_zero, List.set_cons_succ]
    (refine wpAnyH_take (i := 8) (oi := ⟨some 70, _, _, _, _, _⟩) rfl (by kernel_rfl) (by kernel_rfl) (by kernel_rfl) (fun _ _ _ h => h) (.inl ⟨rfl, fun _ _ => rfl⟩) (by assumption) ?_); try simp only [Act.put, List.setIfInBounds_toArray, List.set_cons_zero, List.set_cons_succ]
    (refine wpAnyH_take (i := 9) (oi := ⟨some 71, _, _, _, _, _⟩) rfl (by kernel_rfl) (by kernel_rfl) (by kernel_rfl) (fun _ _ _ h => h) (.inl ⟨rfl, fun _ _ => rfl⟩) (by assumption) ?_); try simp only [Act.put, List.setIfInBounds_toArray, List.set_cons_zero, List.set_cons_succ]
    refine wpAnyH_ready (rs := [10]) (by kernel_rfl) (by simp) ?_
    refine AllReadyH.cons (o := ⟨some 72, _, _, _, _, _⟩) rfl (fun K hK => ?_) AllReadyH.nil
    go_simp
    refine (awake14 _).mono ?_
    rintro e y3 ⟨rfl, g3⟩
    have hy3 : Below u1.heap.size u1 y3 := hy2.trans (g3.mono hy2.size)
    clear g3
    go_wp2_with fail
    refine hK.out _ _ hy3 (fun hS3 => ?_)
    clear hK K
    try simp only [Act.put, List.setIfInBounds_toArray, List.set_cons_zero, List.set_cons_succ]
    (refine wpAnyH_take (i := 11) (oi := ⟨some 73, _, _, _, _, _⟩) rfl (by kernel_rfl) (by kernel_rfl) (by kernel_rfl) (fun _ _ _ h => h) (.inl ⟨rfl, fun _ _ => rfl⟩) (by assumption) ?_); try simp only [Act.put, List.setIfInBounds_toArray, List.set_cons_zero, List.set_cons_succ]
    (refine wpAnyH_take (i := 12) (oi := ⟨some 10, _, _, _, _, _⟩) rfl (by kernel_rfl) (by kernel_rfl) (by kernel_rfl) (fun _ _ _ h => h) (.inl ⟨rfl, fun _ _ => rfl⟩) (by assumption) ?_); try simp only [Act.put, List.setIfInBounds_toArray, List.set_cons_zero, List.set_cons_succ]
    refine wpAnyH_done (by kernel_rfl) ?_ _
    clear hS1 hS2 hS3 hy1 hy2
    go_wp2_with fail
    go_ret
    exact ⟨rfl, hbu.trans (hy3.mono hbu.size)⟩

theorem own : ownKnob Try.prog.godebug = none := by kernel_rfl
theorem laidOut : laidOutB Try.prog = true := by kernel_rfl

set_option maxRecDepth 100000 in
theorem lifted (os : Os) (started : os.Started) (H : Type) (enc : TypeId × Value → H) :
    ReturnsInHanded {} Try.checked os 8 .any (Rows.shakeTurnsSpec.pre6 enc Try.prog Try.f8 Rows.shakeTurnsRow.domain false) (Rows.shakeTurnsSpec.post enc Try.prog Try.f8 false true false false) := by
  refine lift_law (C := Try.checked) own started (by kernel_rfl) Try.func8
    (ChangeSpec.witness6 (enc := enc) (C := Try.checked) false ⟨#[], #[.int .i64 0, .slice none 0 0, .int .i64 0, .agg #[.int .i64 0, .int .i64 0, .int .i64 0, .int .i64 0, .int .i64 0, .int .i64 0, .int .i64 0, .slice none 0 0], .int .i64 0], []⟩ 8 (by kernel_rfl) (by kernel_rfl) (by kernel_rfl) (by kernel_rfl))
    laidOut (by kernel_rfl) rfl Try.underlying4 rfl (fun ds h => by match ds, h with | [d0, d1, d2, d3, d4], _ => rfl) ?_
  intro W base args ds p hval0 hA0 hsz
  have hval : ∀ (j : Nat) t v, Try.f8.params[j]? = some t → args[j]? = some v → Value.okWide Try.prog W .any base t v := hval0
  have hA : DataW.TrodAll enc Try.prog W 0 (fun _ => true) true Try.f8.params.toList args.toList ds p := hA0
  rw [Try.params8] at hA hval
  clear hA0 hval0
  obtain ⟨v0, vs0, d0, ds0, p0, q0, hargs, rfl, rfl, h0, r0⟩ := trodAll_cons hA
  obtain ⟨v1, vs1, d1, ds1, p1, q1, rfl, rfl, rfl, h1, r1⟩ := trodAll_cons r0
  obtain ⟨v2, vs2, d2, ds2, p2, q2, rfl, rfl, rfl, h2, r2⟩ := trodAll_cons r1
  obtain ⟨v3, vs3, d3, ds3, p3, q3, rfl, rfl, rfl, h3, r3⟩ := trodAll_cons r2
  obtain ⟨v4, vs4, d4, ds4, p4, q4, rfl, rfl, rfl, h4, r4⟩ := trodAll_cons r3
  obtain ⟨rfl, rfl, rfl⟩ := trodAll_nil r4
  obtain rfl := args_of_toList hargs
  obtain ⟨x0, rfl, _, _, _wf0⟩ := open_int Try.underlying3 (hval 0 3 v0 rfl rfl) h0
  obtain ⟨_a1, _l1, _c1, rfl⟩ := okWide_slice Try.underlying52 (hval 1 52 v1 rfl rfl)
  obtain ⟨_fuel1, hf1⟩ := h1
  obtain ⟨A1, m1, c1, ls1, hcs1, hm1, hc1, hI1, hw1⟩ := (open_seens Try.underlying52 Try.underlying60 (by kernel_rfl) rfl rfl rfl rfl (by kernel_rfl) (by kernel_rfl) (by kernel_rfl) (by kernel_rfl) (by kernel_rfl) (by kernel_rfl) (by kernel_rfl) (by kernel_rfl)) hf1
  simp only [Value.cells, List.cons.injEq, Value.slice.injEq, and_true] at hcs1
  obtain ⟨rfl, rfl, rfl⟩ := hcs1
  obtain ⟨x2, rfl, _, _, _wf2⟩ := open_int Try.underlying2 (hval 2 2 v2 rfl rfl) h2
  obtain ⟨_vs3, rfl, _⟩ := okWide_struct Try.underlying71 (hval 3 71 v3 rfl rfl)
  obtain ⟨_fuel3, hf3⟩ := h3
  obtain ⟨kd3, src3, dst3, bo3, li3, ec3, el3, A3, m3, c3, hcs3, hm3, hc3, hI3⟩ := open_packet hf3
  simp only [Value.cells] at hcs3
  obtain rfl := args_of_toList hcs3
  obtain ⟨x4, rfl, _, _, _wf4⟩ := open_int Try.underlying2 (hval 4 2 v4 rfl rfl) h4
  exact walk x0 x2 x4 _ _ _ ls1 _ _ _ _ _ _ _ _ _ _ W (by unfold maxLen at hm1; omega) hI1 hI3 hm3

theorem proved : Rows.ShakeTurnsSaid :=
  OpenClaim.holds_of_wide 8 Try.f8 rfl rfl rfl rfl rfl rfl rfl ⟨rfl, rfl, rfl, rfl, rfl⟩ rfl rfl rfl rfl rfl (by kernel_rfl) Try.func8 (by kernel_rfl)
    (of_decide_eq_true (by kernel_rfl)) (by unfold Func.isWrapper; first | (rw [if_pos (by decide +kernel)]; kernel_rfl) | (rw [if_neg (by decide +kernel)]; exact ⟨rfl, rfl⟩))
    (fun os started H enc _ => lifted os started H enc)
#print axioms proved

end turns
end Go.Proofs.Ytkbcnapfcojekaa
