/-
  Layer 14: the statement ShakeJudges: Judge, Begins, Parts, Hello and Welcome answer as the document's. Every input; no condition.
-/
import Derived.Test.YtkbcnapfcojekaaOpenHalf
import Derived.Test.YtkbcnapfcojekaaBegins
import Derived.Test.YtkbcnapfcojekaaHello
namespace Go.Proofs.Ytkbcnapfcojekaa
open Go.ChangeShapes Go.WideShapes Go.ChangeAt Go.RowKit Go.Ed Go.Joins

theorem fitsH_step {id : Int} {vs : List HV} (h : fitsH id (vs.map HV.h) = true) {k : Nat} (hk : k < vs.length) : fitH id vs[k].h = true ∧ (k = 0 ∨ (halfAt (vs.map HV.h) (k - 1)).peer < vs[k].h.peer) := by
  rw [fitsH, Bool.and_eq_true] at h
  have := List.all_eq_true.1 h.1 k (by simpa using hk)
  rw [stepH_of hk rfl] at this
  simpa using this
theorem fitsH_rises {id : Int} {vs : List HV} (h : fitsH id (vs.map HV.h) = true) : (vs.map HV.h).Pairwise fun a b => a.peer < b.peer := by
  rw [List.pairwise_iff_getElem]
  have key : ∀ j i (hi : i < vs.length) (hj : j < vs.length), i < j → vs[i].h.peer < vs[j].h.peer := by
    intro j
    induction j with
    | zero => intro i _ _ h; omega
    | succ j ih =>
      intro i hi hj hij
      have h1 := (fitsH_step h hj).2
      rw [Nat.add_sub_cancel, halfAt_map (by omega)] at h1
      have h1 : vs[j].h.peer < vs[j + 1].h.peer := h1.resolve_left (by omega)
      rcases Nat.lt_or_ge i j with h2 | h2
      · have := ih i hi (by omega) h2
        omega
      · obtain rfl : i = j := by omega
        exact h1
  intro i j hi hj hij
  simpa using key j i (by simpa using hi) (by simpa using hj) hij
theorem fitsH_node {id : Int} {vs : List HV} (h : fitsH id (vs.map HV.h) = true) : ∀ v ∈ vs, (0 ≤ v.h.peer ∧ v.h.peer < 16) ∧ v.h.lines.length ≤ 8 := by
  intro v hv
  obtain ⟨k, hk, rfl⟩ := List.getElem_of_mem hv
  have := (fitsH_step h hk).1
  rw [fitH, Bool.and_eq_true] at this
  have h1 := this.1
  simp [headOk, isNode] at h1
  omega

theorem fitsH_len {id : Int} {vs : List HV} (h : fitsH id (vs.map HV.h) = true) : vs.length ≤ 16 := by
  have key : ∀ k (hk : k < vs.length), (k : Int) ≤ vs[k].h.peer := by
    intro k
    induction k with
    | zero => intro hk; have := (fitsH_node h _ (List.getElem_mem hk)).1; omega
    | succ k ih =>
      intro hk
      have h1 := (fitsH_step h hk).2
      rw [Nat.add_sub_cancel, halfAt_map (by omega)] at h1
      have h1 : vs[k].h.peer < vs[k + 1].h.peer := h1.resolve_left (by omega)
      have := ih (by omega)
      omega
  rcases Nat.lt_or_ge 16 vs.length with h1 | h1
  · have h2 := key 16 h1
    have h3 := (fitsH_node h _ (List.getElem_mem h1)).1
    omega
  · exact h1

set_option maxRecDepth 100000 in
set_option maxHeartbeats 2000000 in
theorem same05_eq (w : World) (kd src dst bo li ec el : Int) (A A2 : Option Addr) (c c2 : Nat) :
    Calls Try.prog 53 #[.agg #[.int .i64 kd, .int .i64 src, .int .i64 dst, .int .i64 bo, .int .i64 li, .int .i64 ec, .int .i64 el, .slice A 0 c], .agg #[.int .i64 kd, .int .i64 src, .int .i64 dst, .int .i64 bo, .int .i64 li, .int .i64 ec, .int .i64 el, .slice A2 0 c2]] w fun e w' => e = .returned (.bool true) ∧ Below w.heap.size w w' := by
  go_enter Try.func53, Try.ntmps53
  go_wp2_with fail
  go_loop [5] (fun i => i = .int .i64 0) (fun _ => 0)
  case atStart => rfl
  case round =>
    subst hrel
    go_wp2_with fail
    go_ret
    exact ⟨rfl, by go_grown⟩

theorem begins_lit (w : World) (A : Option Addr) (n c : Nat) (o : Option Half) (kd src dst bo li ec el : Int) (A2 : Option Addr) (n2 c2 : Nat) (r : Bool) (hr : begins o bo li = r) (hF : ∀ W, Below w.heap.size w W → Calls Try.prog 75 #[.slice A n c, .int .i64 src] W (Found W o)) :
    Calls Try.prog 49 #[.slice A n c, .agg #[.int .i64 kd, .int .i64 src, .int .i64 dst, .int .i64 bo, .int .i64 li, .int .i64 ec, .int .i64 el, .slice A2 n2 c2]] w fun e w' => e = .returned (.bool r) ∧ Below w.heap.size w w' := hr ▸ begins_any w A n c o kd src dst bo li ec el A2 n2 c2 hF
theorem refBegins_lit (w : World) (A : Option Addr) (n c : Nat) (o : Option Half) (kd src dst bo li ec el : Int) (A2 : Option Addr) (n2 c2 : Nat) (r : Bool) (hr : begins o bo li = r) (hF : ∀ W, Below w.heap.size w W → Calls Try.prog 76 #[.slice A n c, .int .i64 src] W (Found W o)) :
    Calls Try.prog 50 #[.slice A n c, .agg #[.int .i64 kd, .int .i64 src, .int .i64 dst, .int .i64 bo, .int .i64 li, .int .i64 ec, .int .i64 el, .slice A2 n2 c2]] w fun e w' => e = .returned (.bool r) ∧ Below w.heap.size w w' := hr ▸ refBegins_any w A n c o kd src dst bo li ec el A2 n2 c2 hF
theorem parts_lit (w : World) (A : Option Addr) (n c : Nat) (o : Option Half) (kd src dst bo li ec el : Int) (A2 : Option Addr) (n2 c2 : Nat) (r : Bool) (hr : parts o bo li = r) (hF : ∀ W, Below w.heap.size w W → Calls Try.prog 75 #[.slice A n c, .int .i64 src] W (Found W o)) :
    Calls Try.prog 51 #[.slice A n c, .agg #[.int .i64 kd, .int .i64 src, .int .i64 dst, .int .i64 bo, .int .i64 li, .int .i64 ec, .int .i64 el, .slice A2 n2 c2]] w fun e w' => e = .returned (.bool r) ∧ Below w.heap.size w w' := hr ▸ parts_any w A n c o kd src dst bo li ec el A2 n2 c2 hF
theorem refParts_lit (w : World) (A : Option Addr) (n c : Nat) (o : Option Half) (kd src dst bo li ec el : Int) (A2 : Option Addr) (n2 c2 : Nat) (r : Bool) (hr : parts o bo li = r) (hF : ∀ W, Below w.heap.size w W → Calls Try.prog 76 #[.slice A n c, .int .i64 src] W (Found W o)) :
    Calls Try.prog 52 #[.slice A n c, .agg #[.int .i64 kd, .int .i64 src, .int .i64 dst, .int .i64 bo, .int .i64 li, .int .i64 ec, .int .i64 el, .slice A2 n2 c2]] w fun e w' => e = .returned (.bool r) ∧ Below w.heap.size w w' := hr ▸ refParts_any w A n c o kd src dst bo li ec el A2 n2 c2 hF
theorem refJudge_lit (w : World) (A : Option Addr) (n c : Nat) (ls : List Seen) (me : Int) (kd src dst bo li ec el r : Int) (A2 : Option Addr) (n2 c2 : Nat) (hr : judge (refGot ls src) me ⟨kd, src, dst, bo, li, ec, el⟩ = r) (hn : (n : Int) ≤ 9223372036854775807) (hI : SeenAt w w.heap.size A n ls) :
    Calls Try.prog 48 #[.slice A n c, .int .i64 me, .agg #[.int .i64 kd, .int .i64 src, .int .i64 dst, .int .i64 bo, .int .i64 li, .int .i64 ec, .int .i64 el, .slice A2 n2 c2]] w fun e w' => e = .returned (.int .i64 r) ∧ Below w.heap.size w w' := hr ▸ refJudge_any w A n c ls me kd src dst bo li ec el A2 n2 c2 hn hI
theorem refFit14_lit (w : World) (id : Int) (A : Option Addr) (n c : Nat) (ls : List Seen) (r : Bool) (hr : fitL id ls = r) (hlen : (n : Int) ≤ 9223372036854775807) (hI : SeenAt w w.heap.size A n ls) :
    Calls Try.prog 28 #[.int .i64 id, .slice A n c] w fun e w' => e = .returned (.bool r) ∧ Below w.heap.size w w' := hr ▸ refFit_any w w.heap.size id A n c ls hlen hI (Nat.le_refl _)

namespace judges


set_option maxRecDepth 100000 in
set_option maxHeartbeats 8000000 in
theorem walk (id boot peer : Int) (A : Option Addr) (n cp : Nat) (ls : List Seen) (A3 : Option Addr) (n3 c3 : Nat) (vs : List HV) (kd src dst bo li ec el : Int) (A2 : Option Addr) (n2 c2 : Nat) (w : World) (hn : (n : Int) ≤ 9223372036854775807) (hI : SeenAt w w.heap.size A n ls)
    (hI2 : ItemsAt w w.heap.size A2 n2) (hn2 : n2 ≤ maxLen) (hn3 : (n3 : Int) ≤ 9223372036854775807) (hI3 : HalvesAt w w.heap.size A3 n3 vs) (hv3 : ∀ v ∈ vs, ShortH v) :
    Calls Try.prog 11 #[.int .i64 id, .slice A n cp, .slice A3 n3 c3, .int .i64 boot, .agg #[.int .i64 kd, .int .i64 src, .int .i64 dst, .int .i64 bo, .int .i64 li, .int .i64 ec, .int .i64 el, .slice A2 n2 c2], .int .i64 peer] w fun e w' => e = .returned (.bool true) ∧ Below w.heap.size w w' := by
  obtain ⟨f, hf⟩ : ∃ f, fitL id ls = f := ⟨_, rfl⟩
  obtain ⟨f2, hf2⟩ : ∃ f, fitsH id (vs.map HV.h) = f := ⟨_, rfl⟩
  obtain ⟨n1, hbo⟩ : ∃ f, isIn boot 1 1099511627776 = f := ⟨_, rfl⟩
  obtain ⟨np, hnp⟩ : ∃ f, isNode peer = f := ⟨_, rfl⟩
  replace hf := Lib.hid hf
  replace hf2 := Lib.hid hf2
  replace hbo := Lib.hid hbo
  replace hnp := Lib.hid hnp
  replace hv3 := Lib.hid hv3
  obtain ⟨gp, hgp⟩ : ∃ g, g = w.heap.size := ⟨_, rfl⟩
  go_enter Try.func11, Try.ntmps11
  go_wp2_with fail
  have hb0 : Below w.heap.size w (w.alloc (.cells #[.int .i64 kd, .int .i64 src, .int .i64 dst, .int .i64 bo, .int .i64 li, .int .i64 ec, .int .i64 el, .slice A2 n2 c2] 71)) := (Below.refl _ w).alloc (Nat.le_refl _) _
  have hB0 : Blk (w.alloc (.cells #[.int .i64 kd, .int .i64 src, .int .i64 dst, .int .i64 bo, .int .i64 li, .int .i64 ec, .int .i64 el, .slice A2 n2 c2] 71)) gp 71 #[.int .i64 kd, .int .i64 src, .int .i64 dst, .int .i64 bo, .int .i64 li, .int .i64 ec, .int .i64 el, .slice A2 n2 c2] := by rw [hgp]; exact Blk.new _ _ _
  generalize w.alloc (.cells #[.int .i64 kd, .int .i64 src, .int .i64 dst, .int .i64 bo, .int .i64 li, .int .i64 ec, .int .i64 el, .slice A2 n2 c2] 71) = W0 at *
  rw [← hgp]
  replace hgp := Lib.hid hgp
  refine (refFit14_lit _ id A n cp ls f hf.out hn ((hI.below hb0).more hb0.size)).mono ?_
  rintro e w1 ⟨rfl, h1⟩
  have hb1 := hb0.trans (h1.mono hb0.size)
  have hB1 := hB0.below h1 hB0.lt
  clear hB0 h1 hb0
  cases f
  · go_wp2_with fail
    refine (awake14 _).mono ?_
    rintro e w9 ⟨rfl, h9⟩
    go_wp2_with fail
    go_ret
    exact ⟨rfl, hb1.trans (h9.mono hb1.size)⟩
  have hfit := Lib.hid (fit_iff.1 hf.out)
  go_wp2_with fail
  refine (refFits10_any _ id A3 n3 c3 vs hn3 ((hI3.below hb1).more hb1.size) hv3.out).mono ?_
  rw [hf2.out]
  rintro e w2 ⟨rfl, h2⟩
  have hb2 := hb1.trans (h2.mono hb1.size)
  have hB2 := hB1.below h2 hB1.lt
  clear hB1 h2 hb1
  cases f2
  · go_wp2_with fail
    refine (awake14 _).mono ?_
    rintro e w9 ⟨rfl, h9⟩
    go_wp2_with fail
    go_ret
    exact ⟨rfl, hb2.trans (h9.mono hb2.size)⟩
  go_wp2_with fail
  refine (within_lit _ boot _ _ n1 hbo.out).mono ?_
  rintro e w' ⟨rfl, rfl⟩
  cases n1
  · go_wp2_with fail
    refine (awake14 _).mono ?_
    rintro e w9 ⟨rfl, h9⟩
    go_wp2_with fail
    go_ret
    exact ⟨rfl, hb2.trans (h9.mono hb2.size)⟩
  obtain ⟨k0, k1, k2, k3, k4, k5, k6, k7⟩ := cells8 hB2
  go_wp2_with fail
  refine (fit05_any _ kd src dst bo li ec el A2 n2 c2 ((hI2.below hb2).more hb2.size) hn2).mono ?_
  rintro e u ⟨b, rfl, h2, hFB⟩
  have hbu := hb2.trans (h2.mono hb2.size)
  have hBu := hB2.below h2 hB2.lt
  clear hB2 h2 hb2 k0 k1 k2 k3 k4 k5 k6 k7
  cases b
  · go_wp2_with fail
    refine (awake14 _).mono ?_
    rintro e w9 ⟨rfl, h9⟩
    go_wp2_with fail
    go_ret
    exact ⟨rfl, hbu.trans (h9.mono hbu.size)⟩
  replace hFB := hFB rfl
  have hsrc : 0 ≤ src ∧ src < 16 := by have := hFB.2.2.1; simpa [isNode] using this
  clear hFB
  go_wp2_with fail
  refine (node_lit _ peer np hnp.out).mono ?_
  rintro e w' ⟨rfl, rfl⟩
  cases np
  · go_wp2_with fail
    refine (awake14 _).mono ?_
    rintro e w9 ⟨rfl, h9⟩
    go_wp2_with fail
    go_ret
    exact ⟨rfl, hbu.trans (h9.mono hbu.size)⟩
  have hrise := Lib.hid (fitsH_rises hf2.out)
  have hnode := Lib.hid (fitsH_node hf2.out)
  have hn16 : (n3 : Int) ≤ 1000000000000 := by have := fitsH_len hf2.out; have := hI3.len; omega
  have hIu := Lib.hid ((hI.below hbu).more hbu.size)
  have hI3u := Lib.hid ((hI3.below hbu).more hbu.size)
  obtain ⟨j, hj⟩ : ∃ j, judge (got ls src) boot ⟨kd, src, dst, bo, li, ec, el⟩ = j := ⟨_, rfl⟩
  have hj2 : judge (refGot ls src) boot ⟨kd, src, dst, bo, li, ec, el⟩ = j := by rw [refGot_eq hfit.out.up]; exact hj
  replace hj := Lib.hid hj
  replace hj2 := Lib.hid hj2
  obtain ⟨⟨q, b, l, m⟩, hg⟩ : ∃ s, got ls src = s := ⟨_, rfl⟩
  have hg2 : refGot ls src = ⟨q, b, l, m⟩ := by rw [refGot_eq hfit.out.up]; exact hg
  obtain ⟨⟨q', b', l', m'⟩, hp⟩ : ∃ s, got ls peer = s := ⟨_, rfl⟩
  have hp2 : refGot ls peer = ⟨q', b', l', m'⟩ := by rw [refGot_eq hfit.out.up]; exact hp
  replace hg := Lib.hid hg
  replace hg2 := Lib.hid hg2
  replace hp := Lib.hid hp
  replace hp2 := Lib.hid hp2
  obtain ⟨rb, hrb⟩ : ∃ r, begins (findH (vs.map HV.h) src) bo li = r := ⟨_, rfl⟩
  obtain ⟨rp, hrp⟩ : ∃ r, parts (findH (vs.map HV.h) src) bo li = r := ⟨_, rfl⟩
  replace hrb := Lib.hid hrb
  replace hrp := Lib.hid hrp
  have hFind : Hid (∀ W, Below u.heap.size u W → Calls Try.prog 75 #[.slice A3 n3 c3, .int .i64 src] W (Found W (findH (vs.map HV.h) src))) := Lib.hid (fun W hW => find10_any W A3 n3 c3 vs src hn16 ((hI3u.out.below hW).more hW.size) hrise.out (fun v hv => (hnode.out v hv).1) ⟨by omega, by omega⟩ (fun v hv => by have := (hnode.out v hv).2; omega))
  have hFind2 : Hid (∀ W, Below u.heap.size u W → Calls Try.prog 76 #[.slice A3 n3 c3, .int .i64 src] W (Found W (findH (vs.map HV.h) src))) := Lib.hid (fun W hW => refFind10_any W A3 n3 c3 vs src hn16 ((hI3u.out.below hW).more hW.size) (fun v hv => by have := (hnode.out v hv).2; omega))
  have hgl : gp < u.heap.size := hBu.lt
  have hpk : Hid (∀ W, Below u.heap.size u W → ∀ j v, [Value.int .i64 kd, .int .i64 src, .int .i64 dst, .int .i64 bo, .int .i64 li, .int .i64 ec, .int .i64 el, .slice A2 n2 c2][j]? = some v → W.cell? ⟨gp, 0 + j, none⟩ = some v) := Lib.hid (fun W hW j v hv => by
    rw [Nat.zero_add]
    exact (hW.cell (p := ⟨gp, j, none⟩) hgl).trans ((hBu.cell j).trans (by simpa using hv)))
  clear hBu
  go_wp2_with fail
  refine wp_region_held_drew (S := fun W => Below u.heap.size u W) (by kernel_rfl) ((Below.refl _ _).drew) (fun hS0 => ?_)
  (refine wpAnyH_take (i := 0) (oi := ⟨some 39, _, _, _, _, _⟩) rfl (by kernel_rfl) (by kernel_rfl) (by kernel_rfl) (fun _ _ _ h => h) (.inl ⟨rfl, fun _ _ => rfl⟩) (by assumption) ?_); try simp only [Act.put, List.setIfInBounds_toArray, List.set_cons_zero, List.set_cons_succ]
  (refine wpAnyH_take (i := 1) (oi := ⟨some 40, _, _, _, _, _⟩) rfl (by kernel_rfl) (by kernel_rfl) (by kernel_rfl) (fun _ _ _ h => h) (.inl ⟨rfl, fun _ _ => rfl⟩) (by assumption) ?_); try simp only [Act.put, List.setIfInBounds_toArray, List.set_cons_zero, List.set_cons_succ]
  (refine wpAnyH_take (i := 2) (oi := ⟨some 41, _, _, _, _, _⟩) rfl (by kernel_rfl) (by kernel_rfl) (by kernel_rfl) (fun _ _ _ h => h) (.inl ⟨rfl, fun W hS => exec_load_list agg_Packet' rfl (hpk.out W hS) rfl rfl⟩) (by assumption) ?_); try simp only [Act.put, List.setIfInBounds_toArray, List.set_cons_zero, List.set_cons_succ]
  (refine wpAnyH_take (i := 4) (oi := ⟨some 43, _, _, _, _, _⟩) rfl (by kernel_rfl) (by kernel_rfl) (by kernel_rfl) (fun _ _ _ h => h) (.inl ⟨rfl, fun _ _ => rfl⟩) (by assumption) ?_); try simp only [Act.put, List.setIfInBounds_toArray, List.set_cons_zero, List.set_cons_succ]
  (refine wpAnyH_take (i := 5) (oi := ⟨some 44, _, _, _, _, _⟩) rfl (by kernel_rfl) (by kernel_rfl) (by kernel_rfl) (fun _ _ _ h => h) (.inl ⟨rfl, fun _ _ => rfl⟩) (by assumption) ?_); try simp only [Act.put, List.setIfInBounds_toArray, List.set_cons_zero, List.set_cons_succ]
  (refine wpAnyH_take (i := 6) (oi := ⟨some 45, _, _, _, _, _⟩) rfl (by kernel_rfl) (by kernel_rfl) (by kernel_rfl) (fun _ _ _ h => h) (.inl ⟨rfl, fun W hS => exec_load_list agg_Packet' rfl (hpk.out W hS) rfl rfl⟩) (by assumption) ?_); try simp only [Act.put, List.setIfInBounds_toArray, List.set_cons_zero, List.set_cons_succ]
  refine wpAnyH_ready (rs := [3]) (by kernel_rfl) (by simp) ?_
  refine AllReadyH.cons (o := ⟨some 42, _, _, _, _, _⟩) rfl (fun K hK => ?_) AllReadyH.nil
  go_simp
  refine (Judge_lit _ A n cp ls boot kd src dst bo li ec el j A2 n2 c2 hj.out hn (SeenAt.more (SeenAt.below hIu.out hS0) hS0.size)).mono ?_
  rintro e wz ⟨rfl, g⟩
  have hk1 : Below u.heap.size u wz := hS0.trans (g.mono hS0.size)
  clear g hS0
  go_wp2_with fail
  refine hK.out _ _ hk1 (fun hS0 => ?_)
  clear hK K
  try simp only [Act.put, List.setIfInBounds_toArray, List.set_cons_zero, List.set_cons_succ]
  clear hk1
  refine wpAnyH_ready (rs := [7]) (by kernel_rfl) (by simp) ?_
  refine AllReadyH.cons (o := ⟨some 46, _, _, _, _, _⟩) rfl (fun K hK => ?_) AllReadyH.nil
  go_simp
  refine (refJudge_lit _ A n cp ls boot kd src dst bo li ec el j A2 n2 c2 hj2.out hn (SeenAt.more (SeenAt.below hIu.out hS0) hS0.size)).mono ?_
  rintro e wz ⟨rfl, g⟩
  have hk2 : Below u.heap.size u wz := hS0.trans (g.mono hS0.size)
  clear g hS0
  go_wp2_with fail
  refine hK.out _ _ hk2 (fun hS0 => ?_)
  clear hK K
  try simp only [Act.put, List.setIfInBounds_toArray, List.set_cons_zero, List.set_cons_succ]
  clear hk2
  (refine wpAnyH_take (i := 8) (oi := ⟨some 47, _, _, _, _, _⟩) (v := .bool false) rfl (by kernel_rfl) (by kernel_rfl) (by kernel_rfl) (fun _ _ _ h => h) (.inl ⟨rfl, fun W hS => by go_simp; all_goals (try simp)⟩) (by assumption) ?_); try simp only [Act.put, List.setIfInBounds_toArray, List.set_cons_zero, List.set_cons_succ]
  (refine wpAnyH_take (i := 9) (oi := ⟨some 48, _, _, _, _, _⟩) rfl (by kernel_rfl) (by kernel_rfl) (by kernel_rfl) (fun _ _ _ h => h) (.inl ⟨rfl, fun _ _ => rfl⟩) (by assumption) ?_); try simp only [Act.put, List.setIfInBounds_toArray, List.set_cons_zero, List.set_cons_succ]
  (refine wpAnyH_take (i := 10) (oi := ⟨some 49, _, _, _, _, _⟩) rfl (by kernel_rfl) (by kernel_rfl) (by kernel_rfl) (fun _ _ _ h => h) (.inl ⟨rfl, fun _ _ => rfl⟩) (by assumption) ?_); try simp only [Act.put, List.setIfInBounds_toArray, List.set_cons_zero, List.set_cons_succ]
  (refine wpAnyH_take (i := 11) (oi := ⟨some 50, _, _, _, _, _⟩) rfl (by kernel_rfl) (by kernel_rfl) (by kernel_rfl) (fun _ _ _ h => h) (.inl ⟨rfl, fun W hS => exec_load_list agg_Packet' rfl (hpk.out W hS) rfl rfl⟩) (by assumption) ?_); try simp only [Act.put, List.setIfInBounds_toArray, List.set_cons_zero, List.set_cons_succ]
  (refine wpAnyH_take (i := 13) (oi := ⟨some 52, _, _, _, _, _⟩) rfl (by kernel_rfl) (by kernel_rfl) (by kernel_rfl) (fun _ _ _ h => h) (.inl ⟨rfl, fun _ _ => rfl⟩) (by assumption) ?_); try simp only [Act.put, List.setIfInBounds_toArray, List.set_cons_zero, List.set_cons_succ]
  (refine wpAnyH_take (i := 14) (oi := ⟨some 53, _, _, _, _, _⟩) rfl (by kernel_rfl) (by kernel_rfl) (by kernel_rfl) (fun _ _ _ h => h) (.inl ⟨rfl, fun W hS => exec_load_list agg_Packet' rfl (hpk.out W hS) rfl rfl⟩) (by assumption) ?_); try simp only [Act.put, List.setIfInBounds_toArray, List.set_cons_zero, List.set_cons_succ]
  refine wpAnyH_ready (rs := [12]) (by kernel_rfl) (by simp) ?_
  refine AllReadyH.cons (o := ⟨some 51, _, _, _, _, _⟩) rfl (fun K hK => ?_) AllReadyH.nil
  go_simp
  refine (begins_lit _ A3 n3 c3 _ kd src dst bo li ec el A2 n2 c2 rb hrb.out (fun W hW => hFind.out W (hS0.trans (hW.mono hS0.size)))).mono ?_
  rintro e wz ⟨rfl, g⟩
  have hk3 : Below u.heap.size u wz := hS0.trans (g.mono hS0.size)
  clear g hS0
  go_wp2_with fail
  refine hK.out _ _ hk3 (fun hS0 => ?_)
  clear hK K
  try simp only [Act.put, List.setIfInBounds_toArray, List.set_cons_zero, List.set_cons_succ]
  clear hk3
  refine wpAnyH_ready (rs := [15]) (by kernel_rfl) (by simp) ?_
  refine AllReadyH.cons (o := ⟨some 54, _, _, _, _, _⟩) rfl (fun K hK => ?_) AllReadyH.nil
  go_simp
  refine (refBegins_lit _ A3 n3 c3 _ kd src dst bo li ec el A2 n2 c2 rb hrb.out (fun W hW => hFind2.out W (hS0.trans (hW.mono hS0.size)))).mono ?_
  rintro e wz ⟨rfl, g⟩
  have hk4 : Below u.heap.size u wz := hS0.trans (g.mono hS0.size)
  clear g hS0
  go_wp2_with fail
  refine hK.out _ _ hk4 (fun hS0 => ?_)
  clear hK K
  try simp only [Act.put, List.setIfInBounds_toArray, List.set_cons_zero, List.set_cons_succ]
  clear hk4
  (refine wpAnyH_take (i := 16) (oi := ⟨some 55, _, _, _, _, _⟩) (v := .bool false) rfl (by kernel_rfl) (by kernel_rfl) (by kernel_rfl) (fun _ _ _ h => h) (.inl ⟨rfl, fun W hS => by go_simp; all_goals (try simp)⟩) (by assumption) ?_); try simp only [Act.put, List.setIfInBounds_toArray, List.set_cons_zero, List.set_cons_succ]
  (refine wpAnyH_take (i := 17) (oi := ⟨some 56, _, _, _, _, _⟩) rfl (by kernel_rfl) (by kernel_rfl) (by kernel_rfl) (fun _ _ _ h => h) (.inl ⟨rfl, fun _ _ => rfl⟩) (by assumption) ?_); try simp only [Act.put, List.setIfInBounds_toArray, List.set_cons_zero, List.set_cons_succ]
  (refine wpAnyH_take (i := 18) (oi := ⟨some 57, _, _, _, _, _⟩) rfl (by kernel_rfl) (by kernel_rfl) (by kernel_rfl) (fun _ _ _ h => h) (.inl ⟨rfl, fun _ _ => rfl⟩) (by assumption) ?_); try simp only [Act.put, List.setIfInBounds_toArray, List.set_cons_zero, List.set_cons_succ]
  (refine wpAnyH_take (i := 19) (oi := ⟨some 58, _, _, _, _, _⟩) rfl (by kernel_rfl) (by kernel_rfl) (by kernel_rfl) (fun _ _ _ h => h) (.inl ⟨rfl, fun _ _ => rfl⟩) (by assumption) ?_); try simp only [Act.put, List.setIfInBounds_toArray, List.set_cons_zero, List.set_cons_succ]
  (refine wpAnyH_take (i := 20) (oi := ⟨some 59, _, _, _, _, _⟩) rfl (by kernel_rfl) (by kernel_rfl) (by kernel_rfl) (fun _ _ _ h => h) (.inl ⟨rfl, fun W hS => exec_load_list agg_Packet' rfl (hpk.out W hS) rfl rfl⟩) (by assumption) ?_); try simp only [Act.put, List.setIfInBounds_toArray, List.set_cons_zero, List.set_cons_succ]
  (refine wpAnyH_take (i := 22) (oi := ⟨some 61, _, _, _, _, _⟩) rfl (by kernel_rfl) (by kernel_rfl) (by kernel_rfl) (fun _ _ _ h => h) (.inl ⟨rfl, fun _ _ => rfl⟩) (by assumption) ?_); try simp only [Act.put, List.setIfInBounds_toArray, List.set_cons_zero, List.set_cons_succ]
  (refine wpAnyH_take (i := 23) (oi := ⟨some 62, _, _, _, _, _⟩) rfl (by kernel_rfl) (by kernel_rfl) (by kernel_rfl) (fun _ _ _ h => h) (.inl ⟨rfl, fun W hS => exec_load_list agg_Packet' rfl (hpk.out W hS) rfl rfl⟩) (by assumption) ?_); try simp only [Act.put, List.setIfInBounds_toArray, List.set_cons_zero, List.set_cons_succ]
  refine wpAnyH_ready (rs := [21]) (by kernel_rfl) (by simp) ?_
  refine AllReadyH.cons (o := ⟨some 60, _, _, _, _, _⟩) rfl (fun K hK => ?_) AllReadyH.nil
  go_simp
  refine (parts_lit _ A3 n3 c3 _ kd src dst bo li ec el A2 n2 c2 rp hrp.out (fun W hW => hFind.out W (hS0.trans (hW.mono hS0.size)))).mono ?_
  rintro e wz ⟨rfl, g⟩
  have hk5 : Below u.heap.size u wz := hS0.trans (g.mono hS0.size)
  clear g hS0
  go_wp2_with fail
  refine hK.out _ _ hk5 (fun hS0 => ?_)
  clear hK K
  try simp only [Act.put, List.setIfInBounds_toArray, List.set_cons_zero, List.set_cons_succ]
  clear hk5
  refine wpAnyH_ready (rs := [24]) (by kernel_rfl) (by simp) ?_
  refine AllReadyH.cons (o := ⟨some 63, _, _, _, _, _⟩) rfl (fun K hK => ?_) AllReadyH.nil
  go_simp
  refine (refParts_lit _ A3 n3 c3 _ kd src dst bo li ec el A2 n2 c2 rp hrp.out (fun W hW => hFind2.out W (hS0.trans (hW.mono hS0.size)))).mono ?_
  rintro e wz ⟨rfl, g⟩
  have hk6 : Below u.heap.size u wz := hS0.trans (g.mono hS0.size)
  clear g hS0
  go_wp2_with fail
  refine hK.out _ _ hk6 (fun hS0 => ?_)
  clear hK K
  try simp only [Act.put, List.setIfInBounds_toArray, List.set_cons_zero, List.set_cons_succ]
  (refine wpAnyH_take (i := 25) (oi := ⟨some 64, _, _, _, _, _⟩) (v := .bool false) rfl (by kernel_rfl) (by kernel_rfl) (by kernel_rfl) (fun _ _ _ h => h) (.inl ⟨rfl, fun W hS => by go_simp; all_goals (try simp)⟩) (by assumption) ?_); try simp only [Act.put, List.setIfInBounds_toArray, List.set_cons_zero, List.set_cons_succ]
  (refine wpAnyH_take (i := 26) (oi := ⟨some 65, _, _, _, _, _⟩) rfl (by kernel_rfl) (by kernel_rfl) (by kernel_rfl) (fun _ _ _ h => h) (.inl ⟨rfl, fun _ _ => rfl⟩) (by assumption) ?_); try simp only [Act.put, List.setIfInBounds_toArray, List.set_cons_zero, List.set_cons_succ]
  refine wpAnyH_done (by kernel_rfl) ?_ _
  have hK := Lib.hid hk6
  go_wp2_with fail
  refine wp_region_held_drew (S := fun W => Below u.heap.size u W) (by kernel_rfl) (hK.out.drew) (fun hS0 => ?_)
  clear hk6 hK
  (refine wpAnyH_take (i := 0) (oi := ⟨some 66, _, _, _, _, _⟩) rfl (by kernel_rfl) (by kernel_rfl) (by kernel_rfl) (fun _ _ _ h => h) (.inl ⟨rfl, fun _ _ => rfl⟩) (by assumption) ?_); try simp only [Act.put, List.setIfInBounds_toArray, List.set_cons_zero, List.set_cons_succ]
  (refine wpAnyH_take (i := 1) (oi := ⟨some 67, _, _, _, _, _⟩) rfl (by kernel_rfl) (by kernel_rfl) (by kernel_rfl) (fun _ _ _ h => h) (.inl ⟨rfl, fun _ _ => rfl⟩) (by assumption) ?_); try simp only [Act.put, List.setIfInBounds_toArray, List.set_cons_zero, List.set_cons_succ]
  (refine wpAnyH_take (i := 2) (oi := ⟨some 68, _, _, _, _, _⟩) rfl (by kernel_rfl) (by kernel_rfl) (by kernel_rfl) (fun _ _ _ h => h) (.inl ⟨rfl, fun _ _ => rfl⟩) (by assumption) ?_); try simp only [Act.put, List.setIfInBounds_toArray, List.set_cons_zero, List.set_cons_succ]
  (refine wpAnyH_take (i := 3) (oi := ⟨some 69, _, _, _, _, _⟩) rfl (by kernel_rfl) (by kernel_rfl) (by kernel_rfl) (fun _ _ _ h => h) (.inl ⟨rfl, fun _ _ => rfl⟩) (by assumption) ?_); try simp only [Act.put, List.setIfInBounds_toArray, List.set_cons_zero, List.set_cons_succ]
  (refine wpAnyH_take (i := 5) (oi := ⟨some 71, _, _, _, _, _⟩) rfl (by kernel_rfl) (by kernel_rfl) (by kernel_rfl) (fun _ _ _ h => h) (.inl ⟨rfl, fun _ _ => rfl⟩) (by assumption) ?_); try simp only [Act.put, List.setIfInBounds_toArray, List.set_cons_zero, List.set_cons_succ]
  (refine wpAnyH_take (i := 6) (oi := ⟨some 72, _, _, _, _, _⟩) rfl (by kernel_rfl) (by kernel_rfl) (by kernel_rfl) (fun _ _ _ h => h) (.inl ⟨rfl, fun _ _ => rfl⟩) (by assumption) ?_); try simp only [Act.put, List.setIfInBounds_toArray, List.set_cons_zero, List.set_cons_succ]
  (refine wpAnyH_take (i := 7) (oi := ⟨some 73, _, _, _, _, _⟩) rfl (by kernel_rfl) (by kernel_rfl) (by kernel_rfl) (fun _ _ _ h => h) (.inl ⟨rfl, fun _ _ => rfl⟩) (by assumption) ?_); try simp only [Act.put, List.setIfInBounds_toArray, List.set_cons_zero, List.set_cons_succ]
  (refine wpAnyH_take (i := 8) (oi := ⟨some 74, _, _, _, _, _⟩) rfl (by kernel_rfl) (by kernel_rfl) (by kernel_rfl) (fun _ _ _ h => h) (.inl ⟨rfl, fun _ _ => rfl⟩) (by assumption) ?_); try simp only [Act.put, List.setIfInBounds_toArray, List.set_cons_zero, List.set_cons_succ]
  refine wpAnyH_ready (rs := [4]) (by kernel_rfl) (by simp) ?_
  refine AllReadyH.cons (o := ⟨some 70, _, _, _, _, _⟩) rfl (fun K hK => ?_) AllReadyH.nil
  go_simp
  refine (hello_any _ id boot peer A n cp ls hp.out hn (SeenAt.more (SeenAt.below hIu.out hS0) hS0.size)).mono ?_
  rintro e wz ⟨rfl, g⟩
  have hk1 : Below u.heap.size u wz := hS0.trans (g.mono hS0.size)
  clear g hS0
  go_wp2_with fail
  refine hK.out _ _ hk1 (fun hS0 => ?_)
  clear hK K
  try simp only [Act.put, List.setIfInBounds_toArray, List.set_cons_zero, List.set_cons_succ]
  clear hk1
  refine wpAnyH_ready (rs := [9]) (by kernel_rfl) (by simp) ?_
  refine AllReadyH.cons (o := ⟨some 75, _, _, _, _, _⟩) rfl (fun K hK => ?_) AllReadyH.nil
  go_simp
  refine (refHello_any _ id boot peer A n cp ls hp2.out hn (SeenAt.more (SeenAt.below hIu.out hS0) hS0.size)).mono ?_
  rintro e wz ⟨rfl, g⟩
  have hk1 : Below u.heap.size u wz := hS0.trans (g.mono hS0.size)
  clear g hS0
  go_wp2_with fail
  refine hK.out _ _ hk1 (fun hS0 => ?_)
  clear hK K
  try simp only [Act.put, List.setIfInBounds_toArray, List.set_cons_zero, List.set_cons_succ]
  clear hk1
  refine wpAnyH_ready (rs := [10]) (by kernel_rfl) (by simp) ?_
  refine AllReadyH.cons (o := ⟨some 76, _, _, _, _, _⟩) rfl (fun K hK => ?_) AllReadyH.nil
  go_simp
  refine (same05_eq _ _ _ _ _ _ _ _ _ _ _ _).mono ?_
  rintro e wz ⟨rfl, g⟩
  have hk1 : Below u.heap.size u wz := hS0.trans (g.mono hS0.size)
  clear g hS0
  go_wp2_with fail
  refine hK.out _ _ hk1 (fun hS0 => ?_)
  clear hK K
  try simp only [Act.put, List.setIfInBounds_toArray, List.set_cons_zero, List.set_cons_succ]
  clear hk1
  (refine wpAnyH_take (i := 11) (oi := ⟨some 77, _, _, _, _, _⟩) rfl (by kernel_rfl) (by kernel_rfl) (by kernel_rfl) (fun _ _ _ h => h) (.inl ⟨rfl, fun _ _ => rfl⟩) (by assumption) ?_); try simp only [Act.put, List.setIfInBounds_toArray, List.set_cons_zero, List.set_cons_succ]
  (refine wpAnyH_take (i := 12) (oi := ⟨some 78, _, _, _, _, _⟩) rfl (by kernel_rfl) (by kernel_rfl) (by kernel_rfl) (fun _ _ _ h => h) (.inl ⟨rfl, fun _ _ => rfl⟩) (by assumption) ?_); try simp only [Act.put, List.setIfInBounds_toArray, List.set_cons_zero, List.set_cons_succ]
  (refine wpAnyH_take (i := 13) (oi := ⟨some 79, _, _, _, _, _⟩) rfl (by kernel_rfl) (by kernel_rfl) (by kernel_rfl) (fun _ _ _ h => h) (.inl ⟨rfl, fun _ _ => rfl⟩) (by assumption) ?_); try simp only [Act.put, List.setIfInBounds_toArray, List.set_cons_zero, List.set_cons_succ]
  (refine wpAnyH_take (i := 14) (oi := ⟨some 80, _, _, _, _, _⟩) rfl (by kernel_rfl) (by kernel_rfl) (by kernel_rfl) (fun _ _ _ h => h) (.inl ⟨rfl, fun _ _ => rfl⟩) (by assumption) ?_); try simp only [Act.put, List.setIfInBounds_toArray, List.set_cons_zero, List.set_cons_succ]
  (refine wpAnyH_take (i := 15) (oi := ⟨some 81, _, _, _, _, _⟩) rfl (by kernel_rfl) (by kernel_rfl) (by kernel_rfl) (fun _ _ _ h => h) (.inl ⟨rfl, fun W hS => exec_load_list agg_Packet' rfl (hpk.out W hS) rfl rfl⟩) (by assumption) ?_); try simp only [Act.put, List.setIfInBounds_toArray, List.set_cons_zero, List.set_cons_succ]
  (refine wpAnyH_take (i := 17) (oi := ⟨some 83, _, _, _, _, _⟩) rfl (by kernel_rfl) (by kernel_rfl) (by kernel_rfl) (fun _ _ _ h => h) (.inl ⟨rfl, fun _ _ => rfl⟩) (by assumption) ?_); try simp only [Act.put, List.setIfInBounds_toArray, List.set_cons_zero, List.set_cons_succ]
  (refine wpAnyH_take (i := 18) (oi := ⟨some 84, _, _, _, _, _⟩) rfl (by kernel_rfl) (by kernel_rfl) (by kernel_rfl) (fun _ _ _ h => h) (.inl ⟨rfl, fun _ _ => rfl⟩) (by assumption) ?_); try simp only [Act.put, List.setIfInBounds_toArray, List.set_cons_zero, List.set_cons_succ]
  (refine wpAnyH_take (i := 19) (oi := ⟨some 85, _, _, _, _, _⟩) rfl (by kernel_rfl) (by kernel_rfl) (by kernel_rfl) (fun _ _ _ h => h) (.inl ⟨rfl, fun _ _ => rfl⟩) (by assumption) ?_); try simp only [Act.put, List.setIfInBounds_toArray, List.set_cons_zero, List.set_cons_succ]
  (refine wpAnyH_take (i := 20) (oi := ⟨some 86, _, _, _, _, _⟩) rfl (by kernel_rfl) (by kernel_rfl) (by kernel_rfl) (fun _ _ _ h => h) (.inl ⟨rfl, fun W hS => exec_load_list agg_Packet' rfl (hpk.out W hS) rfl rfl⟩) (by assumption) ?_); try simp only [Act.put, List.setIfInBounds_toArray, List.set_cons_zero, List.set_cons_succ]
  refine wpAnyH_ready (rs := [16]) (by kernel_rfl) (by simp) ?_
  refine AllReadyH.cons (o := ⟨some 82, _, _, _, _, _⟩) rfl (fun K hK => ?_) AllReadyH.nil
  go_simp
  refine (welcome_any _ id boot A n cp ls kd src dst bo li ec el A2 n2 c2 hg.out hn (SeenAt.more (SeenAt.below hIu.out hS0) hS0.size)).mono ?_
  rintro e wz ⟨rfl, g⟩
  have hk1 : Below u.heap.size u wz := hS0.trans (g.mono hS0.size)
  clear g hS0
  go_wp2_with fail
  refine hK.out _ _ hk1 (fun hS0 => ?_)
  clear hK K
  try simp only [Act.put, List.setIfInBounds_toArray, List.set_cons_zero, List.set_cons_succ]
  clear hk1
  refine wpAnyH_ready (rs := [21]) (by kernel_rfl) (by simp) ?_
  refine AllReadyH.cons (o := ⟨some 87, _, _, _, _, _⟩) rfl (fun K hK => ?_) AllReadyH.nil
  go_simp
  refine (refWelcome_any _ id boot A n cp ls kd src dst bo li ec el A2 n2 c2 hg2.out hn (SeenAt.more (SeenAt.below hIu.out hS0) hS0.size)).mono ?_
  rintro e wz ⟨rfl, g⟩
  have hk1 : Below u.heap.size u wz := hS0.trans (g.mono hS0.size)
  clear g hS0
  go_wp2_with fail
  refine hK.out _ _ hk1 (fun hS0 => ?_)
  clear hK K
  try simp only [Act.put, List.setIfInBounds_toArray, List.set_cons_zero, List.set_cons_succ]
  clear hk1
  refine wpAnyH_ready (rs := [22]) (by kernel_rfl) (by simp) ?_
  refine AllReadyH.cons (o := ⟨some 88, _, _, _, _, _⟩) rfl (fun K hK => ?_) AllReadyH.nil
  go_simp
  refine (same05_eq _ _ _ _ _ _ _ _ _ _ _ _).mono ?_
  rintro e wz ⟨rfl, g⟩
  have hk1 : Below u.heap.size u wz := hS0.trans (g.mono hS0.size)
  clear g hS0
  go_wp2_with fail
  refine hK.out _ _ hk1 (fun hS0 => ?_)
  clear hK K
  try simp only [Act.put, List.setIfInBounds_toArray, List.set_cons_zero, List.set_cons_succ]
  clear hk1
  (refine wpAnyH_take (i := 23) (oi := ⟨some 89, _, _, _, _, _⟩) rfl (by kernel_rfl) (by kernel_rfl) (by kernel_rfl) (fun _ _ _ h => h) (.inl ⟨rfl, fun _ _ => rfl⟩) (by assumption) ?_); try simp only [Act.put, List.setIfInBounds_toArray, List.set_cons_zero, List.set_cons_succ]
  (refine wpAnyH_take (i := 24) (oi := ⟨some 90, _, _, _, _, _⟩) rfl (by kernel_rfl) (by kernel_rfl) (by kernel_rfl) (fun _ _ _ h => h) (.inl ⟨rfl, fun _ _ => rfl⟩) (by assumption) ?_); try simp only [Act.put, List.setIfInBounds_toArray, List.set_cons_zero, List.set_cons_succ]
  refine wpAnyH_ready (rs := [25]) (by kernel_rfl) (by simp) ?_
  refine AllReadyH.cons (o := ⟨some 91, _, _, _, _, _⟩) rfl (fun K hK => ?_) AllReadyH.nil
  go_simp
  refine (awake14 _).mono ?_
  rintro e wz ⟨rfl, g⟩
  have hk6 : Below u.heap.size u wz := hS0.trans (g.mono hS0.size)
  clear g hS0
  go_wp2_with fail
  refine hK.out _ _ hk6 (fun hS0 => ?_)
  clear hK K
  try simp only [Act.put, List.setIfInBounds_toArray, List.set_cons_zero, List.set_cons_succ]
  (refine wpAnyH_take (i := 26) (oi := ⟨some 92, _, _, _, _, _⟩) rfl (by kernel_rfl) (by kernel_rfl) (by kernel_rfl) (fun _ _ _ h => h) (.inl ⟨rfl, fun _ _ => rfl⟩) (by assumption) ?_); try simp only [Act.put, List.setIfInBounds_toArray, List.set_cons_zero, List.set_cons_succ]
  (refine wpAnyH_take (i := 27) (oi := ⟨some 12, _, _, _, _, _⟩) rfl (by kernel_rfl) (by kernel_rfl) (by kernel_rfl) (fun _ _ _ h => h) (.inl ⟨rfl, fun _ _ => rfl⟩) (by assumption) ?_); try simp only [Act.put, List.setIfInBounds_toArray, List.set_cons_zero, List.set_cons_succ]
  refine wpAnyH_done (by kernel_rfl) ?_ _
  clear hS0
  go_wp2_with fail
  go_ret
  exact ⟨rfl, hbu.trans (hk6.mono hbu.size)⟩

theorem own : ownKnob Try.prog.godebug = none := by kernel_rfl
theorem laidOut : laidOutB Try.prog = true := by kernel_rfl

set_option maxRecDepth 100000 in
theorem lifted (os : Os) (started : os.Started) (H : Type) (enc : TypeId × Value → H) :
    ReturnsInHanded {} Try.checked os 11 .any (Rows.shakeJudgesSpec.pre6 enc Try.prog Try.f11 Rows.shakeJudgesRow.domain false) (Rows.shakeJudgesSpec.post enc Try.prog Try.f11 false true false false) := by
  refine lift_law (C := Try.checked) own started (by kernel_rfl) Try.func11
    (ChangeSpec.witness6 (enc := enc) (C := Try.checked) false ⟨#[], #[.int .i64 0, .slice none 0 0, .slice none 0 0, .int .i64 0, .agg #[.int .i64 0, .int .i64 0, .int .i64 0, .int .i64 0, .int .i64 0, .int .i64 0, .int .i64 0, .slice none 0 0], .int .i64 0], []⟩ 8 (by kernel_rfl) (by kernel_rfl) (by kernel_rfl) (by kernel_rfl))
    laidOut (by kernel_rfl) rfl Try.underlying4 rfl (fun ds h => by match ds, h with | [d0, d1, d2, d3, d4, d5], _ => rfl) ?_
  intro W base args ds p hval0 hA0 hsz
  have hval : ∀ (j : Nat) t v, Try.f11.params[j]? = some t → args[j]? = some v → Value.okWide Try.prog W .any base t v := hval0
  have hA : DataW.TrodAll enc Try.prog W 0 (fun _ => true) true Try.f11.params.toList args.toList ds p := hA0
  rw [Try.params11] at hA hval
  clear hA0 hval0
  obtain ⟨v0, vs0, d0, ds0, p0, q0, hargs, rfl, rfl, h0, r0⟩ := trodAll_cons hA
  obtain ⟨v1, vs1, d1, ds1, p1, q1, rfl, rfl, rfl, h1, r1⟩ := trodAll_cons r0
  obtain ⟨v2, vs2, d2, ds2, p2, q2, rfl, rfl, rfl, h2, r2⟩ := trodAll_cons r1
  obtain ⟨v3, vs3, d3, ds3, p3, q3, rfl, rfl, rfl, h3, r3⟩ := trodAll_cons r2
  obtain ⟨v4, vs4, d4, ds4, p4, q4, rfl, rfl, rfl, h4, r4⟩ := trodAll_cons r3
  obtain ⟨v5, vs5, d5, ds5, p5, q5, rfl, rfl, rfl, h5, r5⟩ := trodAll_cons r4
  obtain ⟨rfl, rfl, rfl⟩ := trodAll_nil r5
  obtain rfl := args_of_toList hargs
  obtain ⟨x0, rfl, _, _, _wf0⟩ := open_int Try.underlying3 (hval 0 3 v0 rfl rfl) h0
  obtain ⟨_a1, _l1, _c1, rfl⟩ := okWide_slice Try.underlying52 (hval 1 52 v1 rfl rfl)
  obtain ⟨_fuel1, hf1⟩ := h1
  obtain ⟨A1, m1, c1, ls1, hcs1, hm1, hc1, hI1, hw1⟩ := (open_seens Try.underlying52 Try.underlying60 (by kernel_rfl) rfl rfl rfl rfl (by kernel_rfl) (by kernel_rfl) (by kernel_rfl) (by kernel_rfl) (by kernel_rfl) (by kernel_rfl) (by kernel_rfl) (by kernel_rfl)) hf1
  simp only [Value.cells, List.cons.injEq, Value.slice.injEq, and_true] at hcs1
  obtain ⟨rfl, rfl, rfl⟩ := hcs1
  obtain ⟨_a2, _l2, _c2, rfl⟩ := okWide_slice Try.underlying79 (hval 2 79 v2 rfl rfl)
  obtain ⟨_fuel2, hf2⟩ := h2
  obtain ⟨A2, m2, c2, vs2_, hcs2, hm2, hc2, hI2, hv2⟩ := open_halves hf2
  simp only [Value.cells, List.cons.injEq, Value.slice.injEq, and_true] at hcs2
  obtain ⟨rfl, rfl, rfl⟩ := hcs2
  obtain ⟨x3, rfl, _, _, _wf3⟩ := open_int Try.underlying2 (hval 3 2 v3 rfl rfl) h3
  obtain ⟨_vs4, rfl, _⟩ := okWide_struct Try.underlying71 (hval 4 71 v4 rfl rfl)
  obtain ⟨_fuel4, hf4⟩ := h4
  obtain ⟨kd4, src4, dst4, bo4, li4, ec4, el4, A4, m4, c4, hcs4, hm4, hc4, hI4⟩ := open_packet hf4
  simp only [Value.cells] at hcs4
  obtain rfl := args_of_toList hcs4
  obtain ⟨x5, rfl, _, _, _wf5⟩ := open_int Try.underlying3 (hval 5 3 v5 rfl rfl) h5
  exact walk x0 x3 x5 _ _ _ ls1 _ _ _ vs2_ _ _ _ _ _ _ _ _ _ _ W (by unfold maxLen at hm1; omega) hI1 hI4 hm4 (by unfold maxLen at hm2; omega) hI2 hv2

theorem proved : Rows.ShakeJudgesSaid :=
  OpenClaim.holds_of_wide 11 Try.f11 rfl rfl rfl rfl rfl rfl rfl ⟨rfl, rfl, rfl, rfl, rfl⟩ rfl rfl rfl rfl rfl (by kernel_rfl) Try.func11 (by kernel_rfl)
    (of_decide_eq_true (by kernel_rfl)) (by unfold Func.isWrapper; first | (rw [if_pos (by decide +kernel)]; kernel_rfl) | (rw [if_neg (by decide +kernel)]; exact ⟨rfl, rfl⟩))
    (fun os started H enc _ => lifted os started H enc)
#print axioms proved

end judges
end Go.Proofs.Ytkbcnapfcojekaa
