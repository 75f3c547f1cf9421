/-
  Layer 10: the statement HalfKeeps: Put and Drop leave the other half-edges. Every input; no condition.
-/
import Derived.Test.YtogkcokgcoookaaOpenWide
import Derived.Test.YtogkcokgcoookaaHalfV
import Derived.Test.YtogkcokgcoookaaHalfQ
namespace Go.Proofs.Ytogkcokgcoookaa
open Go.ChangeShapes Go.WideShapes Go.ChangeAt Go.RowKit Go.Ed Go.Joins

theorem hs_map' (vs : List HV) : hs vs = vs.map HV.h := rfl
namespace lawkeeps
set_option maxRecDepth 100000 in
set_option maxHeartbeats 8000000 in
theorem walk (id : Int) (A : Option Addr) (n c : Nat) (vs : List HV) (V : HV) (w : World) (hn : n * 64 ≤ 140737488355328) (hI : HalvesAt w w.heap.size A n vs) (hv : ∀ v ∈ vs, ShortW v) (hV : ShortW V) (hVA : V.At w w.heap.size) :
    Calls Try.prog 6 #[.int .i64 id, .slice A n c, V.val] w fun e w' => e = .returned (.bool true) ∧ Below w.heap.size w w' := by
  obtain ⟨⟨p, bo, li, ls, pe, mi⟩, Al, cl⟩ := V
  simp only [HV.val]
  obtain ⟨f, hf⟩ : ∃ f, fitsH id (vs.map HV.h) = f := ⟨_, rfl⟩
  obtain ⟨f2, hf2⟩ : ∃ f, fitH id ⟨p, bo, li, ls, pe, mi⟩ = f := ⟨_, rfl⟩
  replace hf := Lib.hid hf
  replace hf2 := Lib.hid hf2
  have hVl := Lib.hid hVA.2
  replace hV := Lib.hid hV
  replace hv := Lib.hid hv
  have hll := Lib.hid hI.len
  clear hVA
  obtain ⟨g, hg⟩ : ∃ g, g = w.heap.size := ⟨_, rfl⟩
  go_enter Try.func6, Try.ntmps6
  go_wp2_with fail
  have hb : Below w.heap.size w (w.alloc (.cells #[.int .i64 p, .int .i64 bo, .int .i64 li, .slice Al ls.length cl, .bool pe, .int .i64 mi] 24)) := (Below.refl _ w).alloc (Nat.le_refl _) _
  have hB : Blk (w.alloc (.cells #[.int .i64 p, .int .i64 bo, .int .i64 li, .slice Al ls.length cl, .bool pe, .int .i64 mi] 24)) g 24 #[.int .i64 p, .int .i64 bo, .int .i64 li, .slice Al ls.length cl, .bool pe, .int .i64 mi] := by rw [hg]; exact Blk.new _ _ _
  generalize w.alloc (.cells #[.int .i64 p, .int .i64 bo, .int .i64 li, .slice Al ls.length cl, .bool pe, .int .i64 mi] 24) = W0 at *
  rw [← hg]
  clear hg
  refine (refFits10_any _ id A n c vs (by omega) ((hI.below hb).more hb.size) (fun v h => (hv.out v h).1)).mono ?_
  rw [hf.out]
  rintro e w1 ⟨rfl, h1⟩
  replace hb := hb.trans (h1.mono hb.size)
  replace hB := hB.below h1 hB.lt
  clear h1
  cases f
  · go_wp2_with fail
    refine (awake10 _).mono ?_
    rintro e w9 ⟨rfl, h9⟩
    go_wp2_with fail
    go_ret
    exact ⟨rfl, hb.trans (h9.mono hb.size)⟩
  obtain ⟨k0, k1, k2, k3, k4, k5⟩ := cells6 hB
  go_wp2_with fail
  clear k0 k1 k2 k3 k4 k5
  refine (refFit10_any _ id ⟨p, bo, li, ls, pe, mi⟩ Al cl (Reads.more (Reads.below hVl.out hb) hb.size) hV.out.1.1 hV.out.1.2).mono ?_
  rw [hf2.out]
  rintro e w2 ⟨rfl, h2⟩
  replace hb := hb.trans (h2.mono hb.size)
  replace hB := hB.below h2 hB.lt
  clear h2
  cases f2
  · go_wp2_with fail
    refine (awake10 _).mono ?_
    rintro e w9 ⟨rfl, h9⟩
    go_wp2_with fail
    go_ret
    exact ⟨rfl, hb.trans (h9.mono hb.size)⟩
  have hfits := Lib.hid (fitsH_iff.1 hf.out)
  have hsh := Lib.hid (hs_short hf.out)
  have hpe := Lib.hid (fit_peer hf2.out)
  have hfew := hs_few hf.out
  have hn16 : n ≤ 16 := by rw [← hll.out]; exact hfew
  clear hfew
  obtain ⟨k0, k1, k2, k3, k4, k5⟩ := cells6 hB
  go_wp2_with fail
  clear k0 k1 k2 k3 k4 k5
  have hBW2 := hb.size
  refine (put10_any _ A n c vs p bo li ls Al cl pe mi (by omega) ((hI.below hb).more hb.size) hfits.out.2.2 hsh.out hpe.out.1 hV.out.2 (Reads.more (Reads.below hVl.out hb) hb.size)).mono ?_
  rintro e w3 ⟨A7, n7, c7, us, rfl, hus, hP, h3⟩
  replace hb := hb.trans (h3.mono hb.size)
  replace hB := hB.below h3 hB.lt
  clear h3
  have hfu : fitsH id (us.map HV.h) = true := by rw [hus]; exact fits_put hf.out hf2.out
  have hfitu := Lib.hid (fitsH_iff.1 hfu)
  have hshu := Lib.hid (hs_short hfu)
  have hn7 : n7 ≤ 16 := by rw [← hP.1]; exact hs_few hfu
  have hl7 := Lib.hid hP.1
  replace hus := Lib.hid hus
  replace hfu := Lib.hid hfu
  obtain ⟨k0, k1, k2, k3, k4, k5⟩ := cells6 hB
  go_wp2_with fail
  clear k0 k1 k2 k3 k4 k5
  refine (find10_any _ A7 n7 c7 us p (by omega) hP.halves hfitu.out.2.2 (fun v h => (hshu.out v h).1) (by have h : 0 ≤ p ∧ p < 16 := hpe.out.1; omega) (fun v h => (hshu.out v h).2)).mono ?_
  rw [hus.out, find_put (h := ⟨p, bo, li, ls, pe, mi⟩) hfits.out.2.2]
  simp only [Found, Option.getD_some, Option.isSome_some, HV.val]
  rintro e w4 ⟨A8, c8, rfl, hc8, hown8, h4⟩
  replace hb := hb.trans (h4.mono hb.size)
  replace hB := hB.below h4 hB.lt
  replace hP := hP.below h4
  clear h4
  have hX : OwnLs w4 0 ⟨⟨p, bo, li, ls, pe, mi⟩, A8, c8⟩ := ⟨hc8, World.ownsRow.mono hown8 (Nat.zero_le _)⟩
  have hXL := Reads.more (Reads.below (Reads.of_own hX.2) ((Below.refl _ w4).alloc (Nat.le_refl _) (.cells #[.int .i64 p, .int .i64 bo, .int .i64 li, .slice A8 ls.length c8, .bool pe, .int .i64 mi] 24))) (by simp : w4.heap.size ≤ (w4.alloc (.cells #[.int .i64 p, .int .i64 bo, .int .i64 li, .slice A8 ls.length c8, .bool pe, .int .i64 mi] 24)).heap.size)
  have hXB : Blk (w4.alloc (.cells #[.int .i64 p, .int .i64 bo, .int .i64 li, .slice A8 ls.length c8, .bool pe, .int .i64 mi] 24)) w4.heap.size 24 #[.int .i64 p, .int .i64 bo, .int .i64 li, .slice A8 ls.length c8, .bool pe, .int .i64 mi] := Blk.new _ _ _
  replace hP := hP.below ((Below.refl _ _).alloc (Nat.le_refl _) (.cells #[.int .i64 p, .int .i64 bo, .int .i64 li, .slice A8 ls.length c8, .bool pe, .int .i64 mi] 24))
  replace hB := hB.alloc (.cells #[.int .i64 p, .int .i64 bo, .int .i64 li, .slice A8 ls.length c8, .bool pe, .int .i64 mi] 24)
  replace hb := hb.alloc hb.size (.cells #[.int .i64 p, .int .i64 bo, .int .i64 li, .slice A8 ls.length c8, .bool pe, .int .i64 mi] 24)
  clear hX hown8 hc8
  obtain ⟨k0, k1, k2, k3, k4, k5⟩ := cells6 hB
  obtain ⟨m0, m1, m2, m3, m4, m5⟩ := cells6 hXB
  go_wp2_with fail
  clear k0 k1 k2 k3 k4 k5 m0 m1 m2 m3 m4 m5
  generalize w4.alloc (.cells #[.int .i64 p, .int .i64 bo, .int .i64 li, .slice A8 ls.length c8, .bool pe, .int .i64 mi] 24) = U4 at *
  generalize w4.heap.size = g8 at *
  refine (sameOne_any _ ⟨⟨p, bo, li, ls, pe, mi⟩, A8, c8⟩ ⟨⟨p, bo, li, ls, pe, mi⟩, Al, cl⟩ hV.out.1.1 hXL (Reads.more (Reads.below hVl.out hb) hb.size)).mono ?_
  rw [show sameH (⟨p, bo, li, ls, pe, mi⟩ : Half) ⟨p, bo, li, ls, pe, mi⟩ = true from (sameH_iff _ _).2 rfl]
  rintro e w5 ⟨rfl, h5⟩
  clear hXL hXB
  replace hb := hb.trans (h5.mono hb.size)
  replace hB := hB.below h5 hB.lt
  replace hP := hP.below h5
  clear h5
  go_wp2_with fail
  refine (refFits10_any _ id A7 n7 c7 us (by omega) hP.halves (hs_shorts hfu.out)).mono ?_
  rw [hfu.out]
  rintro e w6 ⟨rfl, h6⟩
  replace hb := hb.trans (h6.mono hb.size)
  replace hB := hB.below h6 hB.lt
  replace hP := hP.below h6
  clear h6
  go_wp2_with fail
  go_loopw [10] (fun i wr => ∃ k : Nat, k ≤ n ∧ i = .int .i64 k ∧ Below w6.heap.size w6 wr) (fun i _ => n - (intOf i).toNat)
  case atStart => exact ⟨0, Nat.zero_le _, rfl, Below.refl _ _⟩
  case round =>
    obtain ⟨k, hk, rfl, hbr⟩ := hrel
    by_cases hlt : k < n
    · have hlt' : (k : Int) < (n : Int) := by omega
      have hkl : k < vs.length := by have := hll.out; omega
      have hbw := hb.trans (hbr.mono hb.size)
      obtain ⟨b, off, rfl, hbl, hxx⟩ := (hI.below hbw).1.form HV.len (by omega) (by omega)
      have hxc := hxx k hkl
      have hvA := Lib.hid (((hI.2 _ (List.getElem_mem hkl)).below hbw).more hbw.size)
      have hmem : vs[k].h ∈ vs.map HV.h := List.mem_map.2 ⟨_, List.getElem_mem hkl, rfl⟩
      have hshx := hsh.out _ (List.getElem_mem hkl)
      have hshv := (hv.out _ (List.getElem_mem hkl)).1.1
      obtain ⟨⟨⟨q, qb, ql, qs, qp, qm⟩, Aq, cq⟩, hvi⟩ : ∃ v, vs[k] = v := ⟨_, rfl⟩
      rw [hvi] at hxc hmem hshx hshv
      have hvA2 := hvA.out
      rw [hvi] at hvA2
      simp only [] at hmem hshx hshv
      clear hvA hxx
      have q0 := hxc 0 _ rfl
      simp only [Nat.add_zero] at q0
      have hbk := (hB.below hbr hB.lt).cell 0
      simp only [List.getElem?_toArray, List.getElem?_cons_zero] at hbk
      replace hvi := Lib.hid hvi
      replace hxc := Lib.hid hxc
      replace hmem := Lib.hid hmem
      have hblr : b < wr.heap.size := by have := hbw.size; omega
      have hglr : g < wr.heap.size := by have := hB.lt; have := hbr.size; omega
      go_wp2_with fail
      refine wp_region_held_drew (S := fun W => Below wr.heap.size wr W) (by kernel_rfl) ((Below.refl _ _).drew) (fun hS0 => ?_)
      by_cases hqp : q = p
      · (refine wpAnyH_take (i := 0) (oi := ⟨some 58, _, _, _, _, _⟩) rfl (by kernel_rfl) (by kernel_rfl) (by kernel_rfl) (fun _ _ _ h => h) (.inl ⟨rfl, fun _ _ => rfl⟩) (by assumption) ?_); try simp only [Act.put, List.setIfInBounds_toArray, List.set_cons_zero, List.set_cons_succ]
        (refine wpAnyH_take (i := 1) (oi := ⟨some 59, _, _, _, _, _⟩) rfl (by kernel_rfl) (by kernel_rfl) (by kernel_rfl) (fun _ _ _ h => h) (.inl ⟨rfl, fun _ _ => rfl⟩) (by assumption) ?_); try simp only [Act.put, List.setIfInBounds_toArray, List.set_cons_zero, List.set_cons_succ]
        (refine wpAnyH_take (i := 2) (oi := ⟨some 60, _, _, _, _, _⟩) rfl (by kernel_rfl) (by kernel_rfl) (by kernel_rfl) (fun _ _ _ h => h) (.inl ⟨rfl, fun W hS => by skip; go_simp; try rfl⟩) (by assumption) ?_); try simp only [Act.put, List.setIfInBounds_toArray, List.set_cons_zero, List.set_cons_succ]
        (refine wpAnyH_take (i := 3) (oi := ⟨some 61, _, _, _, _, _⟩) rfl (by kernel_rfl) (by kernel_rfl) (by kernel_rfl) (fun _ _ _ h => h) (.inl ⟨rfl, fun _ _ => rfl⟩) (by assumption) ?_); try simp only [Act.put, List.setIfInBounds_toArray, List.set_cons_zero, List.set_cons_succ]
        (refine wpAnyH_take (i := 4) (oi := ⟨some 62, _, _, _, _, _⟩) rfl (by kernel_rfl) (by kernel_rfl) (by kernel_rfl) (fun _ _ _ h => h) (.inl ⟨rfl, fun W hS => by (have c0 := (hS.cell (p := ⟨b, off + k * 6, none⟩) hblr).trans q0; have c1 := (hS.cell (p := ⟨g, 0, none⟩) hglr).trans hbk); go_simp; try rfl⟩) (by assumption) ?_); try simp only [Act.put, List.setIfInBounds_toArray, List.set_cons_zero, List.set_cons_succ]
        (refine wpAnyH_take (i := 5) (oi := ⟨some 63, _, _, _, _, _⟩) rfl (by kernel_rfl) (by kernel_rfl) (by kernel_rfl) (fun _ _ _ h => h) (.inl ⟨rfl, fun _ _ => rfl⟩) (by assumption) ?_); try simp only [Act.put, List.setIfInBounds_toArray, List.set_cons_zero, List.set_cons_succ]
        (refine wpAnyH_take (i := 6) (oi := ⟨some 64, _, _, _, _, _⟩) rfl (by kernel_rfl) (by kernel_rfl) (by kernel_rfl) (fun _ _ _ h => h) (.inl ⟨rfl, fun W hS => by (have c0 := (hS.cell (p := ⟨b, off + k * 6, none⟩) hblr).trans q0; have c1 := (hS.cell (p := ⟨g, 0, none⟩) hglr).trans hbk); go_simp; try rfl⟩) (by assumption) ?_); try simp only [Act.put, List.setIfInBounds_toArray, List.set_cons_zero, List.set_cons_succ]
        (refine wpAnyH_take (i := 7) (oi := ⟨some 65, _, _, _, _, _⟩) (v := .bool true) rfl (by kernel_rfl) (by kernel_rfl) (by kernel_rfl) (fun _ _ _ h => h) (.inl ⟨rfl, fun W hS => by go_simp; all_goals (try simp [*]); all_goals (try omega)⟩) (by assumption) ?_); try simp only [Act.put, List.setIfInBounds_toArray, List.set_cons_zero, List.set_cons_succ]
        refine wpAnyH_done (by kernel_rfl) ?_ _
        go_wp2_with fail
        go_roundw
        case rel => exact ⟨k + 1, by omega, by go_num, hbr.trans (hS0.mono hbr.size)⟩
        case measure => simp [intOf]; omega
      · (refine wpAnyH_take (i := 0) (oi := ⟨some 58, _, _, _, _, _⟩) rfl (by kernel_rfl) (by kernel_rfl) (by kernel_rfl) (fun _ _ _ h => h) (.inl ⟨rfl, fun _ _ => rfl⟩) (by assumption) ?_); try simp only [Act.put, List.setIfInBounds_toArray, List.set_cons_zero, List.set_cons_succ]
        (refine wpAnyH_take (i := 1) (oi := ⟨some 59, _, _, _, _, _⟩) rfl (by kernel_rfl) (by kernel_rfl) (by kernel_rfl) (fun _ _ _ h => h) (.inl ⟨rfl, fun _ _ => rfl⟩) (by assumption) ?_); try simp only [Act.put, List.setIfInBounds_toArray, List.set_cons_zero, List.set_cons_succ]
        (refine wpAnyH_take (i := 2) (oi := ⟨some 60, _, _, _, _, _⟩) rfl (by kernel_rfl) (by kernel_rfl) (by kernel_rfl) (fun _ _ _ h => h) (.inl ⟨rfl, fun W hS => by skip; go_simp; try rfl⟩) (by assumption) ?_); try simp only [Act.put, List.setIfInBounds_toArray, List.set_cons_zero, List.set_cons_succ]
        (refine wpAnyH_take (i := 3) (oi := ⟨some 61, _, _, _, _, _⟩) rfl (by kernel_rfl) (by kernel_rfl) (by kernel_rfl) (fun _ _ _ h => h) (.inl ⟨rfl, fun _ _ => rfl⟩) (by assumption) ?_); try simp only [Act.put, List.setIfInBounds_toArray, List.set_cons_zero, List.set_cons_succ]
        (refine wpAnyH_take (i := 4) (oi := ⟨some 62, _, _, _, _, _⟩) rfl (by kernel_rfl) (by kernel_rfl) (by kernel_rfl) (fun _ _ _ h => h) (.inl ⟨rfl, fun W hS => by (have c0 := (hS.cell (p := ⟨b, off + k * 6, none⟩) hblr).trans q0; have c1 := (hS.cell (p := ⟨g, 0, none⟩) hglr).trans hbk); go_simp; try rfl⟩) (by assumption) ?_); try simp only [Act.put, List.setIfInBounds_toArray, List.set_cons_zero, List.set_cons_succ]
        (refine wpAnyH_take (i := 5) (oi := ⟨some 63, _, _, _, _, _⟩) rfl (by kernel_rfl) (by kernel_rfl) (by kernel_rfl) (fun _ _ _ h => h) (.inl ⟨rfl, fun _ _ => rfl⟩) (by assumption) ?_); try simp only [Act.put, List.setIfInBounds_toArray, List.set_cons_zero, List.set_cons_succ]
        (refine wpAnyH_take (i := 6) (oi := ⟨some 64, _, _, _, _, _⟩) rfl (by kernel_rfl) (by kernel_rfl) (by kernel_rfl) (fun _ _ _ h => h) (.inl ⟨rfl, fun W hS => by (have c0 := (hS.cell (p := ⟨b, off + k * 6, none⟩) hblr).trans q0; have c1 := (hS.cell (p := ⟨g, 0, none⟩) hglr).trans hbk); go_simp; try rfl⟩) (by assumption) ?_); try simp only [Act.put, List.setIfInBounds_toArray, List.set_cons_zero, List.set_cons_succ]
        (refine wpAnyH_take (i := 7) (oi := ⟨some 65, _, _, _, _, _⟩) (v := .bool false) rfl (by kernel_rfl) (by kernel_rfl) (by kernel_rfl) (fun _ _ _ h => h) (.inl ⟨rfl, fun W hS => by go_simp; all_goals (try simp [*]); all_goals (try omega)⟩) (by assumption) ?_); try simp only [Act.put, List.setIfInBounds_toArray, List.set_cons_zero, List.set_cons_succ]
        refine wpAnyH_done (by kernel_rfl) ?_ _
        have hbz := hbr.trans (hS0.mono hbr.size)
        have hPz := hP.below hbz
        have q0' := (hS0.cell (p := ⟨b, off + k * 6, none⟩) hblr).trans q0
        have hfo := find_put_other (h := ⟨p, bo, li, ls, pe, mi⟩) hfits.out.2.2 hmem.out hqp
        replace hqp := Lib.hid hqp
        go_wp2_with fail
        refine (find10_any _ A7 n7 c7 us q (by omega) hPz.halves hfitu.out.2.2 (fun v h => (hshu.out v h).1) (by have h : 0 ≤ q ∧ q < 16 := hshx.1; omega) (fun v h => (hshu.out v h).2)).mono ?_
        rw [hus.out, hfo]
        simp only [Found, Option.getD_some, Option.isSome_some, HV.val]
        rintro e w8 ⟨A9, c9, rfl, hc9, hown9, h8⟩
        have hr8 : Below wr.heap.size wr w8 := hS0.trans (h8.mono hS0.size)
        have hX9 := Reads.more (Reads.below (Reads.of_own hown9) ((Below.refl _ w8).alloc (Nat.le_refl _) (.cells #[.int .i64 q, .int .i64 qb, .int .i64 ql, .slice A9 qs.length c9, .bool qp, .int .i64 qm] 24))) (by simp : w8.heap.size ≤ (w8.alloc (.cells #[.int .i64 q, .int .i64 qb, .int .i64 ql, .slice A9 qs.length c9, .bool qp, .int .i64 qm] 24)).heap.size)
        have hN9 : Blk (w8.alloc (.cells #[.int .i64 q, .int .i64 qb, .int .i64 ql, .slice A9 qs.length c9, .bool qp, .int .i64 qm] 24)) w8.heap.size 24 #[.int .i64 q, .int .i64 qb, .int .i64 ql, .slice A9 qs.length c9, .bool qp, .int .i64 qm] := Blk.new _ _ _
        have hr9 := hr8.alloc hr8.size (.cells #[.int .i64 q, .int .i64 qb, .int .i64 ql, .slice A9 qs.length c9, .bool qp, .int .i64 qm] 24)
        clear hown9 h8 hr8 hS0 hPz hbz hfo q0 q0' hbk
        go_wp2_with fail
        generalize w8.alloc (.cells #[.int .i64 q, .int .i64 qb, .int .i64 ql, .slice A9 qs.length c9, .bool qp, .int .i64 qm] 24) = U9 at *
        generalize w8.heap.size = g9 at *
        have hg9 := hN9.lt
        have hld : Hid (∀ W, Below U9.heap.size U9 W → ∀ j v, [Value.int .i64 q, .int .i64 qb, .int .i64 ql, .slice A9 qs.length c9, .bool qp, .int .i64 qm][j]? = some v → W.cell? ⟨g9, 0 + j, none⟩ = some v) := Lib.hid (fun W hW j v hv => by
          rw [Nat.zero_add, (hN9.below hW hg9).cell]; simpa using hv)
        have hld2 : Hid (∀ W, Below U9.heap.size U9 W → ∀ j v, [Value.int .i64 q, .int .i64 qb, .int .i64 ql, .slice Aq qs.length cq, .bool qp, .int .i64 qm][j]? = some v → W.cell? ⟨b, off + k * 6 + j, none⟩ = some v) := Lib.hid (fun W hW j v hv =>
          ((hr9.trans (hW.mono hr9.size)).cell (p := ⟨b, off + k * 6 + j, none⟩) hblr).trans (hxc.out j v hv))
        clear hN9
        refine wp_region_held_drew (S := fun W => Below U9.heap.size U9 W) (by kernel_rfl) ((Below.refl _ _).drew) (fun hS0 => ?_)
        (refine wpAnyH_take (i := 0) (oi := ⟨some 76, _, _, _, _, _⟩) rfl (by kernel_rfl) (by kernel_rfl) (by kernel_rfl) (fun _ _ _ h => h) (.inl ⟨rfl, fun _ _ => rfl⟩) (by assumption) ?_); try simp only [Act.put, List.setIfInBounds_toArray, List.set_cons_zero, List.set_cons_succ]
        (refine wpAnyH_take (i := 1) (oi := ⟨some 77, _, _, _, _, _⟩) rfl (by kernel_rfl) (by kernel_rfl) (by kernel_rfl) (fun _ _ _ h => h) (.inl ⟨rfl, fun _ _ => rfl⟩) (by assumption) ?_); try simp only [Act.put, List.setIfInBounds_toArray, List.set_cons_zero, List.set_cons_succ]
        (refine wpAnyH_take (i := 2) (oi := ⟨some 78, _, _, _, _, _⟩) rfl (by kernel_rfl) (by kernel_rfl) (by kernel_rfl) (fun _ _ _ h => h) (.inl ⟨rfl, fun _ _ => rfl⟩) (by assumption) ?_); try simp only [Act.put, List.setIfInBounds_toArray, List.set_cons_zero, List.set_cons_succ]
        (refine wpAnyH_take (i := 3) (oi := ⟨some 79, _, _, _, _, _⟩) rfl (by kernel_rfl) (by kernel_rfl) (by kernel_rfl) (fun _ _ _ h => h) (.inl ⟨rfl, fun W hS => exec_load_list agg_Half rfl (hld.out W hS) rfl rfl⟩) (by assumption) ?_); try simp only [Act.put, List.setIfInBounds_toArray, List.set_cons_zero, List.set_cons_succ]
        (refine wpAnyH_take (i := 4) (oi := ⟨some 80, _, _, _, _, _⟩) rfl (by kernel_rfl) (by kernel_rfl) (by kernel_rfl) (fun _ _ _ h => h) (.inl ⟨rfl, fun _ _ => rfl⟩) (by assumption) ?_); try simp only [Act.put, List.setIfInBounds_toArray, List.set_cons_zero, List.set_cons_succ]
        (refine wpAnyH_take (i := 5) (oi := ⟨some 81, _, _, _, _, _⟩) rfl (by kernel_rfl) (by kernel_rfl) (by kernel_rfl) (fun _ _ _ h => h) (.inl ⟨rfl, fun _ _ => rfl⟩) (by assumption) ?_); try simp only [Act.put, List.setIfInBounds_toArray, List.set_cons_zero, List.set_cons_succ]
        (refine wpAnyH_take (i := 6) (oi := ⟨some 82, _, _, _, _, _⟩) rfl (by kernel_rfl) (by kernel_rfl) (by kernel_rfl) (fun _ _ _ h => h) (.inl ⟨rfl, fun W hS => by skip; go_simp; try rfl⟩) (by assumption) ?_); try simp only [Act.put, List.setIfInBounds_toArray, List.set_cons_zero, List.set_cons_succ]
        (refine wpAnyH_take (i := 7) (oi := ⟨some 83, _, _, _, _, _⟩) rfl (by kernel_rfl) (by kernel_rfl) (by kernel_rfl) (fun _ _ _ h => h) (.inl ⟨rfl, fun W hS => exec_load_list agg_Half rfl (hld2.out W hS) rfl rfl⟩) (by assumption) ?_); try simp only [Act.put, List.setIfInBounds_toArray, List.set_cons_zero, List.set_cons_succ]
        refine wpAnyH_ready (rs := [8]) (by kernel_rfl) (by simp) ?_
        refine AllReadyH.cons (o := ⟨some 84, _, _, _, _, _⟩) rfl (fun K hK => ?_) AllReadyH.nil
        go_simp
        have hrS := hr9.trans (hS0.mono hr9.size)
        refine (sameOne_any _ ⟨⟨q, qb, ql, qs, qp, qm⟩, A9, c9⟩ ⟨⟨q, qb, ql, qs, qp, qm⟩, Aq, cq⟩ hshv (Reads.more (Reads.below hX9 hS0) hS0.size) (Reads.more (Reads.below hvA2.2 hrS) hrS.size)).mono ?_
        rw [show sameH (⟨q, qb, ql, qs, qp, qm⟩ : Half) ⟨q, qb, ql, qs, qp, qm⟩ = true from (sameH_iff _ _).2 rfl]
        rintro e wA ⟨rfl, hA⟩
        have hkA : Below U9.heap.size U9 wA := hS0.trans (hA.mono hS0.size)
        clear hA hS0 hrS
        go_wp2_with fail
        refine hK.out _ _ hkA (fun hS0 => ?_)
        clear hK K
        try simp only [Act.put, List.setIfInBounds_toArray, List.set_cons_zero, List.set_cons_succ]
        (refine wpAnyH_take (i := 9) (oi := ⟨some 85, _, _, _, _, _⟩) rfl (by kernel_rfl) (by kernel_rfl) (by kernel_rfl) (fun _ _ _ h => h) (.inl ⟨rfl, fun _ _ => rfl⟩) (by assumption) ?_); try simp only [Act.put, List.setIfInBounds_toArray, List.set_cons_zero, List.set_cons_succ]
        (refine wpAnyH_take (i := 10) (oi := ⟨some 86, _, _, _, _, _⟩) rfl (by kernel_rfl) (by kernel_rfl) (by kernel_rfl) (fun _ _ _ h => h) (.inl ⟨rfl, fun _ _ => rfl⟩) (by assumption) ?_); try simp only [Act.put, List.setIfInBounds_toArray, List.set_cons_zero, List.set_cons_succ]
        refine wpAnyH_done (by kernel_rfl) ?_ _
        clear hS0
        go_wp2_with fail
        go_roundw
        case rel => exact ⟨k + 1, by omega, by go_num, hbr.trans ((hr9.trans (hkA.mono hr9.size)).mono hbr.size)⟩
        case measure => simp [intOf]; omega
    · obtain rfl : k = n := by omega
      have hbw := hb.trans (hbr.mono hb.size)
      replace hB := hB.below hbr hB.lt
      replace hP := hP.below hbr
      replace hb := hbw
      clear hbw hbr
      have hk0 := hB.cell 0
      simp only [List.getElem?_toArray, List.getElem?_cons_zero] at hk0
      go_wp2_with fail
      clear hk0
      refine (drop10_any _ A7 n7 c7 us p (by omega) hP.halves hfitu.out.2.2 hshu.out (by have h : 0 ≤ p ∧ p < 16 := hpe.out.1; omega)).mono ?_
      rw [hus.out, has_put (h := ⟨p, bo, li, ls, pe, mi⟩) hfits.out.2.2]
      rintro e wD ⟨AD, nD, cD, ds, rfl, hds, hD, hDb⟩
      have hDl : nD + 1 = n7 := by
        have h1 := drop_put_len (l := vs.map HV.h) (h := ⟨p, bo, li, ls, pe, mi⟩)
        rw [← hus.out] at h1
        have h2 := congrArg List.length hds
        rw [← hus.out] at h2
        simp only [List.length_map] at h1 h2
        have h3 := hD.1
        have h4 := hl7.out
        omega
      replace hds := Lib.hid hds
      replace hb := hb.trans (hDb.mono hb.size)
      replace hB := hB.below hDb hB.lt
      replace hP := hP.below hDb
      clear hDb
      have hk0 := hB.cell 0
      simp only [List.getElem?_toArray, List.getElem?_cons_zero] at hk0
      have ew : IntKind.i64.wrap ((n7 : Int) - 1) = (nD : Int) := by rw [IntKind.wrap_i64]; omega
      go_wp2_with fail
      clear hk0
      refine (find10_any _ _ _ _ vs p (by omega) ((hI.below hb).more hb.size) hfits.out.2.2 (fun v h => (hsh.out v h).1) (by have h : 0 ≤ p ∧ p < 16 := hpe.out.1; omega) (fun v h => (hsh.out v h).2)).mono ?_
      obtain ⟨o, ho⟩ : ∃ o, findH (vs.map HV.h) p = o := ⟨_, rfl⟩
      rw [ho]
      rintro e wE ⟨AE, cE, rfl, hcE, hownE, hE⟩
      have hDE := hD.below hE
      replace hb := hb.trans (hE.mono hb.size)
      replace hB := hB.below hE hB.lt
      replace hP := hP.below hE
      clear hE
      clear hownE hcE hD
      cases o with
      | some x =>
        simp only [HV.val, Option.getD_some, Option.isSome_some]
        go_wp2_with fail
        refine (awake10 _).mono ?_
        rintro e w9 ⟨rfl, h9⟩
        go_wp2_with fail
        go_ret
        exact ⟨rfl, (hb.alloc hb.size _).trans (h9.mono (hb.alloc hb.size _).size)⟩
      | none =>
        have hdn := drop_put_none (h := ⟨p, bo, li, ls, pe, mi⟩) hfits.out.2.2 ho
        have hdd : Hid (sameB sameH (hs ds) (hs vs) = true) := Lib.hid (by rw [sameB_iff sameH_iff, hs_map', hs_map', hds.out, hdn])
        have hdsv : Hid (ds.map HV.h = vs.map HV.h) := Lib.hid (hds.out.trans hdn)
        clear hdn ho
        simp only [HV.val, Option.getD_none, Option.isSome_none, zeroHalf]
        have hDA := hDE.below ((Below.refl _ wE).alloc (Nat.le_refl _) (.cells #[.int .i64 0, .int .i64 0, .int .i64 0, .slice AE ([] : List Line).length cE, .bool false, .int .i64 0] 24))
        replace hb := hb.alloc hb.size (.cells #[.int .i64 0, .int .i64 0, .int .i64 0, .slice AE ([] : List Line).length cE, .bool false, .int .i64 0] 24)
        go_wp2_with fail
        refine (refSame10_any _ AD _ nD _ cD _ ds vs (by omega) hDA.halves ((hI.below hb).more hb.size) (fun v h => by
          have h2 : v.h ∈ ds.map HV.h := List.mem_map.2 ⟨v, h, rfl⟩
          rw [hdsv.out] at h2
          exact (fit_short (hfits.out.2.1 v.h h2)).1)).mono ?_
        rw [hdd.out]
        rintro e wF ⟨rfl, hF⟩
        replace hb := hb.trans (hF.mono hb.size)
        go_wp2_with fail
        refine (awake10 _).mono ?_
        rintro e w9 ⟨rfl, h9⟩
        go_wp2_with fail
        go_ret
        exact ⟨rfl, hb.trans (h9.mono hb.size)⟩

theorem own : ownKnob Try.prog.godebug = none := by kernel_rfl
theorem laidOut : laidOutB Try.prog = true := by kernel_rfl

set_option maxRecDepth 100000 in
theorem lifted (os : Os) (started : os.Started) (H : Type) (enc : TypeId × Value → H) :
    ReturnsInHanded {} Try.checked os 6 .any (Rows.halfKeepsSpec.pre6 enc Try.prog Try.f6 Rows.halfKeepsRow.domain false) (Rows.halfKeepsSpec.post enc Try.prog Try.f6 false true false false) := by
  refine lift_law (C := Try.checked) own started (by kernel_rfl) Try.func6
    (ChangeSpec.witness6 (enc := enc) (C := Try.checked) false ⟨#[], #[.int .i64 0, .slice none 0 0, .agg #[.int .i64 0, .int .i64 0, .int .i64 0, .slice none 0 0, .bool false, .int .i64 0]], []⟩ 8 (by kernel_rfl) (by kernel_rfl) (by kernel_rfl) (by kernel_rfl))
    laidOut (by kernel_rfl) rfl Try.underlying4 rfl (fun ds h => by match ds, h with | [d0, d1, d2], _ => rfl) ?_
  intro W base args ds p hval0 hA0 hsz
  have hval : ∀ (j : Nat) t v, Try.f6.params[j]? = some t → args[j]? = some v → Value.okWide Try.prog W .any base t v := hval0
  have hA : DataW.TrodAll enc Try.prog W 0 (fun _ => true) true Try.f6.params.toList args.toList ds p := hA0
  rw [Try.params6] at hA hval
  clear hA0 hval0
  obtain ⟨v0, vs0, d0, ds0, p0, q0, hargs, rfl, rfl, h0, r0⟩ := trodAll_cons hA
  obtain ⟨v1, vs1, d1, ds1, p1, q1, rfl, rfl, rfl, h1, r1⟩ := trodAll_cons r0
  obtain ⟨v2, vs2, d2, ds2, p2, q2, rfl, rfl, rfl, h2, r2⟩ := trodAll_cons r1
  obtain ⟨rfl, rfl, rfl⟩ := trodAll_nil r2
  obtain rfl := args_of_toList hargs
  obtain ⟨x0, rfl, _, _, _wf0⟩ := open_int Try.underlying3 (hval 0 3 v0 rfl rfl) h0
  have hz1 := weights_at hsz (j := 1) (t := 39) (by kernel_rfl) rfl
  obtain ⟨_a1, _l1, _c1, rfl⟩ := okWide_slice Try.underlying39 (hval 1 39 v1 rfl rfl)
  obtain ⟨_fuel1, hf1⟩ := h1
  obtain ⟨A1, m1, c1, vs1_, hcs1, hm1, hc1, hI1, hv1⟩ := open_halvesw hf1 hz1
  simp only [Value.cells, List.cons.injEq, Value.slice.injEq, and_true] at hcs1
  obtain ⟨rfl, rfl, rfl⟩ := hcs1
  have hz2 := weights_at hsz (j := 2) (t := 24) (by kernel_rfl) rfl
  obtain ⟨_vs2, rfl, _⟩ := okWide_struct Try.underlying24 (hval 2 24 v2 rfl rfl)
  obtain ⟨_fuel2, hf2⟩ := h2
  obtain ⟨V2, hv2, hI2, hcs2⟩ := open_halfw hf2 hz2
  simp only [Value.cells] at hcs2
  obtain rfl := args_of_toList hcs2
  exact walk x0 _ _ _ vs1_ V2 W hm1 hI1 hv1 hv2 hI2

theorem proved : Rows.HalfKeepsSaid :=
  OpenClaim.holds_of_wide 6 Try.f6 rfl rfl rfl rfl rfl rfl rfl ⟨rfl, rfl, rfl, rfl, rfl⟩ rfl rfl rfl rfl rfl (by kernel_rfl) Try.func6 (by kernel_rfl)
    (of_decide_eq_true (by kernel_rfl)) (by unfold Func.isWrapper; first | (rw [if_pos (by decide +kernel)]; kernel_rfl) | (rw [if_neg (by decide +kernel)]; exact ⟨rfl, rfl⟩))
    (fun os started H enc _ => lifted os started H enc)
#print axioms proved

end lawkeeps
end Go.Proofs.Ytogkcokgcoookaa
