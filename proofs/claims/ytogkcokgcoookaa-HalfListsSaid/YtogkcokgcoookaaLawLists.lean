/-
  Layer 10: the statement HalfLists: Find, Drop, Put, Copy, Begin and Peers answer as the document's; what is handed in stays. Every input; no condition.
-/
import Derived.Test.YtogkcokgcoookaaOpenWide
import Derived.Test.YtogkcokgcoookaaHalfV
import Derived.Test.YtogkcokgcoookaaHalfQ
import Derived.Test.YtogkcokgcoookaaHalfR
import Derived.Test.YtogkcokgcoookaaHalfT
import Derived.Test.YtogkcokgcoookaaHalfU
import Derived.Test.YtogkcokgcoookaaHalfE
namespace Go.Proofs.Ytogkcokgcoookaa
open Go.ChangeShapes Go.WideShapes Go.ChangeAt Go.RowKit Go.Ed Go.Joins

theorem int_wf {x : Int} (h : (Lit.int .i64 x).wf = true) : -9223372036854775808 ≤ x ∧ x ≤ 9223372036854775807 := by
  simpa [Lit.wf, IntKind.min, IntKind.max, IntKind.bits, IntKind.signed] using h

namespace lawlists
set_option maxRecDepth 100000 in
set_option maxHeartbeats 16000000 in
theorem walk (id : Int) (A : Option Addr) (n c : Nat) (vs : List HV) (V : HV) (q : Int) (w : World) (hn : n * 64 ≤ 140737488355328) (hI : HalvesAt w w.heap.size A n vs) (hv : ∀ v ∈ vs, ShortW v) (hV : ShortW V) (hVA : V.At w w.heap.size) (hq : -9223372036854775808 ≤ q ∧ q ≤ 9223372036854775807) :
    Calls Try.prog 7 #[.int .i64 id, .slice A n c, V.val, .int .i64 q] w fun e w' => e = .returned (.bool true) ∧ Below w.heap.size w w' := by
  obtain ⟨⟨p, bo, li, ls, pe, mi⟩, Al, cl⟩ := V
  simp only [HV.val]
  obtain ⟨f, hf⟩ : ∃ f, fitsH id (vs.map HV.h) = f := ⟨_, rfl⟩
  obtain ⟨f2, hf2⟩ : ∃ f, fitH id ⟨p, bo, li, ls, pe, mi⟩ = f := ⟨_, rfl⟩
  replace hf := Lib.hid hf
  replace hf2 := Lib.hid hf2
  have hVl := Lib.hid hVA.2
  replace hV := Lib.hid hV
  replace hv := Lib.hid hv
  replace hq := Lib.hid hq
  have hll := Lib.hid hI.len
  clear hVA
  obtain ⟨g, hg⟩ : ∃ g, g = w.heap.size := ⟨_, rfl⟩
  go_enter Try.func7, Try.ntmps7
  go_wp2_with fail
  have hb : Below w.heap.size w (w.alloc (.cells #[.int .i64 p, .int .i64 bo, .int .i64 li, .slice Al ls.length cl, .bool pe, .int .i64 mi] 24)) := (Below.refl _ w).alloc (Nat.le_refl _) _
  have hB : Blk (w.alloc (.cells #[.int .i64 p, .int .i64 bo, .int .i64 li, .slice Al ls.length cl, .bool pe, .int .i64 mi] 24)) g 24 #[.int .i64 p, .int .i64 bo, .int .i64 li, .slice Al ls.length cl, .bool pe, .int .i64 mi] := by rw [hg]; exact Blk.new _ _ _
  generalize w.alloc (.cells #[.int .i64 p, .int .i64 bo, .int .i64 li, .slice Al ls.length cl, .bool pe, .int .i64 mi] 24) = W0 at *
  rw [← hg]
  clear hg
  refine (refFits10_any _ id A n c vs (by omega) ((hI.below hb).more hb.size) (fun v h => (hv.out v h).1)).mono ?_
  rw [hf.out]
  rintro e w1 ⟨rfl, h1⟩
  replace hb := hb.trans (h1.mono hb.size)
  replace hB := hB.below h1 hB.lt
  clear h1
  cases f
  · go_wp2_with fail
    refine (awake10 _).mono ?_
    rintro e w9 ⟨rfl, h9⟩
    go_wp2_with fail
    go_ret
    exact ⟨rfl, hb.trans (h9.mono hb.size)⟩
  obtain ⟨k0, k1, k2, k3, k4, k5⟩ := cells6 hB
  go_wp2_with fail
  clear k0 k1 k2 k3 k4 k5
  refine (refFit10_any _ id ⟨p, bo, li, ls, pe, mi⟩ Al cl (Reads.more (Reads.below hVl.out hb) hb.size) hV.out.1.1 hV.out.1.2).mono ?_
  rw [hf2.out]
  rintro e w2 ⟨rfl, h2⟩
  replace hb := hb.trans (h2.mono hb.size)
  replace hB := hB.below h2 hB.lt
  clear h2
  cases f2
  · go_wp2_with fail
    refine (awake10 _).mono ?_
    rintro e w9 ⟨rfl, h9⟩
    go_wp2_with fail
    go_ret
    exact ⟨rfl, hb.trans (h9.mono hb.size)⟩
  have hfits := Lib.hid (fitsH_iff.1 hf.out)
  have hsh := Lib.hid (hs_short hf.out)
  have hpe := Lib.hid (fit_peer hf2.out)
  have hfew := hs_few hf.out
  have hn16 : n ≤ 16 := by rw [← hll.out]; exact hfew
  clear hfew
  go_wp2_with fail
  -- Copy
  refine (refCopy10_any _ A n c vs (by omega) ((hI.below hb).more hb.size) (fun v h => (hsh.out v h).2)).mono ?_
  rintro e w3 ⟨A9, n9, c9, xs, rfl, hxs, hX, h3⟩
  replace hb := hb.trans (h3.mono hb.size)
  replace hB := hB.below h3 hB.lt
  clear h3
  have hn9 : n9 = n := by
    have := congrArg List.length hxs
    simp only [List.length_map] at this
    rw [← hX.1, this, hll.out]
  subst hn9
  have hfx : Hid (fitsH id (xs.map HV.h) = true) := Lib.hid (by rw [hxs]; exact hf.out)
  have hshx := Lib.hid (hs_short hfx.out)
  have hrx := Lib.hid (fitsH_iff.1 hfx.out).2.2
  replace hxs := Lib.hid hxs
  go_wp2_with fail
  -- Find, both
  obtain ⟨o, ho⟩ : ∃ o, findH (vs.map HV.h) q = o := ⟨_, rfl⟩
  have hol : ((o.getD zeroHalf).lines.length ≤ maxLen) := by
    cases o with
    | none => exact Nat.zero_le _
    | some x => exact (fit_short (hfits.out.2.1 x (List.mem_of_find?_eq_some ho))).1
  refine (find10_any _ A9 n9 c9 xs q (by omega) hX.halves hrx.out (fun v h => (hshx.out v h).1) hq.out (fun v h => (hshx.out v h).2)).mono ?_
  rw [hxs.out, ho]
  obtain ⟨b1, hb1⟩ : ∃ b, o.isSome = b := ⟨_, rfl⟩
  unfold Found
  rw [hb1]
  obtain ⟨⟨fp, fb, fl, fs, fe, fm⟩, hoo⟩ : ∃ x, o.getD zeroHalf = x := ⟨_, rfl⟩
  rw [hoo] at hol ⊢
  simp only [] at hol
  replace ho := Lib.hid ho
  replace hb1 := Lib.hid hb1
  replace hoo := Lib.hid hoo
  replace hol := Lib.hid hol
  rintro e w4 ⟨A10, c10, rfl, hc10, hown10, h4⟩
  simp only [HV.val] at hown10 hc10 ⊢
  replace hb := hb.trans (h4.mono hb.size)
  replace hB := hB.below h4 hB.lt
  replace hX := hX.below h4
  clear h4
  have hL10 := Reads.more (Reads.below (Reads.of_own hown10) ((Below.refl _ w4).alloc (Nat.le_refl _) (.cells #[.int .i64 fp, .int .i64 fb, .int .i64 fl, .slice A10 fs.length c10, .bool fe, .int .i64 fm] 24))) (by simp : w4.heap.size ≤ (w4.alloc (.cells #[.int .i64 fp, .int .i64 fb, .int .i64 fl, .slice A10 fs.length c10, .bool fe, .int .i64 fm] 24)).heap.size)
  have hB10 : Blk (w4.alloc (.cells #[.int .i64 fp, .int .i64 fb, .int .i64 fl, .slice A10 fs.length c10, .bool fe, .int .i64 fm] 24)) w4.heap.size 24 #[.int .i64 fp, .int .i64 fb, .int .i64 fl, .slice A10 fs.length c10, .bool fe, .int .i64 fm] := Blk.new _ _ _
  replace hX := hX.below ((Below.refl _ _).alloc (Nat.le_refl _) (.cells #[.int .i64 fp, .int .i64 fb, .int .i64 fl, .slice A10 fs.length c10, .bool fe, .int .i64 fm] 24))
  replace hB := hB.alloc (.cells #[.int .i64 fp, .int .i64 fb, .int .i64 fl, .slice A10 fs.length c10, .bool fe, .int .i64 fm] 24)
  replace hb := hb.alloc hb.size (.cells #[.int .i64 fp, .int .i64 fb, .int .i64 fl, .slice A10 fs.length c10, .bool fe, .int .i64 fm] 24)
  clear hown10 hc10
  go_wp2_with fail
  generalize w4.alloc (.cells #[.int .i64 fp, .int .i64 fb, .int .i64 fl, .slice A10 fs.length c10, .bool fe, .int .i64 fm] 24) = U4 at *
  generalize w4.heap.size = g10 at *
  refine (refFind10_any _ A n9 c vs q (by omega) ((hI.below hb).more hb.size) (fun v h => (hsh.out v h).2)).mono ?_
  rw [ho.out]
  unfold Found
  rw [hb1.out, hoo.out]
  rintro e w5 ⟨A12, c12, rfl, hc12, hown12, h5⟩
  simp only [HV.val] at hown12 hc12 ⊢
  replace hb := hb.trans (h5.mono hb.size)
  replace hB := hB.below h5 hB.lt
  replace hX := hX.below h5
  have hL12 := Reads.more (Reads.below (Reads.of_own hown12) ((Below.refl _ w5).alloc (Nat.le_refl _) (.cells #[.int .i64 fp, .int .i64 fb, .int .i64 fl, .slice A12 fs.length c12, .bool fe, .int .i64 fm] 24))) (by simp : w5.heap.size ≤ (w5.alloc (.cells #[.int .i64 fp, .int .i64 fb, .int .i64 fl, .slice A12 fs.length c12, .bool fe, .int .i64 fm] 24)).heap.size)
  have hB12 : Blk (w5.alloc (.cells #[.int .i64 fp, .int .i64 fb, .int .i64 fl, .slice A12 fs.length c12, .bool fe, .int .i64 fm] 24)) w5.heap.size 24 #[.int .i64 fp, .int .i64 fb, .int .i64 fl, .slice A12 fs.length c12, .bool fe, .int .i64 fm] := Blk.new _ _ _
  replace hL10 := Reads.more (Reads.below hL10 (h5.alloc h5.size (.cells #[.int .i64 fp, .int .i64 fb, .int .i64 fl, .slice A12 fs.length c12, .bool fe, .int .i64 fm] 24))) (h5.alloc h5.size (.cells #[.int .i64 fp, .int .i64 fb, .int .i64 fl, .slice A12 fs.length c12, .bool fe, .int .i64 fm] 24)).size
  replace hB10 := (hB10.below h5 hB10.lt).alloc (.cells #[.int .i64 fp, .int .i64 fb, .int .i64 fl, .slice A12 fs.length c12, .bool fe, .int .i64 fm] 24)
  clear h5
  replace hX := hX.below ((Below.refl _ _).alloc (Nat.le_refl _) (.cells #[.int .i64 fp, .int .i64 fb, .int .i64 fl, .slice A12 fs.length c12, .bool fe, .int .i64 fm] 24))
  replace hB := hB.alloc (.cells #[.int .i64 fp, .int .i64 fb, .int .i64 fl, .slice A12 fs.length c12, .bool fe, .int .i64 fm] 24)
  replace hb := hb.alloc hb.size (.cells #[.int .i64 fp, .int .i64 fb, .int .i64 fl, .slice A12 fs.length c12, .bool fe, .int .i64 fm] 24)
  clear hown12 hc12
  go_wp2_with fail
  generalize w5.alloc (.cells #[.int .i64 fp, .int .i64 fb, .int .i64 fl, .slice A12 fs.length c12, .bool fe, .int .i64 fm] 24) = U5 at *
  generalize w5.heap.size = g12 at *
  -- Drop, both
  refine (drop10_any _ A9 n9 c9 xs q (by omega) hX.halves hrx.out hshx.out hq.out).mono ?_
  rw [hxs.out]
  obtain ⟨b2, hb2⟩ : ∃ b, hasH (vs.map HV.h) q = b := ⟨_, rfl⟩
  rw [hb2]
  replace hb2 := Lib.hid hb2
  rintro e w6 ⟨A14, n14, c14, ds, rfl, hds, hD, h6⟩
  replace hb := hb.trans (h6.mono hb.size)
  replace hB := hB.below h6 hB.lt
  replace hX := hX.below h6
  replace hL10 := Reads.more (Reads.below hL10 h6) h6.size
  replace hB10 := hB10.below h6 hB10.lt
  replace hL12 := Reads.more (Reads.below hL12 h6) h6.size
  replace hB12 := hB12.below h6 hB12.lt
  clear h6
  replace hds := Lib.hid hds
  have hn14 : n14 ≤ 16 := by
    have h1 := congrArg List.length hds.out
    have h2 := List.length_filter_le (fun x : Half => x.peer != q) (vs.map HV.h)
    rw [← hD.1]
    simp only [List.length_map, dropL] at h1 h2
    have := hll.out
    omega
  go_wp2_with fail
  refine (refDrop10_any _ A n9 c vs q (by omega) ((hI.below hb).more hb.size) (fun v h => (hsh.out v h).2)).mono ?_
  rw [hb2.out]
  rintro e w7 ⟨A16, n16, c16, es, rfl, hes, hE, h7⟩
  replace hb := hb.trans (h7.mono hb.size)
  replace hB := hB.below h7 hB.lt
  replace hX := hX.below h7
  replace hL10 := Reads.more (Reads.below hL10 h7) h7.size
  replace hB10 := hB10.below h7 hB10.lt
  replace hL12 := Reads.more (Reads.below hL12 h7) h7.size
  replace hB12 := hB12.below h7 hB12.lt
  replace hD := hD.below h7
  clear h7
  replace hes := Lib.hid hes
  obtain ⟨k0, k1, k2, k3, k4, k5⟩ := cells6 hB10
  obtain ⟨m0, m1, m2, m3, m4, m5⟩ := cells6 hB12
  go_wp2_with fail
  clear k0 k1 k2 k3 k4 k5 m0 m1 m2 m3 m4 m5
  refine (sameOne_any _ ⟨⟨fp, fb, fl, fs, fe, fm⟩, A10, c10⟩ ⟨⟨fp, fb, fl, fs, fe, fm⟩, A12, c12⟩ hol.out hL10 hL12).mono ?_
  rw [show sameH (⟨fp, fb, fl, fs, fe, fm⟩ : Half) ⟨fp, fb, fl, fs, fe, fm⟩ = true from (sameH_iff _ _).2 rfl]
  rintro e w8 ⟨rfl, h8⟩
  clear hL10 hL12 hB10 hB12
  replace hb := hb.trans (h8.mono hb.size)
  replace hB := hB.below h8 hB.lt
  replace hX := hX.below h8
  replace hD := hD.below h8
  replace hE := hE.below h8
  clear h8
  have hbb1 : (b1 != b1) = false := by simp
  have hbb2 : (b2 != b2) = false := by simp
  go_wp2_with fail
  refine (refSame10_any _ A14 A16 n14 n16 c14 c16 ds es (by omega) hD.halves hE.halves (fun v h => by
    have h2 : v.h ∈ ds.map HV.h := List.mem_map.2 ⟨v, h, rfl⟩
    rw [hds.out] at h2
    exact (fit_short (hfits.out.2.1 v.h (List.mem_filter.1 h2).1)).1)).mono ?_
  rw [show sameB sameH (hs ds) (hs es) = true from by rw [sameB_iff sameH_iff]; exact hds.out.trans hes.out.symm]
  rintro e wA ⟨rfl, hA⟩
  clear hD hE
  replace hb := hb.trans (hA.mono hb.size)
  replace hB := hB.below hA hB.lt
  replace hX := hX.below hA
  clear hA
  obtain ⟨k0, k1, k2, k3, k4, k5⟩ := cells6 hB
  go_wp2_with fail
  clear k0 k1 k2 k3 k4 k5
  -- Put
  refine (put10_any _ A9 n9 c9 xs p bo li ls Al cl pe mi (by omega) hX.halves hrx.out hshx.out hpe.out.1 hV.out.2 (Reads.more (Reads.below hVl.out hb) hb.size)).mono ?_
  rw [hxs.out]
  rintro e wB ⟨A18, n18, c18, ps, rfl, hps, hP, hPb⟩
  obtain ⟨Bp, hBp⟩ : ∃ b, b = wA.heap.size := ⟨_, rfl⟩
  rw [← hBp] at hP
  have hBw : w.heap.size ≤ Bp := by rw [hBp]; exact hb.size
  have hXlt : Bp ≤ wB.heap.size := by rw [hBp]; exact hPb.size
  have hXold : OwnHs wA 0 A9 n9 c9 xs := hX.more (Nat.zero_le _)
  replace hb := hb.trans (hPb.mono hb.size)
  replace hB := hB.below hPb hB.lt
  replace hX := hX.below hPb
  replace hps := Lib.hid hps
  have hlp := Lib.hid hP.1
  have hn18 : n18 ≤ 17 := by
    have h1 := congrArg List.length hps.out
    have h2 := drop_put_len (l := vs.map HV.h) (h := ⟨p, bo, li, ls, pe, mi⟩)
    have h3 := List.length_filter_le (fun x : Half => x.peer != p) (putL (vs.map HV.h) ⟨p, bo, li, ls, pe, mi⟩)
    have h4 : fitsH id (putL (vs.map HV.h) ⟨p, bo, li, ls, pe, mi⟩) = true := fits_put hf.out hf2.out
    rw [← hps.out] at h4
    have := hs_few h4
    rw [← hP.1]
    omega
  have hgl := hB.lt
  have hld : Hid (∀ W, Below wB.heap.size wB W → ∀ j v, [Value.int .i64 p, .int .i64 bo, .int .i64 li, .slice Al ls.length cl, .bool pe, .int .i64 mi][j]? = some v → W.cell? ⟨g, 0 + j, none⟩ = some v) := Lib.hid (fun W hW j v hv => by
    rw [Nat.zero_add, (hB.below hW hgl).cell]; simpa using hv)
  obtain ⟨k0, k1, k2, k3, k4, k5⟩ := cells6 hB
  go_wp2_with fail
  refine wp_region_held_drew (S := fun W => Below wB.heap.size wB W) (by kernel_rfl) ((Below.refl _ _).drew) (fun hS0 => ?_)
  (refine wpAnyH_take (i := 0) (oi := ⟨some 84, _, _, _, _, _⟩) rfl (by kernel_rfl) (by kernel_rfl) (by kernel_rfl) (fun _ _ _ h => h) (.inl ⟨rfl, fun _ _ => rfl⟩) (by assumption) ?_); try simp only [Act.put, List.setIfInBounds_toArray, List.set_cons_zero, List.set_cons_succ]
  (refine wpAnyH_take (i := 1) (oi := ⟨some 85, _, _, _, _, _⟩) rfl (by kernel_rfl) (by kernel_rfl) (by kernel_rfl) (fun _ _ _ h => h) (.inl ⟨rfl, fun _ _ => rfl⟩) (by assumption) ?_); try simp only [Act.put, List.setIfInBounds_toArray, List.set_cons_zero, List.set_cons_succ]
  (refine wpAnyH_take (i := 2) (oi := ⟨some 86, _, _, _, _, _⟩) rfl (by kernel_rfl) (by kernel_rfl) (by kernel_rfl) (fun _ _ _ h => h) (.inl ⟨rfl, fun W hS => exec_load_list agg_Half rfl (hld.out W hS) rfl rfl⟩) (by assumption) ?_); try simp only [Act.put, List.setIfInBounds_toArray, List.set_cons_zero, List.set_cons_succ]
  refine wpAnyH_ready (rs := [3]) (by kernel_rfl) (by simp) ?_
  refine AllReadyH.cons (o := ⟨some 87, _, _, _, _, _⟩) rfl (fun K hK => ?_) AllReadyH.nil
  go_simp
  refine (refPut10_any _ A n9 c vs p bo li ls Al cl pe mi (by omega) ((hI.below (hb.trans (hS0.mono hb.size))).more (hb.trans (hS0.mono hb.size)).size) hfits.out.2.2 (fun v h => (hsh.out v h).2) hV.out.2 (Reads.more (Reads.below hVl.out (hb.trans (hS0.mono hb.size))) (hb.trans (hS0.mono hb.size)).size)).mono ?_
  rintro e wz ⟨Ar, nr, cr, rs, rfl, hrs, hR, gz⟩
  have hk1 : Below wB.heap.size wB wz := hS0.trans (gz.mono hS0.size)
  clear gz hS0
  have hS1 := hk1
  go_wp2_with fail
  refine hK.out _ _ hk1 (fun hS0 => ?_)
  clear hK K
  try simp only [Act.put, List.setIfInBounds_toArray, List.set_cons_zero, List.set_cons_succ]
  refine wpAnyH_ready (rs := [4]) (by kernel_rfl) (by simp) ?_
  refine AllReadyH.cons (o := ⟨some 88, _, _, _, _, _⟩) rfl (fun K hK => ?_) AllReadyH.nil
  go_simp
  refine (refSame10_any _ A18 Ar n18 nr c18 cr ps rs (by omega) (hP.below hS1).halves hR.halves (fun v h => by
    have h2 : v.h ∈ ps.map HV.h := List.mem_map.2 ⟨v, h, rfl⟩
    rw [hps.out] at h2
    exact (fit_short ((fitsH_iff.1 (fits_put hf.out hf2.out)).2.1 v.h h2)).1)).mono ?_
  rw [show sameB sameH (hs ps) (hs rs) = true from by rw [sameB_iff sameH_iff]; exact hps.out.trans hrs.symm]
  clear hR hrs hS0
  rintro e wz2 ⟨rfl, gz⟩
  have hk2 : Below wB.heap.size wB wz2 := hS1.trans (gz.mono hS1.size)
  clear gz hS1 hk1
  have hS1 := hk2
  go_wp2_with fail
  refine hK.out _ _ hk2 (fun hS0 => ?_)
  clear hK K
  try simp only [Act.put, List.setIfInBounds_toArray, List.set_cons_zero, List.set_cons_succ]
  (refine wpAnyH_take (i := 5) (oi := ⟨some 89, _, _, _, _, _⟩) rfl (by kernel_rfl) (by kernel_rfl) (by kernel_rfl) (fun _ _ _ h => h) (.inl ⟨rfl, fun _ _ => rfl⟩) (by assumption) ?_); try simp only [Act.put, List.setIfInBounds_toArray, List.set_cons_zero, List.set_cons_succ]
  (refine wpAnyH_take (i := 6) (oi := ⟨some 90, _, _, _, _, _⟩) rfl (by kernel_rfl) (by kernel_rfl) (by kernel_rfl) (fun _ _ _ h => h) (.inl ⟨rfl, fun _ _ => rfl⟩) (by assumption) ?_); try simp only [Act.put, List.setIfInBounds_toArray, List.set_cons_zero, List.set_cons_succ]
  (refine wpAnyH_take (i := 7) (oi := ⟨some 91, _, _, _, _, _⟩) rfl (by kernel_rfl) (by kernel_rfl) (by kernel_rfl) (fun _ _ _ h => h) (.inl ⟨rfl, fun _ _ => rfl⟩) (by assumption) ?_); try simp only [Act.put, List.setIfInBounds_toArray, List.set_cons_zero, List.set_cons_succ]
  (refine wpAnyH_take (i := 9) (oi := ⟨some 93, _, _, _, _, _⟩) rfl (by kernel_rfl) (by kernel_rfl) (by kernel_rfl) (fun _ _ _ h => h) (.inl ⟨rfl, fun _ _ => rfl⟩) (by assumption) ?_); try simp only [Act.put, List.setIfInBounds_toArray, List.set_cons_zero, List.set_cons_succ]
  refine wpAnyH_ready (rs := [8]) (by kernel_rfl) (by simp) ?_
  refine AllReadyH.cons (o := ⟨some 92, _, _, _, _, _⟩) rfl (fun K hK => ?_) AllReadyH.nil
  go_simp
  clear hS0
  refine (copy10_any _ A9 n9 c9 xs (by omega) (hX.below hS1).halves (fun v h => (hshx.out v h).2)).mono ?_
  rintro e wz3 ⟨Ay, ny, cy, ys, rfl, hys, hY, gz⟩
  have hk1 : Below wB.heap.size wB wz3 := hS1.trans (gz.mono hS1.size)
  clear gz hS1
  have hS1 := hk1
  go_wp2_with fail
  refine hK.out _ _ hk1 (fun hS0 => ?_)
  clear hK K
  try simp only [Act.put, List.setIfInBounds_toArray, List.set_cons_zero, List.set_cons_succ]
  refine wpAnyH_ready (rs := [10]) (by kernel_rfl) (by simp) ?_
  refine AllReadyH.cons (o := ⟨some 94, _, _, _, _, _⟩) rfl (fun K hK => ?_) AllReadyH.nil
  go_simp
  clear hS0 hk2
  have hyn : ny ≤ 16 := by
    have h1 := congrArg List.length hys
    rw [← hY.1]
    have h2 := hX.1
    simp only [List.length_map] at h1
    omega
  refine (refSame10_any _ Ay A ny n9 cy c ys vs (by omega) hY.halves ((hI.below (hb.trans (hS1.mono hb.size))).more (hb.trans (hS1.mono hb.size)).size) (fun v h => by
    have h2 : v.h ∈ ys.map HV.h := List.mem_map.2 ⟨v, h, rfl⟩
    rw [hys, hxs.out] at h2
    exact (fit_short (hfits.out.2.1 v.h h2)).1)).mono ?_
  rw [show sameB sameH (hs ys) (hs vs) = true from by rw [sameB_iff sameH_iff]; exact hys.trans hxs.out]
  clear hY hys hyn
  rintro e wz4 ⟨rfl, gz⟩
  have hk2 : Below wB.heap.size wB wz4 := hS1.trans (gz.mono hS1.size)
  clear gz hS1 hk1
  have hS1 := hk2
  go_wp2_with fail
  refine hK.out _ _ hk2 (fun hS0 => ?_)
  clear hK K
  try simp only [Act.put, List.setIfInBounds_toArray, List.set_cons_zero, List.set_cons_succ]
  (refine wpAnyH_take (i := 11) (oi := ⟨some 95, _, _, _, _, _⟩) rfl (by kernel_rfl) (by kernel_rfl) (by kernel_rfl) (fun _ _ _ h => h) (.inl ⟨rfl, fun _ _ => rfl⟩) (by assumption) ?_); try simp only [Act.put, List.setIfInBounds_toArray, List.set_cons_zero, List.set_cons_succ]
  (refine wpAnyH_take (i := 12) (oi := ⟨some 96, _, _, _, _, _⟩) rfl (by kernel_rfl) (by kernel_rfl) (by kernel_rfl) (fun _ _ _ h => h) (.inl ⟨rfl, fun _ _ => rfl⟩) (by assumption) ?_); try simp only [Act.put, List.setIfInBounds_toArray, List.set_cons_zero, List.set_cons_succ]
  (refine wpAnyH_take (i := 13) (oi := ⟨some 97, _, _, _, _, _⟩) rfl (by kernel_rfl) (by kernel_rfl) (by kernel_rfl) (fun _ _ _ h => h) (.inl ⟨rfl, fun _ _ => rfl⟩) (by assumption) ?_); try simp only [Act.put, List.setIfInBounds_toArray, List.set_cons_zero, List.set_cons_succ]
  (refine wpAnyH_take (i := 14) (oi := ⟨some 98, _, _, _, _, _⟩) rfl (by kernel_rfl) (by kernel_rfl) (by kernel_rfl) (fun _ _ _ h => h) (.inl ⟨rfl, fun _ _ => rfl⟩) (by assumption) ?_); try simp only [Act.put, List.setIfInBounds_toArray, List.set_cons_zero, List.set_cons_succ]
  (refine wpAnyH_take (i := 15) (oi := ⟨some 99, _, _, _, _, _⟩) rfl (by kernel_rfl) (by kernel_rfl) (by kernel_rfl) (fun _ _ _ h => h) (.inl ⟨rfl, fun W hS => by (have c0 := (hS.cell (p := ⟨g, 0, none⟩) hgl).trans k0; have c1 := (hS.cell (p := ⟨g, 1, none⟩) hgl).trans k1; have c2 := (hS.cell (p := ⟨g, 2, none⟩) hgl).trans k2); go_simp; try rfl⟩) (by assumption) ?_); try simp only [Act.put, List.setIfInBounds_toArray, List.set_cons_zero, List.set_cons_succ]
  (refine wpAnyH_take (i := 16) (oi := ⟨some 100, _, _, _, _, _⟩) rfl (by kernel_rfl) (by kernel_rfl) (by kernel_rfl) (fun _ _ _ h => h) (.inl ⟨rfl, fun _ _ => rfl⟩) (by assumption) ?_); try simp only [Act.put, List.setIfInBounds_toArray, List.set_cons_zero, List.set_cons_succ]
  (refine wpAnyH_take (i := 17) (oi := ⟨some 101, _, _, _, _, _⟩) rfl (by kernel_rfl) (by kernel_rfl) (by kernel_rfl) (fun _ _ _ h => h) (.inl ⟨rfl, fun W hS => by (have c0 := (hS.cell (p := ⟨g, 0, none⟩) hgl).trans k0; have c1 := (hS.cell (p := ⟨g, 1, none⟩) hgl).trans k1; have c2 := (hS.cell (p := ⟨g, 2, none⟩) hgl).trans k2); go_simp; try rfl⟩) (by assumption) ?_); try simp only [Act.put, List.setIfInBounds_toArray, List.set_cons_zero, List.set_cons_succ]
  (refine wpAnyH_take (i := 18) (oi := ⟨some 102, _, _, _, _, _⟩) rfl (by kernel_rfl) (by kernel_rfl) (by kernel_rfl) (fun _ _ _ h => h) (.inl ⟨rfl, fun _ _ => rfl⟩) (by assumption) ?_); try simp only [Act.put, List.setIfInBounds_toArray, List.set_cons_zero, List.set_cons_succ]
  (refine wpAnyH_take (i := 19) (oi := ⟨some 103, _, _, _, _, _⟩) rfl (by kernel_rfl) (by kernel_rfl) (by kernel_rfl) (fun _ _ _ h => h) (.inl ⟨rfl, fun W hS => by (have c0 := (hS.cell (p := ⟨g, 0, none⟩) hgl).trans k0; have c1 := (hS.cell (p := ⟨g, 1, none⟩) hgl).trans k1; have c2 := (hS.cell (p := ⟨g, 2, none⟩) hgl).trans k2); go_simp; try rfl⟩) (by assumption) ?_); try simp only [Act.put, List.setIfInBounds_toArray, List.set_cons_zero, List.set_cons_succ]
  (refine wpAnyH_take (i := 21) (oi := ⟨some 105, _, _, _, _, _⟩) rfl (by kernel_rfl) (by kernel_rfl) (by kernel_rfl) (fun _ _ _ h => h) (.inl ⟨rfl, fun _ _ => rfl⟩) (by assumption) ?_); try simp only [Act.put, List.setIfInBounds_toArray, List.set_cons_zero, List.set_cons_succ]
  (refine wpAnyH_take (i := 22) (oi := ⟨some 106, _, _, _, _, _⟩) rfl (by kernel_rfl) (by kernel_rfl) (by kernel_rfl) (fun _ _ _ h => h) (.inl ⟨rfl, fun W hS => by (have c0 := (hS.cell (p := ⟨g, 0, none⟩) hgl).trans k0; have c1 := (hS.cell (p := ⟨g, 1, none⟩) hgl).trans k1; have c2 := (hS.cell (p := ⟨g, 2, none⟩) hgl).trans k2); go_simp; try rfl⟩) (by assumption) ?_); try simp only [Act.put, List.setIfInBounds_toArray, List.set_cons_zero, List.set_cons_succ]
  (refine wpAnyH_take (i := 23) (oi := ⟨some 107, _, _, _, _, _⟩) rfl (by kernel_rfl) (by kernel_rfl) (by kernel_rfl) (fun _ _ _ h => h) (.inl ⟨rfl, fun _ _ => rfl⟩) (by assumption) ?_); try simp only [Act.put, List.setIfInBounds_toArray, List.set_cons_zero, List.set_cons_succ]
  (refine wpAnyH_take (i := 24) (oi := ⟨some 108, _, _, _, _, _⟩) rfl (by kernel_rfl) (by kernel_rfl) (by kernel_rfl) (fun _ _ _ h => h) (.inl ⟨rfl, fun W hS => by (have c0 := (hS.cell (p := ⟨g, 0, none⟩) hgl).trans k0; have c1 := (hS.cell (p := ⟨g, 1, none⟩) hgl).trans k1; have c2 := (hS.cell (p := ⟨g, 2, none⟩) hgl).trans k2); go_simp; try rfl⟩) (by assumption) ?_); try simp only [Act.put, List.setIfInBounds_toArray, List.set_cons_zero, List.set_cons_succ]
  (refine wpAnyH_take (i := 25) (oi := ⟨some 109, _, _, _, _, _⟩) rfl (by kernel_rfl) (by kernel_rfl) (by kernel_rfl) (fun _ _ _ h => h) (.inl ⟨rfl, fun _ _ => rfl⟩) (by assumption) ?_); try simp only [Act.put, List.setIfInBounds_toArray, List.set_cons_zero, List.set_cons_succ]
  (refine wpAnyH_take (i := 26) (oi := ⟨some 110, _, _, _, _, _⟩) rfl (by kernel_rfl) (by kernel_rfl) (by kernel_rfl) (fun _ _ _ h => h) (.inl ⟨rfl, fun W hS => by (have c0 := (hS.cell (p := ⟨g, 0, none⟩) hgl).trans k0; have c1 := (hS.cell (p := ⟨g, 1, none⟩) hgl).trans k1; have c2 := (hS.cell (p := ⟨g, 2, none⟩) hgl).trans k2); go_simp; try rfl⟩) (by assumption) ?_); try simp only [Act.put, List.setIfInBounds_toArray, List.set_cons_zero, List.set_cons_succ]
  refine wpAnyH_ready (rs := [20]) (by kernel_rfl) (by simp) ?_
  refine AllReadyH.cons (o := ⟨some 104, _, _, _, _, _⟩) rfl (fun K hK => ?_) AllReadyH.nil
  go_simp
  clear hS0
  refine (begin10_any _ p bo li).mono ?_
  rintro e wz5 ⟨rfl, gz⟩
  have hk1 : Below wB.heap.size wB wz5 := hS1.trans (gz.mono hS1.size)
  clear gz hS1 hk2
  have hS1 := hk1
  go_wp2_with fail
  refine hK.out _ _ hk1 (fun hS0 => ?_)
  clear hK K
  try simp only [Act.put, List.setIfInBounds_toArray, List.set_cons_zero, List.set_cons_succ]
  refine wpAnyH_ready (rs := [27]) (by kernel_rfl) (by simp) ?_
  refine AllReadyH.cons (o := ⟨some 111, _, _, _, _, _⟩) rfl (fun K hK => ?_) AllReadyH.nil
  go_simp
  clear hS0
  refine (refBegin10_any _ p bo li).mono ?_
  rintro e wz6 ⟨rfl, gz⟩
  have hk2 : Below wB.heap.size wB wz6 := hS1.trans (gz.mono hS1.size)
  clear gz hS1 hk1
  have hS1 := hk2
  go_wp2_with fail
  refine hK.out _ _ hk2 (fun hS0 => ?_)
  clear hK K
  try simp only [Act.put, List.setIfInBounds_toArray, List.set_cons_zero, List.set_cons_succ]
  refine wpAnyH_ready (rs := [28]) (by kernel_rfl) (by simp) ?_
  refine AllReadyH.cons (o := ⟨some 112, _, _, _, _, _⟩) rfl (fun K hK => ?_) AllReadyH.nil
  go_simp
  clear hS0
  refine (sameOne_any _ ⟨⟨p, bo, li, [], false, 0⟩, none, 0⟩ ⟨⟨p, bo, li, [], false, 0⟩, none, 0⟩ (Nat.zero_le _) Reads.none_ Reads.none_).mono ?_
  rw [show sameH (⟨p, bo, li, [], false, 0⟩ : Half) ⟨p, bo, li, [], false, 0⟩ = true from (sameH_iff _ _).2 rfl]
  rintro e wC ⟨rfl, gz⟩
  have hk1 : Below wB.heap.size wB wC := hS1.trans (gz.mono hS1.size)
  clear gz hS1 hk2
  have hS1 := hk1
  go_wp2_with fail
  refine hK.out _ _ hk1 (fun hS0 => ?_)
  clear hK K
  try simp only [Act.put, List.setIfInBounds_toArray, List.set_cons_zero, List.set_cons_succ]
  (refine wpAnyH_take (i := 29) (oi := ⟨some 113, _, _, _, _, _⟩) rfl (by kernel_rfl) (by kernel_rfl) (by kernel_rfl) (fun _ _ _ h => h) (.inl ⟨rfl, fun _ _ => rfl⟩) (by assumption) ?_); try simp only [Act.put, List.setIfInBounds_toArray, List.set_cons_zero, List.set_cons_succ]
  (refine wpAnyH_take (i := 30) (oi := ⟨some 114, _, _, _, _, _⟩) rfl (by kernel_rfl) (by kernel_rfl) (by kernel_rfl) (fun _ _ _ h => h) (.inl ⟨rfl, fun _ _ => rfl⟩) (by assumption) ?_); try simp only [Act.put, List.setIfInBounds_toArray, List.set_cons_zero, List.set_cons_succ]
  refine wpAnyH_done (by kernel_rfl) ?_ _
  clear hS0 hk1 k0 k1 k2 k3 k4 k5
  replace hP := hP.below hS1
  have hXC : Below wB.heap.size wB wC := hS1
  replace hb := hb.trans (hS1.mono hb.size)
  replace hB := hB.below hS1 hB.lt
  replace hX := hX.below hS1
  clear hS1 hld hgl
  go_wp2_with fail
  refine (peers10_any _ A9 n9 c9 xs (by omega) hX.halves).mono ?_
  rw [hxs.out]
  have hln : (vs.map HV.h).length = n9 := by simp [hll.out]
  unfold Peered
  rw [hln]
  rintro e wD ⟨A19, c19, rfl, hown19, hD⟩
  replace hown19 := Lib.hid (World.ownsRow.mono hown19 (Nat.zero_le _))
  replace hP := hP.below hD
  replace hXC := hXC.trans (hD.mono hXC.size)
  replace hb := hb.trans (hD.mono hb.size)
  replace hB := hB.below hD hB.lt
  replace hX := hX.below hD
  clear hD
  go_wp2_with fail
  refine (refPeers10_any _ A n9 c vs (by omega) ((hI.below hb).more hb.size)).mono ?_
  unfold Peered
  rw [hln]
  rintro e wE ⟨A20, c20, rfl, hown20, hE⟩
  replace hown20 := Lib.hid (World.ownsRow.mono hown20 (Nat.zero_le _))
  replace hown19 := Lib.hid (own_below hown19.out hE fun g hg => (hown19.out.lt g hg).2)
  replace hP := hP.below hE
  replace hXC := hXC.trans (hE.mono hXC.size)
  replace hb := hb.trans (hE.mono hb.size)
  replace hB := hB.below hE hB.lt
  replace hX := hX.below hE
  clear hE
  replace hln := Lib.hid hln
  have hnn : ((n9 : Int) != (n9 : Int)) = false := by simp
  go_wp2_with fail
  clear hnn
  go_loopw [21] (fun i wr => ∃ k : Nat, k ≤ n9 ∧ i = .int .i64 k ∧ Below wE.heap.size wE wr) (fun i _ => n9 - (intOf i).toNat)
  case atStart => exact ⟨0, Nat.zero_le _, rfl, Below.refl _ _⟩
  case round =>
    obtain ⟨k, hk, rfl, hbr⟩ := hrel
    by_cases hlt : k < n9
    · have hlt' : (k : Int) < (n9 : Int) := by omega
      have hkl : k < (vs.map HV.h).length := by have := hln.out; omega
      have r19 := Reads.more (Reads.below (Reads.of_own hown19.out) hbr) hbr.size
      have r20 := Reads.more (Reads.below (Reads.of_own hown20.out) hbr) hbr.size
      obtain ⟨b, off, rfl, hbl, hxx⟩ := Reads.form peerC_len (by omega) r19 (by omega)
      obtain ⟨b', off', rfl, hbl', hxx'⟩ := Reads.form peerC_len (by omega) r20 (by omega)
      have q0 := hxx k hkl 0 _ rfl
      have q0' := hxx' k hkl 0 _ rfl
      simp only [Nat.add_zero, Nat.mul_one] at q0 q0'
      clear hxx hxx' r19 r20
      go_wp2_with fail
      refine wp_region_held_drew (S := fun W => Below wr.heap.size wr W) (by kernel_rfl) ((Below.refl _ _).drew) (fun hS0 => ?_)
      (refine wpAnyH_take (i := 0) (oi := ⟨some 130, _, _, _, _, _⟩) rfl (by kernel_rfl) (by kernel_rfl) (by kernel_rfl) (fun _ _ _ h => h) (.inl ⟨rfl, fun _ _ => rfl⟩) (by assumption) ?_); try simp only [Act.put, List.setIfInBounds_toArray, List.set_cons_zero, List.set_cons_succ]
      (refine wpAnyH_take (i := 1) (oi := ⟨some 131, _, _, _, _, _⟩) rfl (by kernel_rfl) (by kernel_rfl) (by kernel_rfl) (fun _ _ _ h => h) (.inl ⟨rfl, fun _ _ => rfl⟩) (by assumption) ?_); try simp only [Act.put, List.setIfInBounds_toArray, List.set_cons_zero, List.set_cons_succ]
      (refine wpAnyH_take (i := 2) (oi := ⟨some 132, _, _, _, _, _⟩) rfl (by kernel_rfl) (by kernel_rfl) (by kernel_rfl) (fun _ _ _ h => h) (.inl ⟨rfl, fun W hS => by skip; go_simp; try rfl⟩) (by assumption) ?_); try simp only [Act.put, List.setIfInBounds_toArray, List.set_cons_zero, List.set_cons_succ]
      (refine wpAnyH_take (i := 3) (oi := ⟨some 133, _, _, _, _, _⟩) rfl (by kernel_rfl) (by kernel_rfl) (by kernel_rfl) (fun _ _ _ h => h) (.inl ⟨rfl, fun W hS => by (have c0 := (hS.cell (p := ⟨b, off + k, none⟩) hbl).trans q0; have c1 := (hS.cell (p := ⟨b', off' + k, none⟩) hbl').trans q0'); go_simp; try rfl⟩) (by assumption) ?_); try simp only [Act.put, List.setIfInBounds_toArray, List.set_cons_zero, List.set_cons_succ]
      (refine wpAnyH_take (i := 4) (oi := ⟨some 134, _, _, _, _, _⟩) rfl (by kernel_rfl) (by kernel_rfl) (by kernel_rfl) (fun _ _ _ h => h) (.inl ⟨rfl, fun _ _ => rfl⟩) (by assumption) ?_); try simp only [Act.put, List.setIfInBounds_toArray, List.set_cons_zero, List.set_cons_succ]
      (refine wpAnyH_take (i := 5) (oi := ⟨some 135, _, _, _, _, _⟩) rfl (by kernel_rfl) (by kernel_rfl) (by kernel_rfl) (fun _ _ _ h => h) (.inl ⟨rfl, fun _ _ => rfl⟩) (by assumption) ?_); try simp only [Act.put, List.setIfInBounds_toArray, List.set_cons_zero, List.set_cons_succ]
      (refine wpAnyH_take (i := 6) (oi := ⟨some 136, _, _, _, _, _⟩) rfl (by kernel_rfl) (by kernel_rfl) (by kernel_rfl) (fun _ _ _ h => h) (.inl ⟨rfl, fun W hS => by skip; go_simp; try rfl⟩) (by assumption) ?_); try simp only [Act.put, List.setIfInBounds_toArray, List.set_cons_zero, List.set_cons_succ]
      (refine wpAnyH_take (i := 7) (oi := ⟨some 137, _, _, _, _, _⟩) rfl (by kernel_rfl) (by kernel_rfl) (by kernel_rfl) (fun _ _ _ h => h) (.inl ⟨rfl, fun W hS => by (have c0 := (hS.cell (p := ⟨b, off + k, none⟩) hbl).trans q0; have c1 := (hS.cell (p := ⟨b', off' + k, none⟩) hbl').trans q0'); go_simp; try rfl⟩) (by assumption) ?_); try simp only [Act.put, List.setIfInBounds_toArray, List.set_cons_zero, List.set_cons_succ]
      (refine wpAnyH_take (i := 8) (oi := ⟨some 138, _, _, _, _, _⟩) (v := .bool false) rfl (by kernel_rfl) (by kernel_rfl) (by kernel_rfl) (fun _ _ _ h => h) (.inl ⟨rfl, fun W hS => by go_simp; all_goals (try simp [*]); all_goals (try omega)⟩) (by assumption) ?_); try simp only [Act.put, List.setIfInBounds_toArray, List.set_cons_zero, List.set_cons_succ]
      refine wpAnyH_done (by kernel_rfl) ?_ _
      go_wp2_with fail
      go_roundw
      case rel => exact ⟨k + 1, by omega, by go_num, hbr.trans (hS0.mono hbr.size)⟩
      case measure => simp [intOf]; omega
    · obtain rfl : n9 = k := by omega
      clear hown19 hown20 hln hlt
      replace hP := hP.below hbr
      replace hXC := hXC.trans (hbr.mono hXC.size)
      replace hb := hb.trans (hbr.mono hb.size)
      replace hB := hB.below hbr hB.lt
      replace hX := hX.below hbr
      clear hbr
      have hAll : Hid (Below wA.heap.size wA wr) := Lib.hid (hPb.trans (hXC.mono hPb.size))
      have hBz : Bp ≤ wr.heap.size := Nat.le_trans hXlt hXC.size
      generalize wr = Wp at *
      have hsp0 := Spoil.start hP
      replace hP := Lib.hid hP
      clear hXC hX
      go_wp2_with fail
      go_loopw [22] (fun i wr2 => ∃ k : Nat, k ≤ n18 ∧ i = .int .i64 k ∧ Spoil Bp Wp wr2 ps) (fun i _ => n18 - (intOf i).toNat)
      case atStart => exact ⟨0, Nat.zero_le _, rfl, hsp0⟩
      case round =>
        obtain ⟨k, hk, rfl, hsp⟩ := hrel
        by_cases hlt : k < n18
        · have hlt' : (k : Int) < (n18 : Int) := by omega
          have hkl : k < ps.length := by have := hlp.out; omega
          obtain ⟨⟨⟨xp, xb, xl, xs', xe, xm⟩, Ax, cx⟩, hvi⟩ : ∃ v, ps[k] = v := ⟨_, rfl⟩
          have hmx : (⟨⟨xp, xb, xl, xs', xe, xm⟩, Ax, cx⟩ : HV) ∈ ps := hvi ▸ List.getElem_mem hkl
          replace hvi := Lib.hid hvi
          have hxm : xs'.length ≤ 9223372036854775807 := by
            have h2 : (⟨xp, xb, xl, xs', xe, xm⟩ : Half) ∈ ps.map HV.h := List.mem_map.2 ⟨_, hmx, rfl⟩
            rw [hps.out] at h2
            exact (fit_short ((fitsH_iff.1 (fits_put hf.out hf2.out)).2.1 _ h2)).1
          replace hmx := Lib.hid hmx
          go_wp2_with fail
          go_loopw [23] (fun i wr3 => ∃ m : Nat, m ≤ xs'.length ∧ i = .int .i64 m ∧ Spoil Bp Wp wr3 ps) (fun i _ => xs'.length - (intOf i).toNat)
          case atStart => exact ⟨0, Nat.zero_le _, rfl, hsp⟩
          case round =>
            obtain ⟨m, hm, rfl, hsp2⟩ := hrel
            have hrow := hsp2.row hP.out
            obtain ⟨b, off, rfl, hbl, hxx⟩ := Reads.form HV.len (by omega) hrow (by omega)
            have hxc := hxx k hkl
            rw [hvi.out] at hxc
            have q3 := hxc 3 _ rfl
            clear hxx hxc hrow
            by_cases hltm : m < xs'.length
            · have hltm' : (m : Int) < (xs'.length : Int) := by omega
              obtain ⟨gL, u, hA, hT, q0, z0⟩ := (hsp2.rows _ hmx.out).cell hltm
              simp only [] at hA
              subst hA
              replace hT := Lib.hid hT
              go_wp2_with fail
              refine ⟨⟨m + 1, by omega, by go_num, hsp2.set_ hT.out _ _⟩, ?_⟩
              simp [intOf]; omega
            · obtain rfl : m = xs'.length := by omega
              go_wp2_with fail
              refine ⟨⟨k + 1, by omega, by go_num, hsp2⟩, ?_⟩
              simp [intOf]; omega
        · have hW : Below Bp Wp wr := hsp.below (Nat.le_refl _) hBz
          have hXd : OwnHs wr 0 A9 n9 c9 xs := hXold.below (by rw [← hBp]; exact (by rw [hBp]; exact hAll.out : Below Bp wA Wp).trans hW)
          have hbd : Below w.heap.size w wr := hb.trans (hW.mono hBw)
          clear hb hXold hAll hP hsp hsp0 hBp
          go_wp2_with fail
          refine (refSame10_any _ A9 A n9 n9 c9 c xs vs (by omega) hXd.halves ((hI.below hbd).more hbd.size) (fun v h => by
            have h2 : v.h ∈ xs.map HV.h := List.mem_map.2 ⟨v, h, rfl⟩
            rw [hxs.out] at h2
            exact (fit_short (hfits.out.2.1 v.h h2)).1)).mono ?_
          rw [show sameB sameH (hs xs) (hs vs) = true from by rw [sameB_iff sameH_iff]; exact hxs.out]
          rintro e wF ⟨rfl, hF⟩
          replace hbd := hbd.trans (hF.mono hbd.size)
          go_wp2_with fail
          refine (awake10 _).mono ?_
          rintro e w9 ⟨rfl, h9⟩
          go_wp2_with fail
          go_ret
          exact ⟨rfl, hbd.trans (h9.mono hbd.size)⟩

theorem own : ownKnob Try.prog.godebug = none := by kernel_rfl
theorem laidOut : laidOutB Try.prog = true := by kernel_rfl

set_option maxRecDepth 100000 in
theorem lifted (os : Os) (started : os.Started) (H : Type) (enc : TypeId × Value → H) :
    ReturnsInHanded {} Try.checked os 7 .any (Rows.halfListsSpec.pre6 enc Try.prog Try.f7 Rows.halfListsRow.domain false) (Rows.halfListsSpec.post enc Try.prog Try.f7 false true false false) := by
  refine lift_law (C := Try.checked) own started (by kernel_rfl) Try.func7
    (ChangeSpec.witness6 (enc := enc) (C := Try.checked) false ⟨#[], #[.int .i64 0, .slice none 0 0, .agg #[.int .i64 0, .int .i64 0, .int .i64 0, .slice none 0 0, .bool false, .int .i64 0], .int .i64 0], []⟩ 8 (by kernel_rfl) (by kernel_rfl) (by kernel_rfl) (by kernel_rfl))
    laidOut (by kernel_rfl) rfl Try.underlying4 rfl (fun ds h => by match ds, h with | [d0, d1, d2, d3], _ => rfl) ?_
  intro W base args ds p hval0 hA0 hsz
  have hval : ∀ (j : Nat) t v, Try.f7.params[j]? = some t → args[j]? = some v → Value.okWide Try.prog W .any base t v := hval0
  have hA : DataW.TrodAll enc Try.prog W 0 (fun _ => true) true Try.f7.params.toList args.toList ds p := hA0
  rw [Try.params7] at hA hval
  clear hA0 hval0
  obtain ⟨v0, vs0, d0, ds0, p0, q0, hargs, rfl, rfl, h0, r0⟩ := trodAll_cons hA
  obtain ⟨v1, vs1, d1, ds1, p1, q1, rfl, rfl, rfl, h1, r1⟩ := trodAll_cons r0
  obtain ⟨v2, vs2, d2, ds2, p2, q2, rfl, rfl, rfl, h2, r2⟩ := trodAll_cons r1
  obtain ⟨v3, vs3, d3, ds3, p3, q3, rfl, rfl, rfl, h3, r3⟩ := trodAll_cons r2
  obtain ⟨rfl, rfl, rfl⟩ := trodAll_nil r3
  obtain rfl := args_of_toList hargs
  obtain ⟨x0, rfl, _, _, _wf0⟩ := open_int Try.underlying3 (hval 0 3 v0 rfl rfl) h0
  have hz1 := weights_at hsz (j := 1) (t := 39) (by kernel_rfl) rfl
  obtain ⟨_a1, _l1, _c1, rfl⟩ := okWide_slice Try.underlying39 (hval 1 39 v1 rfl rfl)
  obtain ⟨_fuel1, hf1⟩ := h1
  obtain ⟨A1, m1, c1, vs1_, hcs1, hm1, hc1, hI1, hv1⟩ := open_halvesw hf1 hz1
  simp only [Value.cells, List.cons.injEq, Value.slice.injEq, and_true] at hcs1
  obtain ⟨rfl, rfl, rfl⟩ := hcs1
  have hz2 := weights_at hsz (j := 2) (t := 24) (by kernel_rfl) rfl
  obtain ⟨_vs2, rfl, _⟩ := okWide_struct Try.underlying24 (hval 2 24 v2 rfl rfl)
  obtain ⟨_fuel2, hf2⟩ := h2
  obtain ⟨V2, hv2, hI2, hcs2⟩ := open_halfw hf2 hz2
  simp only [Value.cells] at hcs2
  obtain rfl := args_of_toList hcs2
  obtain ⟨x3, rfl, _, _, _wf3⟩ := open_int Try.underlying3 (hval 3 3 v3 rfl rfl) h3
  exact walk x0 _ _ _ vs1_ V2 x3 W hm1 hI1 hv1 hv2 hI2 (int_wf _wf3)

theorem proved : Rows.HalfListsSaid :=
  OpenClaim.holds_of_wide 7 Try.f7 rfl rfl rfl rfl rfl rfl rfl ⟨rfl, rfl, rfl, rfl, rfl⟩ rfl rfl rfl rfl rfl (by kernel_rfl) Try.func7 (by kernel_rfl)
    (of_decide_eq_true (by kernel_rfl)) (by unfold Func.isWrapper; first | (rw [if_pos (by decide +kernel)]; kernel_rfl) | (rw [if_neg (by decide +kernel)]; exact ⟨rfl, rfl⟩))
    (fun os started H enc _ => lifted os started H enc)
#print axioms proved

end lawlists
end Go.Proofs.Ytogkcokgcoookaa
