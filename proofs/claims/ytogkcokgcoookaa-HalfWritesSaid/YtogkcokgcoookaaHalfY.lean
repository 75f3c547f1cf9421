/-
  Layer 10 (half): Merge of the code.
-/
import Derived.Test.YtogkcokgcoookaaHalfX
import Derived.Test.YtogkcokgcoookaaHalfG
import Derived.Test.YtogkcokgcoookaaHalfD
namespace Go.Proofs.Ytogkcokgcoookaa
open Go.ChangeShapes Go.WideShapes Go.ChangeAt Go.RowKit Go.Shelf Go.Ed

def rgEq (a b : Rg) : Bool := a.ver == b.ver && (a.wt == b.wt && a.fl == b.fl)
theorem rgEq_iff (a b : Rg) : rgEq a b = true ↔ a = b := by
  obtain ⟨a0, a1, a2⟩ := a
  obtain ⟨b0, b1, b2⟩ := b
  simp [rgEq]
def fitR (r : Rg) (id p : Int) : Bool := regFit r.ver r.wt r.fl id p
/-- what Merge leaves, and whether something changed -/
def mergeL (id p : Int) (ls : List Line) (nm : ByteArray) (r : Rg) : List Line × Bool :=
  if fitR r id p = true ∧ newer r (regL ls nm) = true then (writeL ls nm r.ver r.wt r.fl, rgEq (regL (writeL ls nm r.ver r.wt r.fl) nm) r) else (ls, false)
theorem writeL_len {ls : List Line} {nm : ByteArray} {ver wt fl : Int} : (writeL ls nm ver wt fl).length ≤ ls.length + 1 := by
  unfold writeL
  have := seekL_le ls nm
  split
  · split <;> simp <;> omega
  · split <;> simp <;> omega

/-- a half-edge in memory of the call's own, and a bool -/
def OneHalfB (w : World) (h : Half) (b : Bool) (e : Ending) (w' : World) : Prop := ∃ A c, e = .returned (.tuple #[HV.val ⟨h, A, c⟩, .bool b]) ∧ h.lines.length ≤ c ∧ w'.ownsRow w.heap.size 44 4 (.slice A h.lines.length c) h.lines.length (flat Line.cells h.lines) ∧ Below w.heap.size w w'

theorem seekless {W W2 : World} {g : Nat} (h : Chg (· = g) W W2) (hg : W.heap.size ≤ g) : Below W.heap.size W W2 := h.below (fun i e => by omega) (Nat.le_refl _)

theorem ite_wanted {b : Bool} {A B : Prop} (h : b = true) (hA : A) : (if b = true then A else B) := by rw [if_pos h]; exact hA
set_option maxRecDepth 100000 in
set_option maxHeartbeats 8000000 in
theorem merge_any (w : World) (id p bo li : Int) (ls : List Line) (A : Option Addr) (c : Nat) (pe : Bool) (mi : Int) (nm : ByteArray) (r : Rg) (hn : ls.length ≤ 100000000000) (hI : LinesAt w w.heap.size A ls.length ls) :
    Calls Try.prog 15 #[.int .i64 id, .agg #[.int .i64 p, .int .i64 bo, .int .i64 li, .slice A ls.length c, .bool pe, .int .i64 mi], .string nm, .agg #[.int .i64 r.ver, .int .i64 r.wt, .int .i64 r.fl]] w (OneHalfB w ⟨p, bo, li, (mergeL id p ls nm r).1, pe, mi⟩ (mergeL id p ls nm r).2) := by
  obtain ⟨g, hg⟩ : ∃ g, g = w.heap.size := ⟨_, rfl⟩
  have hb0 : Below w.heap.size w (((w.alloc (.cells #[.int .i64 p, .int .i64 bo, .int .i64 li, .slice A ls.length c, .bool pe, .int .i64 mi] 24)).alloc (.cells #[.int .i64 r.ver, .int .i64 r.wt, .int .i64 r.fl] 29)).alloc (.cells #[.int .i64 0, .int .i64 0, .int .i64 0, .slice none 0 0, .bool false, .int .i64 0] 24)) := (((Below.refl _ w).alloc (Nat.le_refl _) _).alloc (by simp) _).alloc (by simp; omega) _
  have hB0 : Blk (((w.alloc (.cells #[.int .i64 p, .int .i64 bo, .int .i64 li, .slice A ls.length c, .bool pe, .int .i64 mi] 24)).alloc (.cells #[.int .i64 r.ver, .int .i64 r.wt, .int .i64 r.fl] 29)).alloc (.cells #[.int .i64 0, .int .i64 0, .int .i64 0, .slice none 0 0, .bool false, .int .i64 0] 24)) g 24 #[.int .i64 p, .int .i64 bo, .int .i64 li, .slice A ls.length c, .bool pe, .int .i64 mi] := by rw [hg]; exact ((Blk.new _ _ _).alloc _).alloc _
  have hR0 : Blk (((w.alloc (.cells #[.int .i64 p, .int .i64 bo, .int .i64 li, .slice A ls.length c, .bool pe, .int .i64 mi] 24)).alloc (.cells #[.int .i64 r.ver, .int .i64 r.wt, .int .i64 r.fl] 29)).alloc (.cells #[.int .i64 0, .int .i64 0, .int .i64 0, .slice none 0 0, .bool false, .int .i64 0] 24)) (g + 1) 29 #[.int .i64 r.ver, .int .i64 r.wt, .int .i64 r.fl] := (Blk.new' (by simp [hg])).alloc _
  have hZ0 : Blk (((w.alloc (.cells #[.int .i64 p, .int .i64 bo, .int .i64 li, .slice A ls.length c, .bool pe, .int .i64 mi] 24)).alloc (.cells #[.int .i64 r.ver, .int .i64 r.wt, .int .i64 r.fl] 29)).alloc (.cells #[.int .i64 0, .int .i64 0, .int .i64 0, .slice none 0 0, .bool false, .int .i64 0] 24)) (g + 1 + 1) 24 #[.int .i64 0, .int .i64 0, .int .i64 0, .slice none 0 0, .bool false, .int .i64 0] := Blk.new' (by simp [hg])
  obtain ⟨res, hres⟩ : ∃ l, mergeL id p ls nm r = l := ⟨_, rfl⟩
  rw [hres]
  obtain ⟨f, hf⟩ : ∃ f, regFit r.ver r.wt r.fl id p = f := ⟨_, rfl⟩
  obtain ⟨n, hnw⟩ : ∃ n, newer r (regL ls nm) = n := ⟨_, rfl⟩
  have hno0 : ¬ (f = true ∧ n = true) → res = (ls, false) := fun h => by rw [← hres, mergeL, fitR, hf, hnw, if_neg h]
  have hyes : f = true → n = true → res = (writeL ls nm r.ver r.wt r.fl, rgEq (regL (writeL ls nm r.ver r.wt r.fl) nm) r) := fun h1 h2 => by rw [← hres, mergeL, fitR, hf, hnw, if_pos ⟨h1, h2⟩]
  clear hres
  replace hf := Lib.hid hf
  replace hnw := Lib.hid hnw
  replace hno0 := Lib.hid hno0
  replace hyes := Lib.hid hyes
  go_enter Try.func15, Try.ntmps15
  go_wp2_with fail
  generalize ((w.alloc (.cells #[.int .i64 p, .int .i64 bo, .int .i64 li, .slice A ls.length c, .bool pe, .int .i64 mi] 24)).alloc (.cells #[.int .i64 r.ver, .int .i64 r.wt, .int .i64 r.fl] 29)).alloc (.cells #[.int .i64 0, .int .i64 0, .int .i64 0, .slice none 0 0, .bool false, .int .i64 0] 24) = W0 at *
  rw [← hg]
  replace hg := Lib.hid hg
  replace hB0 := Lib.hid hB0
  replace hR0 := Lib.hid hR0
  replace hZ0 := Lib.hid hZ0
  replace hb0 := Lib.hid hb0
  have hgl : g < W0.heap.size := hB0.out.lt
  have hgl1 : g + 1 < W0.heap.size := hR0.out.lt
  have k0 := hB0.out.cell 0
  simp only [List.getElem?_toArray, List.getElem?_cons_zero] at k0
  have hHld : Hid (∀ W, Below W0.heap.size W0 W → ∀ j v, [Value.int .i64 p, .int .i64 bo, .int .i64 li, .slice A ls.length c, .bool pe, .int .i64 mi][j]? = some v → W.cell? ⟨g, 0 + j, none⟩ = some v) := Lib.hid (fun W hW j v hv => by
    rw [Nat.zero_add, (hB0.out.below hW hgl).cell]; simpa using hv)
  have hRld : Hid (∀ W, Below W0.heap.size W0 W → ∀ j v, [Value.int .i64 r.ver, .int .i64 r.wt, .int .i64 r.fl][j]? = some v → W.cell? ⟨g + 1, 0 + j, none⟩ = some v) := Lib.hid (fun W hW j v hv => by
    rw [Nat.zero_add, (hR0.out.below hW hgl1).cell]; simpa using hv)
  refine wp_region_held_drew (S := fun W => Below W0.heap.size W0 W) (by kernel_rfl) ((Below.refl _ _).drew) (fun hS0 => ?_)
  (refine wpAnyH_take (i := 0) (oi := ⟨some 11, _, _, _, _, _⟩) rfl (by kernel_rfl) (by kernel_rfl) (by kernel_rfl) (fun _ _ _ h => h) (.inl ⟨rfl, fun W hS => exec_load_list agg_Reg rfl (hRld.out W hS) rfl rfl⟩) (by assumption) ?_); try simp only [Act.put, List.setIfInBounds_toArray, List.set_cons_zero, List.set_cons_succ]
  (refine wpAnyH_take (i := 1) (oi := ⟨some 12, _, _, _, _, _⟩) rfl (by kernel_rfl) (by kernel_rfl) (by kernel_rfl) (fun _ _ _ h => h) (.inl ⟨rfl, fun _ _ => rfl⟩) (by assumption) ?_); try simp only [Act.put, List.setIfInBounds_toArray, List.set_cons_zero, List.set_cons_succ]
  (refine wpAnyH_take (i := 2) (oi := ⟨some 13, _, _, _, _, _⟩) rfl (by kernel_rfl) (by kernel_rfl) (by kernel_rfl) (fun _ _ _ h => h) (.inl ⟨rfl, fun _ _ => rfl⟩) (by assumption) ?_); try simp only [Act.put, List.setIfInBounds_toArray, List.set_cons_zero, List.set_cons_succ]
  (refine wpAnyH_take (i := 3) (oi := ⟨some 14, _, _, _, _, _⟩) rfl (by kernel_rfl) (by kernel_rfl) (by kernel_rfl) (fun _ _ _ h => h) (.inl ⟨rfl, fun W hS => by (have c0 := (hS.cell (p := ⟨g, 0, none⟩) hgl).trans k0); go_simp; try rfl⟩) (by assumption) ?_); try simp only [Act.put, List.setIfInBounds_toArray, List.set_cons_zero, List.set_cons_succ]
  refine wpAnyH_ready (rs := [4]) (by kernel_rfl) (by simp) ?_
  refine AllReadyH.cons (o := ⟨some 15, _, _, _, _, _⟩) rfl (fun K hK => ?_) AllReadyH.nil
  go_simp
  refine (regR_lit _ r.ver r.wt r.fl id p f hf.out).mono ?_
  rintro e w6 ⟨rfl, hb6⟩
  have hk6 : Below W0.heap.size W0 w6 := hS0.trans (hb6.mono hS0.size)
  clear hb6
  cases f
  · go_wp2_with fail
    refine hK.out _ _ hk6 (fun hS2 => ?_)
    clear hK K
    try simp only [Act.put, List.setIfInBounds_toArray, List.set_cons_zero, List.set_cons_succ]
    (refine wpAnyH_take (i := 5) (oi := ⟨some 16, _, _, _, _, _⟩) rfl (by kernel_rfl) (by kernel_rfl) (by kernel_rfl) (fun _ _ _ h => h) (.inl ⟨rfl, fun _ _ => rfl⟩) (by assumption) ?_); try simp only [Act.put, List.setIfInBounds_toArray, List.set_cons_zero, List.set_cons_succ]
    (refine wpAnyH_take (i := 6) (oi := ⟨some 17, _, _, _, _, _⟩) rfl (by kernel_rfl) (by kernel_rfl) (by kernel_rfl) (fun _ _ _ h => h) (.inl ⟨rfl, fun _ _ => rfl⟩) (by assumption) ?_); try simp only [Act.put, List.setIfInBounds_toArray, List.set_cons_zero, List.set_cons_succ]
    (refine wpAnyH_take (i := 7) (oi := ⟨some 18, _, _, _, _, _⟩) rfl (by kernel_rfl) (by kernel_rfl) (by kernel_rfl) (fun _ _ _ h => h) (.inr ⟨rfl, rfl⟩) (by assumption) ?_); try simp only [Act.put, List.setIfInBounds_toArray, List.set_cons_zero, List.set_cons_succ]
    (refine wpAnyH_take (i := 8) (oi := ⟨some 19, _, _, _, _, _⟩) rfl (by kernel_rfl) (by kernel_rfl) (by kernel_rfl) (fun _ _ _ h => h) (.inr ⟨rfl, rfl⟩) (by assumption) ?_); try simp only [Act.put, List.setIfInBounds_toArray, List.set_cons_zero, List.set_cons_succ]
    (refine wpAnyH_take (i := 9) (oi := ⟨some 20, _, _, _, _, _⟩) rfl (by kernel_rfl) (by kernel_rfl) (by kernel_rfl) (fun _ _ _ h => h) (.inr ⟨rfl, rfl⟩) (by assumption) ?_); try simp only [Act.put, List.setIfInBounds_toArray, List.set_cons_zero, List.set_cons_succ]
    (refine wpAnyH_take (i := 10) (oi := ⟨some 21, _, _, _, _, _⟩) rfl (by kernel_rfl) (by kernel_rfl) (by kernel_rfl) (fun _ _ _ h => h) (.inr ⟨rfl, rfl⟩) (by assumption) ?_); try simp only [Act.put, List.setIfInBounds_toArray, List.set_cons_zero, List.set_cons_succ]
    (refine wpAnyH_take (i := 11) (oi := ⟨some 22, _, _, _, _, _⟩) rfl (by kernel_rfl) (by kernel_rfl) (by kernel_rfl) (fun _ _ _ h => h) (.inr ⟨rfl, rfl⟩) (by assumption) ?_); try simp only [Act.put, List.setIfInBounds_toArray, List.set_cons_zero, List.set_cons_succ]
    (refine wpAnyH_take (i := 12) (oi := ⟨some 23, _, _, _, _, _⟩) rfl (by kernel_rfl) (by kernel_rfl) (by kernel_rfl) (fun _ _ _ h => h) (.inr ⟨rfl, rfl⟩) (by assumption) ?_); try simp only [Act.put, List.setIfInBounds_toArray, List.set_cons_zero, List.set_cons_succ]
    (refine wpAnyH_take (i := 13) (oi := ⟨some 24, _, _, _, _, _⟩) rfl (by kernel_rfl) (by kernel_rfl) (by kernel_rfl) (fun _ _ _ h => h) (.inl ⟨rfl, fun _ _ => rfl⟩) (by assumption) ?_); try simp only [Act.put, List.setIfInBounds_toArray, List.set_cons_zero, List.set_cons_succ]
    refine wpAnyH_done (by kernel_rfl) ?_ _
    obtain ⟨w7, hw7⟩ : ∃ W, W = w6 := ⟨_, rfl⟩
    have hk7 : Below W0.heap.size W0 w7 := hw7 ▸ hk6
    rw [← hw7]
    clear hw7 hk6 k0
    have hno := hno0.out (by simp)
    have hbu : Below w.heap.size w w7 := hb0.out.trans (hk7.mono hb0.out.size)
    obtain ⟨k0, k1, k2, k3, k4, k5⟩ := cells6 (hB0.out.below hk7 hB0.out.lt)
    have hZ7 := Lib.hid (hZ0.out.below hk7 hZ0.out.lt)
    go_wp2_with fail
    refine (one_any _ p bo li ls A c pe mi (by omega) (Reads.more (Reads.below hI hbu) hbu.size)).mono ?_
    rintro e w8 ⟨A3, c3, rfl, hc3, hown3, h8⟩
    have hZ8 := hZ7.out.below h8 hZ7.out.lt
    have hs7 := hbu.size
    have hs8 := h8.size
    have hl7 := hZ7.out.lt
    have hbu8 := hbu.trans (h8.mono hbu.size)
    replace hown3 := Lib.hid hown3
    clear k0 k1 k2 k3 k4 k5 h8
    simp only [HV.val]
    go_wp2_with ((with_reducible refine go_store_as (off := 0) (vs := #[.int .i64 p, .int .i64 bo, .int .i64 li, .slice A3 ls.length c3, .bool pe, .int .i64 mi]) #[.int .i64 p, .int .i64 bo, .int .i64 li, .slice A3 ls.length c3, .bool pe, .int .i64 mi] agg_Half hZ8 ?b1 ?b2 ?b3 ?b4 ?b5 ?b6 ?_); (case b1 => rfl); (case b2 => rfl); (case b3 => rfl); (case b4 => simp); (case b5 => simp [Value.oneCell']); (case b6 => rfl); (intro w9 hB9 hC9))
    refine bodyPost_ret (results_blk2 rfl agg_Half hB9 rfl rfl) rfl ?_
    exact ⟨A3, c3, rfl, hc3, World.ownsRow.mono (own_chg hown3.out hC9 fun i hi => by have := (hown3.out.lt i hi).1; omega) hs7, hbu8.trans (hC9.below (fun i h => by have := hg.out; omega) hbu8.size)⟩
  · go_wp2_with fail
    refine hK.out _ _ hk6 (fun hS2 => ?_)
    clear hK K
    try simp only [Act.put, List.setIfInBounds_toArray, List.set_cons_zero, List.set_cons_succ]
    (refine wpAnyH_take (i := 5) (oi := ⟨some 16, _, _, _, _, _⟩) rfl (by kernel_rfl) (by kernel_rfl) (by kernel_rfl) (fun _ _ _ h => h) (.inl ⟨rfl, fun _ _ => rfl⟩) (by assumption) ?_); try simp only [Act.put, List.setIfInBounds_toArray, List.set_cons_zero, List.set_cons_succ]
    (refine wpAnyH_take (i := 6) (oi := ⟨some 17, _, _, _, _, _⟩) rfl (by kernel_rfl) (by kernel_rfl) (by kernel_rfl) (fun _ _ _ h => h) (.inl ⟨rfl, fun _ _ => rfl⟩) (by assumption) ?_); try simp only [Act.put, List.setIfInBounds_toArray, List.set_cons_zero, List.set_cons_succ]
    (refine wpAnyH_take (i := 7) (oi := ⟨some 18, _, _, _, _, _⟩) rfl (by kernel_rfl) (by kernel_rfl) (by kernel_rfl) (fun _ _ _ h => h) (.inl ⟨rfl, fun W hS => exec_load_list agg_Reg rfl (hRld.out W hS) rfl rfl⟩) (by assumption) ?_); try simp only [Act.put, List.setIfInBounds_toArray, List.set_cons_zero, List.set_cons_succ]
    (refine wpAnyH_take (i := 8) (oi := ⟨some 19, _, _, _, _, _⟩) rfl (by kernel_rfl) (by kernel_rfl) (by kernel_rfl) (fun _ _ _ h => h) (.inl ⟨rfl, fun W hS => exec_load_list agg_Half rfl (hHld.out W hS) rfl rfl⟩) (by assumption) ?_); try simp only [Act.put, List.setIfInBounds_toArray, List.set_cons_zero, List.set_cons_succ]
    (refine wpAnyH_take (i := 9) (oi := ⟨some 20, _, _, _, _, _⟩) rfl (by kernel_rfl) (by kernel_rfl) (by kernel_rfl) (fun _ _ _ h => h) (.inl ⟨rfl, fun _ _ => rfl⟩) (by assumption) ?_); try simp only [Act.put, List.setIfInBounds_toArray, List.set_cons_zero, List.set_cons_succ]
    refine wpAnyH_ready (rs := [10]) (by kernel_rfl) (by simp) ?_
    refine AllReadyH.cons (o := ⟨some 21, _, _, _, _, _⟩) rfl (fun K hK => ?_) AllReadyH.nil
    go_simp
    have hbz := hb0.out.trans (hS2.mono hb0.out.size)
    refine (reg10_any _ p bo li A ls.length c ls pe mi nm (by omega) (Reads.more (Reads.below hI hbz) hbz.size)).mono ?_
    clear hbz
    rintro e w7 ⟨rfl, hb7⟩
    have hk7 : Below W0.heap.size W0 w7 := hS2.trans (hb7.mono hS2.size)
    clear hb7
    go_wp2_with fail
    refine hK.out _ _ hk7 (fun hS3 => ?_)
    clear hK K
    try simp only [Act.put, List.setIfInBounds_toArray, List.set_cons_zero, List.set_cons_succ]
    refine wpAnyH_ready (rs := [11]) (by kernel_rfl) (by simp) ?_
    refine AllReadyH.cons (o := ⟨some 22, _, _, _, _, _⟩) rfl (fun K hK => ?_) AllReadyH.nil
    go_simp
    refine (newer_any _ r (regL ls nm) n hnw.out).mono ?_
    rintro e w8 ⟨rfl, hb8⟩
    have hk8 : Below W0.heap.size W0 w8 := hS3.trans (hb8.mono hS3.size)
    clear hb8 hk7 hk6
    obtain ⟨w7, hw7⟩ : ∃ W, W = w8 := ⟨_, rfl⟩
    have hk7 : Below W0.heap.size W0 w7 := hw7 ▸ hk8
    rw [← hw7]
    clear hw7 hk8 hS2 hS3 hS0
    cases n
    · go_wp2_with fail
      refine hK.out _ _ hk7 (fun hS4 => ?_)
      clear hK K
      try simp only [Act.put, List.setIfInBounds_toArray, List.set_cons_zero, List.set_cons_succ]
      (refine wpAnyH_take (i := 12) (oi := ⟨some 23, _, _, _, _, _⟩) rfl (by kernel_rfl) (by kernel_rfl) (by kernel_rfl) (fun _ _ _ h => h) (.inl ⟨rfl, fun _ _ => rfl⟩) (by assumption) ?_); try simp only [Act.put, List.setIfInBounds_toArray, List.set_cons_zero, List.set_cons_succ]
      (refine wpAnyH_take (i := 13) (oi := ⟨some 24, _, _, _, _, _⟩) rfl (by kernel_rfl) (by kernel_rfl) (by kernel_rfl) (fun _ _ _ h => h) (.inl ⟨rfl, fun _ _ => rfl⟩) (by assumption) ?_); try simp only [Act.put, List.setIfInBounds_toArray, List.set_cons_zero, List.set_cons_succ]
      refine wpAnyH_done (by kernel_rfl) ?_ _
      clear k0
      have hno := hno0.out (by simp)
      have hbu : Below w.heap.size w w7 := hb0.out.trans (hk7.mono hb0.out.size)
      obtain ⟨k0, k1, k2, k3, k4, k5⟩ := cells6 (hB0.out.below hk7 hB0.out.lt)
      have hZ7 := Lib.hid (hZ0.out.below hk7 hZ0.out.lt)
      go_wp2_with fail
      refine (one_any _ p bo li ls A c pe mi (by omega) (Reads.more (Reads.below hI hbu) hbu.size)).mono ?_
      rintro e w8 ⟨A3, c3, rfl, hc3, hown3, h8⟩
      have hZ8 := hZ7.out.below h8 hZ7.out.lt
      have hs7 := hbu.size
      have hs8 := h8.size
      have hl7 := hZ7.out.lt
      have hbu8 := hbu.trans (h8.mono hbu.size)
      replace hown3 := Lib.hid hown3
      clear k0 k1 k2 k3 k4 k5 h8
      simp only [HV.val]
      go_wp2_with ((with_reducible refine go_store_as (off := 0) (vs := #[.int .i64 p, .int .i64 bo, .int .i64 li, .slice A3 ls.length c3, .bool pe, .int .i64 mi]) #[.int .i64 p, .int .i64 bo, .int .i64 li, .slice A3 ls.length c3, .bool pe, .int .i64 mi] agg_Half hZ8 ?b1 ?b2 ?b3 ?b4 ?b5 ?b6 ?_); (case b1 => rfl); (case b2 => rfl); (case b3 => rfl); (case b4 => simp); (case b5 => simp [Value.oneCell']); (case b6 => rfl); (intro w9 hB9 hC9))
      refine bodyPost_ret (results_blk2 rfl agg_Half hB9 rfl rfl) rfl ?_
      exact ⟨A3, c3, rfl, hc3, World.ownsRow.mono (own_chg hown3.out hC9 fun i hi => by have := (hown3.out.lt i hi).1; omega) hs7, hbu8.trans (hC9.below (fun i h => by have := hg.out; omega) hbu8.size)⟩
    · go_wp2_with fail
      refine hK.out _ _ hk7 (fun hS4 => ?_)
      clear hK K
      try simp only [Act.put, List.setIfInBounds_toArray, List.set_cons_zero, List.set_cons_succ]
      (refine wpAnyH_take (i := 12) (oi := ⟨some 23, _, _, _, _, _⟩) rfl (by kernel_rfl) (by kernel_rfl) (by kernel_rfl) (fun _ _ _ h => h) (.inl ⟨rfl, fun _ _ => rfl⟩) (by assumption) ?_); try simp only [Act.put, List.setIfInBounds_toArray, List.set_cons_zero, List.set_cons_succ]
      (refine wpAnyH_take (i := 13) (oi := ⟨some 24, _, _, _, _, _⟩) rfl (by kernel_rfl) (by kernel_rfl) (by kernel_rfl) (fun _ _ _ h => h) (.inl ⟨rfl, fun _ _ => rfl⟩) (by assumption) ?_); try simp only [Act.put, List.setIfInBounds_toArray, List.set_cons_zero, List.set_cons_succ]
      refine wpAnyH_done (by kernel_rfl) ?_ _
      have hres := hyes.out (by simp) (by simp)
      obtain ⟨l2, b2⟩ := res
      injection hres with hl2 hb2
      rw [← hl2] at hb2
      have hll2 : l2.length ≤ ls.length + 1 := by rw [hl2]; exact writeL_len
      replace hl2 := Lib.hid hl2
      have hE : Hid (∀ W, Sem.run Try.prog (binOp .eql 29 (.agg #[.int .i64 (regL l2 nm).ver, .int .i64 (regL l2 nm).wt, .int .i64 (regL l2 nm).fl]) (.agg #[.int .i64 r.ver, .int .i64 r.wt, .int .i64 r.fl])) W = .ok (.bool b2) W) := Lib.hid (fun W => by rw [reg_eql, hb2]; rfl)
      replace hb2 := Lib.hid hb2
      clear k0
      have hbu : Below w.heap.size w w7 := hb0.out.trans (hk7.mono hb0.out.size)
      obtain ⟨k0, k1, k2, k3, k4, k5⟩ := cells6 (hB0.out.below hk7 hgl)
      have hR7 := hR0.out.below hk7 hgl1
      have hZ7 := hZ0.out.below hk7 hZ0.out.lt
      have r0 := hR7.cell 0
      have r1 := hR7.cell 1
      have r2 := hR7.cell 2
      simp only [List.getElem?_toArray, List.getElem?_cons_zero, List.getElem?_cons_succ] at r0 r1 r2
      go_wp2_with fail
      refine (write_any _ p bo li ls A c pe mi nm r.ver r.wt r.fl (by omega) (Reads.more (Reads.below hI hbu) hbu.size)).mono ?_
      rw [← hl2.out]
      rintro e w8 ⟨A3, c3, rfl, hc3, hown3, h8⟩
      simp only [] at hown3 hc3
      have hs7 := hbu.size
      have hs8 := h8.size
      have hl7 := hZ7.lt
      have hbu8 := hbu.trans (h8.mono hbu.size)
      have hR8 := (hR7.below h8 hR7.lt).alloc (.cells #[.int .i64 p, .int .i64 bo, .int .i64 li, .slice A3 l2.length c3, .bool pe, .int .i64 mi] 24)
      have hZ8 := (hZ7.below h8 hZ7.lt).alloc (.cells #[.int .i64 p, .int .i64 bo, .int .i64 li, .slice A3 l2.length c3, .bool pe, .int .i64 mi] 24)
      have hN8 : Blk (w8.alloc (.cells #[.int .i64 p, .int .i64 bo, .int .i64 li, .slice A3 l2.length c3, .bool pe, .int .i64 mi] 24)) w8.heap.size 24 #[.int .i64 p, .int .i64 bo, .int .i64 li, .slice A3 l2.length c3, .bool pe, .int .i64 mi] := Blk.new _ _ _
      have hO8 := own_below hown3 ((Below.refl _ w8).alloc (Nat.le_refl _) (.cells #[.int .i64 p, .int .i64 bo, .int .i64 li, .slice A3 l2.length c3, .bool pe, .int .i64 mi] 24)) fun i hi => (hown3.lt i hi).2
      have hb8 := hbu8.alloc hbu8.size (.cells #[.int .i64 p, .int .i64 bo, .int .i64 li, .slice A3 l2.length c3, .bool pe, .int .i64 mi] 24)
      have hgn : g + 1 + 1 < w8.heap.size := by omega
      clear k0 k1 k2 k3 k4 k5 r0 r1 r2 h8 hR7 hZ7 hown3 hbu8
      simp only [HV.val]
      go_wp2_with fail
      generalize w8.alloc (.cells #[.int .i64 p, .int .i64 bo, .int .i64 li, .slice A3 l2.length c3, .bool pe, .int .i64 mi] 24) = W8 at *
      obtain ⟨gn, hgn2⟩ : ∃ n, n = w8.heap.size := ⟨_, rfl⟩
      rw [← hgn2] at hN8 hgn ⊢
      clear hgn2
      have hne1 : g + 1 ≠ g + 1 + 1 := by omega
      have hneN : gn ≠ g + 1 + 1 := by omega
      have hHl2 : Hid (∀ W, Chg (· = g + 1 + 1) W8 W → ∀ j v, [Value.int .i64 p, .int .i64 bo, .int .i64 li, .slice A3 l2.length c3, .bool pe, .int .i64 mi][j]? = some v → W.cell? ⟨gn, 0 + j, none⟩ = some v) := Lib.hid (fun W hW j v hv => by
        rw [Nat.zero_add, (hN8.chg hW hneN).cell]; simpa using hv)
      have hRl2 : Hid (∀ W, Chg (· = g + 1 + 1) W8 W → ∀ j v, [Value.int .i64 r.ver, .int .i64 r.wt, .int .i64 r.fl][j]? = some v → W.cell? ⟨g + 1, 0 + j, none⟩ = some v) := Lib.hid (fun W hW j v hv => by
        rw [Nat.zero_add, (hR8.chg hW hne1).cell]; simpa using hv)
      refine wp_region_held_drew (S := fun W => Chg (· = g + 1 + 1) W8 W ∧ ∃ cs : Array Value, cs.size = 6 ∧ Blk W (g + 1 + 1) 24 cs) (by kernel_rfl) ⟨(Chg.refl _ _).drew, _, rfl, hZ8.drew⟩ (fun hT0 => ?_)
      (refine wpAnyH_take (i := 0) (oi := ⟨some 31, _, _, _, _, _⟩) rfl (by kernel_rfl) (by kernel_rfl) (by kernel_rfl) (fun _ _ _ h => h) (.inl ⟨rfl, fun W hS => exec_load_list agg_Half rfl (hHl2.out W hS.1) rfl rfl⟩) (by assumption) ?_); try simp only [Act.put, List.setIfInBounds_toArray, List.set_cons_zero, List.set_cons_succ]
      (refine wpAnyH_take (i := 1) (oi := ⟨some 32, _, _, _, _, _⟩) rfl (by kernel_rfl) (by kernel_rfl) (by kernel_rfl) (fun _ _ _ h => h) (.inl ⟨rfl, fun W hS => exec_load_list agg_Half rfl (hHl2.out W hS.1) rfl rfl⟩) (by assumption) ?_); try simp only [Act.put, List.setIfInBounds_toArray, List.set_cons_zero, List.set_cons_succ]
      (refine wpAnyH_take (i := 2) (oi := ⟨some 33, _, _, _, _, _⟩) rfl (by kernel_rfl) (by kernel_rfl) (by kernel_rfl) (fun _ _ _ h => h) (.inl ⟨rfl, fun _ _ => rfl⟩) (by assumption) ?_); try simp only [Act.put, List.setIfInBounds_toArray, List.set_cons_zero, List.set_cons_succ]
      (refine wpAnyH_take (i := 4) (oi := ⟨some 35, _, _, _, _, _⟩) rfl (by kernel_rfl) (by kernel_rfl) (by kernel_rfl) (fun _ _ _ h => h) (.inl ⟨rfl, fun W hS => exec_load_list agg_Reg rfl (hRl2.out W hS.1) rfl rfl⟩) (by assumption) ?_); try simp only [Act.put, List.setIfInBounds_toArray, List.set_cons_zero, List.set_cons_succ]
      refine wpAnyH_ready (rs := [3]) (by kernel_rfl) (by simp) ?_
      refine AllReadyH.cons (o := ⟨some 34, _, _, _, _, _⟩) rfl (fun K hK => ?_) AllReadyH.nil
      go_simp
      refine (reg10_any _ p bo li A3 l2.length c3 l2 pe mi nm (by omega) (Reads.of_own (own_chg hO8 hT0.1 fun i hi => by have := (hO8.lt i hi).1; omega))).mono ?_
      rintro e w9 ⟨rfl, hb9⟩
      have hk9 : Chg (· = g + 1 + 1) W8 w9 ∧ ∃ cs : Array Value, cs.size = 6 ∧ Blk w9 (g + 1 + 1) 24 cs := ⟨hT0.1.trans (Chg.of_below hb9 _), by obtain ⟨cs, h1, h2⟩ := hT0.2; exact ⟨cs, h1, h2.below hb9 h2.lt⟩⟩
      clear hb9 hT0
      go_wp2_with fail
      refine hK.out _ _ hk9 (fun hT1 => ?_)
      clear hK K
      try simp only [Act.put, List.setIfInBounds_toArray, List.set_cons_zero, List.set_cons_succ]
      (refine wpAnyH_take (i := 5) (oi := ⟨some 36, _, _, _, _, _⟩) (v := .bool b2) rfl (by kernel_rfl) (by kernel_rfl) (by kernel_rfl) (fun _ _ _ h => h) (.inl ⟨rfl, fun W hS => by have hzR' := hE.out; go_simp⟩) (by assumption) ?_); try simp only [Act.put, List.setIfInBounds_toArray, List.set_cons_zero, List.set_cons_succ]
      -- effect at 6: Go.Op.store 24 (Go.Operand.tmp 8) (Go.Operand.tmp 31)
      obtain ⟨hkc, cs9, hcs9, hZ9⟩ := hk9
      have hds : (cs9.toList.take 0 ++ (#[.int .i64 p, .int .i64 bo, .int .i64 li, .slice A3 l2.length c3, .bool pe, .int .i64 mi] : Array Value).toList ++ cs9.toList.drop (0 + 6)).toArray = (#[.int .i64 p, .int .i64 bo, .int .i64 li, .slice A3 l2.length c3, .bool pe, .int .i64 mi] : Array Value) := by
        rw [List.drop_of_length_le (by simp [hcs9])]; rfl
      refine wpAnyH_ready (rs := [6]) (by kernel_rfl) (by simp) ?_
      refine AllReadyH.cons (o := ⟨none, _, _, _, _, _⟩) rfl (fun K hK => ?_) AllReadyH.nil
      obtain ⟨d, hu, hd, hi⟩ := agg_Half
      refine ite_wanted rfl (wp_store_at _ _ _ rfl (g + 1 + 1) 0 6 rfl _ _ #[.int .i64 p, .int .i64 bo, .int .i64 li, .slice A3 l2.length c3, .bool pe, .int .i64 mi] rfl hZ9 hi rfl (by omega) (by simp [Value.oneCell']) ?_)
      rw [hds]
      have hC : Chg (· = g + 1 + 1) W8 (w9.setRow (g + 1 + 1) #[.int .i64 p, .int .i64 bo, .int .i64 li, .slice A3 l2.length c3, .bool pe, .int .i64 mi]) := hkc.setRow (fun _ => rfl) _
      have hB : Blk (w9.setRow (g + 1 + 1) #[.int .i64 p, .int .i64 bo, .int .i64 li, .slice A3 l2.length c3, .bool pe, .int .i64 mi]) (g + 1 + 1) 24 #[.int .i64 p, .int .i64 bo, .int .i64 li, .slice A3 l2.length c3, .bool pe, .int .i64 mi] := hZ9.setRow_ _
      clear hds
      generalize w9.setRow (g + 1 + 1) #[.int .i64 p, .int .i64 bo, .int .i64 li, .slice A3 l2.length c3, .bool pe, .int .i64 mi] = wA at *
      refine hK.out _ _ ⟨hC, _, rfl, hB⟩ (fun hT2 => ?_)
      clear hK K
      simp only [Act.put]
      (refine wpAnyH_take (i := 7) (oi := ⟨some 9, _, _, _, _, _⟩) rfl (by kernel_rfl) (by kernel_rfl) (by kernel_rfl) (fun _ _ _ h => h) (.inl ⟨rfl, fun _ _ => rfl⟩) (by assumption) ?_); try simp only [Act.put, List.setIfInBounds_toArray, List.set_cons_zero, List.set_cons_succ]
      refine wpAnyH_done (by kernel_rfl) ?_ _
      clear hT1 hT2
      go_wp2_with fail
      refine bodyPost_ret (results_blk2 rfl agg_Half hB rfl rfl) rfl ?_
      exact ⟨A3, c3, rfl, hc3, World.ownsRow.mono (own_chg hO8 hC fun i hi => by have := (hO8.lt i hi).1; omega) hs7, hb8.trans (hC.below (fun i h => by have := hg.out; omega) hb8.size)⟩

end Go.Proofs.Ytogkcokgcoookaa
