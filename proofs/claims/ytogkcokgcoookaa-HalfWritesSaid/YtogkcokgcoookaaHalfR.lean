/-
  Layer 10 (half): the document's Drop; Peers, the code's and the document's.
-/
import Derived.Test.YtogkcokgcoookaaHalfP
namespace Go.Proofs.Ytogkcokgcoookaa
open Go.ChangeShapes Go.WideShapes Go.ChangeAt Go.RowKit Go.Shelf Go.Ed

theorem hasH_any (l : List Half) (q : Int) : hasH l q = l.any fun x => x.peer == q := by
  unfold hasH findH
  rw [List.isSome_find?]

set_option maxRecDepth 100000 in
set_option maxHeartbeats 4000000 in
theorem refDrop10_any (w : World) (A : Option Addr) (n c : Nat) (vs : List HV) (q : Int) (hn : n * 64 ≤ 140737488355328) (hI : HalvesAt w w.heap.size A n vs) (hv : ∀ v ∈ vs, v.h.lines.length * 40 ≤ 140737488355328) :
    Calls Try.prog 34 #[.slice A n c, .int .i64 q] w (Droped w (dropL (vs.map HV.h) q) (hasH (vs.map HV.h) q)) := by
  have hll := Lib.hid hI.len
  replace hv := Lib.hid hv
  obtain ⟨res, hres⟩ : ∃ l, dropL (vs.map HV.h) q = l := ⟨_, rfl⟩
  obtain ⟨rb, hrb⟩ : ∃ l, hasH (vs.map HV.h) q = l := ⟨_, rfl⟩
  rw [hres, hrb]
  rw [hasH_any] at hrb
  replace hres := Lib.hid hres
  replace hrb := Lib.hid hrb
  go_enter Try.func34, Try.ntmps34
  go_wp2_with fail
  go_loopw [6, 7, 8] (fun o f i wr => ∃ (k : Nat) (A2 : Option Addr) (m c2 : Nat) (us : List HV), k ≤ n ∧ i = .int .i64 k ∧ o = .slice A2 m c2 ∧ f = .bool (((vs.map HV.h).take k).any fun x => x.peer == q) ∧ us.map HV.h = dropL ((vs.map HV.h).take k) q ∧ m ≤ k ∧ OwnHs wr w.heap.size A2 m c2 us ∧ Below w.heap.size w wr)
    (fun _ _ i _ => n - (intOf i).toNat)
  case atStart => exact ⟨0, none, 0, 0, [], Nat.zero_le _, rfl, rfl, by simp, by simp [dropL], Nat.le_refl _, OwnHs.nil _ _, Below.refl _ _⟩
  case round =>
    obtain ⟨k, A2, m, c2, us, hk, rfl, rfl, rfl, hus, hmk, hown, hbr⟩ := hrel
    obtain ⟨fk, hfk⟩ : ∃ f, (((vs.map HV.h).take k).any fun x => x.peer == q) = f := ⟨_, rfl⟩
    rw [hfk]
    replace hfk := Lib.hid hfk
    replace hus := Lib.hid hus
    replace hown := Lib.hid hown
    by_cases hlt : k < n
    · have hlt' : (k : Int) < (n : Int) := by omega
      have hkl : k < vs.length := by have := hll.out; omega
      obtain ⟨b, off, rfl, hbl, hxx⟩ := (hI.below hbr).1.form HV.len (by omega) (by omega)
      have hxc := hxx k hkl
      have hvs := hv.out _ (List.getElem_mem hkl)
      have hvA := ((hI.2 _ (List.getElem_mem hkl)).below hbr).more hbr.size
      obtain ⟨⟨⟨p, bo, li, ls, pe, mi⟩, Al, cl⟩, hvi⟩ : ∃ v, vs[k] = v := ⟨_, rfl⟩
      rw [hvi] at hxc hvs hvA
      have hxh : (vs.map HV.h).take (k + 1) = (vs.map HV.h).take k ++ [⟨p, bo, li, ls, pe, mi⟩] := by
        rw [List.take_add_one, List.getElem?_map, List.getElem?_eq_getElem hkl, hvi]; rfl
      replace hxh := Lib.hid hxh
      replace hvi := Lib.hid hvi
      have q0 := hxc 0 _ rfl
      have q1 := hxc 1 _ rfl
      have q2 := hxc 2 _ rfl
      have q3 := hxc 3 _ rfl
      have q4 := hxc 4 _ rfl
      have q5 := hxc 5 _ rfl
      simp only [Nat.add_zero] at q0 q1 q2 q3 q4 q5
      simp only [] at hvs
      clear hxc hxx
      by_cases hpq : p = q
      · have hpq' : (p == q) = true := by simpa using hpq
        have hB1 : Hid ((((vs.map HV.h).take (k + 1)).any fun x => x.peer == q) = true) := Lib.hid (by rw [hxh.out, List.any_append]; simp [hpq])
        have hB2 : Hid (dropL ((vs.map HV.h).take (k + 1)) q = dropL ((vs.map HV.h).take k) q) := Lib.hid (by rw [hxh.out, dropL, List.filter_append, dropL]; simp [hpq])
        replace hpq := Lib.hid hpq
        go_wp2_with fail
        go_roundw
        case rel => exact ⟨k + 1, A2, m, c2, us, by omega, by go_num, rfl, by rw [hB1.out], by rw [hB2.out, hus.out], by omega, hown.out, hbr⟩
        case measure => simp [intOf]; omega
      · have hpq' : (p == q) = false := by simpa using hpq
        have hB1 : Hid ((((vs.map HV.h).take (k + 1)).any fun x => x.peer == q) = fk) := Lib.hid (by rw [hxh.out, List.any_append, hfk.out]; simp [hpq])
        have hB2 : Hid (dropL ((vs.map HV.h).take (k + 1)) q = dropL ((vs.map HV.h).take k) q ++ [⟨p, bo, li, ls, pe, mi⟩]) := Lib.hid (by rw [hxh.out, dropL, List.filter_append, dropL]; simp [hpq])
        replace hpq := Lib.hid hpq
        go_wp2_with fail
        refine (refOne_any _ p bo li ls Al cl pe mi hvs hvA.2).mono ?_
        rintro e w2 ⟨A3, c3, rfl, hc3, hown3, h2⟩
        have hO2 : OwnLs w2 w.heap.size ⟨⟨p, bo, li, ls, pe, mi⟩, A3, c3⟩ := ⟨hc3, World.ownsRow.mono hown3 hbr.size⟩
        have hW3 : Below wr.heap.size wr (w2.alloc (.cells #[.int .i64 p, .int .i64 bo, .int .i64 li, .slice A3 ls.length c3, .bool pe, .int .i64 mi] 24)) := h2.alloc h2.size _
        have hO3 := hO2.below ((Below.refl _ w2).alloc (Nat.le_refl _) (.cells #[.int .i64 p, .int .i64 bo, .int .i64 li, .slice A3 ls.length c3, .bool pe, .int .i64 mi] 24))
        have hr3 : Reads (w2.alloc (.cells #[.int .i64 p, .int .i64 bo, .int .i64 li, .slice A3 ls.length c3, .bool pe, .int .i64 mi] 24)) (w2.alloc (.cells #[.int .i64 p, .int .i64 bo, .int .i64 li, .slice A3 ls.length c3, .bool pe, .int .i64 mi] 24)).heap.size 6 (some ⟨w2.heap.size, 0, none⟩) 1 (HV.cells ⟨⟨p, bo, li, ls, pe, mi⟩, A3, c3⟩) :=
          Reads.of_blk (Blk.new w2 24 #[.int .i64 p, .int .i64 bo, .int .i64 li, .slice A3 ls.length c3, .bool pe, .int .i64 mi]) rfl (fun j u h => by simpa [HV.cells] using h)
        have hbs : w.heap.size ≤ (w2.alloc (.cells #[.int .i64 p, .int .i64 bo, .int .i64 li, .slice A3 ls.length c3, .bool pe, .int .i64 mi] 24)).heap.size := Nat.le_trans hbr.size hW3.size
        have ho3 := (hown.out.below hW3).2.2.1
        clear hown3 h2 q0 q1 q2 q3 q4 q5
        simp only [HV.val]
        go_wp2_with ((with_reducible refine go_append_at (c := 1) half_slice half_inf ho3 hr3 (HV.one _) ?a0 ?a1 ?a2 ?a3 ?a4 ?a5 ?a6 ?_); (case a0 => exact hbs); (case a1 => rfl); (case a2 => rfl); (case a3 => rfl); (case a4 => omega); (case a5 => unfold maxLen; omega); (case a6 => omega); rintro v4 w4 g1 g2 g3 -)
        obtain ⟨A4, c4, rfl, hc4⟩ := own_slice' g1
        have hO4 := own_push hown.out hO3 hW3 g3 g1 hc4
        have hb4 : Below w.heap.size w w4 := (hbr.trans (hW3.mono hbr.size)).trans g2
        clear g1 g2 g3 hO3 hW3 hO2
        try go_wp2_with fail
        go_roundw
        case rel => exact ⟨k + 1, A4, m + 1, c4, us ++ [⟨⟨p, bo, li, ls, pe, mi⟩, A3, c3⟩], by omega, by go_num, rfl, by rw [hB1.out], by rw [hB2.out, List.map_append, hus.out]; rfl, by omega, hO4, hb4⟩
        case measure => simp [intOf]; omega
    · obtain rfl : k = n := by omega
      have hT : (vs.map HV.h).take k = vs.map HV.h := List.take_of_length_le (by simp [hll.out])
      have e1 : us.map HV.h = res := by rw [hus.out, hT, hres.out]
      have e2 : fk = rb := by rw [← hfk.out, hT, hrb.out]
      subst e1
      subst e2
      clear hT
      go_wp2_with fail
      go_ret2
      exact ⟨A2, m, c2, us, rfl, rfl, hown.out, hbr⟩

theorem reads_prefix {α : Type} {f : α → List Value} {N : Nat} (hf : ∀ x, (f x).length = N) {w : World} {B n k : Nat} {A : Option Addr} {l : List α} (h : Reads w B N A n (flat f l)) (hk : k ≤ n) (hl : l.length = n) : Reads w B N A k (flat f (l.take k)) := by
  refine ⟨by rw [flat_length f hf, List.length_take, hl, Nat.min_eq_left hk], fun h0 => ?_⟩
  obtain ⟨ad, e, h1, h2⟩ := h.2 (by omega)
  refine ⟨ad, e, h1, fun j u hu => h2 j u ?_⟩
  rw [← flat_take f hf, List.getElem?_take] at hu
  split at hu
  · exact hu
  · cases hu
theorem reads_suffix {α : Type} {f : α → List Value} {N : Nat} (hf : ∀ x, (f x).length = N) {w : World} {B n k b off : Nat} {A : Option Addr} {l : List α} (h : Reads w B N (some ⟨b, off, none⟩) n (flat f l)) (hk : k ≤ n) (hl : l.length = n) (hA : k < n → A = some ⟨b, off + k * N, none⟩) : Reads w B N A (n - k) (flat f (l.drop k)) := by
  refine ⟨by rw [flat_length f hf, List.length_drop, hl], fun h0 => ?_⟩
  obtain ⟨ad, e, h1, h2⟩ := h.2 (by omega)
  cases e
  refine ⟨⟨b, off + k * N, none⟩, hA (by omega), h1, fun j u hu => ?_⟩
  have h3 := h2 (k * N + j) u (by rw [← flat_drop f hf, List.getElem?_drop] at hu; exact hu)
  rw [ed_add_plain] at h3 ⊢
  rw [Nat.add_assoc]
  exact h3
theorem grown_none {w w' : World} (h : w.grownBy w' none) : Below w.heap.size w w' := ⟨h.os, h.tape, h.output, h.size, fun i hi => h.block i hi (by simp)⟩

set_option maxRecDepth 100000 in
set_option maxHeartbeats 4000000 in
theorem refPut10_any (w : World) (A : Option Addr) (n c : Nat) (vs : List HV) (p bo li : Int) (ls : List Line) (Al : Option Addr) (cl : Nat) (pe : Bool) (mi : Int) (hn : n ≤ 1000000) (hI : HalvesAt w w.heap.size A n vs) (hp : riseH (vs.map HV.h)) (hv : ∀ v ∈ vs, v.h.lines.length * 40 ≤ 140737488355328)
    (hls : ls.length * 40 ≤ 140737488355328) (hL : LinesAt w w.heap.size Al ls.length ls) :
    Calls Try.prog 35 #[.slice A n c, .agg #[.int .i64 p, .int .i64 bo, .int .i64 li, .slice Al ls.length cl, .bool pe, .int .i64 mi]] w (Copied w (putL (vs.map HV.h) ⟨p, bo, li, ls, pe, mi⟩)) := by
  have hll := Lib.hid hI.len
  obtain ⟨res, hres⟩ : ∃ l, putL (vs.map HV.h) ⟨p, bo, li, ls, pe, mi⟩ = l := ⟨_, rfl⟩
  rw [hres]
  replace hres := Lib.hid hres
  replace hp := Lib.hid hp
  replace hv := Lib.hid hv
  obtain ⟨g, hg⟩ : ∃ g, g = w.heap.size := ⟨_, rfl⟩
  have hb0 : Below w.heap.size w (w.alloc (.cells #[.int .i64 p, .int .i64 bo, .int .i64 li, .slice Al ls.length cl, .bool pe, .int .i64 mi] 24)) := (Below.refl _ w).alloc (Nat.le_refl _) _
  have hB0 : Blk (w.alloc (.cells #[.int .i64 p, .int .i64 bo, .int .i64 li, .slice Al ls.length cl, .bool pe, .int .i64 mi] 24)) g 24 #[.int .i64 p, .int .i64 bo, .int .i64 li, .slice Al ls.length cl, .bool pe, .int .i64 mi] := by rw [hg]; exact Blk.new _ _ _
  go_enter Try.func35, Try.ntmps35
  go_wp2_with fail
  generalize w.alloc (.cells #[.int .i64 p, .int .i64 bo, .int .i64 li, .slice Al ls.length cl, .bool pe, .int .i64 mi] 24) = W0 at *
  rw [← hg]
  replace hg := Lib.hid hg
  refine (refDrop10_any _ A n c vs p (by omega) ((hI.below hb0).more hb0.size) hv.out).mono ?_
  rintro e w5 ⟨A5, n5, c5, rest, rfl, hrest, hown, h5⟩
  have hb5 := hb0.trans (h5.mono hb0.size)
  have hgW : g < W0.heap.size := hB0.lt
  have hB5 := Lib.hid (hB0.below h5 hgW)
  have hz5 := h5.size
  have hb0s := hb0.size
  have hn5 : n5 ≤ n := by
    have h1 := congrArg List.length hrest
    have h2 := List.length_filter_le (fun x : Half => x.peer != p) (vs.map HV.h)
    rw [← hown.1]
    simp only [List.length_map, dropL] at h1 h2
    have := hll.out
    omega
  have hrp : Hid (riseH (rest.map HV.h)) := Lib.hid (by rw [hrest]; exact hp.out.filter _)
  have hrne : Hid (∀ x ∈ rest.map HV.h, x.peer ≠ p) := Lib.hid (by rw [hrest]; intro x hx; simpa using (List.mem_filter.1 hx).2)
  have hput : Hid (res = (rest.map HV.h).filter (fun x => decide (x.peer < p)) ++ ⟨p, bo, li, ls, pe, mi⟩ :: (rest.map HV.h).filter (fun x => decide (p < x.peer))) := Lib.hid (by
    rw [← hres.out, hrest, putL, dropL, List.filter_filter, List.filter_filter]
    congr 1
    · refine List.filter_congr fun x _ => ?_
      by_cases h : x.peer < p
      · have : x.peer ≠ p := by omega
        simp [h, this]
      · simp [h]
    · congr 1
      refine List.filter_congr fun x _ => ?_
      by_cases h : p < x.peer
      · have : x.peer ≠ p := by omega
        simp [h, this]
      · simp [h])
  have hl5 := Lib.hid hown.1
  have hn5c := hown.2.1
  replace hown := Lib.hid hown
  clear h5 hB0 hrest
  go_wp2_with fail
  go_loopw [8] (fun i wr => ∃ k : Nat, k ≤ n5 ∧ i = .int .i64 k ∧ (∀ x ∈ (rest.map HV.h).take k, x.peer < p) ∧ Below w5.heap.size w5 wr) (fun i _ => n5 - (intOf i).toNat)
  case atStart => exact ⟨0, Nat.zero_le _, rfl, fun x h => by simp at h, Below.refl _ _⟩
  case round =>
    obtain ⟨k, hk, rfl, hlow, hbr⟩ := hrel
    replace hlow := Lib.hid hlow
    have hk0 := (hB5.out.below hbr hB5.out.lt).cell 0
    simp only [List.getElem?_toArray, List.getElem?_cons_zero] at hk0
    have hglr : g < wr.heap.size := by have := hB5.out.lt; have := hbr.size; omega
    go_wp2_with fail
    refine wp_region_held_drew (S := fun W => Below wr.heap.size wr W) (by kernel_rfl) ((Below.refl _ _).drew) (fun hS0 => ?_)
    by_cases hlt : k < n5
    · have hlt' : (k : Int) < (n5 : Int) := by omega
      have hkl : k < rest.length := by have := hl5.out; omega
      have hHr := (hown.out.below hbr).halves
      obtain ⟨b, off, rfl, hbl, hxx⟩ := hHr.1.form HV.len (by omega) (by omega)
      have q0 := hxx k hkl 0 _ rfl
      simp only [Nat.add_zero] at q0
      obtain ⟨x, hx⟩ : ∃ x, rest[k].h.peer = x := ⟨_, rfl⟩
      rw [hx] at q0
      have hxm : (rest.map HV.h)[k]'(by simpa using hkl) = rest[k].h := by rw [List.getElem_map]
      replace hx := Lib.hid hx
      replace hxm := Lib.hid hxm
      clear hxx hHr
      by_cases hxp : x < p
      · (refine wpAnyH_take (i := 0) (oi := ⟨some 16, _, _, _, _, _⟩) rfl (by kernel_rfl) (by kernel_rfl) (by kernel_rfl) (fun _ _ _ h => h) (.inl ⟨rfl, fun _ _ => rfl⟩) (by assumption) ?_); try simp only [Act.put, List.setIfInBounds_toArray, List.set_cons_zero, List.set_cons_succ]
        (refine wpAnyH_take (i := 1) (oi := ⟨some 17, _, _, _, _, _⟩) rfl (by kernel_rfl) (by kernel_rfl) (by kernel_rfl) (fun _ _ _ h => h) (.inl ⟨rfl, fun _ _ => rfl⟩) (by assumption) ?_); try simp only [Act.put, List.setIfInBounds_toArray, List.set_cons_zero, List.set_cons_succ]
        (refine wpAnyH_take (i := 2) (oi := ⟨some 18, _, _, _, _, _⟩) rfl (by kernel_rfl) (by kernel_rfl) (by kernel_rfl) (fun _ _ _ h => h) (.inl ⟨rfl, fun W hS => by skip; go_simp; try rfl⟩) (by assumption) ?_); try simp only [Act.put, List.setIfInBounds_toArray, List.set_cons_zero, List.set_cons_succ]
        (refine wpAnyH_take (i := 3) (oi := ⟨some 19, _, _, _, _, _⟩) (v := .bool true) rfl (by kernel_rfl) (by kernel_rfl) (by kernel_rfl) (fun _ _ _ h => h) (.inl ⟨rfl, fun W hS => by go_simp; all_goals (try simp [*]); all_goals (try omega)⟩) (by assumption) ?_); try simp only [Act.put, List.setIfInBounds_toArray, List.set_cons_zero, List.set_cons_succ]
        (refine wpAnyH_take (i := 4) (oi := ⟨some 20, _, _, _, _, _⟩) rfl (by kernel_rfl) (by kernel_rfl) (by kernel_rfl) (fun _ _ _ h => h) (.inl ⟨rfl, fun _ _ => rfl⟩) (by assumption) ?_); try simp only [Act.put, List.setIfInBounds_toArray, List.set_cons_zero, List.set_cons_succ]
        (refine wpAnyH_take (i := 5) (oi := ⟨some 21, _, _, _, _, _⟩) rfl (by kernel_rfl) (by kernel_rfl) (by kernel_rfl) (fun _ _ _ h => h) (.inl ⟨rfl, fun _ _ => rfl⟩) (by assumption) ?_); try simp only [Act.put, List.setIfInBounds_toArray, List.set_cons_zero, List.set_cons_succ]
        (refine wpAnyH_take (i := 6) (oi := ⟨some 22, _, _, _, _, _⟩) rfl (by kernel_rfl) (by kernel_rfl) (by kernel_rfl) (fun _ _ _ h => h) (.inl ⟨rfl, fun _ _ => rfl⟩) (by assumption) ?_); try simp only [Act.put, List.setIfInBounds_toArray, List.set_cons_zero, List.set_cons_succ]
        (refine wpAnyH_take (i := 7) (oi := ⟨some 23, _, _, _, _, _⟩) rfl (by kernel_rfl) (by kernel_rfl) (by kernel_rfl) (fun _ _ _ h => h) (.inl ⟨rfl, fun W hS => by skip; go_simp; try rfl⟩) (by assumption) ?_); try simp only [Act.put, List.setIfInBounds_toArray, List.set_cons_zero, List.set_cons_succ]
        (refine wpAnyH_take (i := 8) (oi := ⟨some 24, _, _, _, _, _⟩) rfl (by kernel_rfl) (by kernel_rfl) (by kernel_rfl) (fun _ _ _ h => h) (.inl ⟨rfl, fun _ _ => rfl⟩) (by assumption) ?_); try simp only [Act.put, List.setIfInBounds_toArray, List.set_cons_zero, List.set_cons_succ]
        (refine wpAnyH_take (i := 9) (oi := ⟨some 25, _, _, _, _, _⟩) rfl (by kernel_rfl) (by kernel_rfl) (by kernel_rfl) (fun _ _ _ h => h) (.inl ⟨rfl, fun W hS => by (have c0 := (hS.cell (p := ⟨b, off + k * 6, none⟩) hbl).trans q0; have c1 := (hS.cell (p := ⟨g, 0, none⟩) hglr).trans hk0); go_simp; try rfl⟩) (by assumption) ?_); try simp only [Act.put, List.setIfInBounds_toArray, List.set_cons_zero, List.set_cons_succ]
        (refine wpAnyH_take (i := 10) (oi := ⟨some 26, _, _, _, _, _⟩) rfl (by kernel_rfl) (by kernel_rfl) (by kernel_rfl) (fun _ _ _ h => h) (.inl ⟨rfl, fun _ _ => rfl⟩) (by assumption) ?_); try simp only [Act.put, List.setIfInBounds_toArray, List.set_cons_zero, List.set_cons_succ]
        (refine wpAnyH_take (i := 11) (oi := ⟨some 27, _, _, _, _, _⟩) rfl (by kernel_rfl) (by kernel_rfl) (by kernel_rfl) (fun _ _ _ h => h) (.inl ⟨rfl, fun W hS => by (have c0 := (hS.cell (p := ⟨b, off + k * 6, none⟩) hbl).trans q0; have c1 := (hS.cell (p := ⟨g, 0, none⟩) hglr).trans hk0); go_simp; try rfl⟩) (by assumption) ?_); try simp only [Act.put, List.setIfInBounds_toArray, List.set_cons_zero, List.set_cons_succ]
        (refine wpAnyH_take (i := 12) (oi := ⟨some 28, _, _, _, _, _⟩) (v := .bool true) rfl (by kernel_rfl) (by kernel_rfl) (by kernel_rfl) (fun _ _ _ h => h) (.inl ⟨rfl, fun W hS => by go_simp; all_goals (try simp [*]); all_goals (try omega)⟩) (by assumption) ?_); try simp only [Act.put, List.setIfInBounds_toArray, List.set_cons_zero, List.set_cons_succ]
        (refine wpAnyH_take (i := 13) (oi := ⟨some 29, _, _, _, _, _⟩) rfl (by kernel_rfl) (by kernel_rfl) (by kernel_rfl) (fun _ _ _ h => h) (.inl ⟨rfl, fun _ _ => rfl⟩) (by assumption) ?_); try simp only [Act.put, List.setIfInBounds_toArray, List.set_cons_zero, List.set_cons_succ]
        refine wpAnyH_done (by kernel_rfl) ?_ _
        go_wp2_with fail
        go_roundw
        case rel => exact ⟨k + 1, by omega, by go_num, fun y hy => by
          have hkm : k < (rest.map HV.h).length := by simpa using hkl
          rw [List.take_add_one, List.getElem?_eq_getElem hkm, hxm.out] at hy
          rcases List.mem_append.1 hy with h | h
          · exact hlow.out y h
          · have : y = rest[k].h := by simpa using h
            subst this
            rw [hx.out]
            exact hxp, hbr.trans (hS0.mono hbr.size)⟩
        case measure => simp [intOf]; omega
      · (refine wpAnyH_take (i := 0) (oi := ⟨some 16, _, _, _, _, _⟩) rfl (by kernel_rfl) (by kernel_rfl) (by kernel_rfl) (fun _ _ _ h => h) (.inl ⟨rfl, fun _ _ => rfl⟩) (by assumption) ?_); try simp only [Act.put, List.setIfInBounds_toArray, List.set_cons_zero, List.set_cons_succ]
        (refine wpAnyH_take (i := 1) (oi := ⟨some 17, _, _, _, _, _⟩) rfl (by kernel_rfl) (by kernel_rfl) (by kernel_rfl) (fun _ _ _ h => h) (.inl ⟨rfl, fun _ _ => rfl⟩) (by assumption) ?_); try simp only [Act.put, List.setIfInBounds_toArray, List.set_cons_zero, List.set_cons_succ]
        (refine wpAnyH_take (i := 2) (oi := ⟨some 18, _, _, _, _, _⟩) rfl (by kernel_rfl) (by kernel_rfl) (by kernel_rfl) (fun _ _ _ h => h) (.inl ⟨rfl, fun W hS => by skip; go_simp; try rfl⟩) (by assumption) ?_); try simp only [Act.put, List.setIfInBounds_toArray, List.set_cons_zero, List.set_cons_succ]
        (refine wpAnyH_take (i := 3) (oi := ⟨some 19, _, _, _, _, _⟩) (v := .bool true) rfl (by kernel_rfl) (by kernel_rfl) (by kernel_rfl) (fun _ _ _ h => h) (.inl ⟨rfl, fun W hS => by go_simp; all_goals (try simp [*]); all_goals (try omega)⟩) (by assumption) ?_); try simp only [Act.put, List.setIfInBounds_toArray, List.set_cons_zero, List.set_cons_succ]
        (refine wpAnyH_take (i := 4) (oi := ⟨some 20, _, _, _, _, _⟩) rfl (by kernel_rfl) (by kernel_rfl) (by kernel_rfl) (fun _ _ _ h => h) (.inl ⟨rfl, fun _ _ => rfl⟩) (by assumption) ?_); try simp only [Act.put, List.setIfInBounds_toArray, List.set_cons_zero, List.set_cons_succ]
        (refine wpAnyH_take (i := 5) (oi := ⟨some 21, _, _, _, _, _⟩) rfl (by kernel_rfl) (by kernel_rfl) (by kernel_rfl) (fun _ _ _ h => h) (.inl ⟨rfl, fun _ _ => rfl⟩) (by assumption) ?_); try simp only [Act.put, List.setIfInBounds_toArray, List.set_cons_zero, List.set_cons_succ]
        (refine wpAnyH_take (i := 6) (oi := ⟨some 22, _, _, _, _, _⟩) rfl (by kernel_rfl) (by kernel_rfl) (by kernel_rfl) (fun _ _ _ h => h) (.inl ⟨rfl, fun _ _ => rfl⟩) (by assumption) ?_); try simp only [Act.put, List.setIfInBounds_toArray, List.set_cons_zero, List.set_cons_succ]
        (refine wpAnyH_take (i := 7) (oi := ⟨some 23, _, _, _, _, _⟩) rfl (by kernel_rfl) (by kernel_rfl) (by kernel_rfl) (fun _ _ _ h => h) (.inl ⟨rfl, fun W hS => by skip; go_simp; try rfl⟩) (by assumption) ?_); try simp only [Act.put, List.setIfInBounds_toArray, List.set_cons_zero, List.set_cons_succ]
        (refine wpAnyH_take (i := 8) (oi := ⟨some 24, _, _, _, _, _⟩) rfl (by kernel_rfl) (by kernel_rfl) (by kernel_rfl) (fun _ _ _ h => h) (.inl ⟨rfl, fun _ _ => rfl⟩) (by assumption) ?_); try simp only [Act.put, List.setIfInBounds_toArray, List.set_cons_zero, List.set_cons_succ]
        (refine wpAnyH_take (i := 9) (oi := ⟨some 25, _, _, _, _, _⟩) rfl (by kernel_rfl) (by kernel_rfl) (by kernel_rfl) (fun _ _ _ h => h) (.inl ⟨rfl, fun W hS => by (have c0 := (hS.cell (p := ⟨b, off + k * 6, none⟩) hbl).trans q0; have c1 := (hS.cell (p := ⟨g, 0, none⟩) hglr).trans hk0); go_simp; try rfl⟩) (by assumption) ?_); try simp only [Act.put, List.setIfInBounds_toArray, List.set_cons_zero, List.set_cons_succ]
        (refine wpAnyH_take (i := 10) (oi := ⟨some 26, _, _, _, _, _⟩) rfl (by kernel_rfl) (by kernel_rfl) (by kernel_rfl) (fun _ _ _ h => h) (.inl ⟨rfl, fun _ _ => rfl⟩) (by assumption) ?_); try simp only [Act.put, List.setIfInBounds_toArray, List.set_cons_zero, List.set_cons_succ]
        (refine wpAnyH_take (i := 11) (oi := ⟨some 27, _, _, _, _, _⟩) rfl (by kernel_rfl) (by kernel_rfl) (by kernel_rfl) (fun _ _ _ h => h) (.inl ⟨rfl, fun W hS => by (have c0 := (hS.cell (p := ⟨b, off + k * 6, none⟩) hbl).trans q0; have c1 := (hS.cell (p := ⟨g, 0, none⟩) hglr).trans hk0); go_simp; try rfl⟩) (by assumption) ?_); try simp only [Act.put, List.setIfInBounds_toArray, List.set_cons_zero, List.set_cons_succ]
        (refine wpAnyH_take (i := 12) (oi := ⟨some 28, _, _, _, _, _⟩) (v := .bool false) rfl (by kernel_rfl) (by kernel_rfl) (by kernel_rfl) (fun _ _ _ h => h) (.inl ⟨rfl, fun W hS => by go_simp; all_goals (try simp [*]); all_goals (try omega)⟩) (by assumption) ?_); try simp only [Act.put, List.setIfInBounds_toArray, List.set_cons_zero, List.set_cons_succ]
        (refine wpAnyH_take (i := 13) (oi := ⟨some 29, _, _, _, _, _⟩) rfl (by kernel_rfl) (by kernel_rfl) (by kernel_rfl) (fun _ _ _ h => h) (.inl ⟨rfl, fun _ _ => rfl⟩) (by assumption) ?_); try simp only [Act.put, List.setIfInBounds_toArray, List.set_cons_zero, List.set_cons_succ]
        refine wpAnyH_done (by kernel_rfl) ?_ _
        have hhi : Hid (∀ y ∈ (rest.map HV.h).drop k, p < y.peer) := Lib.hid (fun y hy => by
          have hkm : k < (rest.map HV.h).length := by simpa using hkl
          rw [List.drop_eq_getElem_cons hkm] at hy
          have h1 := hrne.out _ (List.getElem_mem hkm)
          have h2 : (rest.map HV.h)[k].peer = x := by rw [hxm.out, hx.out]
          rcases List.mem_cons.1 hy with h | h
          · rw [h]; omega
          · have := (rise_before hrp.out hkm).2 y h; omega)
        replace hbr := hbr.trans (hS0.mono hbr.size)
        clear q0 hk0 hS0
        generalize wr.drew = wr at *
        have hres2 : Hid (res = (rest.map HV.h).take k ++ ⟨p, bo, li, ls, pe, mi⟩ :: (rest.map HV.h).drop k) := Lib.hid (by
          rw [hput.out]
          exact put_split (h := ⟨p, bo, li, ls, pe, mi⟩) (List.take_append_drop k _).symm hlow.out hhi.out)
        have hcc : ¬ c5 = k := by omega
        have hkc : k ≤ c5 := by omega
        have hbe := hb5.trans (hbr.mono hb5.size)
        have hownr := hown.out.below hbr
        have hBr := hB5.out.below hbr (by have := hB5.out.lt; omega)
        have hbs := hbr.size
        have hon : wr.ownsRow w5.heap.size 24 6 (.slice none 0 0) 0 [] := World.ownsRow_nil _ _ _ _
        have hrd := reads_prefix HV.len (Reads.of_own hownr.2.2.1) hk hownr.1
        go_wp2_with ((with_reducible refine go_append_at (c := c5) half_slice half_inf hon hrd (half_one_flat _) ?a0 ?a1 ?a2 ?a3 ?a4 ?a5 ?a6 ?_); (case a0 => exact hbs); (case a1 => rfl); (case a2 => rfl); (case a3 => rfl); (case a4 => omega); (case a5 => unfold maxLen; omega); (case a6 => omega); rintro v6 w6 g1 g2 g3 -; obtain ⟨A6, c6, rfl, hc6⟩ := own_slice' g1; obtain ⟨k0, k1, k2, k3, k4, k5⟩ := cells6 (hBr.below (grown_none g3) hBr.lt))
        rw [Nat.zero_add, List.nil_append] at g1
        have hb6 := hbr.trans g2
        have hbe6 := hbe.trans ((grown_none g3).mono hbe.size)
        have hB6 := hBr.below (grown_none g3) hBr.lt
        clear g2 g3 hon hrd hownr hBr
        refine (refOne_any _ p bo li ls Al cl pe mi hls (Reads.more (Reads.below hL hbe6) hbe6.size)).mono ?_
        rintro e w7 ⟨A3, c3, rfl, hc3, hown3, h7⟩
        have hs6 := hbe6.size
        have hs5 := hb0s
        have hz6 := hb6.size
        have hO7 : OwnLs w7 W0.heap.size ⟨⟨p, bo, li, ls, pe, mi⟩, A3, c3⟩ := ⟨hc3, World.ownsRow.mono hown3 (by omega)⟩
        have hW7 : Below w6.heap.size w6 (w7.alloc (.cells #[.int .i64 p, .int .i64 bo, .int .i64 li, .slice A3 ls.length c3, .bool pe, .int .i64 mi] 24)) := h7.alloc h7.size _
        have hO7a := hO7.below ((Below.refl _ w7).alloc (Nat.le_refl _) (.cells #[.int .i64 p, .int .i64 bo, .int .i64 li, .slice A3 ls.length c3, .bool pe, .int .i64 mi] 24))
        have hr7 : Reads (w7.alloc (.cells #[.int .i64 p, .int .i64 bo, .int .i64 li, .slice A3 ls.length c3, .bool pe, .int .i64 mi] 24)) (w7.alloc (.cells #[.int .i64 p, .int .i64 bo, .int .i64 li, .slice A3 ls.length c3, .bool pe, .int .i64 mi] 24)).heap.size 6 (some ⟨w7.heap.size, 0, none⟩) 1 (HV.cells ⟨⟨p, bo, li, ls, pe, mi⟩, A3, c3⟩) :=
          Reads.of_blk (Blk.new w7 24 #[.int .i64 p, .int .i64 bo, .int .i64 li, .slice A3 ls.length c3, .bool pe, .int .i64 mi]) rfl (fun j u h => by simpa [HV.cells] using h)
        have ho7 := own_below g1 hW7 fun i hi => (g1.lt i hi).2
        have hbs7 : w5.heap.size ≤ (w7.alloc (.cells #[.int .i64 p, .int .i64 bo, .int .i64 li, .slice A3 ls.length c3, .bool pe, .int .i64 mi] 24)).heap.size := Nat.le_trans hz6 hW7.size
        clear hown3 h7 k0 k1 k2 k3 k4 k5 hO7
        simp only [HV.val]
        go_wp2_with (first
          | ((with_reducible refine go_append_at (c := 1) half_slice half_inf ho7 hr7 (HV.one _) ?a0 ?a1 ?a2 ?a3 ?a4 ?a5 ?a6 ?_); (case a0 => exact hbs7); (case a1 => rfl); (case a2 => rfl); (case a3 => rfl); (case a4 => omega); (case a5 => unfold maxLen; omega); (case a6 => omega); rintro v8 w8 f1 f2 f3 -; obtain ⟨A8, c8, rfl, hc8⟩ := own_slice' f1; have hO8 := hO7a.grown f3 (fun j e => own_at ho7 e); have hb8 := (hb6.trans (hW7.mono hz6)).trans f2; have hbe8 := hbe6.trans ((hW7.mono hbe6.size).trans (f2.mono (by omega))); have hown8 := hown.out.below hb8; have hrd2 := reads_suffix HV.len (A := some ⟨b, off + k * 6, none⟩) (Reads.of_own hown8.2.2.1) hk hown8.1 (fun _ => rfl))
          | ((with_reducible refine go_append_at (c := (c5 - k)) half_slice half_inf f1 hrd2 (half_one_flat _) ?a0 ?a1 ?a2 ?a3 ?a4 ?a5 ?a6 ?_); (case a0 => have := hb8.size; omega); (case a1 => rfl); (case a2 => rfl); (case a3 => rfl); (case a4 => omega); (case a5 => unfold maxLen; omega); (case a6 => omega); rintro v9 w9 e1 e2 e3 -; obtain ⟨A9, c9, rfl, hc9⟩ := own_slice' e1))
        go_ret
        have hO9 := hO8.grown e3 (fun j e => own_at f1 e)
        have hown9 := hown.out.below (hb8.trans e2)
        have hbe9 := hbe8.trans (e2.mono (by omega))
        have hfl : flat HV.cells (rest.take k) ++ HV.cells ⟨⟨p, bo, li, ls, pe, mi⟩, A3, c3⟩ ++ flat HV.cells (rest.drop k) = flat HV.cells (rest.take k ++ ⟨⟨p, bo, li, ls, pe, mi⟩, A3, c3⟩ :: (rest.drop k)) := by
          rw [flat_append, flat_cons, List.append_assoc]
        refine ⟨A9, _, c9, rest.take k ++ ⟨⟨p, bo, li, ls, pe, mi⟩, A3, c3⟩ :: rest.drop k, rfl, ?_, ⟨?_, hc9, ?_, fun y hy => ?_⟩, hbe9⟩
        · rw [hres2.out, List.map_append, List.map_cons, List.map_take, List.map_drop]
        · have := hl5.out
          rw [List.length_append, List.length_cons, List.length_take, List.length_drop]; omega
        · skip
          rw [← hfl]
          exact World.ownsRow.mono e1 (by omega)
        · rcases List.mem_append.1 hy with h | h
          · exact (hown9.2.2.2 y (List.mem_of_mem_take h)).more hs5
          · rcases List.mem_cons.1 h with rfl | h
            · exact hO9.more hs5
            · exact (hown9.2.2.2 y (List.mem_of_mem_drop h)).more hs5
    · obtain rfl : k = n5 := by omega
      have hres2 : Hid (res = (rest.map HV.h).take k ++ ⟨p, bo, li, ls, pe, mi⟩ :: (rest.map HV.h).drop k) := Lib.hid (by
        rw [hput.out]
        exact put_split (h := ⟨p, bo, li, ls, pe, mi⟩) (List.take_append_drop k _).symm hlow.out (fun y hy => by
          rw [List.drop_of_length_le (by simp [hl5.out])] at hy
          simp at hy))
      have hdr : Hid (rest.drop k = []) := Lib.hid (List.drop_of_length_le (by simp [hl5.out]))
      (refine wpAnyH_take (i := 0) (oi := ⟨some 16, _, _, _, _, _⟩) rfl (by kernel_rfl) (by kernel_rfl) (by kernel_rfl) (fun _ _ _ h => h) (.inl ⟨rfl, fun _ _ => rfl⟩) (by assumption) ?_); try simp only [Act.put, List.setIfInBounds_toArray, List.set_cons_zero, List.set_cons_succ]
      (refine wpAnyH_take (i := 1) (oi := ⟨some 17, _, _, _, _, _⟩) rfl (by kernel_rfl) (by kernel_rfl) (by kernel_rfl) (fun _ _ _ h => h) (.inl ⟨rfl, fun _ _ => rfl⟩) (by assumption) ?_); try simp only [Act.put, List.setIfInBounds_toArray, List.set_cons_zero, List.set_cons_succ]
      (refine wpAnyH_take (i := 2) (oi := ⟨some 18, _, _, _, _, _⟩) rfl (by kernel_rfl) (by kernel_rfl) (by kernel_rfl) (fun _ _ _ h => h) (.inl ⟨rfl, fun W hS => by skip; go_simp; try rfl⟩) (by assumption) ?_); try simp only [Act.put, List.setIfInBounds_toArray, List.set_cons_zero, List.set_cons_succ]
      (refine wpAnyH_take (i := 3) (oi := ⟨some 19, _, _, _, _, _⟩) (v := .bool false) rfl (by kernel_rfl) (by kernel_rfl) (by kernel_rfl) (fun _ _ _ h => h) (.inl ⟨rfl, fun W hS => by go_simp; all_goals (try simp [*]); all_goals (try omega)⟩) (by assumption) ?_); try simp only [Act.put, List.setIfInBounds_toArray, List.set_cons_zero, List.set_cons_succ]
      (refine wpAnyH_take (i := 4) (oi := ⟨some 20, _, _, _, _, _⟩) rfl (by kernel_rfl) (by kernel_rfl) (by kernel_rfl) (fun _ _ _ h => h) (.inl ⟨rfl, fun _ _ => rfl⟩) (by assumption) ?_); try simp only [Act.put, List.setIfInBounds_toArray, List.set_cons_zero, List.set_cons_succ]
      (refine wpAnyH_take (i := 5) (oi := ⟨some 21, _, _, _, _, _⟩) rfl (by kernel_rfl) (by kernel_rfl) (by kernel_rfl) (fun _ _ _ h => h) (.inr ⟨rfl, rfl⟩) (by assumption) ?_); try simp only [Act.put, List.setIfInBounds_toArray, List.set_cons_zero, List.set_cons_succ]
      (refine wpAnyH_take (i := 6) (oi := ⟨some 22, _, _, _, _, _⟩) rfl (by kernel_rfl) (by kernel_rfl) (by kernel_rfl) (fun _ _ _ h => h) (.inr ⟨rfl, rfl⟩) (by assumption) ?_); try simp only [Act.put, List.setIfInBounds_toArray, List.set_cons_zero, List.set_cons_succ]
      (refine wpAnyH_take (i := 7) (oi := ⟨some 23, _, _, _, _, _⟩) rfl (by kernel_rfl) (by kernel_rfl) (by kernel_rfl) (fun _ _ _ h => h) (.inr ⟨rfl, rfl⟩) (by assumption) ?_); try simp only [Act.put, List.setIfInBounds_toArray, List.set_cons_zero, List.set_cons_succ]
      (refine wpAnyH_take (i := 8) (oi := ⟨some 24, _, _, _, _, _⟩) rfl (by kernel_rfl) (by kernel_rfl) (by kernel_rfl) (fun _ _ _ h => h) (.inr ⟨rfl, rfl⟩) (by assumption) ?_); try simp only [Act.put, List.setIfInBounds_toArray, List.set_cons_zero, List.set_cons_succ]
      (refine wpAnyH_take (i := 9) (oi := ⟨some 25, _, _, _, _, _⟩) rfl (by kernel_rfl) (by kernel_rfl) (by kernel_rfl) (fun _ _ _ h => h) (.inr ⟨rfl, rfl⟩) (by assumption) ?_); try simp only [Act.put, List.setIfInBounds_toArray, List.set_cons_zero, List.set_cons_succ]
      (refine wpAnyH_take (i := 10) (oi := ⟨some 26, _, _, _, _, _⟩) rfl (by kernel_rfl) (by kernel_rfl) (by kernel_rfl) (fun _ _ _ h => h) (.inr ⟨rfl, rfl⟩) (by assumption) ?_); try simp only [Act.put, List.setIfInBounds_toArray, List.set_cons_zero, List.set_cons_succ]
      (refine wpAnyH_take (i := 11) (oi := ⟨some 27, _, _, _, _, _⟩) rfl (by kernel_rfl) (by kernel_rfl) (by kernel_rfl) (fun _ _ _ h => h) (.inr ⟨rfl, rfl⟩) (by assumption) ?_); try simp only [Act.put, List.setIfInBounds_toArray, List.set_cons_zero, List.set_cons_succ]
      (refine wpAnyH_take (i := 12) (oi := ⟨some 28, _, _, _, _, _⟩) rfl (by kernel_rfl) (by kernel_rfl) (by kernel_rfl) (fun _ _ _ h => h) (.inr ⟨rfl, rfl⟩) (by assumption) ?_); try simp only [Act.put, List.setIfInBounds_toArray, List.set_cons_zero, List.set_cons_succ]
      (refine wpAnyH_take (i := 13) (oi := ⟨some 29, _, _, _, _, _⟩) rfl (by kernel_rfl) (by kernel_rfl) (by kernel_rfl) (fun _ _ _ h => h) (.inl ⟨rfl, fun _ _ => rfl⟩) (by assumption) ?_); try simp only [Act.put, List.setIfInBounds_toArray, List.set_cons_zero, List.set_cons_succ]
      refine wpAnyH_done (by kernel_rfl) ?_ _
      replace hbr := hbr.trans (hS0.mono hbr.size)
      clear hk0 hS0
      generalize wr.drew = wr at *
      have hz0 : ∀ (W : World) (B : Nat) (X : Option Addr), Reads W B 6 X 0 (flat HV.cells ([] : List HV)) := fun W B X => ⟨by simp [flat], fun h => absurd h (by omega)⟩
      replace hz0 := Lib.hid hz0
      cases A5 with
      | none =>
        have hbe := hb5.trans (hbr.mono hb5.size)
        have hownr := hown.out.below hbr
        have hBr := hB5.out.below hbr (by have := hB5.out.lt; omega)
        have hbs := hbr.size
        have hon : wr.ownsRow w5.heap.size 24 6 (.slice none 0 0) 0 [] := World.ownsRow_nil _ _ _ _
        have hrd := reads_prefix HV.len (Reads.of_own hownr.2.2.1) hk hownr.1
        go_wp2_with ((with_reducible refine go_append_at (c := c5) half_slice half_inf hon hrd (half_one_flat _) ?a0 ?a1 ?a2 ?a3 ?a4 ?a5 ?a6 ?_); (case a0 => exact hbs); (case a1 => rfl); (case a2 => rfl); (case a3 => rfl); (case a4 => omega); (case a5 => unfold maxLen; omega); (case a6 => omega); rintro v6 w6 g1 g2 g3 -; obtain ⟨A6, c6, rfl, hc6⟩ := own_slice' g1; obtain ⟨k0, k1, k2, k3, k4, k5⟩ := cells6 (hBr.below (grown_none g3) hBr.lt))
        rw [Nat.zero_add, List.nil_append] at g1
        have hb6 := hbr.trans g2
        have hbe6 := hbe.trans ((grown_none g3).mono hbe.size)
        have hB6 := hBr.below (grown_none g3) hBr.lt
        clear g2 g3 hon hrd hownr hBr
        refine (refOne_any _ p bo li ls Al cl pe mi hls (Reads.more (Reads.below hL hbe6) hbe6.size)).mono ?_
        rintro e w7 ⟨A3, c3, rfl, hc3, hown3, h7⟩
        have hs6 := hbe6.size
        have hs5 := hb0s
        have hz6 := hb6.size
        have hO7 : OwnLs w7 W0.heap.size ⟨⟨p, bo, li, ls, pe, mi⟩, A3, c3⟩ := ⟨hc3, World.ownsRow.mono hown3 (by omega)⟩
        have hW7 : Below w6.heap.size w6 (w7.alloc (.cells #[.int .i64 p, .int .i64 bo, .int .i64 li, .slice A3 ls.length c3, .bool pe, .int .i64 mi] 24)) := h7.alloc h7.size _
        have hO7a := hO7.below ((Below.refl _ w7).alloc (Nat.le_refl _) (.cells #[.int .i64 p, .int .i64 bo, .int .i64 li, .slice A3 ls.length c3, .bool pe, .int .i64 mi] 24))
        have hr7 : Reads (w7.alloc (.cells #[.int .i64 p, .int .i64 bo, .int .i64 li, .slice A3 ls.length c3, .bool pe, .int .i64 mi] 24)) (w7.alloc (.cells #[.int .i64 p, .int .i64 bo, .int .i64 li, .slice A3 ls.length c3, .bool pe, .int .i64 mi] 24)).heap.size 6 (some ⟨w7.heap.size, 0, none⟩) 1 (HV.cells ⟨⟨p, bo, li, ls, pe, mi⟩, A3, c3⟩) :=
          Reads.of_blk (Blk.new w7 24 #[.int .i64 p, .int .i64 bo, .int .i64 li, .slice A3 ls.length c3, .bool pe, .int .i64 mi]) rfl (fun j u h => by simpa [HV.cells] using h)
        have ho7 := own_below g1 hW7 fun i hi => (g1.lt i hi).2
        have hbs7 : w5.heap.size ≤ (w7.alloc (.cells #[.int .i64 p, .int .i64 bo, .int .i64 li, .slice A3 ls.length c3, .bool pe, .int .i64 mi] 24)).heap.size := Nat.le_trans hz6 hW7.size
        clear hown3 h7 k0 k1 k2 k3 k4 k5 hO7
        simp only [HV.val]
        go_wp2_with (first
          | ((with_reducible refine go_append_at (c := 1) half_slice half_inf ho7 hr7 (HV.one _) ?a0 ?a1 ?a2 ?a3 ?a4 ?a5 ?a6 ?_); (case a0 => exact hbs7); (case a1 => rfl); (case a2 => rfl); (case a3 => rfl); (case a4 => omega); (case a5 => unfold maxLen; omega); (case a6 => omega); rintro v8 w8 f1 f2 f3 -; obtain ⟨A8, c8, rfl, hc8⟩ := own_slice' f1; have hO8 := hO7a.grown f3 (fun j e => own_at ho7 e); have hb8 := (hb6.trans (hW7.mono hz6)).trans f2; have hbe8 := hbe6.trans ((hW7.mono hbe6.size).trans (f2.mono (by omega))); have hown8 := hown.out.below hb8; have hrd2 := hz0.out w8 w8.heap.size none)
          | ((with_reducible refine go_append_at (c := (c5 - k)) half_slice half_inf f1 hrd2 (half_one_flat _) ?a0 ?a1 ?a2 ?a3 ?a4 ?a5 ?a6 ?_); (case a0 => have := hb8.size; omega); (case a1 => rfl); (case a2 => rfl); (case a3 => rfl); (case a4 => omega); (case a5 => unfold maxLen; omega); (case a6 => omega); rintro v9 w9 e1 e2 e3 -; obtain ⟨A9, c9, rfl, hc9⟩ := own_slice' e1))
        go_ret
        have hO9 := hO8.grown e3 (fun j e => own_at f1 e)
        have hown9 := hown.out.below (hb8.trans e2)
        have hbe9 := hbe8.trans (e2.mono (by omega))
        have hfl : flat HV.cells (rest.take k) ++ HV.cells ⟨⟨p, bo, li, ls, pe, mi⟩, A3, c3⟩ ++ flat HV.cells ([]) = flat HV.cells (rest.take k ++ ⟨⟨p, bo, li, ls, pe, mi⟩, A3, c3⟩ :: ([])) := by
          rw [flat_append, flat_cons, List.append_assoc]
        refine ⟨A9, _, c9, rest.take k ++ ⟨⟨p, bo, li, ls, pe, mi⟩, A3, c3⟩ :: rest.drop k, rfl, ?_, ⟨?_, hc9, ?_, fun y hy => ?_⟩, hbe9⟩
        · rw [hres2.out, List.map_append, List.map_cons, List.map_take, List.map_drop]
        · have := hl5.out
          rw [List.length_append, List.length_cons, List.length_take, List.length_drop]; omega
        · rw [hdr.out]
          rw [← hfl]
          exact World.ownsRow.mono e1 (by omega)
        · rcases List.mem_append.1 hy with h | h
          · exact (hown9.2.2.2 y (List.mem_of_mem_take h)).more hs5
          · rcases List.mem_cons.1 h with rfl | h
            · exact hO9.more hs5
            · exact (hown9.2.2.2 y (List.mem_of_mem_drop h)).more hs5
      | some ad =>
        obtain ⟨b, off, rfl⟩ : ∃ b off, ad = ⟨b, off, none⟩ := by
          rcases hown.out.2.2.1.2 with ⟨h2, _⟩ | ⟨g', cap, cur, e, _⟩
          · cases h2
          · cases e; exact ⟨_, _, rfl⟩
        by_cases hcc : c5 = k
        · have hcc' := hcc.symm
          subst hcc'
          have hbe := hb5.trans (hbr.mono hb5.size)
          have hownr := hown.out.below hbr
          have hBr := hB5.out.below hbr (by have := hB5.out.lt; omega)
          have hbs := hbr.size
          have hon : wr.ownsRow w5.heap.size 24 6 (.slice none 0 0) 0 [] := World.ownsRow_nil _ _ _ _
          have hrd := reads_prefix HV.len (Reads.of_own hownr.2.2.1) hk hownr.1
          go_wp2_with ((with_reducible refine go_append_at (c := k) half_slice half_inf hon hrd (half_one_flat _) ?a0 ?a1 ?a2 ?a3 ?a4 ?a5 ?a6 ?_); (case a0 => exact hbs); (case a1 => rfl); (case a2 => rfl); (case a3 => rfl); (case a4 => omega); (case a5 => unfold maxLen; omega); (case a6 => omega); rintro v6 w6 g1 g2 g3 -; obtain ⟨A6, c6, rfl, hc6⟩ := own_slice' g1; obtain ⟨k0, k1, k2, k3, k4, k5⟩ := cells6 (hBr.below (grown_none g3) hBr.lt))
          rw [Nat.zero_add, List.nil_append] at g1
          have hb6 := hbr.trans g2
          have hbe6 := hbe.trans ((grown_none g3).mono hbe.size)
          have hB6 := hBr.below (grown_none g3) hBr.lt
          clear g2 g3 hon hrd hownr hBr
          refine (refOne_any _ p bo li ls Al cl pe mi hls (Reads.more (Reads.below hL hbe6) hbe6.size)).mono ?_
          rintro e w7 ⟨A3, c3, rfl, hc3, hown3, h7⟩
          have hs6 := hbe6.size
          have hs5 := hb0s
          have hz6 := hb6.size
          have hO7 : OwnLs w7 W0.heap.size ⟨⟨p, bo, li, ls, pe, mi⟩, A3, c3⟩ := ⟨hc3, World.ownsRow.mono hown3 (by omega)⟩
          have hW7 : Below w6.heap.size w6 (w7.alloc (.cells #[.int .i64 p, .int .i64 bo, .int .i64 li, .slice A3 ls.length c3, .bool pe, .int .i64 mi] 24)) := h7.alloc h7.size _
          have hO7a := hO7.below ((Below.refl _ w7).alloc (Nat.le_refl _) (.cells #[.int .i64 p, .int .i64 bo, .int .i64 li, .slice A3 ls.length c3, .bool pe, .int .i64 mi] 24))
          have hr7 : Reads (w7.alloc (.cells #[.int .i64 p, .int .i64 bo, .int .i64 li, .slice A3 ls.length c3, .bool pe, .int .i64 mi] 24)) (w7.alloc (.cells #[.int .i64 p, .int .i64 bo, .int .i64 li, .slice A3 ls.length c3, .bool pe, .int .i64 mi] 24)).heap.size 6 (some ⟨w7.heap.size, 0, none⟩) 1 (HV.cells ⟨⟨p, bo, li, ls, pe, mi⟩, A3, c3⟩) :=
            Reads.of_blk (Blk.new w7 24 #[.int .i64 p, .int .i64 bo, .int .i64 li, .slice A3 ls.length c3, .bool pe, .int .i64 mi]) rfl (fun j u h => by simpa [HV.cells] using h)
          have ho7 := own_below g1 hW7 fun i hi => (g1.lt i hi).2
          have hbs7 : w5.heap.size ≤ (w7.alloc (.cells #[.int .i64 p, .int .i64 bo, .int .i64 li, .slice A3 ls.length c3, .bool pe, .int .i64 mi] 24)).heap.size := Nat.le_trans hz6 hW7.size
          clear hown3 h7 k0 k1 k2 k3 k4 k5 hO7
          simp only [HV.val]
          go_wp2_with (first
            | ((with_reducible refine go_append_at (c := 1) half_slice half_inf ho7 hr7 (HV.one _) ?a0 ?a1 ?a2 ?a3 ?a4 ?a5 ?a6 ?_); (case a0 => exact hbs7); (case a1 => rfl); (case a2 => rfl); (case a3 => rfl); (case a4 => omega); (case a5 => unfold maxLen; omega); (case a6 => omega); rintro v8 w8 f1 f2 f3 -; obtain ⟨A8, c8, rfl, hc8⟩ := own_slice' f1; have hO8 := hO7a.grown f3 (fun j e => own_at ho7 e); have hb8 := (hb6.trans (hW7.mono hz6)).trans f2; have hbe8 := hbe6.trans ((hW7.mono hbe6.size).trans (f2.mono (by omega))); have hown8 := hown.out.below hb8; have hrd2 := hz0.out w8 w8.heap.size (some ⟨b, off, none⟩))
            | ((with_reducible refine go_append_at (c := 0) half_slice half_inf f1 hrd2 (half_one_flat _) ?a0 ?a1 ?a2 ?a3 ?a4 ?a5 ?a6 ?_); (case a0 => have := hb8.size; omega); (case a1 => rfl); (case a2 => rfl); (case a3 => rfl); (case a4 => omega); (case a5 => unfold maxLen; omega); (case a6 => omega); rintro v9 w9 e1 e2 e3 -; obtain ⟨A9, c9, rfl, hc9⟩ := own_slice' e1))
          go_ret
          have hO9 := hO8.grown e3 (fun j e => own_at f1 e)
          have hown9 := hown.out.below (hb8.trans e2)
          have hbe9 := hbe8.trans (e2.mono (by omega))
          have hfl : flat HV.cells (rest.take k) ++ HV.cells ⟨⟨p, bo, li, ls, pe, mi⟩, A3, c3⟩ ++ flat HV.cells ([]) = flat HV.cells (rest.take k ++ ⟨⟨p, bo, li, ls, pe, mi⟩, A3, c3⟩ :: ([])) := by
            rw [flat_append, flat_cons, List.append_assoc]
          refine ⟨A9, _, c9, rest.take k ++ ⟨⟨p, bo, li, ls, pe, mi⟩, A3, c3⟩ :: rest.drop k, rfl, ?_, ⟨?_, hc9, ?_, fun y hy => ?_⟩, hbe9⟩
          · rw [hres2.out, List.map_append, List.map_cons, List.map_take, List.map_drop]
          · have := hl5.out
            rw [List.length_append, List.length_cons, List.length_take, List.length_drop]; omega
          · rw [hdr.out]
            rw [← hfl]
            exact World.ownsRow.mono e1 (by omega)
          · rcases List.mem_append.1 hy with h | h
            · exact (hown9.2.2.2 y (List.mem_of_mem_take h)).more hs5
            · rcases List.mem_cons.1 h with rfl | h
              · exact hO9.more hs5
              · exact (hown9.2.2.2 y (List.mem_of_mem_drop h)).more hs5
        · have hbe := hb5.trans (hbr.mono hb5.size)
          have hownr := hown.out.below hbr
          have hBr := hB5.out.below hbr (by have := hB5.out.lt; omega)
          have hbs := hbr.size
          have hon : wr.ownsRow w5.heap.size 24 6 (.slice none 0 0) 0 [] := World.ownsRow_nil _ _ _ _
          have hrd := reads_prefix HV.len (Reads.of_own hownr.2.2.1) hk hownr.1
          go_wp2_with ((with_reducible refine go_append_at (c := c5) half_slice half_inf hon hrd (half_one_flat _) ?a0 ?a1 ?a2 ?a3 ?a4 ?a5 ?a6 ?_); (case a0 => exact hbs); (case a1 => rfl); (case a2 => rfl); (case a3 => rfl); (case a4 => omega); (case a5 => unfold maxLen; omega); (case a6 => omega); rintro v6 w6 g1 g2 g3 -; obtain ⟨A6, c6, rfl, hc6⟩ := own_slice' g1; obtain ⟨k0, k1, k2, k3, k4, k5⟩ := cells6 (hBr.below (grown_none g3) hBr.lt))
          rw [Nat.zero_add, List.nil_append] at g1
          have hb6 := hbr.trans g2
          have hbe6 := hbe.trans ((grown_none g3).mono hbe.size)
          have hB6 := hBr.below (grown_none g3) hBr.lt
          clear g2 g3 hon hrd hownr hBr
          refine (refOne_any _ p bo li ls Al cl pe mi hls (Reads.more (Reads.below hL hbe6) hbe6.size)).mono ?_
          rintro e w7 ⟨A3, c3, rfl, hc3, hown3, h7⟩
          have hs6 := hbe6.size
          have hs5 := hb0s
          have hz6 := hb6.size
          have hO7 : OwnLs w7 W0.heap.size ⟨⟨p, bo, li, ls, pe, mi⟩, A3, c3⟩ := ⟨hc3, World.ownsRow.mono hown3 (by omega)⟩
          have hW7 : Below w6.heap.size w6 (w7.alloc (.cells #[.int .i64 p, .int .i64 bo, .int .i64 li, .slice A3 ls.length c3, .bool pe, .int .i64 mi] 24)) := h7.alloc h7.size _
          have hO7a := hO7.below ((Below.refl _ w7).alloc (Nat.le_refl _) (.cells #[.int .i64 p, .int .i64 bo, .int .i64 li, .slice A3 ls.length c3, .bool pe, .int .i64 mi] 24))
          have hr7 : Reads (w7.alloc (.cells #[.int .i64 p, .int .i64 bo, .int .i64 li, .slice A3 ls.length c3, .bool pe, .int .i64 mi] 24)) (w7.alloc (.cells #[.int .i64 p, .int .i64 bo, .int .i64 li, .slice A3 ls.length c3, .bool pe, .int .i64 mi] 24)).heap.size 6 (some ⟨w7.heap.size, 0, none⟩) 1 (HV.cells ⟨⟨p, bo, li, ls, pe, mi⟩, A3, c3⟩) :=
            Reads.of_blk (Blk.new w7 24 #[.int .i64 p, .int .i64 bo, .int .i64 li, .slice A3 ls.length c3, .bool pe, .int .i64 mi]) rfl (fun j u h => by simpa [HV.cells] using h)
          have ho7 := own_below g1 hW7 fun i hi => (g1.lt i hi).2
          have hbs7 : w5.heap.size ≤ (w7.alloc (.cells #[.int .i64 p, .int .i64 bo, .int .i64 li, .slice A3 ls.length c3, .bool pe, .int .i64 mi] 24)).heap.size := Nat.le_trans hz6 hW7.size
          clear hown3 h7 k0 k1 k2 k3 k4 k5 hO7
          simp only [HV.val]
          go_wp2_with (first
            | ((with_reducible refine go_append_at (c := 1) half_slice half_inf ho7 hr7 (HV.one _) ?a0 ?a1 ?a2 ?a3 ?a4 ?a5 ?a6 ?_); (case a0 => exact hbs7); (case a1 => rfl); (case a2 => rfl); (case a3 => rfl); (case a4 => omega); (case a5 => unfold maxLen; omega); (case a6 => omega); rintro v8 w8 f1 f2 f3 -; obtain ⟨A8, c8, rfl, hc8⟩ := own_slice' f1; have hO8 := hO7a.grown f3 (fun j e => own_at ho7 e); have hb8 := (hb6.trans (hW7.mono hz6)).trans f2; have hbe8 := hbe6.trans ((hW7.mono hbe6.size).trans (f2.mono (by omega))); have hown8 := hown.out.below hb8; have hrd2 := hz0.out w8 w8.heap.size (some ⟨b, off + k * 6, none⟩))
            | ((with_reducible refine go_append_at (c := (c5 - k)) half_slice half_inf f1 hrd2 (half_one_flat _) ?a0 ?a1 ?a2 ?a3 ?a4 ?a5 ?a6 ?_); (case a0 => have := hb8.size; omega); (case a1 => rfl); (case a2 => rfl); (case a3 => rfl); (case a4 => omega); (case a5 => unfold maxLen; omega); (case a6 => omega); rintro v9 w9 e1 e2 e3 -; obtain ⟨A9, c9, rfl, hc9⟩ := own_slice' e1))
          go_ret
          have hO9 := hO8.grown e3 (fun j e => own_at f1 e)
          have hown9 := hown.out.below (hb8.trans e2)
          have hbe9 := hbe8.trans (e2.mono (by omega))
          have hfl : flat HV.cells (rest.take k) ++ HV.cells ⟨⟨p, bo, li, ls, pe, mi⟩, A3, c3⟩ ++ flat HV.cells ([]) = flat HV.cells (rest.take k ++ ⟨⟨p, bo, li, ls, pe, mi⟩, A3, c3⟩ :: ([])) := by
            rw [flat_append, flat_cons, List.append_assoc]
          refine ⟨A9, _, c9, rest.take k ++ ⟨⟨p, bo, li, ls, pe, mi⟩, A3, c3⟩ :: rest.drop k, rfl, ?_, ⟨?_, hc9, ?_, fun y hy => ?_⟩, hbe9⟩
          · rw [hres2.out, List.map_append, List.map_cons, List.map_take, List.map_drop]
          · have := hl5.out
            rw [List.length_append, List.length_cons, List.length_take, List.length_drop]; omega
          · rw [hdr.out]
            rw [← hfl]
            exact World.ownsRow.mono e1 (by omega)
          · rcases List.mem_append.1 hy with h | h
            · exact (hown9.2.2.2 y (List.mem_of_mem_take h)).more hs5
            · rcases List.mem_cons.1 h with rfl | h
              · exact hO9.more hs5
              · exact (hown9.2.2.2 y (List.mem_of_mem_drop h)).more hs5

end Go.Proofs.Ytogkcokgcoookaa
