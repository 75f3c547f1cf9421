/-
  Layer 5 (wire): the document's Fit answers some bool; true only of a packet whose numbers are in their bounds.
-/
import Derived.Test.YtkbcnapfcojekaaItem
import Derived.Test.YtkbcnapfcojekaaShakeJ
import Derived.BigGuardPart
import Derived.WalkLawsBesides
import Derived.Deep.RegionHeld3
namespace Go.Proofs.Ytkbcnapfcojekaa
open Go.ChangeShapes Go.WideShapes Go.ChangeAt Go.RowKit Go.Shelf Go.Ed

/-- api.Item -/
structure Itm where
  nm : ByteArray
  ep : Int
  mak : Int
  al : Bool
  kd : Int
  sc : Int
  ve : Int
  wt : Int
  fl : Int
  hr : Bool
  rs : Int
  h1 : Bool
  v1 : Int
  o1 : Int
  a1 : Int
  h2 : Bool
  v2 : Int
  o2 : Int
  a2 : Int
def Itm.cells (x : Itm) : List Value := [.string x.nm, .int .i64 x.ep, .int .i64 x.mak, .bool x.al, .int .i64 x.kd, .int .i64 x.sc, .int .i64 x.ve, .int .i64 x.wt, .int .i64 x.fl, .bool x.hr, .int .i64 x.rs, .bool x.h1, .int .i64 x.v1, .int .i64 x.o1, .int .i64 x.a1, .bool x.h2, .int .i64 x.v2, .int .i64 x.o2, .int .i64 x.a2]

/-- n items lie there -/
def ItemsAt (w : World) (B : Nat) (A : Option Addr) (n : Nat) : Prop := 0 < n → ∃ b off, A = some ⟨b, off, none⟩ ∧ b < B ∧ ∀ k, k < n → ∃ x : Itm, x.nm.size ≤ maxLen ∧ ∀ j v, x.cells[j]? = some v → w.cell? ⟨b, off + k * 19 + j, none⟩ = some v
theorem ItemsAt.below {w w' : World} {B n : Nat} {A : Option Addr} (h : ItemsAt w B A n) (hb : Below B w w') : ItemsAt w' B A n := fun hn => by
  obtain ⟨b, off, e, hl, hx⟩ := h hn
  refine ⟨b, off, e, hl, fun k hk => ?_⟩
  obtain ⟨x, h1, h2⟩ := hx k hk
  exact ⟨x, h1, fun j v hv => (hb.cell (p := ⟨b, off + k * 19 + j, none⟩) hl).trans (h2 j v hv)⟩
theorem ItemsAt.more {w : World} {B B' n : Nat} {A : Option Addr} (h : ItemsAt w B A n) (hb : B ≤ B') : ItemsAt w B' A n := fun hn => by
  obtain ⟨b, off, e, hl, hx⟩ := h hn
  exact ⟨b, off, e, by omega, hx⟩

/-- what a fit packet's numbers are -/
def FitB (kd src dst bo li ec el : Int) : Prop := 1 ≤ kd ∧ kd ≤ 5 ∧ isNode src = true ∧ isNode dst = true ∧ src ≠ dst ∧ isIn bo 1 1099511627776 = true ∧ isIn li 0 1099511627776 = true ∧
  (kd = 1 → ec = 0 ∧ el = 0) ∧ (kd ≠ 1 → isIn ec 1 1099511627776 = true ∧ isIn el 0 1099511627776 = true)
def FitPost (w : World) (kd src dst bo li ec el : Int) (e : Ending) (w' : World) : Prop := ∃ b : Bool, e = .returned (.bool b) ∧ Below w.heap.size w w' ∧ (b = true → FitB kd src dst bo li ec el)

set_option maxRecDepth 100000 in
set_option maxHeartbeats 4000000 in
theorem fit05_out (w : World) (kd src dst bo li ec el : Int) (A : Option Addr) (n c : Nat) (hk : kd < 1 ∨ 5 < kd) :
    Calls Try.prog 41 #[.agg #[.int .i64 kd, .int .i64 src, .int .i64 dst, .int .i64 bo, .int .i64 li, .int .i64 ec, .int .i64 el, .slice A n c]] w (FitPost w kd src dst bo li ec el) := by
  rcases hk with hk | hk
  all_goals
    go_enter Try.func41, Try.ntmps41
    go_wp2_with fail
    go_ret
    exact ⟨false, rfl, by go_grown, fun h => by cases h⟩

set_option maxRecDepth 100000 in
set_option maxHeartbeats 4000000 in
theorem fit05_hello (w : World) (src dst bo li ec el : Int) (A : Option Addr) (n c : Nat) :
    Calls Try.prog 41 #[.agg #[.int .i64 1, .int .i64 src, .int .i64 dst, .int .i64 bo, .int .i64 li, .int .i64 ec, .int .i64 el, .slice A n c]] w (FitPost w 1 src dst bo li ec el) := by
  go_enter Try.func41, Try.ntmps41
  repeat' (go_wp2_with fail; first
    | (go_at_call 71; (with_reducible refine (within05_any _ _ _ _).mono ?_); rintro e w' ⟨rfl, rfl⟩)
    | (go_at_call 70; (with_reducible refine (node05_any _ _).mono ?_); rintro e w' ⟨rfl, rfl⟩)
    | (go_ret; exact ⟨false, rfl, by go_grown, fun h => by cases h⟩)
    | (go_ret; refine ⟨_, rfl, by go_grown, fun _ => ?_⟩; simp_all [FitB]))

set_option maxRecDepth 100000 in
set_option maxHeartbeats 4000000 in
theorem fit05_plain (w : World) (kd src dst bo li ec el : Int) (A : Option Addr) (n c : Nat) (hk : kd = 2 ∨ kd = 5) :
    Calls Try.prog 41 #[.agg #[.int .i64 kd, .int .i64 src, .int .i64 dst, .int .i64 bo, .int .i64 li, .int .i64 ec, .int .i64 el, .slice A n c]] w (FitPost w kd src dst bo li ec el) := by
  rcases hk with rfl | rfl
  all_goals
    go_enter Try.func41, Try.ntmps41
    repeat' (go_wp2_with fail; first
      | (go_at_call 71; (with_reducible refine (within05_any _ _ _ _).mono ?_); rintro e w' ⟨rfl, rfl⟩)
      | (go_at_call 70; (with_reducible refine (node05_any _ _).mono ?_); rintro e w' ⟨rfl, rfl⟩)
      | (go_ret; exact ⟨false, rfl, by go_grown, fun h => by cases h⟩)
      | (go_ret; refine ⟨_, rfl, by go_grown, fun _ => ?_⟩; simp_all [FitB]))

theorem node05_lit (w : World) (n : Int) (r : Bool) (hr : isNode n = r) : Calls Try.prog 70 #[.int .i64 n] w fun e w' => e = .returned (.bool r) ∧ w = w' := hr ▸ node05_any w n
theorem within05_lit (w : World) (x a b : Int) (r : Bool) (hr : isIn x a b = r) : Calls Try.prog 71 #[.int .i64 x, .int .i64 a, .int .i64 b] w fun e w' => e = .returned (.bool r) ∧ w = w' := hr ▸ within05_any w x a b

set_option maxRecDepth 100000 in
set_option maxHeartbeats 4000000 in
theorem fit05_bad (w : World) (kd src dst bo li ec el : Int) (A : Option Addr) (n c : Nat) (hk : kd = 3 ∨ kd = 4) (hbad : ¬ (isNode src = true ∧ isNode dst = true ∧ src ≠ dst ∧ isIn bo 1 1099511627776 = true ∧ isIn li 0 1099511627776 = true ∧ isIn ec 1 1099511627776 = true ∧ isIn el 0 1099511627776 = true)) :
    Calls Try.prog 41 #[.agg #[.int .i64 kd, .int .i64 src, .int .i64 dst, .int .i64 bo, .int .i64 li, .int .i64 ec, .int .i64 el, .slice A n c]] w (FitPost w kd src dst bo li ec el) := by
  replace hbad := Lib.hid hbad
  rcases hk with rfl | rfl
  all_goals
    go_enter Try.func41, Try.ntmps41
    repeat' (go_wp2_with fail; first
      | (go_at_call 71; (with_reducible refine (within05_any _ _ _ _).mono ?_); rintro e w' ⟨rfl, rfl⟩)
      | (go_at_call 70; (with_reducible refine (node05_any _ _).mono ?_); rintro e w' ⟨rfl, rfl⟩)
      | (go_ret; exact ⟨false, rfl, by go_grown, fun h => by cases h⟩)
      | (exfalso; have h := hbad.out; simp_all; done))



section
variable {P : Program}
/-- a load of several cells, as an operation -/
theorem exec_load_list {W : World} {ty : TypeId} {k : Nat} (hA : Agg P ty k) {b off : Nat} {vs : List Value} (hl : vs.length = k) (h : ∀ j v, vs[j]? = some v → W.cell? ⟨b, off + j, none⟩ = some v) {o : Oper} {a : Act} {x : Operand} (ho : o.op = .load ty x) (hx : a.eval x = .pointer (some ⟨b, off, none⟩)) :
    (execOp a.eval o).run P W = .ok (.value (.agg vs.toArray)) W := by
  unfold execOp
  simp only [ho, hx, Instr.loadAt, Instr.sureAddr, Sem.run_bind, Sem.run_pure, Result.andThen_ok, run_loadVar_list hA ⟨b, off, none⟩ vs hl (fun j v hv => by rw [ed_add_plain]; exact h j v hv)]
end
theorem agg_Item : Agg Try.prog 120 19 := ⟨_, Try.underlying120, rfl, by kernel_rfl⟩
theorem agg_Packet' : Agg Try.prog 71 8 := ⟨_, Try.underlying71, rfl, by kernel_rfl⟩


set_option maxRecDepth 100000 in
set_option maxHeartbeats 4000000 in
theorem fit05_good (w : World) (kd src dst bo li ec el : Int) (A : Option Addr) (n c : Nat) (hk : kd = 3 ∨ kd = 4) (h1 : isNode src = true) (h2 : isNode dst = true) (h3 : src ≠ dst) (h4 : isIn bo 1 1099511627776 = true) (h5 : isIn li 0 1099511627776 = true) (h6 : isIn ec 1 1099511627776 = true) (h7 : isIn el 0 1099511627776 = true)
    (hI : ItemsAt w w.heap.size A n) (hn : n ≤ maxLen) :
    Calls Try.prog 41 #[.agg #[.int .i64 kd, .int .i64 src, .int .i64 dst, .int .i64 bo, .int .i64 li, .int .i64 ec, .int .i64 el, .slice A n c]] w (FitPost w kd src dst bo li ec el) := by
  unfold maxLen at hn
  have hF : FitB kd src dst bo li ec el := ⟨by omega, by omega, h1, h2, h3, h4, h5, fun h => by omega, fun _ => ⟨h6, h7⟩⟩
  have h3' : (src == dst) = false := by simpa using h3
  replace hF := Lib.hid hF
  replace h1 := Lib.hid h1
  replace h2 := Lib.hid h2
  replace h4 := Lib.hid h4
  replace h5 := Lib.hid h5
  replace h6 := Lib.hid h6
  replace h7 := Lib.hid h7
  clear h3
  rcases hk with rfl | rfl
  · go_enter Try.func41, Try.ntmps41
    go_wp2_with (first
      | (go_at_call 70; (with_reducible refine (node05_lit _ src true h1.out).mono ?_); rintro e w' ⟨rfl, rfl⟩)
      | (go_at_call 70; (with_reducible refine (node05_lit _ dst true h2.out).mono ?_); rintro e w' ⟨rfl, rfl⟩)
      | (go_at_call 71; (with_reducible refine (within05_lit _ bo _ _ true h4.out).mono ?_); rintro e w' ⟨rfl, rfl⟩)
      | (go_at_call 71; (with_reducible refine (within05_lit _ li _ _ true h5.out).mono ?_); rintro e w' ⟨rfl, rfl⟩)
      | (go_at_call 71; (with_reducible refine (within05_lit _ ec _ _ true h6.out).mono ?_); rintro e w' ⟨rfl, rfl⟩)
      | (go_at_call 71; (with_reducible refine (within05_lit _ el _ _ true h7.out).mono ?_); rintro e w' ⟨rfl, rfl⟩))
    · go_ret
      exact ⟨false, rfl, by go_grown, fun h => by cases h⟩
    · obtain ⟨gp, hgp⟩ : ∃ g, g = w.heap.size := ⟨_, rfl⟩
      have hb0 : Below w.heap.size w (w.alloc (.cells #[.int .i64 3, .int .i64 src, .int .i64 dst, .int .i64 bo, .int .i64 li, .int .i64 ec, .int .i64 el, .slice A n c] 71)) := (Below.refl _ w).alloc (Nat.le_refl _) _
      have hB0 : Blk (w.alloc (.cells #[.int .i64 3, .int .i64 src, .int .i64 dst, .int .i64 bo, .int .i64 li, .int .i64 ec, .int .i64 el, .slice A n c] 71)) gp 71 #[.int .i64 3, .int .i64 src, .int .i64 dst, .int .i64 bo, .int .i64 li, .int .i64 ec, .int .i64 el, .slice A n c] := by rw [hgp]; exact Blk.new _ _ _
      generalize w.alloc (.cells #[.int .i64 3, .int .i64 src, .int .i64 dst, .int .i64 bo, .int .i64 li, .int .i64 ec, .int .i64 el, .slice A n c] 71) = W0 at *
      rw [← hgp]
      have Hgp := Lib.hid hgp
      have HB0 := Lib.hid hB0
      have hI0 := hI.below hb0
      clear hgp hB0
      go_loopw [3] (fun i wr => ∃ k : Nat, k ≤ n ∧ i = .int .i64 k ∧ Below W0.heap.size W0 wr) (fun i _ => n - (intOf i).toNat)
      case atStart => exact ⟨0, Nat.zero_le _, rfl, Below.refl _ _⟩
      case round =>
        obtain ⟨k, hk, rfl, hbr⟩ := hrel
        have hbw : Below w.heap.size w wr := hb0.trans (hbr.mono hb0.size)
        have c7 : wr.cell? ⟨gp, 7, none⟩ = some (.slice A n c) := (HB0.out.below hbr HB0.out.lt).cell 7
        have hgl : gp < wr.heap.size := by have := HB0.out.lt; have := hbr.size; omega
        by_cases hlt : k < n
        · have hlt' : (k : Int) < (n : Int) := by omega
          obtain ⟨b, off, rfl, hbl, hx⟩ := (hI.below hbw) (by omega)
          obtain ⟨x, hxn, hxc⟩ := hx k hlt
          have hblr : b < wr.heap.size := by have := hbw.size; omega
          replace hxn := Lib.hid hxn
          replace hxc := Lib.hid hxc
          replace hx := Lib.hid hx
          go_wp2_with fail
          refine wp_region_held_drew (S := fun W => Below wr.heap.size wr W) (by kernel_rfl) ((Below.refl _ _).drew) (fun hS0 => ?_)
          (refine wpAnyH_take (i := 0) (oi := ⟨some 87, _, _, _, _, _⟩) rfl (by kernel_rfl) (by kernel_rfl) (by kernel_rfl) (fun _ _ _ h => h) (.inl ⟨rfl, fun _ _ => rfl⟩) (by assumption) ?_); try simp only [Act.put, List.setIfInBounds_toArray, List.set_cons_zero, List.set_cons_succ]
          (refine wpAnyH_take (i := 1) (oi := ⟨some 88, _, _, _, _, _⟩) rfl (by kernel_rfl) (by kernel_rfl) (by kernel_rfl) (fun _ _ _ h => h) (.inl ⟨rfl, fun W hS => by (have c7' := (hS.cell (p := ⟨gp, 7, none⟩) hgl).trans c7); go_simp; try rfl⟩) (by assumption) ?_); try simp only [Act.put, List.setIfInBounds_toArray, List.set_cons_zero, List.set_cons_succ]
          (refine wpAnyH_take (i := 2) (oi := ⟨some 89, _, _, _, _, _⟩) rfl (by kernel_rfl) (by kernel_rfl) (by kernel_rfl) (fun _ _ _ h => h) (.inl ⟨rfl, fun _ _ => rfl⟩) (by assumption) ?_); try simp only [Act.put, List.setIfInBounds_toArray, List.set_cons_zero, List.set_cons_succ]
          (refine wpAnyH_take (i := 3) (oi := ⟨some 90, _, _, _, _, _⟩) rfl (by kernel_rfl) (by kernel_rfl) (by kernel_rfl) (fun _ _ _ h => h) (.inl ⟨rfl, fun W hS => by skip; go_simp; try rfl⟩) (by assumption) ?_); try simp only [Act.put, List.setIfInBounds_toArray, List.set_cons_zero, List.set_cons_succ]
          (refine wpAnyH_take (i := 4) (oi := ⟨some 91, _, _, _, _, _⟩) rfl (by kernel_rfl) (by kernel_rfl) (by kernel_rfl) (fun _ _ _ h => h) (.inl ⟨rfl, fun W hS => exec_load_list (vs := x.cells) agg_Item rfl (fun j v hv => (hS.cell (p := ⟨b, off + k * 19 + j, none⟩) hblr).trans (hxc.out j v hv)) rfl rfl⟩) (by assumption) ?_); try simp only [Act.put, List.setIfInBounds_toArray, List.set_cons_zero, List.set_cons_succ]
          refine wpAnyH_ready (rs := [5]) (by kernel_rfl) (by simp) ?_
          refine AllReadyH.cons (o := ⟨some 92, _, _, _, _, _⟩) rfl (fun K hK => ?_) AllReadyH.nil
          go_simp
          refine (item05_some _ x.nm hxn.out _ _ _ _ _ _ _ _ _ _ _ _ _ _ _ _ _ _).mono ?_
          rintro e w7 ⟨bi, rfl, hb7⟩
          have hk7 : Below wr.heap.size wr w7 := hS0.trans (hb7.mono hS0.size)
          clear hS0 hb7
          go_wp2_with fail
          refine hK.out _ _ hk7 (fun hS2 => ?_)
          clear hK K
          try simp only [Act.put, List.setIfInBounds_toArray, List.set_cons_zero, List.set_cons_succ]
          cases bi
          · (refine wpAnyH_take (i := 6) (oi := ⟨some 93, _, _, _, _, _⟩) rfl (by kernel_rfl) (by kernel_rfl) (by kernel_rfl) (fun _ _ _ h => h) (.inl ⟨rfl, fun _ _ => rfl⟩) (by assumption) ?_); try simp only [Act.put, List.setIfInBounds_toArray, List.set_cons_zero, List.set_cons_succ]
            (refine wpAnyH_take (i := 7) (oi := ⟨some 94, _, _, _, _, _⟩) rfl (by kernel_rfl) (by kernel_rfl) (by kernel_rfl) (fun _ _ _ h => h) (.inl ⟨rfl, fun _ _ => rfl⟩) (by assumption) ?_); try simp only [Act.put, List.setIfInBounds_toArray, List.set_cons_zero, List.set_cons_succ]
            (refine wpAnyH_take (i := 8) (oi := ⟨some 95, _, _, _, _, _⟩) rfl (by kernel_rfl) (by kernel_rfl) (by kernel_rfl) (fun _ _ _ h => h) (.inr ⟨rfl, rfl⟩) (by assumption) ?_); try simp only [Act.put, List.setIfInBounds_toArray, List.set_cons_zero, List.set_cons_succ]
            (refine wpAnyH_take (i := 9) (oi := ⟨some 96, _, _, _, _, _⟩) rfl (by kernel_rfl) (by kernel_rfl) (by kernel_rfl) (fun _ _ _ h => h) (.inr ⟨rfl, rfl⟩) (by assumption) ?_); try simp only [Act.put, List.setIfInBounds_toArray, List.set_cons_zero, List.set_cons_succ]
            (refine wpAnyH_take (i := 10) (oi := ⟨some 97, _, _, _, _, _⟩) rfl (by kernel_rfl) (by kernel_rfl) (by kernel_rfl) (fun _ _ _ h => h) (.inr ⟨rfl, rfl⟩) (by assumption) ?_); try simp only [Act.put, List.setIfInBounds_toArray, List.set_cons_zero, List.set_cons_succ]
            (refine wpAnyH_take (i := 11) (oi := ⟨some 98, _, _, _, _, _⟩) rfl (by kernel_rfl) (by kernel_rfl) (by kernel_rfl) (fun _ _ _ h => h) (.inr ⟨rfl, rfl⟩) (by assumption) ?_); try simp only [Act.put, List.setIfInBounds_toArray, List.set_cons_zero, List.set_cons_succ]
            (refine wpAnyH_take (i := 12) (oi := ⟨some 99, _, _, _, _, _⟩) rfl (by kernel_rfl) (by kernel_rfl) (by kernel_rfl) (fun _ _ _ h => h) (.inr ⟨rfl, rfl⟩) (by assumption) ?_); try simp only [Act.put, List.setIfInBounds_toArray, List.set_cons_zero, List.set_cons_succ]
            (refine wpAnyH_take (i := 13) (oi := ⟨some 100, _, _, _, _, _⟩) rfl (by kernel_rfl) (by kernel_rfl) (by kernel_rfl) (fun _ _ _ h => h) (.inr ⟨rfl, rfl⟩) (by assumption) ?_); try simp only [Act.put, List.setIfInBounds_toArray, List.set_cons_zero, List.set_cons_succ]
            (refine wpAnyH_take (i := 14) (oi := ⟨some 101, _, _, _, _, _⟩) rfl (by kernel_rfl) (by kernel_rfl) (by kernel_rfl) (fun _ _ _ h => h) (.inr ⟨rfl, rfl⟩) (by assumption) ?_); try simp only [Act.put, List.setIfInBounds_toArray, List.set_cons_zero, List.set_cons_succ]
            (refine wpAnyH_take (i := 15) (oi := ⟨some 102, _, _, _, _, _⟩) rfl (by kernel_rfl) (by kernel_rfl) (by kernel_rfl) (fun _ _ _ h => h) (.inr ⟨rfl, rfl⟩) (by assumption) ?_); try simp only [Act.put, List.setIfInBounds_toArray, List.set_cons_zero, List.set_cons_succ]
            (refine wpAnyH_take (i := 16) (oi := ⟨some 103, _, _, _, _, _⟩) rfl (by kernel_rfl) (by kernel_rfl) (by kernel_rfl) (fun _ _ _ h => h) (.inr ⟨rfl, rfl⟩) (by assumption) ?_); try simp only [Act.put, List.setIfInBounds_toArray, List.set_cons_zero, List.set_cons_succ]
            (refine wpAnyH_take (i := 17) (oi := ⟨some 104, _, _, _, _, _⟩) rfl (by kernel_rfl) (by kernel_rfl) (by kernel_rfl) (fun _ _ _ h => h) (.inr ⟨rfl, rfl⟩) (by assumption) ?_); try simp only [Act.put, List.setIfInBounds_toArray, List.set_cons_zero, List.set_cons_succ]
            (refine wpAnyH_take (i := 18) (oi := ⟨some 105, _, _, _, _, _⟩) rfl (by kernel_rfl) (by kernel_rfl) (by kernel_rfl) (fun _ _ _ h => h) (.inr ⟨rfl, rfl⟩) (by assumption) ?_); try simp only [Act.put, List.setIfInBounds_toArray, List.set_cons_zero, List.set_cons_succ]
            (refine wpAnyH_take (i := 19) (oi := ⟨some 106, _, _, _, _, _⟩) rfl (by kernel_rfl) (by kernel_rfl) (by kernel_rfl) (fun _ _ _ h => h) (.inr ⟨rfl, rfl⟩) (by assumption) ?_); try simp only [Act.put, List.setIfInBounds_toArray, List.set_cons_zero, List.set_cons_succ]
            (refine wpAnyH_take (i := 20) (oi := ⟨some 107, _, _, _, _, _⟩) rfl (by kernel_rfl) (by kernel_rfl) (by kernel_rfl) (fun _ _ _ h => h) (.inr ⟨rfl, rfl⟩) (by assumption) ?_); try simp only [Act.put, List.setIfInBounds_toArray, List.set_cons_zero, List.set_cons_succ]
            (refine wpAnyH_take (i := 21) (oi := ⟨some 108, _, _, _, _, _⟩) rfl (by kernel_rfl) (by kernel_rfl) (by kernel_rfl) (fun _ _ _ h => h) (.inr ⟨rfl, rfl⟩) (by assumption) ?_); try simp only [Act.put, List.setIfInBounds_toArray, List.set_cons_zero, List.set_cons_succ]
            (refine wpAnyH_take (i := 22) (oi := ⟨some 109, _, _, _, _, _⟩) rfl (by kernel_rfl) (by kernel_rfl) (by kernel_rfl) (fun _ _ _ h => h) (.inr ⟨rfl, rfl⟩) (by assumption) ?_); try simp only [Act.put, List.setIfInBounds_toArray, List.set_cons_zero, List.set_cons_succ]
            (refine wpAnyH_take (i := 23) (oi := ⟨some 110, _, _, _, _, _⟩) rfl (by kernel_rfl) (by kernel_rfl) (by kernel_rfl) (fun _ _ _ h => h) (.inr ⟨rfl, rfl⟩) (by assumption) ?_); try simp only [Act.put, List.setIfInBounds_toArray, List.set_cons_zero, List.set_cons_succ]
            (refine wpAnyH_take (i := 24) (oi := ⟨some 111, _, _, _, _, _⟩) rfl (by kernel_rfl) (by kernel_rfl) (by kernel_rfl) (fun _ _ _ h => h) (.inr ⟨rfl, rfl⟩) (by assumption) ?_); try simp only [Act.put, List.setIfInBounds_toArray, List.set_cons_zero, List.set_cons_succ]
            (refine wpAnyH_take (i := 25) (oi := ⟨some 112, _, _, _, _, _⟩) rfl (by kernel_rfl) (by kernel_rfl) (by kernel_rfl) (fun _ _ _ h => h) (.inr ⟨rfl, rfl⟩) (by assumption) ?_); try simp only [Act.put, List.setIfInBounds_toArray, List.set_cons_zero, List.set_cons_succ]
            (refine wpAnyH_take (i := 26) (oi := ⟨some 113, _, _, _, _, _⟩) rfl (by kernel_rfl) (by kernel_rfl) (by kernel_rfl) (fun _ _ _ h => h) (.inr ⟨rfl, rfl⟩) (by assumption) ?_); try simp only [Act.put, List.setIfInBounds_toArray, List.set_cons_zero, List.set_cons_succ]
            (refine wpAnyH_take (i := 27) (oi := ⟨some 114, _, _, _, _, _⟩) rfl (by kernel_rfl) (by kernel_rfl) (by kernel_rfl) (fun _ _ _ h => h) (.inr ⟨rfl, rfl⟩) (by assumption) ?_); try simp only [Act.put, List.setIfInBounds_toArray, List.set_cons_zero, List.set_cons_succ]
            (refine wpAnyH_take (i := 28) (oi := ⟨some 115, _, _, _, _, _⟩) rfl (by kernel_rfl) (by kernel_rfl) (by kernel_rfl) (fun _ _ _ h => h) (.inl ⟨rfl, fun _ _ => rfl⟩) (by assumption) ?_); try simp only [Act.put, List.setIfInBounds_toArray, List.set_cons_zero, List.set_cons_succ]
            refine wpAnyH_done (by kernel_rfl) ?_ _
            clear hS2
            go_wp2_with fail
            go_ret
            exact ⟨false, rfl, hbw.trans (hk7.mono hbw.size), fun h => by cases h⟩
          · by_cases hk0 : k = 0
            · subst hk0
              have hk0' : ((0 : Nat) : Int) = 0 := rfl
              (refine wpAnyH_take (i := 6) (oi := ⟨some 93, _, _, _, _, _⟩) rfl (by kernel_rfl) (by kernel_rfl) (by kernel_rfl) (fun _ _ _ h => h) (.inl ⟨rfl, fun _ _ => rfl⟩) (by assumption) ?_); try simp only [Act.put, List.setIfInBounds_toArray, List.set_cons_zero, List.set_cons_succ]
              (refine wpAnyH_take (i := 7) (oi := ⟨some 94, _, _, _, _, _⟩) rfl (by kernel_rfl) (by kernel_rfl) (by kernel_rfl) (fun _ _ _ h => h) (.inl ⟨rfl, fun _ _ => rfl⟩) (by assumption) ?_); try simp only [Act.put, List.setIfInBounds_toArray, List.set_cons_zero, List.set_cons_succ]
              (refine wpAnyH_take (i := 8) (oi := ⟨some 95, _, _, _, _, _⟩) rfl (by kernel_rfl) (by kernel_rfl) (by kernel_rfl) (fun _ _ _ h => h) (.inl ⟨rfl, fun _ _ => rfl⟩) (by assumption) ?_); try simp only [Act.put, List.setIfInBounds_toArray, List.set_cons_zero, List.set_cons_succ]
              (refine wpAnyH_take (i := 9) (oi := ⟨some 96, _, _, _, _, _⟩) rfl (by kernel_rfl) (by kernel_rfl) (by kernel_rfl) (fun _ _ _ h => h) (.inl ⟨rfl, fun W hS => by skip; go_simp; try rfl⟩) (by assumption) ?_); try simp only [Act.put, List.setIfInBounds_toArray, List.set_cons_zero, List.set_cons_succ]
              (refine wpAnyH_take (i := 10) (oi := ⟨some 97, _, _, _, _, _⟩) rfl (by kernel_rfl) (by kernel_rfl) (by kernel_rfl) (fun _ _ _ h => h) (.inl ⟨rfl, fun _ _ => rfl⟩) (by assumption) ?_); try simp only [Act.put, List.setIfInBounds_toArray, List.set_cons_zero, List.set_cons_succ]
              (refine wpAnyH_take (i := 11) (oi := ⟨some 98, _, _, _, _, _⟩) rfl (by kernel_rfl) (by kernel_rfl) (by kernel_rfl) (fun _ _ _ h => h) (.inr ⟨rfl, rfl⟩) (by assumption) ?_); try simp only [Act.put, List.setIfInBounds_toArray, List.set_cons_zero, List.set_cons_succ]
              (refine wpAnyH_take (i := 12) (oi := ⟨some 99, _, _, _, _, _⟩) rfl (by kernel_rfl) (by kernel_rfl) (by kernel_rfl) (fun _ _ _ h => h) (.inr ⟨rfl, rfl⟩) (by assumption) ?_); try simp only [Act.put, List.setIfInBounds_toArray, List.set_cons_zero, List.set_cons_succ]
              (refine wpAnyH_take (i := 13) (oi := ⟨some 100, _, _, _, _, _⟩) rfl (by kernel_rfl) (by kernel_rfl) (by kernel_rfl) (fun _ _ _ h => h) (.inr ⟨rfl, rfl⟩) (by assumption) ?_); try simp only [Act.put, List.setIfInBounds_toArray, List.set_cons_zero, List.set_cons_succ]
              (refine wpAnyH_take (i := 14) (oi := ⟨some 101, _, _, _, _, _⟩) rfl (by kernel_rfl) (by kernel_rfl) (by kernel_rfl) (fun _ _ _ h => h) (.inr ⟨rfl, rfl⟩) (by assumption) ?_); try simp only [Act.put, List.setIfInBounds_toArray, List.set_cons_zero, List.set_cons_succ]
              (refine wpAnyH_take (i := 15) (oi := ⟨some 102, _, _, _, _, _⟩) rfl (by kernel_rfl) (by kernel_rfl) (by kernel_rfl) (fun _ _ _ h => h) (.inr ⟨rfl, rfl⟩) (by assumption) ?_); try simp only [Act.put, List.setIfInBounds_toArray, List.set_cons_zero, List.set_cons_succ]
              (refine wpAnyH_take (i := 16) (oi := ⟨some 103, _, _, _, _, _⟩) rfl (by kernel_rfl) (by kernel_rfl) (by kernel_rfl) (fun _ _ _ h => h) (.inr ⟨rfl, rfl⟩) (by assumption) ?_); try simp only [Act.put, List.setIfInBounds_toArray, List.set_cons_zero, List.set_cons_succ]
              (refine wpAnyH_take (i := 17) (oi := ⟨some 104, _, _, _, _, _⟩) rfl (by kernel_rfl) (by kernel_rfl) (by kernel_rfl) (fun _ _ _ h => h) (.inr ⟨rfl, rfl⟩) (by assumption) ?_); try simp only [Act.put, List.setIfInBounds_toArray, List.set_cons_zero, List.set_cons_succ]
              (refine wpAnyH_take (i := 18) (oi := ⟨some 105, _, _, _, _, _⟩) rfl (by kernel_rfl) (by kernel_rfl) (by kernel_rfl) (fun _ _ _ h => h) (.inr ⟨rfl, rfl⟩) (by assumption) ?_); try simp only [Act.put, List.setIfInBounds_toArray, List.set_cons_zero, List.set_cons_succ]
              (refine wpAnyH_take (i := 19) (oi := ⟨some 106, _, _, _, _, _⟩) rfl (by kernel_rfl) (by kernel_rfl) (by kernel_rfl) (fun _ _ _ h => h) (.inr ⟨rfl, rfl⟩) (by assumption) ?_); try simp only [Act.put, List.setIfInBounds_toArray, List.set_cons_zero, List.set_cons_succ]
              (refine wpAnyH_take (i := 20) (oi := ⟨some 107, _, _, _, _, _⟩) rfl (by kernel_rfl) (by kernel_rfl) (by kernel_rfl) (fun _ _ _ h => h) (.inr ⟨rfl, rfl⟩) (by assumption) ?_); try simp only [Act.put, List.setIfInBounds_toArray, List.set_cons_zero, List.set_cons_succ]
              (refine wpAnyH_take (i := 21) (oi := ⟨some 108, _, _, _, _, _⟩) rfl (by kernel_rfl) (by kernel_rfl) (by kernel_rfl) (fun _ _ _ h => h) (.inr ⟨rfl, rfl⟩) (by assumption) ?_); try simp only [Act.put, List.setIfInBounds_toArray, List.set_cons_zero, List.set_cons_succ]
              (refine wpAnyH_take (i := 22) (oi := ⟨some 109, _, _, _, _, _⟩) rfl (by kernel_rfl) (by kernel_rfl) (by kernel_rfl) (fun _ _ _ h => h) (.inr ⟨rfl, rfl⟩) (by assumption) ?_); try simp only [Act.put, List.setIfInBounds_toArray, List.set_cons_zero, List.set_cons_succ]
              (refine wpAnyH_take (i := 23) (oi := ⟨some 110, _, _, _, _, _⟩) rfl (by kernel_rfl) (by kernel_rfl) (by kernel_rfl) (fun _ _ _ h => h) (.inr ⟨rfl, rfl⟩) (by assumption) ?_); try simp only [Act.put, List.setIfInBounds_toArray, List.set_cons_zero, List.set_cons_succ]
              (refine wpAnyH_take (i := 24) (oi := ⟨some 111, _, _, _, _, _⟩) rfl (by kernel_rfl) (by kernel_rfl) (by kernel_rfl) (fun _ _ _ h => h) (.inr ⟨rfl, rfl⟩) (by assumption) ?_); try simp only [Act.put, List.setIfInBounds_toArray, List.set_cons_zero, List.set_cons_succ]
              (refine wpAnyH_take (i := 25) (oi := ⟨some 112, _, _, _, _, _⟩) rfl (by kernel_rfl) (by kernel_rfl) (by kernel_rfl) (fun _ _ _ h => h) (.inr ⟨rfl, rfl⟩) (by assumption) ?_); try simp only [Act.put, List.setIfInBounds_toArray, List.set_cons_zero, List.set_cons_succ]
              (refine wpAnyH_take (i := 26) (oi := ⟨some 113, _, _, _, _, _⟩) rfl (by kernel_rfl) (by kernel_rfl) (by kernel_rfl) (fun _ _ _ h => h) (.inr ⟨rfl, rfl⟩) (by assumption) ?_); try simp only [Act.put, List.setIfInBounds_toArray, List.set_cons_zero, List.set_cons_succ]
              (refine wpAnyH_take (i := 27) (oi := ⟨some 114, _, _, _, _, _⟩) rfl (by kernel_rfl) (by kernel_rfl) (by kernel_rfl) (fun _ _ _ h => h) (.inl ⟨rfl, fun _ _ => rfl⟩) (by assumption) ?_); try simp only [Act.put, List.setIfInBounds_toArray, List.set_cons_zero, List.set_cons_succ]
              (refine wpAnyH_take (i := 28) (oi := ⟨some 115, _, _, _, _, _⟩) rfl (by kernel_rfl) (by kernel_rfl) (by kernel_rfl) (fun _ _ _ h => h) (.inl ⟨rfl, fun _ _ => rfl⟩) (by assumption) ?_); try simp only [Act.put, List.setIfInBounds_toArray, List.set_cons_zero, List.set_cons_succ]
              refine wpAnyH_done (by kernel_rfl) ?_ _
              clear hS2
              go_wp2_with fail
              go_roundw
              case rel => exact ⟨0 + 1, by omega, by go_num, hbr.trans (hk7.mono hbr.size)⟩
              case measure => simp [intOf]; omega
            · obtain ⟨y, hyn, hyc⟩ := hx.out (k - 1) (by omega)
              have hk0' : (0 : Int) < (k : Int) := by omega
              have hk0n : 0 < k := by omega
              have hk1 : (1 : Int) ≤ (k : Int) := by omega
              have nk : wr.cell? ⟨b, off + k * 19, none⟩ = some (.string x.nm) := hxc.out 0 _ rfl
              have n1 : wr.cell? ⟨b, off + (k - 1) * 19, none⟩ = some (.string y.nm) := hyc 0 _ rfl
              clear hyc
              replace hyn := Lib.hid hyn
              have e1 : IntKind.i64.wrap ((k : Int) - 1) = (k : Int) - 1 := by rw [IntKind.wrap_i64]; omega
              have e2 : ((k : Int) - 1).toNat = k - 1 := by omega
              have e3 : (0 : Int) ≤ (k : Int) - 1 := by omega
              have e4 : (k : Int) - 1 < (n : Int) := by omega
              (refine wpAnyH_take (i := 6) (oi := ⟨some 93, _, _, _, _, _⟩) rfl (by kernel_rfl) (by kernel_rfl) (by kernel_rfl) (fun _ _ _ h => h) (.inl ⟨rfl, fun _ _ => rfl⟩) (by assumption) ?_); try simp only [Act.put, List.setIfInBounds_toArray, List.set_cons_zero, List.set_cons_succ]
              (refine wpAnyH_take (i := 7) (oi := ⟨some 94, _, _, _, _, _⟩) rfl (by kernel_rfl) (by kernel_rfl) (by kernel_rfl) (fun _ _ _ h => h) (.inl ⟨rfl, fun _ _ => rfl⟩) (by assumption) ?_); try simp only [Act.put, List.setIfInBounds_toArray, List.set_cons_zero, List.set_cons_succ]
              (refine wpAnyH_take (i := 8) (oi := ⟨some 95, _, _, _, _, _⟩) rfl (by kernel_rfl) (by kernel_rfl) (by kernel_rfl) (fun _ _ _ h => h) (.inl ⟨rfl, fun _ _ => rfl⟩) (by assumption) ?_); try simp only [Act.put, List.setIfInBounds_toArray, List.set_cons_zero, List.set_cons_succ]
              (refine wpAnyH_take (i := 9) (oi := ⟨some 96, _, _, _, _, _⟩) (v := .bool true) rfl (by kernel_rfl) (by kernel_rfl) (by kernel_rfl) (fun _ _ _ h => h) (.inl ⟨rfl, fun W hS => by skip; go_simp⟩) (by assumption) ?_); try simp only [Act.put, List.setIfInBounds_toArray, List.set_cons_zero, List.set_cons_succ]
              (refine wpAnyH_take (i := 10) (oi := ⟨some 97, _, _, _, _, _⟩) rfl (by kernel_rfl) (by kernel_rfl) (by kernel_rfl) (fun _ _ _ h => h) (.inl ⟨rfl, fun _ _ => rfl⟩) (by assumption) ?_); try simp only [Act.put, List.setIfInBounds_toArray, List.set_cons_zero, List.set_cons_succ]
              (refine wpAnyH_take (i := 11) (oi := ⟨some 98, _, _, _, _, _⟩) rfl (by kernel_rfl) (by kernel_rfl) (by kernel_rfl) (fun _ _ _ h => h) (.inl ⟨rfl, fun _ _ => rfl⟩) (by assumption) ?_); try simp only [Act.put, List.setIfInBounds_toArray, List.set_cons_zero, List.set_cons_succ]
              (refine wpAnyH_take (i := 12) (oi := ⟨some 99, _, _, _, _, _⟩) rfl (by kernel_rfl) (by kernel_rfl) (by kernel_rfl) (fun _ _ _ h => h) (.inl ⟨rfl, fun W hS => by (have c7' := (hS.cell (p := ⟨gp, 7, none⟩) hgl).trans c7); go_simp; try rfl⟩) (by assumption) ?_); try simp only [Act.put, List.setIfInBounds_toArray, List.set_cons_zero, List.set_cons_succ]
              (refine wpAnyH_take (i := 13) (oi := ⟨some 100, _, _, _, _, _⟩) rfl (by kernel_rfl) (by kernel_rfl) (by kernel_rfl) (fun _ _ _ h => h) (.inl ⟨rfl, fun _ _ => rfl⟩) (by assumption) ?_); try simp only [Act.put, List.setIfInBounds_toArray, List.set_cons_zero, List.set_cons_succ]
              (refine wpAnyH_take (i := 14) (oi := ⟨some 101, _, _, _, _, _⟩) rfl (by kernel_rfl) (by kernel_rfl) (by kernel_rfl) (fun _ _ _ h => h) (.inl ⟨rfl, fun W hS => by skip; go_simp; try rfl⟩) (by assumption) ?_); try simp only [Act.put, List.setIfInBounds_toArray, List.set_cons_zero, List.set_cons_succ]
              (refine wpAnyH_take (i := 15) (oi := ⟨some 102, _, _, _, _, _⟩) rfl (by kernel_rfl) (by kernel_rfl) (by kernel_rfl) (fun _ _ _ h => h) (.inl ⟨rfl, fun W hS => by skip; go_simp; try rfl⟩) (by assumption) ?_); try simp only [Act.put, List.setIfInBounds_toArray, List.set_cons_zero, List.set_cons_succ]
              (refine wpAnyH_take (i := 16) (oi := ⟨some 103, _, _, _, _, _⟩) rfl (by kernel_rfl) (by kernel_rfl) (by kernel_rfl) (fun _ _ _ h => h) (.inl ⟨rfl, fun _ _ => rfl⟩) (by assumption) ?_); try simp only [Act.put, List.setIfInBounds_toArray, List.set_cons_zero, List.set_cons_succ]
              (refine wpAnyH_take (i := 17) (oi := ⟨some 104, _, _, _, _, _⟩) rfl (by kernel_rfl) (by kernel_rfl) (by kernel_rfl) (fun _ _ _ h => h) (.inl ⟨rfl, fun _ _ => rfl⟩) (by assumption) ?_); try simp only [Act.put, List.setIfInBounds_toArray, List.set_cons_zero, List.set_cons_succ]
              (refine wpAnyH_take (i := 18) (oi := ⟨some 105, _, _, _, _, _⟩) rfl (by kernel_rfl) (by kernel_rfl) (by kernel_rfl) (fun _ _ _ h => h) (.inl ⟨rfl, fun W hS => by (have c7' := (hS.cell (p := ⟨b, off + (k - 1) * 19, none⟩) hblr).trans n1); go_simp; try rfl⟩) (by assumption) ?_); try simp only [Act.put, List.setIfInBounds_toArray, List.set_cons_zero, List.set_cons_succ]
              (refine wpAnyH_take (i := 19) (oi := ⟨some 106, _, _, _, _, _⟩) rfl (by kernel_rfl) (by kernel_rfl) (by kernel_rfl) (fun _ _ _ h => h) (.inl ⟨rfl, fun _ _ => rfl⟩) (by assumption) ?_); try simp only [Act.put, List.setIfInBounds_toArray, List.set_cons_zero, List.set_cons_succ]
              (refine wpAnyH_take (i := 20) (oi := ⟨some 107, _, _, _, _, _⟩) rfl (by kernel_rfl) (by kernel_rfl) (by kernel_rfl) (fun _ _ _ h => h) (.inl ⟨rfl, fun W hS => by (have c7' := (hS.cell (p := ⟨gp, 7, none⟩) hgl).trans c7); go_simp; try rfl⟩) (by assumption) ?_); try simp only [Act.put, List.setIfInBounds_toArray, List.set_cons_zero, List.set_cons_succ]
              (refine wpAnyH_take (i := 21) (oi := ⟨some 108, _, _, _, _, _⟩) rfl (by kernel_rfl) (by kernel_rfl) (by kernel_rfl) (fun _ _ _ h => h) (.inl ⟨rfl, fun _ _ => rfl⟩) (by assumption) ?_); try simp only [Act.put, List.setIfInBounds_toArray, List.set_cons_zero, List.set_cons_succ]
              (refine wpAnyH_take (i := 22) (oi := ⟨some 109, _, _, _, _, _⟩) rfl (by kernel_rfl) (by kernel_rfl) (by kernel_rfl) (fun _ _ _ h => h) (.inl ⟨rfl, fun W hS => by skip; go_simp; try rfl⟩) (by assumption) ?_); try simp only [Act.put, List.setIfInBounds_toArray, List.set_cons_zero, List.set_cons_succ]
              (refine wpAnyH_take (i := 23) (oi := ⟨some 110, _, _, _, _, _⟩) rfl (by kernel_rfl) (by kernel_rfl) (by kernel_rfl) (fun _ _ _ h => h) (.inl ⟨rfl, fun _ _ => rfl⟩) (by assumption) ?_); try simp only [Act.put, List.setIfInBounds_toArray, List.set_cons_zero, List.set_cons_succ]
              (refine wpAnyH_take (i := 24) (oi := ⟨some 111, _, _, _, _, _⟩) rfl (by kernel_rfl) (by kernel_rfl) (by kernel_rfl) (fun _ _ _ h => h) (.inl ⟨rfl, fun _ _ => rfl⟩) (by assumption) ?_); try simp only [Act.put, List.setIfInBounds_toArray, List.set_cons_zero, List.set_cons_succ]
              (refine wpAnyH_take (i := 25) (oi := ⟨some 112, _, _, _, _, _⟩) rfl (by kernel_rfl) (by kernel_rfl) (by kernel_rfl) (fun _ _ _ h => h) (.inl ⟨rfl, fun W hS => by (have c7' := (hS.cell (p := ⟨b, off + k * 19, none⟩) hblr).trans nk); go_simp; try rfl⟩) (by assumption) ?_); try simp only [Act.put, List.setIfInBounds_toArray, List.set_cons_zero, List.set_cons_succ]
              (refine wpAnyH_take (i := 26) (oi := ⟨some 113, _, _, _, _, _⟩) rfl (by kernel_rfl) (by kernel_rfl) (by kernel_rfl) (fun _ _ _ h => h) (.inl ⟨rfl, fun W hS => by skip; go_simp; try rfl⟩) (by assumption) ?_); try simp only [Act.put, List.setIfInBounds_toArray, List.set_cons_zero, List.set_cons_succ]
              (refine wpAnyH_take (i := 27) (oi := ⟨some 114, _, _, _, _, _⟩) rfl (by kernel_rfl) (by kernel_rfl) (by kernel_rfl) (fun _ _ _ h => h) (.inl ⟨rfl, fun _ _ => rfl⟩) (by assumption) ?_); try simp only [Act.put, List.setIfInBounds_toArray, List.set_cons_zero, List.set_cons_succ]
              (refine wpAnyH_take (i := 28) (oi := ⟨some 115, _, _, _, _, _⟩) rfl (by kernel_rfl) (by kernel_rfl) (by kernel_rfl) (fun _ _ _ h => h) (.inl ⟨rfl, fun _ _ => rfl⟩) (by assumption) ?_); try simp only [Act.put, List.setIfInBounds_toArray, List.set_cons_zero, List.set_cons_succ]
              refine wpAnyH_done (by kernel_rfl) ?_ _
              clear hS2
              go_wp2_with fail
              · go_ret
                exact ⟨false, rfl, hbw.trans (hk7.mono hbw.size), fun h => by cases h⟩
              · go_roundw
                case rel => exact ⟨k + 1, by omega, by go_num, hbr.trans (hk7.mono hbr.size)⟩
                case measure => simp [intOf]; omega
        · obtain rfl : k = n := by omega
          go_wp2_with fail
          go_ret
          exact ⟨true, rfl, hbw, fun _ => hF.out⟩
  · go_enter Try.func41, Try.ntmps41
    go_wp2_with (first
      | (go_at_call 70; (with_reducible refine (node05_lit _ src true h1.out).mono ?_); rintro e w' ⟨rfl, rfl⟩)
      | (go_at_call 70; (with_reducible refine (node05_lit _ dst true h2.out).mono ?_); rintro e w' ⟨rfl, rfl⟩)
      | (go_at_call 71; (with_reducible refine (within05_lit _ bo _ _ true h4.out).mono ?_); rintro e w' ⟨rfl, rfl⟩)
      | (go_at_call 71; (with_reducible refine (within05_lit _ li _ _ true h5.out).mono ?_); rintro e w' ⟨rfl, rfl⟩)
      | (go_at_call 71; (with_reducible refine (within05_lit _ ec _ _ true h6.out).mono ?_); rintro e w' ⟨rfl, rfl⟩)
      | (go_at_call 71; (with_reducible refine (within05_lit _ el _ _ true h7.out).mono ?_); rintro e w' ⟨rfl, rfl⟩))
    · go_ret
      exact ⟨false, rfl, by go_grown, fun h => by cases h⟩
    · obtain ⟨gp, hgp⟩ : ∃ g, g = w.heap.size := ⟨_, rfl⟩
      have hb0 : Below w.heap.size w (w.alloc (.cells #[.int .i64 4, .int .i64 src, .int .i64 dst, .int .i64 bo, .int .i64 li, .int .i64 ec, .int .i64 el, .slice A n c] 71)) := (Below.refl _ w).alloc (Nat.le_refl _) _
      have hB0 : Blk (w.alloc (.cells #[.int .i64 4, .int .i64 src, .int .i64 dst, .int .i64 bo, .int .i64 li, .int .i64 ec, .int .i64 el, .slice A n c] 71)) gp 71 #[.int .i64 4, .int .i64 src, .int .i64 dst, .int .i64 bo, .int .i64 li, .int .i64 ec, .int .i64 el, .slice A n c] := by rw [hgp]; exact Blk.new _ _ _
      generalize w.alloc (.cells #[.int .i64 4, .int .i64 src, .int .i64 dst, .int .i64 bo, .int .i64 li, .int .i64 ec, .int .i64 el, .slice A n c] 71) = W0 at *
      rw [← hgp]
      have Hgp := Lib.hid hgp
      have HB0 := Lib.hid hB0
      have hI0 := hI.below hb0
      clear hgp hB0
      go_loopw [3] (fun i wr => ∃ k : Nat, k ≤ n ∧ i = .int .i64 k ∧ Below W0.heap.size W0 wr) (fun i _ => n - (intOf i).toNat)
      case atStart => exact ⟨0, Nat.zero_le _, rfl, Below.refl _ _⟩
      case round =>
        obtain ⟨k, hk, rfl, hbr⟩ := hrel
        have hbw : Below w.heap.size w wr := hb0.trans (hbr.mono hb0.size)
        have c7 : wr.cell? ⟨gp, 7, none⟩ = some (.slice A n c) := (HB0.out.below hbr HB0.out.lt).cell 7
        have hgl : gp < wr.heap.size := by have := HB0.out.lt; have := hbr.size; omega
        by_cases hlt : k < n
        · have hlt' : (k : Int) < (n : Int) := by omega
          obtain ⟨b, off, rfl, hbl, hx⟩ := (hI.below hbw) (by omega)
          obtain ⟨x, hxn, hxc⟩ := hx k hlt
          have hblr : b < wr.heap.size := by have := hbw.size; omega
          replace hxn := Lib.hid hxn
          replace hxc := Lib.hid hxc
          replace hx := Lib.hid hx
          go_wp2_with fail
          refine wp_region_held_drew (S := fun W => Below wr.heap.size wr W) (by kernel_rfl) ((Below.refl _ _).drew) (fun hS0 => ?_)
          (refine wpAnyH_take (i := 0) (oi := ⟨some 87, _, _, _, _, _⟩) rfl (by kernel_rfl) (by kernel_rfl) (by kernel_rfl) (fun _ _ _ h => h) (.inl ⟨rfl, fun _ _ => rfl⟩) (by assumption) ?_); try simp only [Act.put, List.setIfInBounds_toArray, List.set_cons_zero, List.set_cons_succ]
          (refine wpAnyH_take (i := 1) (oi := ⟨some 88, _, _, _, _, _⟩) rfl (by kernel_rfl) (by kernel_rfl) (by kernel_rfl) (fun _ _ _ h => h) (.inl ⟨rfl, fun W hS => by (have c7' := (hS.cell (p := ⟨gp, 7, none⟩) hgl).trans c7); go_simp; try rfl⟩) (by assumption) ?_); try simp only [Act.put, List.setIfInBounds_toArray, List.set_cons_zero, List.set_cons_succ]
          (refine wpAnyH_take (i := 2) (oi := ⟨some 89, _, _, _, _, _⟩) rfl (by kernel_rfl) (by kernel_rfl) (by kernel_rfl) (fun _ _ _ h => h) (.inl ⟨rfl, fun _ _ => rfl⟩) (by assumption) ?_); try simp only [Act.put, List.setIfInBounds_toArray, List.set_cons_zero, List.set_cons_succ]
          (refine wpAnyH_take (i := 3) (oi := ⟨some 90, _, _, _, _, _⟩) rfl (by kernel_rfl) (by kernel_rfl) (by kernel_rfl) (fun _ _ _ h => h) (.inl ⟨rfl, fun W hS => by skip; go_simp; try rfl⟩) (by assumption) ?_); try simp only [Act.put, List.setIfInBounds_toArray, List.set_cons_zero, List.set_cons_succ]
          (refine wpAnyH_take (i := 4) (oi := ⟨some 91, _, _, _, _, _⟩) rfl (by kernel_rfl) (by kernel_rfl) (by kernel_rfl) (fun _ _ _ h => h) (.inl ⟨rfl, fun W hS => exec_load_list (vs := x.cells) agg_Item rfl (fun j v hv => (hS.cell (p := ⟨b, off + k * 19 + j, none⟩) hblr).trans (hxc.out j v hv)) rfl rfl⟩) (by assumption) ?_); try simp only [Act.put, List.setIfInBounds_toArray, List.set_cons_zero, List.set_cons_succ]
          refine wpAnyH_ready (rs := [5]) (by kernel_rfl) (by simp) ?_
          refine AllReadyH.cons (o := ⟨some 92, _, _, _, _, _⟩) rfl (fun K hK => ?_) AllReadyH.nil
          go_simp
          refine (item05_some _ x.nm hxn.out _ _ _ _ _ _ _ _ _ _ _ _ _ _ _ _ _ _).mono ?_
          rintro e w7 ⟨bi, rfl, hb7⟩
          have hk7 : Below wr.heap.size wr w7 := hS0.trans (hb7.mono hS0.size)
          clear hS0 hb7
          go_wp2_with fail
          refine hK.out _ _ hk7 (fun hS2 => ?_)
          clear hK K
          try simp only [Act.put, List.setIfInBounds_toArray, List.set_cons_zero, List.set_cons_succ]
          cases bi
          · (refine wpAnyH_take (i := 6) (oi := ⟨some 93, _, _, _, _, _⟩) rfl (by kernel_rfl) (by kernel_rfl) (by kernel_rfl) (fun _ _ _ h => h) (.inl ⟨rfl, fun _ _ => rfl⟩) (by assumption) ?_); try simp only [Act.put, List.setIfInBounds_toArray, List.set_cons_zero, List.set_cons_succ]
            (refine wpAnyH_take (i := 7) (oi := ⟨some 94, _, _, _, _, _⟩) rfl (by kernel_rfl) (by kernel_rfl) (by kernel_rfl) (fun _ _ _ h => h) (.inl ⟨rfl, fun _ _ => rfl⟩) (by assumption) ?_); try simp only [Act.put, List.setIfInBounds_toArray, List.set_cons_zero, List.set_cons_succ]
            (refine wpAnyH_take (i := 8) (oi := ⟨some 95, _, _, _, _, _⟩) rfl (by kernel_rfl) (by kernel_rfl) (by kernel_rfl) (fun _ _ _ h => h) (.inr ⟨rfl, rfl⟩) (by assumption) ?_); try simp only [Act.put, List.setIfInBounds_toArray, List.set_cons_zero, List.set_cons_succ]
            (refine wpAnyH_take (i := 9) (oi := ⟨some 96, _, _, _, _, _⟩) rfl (by kernel_rfl) (by kernel_rfl) (by kernel_rfl) (fun _ _ _ h => h) (.inr ⟨rfl, rfl⟩) (by assumption) ?_); try simp only [Act.put, List.setIfInBounds_toArray, List.set_cons_zero, List.set_cons_succ]
            (refine wpAnyH_take (i := 10) (oi := ⟨some 97, _, _, _, _, _⟩) rfl (by kernel_rfl) (by kernel_rfl) (by kernel_rfl) (fun _ _ _ h => h) (.inr ⟨rfl, rfl⟩) (by assumption) ?_); try simp only [Act.put, List.setIfInBounds_toArray, List.set_cons_zero, List.set_cons_succ]
            (refine wpAnyH_take (i := 11) (oi := ⟨some 98, _, _, _, _, _⟩) rfl (by kernel_rfl) (by kernel_rfl) (by kernel_rfl) (fun _ _ _ h => h) (.inr ⟨rfl, rfl⟩) (by assumption) ?_); try simp only [Act.put, List.setIfInBounds_toArray, List.set_cons_zero, List.set_cons_succ]
            (refine wpAnyH_take (i := 12) (oi := ⟨some 99, _, _, _, _, _⟩) rfl (by kernel_rfl) (by kernel_rfl) (by kernel_rfl) (fun _ _ _ h => h) (.inr ⟨rfl, rfl⟩) (by assumption) ?_); try simp only [Act.put, List.setIfInBounds_toArray, List.set_cons_zero, List.set_cons_succ]
            (refine wpAnyH_take (i := 13) (oi := ⟨some 100, _, _, _, _, _⟩) rfl (by kernel_rfl) (by kernel_rfl) (by kernel_rfl) (fun _ _ _ h => h) (.inr ⟨rfl, rfl⟩) (by assumption) ?_); try simp only [Act.put, List.setIfInBounds_toArray, List.set_cons_zero, List.set_cons_succ]
            (refine wpAnyH_take (i := 14) (oi := ⟨some 101, _, _, _, _, _⟩) rfl (by kernel_rfl) (by kernel_rfl) (by kernel_rfl) (fun _ _ _ h => h) (.inr ⟨rfl, rfl⟩) (by assumption) ?_); try simp only [Act.put, List.setIfInBounds_toArray, List.set_cons_zero, List.set_cons_succ]
            (refine wpAnyH_take (i := 15) (oi := ⟨some 102, _, _, _, _, _⟩) rfl (by kernel_rfl) (by kernel_rfl) (by kernel_rfl) (fun _ _ _ h => h) (.inr ⟨rfl, rfl⟩) (by assumption) ?_); try simp only [Act.put, List.setIfInBounds_toArray, List.set_cons_zero, List.set_cons_succ]
            (refine wpAnyH_take (i := 16) (oi := ⟨some 103, _, _, _, _, _⟩) rfl (by kernel_rfl) (by kernel_rfl) (by kernel_rfl) (fun _ _ _ h => h) (.inr ⟨rfl, rfl⟩) (by assumption) ?_); try simp only [Act.put, List.setIfInBounds_toArray, List.set_cons_zero, List.set_cons_succ]
            (refine wpAnyH_take (i := 17) (oi := ⟨some 104, _, _, _, _, _⟩) rfl (by kernel_rfl) (by kernel_rfl) (by kernel_rfl) (fun _ _ _ h => h) (.inr ⟨rfl, rfl⟩) (by assumption) ?_); try simp only [Act.put, List.setIfInBounds_toArray, List.set_cons_zero, List.set_cons_succ]
            (refine wpAnyH_take (i := 18) (oi := ⟨some 105, _, _, _, _, _⟩) rfl (by kernel_rfl) (by kernel_rfl) (by kernel_rfl) (fun _ _ _ h => h) (.inr ⟨rfl, rfl⟩) (by assumption) ?_); try simp only [Act.put, List.setIfInBounds_toArray, List.set_cons_zero, List.set_cons_succ]
            (refine wpAnyH_take (i := 19) (oi := ⟨some 106, _, _, _, _, _⟩) rfl (by kernel_rfl) (by kernel_rfl) (by kernel_rfl) (fun _ _ _ h => h) (.inr ⟨rfl, rfl⟩) (by assumption) ?_); try simp only [Act.put, List.setIfInBounds_toArray, List.set_cons_zero, List.set_cons_succ]
            (refine wpAnyH_take (i := 20) (oi := ⟨some 107, _, _, _, _, _⟩) rfl (by kernel_rfl) (by kernel_rfl) (by kernel_rfl) (fun _ _ _ h => h) (.inr ⟨rfl, rfl⟩) (by assumption) ?_); try simp only [Act.put, List.setIfInBounds_toArray, List.set_cons_zero, List.set_cons_succ]
            (refine wpAnyH_take (i := 21) (oi := ⟨some 108, _, _, _, _, _⟩) rfl (by kernel_rfl) (by kernel_rfl) (by kernel_rfl) (fun _ _ _ h => h) (.inr ⟨rfl, rfl⟩) (by assumption) ?_); try simp only [Act.put, List.setIfInBounds_toArray, List.set_cons_zero, List.set_cons_succ]
            (refine wpAnyH_take (i := 22) (oi := ⟨some 109, _, _, _, _, _⟩) rfl (by kernel_rfl) (by kernel_rfl) (by kernel_rfl) (fun _ _ _ h => h) (.inr ⟨rfl, rfl⟩) (by assumption) ?_); try simp only [Act.put, List.setIfInBounds_toArray, List.set_cons_zero, List.set_cons_succ]
            (refine wpAnyH_take (i := 23) (oi := ⟨some 110, _, _, _, _, _⟩) rfl (by kernel_rfl) (by kernel_rfl) (by kernel_rfl) (fun _ _ _ h => h) (.inr ⟨rfl, rfl⟩) (by assumption) ?_); try simp only [Act.put, List.setIfInBounds_toArray, List.set_cons_zero, List.set_cons_succ]
            (refine wpAnyH_take (i := 24) (oi := ⟨some 111, _, _, _, _, _⟩) rfl (by kernel_rfl) (by kernel_rfl) (by kernel_rfl) (fun _ _ _ h => h) (.inr ⟨rfl, rfl⟩) (by assumption) ?_); try simp only [Act.put, List.setIfInBounds_toArray, List.set_cons_zero, List.set_cons_succ]
            (refine wpAnyH_take (i := 25) (oi := ⟨some 112, _, _, _, _, _⟩) rfl (by kernel_rfl) (by kernel_rfl) (by kernel_rfl) (fun _ _ _ h => h) (.inr ⟨rfl, rfl⟩) (by assumption) ?_); try simp only [Act.put, List.setIfInBounds_toArray, List.set_cons_zero, List.set_cons_succ]
            (refine wpAnyH_take (i := 26) (oi := ⟨some 113, _, _, _, _, _⟩) rfl (by kernel_rfl) (by kernel_rfl) (by kernel_rfl) (fun _ _ _ h => h) (.inr ⟨rfl, rfl⟩) (by assumption) ?_); try simp only [Act.put, List.setIfInBounds_toArray, List.set_cons_zero, List.set_cons_succ]
            (refine wpAnyH_take (i := 27) (oi := ⟨some 114, _, _, _, _, _⟩) rfl (by kernel_rfl) (by kernel_rfl) (by kernel_rfl) (fun _ _ _ h => h) (.inr ⟨rfl, rfl⟩) (by assumption) ?_); try simp only [Act.put, List.setIfInBounds_toArray, List.set_cons_zero, List.set_cons_succ]
            (refine wpAnyH_take (i := 28) (oi := ⟨some 115, _, _, _, _, _⟩) rfl (by kernel_rfl) (by kernel_rfl) (by kernel_rfl) (fun _ _ _ h => h) (.inl ⟨rfl, fun _ _ => rfl⟩) (by assumption) ?_); try simp only [Act.put, List.setIfInBounds_toArray, List.set_cons_zero, List.set_cons_succ]
            refine wpAnyH_done (by kernel_rfl) ?_ _
            clear hS2
            go_wp2_with fail
            go_ret
            exact ⟨false, rfl, hbw.trans (hk7.mono hbw.size), fun h => by cases h⟩
          · by_cases hk0 : k = 0
            · subst hk0
              have hk0' : ((0 : Nat) : Int) = 0 := rfl
              (refine wpAnyH_take (i := 6) (oi := ⟨some 93, _, _, _, _, _⟩) rfl (by kernel_rfl) (by kernel_rfl) (by kernel_rfl) (fun _ _ _ h => h) (.inl ⟨rfl, fun _ _ => rfl⟩) (by assumption) ?_); try simp only [Act.put, List.setIfInBounds_toArray, List.set_cons_zero, List.set_cons_succ]
              (refine wpAnyH_take (i := 7) (oi := ⟨some 94, _, _, _, _, _⟩) rfl (by kernel_rfl) (by kernel_rfl) (by kernel_rfl) (fun _ _ _ h => h) (.inl ⟨rfl, fun _ _ => rfl⟩) (by assumption) ?_); try simp only [Act.put, List.setIfInBounds_toArray, List.set_cons_zero, List.set_cons_succ]
              (refine wpAnyH_take (i := 8) (oi := ⟨some 95, _, _, _, _, _⟩) rfl (by kernel_rfl) (by kernel_rfl) (by kernel_rfl) (fun _ _ _ h => h) (.inl ⟨rfl, fun _ _ => rfl⟩) (by assumption) ?_); try simp only [Act.put, List.setIfInBounds_toArray, List.set_cons_zero, List.set_cons_succ]
              (refine wpAnyH_take (i := 9) (oi := ⟨some 96, _, _, _, _, _⟩) rfl (by kernel_rfl) (by kernel_rfl) (by kernel_rfl) (fun _ _ _ h => h) (.inl ⟨rfl, fun W hS => by skip; go_simp; try rfl⟩) (by assumption) ?_); try simp only [Act.put, List.setIfInBounds_toArray, List.set_cons_zero, List.set_cons_succ]
              (refine wpAnyH_take (i := 10) (oi := ⟨some 97, _, _, _, _, _⟩) rfl (by kernel_rfl) (by kernel_rfl) (by kernel_rfl) (fun _ _ _ h => h) (.inl ⟨rfl, fun _ _ => rfl⟩) (by assumption) ?_); try simp only [Act.put, List.setIfInBounds_toArray, List.set_cons_zero, List.set_cons_succ]
              (refine wpAnyH_take (i := 11) (oi := ⟨some 98, _, _, _, _, _⟩) rfl (by kernel_rfl) (by kernel_rfl) (by kernel_rfl) (fun _ _ _ h => h) (.inr ⟨rfl, rfl⟩) (by assumption) ?_); try simp only [Act.put, List.setIfInBounds_toArray, List.set_cons_zero, List.set_cons_succ]
              (refine wpAnyH_take (i := 12) (oi := ⟨some 99, _, _, _, _, _⟩) rfl (by kernel_rfl) (by kernel_rfl) (by kernel_rfl) (fun _ _ _ h => h) (.inr ⟨rfl, rfl⟩) (by assumption) ?_); try simp only [Act.put, List.setIfInBounds_toArray, List.set_cons_zero, List.set_cons_succ]
              (refine wpAnyH_take (i := 13) (oi := ⟨some 100, _, _, _, _, _⟩) rfl (by kernel_rfl) (by kernel_rfl) (by kernel_rfl) (fun _ _ _ h => h) (.inr ⟨rfl, rfl⟩) (by assumption) ?_); try simp only [Act.put, List.setIfInBounds_toArray, List.set_cons_zero, List.set_cons_succ]
              (refine wpAnyH_take (i := 14) (oi := ⟨some 101, _, _, _, _, _⟩) rfl (by kernel_rfl) (by kernel_rfl) (by kernel_rfl) (fun _ _ _ h => h) (.inr ⟨rfl, rfl⟩) (by assumption) ?_); try simp only [Act.put, List.setIfInBounds_toArray, List.set_cons_zero, List.set_cons_succ]
              (refine wpAnyH_take (i := 15) (oi := ⟨some 102, _, _, _, _, _⟩) rfl (by kernel_rfl) (by kernel_rfl) (by kernel_rfl) (fun _ _ _ h => h) (.inr ⟨rfl, rfl⟩) (by assumption) ?_); try simp only [Act.put, List.setIfInBounds_toArray, List.set_cons_zero, List.set_cons_succ]
              (refine wpAnyH_take (i := 16) (oi := ⟨some 103, _, _, _, _, _⟩) rfl (by kernel_rfl) (by kernel_rfl) (by kernel_rfl) (fun _ _ _ h => h) (.inr ⟨rfl, rfl⟩) (by assumption) ?_); try simp only [Act.put, List.setIfInBounds_toArray, List.set_cons_zero, List.set_cons_succ]
              (refine wpAnyH_take (i := 17) (oi := ⟨some 104, _, _, _, _, _⟩) rfl (by kernel_rfl) (by kernel_rfl) (by kernel_rfl) (fun _ _ _ h => h) (.inr ⟨rfl, rfl⟩) (by assumption) ?_); try simp only [Act.put, List.setIfInBounds_toArray, List.set_cons_zero, List.set_cons_succ]
              (refine wpAnyH_take (i := 18) (oi := ⟨some 105, _, _, _, _, _⟩) rfl (by kernel_rfl) (by kernel_rfl) (by kernel_rfl) (fun _ _ _ h => h) (.inr ⟨rfl, rfl⟩) (by assumption) ?_); try simp only [Act.put, List.setIfInBounds_toArray, List.set_cons_zero, List.set_cons_succ]
              (refine wpAnyH_take (i := 19) (oi := ⟨some 106, _, _, _, _, _⟩) rfl (by kernel_rfl) (by kernel_rfl) (by kernel_rfl) (fun _ _ _ h => h) (.inr ⟨rfl, rfl⟩) (by assumption) ?_); try simp only [Act.put, List.setIfInBounds_toArray, List.set_cons_zero, List.set_cons_succ]
              (refine wpAnyH_take (i := 20) (oi := ⟨some 107, _, _, _, _, _⟩) rfl (by kernel_rfl) (by kernel_rfl) (by kernel_rfl) (fun _ _ _ h => h) (.inr ⟨rfl, rfl⟩) (by assumption) ?_); try simp only [Act.put, List.setIfInBounds_toArray, List.set_cons_zero, List.set_cons_succ]
              (refine wpAnyH_take (i := 21) (oi := ⟨some 108, _, _, _, _, _⟩) rfl (by kernel_rfl) (by kernel_rfl) (by kernel_rfl) (fun _ _ _ h => h) (.inr ⟨rfl, rfl⟩) (by assumption) ?_); try simp only [Act.put, List.setIfInBounds_toArray, List.set_cons_zero, List.set_cons_succ]
              (refine wpAnyH_take (i := 22) (oi := ⟨some 109, _, _, _, _, _⟩) rfl (by kernel_rfl) (by kernel_rfl) (by kernel_rfl) (fun _ _ _ h => h) (.inr ⟨rfl, rfl⟩) (by assumption) ?_); try simp only [Act.put, List.setIfInBounds_toArray, List.set_cons_zero, List.set_cons_succ]
              (refine wpAnyH_take (i := 23) (oi := ⟨some 110, _, _, _, _, _⟩) rfl (by kernel_rfl) (by kernel_rfl) (by kernel_rfl) (fun _ _ _ h => h) (.inr ⟨rfl, rfl⟩) (by assumption) ?_); try simp only [Act.put, List.setIfInBounds_toArray, List.set_cons_zero, List.set_cons_succ]
              (refine wpAnyH_take (i := 24) (oi := ⟨some 111, _, _, _, _, _⟩) rfl (by kernel_rfl) (by kernel_rfl) (by kernel_rfl) (fun _ _ _ h => h) (.inr ⟨rfl, rfl⟩) (by assumption) ?_); try simp only [Act.put, List.setIfInBounds_toArray, List.set_cons_zero, List.set_cons_succ]
              (refine wpAnyH_take (i := 25) (oi := ⟨some 112, _, _, _, _, _⟩) rfl (by kernel_rfl) (by kernel_rfl) (by kernel_rfl) (fun _ _ _ h => h) (.inr ⟨rfl, rfl⟩) (by assumption) ?_); try simp only [Act.put, List.setIfInBounds_toArray, List.set_cons_zero, List.set_cons_succ]
              (refine wpAnyH_take (i := 26) (oi := ⟨some 113, _, _, _, _, _⟩) rfl (by kernel_rfl) (by kernel_rfl) (by kernel_rfl) (fun _ _ _ h => h) (.inr ⟨rfl, rfl⟩) (by assumption) ?_); try simp only [Act.put, List.setIfInBounds_toArray, List.set_cons_zero, List.set_cons_succ]
              (refine wpAnyH_take (i := 27) (oi := ⟨some 114, _, _, _, _, _⟩) rfl (by kernel_rfl) (by kernel_rfl) (by kernel_rfl) (fun _ _ _ h => h) (.inl ⟨rfl, fun _ _ => rfl⟩) (by assumption) ?_); try simp only [Act.put, List.setIfInBounds_toArray, List.set_cons_zero, List.set_cons_succ]
              (refine wpAnyH_take (i := 28) (oi := ⟨some 115, _, _, _, _, _⟩) rfl (by kernel_rfl) (by kernel_rfl) (by kernel_rfl) (fun _ _ _ h => h) (.inl ⟨rfl, fun _ _ => rfl⟩) (by assumption) ?_); try simp only [Act.put, List.setIfInBounds_toArray, List.set_cons_zero, List.set_cons_succ]
              refine wpAnyH_done (by kernel_rfl) ?_ _
              clear hS2
              go_wp2_with fail
              go_roundw
              case rel => exact ⟨0 + 1, by omega, by go_num, hbr.trans (hk7.mono hbr.size)⟩
              case measure => simp [intOf]; omega
            · obtain ⟨y, hyn, hyc⟩ := hx.out (k - 1) (by omega)
              have hk0' : (0 : Int) < (k : Int) := by omega
              have hk0n : 0 < k := by omega
              have hk1 : (1 : Int) ≤ (k : Int) := by omega
              have nk : wr.cell? ⟨b, off + k * 19, none⟩ = some (.string x.nm) := hxc.out 0 _ rfl
              have n1 : wr.cell? ⟨b, off + (k - 1) * 19, none⟩ = some (.string y.nm) := hyc 0 _ rfl
              clear hyc
              replace hyn := Lib.hid hyn
              have e1 : IntKind.i64.wrap ((k : Int) - 1) = (k : Int) - 1 := by rw [IntKind.wrap_i64]; omega
              have e2 : ((k : Int) - 1).toNat = k - 1 := by omega
              have e3 : (0 : Int) ≤ (k : Int) - 1 := by omega
              have e4 : (k : Int) - 1 < (n : Int) := by omega
              (refine wpAnyH_take (i := 6) (oi := ⟨some 93, _, _, _, _, _⟩) rfl (by kernel_rfl) (by kernel_rfl) (by kernel_rfl) (fun _ _ _ h => h) (.inl ⟨rfl, fun _ _ => rfl⟩) (by assumption) ?_); try simp only [Act.put, List.setIfInBounds_toArray, List.set_cons_zero, List.set_cons_succ]
              (refine wpAnyH_take (i := 7) (oi := ⟨some 94, _, _, _, _, _⟩) rfl (by kernel_rfl) (by kernel_rfl) (by kernel_rfl) (fun _ _ _ h => h) (.inl ⟨rfl, fun _ _ => rfl⟩) (by assumption) ?_); try simp only [Act.put, List.setIfInBounds_toArray, List.set_cons_zero, List.set_cons_succ]
              (refine wpAnyH_take (i := 8) (oi := ⟨some 95, _, _, _, _, _⟩) rfl (by kernel_rfl) (by kernel_rfl) (by kernel_rfl) (fun _ _ _ h => h) (.inl ⟨rfl, fun _ _ => rfl⟩) (by assumption) ?_); try simp only [Act.put, List.setIfInBounds_toArray, List.set_cons_zero, List.set_cons_succ]
              (refine wpAnyH_take (i := 9) (oi := ⟨some 96, _, _, _, _, _⟩) (v := .bool true) rfl (by kernel_rfl) (by kernel_rfl) (by kernel_rfl) (fun _ _ _ h => h) (.inl ⟨rfl, fun W hS => by skip; go_simp⟩) (by assumption) ?_); try simp only [Act.put, List.setIfInBounds_toArray, List.set_cons_zero, List.set_cons_succ]
              (refine wpAnyH_take (i := 10) (oi := ⟨some 97, _, _, _, _, _⟩) rfl (by kernel_rfl) (by kernel_rfl) (by kernel_rfl) (fun _ _ _ h => h) (.inl ⟨rfl, fun _ _ => rfl⟩) (by assumption) ?_); try simp only [Act.put, List.setIfInBounds_toArray, List.set_cons_zero, List.set_cons_succ]
              (refine wpAnyH_take (i := 11) (oi := ⟨some 98, _, _, _, _, _⟩) rfl (by kernel_rfl) (by kernel_rfl) (by kernel_rfl) (fun _ _ _ h => h) (.inl ⟨rfl, fun _ _ => rfl⟩) (by assumption) ?_); try simp only [Act.put, List.setIfInBounds_toArray, List.set_cons_zero, List.set_cons_succ]
              (refine wpAnyH_take (i := 12) (oi := ⟨some 99, _, _, _, _, _⟩) rfl (by kernel_rfl) (by kernel_rfl) (by kernel_rfl) (fun _ _ _ h => h) (.inl ⟨rfl, fun W hS => by (have c7' := (hS.cell (p := ⟨gp, 7, none⟩) hgl).trans c7); go_simp; try rfl⟩) (by assumption) ?_); try simp only [Act.put, List.setIfInBounds_toArray, List.set_cons_zero, List.set_cons_succ]
              (refine wpAnyH_take (i := 13) (oi := ⟨some 100, _, _, _, _, _⟩) rfl (by kernel_rfl) (by kernel_rfl) (by kernel_rfl) (fun _ _ _ h => h) (.inl ⟨rfl, fun _ _ => rfl⟩) (by assumption) ?_); try simp only [Act.put, List.setIfInBounds_toArray, List.set_cons_zero, List.set_cons_succ]
              (refine wpAnyH_take (i := 14) (oi := ⟨some 101, _, _, _, _, _⟩) rfl (by kernel_rfl) (by kernel_rfl) (by kernel_rfl) (fun _ _ _ h => h) (.inl ⟨rfl, fun W hS => by skip; go_simp; try rfl⟩) (by assumption) ?_); try simp only [Act.put, List.setIfInBounds_toArray, List.set_cons_zero, List.set_cons_succ]
              (refine wpAnyH_take (i := 15) (oi := ⟨some 102, _, _, _, _, _⟩) rfl (by kernel_rfl) (by kernel_rfl) (by kernel_rfl) (fun _ _ _ h => h) (.inl ⟨rfl, fun W hS => by skip; go_simp; try rfl⟩) (by assumption) ?_); try simp only [Act.put, List.setIfInBounds_toArray, List.set_cons_zero, List.set_cons_succ]
              (refine wpAnyH_take (i := 16) (oi := ⟨some 103, _, _, _, _, _⟩) rfl (by kernel_rfl) (by kernel_rfl) (by kernel_rfl) (fun _ _ _ h => h) (.inl ⟨rfl, fun _ _ => rfl⟩) (by assumption) ?_); try simp only [Act.put, List.setIfInBounds_toArray, List.set_cons_zero, List.set_cons_succ]
              (refine wpAnyH_take (i := 17) (oi := ⟨some 104, _, _, _, _, _⟩) rfl (by kernel_rfl) (by kernel_rfl) (by kernel_rfl) (fun _ _ _ h => h) (.inl ⟨rfl, fun _ _ => rfl⟩) (by assumption) ?_); try simp only [Act.put, List.setIfInBounds_toArray, List.set_cons_zero, List.set_cons_succ]
              (refine wpAnyH_take (i := 18) (oi := ⟨some 105, _, _, _, _, _⟩) rfl (by kernel_rfl) (by kernel_rfl) (by kernel_rfl) (fun _ _ _ h => h) (.inl ⟨rfl, fun W hS => by (have c7' := (hS.cell (p := ⟨b, off + (k - 1) * 19, none⟩) hblr).trans n1); go_simp; try rfl⟩) (by assumption) ?_); try simp only [Act.put, List.setIfInBounds_toArray, List.set_cons_zero, List.set_cons_succ]
              (refine wpAnyH_take (i := 19) (oi := ⟨some 106, _, _, _, _, _⟩) rfl (by kernel_rfl) (by kernel_rfl) (by kernel_rfl) (fun _ _ _ h => h) (.inl ⟨rfl, fun _ _ => rfl⟩) (by assumption) ?_); try simp only [Act.put, List.setIfInBounds_toArray, List.set_cons_zero, List.set_cons_succ]
              (refine wpAnyH_take (i := 20) (oi := ⟨some 107, _, _, _, _, _⟩) rfl (by kernel_rfl) (by kernel_rfl) (by kernel_rfl) (fun _ _ _ h => h) (.inl ⟨rfl, fun W hS => by (have c7' := (hS.cell (p := ⟨gp, 7, none⟩) hgl).trans c7); go_simp; try rfl⟩) (by assumption) ?_); try simp only [Act.put, List.setIfInBounds_toArray, List.set_cons_zero, List.set_cons_succ]
              (refine wpAnyH_take (i := 21) (oi := ⟨some 108, _, _, _, _, _⟩) rfl (by kernel_rfl) (by kernel_rfl) (by kernel_rfl) (fun _ _ _ h => h) (.inl ⟨rfl, fun _ _ => rfl⟩) (by assumption) ?_); try simp only [Act.put, List.setIfInBounds_toArray, List.set_cons_zero, List.set_cons_succ]
              (refine wpAnyH_take (i := 22) (oi := ⟨some 109, _, _, _, _, _⟩) rfl (by kernel_rfl) (by kernel_rfl) (by kernel_rfl) (fun _ _ _ h => h) (.inl ⟨rfl, fun W hS => by skip; go_simp; try rfl⟩) (by assumption) ?_); try simp only [Act.put, List.setIfInBounds_toArray, List.set_cons_zero, List.set_cons_succ]
              (refine wpAnyH_take (i := 23) (oi := ⟨some 110, _, _, _, _, _⟩) rfl (by kernel_rfl) (by kernel_rfl) (by kernel_rfl) (fun _ _ _ h => h) (.inl ⟨rfl, fun _ _ => rfl⟩) (by assumption) ?_); try simp only [Act.put, List.setIfInBounds_toArray, List.set_cons_zero, List.set_cons_succ]
              (refine wpAnyH_take (i := 24) (oi := ⟨some 111, _, _, _, _, _⟩) rfl (by kernel_rfl) (by kernel_rfl) (by kernel_rfl) (fun _ _ _ h => h) (.inl ⟨rfl, fun _ _ => rfl⟩) (by assumption) ?_); try simp only [Act.put, List.setIfInBounds_toArray, List.set_cons_zero, List.set_cons_succ]
              (refine wpAnyH_take (i := 25) (oi := ⟨some 112, _, _, _, _, _⟩) rfl (by kernel_rfl) (by kernel_rfl) (by kernel_rfl) (fun _ _ _ h => h) (.inl ⟨rfl, fun W hS => by (have c7' := (hS.cell (p := ⟨b, off + k * 19, none⟩) hblr).trans nk); go_simp; try rfl⟩) (by assumption) ?_); try simp only [Act.put, List.setIfInBounds_toArray, List.set_cons_zero, List.set_cons_succ]
              (refine wpAnyH_take (i := 26) (oi := ⟨some 113, _, _, _, _, _⟩) rfl (by kernel_rfl) (by kernel_rfl) (by kernel_rfl) (fun _ _ _ h => h) (.inl ⟨rfl, fun W hS => by skip; go_simp; try rfl⟩) (by assumption) ?_); try simp only [Act.put, List.setIfInBounds_toArray, List.set_cons_zero, List.set_cons_succ]
              (refine wpAnyH_take (i := 27) (oi := ⟨some 114, _, _, _, _, _⟩) rfl (by kernel_rfl) (by kernel_rfl) (by kernel_rfl) (fun _ _ _ h => h) (.inl ⟨rfl, fun _ _ => rfl⟩) (by assumption) ?_); try simp only [Act.put, List.setIfInBounds_toArray, List.set_cons_zero, List.set_cons_succ]
              (refine wpAnyH_take (i := 28) (oi := ⟨some 115, _, _, _, _, _⟩) rfl (by kernel_rfl) (by kernel_rfl) (by kernel_rfl) (fun _ _ _ h => h) (.inl ⟨rfl, fun _ _ => rfl⟩) (by assumption) ?_); try simp only [Act.put, List.setIfInBounds_toArray, List.set_cons_zero, List.set_cons_succ]
              refine wpAnyH_done (by kernel_rfl) ?_ _
              clear hS2
              go_wp2_with fail
              · go_ret
                exact ⟨false, rfl, hbw.trans (hk7.mono hbw.size), fun h => by cases h⟩
              · go_roundw
                case rel => exact ⟨k + 1, by omega, by go_num, hbr.trans (hk7.mono hbr.size)⟩
                case measure => simp [intOf]; omega
        · obtain rfl : k = n := by omega
          go_wp2_with fail
          go_ret
          exact ⟨true, rfl, hbw, fun _ => hF.out⟩

theorem fit05_any (w : World) (kd src dst bo li ec el : Int) (A : Option Addr) (n c : Nat) (hI : ItemsAt w w.heap.size A n) (hn : n ≤ maxLen) :
    Calls Try.prog 41 #[.agg #[.int .i64 kd, .int .i64 src, .int .i64 dst, .int .i64 bo, .int .i64 li, .int .i64 ec, .int .i64 el, .slice A n c]] w (FitPost w kd src dst bo li ec el) := by
  by_cases h1 : kd < 1 ∨ 5 < kd
  · exact fit05_out w kd src dst bo li ec el A n c h1
  by_cases h2 : kd = 1
  · subst h2
    exact fit05_hello w src dst bo li ec el A n c
  by_cases h3 : kd = 2 ∨ kd = 5
  · exact fit05_plain w kd src dst bo li ec el A n c h3
  have h4 : kd = 3 ∨ kd = 4 := by omega
  by_cases h5 : isNode src = true ∧ isNode dst = true ∧ src ≠ dst ∧ isIn bo 1 1099511627776 = true ∧ isIn li 0 1099511627776 = true ∧ isIn ec 1 1099511627776 = true ∧ isIn el 0 1099511627776 = true
  · obtain ⟨k1, k2, k3, k4, k5, k6, k7⟩ := h5
    exact fit05_good w kd src dst bo li ec el A n c h4 k1 k2 k3 k4 k5 k6 k7 hI hn
  · exact fit05_bad w kd src dst bo li ec el A n c h4 h5

end Go.Proofs.Ytkbcnapfcojekaa
