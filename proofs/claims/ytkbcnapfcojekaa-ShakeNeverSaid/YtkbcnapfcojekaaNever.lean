/-
  Layer 14: the statement ShakeNever: in whatever row of See and Dropped nothing that was seen goes back, no own life gets less. Every input; no condition.
-/
import Derived.Test.YtkbcnapfcojekaaShakeN
import Derived.Test.YtkbcnapfcojekaaOpenRows
import Derived.Deep.RegionHeld3
namespace Go.Proofs.Ytkbcnapfcojekaa
open Go.ChangeShapes Go.WideShapes Go.ChangeAt Go.RowKit Go.Ed Go.Joins

namespace nevers
theorem Get_lit (w : World) (A : Option Addr) (len cap : Nat) (ls : List Seen) (p : Int) {q b l m : Int} (hs : got ls p = ⟨q, b, l, m⟩) (hlen : (len : Int) ≤ 9223372036854775807) (hI : SeenAt w w.heap.size A len ls) :
    Calls Try.prog 35 #[.slice A len cap, .int .i64 p] w fun e w' => e = .returned (.agg #[.int .i64 q, .int .i64 b, .int .i64 l, .int .i64 m]) ∧ Below w.heap.size w w' := by
  have h := Get_any w A len cap ls p hlen hI
  rw [hs] at h
  exact h
theorem nofit (id : Int) (A : Option Addr) (n cp : Nat) (ls : List Seen) (A2 : Option Addr) (m c2 : Nat) (w : World) (hn : (n : Int) ≤ 9223372036854775807) (hI : SeenAt w w.heap.size A n ls) (hf : fitL id ls = false) :
    Calls Try.prog 7 #[.int .i64 id, .slice A n cp, .slice A2 m c2] w fun e w' => e = .returned (.bool true) ∧ Below w.heap.size w w' := by
  replace hf := Lib.hid hf
  go_enter Try.func7, Try.ntmps7
  go_wp2_with fail
  refine (Fit_lit _ id A n cp ls false hf.out (by omega) hI).mono ?_
  rintro e w1 ⟨rfl, h1⟩
  go_wp2_with fail
  refine (awake14 _).mono ?_
  rintro e w5 ⟨rfl, h5⟩
  go_wp2_with fail
  go_ret
  exact ⟨rfl, h1.trans (h5.mono h1.size)⟩

def RowsT (w : World) (A : Option Addr) (m : Nat) : Prop := 0 < m → ∃ b off, A = some ⟨b, off, none⟩ ∧ b < w.heap.size ∧ ∀ i, i < m → ∃ (d : Bool) (p bo li : Int), w.cell? ⟨b, off + i * 4, none⟩ = some (.bool d) ∧
      w.cell? ⟨b, off + i * 4 + 1, none⟩ = some (.int .i64 p) ∧ w.cell? ⟨b, off + i * 4 + 2, none⟩ = some (.int .i64 bo) ∧ w.cell? ⟨b, off + i * 4 + 3, none⟩ = some (.int .i64 li)

theorem field1 (W : World) (a b c d : Value) : Sem.run Try.prog (Instr.field 60 (.agg #[a, b, c, d]) 1) W = .ok b W := by kernel_rfl
theorem field2 (W : World) (a b c d : Value) : Sem.run Try.prog (Instr.field 60 (.agg #[a, b, c, d]) 2) W = .ok c W := by kernel_rfl

/-- the blocks of a turn, and of two sights, over three calls -/
theorem mid {wi u1 u2 u3 : World} {gT : Nat} {T S : TypeId} {cs xs ys : Array Value} (hT : Blk wi gT T cs) (h1 : Below wi.heap.size wi u1) (h2 : Below (u1.alloc (.cells xs S)).heap.size (u1.alloc (.cells xs S)) u2) (h3 : Below (u2.alloc (.cells ys S)).heap.size (u2.alloc (.cells ys S)) u3) :
    Blk u3 gT T cs ∧ Blk u3 u1.heap.size S xs ∧ Blk u3 u2.heap.size S ys ∧ Below wi.heap.size wi u3 := by
  have s1 := h1.size
  have s2 := h2.size
  simp at s2
  have l1 := hT.lt
  exact ⟨((((hT.below h1 hT.lt).alloc _).below h2 (by simp; omega)).alloc _).below h3 (by simp; omega), (((Blk.new u1 _ _).below h2 (by simp)).alloc _).below h3 (by simp; omega), (Blk.new u2 _ _).below h3 (by simp),
    ((h1.alloc s1 _).trans (h2.mono (by simp; omega))).trans (((Below.refl _ u2).alloc (by omega) _).trans (h3.mono (by simp; omega)))⟩
theorem mid2 {wi u1 u2 : World} {gT : Nat} {T S : TypeId} {cs xs : Array Value} (hT : Blk wi gT T cs) (h1 : Below wi.heap.size wi u1) (h2 : Below (u1.alloc (.cells xs S)).heap.size (u1.alloc (.cells xs S)) u2) :
    (∀ o, Blk (u2.alloc o) gT T cs) ∧ (∀ o, Blk (u2.alloc o) u1.heap.size S xs) := by
  have s1 := h1.size
  have l1 := hT.lt
  exact ⟨fun o => ((((hT.below h1 hT.lt).alloc _).below h2 (by simp; omega)).alloc _), fun o => (((Blk.new u1 _ _).below h2 (by simp)).alloc _)⟩

theorem keepS {wi W W' : World} {g : Nat} {x0 x1 x2 x3 : Value} (hg : g < wi.heap.size) (h : W.cell? ⟨g, 0, none⟩ = some x0 ∧ W.cell? ⟨g, 1, none⟩ = some x1 ∧ W.cell? ⟨g, 2, none⟩ = some x2 ∧ W.cell? ⟨g, 3, none⟩ = some x3 ∧ Below wi.heap.size wi W)
    (hb : Below W.heap.size W W') : W'.cell? ⟨g, 0, none⟩ = some x0 ∧ W'.cell? ⟨g, 1, none⟩ = some x1 ∧ W'.cell? ⟨g, 2, none⟩ = some x2 ∧ W'.cell? ⟨g, 3, none⟩ = some x3 ∧ Below wi.heap.size wi W' := by
  obtain ⟨h0, h1, h2, h3, h4⟩ := h
  have hs := h4.size
  have hc := fun o => hb.cell (p := ⟨g, o, none⟩) (by show g < _; omega)
  exact ⟨(hc 0).trans h0, (hc 1).trans h1, (hc 2).trans h2, (hc 3).trans h3, h4.trans (hb.mono hs)⟩


set_option maxRecDepth 100000 in
set_option maxHeartbeats 8000000 in
theorem walk (id : Int) (A : Option Addr) (n cp : Nat) (ls : List Seen) (A2 : Option Addr) (m c2 : Nat) (w : World) (hn : (n : Int) ≤ 9223372036854775807) (hm : (m : Int) ≤ 9223372036854775807) (hI : SeenAt w w.heap.size A n ls) (hR : RowsT w A2 m) :
    Calls Try.prog 7 #[.int .i64 id, .slice A n cp, .slice A2 m c2] w fun e w' => e = .returned (.bool true) ∧ Below w.heap.size w w' := by
  obtain ⟨f, hf⟩ : ∃ f, fitL id ls = f := ⟨_, rfl⟩
  cases f
  · exact nofit id A n cp ls A2 m c2 w hn hI hf
  have hfit0 := fit_iff.1 hf
  have hlen := hfit0.len
  have Hll := Lib.hid hI.len
  replace hf := Lib.hid hf
  have HR := Lib.hid hR
  replace hfit0 := Lib.hid hfit0
  clear hR
  go_enter Try.func7, Try.ntmps7
  go_wp2_with fail
  refine (Fit_lit _ id A n cp ls true hf.out (by omega) hI).mono ?_
  rintro e w1 ⟨rfl, h1⟩
  go_wp2_with fail
  refine (copied_any _ A n cp ls (by have := Hll.out; omega) ((hI.below h1).more h1.size)).mono ?_
  rintro e w2 ⟨v2, rfl, hown2, hb2⟩
  obtain ⟨A1, c1, rfl, hc1⟩ := own_slice' hown2
  have h2 := h1.trans (hb2.mono h1.size)
  have hO2 : SeenAt w2 w2.heap.size A1 n ls := Reads.of_own hown2
  clear h1 hb2 hown2 hI
  go_wp2_with fail
  go_loopw [7, 8] (fun now i wr => ∃ (k : Nat) (cur : List Seen) (Ac : Option Addr) (cc : Nat), k ≤ m ∧ now = .slice Ac cur.length cc ∧ i = .int .i64 k ∧ Fit id cur ∧ SeenAt wr wr.heap.size Ac cur.length cur ∧ Below w.heap.size w wr) (fun _ i _ => m - (intOf i).toNat)
  case atStart => exact ⟨0, ls, A1, c1, Nat.zero_le _, by rw [Hll.out], rfl, hfit0.out, by rw [Hll.out]; exact hO2, h2⟩
  case round =>
    obtain ⟨k, cur, Ac, cc, hk, rfl, rfl, hfit, hIc, hbr⟩ := hrel
    clear h2 hO2
    have hcl := hfit.len
    replace hfit := Lib.hid hfit
    by_cases hlt : k < m
    · have hlt' : (k : Int) < (m : Int) := by omega
      obtain ⟨b, off, rfl, hbw, hrow⟩ := HR.out (by omega)
      obtain ⟨d, p, bo, li, r0, r1, r2, r3⟩ := hrow k hlt
      replace r0 := (hbr.cell (p := ⟨b, off + k * 4, none⟩) hbw).trans r0
      replace r1 := (hbr.cell (p := ⟨b, off + k * 4 + 1, none⟩) hbw).trans r1
      replace r2 := (hbr.cell (p := ⟨b, off + k * 4 + 2, none⟩) hbw).trans r2
      replace r3 := (hbr.cell (p := ⟨b, off + k * 4 + 3, none⟩) hbw).trans r3
      have hcl' : (cur.length : Int) ≤ 9223372036854775807 := by omega
      clear hrow hcl'
      obtain ⟨n1, hp⟩ : ∃ f, isNode p = f := ⟨_, rfl⟩
      obtain ⟨n2, hbo⟩ : ∃ f, isIn bo 1 1099511627776 = f := ⟨_, rfl⟩
      obtain ⟨n3, hli⟩ : ∃ f, isIn li 0 1099511627776 = f := ⟨_, rfl⟩
      replace hp := Lib.hid hp
      replace hbo := Lib.hid hbo
      replace hli := Lib.hid hli
      cases n1
      · have hbT : Below w.heap.size w (wr.alloc (.cells #[.bool d, .int .i64 p, .int .i64 bo, .int .i64 li] 66)) := hbr.alloc hbr.size _
        have hIT := (hIc.below ((Below.refl _ wr).alloc (Nat.le_refl _) (.cells #[.bool d, .int .i64 p, .int .i64 bo, .int .i64 li] 66))).more (B' := (wr.alloc (.cells #[.bool d, .int .i64 p, .int .i64 bo, .int .i64 li] 66)).heap.size) (by simp)
        clear hIc hbr
        go_wp2_with (first
          | (go_at_call 29; (with_reducible refine (node_lit _ _ false hp.out).mono ?_); rintro e w' ⟨rfl, rfl⟩)
          | (go_at_call 30; (with_reducible refine (within_lit _ bo _ _ n2 hbo.out).mono ?_); rintro e w' ⟨rfl, rfl⟩)
          | (go_at_call 30; (with_reducible refine (within_lit _ li _ _ n3 hli.out).mono ?_); rintro e w' ⟨rfl, rfl⟩))
        go_roundw
        case rel => exact ⟨k + 1, cur, _, _, by omega, rfl, by go_num, hfit.out, hIT, hbT⟩
        case measure => simp [intOf]; omega
      by_cases he : p = id
      · subst he
        have hbT : Below w.heap.size w (wr.alloc (.cells #[.bool d, .int .i64 p, .int .i64 bo, .int .i64 li] 66)) := hbr.alloc hbr.size _
        have hIT := (hIc.below ((Below.refl _ wr).alloc (Nat.le_refl _) (.cells #[.bool d, .int .i64 p, .int .i64 bo, .int .i64 li] 66))).more (B' := (wr.alloc (.cells #[.bool d, .int .i64 p, .int .i64 bo, .int .i64 li] 66)).heap.size) (by simp)
        clear hIc hbr
        go_wp2_with (first
          | (go_at_call 29; (with_reducible refine (node_lit _ _ true hp.out).mono ?_); rintro e w' ⟨rfl, rfl⟩)
          | (go_at_call 30; (with_reducible refine (within_lit _ bo _ _ n2 hbo.out).mono ?_); rintro e w' ⟨rfl, rfl⟩)
          | (go_at_call 30; (with_reducible refine (within_lit _ li _ _ n3 hli.out).mono ?_); rintro e w' ⟨rfl, rfl⟩))
        go_roundw
        case rel => exact ⟨k + 1, cur, _, _, by omega, rfl, by go_num, hfit.out, hIT, hbT⟩
        case measure => simp [intOf]; omega
      have he' : (p == id) = false := by simpa using he
      cases n2
      · have hbT : Below w.heap.size w (wr.alloc (.cells #[.bool d, .int .i64 p, .int .i64 bo, .int .i64 li] 66)) := hbr.alloc hbr.size _
        have hIT := (hIc.below ((Below.refl _ wr).alloc (Nat.le_refl _) (.cells #[.bool d, .int .i64 p, .int .i64 bo, .int .i64 li] 66))).more (B' := (wr.alloc (.cells #[.bool d, .int .i64 p, .int .i64 bo, .int .i64 li] 66)).heap.size) (by simp)
        clear hIc hbr
        go_wp2_with (first
          | (go_at_call 29; (with_reducible refine (node_lit _ _ true hp.out).mono ?_); rintro e w' ⟨rfl, rfl⟩)
          | (go_at_call 30; (with_reducible refine (within_lit _ bo _ _ false hbo.out).mono ?_); rintro e w' ⟨rfl, rfl⟩)
          | (go_at_call 30; (with_reducible refine (within_lit _ li _ _ n3 hli.out).mono ?_); rintro e w' ⟨rfl, rfl⟩))
        go_roundw
        case rel => exact ⟨k + 1, cur, _, _, by omega, rfl, by go_num, hfit.out, hIT, hbT⟩
        case measure => simp [intOf]; omega
      cases n3
      · have hbT : Below w.heap.size w (wr.alloc (.cells #[.bool d, .int .i64 p, .int .i64 bo, .int .i64 li] 66)) := hbr.alloc hbr.size _
        have hIT := (hIc.below ((Below.refl _ wr).alloc (Nat.le_refl _) (.cells #[.bool d, .int .i64 p, .int .i64 bo, .int .i64 li] 66))).more (B' := (wr.alloc (.cells #[.bool d, .int .i64 p, .int .i64 bo, .int .i64 li] 66)).heap.size) (by simp)
        clear hIc hbr
        go_wp2_with (first
          | (go_at_call 29; (with_reducible refine (node_lit _ _ true hp.out).mono ?_); rintro e w' ⟨rfl, rfl⟩)
          | (go_at_call 30; (with_reducible refine (within_lit _ bo _ _ true hbo.out).mono ?_); rintro e w' ⟨rfl, rfl⟩)
          | (go_at_call 30; (with_reducible refine (within_lit _ li _ _ false hli.out).mono ?_); rintro e w' ⟨rfl, rfl⟩))
        go_roundw
        case rel => exact ⟨k + 1, cur, _, _, by omega, rfl, by go_num, hfit.out, hIT, hbT⟩
        case measure => simp [intOf]; omega
      have hbo' : 1 ≤ bo ∧ bo ≤ 1099511627776 := by have := hbo.out; unfold isIn at this; simpa using this
      have hli' : 0 ≤ li ∧ li ≤ 1099511627776 := by have := hli.out; unfold isIn at this; simpa using this
      have hBT : Blk (wr.alloc (.cells #[.bool d, .int .i64 p, .int .i64 bo, .int .i64 li] 66)) wr.heap.size 66 #[.bool d, .int .i64 p, .int .i64 bo, .int .i64 li] := Blk.new _ _ _
      have hbT : Below w.heap.size w (wr.alloc (.cells #[.bool d, .int .i64 p, .int .i64 bo, .int .i64 li] 66)) := hbr.alloc hbr.size _
      have hIT := (hIc.below ((Below.refl _ wr).alloc (Nat.le_refl _) (.cells #[.bool d, .int .i64 p, .int .i64 bo, .int .i64 li] 66))).more (B' := (wr.alloc (.cells #[.bool d, .int .i64 p, .int .i64 bo, .int .i64 li] 66)).heap.size) (by simp)
      replace hBT := Lib.hid hBT
      clear hIc hbr
      go_wp2_with (first
        | (go_at_call 29; (with_reducible refine (node_lit _ _ true hp.out).mono ?_); rintro e w' ⟨rfl, rfl⟩)
        | (go_at_call 30; (with_reducible refine (within_lit _ bo _ _ true hbo.out).mono ?_); rintro e w' ⟨rfl, rfl⟩)
        | (go_at_call 30; (with_reducible refine (within_lit _ li _ _ true hli.out).mono ?_); rintro e w' ⟨rfl, rfl⟩)
        | fail)
      cases d
      · obtain ⟨nx, hnx⟩ : ∃ nx, nx = turnS false cur p bo li := ⟨_, rfl⟩
        replace hnx := Lib.hid hnx
        refine (See_any _ Ac cur.length cc cur p bo li (by omega) (SeenAt.none hIT) hIT).mono ?_
        rw [show setS cur p (seeS (got cur p) bo li) = nx from hnx.out.symm]
        rintro e wn ⟨v3, rfl, hown3, hb3⟩
        obtain ⟨An, cx, rfl, hc3⟩ := own_slice' hown3
        have hBn := hBT.out.below hb3 hBT.out.lt
        have hIn := (hIT.below hb3).more hb3.size
        have hbn := hbT.trans (hb3.mono hbT.size)
        have hXn : SeenAt wn wn.heap.size An nx.length nx := Reads.of_own hown3
        clear hIT hbT hb3 hown3 r0 r1 r2 r3 hBT
        generalize wr.heap.size = gT at *
        obtain ⟨b0, b1, b2, b3⟩ := cells4 hBn
        have hnv := never false hfit.out hp.out he hbo' hli'
        have hxl := hnv.fit.len
        rw [← hnx.out] at hxl
        replace hnv := Lib.hid hnv
        replace hBn := Lib.hid hBn
        have hxl' : (nx.length : Int) ≤ 16 := by omega
        go_wp2_with fail
        go_loopw [11] (fun q wi => ∃ j : Nat, j ≤ 16 ∧ q = .int .i64 j ∧ Below wn.heap.size wn wi) (fun q _ => 16 - (intOf q).toNat)
        case atStart => exact ⟨0, by omega, rfl, Below.refl _ _⟩
        case round =>
          obtain ⟨wi, rfl⟩ : ∃ wi : World, wi = wr := ⟨_, rfl⟩
          obtain ⟨j, hj, rfl, hbi⟩ := hrel
          by_cases hj16 : j < 16
          · have hj16' : (j : Int) < 16 := by omega
            have hBi := Lib.hid (hBn.out.below hbi hBn.out.lt)
            have hIi := (hIn.below hbi).more hbi.size
            have hXi := (hXn.below hbi).more hbi.size
            obtain ⟨⟨qa, ba, la, ma⟩, hga⟩ : ∃ s, got cur j = s := ⟨_, rfl⟩
            replace hga := Lib.hid hga
            by_cases hjp : (j : Int) = p
            · obtain ⟨⟨qb, bb, lb, mb⟩, hgb⟩ : ∃ s, got nx j = s := ⟨_, rfl⟩
              have hlat := hnv.out.back j
              have hmine := hnv.out.mine j
              rw [← hnx.out, hga.out, hgb] at hlat hmine
              simp only [] at hmine
              replace hgb := Lib.hid hgb
              replace hlat := Lib.hid hlat
              subst hjp
              go_wp2_with fail
              refine (Get_lit _ Ac cur.length cc cur j hga.out (by omega) hIi).mono ?_
              rintro e u1 ⟨rfl, hu1⟩
              have hXi1 := (hXi.below (hu1.alloc hu1.size (.cells #[.int .i64 qa, .int .i64 ba, .int .i64 la, .int .i64 ma] 60))).more (B' := (u1.alloc (.cells #[.int .i64 qa, .int .i64 ba, .int .i64 la, .int .i64 ma] 60)).heap.size) (by have := hu1.size; simp; omega)
              clear hIi hXi
              go_wp2_with fail
              refine (Get_lit _ An nx.length cx nx j hgb.out (by omega) hXi1).mono ?_
              rintro e u2 ⟨rfl, hu2⟩
              obtain ⟨m1, m2⟩ := mid2 hBi.out hu1 hu2
              have a0 := fun o => (cells4 (m2 o)).1
              have a1 := fun o => (cells4 (m2 o)).2.1
              have a2 := fun o => (cells4 (m2 o)).2.2.1
              have a3 := fun o => (cells4 (m2 o)).2.2.2
              clear m1 m2 hXi1
              go_wp2_with fail
              refine (Later_lit _ _ _ _ _ false hlat.out).mono ?_
              rintro e u3 ⟨rfl, hu3⟩
              obtain ⟨m1, m2, m3, m4⟩ := mid hBi.out hu1 hu2 hu3
              obtain ⟨b0, b1, b2, b3⟩ := cells4 m1
              obtain ⟨x0, x1, x2, x3⟩ := cells4 m2
              obtain ⟨y0, y1, y2, y3⟩ := cells4 m3
              clear a0 a1 a2 a3 m1 m2 m3 hu1 hu2 hu3
              go_wp2_with fail
              refine (Later_lit _ _ _ _ _ false (later_self _ _)).mono ?_
              rintro e u4 ⟨rfl, hu4⟩
              clear x0 x1 x2 x3 y0 y1 y2 y3 b0 b1 b2 b3
              go_wp2_with fail
              go_roundw
              case rel => exact ⟨j + 1, by omega, by go_num, hbi.trans ((m4.trans (hu4.mono m4.size)).mono hbi.size)⟩
              case measure => simp [intOf]; omega
            · have hgb : got nx j = ⟨qa, ba, la, ma⟩ := by rw [hnx.out, ← hnv.out.rest j hjp, hga.out]
              replace hgb := Lib.hid hgb
              have hlat : Hid (later ba la ba la = false) := Lib.hid (later_self _ _)
              have hjp' : ((j : Int) == p) = false := by simpa using hjp
              have hne : ∀ W : World, Sem.run Try.prog (binOp .neq 60 (.agg #[.int .i64 qa, .int .i64 ba, .int .i64 la, .int .i64 ma]) (.agg #[.int .i64 qa, .int .i64 ba, .int .i64 la, .int .i64 ma])) W = .ok (.bool false) W := fun W => by
                rw [seen_ne]
                simp
              go_wp2_with fail
              refine (Get_lit _ Ac cur.length cc cur j hga.out (by omega) hIi).mono ?_
              rintro e u1 ⟨rfl, hu1⟩
              have hXi1 := (hXi.below (hu1.alloc hu1.size (.cells #[.int .i64 qa, .int .i64 ba, .int .i64 la, .int .i64 ma] 60))).more (B' := (u1.alloc (.cells #[.int .i64 qa, .int .i64 ba, .int .i64 la, .int .i64 ma] 60)).heap.size) (by have := hu1.size; simp; omega)
              clear hIi hXi
              go_wp2_with fail
              refine (Get_lit _ An nx.length cx nx j hgb.out (by omega) hXi1).mono ?_
              rintro e u2 ⟨rfl, hu2⟩
              obtain ⟨m1, m2⟩ := mid2 hBi.out hu1 hu2
              have a0 := fun o => (cells4 (m2 o)).1
              have a1 := fun o => (cells4 (m2 o)).2.1
              have a2 := fun o => (cells4 (m2 o)).2.2.1
              have a3 := fun o => (cells4 (m2 o)).2.2.2
              clear m1 m2 hXi1
              go_wp2_with fail
              refine (Later_lit _ _ _ _ _ false hlat.out).mono ?_
              rintro e u3 ⟨rfl, hu3⟩
              obtain ⟨m1, m2, m3, m4⟩ := mid hBi.out hu1 hu2 hu3
              obtain ⟨b0, b1, b2, b3⟩ := cells4 m1
              obtain ⟨x0, x1, x2, x3⟩ := cells4 m2
              obtain ⟨y0, y1, y2, y3⟩ := cells4 m3
              clear a0 a1 a2 a3 m1 m2 m3 hu1 hu2 hu3
              go_wp2_with fail
              refine (Later_lit _ _ _ _ _ false (later_self _ _)).mono ?_
              rintro e u4 ⟨rfl, hu4⟩
              clear x0 x1 x2 x3 y0 y1 y2 y3 b0 b1 b2 b3
              go_wp2_with fail
              go_roundw
              case rel => exact ⟨j + 1, by omega, by go_num, hbi.trans ((m4.trans (hu4.mono m4.size)).mono hbi.size)⟩
              case measure => simp [intOf]; omega
          · obtain rfl : j = 16 := by omega
            have hBi := hBn.out.below hbi hBn.out.lt
            have hXi := (hXn.below hbi).more hbi.size
            obtain ⟨b0, b1, b2, b3⟩ := cells4 hBi
            have hfx : fitL id nx = true := by rw [hnx.out]; exact fit_iff.2 hnv.out.fit
            replace hfx := Lib.hid hfx
            have hgi : gT < wi.heap.size := hBi.lt
            have hf1 := field1
            have hf2 := field2
            have hS0 : wi.drew.cell? ⟨gT, 0, none⟩ = some (.bool false) ∧ wi.drew.cell? ⟨gT, 1, none⟩ = some (.int .i64 p) ∧ wi.drew.cell? ⟨gT, 2, none⟩ = some (.int .i64 bo) ∧ wi.drew.cell? ⟨gT, 3, none⟩ = some (.int .i64 li) ∧ Below wi.heap.size wi wi.drew := ⟨b0, b1, b2, b3, (Below.refl _ _).drew⟩
            have HSX : Hid (∀ W, Below wi.heap.size wi W → SeenAt W W.heap.size An nx.length nx) := Lib.hid (fun W h => (hXi.below h).more h.size)
            have hbw2 : Below w.heap.size w wi := hbn.trans (hbi.mono hbn.size)
            obtain ⟨⟨qb, bb, lb, mb⟩, hgb⟩ : ∃ s, got nx p = s := ⟨_, rfl⟩
            have hlat : false = false → later bo li bb lb = false := by
              intro hd
              have := hnv.out.seen hd
              rw [← hnx.out, hgb] at this
              exact this
            replace hgb := Lib.hid hgb
            replace hlat := Lib.hid hlat
            clear b0 b1 b2 b3 hBi hXi hbi hBn hIn hXn
            go_wp2_with fail
            go_region_held3 (fun W => W.cell? ⟨gT, 0, none⟩ = some (.bool false) ∧ W.cell? ⟨gT, 1, none⟩ = some (.int .i64 p) ∧ W.cell? ⟨gT, 2, none⟩ = some (.int .i64 bo) ∧ W.cell? ⟨gT, 3, none⟩ = some (.int .i64 li) ∧ Below wi.heap.size wi W) (first | exact hS0 | assumption)
              (first
                | (go_at_call 28; (with_reducible refine (Fit_lit _ id An nx.length cx nx true hfx.out (by omega) (HSX.out _ (by assumption : _ ∧ _ ∧ _ ∧ _ ∧ Below wi.heap.size wi _).2.2.2.2)).mono ?_); rintro e w7 ⟨rfl, hb7⟩; have hk7 := keepS hgi (by assumption) hb7)
                | (go_at_call 35; (with_reducible refine (Get_lit _ An nx.length cx nx p hgb.out (by omega) (HSX.out _ (by assumption : _ ∧ _ ∧ _ ∧ _ ∧ Below wi.heap.size wi _).2.2.2.2)).mono ?_); rintro e w8 ⟨rfl, hb8⟩; have hk8 := keepS hgi (by assumption) hb8)
                | (go_at_call 40; (with_reducible refine (Later_lit _ bo li bb lb false (hlat.out (by simp))).mono ?_); rintro e w9 ⟨rfl, hb9⟩; have hk9 := keepS hgi (by assumption) hb9))
            all_goals
              go_wp2_with fail
              go_roundw
              case rel => exact ⟨k + 1, nx, _, _, by omega, rfl, by go_num, hnx.out ▸ hnv.out.fit, HSX.out _ (by assumption : _ ∧ _ ∧ _ ∧ _ ∧ Below wi.heap.size wi _).2.2.2.2, hbw2.trans ((by assumption : _ ∧ _ ∧ _ ∧ _ ∧ Below wi.heap.size wi _).2.2.2.2.mono hbw2.size)⟩
              case measure => simp [intOf]; omega
      · obtain ⟨nx, hnx⟩ : ∃ nx, nx = turnS true cur p bo li := ⟨_, rfl⟩
        replace hnx := Lib.hid hnx
        refine (See_any _ Ac cur.length cc cur p bo li (by omega) (SeenAt.none hIT) hIT).mono ?_
        rintro e w3 ⟨v3, rfl, hown3, hb3⟩
        have hB3 := hBT.out.below hb3 hBT.out.lt
        have hI3 := (hIT.below hb3).more hb3.size
        have h3 := hbT.trans (hb3.mono hbT.size)
        clear hIT hbT hb3 hown3 r0 r1 r2 r3 hBT
        generalize wr.heap.size = gT at *
        obtain ⟨b0, b1, b2, b3⟩ := cells4 hB3
        replace hB3 := Lib.hid hB3
        have hmm := got_form (p := p) hfit.out
        go_wp2_with fail
        refine (Dropped_any _ Ac cur.length cc cur p (by omega) (SeenAt.none hI3) (by omega) (by omega) hI3).mono ?_
        rw [show setS cur p (dropS (got cur p)) = nx from hnx.out.symm]
        rintro e wn ⟨v4, rfl, hown4, hb4⟩
        obtain ⟨An, cx, rfl, hc4⟩ := own_slice' hown4
        have hBn := hB3.out.below hb4 hB3.out.lt
        have hIn := (hI3.below hb4).more hb4.size
        have hbn := h3.trans (hb4.mono h3.size)
        have hXn : SeenAt wn wn.heap.size An nx.length nx := Reads.of_own hown4
        clear hI3 h3 hb4 hown4 b0 b1 b2 b3 hB3 hmm
        obtain ⟨b0, b1, b2, b3⟩ := cells4 hBn
        have hnv := never true hfit.out hp.out he hbo' hli'
        have hxl := hnv.fit.len
        rw [← hnx.out] at hxl
        replace hnv := Lib.hid hnv
        replace hBn := Lib.hid hBn
        have hxl' : (nx.length : Int) ≤ 16 := by omega
        go_wp2_with fail
        go_loopw [11] (fun q wi => ∃ j : Nat, j ≤ 16 ∧ q = .int .i64 j ∧ Below wn.heap.size wn wi) (fun q _ => 16 - (intOf q).toNat)
        case atStart => exact ⟨0, by omega, rfl, Below.refl _ _⟩
        case round =>
          obtain ⟨wi, rfl⟩ : ∃ wi : World, wi = wr := ⟨_, rfl⟩
          obtain ⟨j, hj, rfl, hbi⟩ := hrel
          by_cases hj16 : j < 16
          · have hj16' : (j : Int) < 16 := by omega
            have hBi := Lib.hid (hBn.out.below hbi hBn.out.lt)
            have hIi := (hIn.below hbi).more hbi.size
            have hXi := (hXn.below hbi).more hbi.size
            obtain ⟨⟨qa, ba, la, ma⟩, hga⟩ : ∃ s, got cur j = s := ⟨_, rfl⟩
            replace hga := Lib.hid hga
            by_cases hjp : (j : Int) = p
            · obtain ⟨⟨qb, bb, lb, mb⟩, hgb⟩ : ∃ s, got nx j = s := ⟨_, rfl⟩
              have hlat := hnv.out.back j
              have hmine := hnv.out.mine j
              rw [← hnx.out, hga.out, hgb] at hlat hmine
              simp only [] at hmine
              replace hgb := Lib.hid hgb
              replace hlat := Lib.hid hlat
              subst hjp
              go_wp2_with fail
              refine (Get_lit _ Ac cur.length cc cur j hga.out (by omega) hIi).mono ?_
              rintro e u1 ⟨rfl, hu1⟩
              have hXi1 := (hXi.below (hu1.alloc hu1.size (.cells #[.int .i64 qa, .int .i64 ba, .int .i64 la, .int .i64 ma] 60))).more (B' := (u1.alloc (.cells #[.int .i64 qa, .int .i64 ba, .int .i64 la, .int .i64 ma] 60)).heap.size) (by have := hu1.size; simp; omega)
              clear hIi hXi
              go_wp2_with fail
              refine (Get_lit _ An nx.length cx nx j hgb.out (by omega) hXi1).mono ?_
              rintro e u2 ⟨rfl, hu2⟩
              obtain ⟨m1, m2⟩ := mid2 hBi.out hu1 hu2
              have a0 := fun o => (cells4 (m2 o)).1
              have a1 := fun o => (cells4 (m2 o)).2.1
              have a2 := fun o => (cells4 (m2 o)).2.2.1
              have a3 := fun o => (cells4 (m2 o)).2.2.2
              clear m1 m2 hXi1
              go_wp2_with fail
              refine (Later_lit _ _ _ _ _ false hlat.out).mono ?_
              rintro e u3 ⟨rfl, hu3⟩
              obtain ⟨m1, m2, m3, m4⟩ := mid hBi.out hu1 hu2 hu3
              obtain ⟨b0, b1, b2, b3⟩ := cells4 m1
              obtain ⟨x0, x1, x2, x3⟩ := cells4 m2
              obtain ⟨y0, y1, y2, y3⟩ := cells4 m3
              clear a0 a1 a2 a3 m1 m2 m3 hu1 hu2 hu3
              go_wp2_with fail
              refine (Later_lit _ _ _ _ _ false (later_self _ _)).mono ?_
              rintro e u4 ⟨rfl, hu4⟩
              clear x0 x1 x2 x3 y0 y1 y2 y3 b0 b1 b2 b3
              go_wp2_with fail
              go_roundw
              case rel => exact ⟨j + 1, by omega, by go_num, hbi.trans ((m4.trans (hu4.mono m4.size)).mono hbi.size)⟩
              case measure => simp [intOf]; omega
            · have hgb : got nx j = ⟨qa, ba, la, ma⟩ := by rw [hnx.out, ← hnv.out.rest j hjp, hga.out]
              replace hgb := Lib.hid hgb
              have hlat : Hid (later ba la ba la = false) := Lib.hid (later_self _ _)
              have hjp' : ((j : Int) == p) = false := by simpa using hjp
              have hne : ∀ W : World, Sem.run Try.prog (binOp .neq 60 (.agg #[.int .i64 qa, .int .i64 ba, .int .i64 la, .int .i64 ma]) (.agg #[.int .i64 qa, .int .i64 ba, .int .i64 la, .int .i64 ma])) W = .ok (.bool false) W := fun W => by
                rw [seen_ne]
                simp
              go_wp2_with fail
              refine (Get_lit _ Ac cur.length cc cur j hga.out (by omega) hIi).mono ?_
              rintro e u1 ⟨rfl, hu1⟩
              have hXi1 := (hXi.below (hu1.alloc hu1.size (.cells #[.int .i64 qa, .int .i64 ba, .int .i64 la, .int .i64 ma] 60))).more (B' := (u1.alloc (.cells #[.int .i64 qa, .int .i64 ba, .int .i64 la, .int .i64 ma] 60)).heap.size) (by have := hu1.size; simp; omega)
              clear hIi hXi
              go_wp2_with fail
              refine (Get_lit _ An nx.length cx nx j hgb.out (by omega) hXi1).mono ?_
              rintro e u2 ⟨rfl, hu2⟩
              obtain ⟨m1, m2⟩ := mid2 hBi.out hu1 hu2
              have a0 := fun o => (cells4 (m2 o)).1
              have a1 := fun o => (cells4 (m2 o)).2.1
              have a2 := fun o => (cells4 (m2 o)).2.2.1
              have a3 := fun o => (cells4 (m2 o)).2.2.2
              clear m1 m2 hXi1
              go_wp2_with fail
              refine (Later_lit _ _ _ _ _ false hlat.out).mono ?_
              rintro e u3 ⟨rfl, hu3⟩
              obtain ⟨m1, m2, m3, m4⟩ := mid hBi.out hu1 hu2 hu3
              obtain ⟨b0, b1, b2, b3⟩ := cells4 m1
              obtain ⟨x0, x1, x2, x3⟩ := cells4 m2
              obtain ⟨y0, y1, y2, y3⟩ := cells4 m3
              clear a0 a1 a2 a3 m1 m2 m3 hu1 hu2 hu3
              go_wp2_with fail
              refine (Later_lit _ _ _ _ _ false (later_self _ _)).mono ?_
              rintro e u4 ⟨rfl, hu4⟩
              clear x0 x1 x2 x3 y0 y1 y2 y3 b0 b1 b2 b3
              go_wp2_with fail
              go_roundw
              case rel => exact ⟨j + 1, by omega, by go_num, hbi.trans ((m4.trans (hu4.mono m4.size)).mono hbi.size)⟩
              case measure => simp [intOf]; omega
          · obtain rfl : j = 16 := by omega
            have hBi := hBn.out.below hbi hBn.out.lt
            have hXi := (hXn.below hbi).more hbi.size
            obtain ⟨b0, b1, b2, b3⟩ := cells4 hBi
            have hfx : fitL id nx = true := by rw [hnx.out]; exact fit_iff.2 hnv.out.fit
            replace hfx := Lib.hid hfx
            have hgi : gT < wi.heap.size := hBi.lt
            have hf1 := field1
            have hf2 := field2
            have hS0 : wi.drew.cell? ⟨gT, 0, none⟩ = some (.bool true) ∧ wi.drew.cell? ⟨gT, 1, none⟩ = some (.int .i64 p) ∧ wi.drew.cell? ⟨gT, 2, none⟩ = some (.int .i64 bo) ∧ wi.drew.cell? ⟨gT, 3, none⟩ = some (.int .i64 li) ∧ Below wi.heap.size wi wi.drew := ⟨b0, b1, b2, b3, (Below.refl _ _).drew⟩
            have HSX : Hid (∀ W, Below wi.heap.size wi W → SeenAt W W.heap.size An nx.length nx) := Lib.hid (fun W h => (hXi.below h).more h.size)
            have hbw2 : Below w.heap.size w wi := hbn.trans (hbi.mono hbn.size)
            obtain ⟨⟨qb, bb, lb, mb⟩, hgb⟩ : ∃ s, got nx p = s := ⟨_, rfl⟩
            have hlat : true = false → later bo li bb lb = false := by
              intro hd
              have := hnv.out.seen hd
              rw [← hnx.out, hgb] at this
              exact this
            replace hgb := Lib.hid hgb
            replace hlat := Lib.hid hlat
            clear b0 b1 b2 b3 hBi hXi hbi hBn hIn hXn
            go_wp2_with fail
            refine wp_region_held_drew (S := fun W => W.cell? ⟨gT, 0, none⟩ = some (.bool true) ∧ W.cell? ⟨gT, 1, none⟩ = some (.int .i64 p) ∧ W.cell? ⟨gT, 2, none⟩ = some (.int .i64 bo) ∧ W.cell? ⟨gT, 3, none⟩ = some (.int .i64 li) ∧ Below wi.heap.size wi W) (by kernel_rfl) hS0 (fun hS1 => ?_)
            (refine wpAnyH_take (i := 0) (oi := ⟨some 115, _, _, _, _, _⟩) rfl (by kernel_rfl) (by kernel_rfl) (by kernel_rfl) (fun _ _ _ h => h) (.inl ⟨rfl, fun _ _ => rfl⟩) (by assumption) ?_); try simp only [Act.put, List.setIfInBounds_toArray, List.set_cons_zero, List.set_cons_succ]
            (refine wpAnyH_take (i := 1) (oi := ⟨some 116, _, _, _, _, _⟩) rfl (by kernel_rfl) (by kernel_rfl) (by kernel_rfl) (fun _ _ _ h => h) (.inl ⟨rfl, fun _ _ => rfl⟩) (by assumption) ?_); try simp only [Act.put, List.setIfInBounds_toArray, List.set_cons_zero, List.set_cons_succ]
            refine wpAnyH_ready (rs := [2]) (by kernel_rfl) (by simp) ?_
            refine AllReadyH.cons rfl (fun K hK => ?_) AllReadyH.nil
            go_simp
            refine (Fit_lit _ id An nx.length cx nx true hfx.out (by omega) (HSX.out _ hS0.2.2.2.2)).mono ?_
            rintro e w7 ⟨rfl, hb7⟩
            have hk7 := keepS hgi hS0 hb7
            clear hS0 hS1 hb7
            go_wp2_with fail
            refine hK.out _ _ hk7 (fun hS2 => ?_)
            clear hK K
            try simp only [Act.put, List.setIfInBounds_toArray, List.set_cons_zero, List.set_cons_succ]
            (refine wpAnyH_take (i := 3) (oi := ⟨some 118, _, _, _, _, _⟩) rfl (by kernel_rfl) (by kernel_rfl) (by kernel_rfl) (fun _ _ _ h => h) (.inl ⟨rfl, fun _ _ => rfl⟩) (by assumption) ?_); try simp only [Act.put, List.setIfInBounds_toArray, List.set_cons_zero, List.set_cons_succ]
            (refine wpAnyH_take (i := 4) (oi := ⟨some 119, _, _, _, _, _⟩) rfl (by kernel_rfl) (by kernel_rfl) (by kernel_rfl) (fun _ _ _ h => h) (.inl ⟨rfl, fun _ _ => rfl⟩) (by assumption) ?_); try simp only [Act.put, List.setIfInBounds_toArray, List.set_cons_zero, List.set_cons_succ]
            (refine wpAnyH_take (i := 5) (oi := ⟨some 120, _, _, _, _, _⟩) rfl (by kernel_rfl) (by kernel_rfl) (by kernel_rfl) (fun _ _ _ h => h) (.inl ⟨rfl, fun _ _ => rfl⟩) (by assumption) ?_); try simp only [Act.put, List.setIfInBounds_toArray, List.set_cons_zero, List.set_cons_succ]
            (refine wpAnyH_take (i := 6) (oi := ⟨some 121, _, _, _, _, _⟩) rfl (by kernel_rfl) (by kernel_rfl) (by kernel_rfl) (fun _ _ _ h => h) (.inl ⟨rfl, fun W hS => by obtain ⟨s0, s1, s2, s3, s4⟩ := hS; go_simp; rfl⟩) (by assumption) ?_); try simp only [Act.put, List.setIfInBounds_toArray, List.set_cons_zero, List.set_cons_succ]
            (refine wpAnyH_take (i := 7) (oi := ⟨some 122, _, _, _, _, _⟩) rfl (by kernel_rfl) (by kernel_rfl) (by kernel_rfl) (fun _ _ _ h => h) (.inl ⟨rfl, fun _ _ => rfl⟩) (by assumption) ?_); try simp only [Act.put, List.setIfInBounds_toArray, List.set_cons_zero, List.set_cons_succ]
            (refine wpAnyH_take (i := 8) (oi := ⟨some 123, _, _, _, _, _⟩) rfl (by kernel_rfl) (by kernel_rfl) (by kernel_rfl) (fun _ _ _ h => h) (.inl ⟨rfl, fun _ _ => rfl⟩) (by assumption) ?_); try simp only [Act.put, List.setIfInBounds_toArray, List.set_cons_zero, List.set_cons_succ]
            (refine wpAnyH_take (i := 9) (oi := ⟨some 124, _, _, _, _, _⟩) rfl (by kernel_rfl) (by kernel_rfl) (by kernel_rfl) (fun _ _ _ h => h) (.inr ⟨rfl, rfl⟩) (by assumption) ?_); try simp only [Act.put, List.setIfInBounds_toArray, List.set_cons_zero, List.set_cons_succ]
            (refine wpAnyH_take (i := 10) (oi := ⟨some 125, _, _, _, _, _⟩) rfl (by kernel_rfl) (by kernel_rfl) (by kernel_rfl) (fun _ _ _ h => h) (.inr ⟨rfl, rfl⟩) (by assumption) ?_); try simp only [Act.put, List.setIfInBounds_toArray, List.set_cons_zero, List.set_cons_succ]
            (refine wpAnyH_take (i := 11) (oi := ⟨some 126, _, _, _, _, _⟩) rfl (by kernel_rfl) (by kernel_rfl) (by kernel_rfl) (fun _ _ _ h => h) (.inr ⟨rfl, rfl⟩) (by assumption) ?_); try simp only [Act.put, List.setIfInBounds_toArray, List.set_cons_zero, List.set_cons_succ]
            (refine wpAnyH_take (i := 12) (oi := ⟨some 127, _, _, _, _, _⟩) rfl (by kernel_rfl) (by kernel_rfl) (by kernel_rfl) (fun _ _ _ h => h) (.inr ⟨rfl, rfl⟩) (by assumption) ?_); try simp only [Act.put, List.setIfInBounds_toArray, List.set_cons_zero, List.set_cons_succ]
            (refine wpAnyH_take (i := 13) (oi := ⟨some 128, _, _, _, _, _⟩) rfl (by kernel_rfl) (by kernel_rfl) (by kernel_rfl) (fun _ _ _ h => h) (.inr ⟨rfl, rfl⟩) (by assumption) ?_); try simp only [Act.put, List.setIfInBounds_toArray, List.set_cons_zero, List.set_cons_succ]
            (refine wpAnyH_take (i := 14) (oi := ⟨some 129, _, _, _, _, _⟩) rfl (by kernel_rfl) (by kernel_rfl) (by kernel_rfl) (fun _ _ _ h => h) (.inr ⟨rfl, rfl⟩) (by assumption) ?_); try simp only [Act.put, List.setIfInBounds_toArray, List.set_cons_zero, List.set_cons_succ]
            (refine wpAnyH_take (i := 15) (oi := ⟨some 130, _, _, _, _, _⟩) rfl (by kernel_rfl) (by kernel_rfl) (by kernel_rfl) (fun _ _ _ h => h) (.inr ⟨rfl, rfl⟩) (by assumption) ?_); try simp only [Act.put, List.setIfInBounds_toArray, List.set_cons_zero, List.set_cons_succ]
            (refine wpAnyH_take (i := 18) (oi := ⟨some 133, _, _, _, _, _⟩) rfl (by kernel_rfl) (by kernel_rfl) (by kernel_rfl) (fun _ _ _ h => h) (.inr ⟨rfl, rfl⟩) (by assumption) ?_); try simp only [Act.put, List.setIfInBounds_toArray, List.set_cons_zero, List.set_cons_succ]
            (refine wpAnyH_take (i := 19) (oi := ⟨some 134, _, _, _, _, _⟩) rfl (by kernel_rfl) (by kernel_rfl) (by kernel_rfl) (fun _ _ _ h => h) (.inr ⟨rfl, rfl⟩) (by assumption) ?_); try simp only [Act.put, List.setIfInBounds_toArray, List.set_cons_zero, List.set_cons_succ]
            (refine wpAnyH_take (i := 20) (oi := ⟨some 135, _, _, _, _, _⟩) rfl (by kernel_rfl) (by kernel_rfl) (by kernel_rfl) (fun _ _ _ h => h) (.inr ⟨rfl, rfl⟩) (by assumption) ?_); try simp only [Act.put, List.setIfInBounds_toArray, List.set_cons_zero, List.set_cons_succ]
            (refine wpAnyH_take (i := 16) (oi := ⟨some 131, _, _, _, _, _⟩) rfl (by kernel_rfl) (by kernel_rfl) (by kernel_rfl) (fun _ _ _ h => h) (.inr ⟨rfl, rfl⟩) (by assumption) ?_); try simp only [Act.put, List.setIfInBounds_toArray, List.set_cons_zero, List.set_cons_succ]
            (refine wpAnyH_take (i := 17) (oi := ⟨some 132, _, _, _, _, _⟩) rfl (by kernel_rfl) (by kernel_rfl) (by kernel_rfl) (fun _ _ _ h => h) (.inr ⟨rfl, rfl⟩) (by assumption) ?_); try simp only [Act.put, List.setIfInBounds_toArray, List.set_cons_zero, List.set_cons_succ]
            (refine wpAnyH_take (i := 21) (oi := ⟨some 136, _, _, _, _, _⟩) rfl (by kernel_rfl) (by kernel_rfl) (by kernel_rfl) (fun _ _ _ h => h) (.inr ⟨rfl, rfl⟩) (by assumption) ?_); try simp only [Act.put, List.setIfInBounds_toArray, List.set_cons_zero, List.set_cons_succ]
            (refine wpAnyH_take (i := 22) (oi := ⟨some 137, _, _, _, _, _⟩) rfl (by kernel_rfl) (by kernel_rfl) (by kernel_rfl) (fun _ _ _ h => h) (.inr ⟨rfl, rfl⟩) (by assumption) ?_); try simp only [Act.put, List.setIfInBounds_toArray, List.set_cons_zero, List.set_cons_succ]
            (refine wpAnyH_take (i := 23) (oi := ⟨some 138, _, _, _, _, _⟩) rfl (by kernel_rfl) (by kernel_rfl) (by kernel_rfl) (fun _ _ _ h => h) (.inr ⟨rfl, rfl⟩) (by assumption) ?_); try simp only [Act.put, List.setIfInBounds_toArray, List.set_cons_zero, List.set_cons_succ]
            (refine wpAnyH_take (i := 24) (oi := ⟨some 139, _, _, _, _, _⟩) rfl (by kernel_rfl) (by kernel_rfl) (by kernel_rfl) (fun _ _ _ h => h) (.inl ⟨rfl, fun _ _ => rfl⟩) (by assumption) ?_); try simp only [Act.put, List.setIfInBounds_toArray, List.set_cons_zero, List.set_cons_succ]
            (refine wpAnyH_take (i := 25) (oi := ⟨some 140, _, _, _, _, _⟩) rfl (by kernel_rfl) (by kernel_rfl) (by kernel_rfl) (fun _ _ _ h => h) (.inl ⟨rfl, fun _ _ => rfl⟩) (by assumption) ?_); try simp only [Act.put, List.setIfInBounds_toArray, List.set_cons_zero, List.set_cons_succ]
            refine wpAnyH_done (by kernel_rfl) ?_ _
            all_goals
              go_wp2_with fail
              go_roundw
              case rel => exact ⟨k + 1, nx, _, _, by omega, rfl, by go_num, hnx.out ▸ hnv.out.fit, HSX.out _ (by assumption : _ ∧ _ ∧ _ ∧ _ ∧ Below wi.heap.size wi _).2.2.2.2, hbw2.trans ((by assumption : _ ∧ _ ∧ _ ∧ _ ∧ Below wi.heap.size wi _).2.2.2.2.mono hbw2.size)⟩
              case measure => simp [intOf]; omega
    · obtain rfl : k = m := by omega
      clear hIc
      go_wp2_with fail
      refine (awake14 _).mono ?_
      rintro e w5 ⟨rfl, h5⟩
      go_wp2_with fail
      go_ret
      exact ⟨rfl, hbr.trans (h5.mono hbr.size)⟩

theorem own : ownKnob Try.prog.godebug = none := by kernel_rfl
theorem laidOut : laidOutB Try.prog = true := by kernel_rfl

set_option maxRecDepth 100000 in
theorem lifted (os : Os) (started : os.Started) (H : Type) (enc : TypeId × Value → H) :
    ReturnsInHanded {} Try.checked os 7 .any (Rows.shakeNeverSpec.pre6 enc Try.prog Try.f7 Rows.shakeNeverRow.domain false) (Rows.shakeNeverSpec.post enc Try.prog Try.f7 false true false false) := by
  refine lift_law (C := Try.checked) own started (by kernel_rfl) Try.func7
    (ChangeSpec.witness6 (enc := enc) (C := Try.checked) false ⟨#[], #[.int .i64 0, .slice none 0 0, .slice none 0 0], []⟩ 8 (by kernel_rfl) (by kernel_rfl) (by kernel_rfl) (by kernel_rfl))
    laidOut (by kernel_rfl) rfl Try.underlying4 rfl (fun ds h => by match ds, h with | [d0, d1, d2], _ => rfl) ?_
  intro W base args ds p hval0 hA0 hsz
  have hval : ∀ (j : Nat) t v, Try.f7.params[j]? = some t → args[j]? = some v → Value.okWide Try.prog W .any base t v := hval0
  have hA : DataW.TrodAll enc Try.prog W 0 (fun _ => true) true Try.f7.params.toList args.toList ds p := hA0
  rw [Try.params7] at hA hval
  clear hA0 hval0
  obtain ⟨v0, vs0, d0, ds0, p0, q0, hargs, rfl, rfl, h0, r0⟩ := trodAll_cons hA
  obtain ⟨v1, vs1, d1, ds1, p1, q1, rfl, rfl, rfl, h1, r1⟩ := trodAll_cons r0
  obtain ⟨v2, vs2, d2, ds2, p2, q2, rfl, rfl, rfl, h2, r2⟩ := trodAll_cons r1
  obtain ⟨rfl, rfl, rfl⟩ := trodAll_nil r2
  obtain rfl := args_of_toList hargs
  obtain ⟨x0, rfl, _, _, _wf0⟩ := open_int Try.underlying3 (hval 0 3 v0 rfl rfl) h0
  obtain ⟨_a1, _l1, _c1, rfl⟩ := okWide_slice Try.underlying52 (hval 1 52 v1 rfl rfl)
  obtain ⟨_fuel1, hf1⟩ := h1
  obtain ⟨A1, m1, c1, ls1, hcs1, hm1, hc1, hI1, hw1⟩ := (open_seens Try.underlying52 Try.underlying60 (by kernel_rfl) rfl rfl rfl rfl (by kernel_rfl) (by kernel_rfl) (by kernel_rfl) (by kernel_rfl) (by kernel_rfl) (by kernel_rfl) (by kernel_rfl) (by kernel_rfl)) hf1
  simp only [Value.cells, List.cons.injEq, Value.slice.injEq, and_true] at hcs1
  obtain ⟨rfl, rfl, rfl⟩ := hcs1
  obtain ⟨_a2, _l2, _c2, rfl⟩ := okWide_slice Try.underlying64 (hval 2 64 v2 rfl rfl)
  obtain ⟨_fuel2, hf2⟩ := h2
  obtain ⟨A2, m2, c2, hcs2, hm2, hc2, hI2⟩ := (open_turns Try.underlying64 Try.underlying66 (by kernel_rfl) rfl rfl rfl rfl (by kernel_rfl) (by kernel_rfl) (by kernel_rfl) (by kernel_rfl) (by kernel_rfl) (by kernel_rfl) (by kernel_rfl) (by kernel_rfl)) hf2
  simp only [Value.cells, List.cons.injEq, Value.slice.injEq, and_true] at hcs2
  obtain ⟨rfl, rfl, rfl⟩ := hcs2
  exact walk x0 _ _ _ ls1 _ _ _ W (by unfold maxLen at hm1; omega) (by unfold maxLen at hm2; omega) hI1 hI2

theorem proved : Rows.ShakeNeverSaid :=
  OpenClaim.holds_of_wide 7 Try.f7 rfl rfl rfl rfl rfl rfl rfl ⟨rfl, rfl, rfl, rfl, rfl⟩ rfl rfl rfl rfl rfl (by kernel_rfl) Try.func7 (by kernel_rfl)
    (of_decide_eq_true (by kernel_rfl)) (by unfold Func.isWrapper; first | (rw [if_pos (by decide +kernel)]; kernel_rfl) | (rw [if_neg (by decide +kernel)]; exact ⟨rfl, rfl⟩))
    (fun os started H enc _ => lifted os started H enc)
#print axioms proved

end nevers
end Go.Proofs.Ytkbcnapfcojekaa
