/-
  Layer 14: the statement ShakeSees: Get, See, Dropped answer as the document's do; the list stays, and is not kept. Every input; no condition.
-/
import Derived.Test.YtkbcnapfcojekaaShakeS
import Derived.Test.YtkbcnapfcojekaaOpenSeen
namespace Go.Proofs.Ytkbcnapfcojekaa
open Go.ChangeShapes Go.WideShapes Go.ChangeAt Go.RowKit Go.Ed Go.Joins

namespace sees
set_option maxRecDepth 100000 in
theorem walk_no (id peer boot life : Int) (A : Option Addr) (n cp : Nat) (ls : List Seen) (w : World) (hn : (n : Int) ≤ 9223372036854775807) (hI : SeenAt w w.heap.size A n ls)
    (hno : ¬ (fitL id ls = true ∧ isNode peer = true ∧ peer ≠ id ∧ isIn boot 1 1099511627776 = true ∧ isIn life 0 1099511627776 = true)) :
    Calls Try.prog 6 #[.int .i64 id, .slice A n cp, .int .i64 peer, .int .i64 boot, .int .i64 life] w fun e w' => e = .returned (.bool true) ∧ Below w.heap.size w w' := by
  obtain ⟨f, hf⟩ : ∃ f, fitL id ls = f := ⟨_, rfl⟩
  obtain ⟨n1, hp⟩ : ∃ f, isNode peer = f := ⟨_, rfl⟩
  obtain ⟨n2, hbo⟩ : ∃ f, isIn boot 1 1099511627776 = f := ⟨_, rfl⟩
  obtain ⟨n3, hli⟩ : ∃ f, isIn life 0 1099511627776 = f := ⟨_, rfl⟩
  rw [hf, hp, hbo, hli] at hno
  have hf := Lib.hid hf
  cases f
  · clear hno hp hbo hli
    go_enter Try.func6, Try.ntmps6
    go_wp2_with fail
    refine (Fit_lit _ id A n cp ls false hf.out (by omega) hI).mono ?_
    rintro e w1 ⟨rfl, h1⟩
    go_wp2_with (go_at_call 31; (with_reducible refine (awake14 _).mono ?_); rintro e w5 ⟨rfl, h5⟩)
    go_ret
    exact ⟨rfl, h1.trans (h5.mono h1.size)⟩
  have hp := Lib.hid hp
  cases n1
  · clear hno hbo hli
    go_enter Try.func6, Try.ntmps6
    go_wp2_with fail
    refine (Fit_lit _ id A n cp ls true hf.out (by omega) hI).mono ?_
    rintro e w1 ⟨rfl, h1⟩
    go_wp2_with (first
      | (go_at_call 29; (with_reducible refine (node_lit _ _ false hp.out).mono ?_); rintro e w' ⟨rfl, rfl⟩)
      | (go_at_call 31; (with_reducible refine (awake14 _).mono ?_); rintro e w5 ⟨rfl, h5⟩))
    go_ret
    exact ⟨rfl, h1.trans (h5.mono h1.size)⟩
  by_cases he : peer = id
  · subst he
    clear hno hbo hli
    go_enter Try.func6, Try.ntmps6
    go_wp2_with fail
    refine (Fit_lit _ peer A n cp ls true hf.out (by omega) hI).mono ?_
    rintro e w1 ⟨rfl, h1⟩
    go_wp2_with (first
      | (go_at_call 29; (with_reducible refine (node_lit _ _ true hp.out).mono ?_); rintro e w' ⟨rfl, rfl⟩)
      | (go_at_call 31; (with_reducible refine (awake14 _).mono ?_); rintro e w5 ⟨rfl, h5⟩))
    go_ret
    exact ⟨rfl, h1.trans (h5.mono h1.size)⟩
  have he' : (peer == id) = false := by simpa using he
  have hbo := Lib.hid hbo
  cases n2
  · clear hno hli
    go_enter Try.func6, Try.ntmps6
    go_wp2_with fail
    refine (Fit_lit _ id A n cp ls true hf.out (by omega) hI).mono ?_
    rintro e w1 ⟨rfl, h1⟩
    go_wp2_with (first
      | (go_at_call 29; (with_reducible refine (node_lit _ _ true hp.out).mono ?_); rintro e w' ⟨rfl, rfl⟩)
      | (go_at_call 30; (with_reducible refine (within_lit _ boot _ _ false hbo.out).mono ?_); rintro e w' ⟨rfl, rfl⟩)
      | (go_at_call 31; (with_reducible refine (awake14 _).mono ?_); rintro e w5 ⟨rfl, h5⟩))
    go_ret
    exact ⟨rfl, h1.trans (h5.mono h1.size)⟩
  have hli := Lib.hid hli
  cases n3
  · clear hno
    go_enter Try.func6, Try.ntmps6
    go_wp2_with fail
    refine (Fit_lit _ id A n cp ls true hf.out (by omega) hI).mono ?_
    rintro e w1 ⟨rfl, h1⟩
    go_wp2_with fail
    refine (node_lit _ _ true hp.out).mono ?_
    rintro e w' ⟨rfl, rfl⟩
    go_wp2_with fail
    refine (within_lit _ boot _ _ true hbo.out).mono ?_
    rintro e w' ⟨rfl, rfl⟩
    go_wp2_with fail
    refine (within_lit _ life _ _ false hli.out).mono ?_
    rintro e w' ⟨rfl, rfl⟩
    go_wp2_with fail
    refine (awake14 _).mono ?_
    rintro e w5 ⟨rfl, h5⟩
    go_wp2_with fail
    go_ret
    exact ⟨rfl, h1.trans (h5.mono h1.size)⟩
  · exact absurd ⟨rfl, rfl, he, rfl, rfl⟩ hno

set_option maxRecDepth 100000 in
set_option maxHeartbeats 2000000 in
theorem walk_yes (id peer boot life : Int) (A : Option Addr) (n cp : Nat) (ls : List Seen) (w : World) (hcp : n ≤ cp) (hI : SeenAt w w.heap.size A n ls)
    (hf : fitL id ls = true) (hp : isNode peer = true) (he : peer ≠ id) (hbo : isIn boot 1 1099511627776 = true) (hli : isIn life 0 1099511627776 = true) :
    Calls Try.prog 6 #[.int .i64 id, .slice A n cp, .int .i64 peer, .int .i64 boot, .int .i64 life] w fun e w' => e = .returned (.bool true) ∧ Below w.heap.size w w' := by
  have hfit := fit_iff.1 hf
  have hb' : 1 ≤ boot ∧ boot ≤ 1099511627776 := by unfold isIn at hbo; simpa using hbo
  have hl' : 0 ≤ life ∧ life ≤ 1099511627776 := by unfold isIn at hli; simpa using hli
  have hlen := hfit.len
  have hll := hI.len
  obtain ⟨la, hla⟩ : ∃ la, la = setS ls peer (seeS (got ls peer) boot life) := ⟨_, rfl⟩
  obtain ⟨lb, hlb⟩ : ∃ lb, lb = setS ls peer (dropS (got ls peer)) := ⟨_, rfl⟩
  have hsa := see_law hfit hp he hb' hl'
  have hsb := drop_law hfit hp he
  rw [← hla] at hsa
  rw [← hlb] at hsb
  have hna := hsa.2.len
  have hnb := hsb.2.len
  have hgf := got_form (p := peer) hfit
  obtain ⟨⟨q, b, l, m⟩, hg⟩ : ∃ s, got ls peer = s := ⟨_, rfl⟩
  have hgr : refGot ls peer = ⟨q, b, l, m⟩ := (refGot_eq hfit.up).trans hg
  have hm1 : (got ls peer).mine < 9223372036854775807 ∧ -9223372036854775808 ≤ (got ls peer).mine := by omega
  have he' : (peer == id) = false := by simpa using he
  have hf := Lib.hid hf
  have hp := Lib.hid hp
  have hbo := Lib.hid hbo
  have hli := Lib.hid hli
  have Hla := Lib.hid hla
  have Hlb := Lib.hid hlb
  have Hsa := Lib.hid hsa
  have Hsb := Lib.hid hsb
  have Hg := Lib.hid hg
  have Hgr := Lib.hid hgr
  have Hll := Lib.hid hll
  have Hm := Lib.hid hm1
  have Hfit := Lib.hid hfit
  clear hla hlb hsa hsb hg hgr hgf hll hm1 hfit hb' hl' he
  go_enter Try.func6, Try.ntmps6
  go_wp2_with fail
  refine (Fit_lit _ id A n cp ls true hf.out (by have := Hll.out; omega) hI).mono ?_
  rintro e w1 ⟨rfl, h1⟩
  go_wp2_with fail
  refine (node_lit _ _ true hp.out).mono ?_
  rintro e w' ⟨rfl, rfl⟩
  go_wp2_with fail
  refine (within_lit _ boot _ _ true hbo.out).mono ?_
  rintro e w' ⟨rfl, rfl⟩
  go_wp2_with fail
  refine (within_lit _ life _ _ true hli.out).mono ?_
  rintro e w' ⟨rfl, rfl⟩
  go_wp2_with fail
  have hI1 : SeenAt w1 w.heap.size A n ls := hI.below h1
  refine (copied_any _ A n cp ls (by have := Hll.out; omega) (hI1.more h1.size)).mono ?_
  rintro e w2 ⟨v2, rfl, hown2, hb2⟩
  obtain ⟨A2, c2, rfl, hc2⟩ := own_slice' hown2
  have h2 := h1.trans (hb2.mono h1.size)
  have hO2 : SeenAt w2 w2.heap.size A2 n ls := Reads.of_own hown2
  go_wp2_with fail
  refine (See_any _ A2 n c2 ls peer boot life (by have := Hll.out; omega) (SeenAt.none hO2) hO2).mono ?_
  rintro e w3 ⟨v3, rfl, hown3, hb3⟩
  rw [← Hla.out] at hown3
  obtain ⟨A3, c3, rfl, hc3⟩ := own_slice' hown3
  have h3 := h2.trans (hb3.mono h2.size)
  have hO3 := hO2.below hb3
  go_wp2_with fail
  refine (Dropped_any _ A2 n c2 ls peer (by have := Hll.out; omega) (SeenAt.none hO3) Hm.out.1 Hm.out.2 (hO3.more hb3.size)).mono ?_
  rintro e w4 ⟨v4, rfl, hown4, hb4⟩
  rw [← Hlb.out] at hown4
  obtain ⟨A4, c4, rfl, hc4⟩ := own_slice' hown4
  have h4 := h3.trans (hb4.mono h3.size)
  have hO4 := (hO3.more hb3.size).below hb4
  have hA4 : SeenAt w4 w3.heap.size A3 la.length la := SeenAt.below (Reads.of_own hown3) hb4
  have hB4 : SeenAt w4 w4.heap.size A4 lb.length lb := Reads.of_own hown4
  have hI4 := hI.below h4
  have hS2 : w.heap.size ≤ w2.heap.size := h2.size
  have hW3 := OwnA.of hown3 rfl
  have hW4 := OwnA.of hown4 rfl
  have S34 := hb4.size
  have S23 := hb3.size
  have hgI := hI4.more h4.size
  have hgO := hO4.more S34
  have hgA := hA4.more S34
  have hgB := hB4
  have hgO2 := hO3.below (hb4.mono S23)
  have hgI2 := hI4
  have hW3' := hW3.below hb4
  have hk4 := Below.refl w4.heap.size w4
  clear hO2 hO3 hO4 hA4 hB4 hI4 hW3 hown2 hown3 hown4 hI1 h1 hb2 h2 h3 hb4 hI hb3
  have hne : ∀ W : World, Sem.run Try.prog (binOp .neq 60 (.agg #[.int .i64 q, .int .i64 b, .int .i64 l, .int .i64 m]) (.agg #[.int .i64 q, .int .i64 b, .int .i64 l, .int .i64 m])) W = .ok (.bool false) W := fun W => by
    rw [seen_ne]
    simp
  -- Get
  go_wp2_with fail
  refine (Get_any _ A2 n c2 ls peer (by have := Hll.out; omega) hgO).mono ?_
  rw [Hg.out]
  rintro e w5 ⟨rfl, h5⟩
  simp only [Seen.val]
  have hk5 := hk4.trans h5
  go_wp2_with fail
  refine (refGet_any _ w5.heap.size A n cp ls peer (by have := Hll.out; omega) ((hgI.below hk5).more hk5.size) (Nat.le_refl _)).mono ?_
  rw [Hgr.out]
  rintro e w6 ⟨rfl, h6⟩
  simp only [Seen.val]
  have hk6 := hk5.trans (h6.mono hk5.size)
  clear h5 h6 hk5
  go_wp2_with fail
  refine (refSee_any _ A n cp ls peer boot life (by have := Hll.out; omega) hcp ((hgI.below hk6).more hk6.size)).mono ?_
  rw [← Hsa.out.1]
  rintro e w7 ⟨v7, rfl, hown7, h7⟩
  obtain ⟨A7, c7, rfl, hc7⟩ := own_slice' hown7
  have hk7 := hk6.trans (h7.mono hk6.size)
  have hr7 : SeenAt w7 w7.heap.size A7 la.length la := Reads.of_own hown7
  clear h7 hk6 hown7
  go_wp2_with fail
  refine (Same_true _ A3 A7 la.length la.length c3 c7 la la rfl (by omega) ((hgA.below hk7).more hk7.size) hr7).mono ?_
  rintro e w8 ⟨rfl, h8⟩
  have hk8 := hk7.trans (h8.mono hk7.size)
  clear h8 hk7 hr7 hc7
  go_wp2_with fail
  refine (refDropped_any _ A n cp ls peer (by have := Hll.out; omega) hcp ?_ ?_ ((hgI.below hk8).more hk8.size)).mono ?_
  · rw [Hgr.out, ← Hg.out]; exact Hm.out.1
  · rw [Hgr.out, ← Hg.out]; exact Hm.out.2
  rw [← Hsb.out.1]
  rintro e w9 ⟨v9, rfl, hown9, h9⟩
  obtain ⟨A9, c9, rfl, hc9⟩ := own_slice' hown9
  have hk9 := hk8.trans (h9.mono hk8.size)
  have hr9 : SeenAt w9 w9.heap.size A9 lb.length lb := Reads.of_own hown9
  clear h9 hk8 hown9
  go_wp2_with fail
  refine (Same_true _ A4 A9 lb.length lb.length c4 c9 lb lb rfl (by omega) ((hgB.below hk9).more hk9.size) hr9).mono ?_
  rintro e wa ⟨rfl, ha⟩
  have hka := hk9.trans (ha.mono hk9.size)
  clear ha hk9 hr9 hc9
  go_wp2_with fail
  refine (Fit_lit _ id A3 la.length c3 la true (fit_iff.2 Hsa.out.2) (by omega) ((hgA.below hka).more hka.size)).mono ?_
  rintro e wb ⟨rfl, hb⟩
  have hkb := hka.trans (hb.mono hka.size)
  clear hb hka
  go_wp2_with fail
  refine (Fit_lit _ id A4 lb.length c4 lb true (fit_iff.2 Hsb.out.2) (by omega) ((hgB.below hkb).more hkb.size)).mono ?_
  rintro e wc ⟨rfl, hc⟩
  have hkc := hkb.trans (hc.mono hkb.size)
  have hW3c := hW3'.below hkc
  have hW4c := hW4.below hkc
  have sc := hkc.size
  have hOc : SeenAt wc w2.heap.size A2 n ls := hgO2.below (hkc.mono (by omega))
  have hIc : SeenAt wc w2.heap.size A n ls := (hgI2.below (hkc.mono (by omega))).more hS2
  have hT : Below w.heap.size w wc := h4.trans (hkc.mono h4.size)
  have hS2c : w2.heap.size ≤ w3.heap.size := S23
  have hS3c : w3.heap.size ≤ wc.heap.size := by omega
  clear hc hkb hne hW3' hW4 hgA hgB hgI hgO hgO2 hgI2 hkc hk4 h4 sc
  have hnla : (la.length : Int) ≤ 16 := by omega
  have hnlb : (lb.length : Int) ≤ 16 := by omega
  go_wp2_with fail
  go_loopw [14] (fun i wr => ∃ k : Nat, k ≤ la.length ∧ i = .int .i64 k ∧ Below w2.heap.size wc wr ∧ OwnA wr w2.heap.size w3.heap.size A3 la.length c3 ∧ OwnA wr w3.heap.size w4.heap.size A4 lb.length c4) (fun i _ => la.length - (intOf i).toNat)
  case atStart => exact ⟨0, Nat.zero_le _, rfl, Below.refl _ _, hW3c, hW4c⟩
  case round =>
    clear hW3c hW4c
    obtain ⟨k, hk, rfl, hbr, ho3, ho4⟩ := hrel
    by_cases hlt : k < la.length
    · have hlt' : (k : Int) < (la.length : Int) := by omega
      obtain ⟨g, rfl, hg2, hg3, hgl, ⟨v0, hcell⟩, hfr, hput⟩ := ho3.put hlt (.int .i64 77)
      have Hput := Lib.hid hput
      clear hput ho3
      go_wp2_with fail
      go_roundw
      case rel => exact ⟨k + 1, by omega, by go_num, hbr.setCell (by exact hg2) _, Hput.out, ho4.far (.inl hg3) _⟩
      case measure => simp [intOf]; omega
    · obtain rfl : k = la.length := by omega
      clear ho3
      go_wp2_with fail
      obtain ⟨wd, rfl⟩ : ∃ wd : World, wd = wr := ⟨_, rfl⟩
      go_loopw [15] (fun i wr => ∃ k : Nat, k ≤ lb.length ∧ i = .int .i64 k ∧ Below w2.heap.size wc wr ∧ OwnA wr w3.heap.size w4.heap.size A4 lb.length c4) (fun i _ => lb.length - (intOf i).toNat)
      case atStart => exact ⟨0, Nat.zero_le _, rfl, hbr, ho4⟩
      case round =>
        clear hbr ho4
        obtain ⟨k, hk, rfl, hbr, ho4⟩ := hrel
        by_cases hlt : k < lb.length
        · have hlt' : (k : Int) < (lb.length : Int) := by omega
          obtain ⟨g, rfl, hg2, hg3, hgl, ⟨v0, hcell⟩, hfr, hput⟩ := ho4.put hlt (.int .i64 77)
          have Hput := Lib.hid hput
          clear hput ho4
          go_wp2_with fail
          go_roundw
          case rel => exact ⟨k + 1, by omega, by go_num, hbr.setCell (by show w2.heap.size ≤ g; omega) _, Hput.out⟩
          case measure => simp [intOf]; omega
        · obtain rfl : k = lb.length := by omega
          clear ho4
          have hs := hbr.size
          go_wp2_with fail
          refine (Same_true _ A2 A n n c2 cp ls ls rfl (by have := Hll.out; omega) ((hOc.below hbr).more (by omega)) ((hIc.below hbr).more (by omega))).mono ?_
          rintro e we ⟨rfl, he⟩
          have hT2 := (hT.trans (hbr.mono hS2)).trans (he.mono (by have := hT.size; omega))
          clear hOc hIc hbr he hT
          go_wp2_with fail
          refine (awake14 _).mono ?_
          rintro e wf ⟨rfl, hf2⟩
          go_wp2_with fail
          go_ret
          exact ⟨rfl, hT2.trans (hf2.mono hT2.size)⟩

theorem walk (id peer boot life : Int) (A : Option Addr) (n cp : Nat) (ls : List Seen) (w : World) (hn : (n : Int) ≤ 9223372036854775807) (hcp : n ≤ cp) (hI : SeenAt w w.heap.size A n ls) :
    Calls Try.prog 6 #[.int .i64 id, .slice A n cp, .int .i64 peer, .int .i64 boot, .int .i64 life] w fun e w' => e = .returned (.bool true) ∧ Below w.heap.size w w' := by
  by_cases h : fitL id ls = true ∧ isNode peer = true ∧ peer ≠ id ∧ isIn boot 1 1099511627776 = true ∧ isIn life 0 1099511627776 = true
  · exact walk_yes id peer boot life A n cp ls w hcp hI h.1 h.2.1 h.2.2.1 h.2.2.2.1 h.2.2.2.2
  · exact walk_no id peer boot life A n cp ls w hn hI h

theorem own : ownKnob Try.prog.godebug = none := by kernel_rfl
theorem laidOut : laidOutB Try.prog = true := by kernel_rfl

set_option maxRecDepth 100000 in
theorem lifted (os : Os) (started : os.Started) (H : Type) (enc : TypeId × Value → H) :
    ReturnsInHanded {} Try.checked os 6 .any (Rows.shakeSeesSpec.pre6 enc Try.prog Try.f6 Rows.shakeSeesRow.domain false) (Rows.shakeSeesSpec.post enc Try.prog Try.f6 false true false false) := by
  refine lift_law (C := Try.checked) own started (by kernel_rfl) Try.func6
    (ChangeSpec.witness6 (enc := enc) (C := Try.checked) false ⟨#[], #[.int .i64 0, .slice none 0 0, .int .i64 0, .int .i64 0, .int .i64 0], []⟩ 8 (by kernel_rfl) (by kernel_rfl) (by kernel_rfl) (by kernel_rfl))
    laidOut (by kernel_rfl) rfl Try.underlying4 rfl (fun ds h => by match ds, h with | [d0, d1, d2, d3, d4], _ => rfl) ?_
  intro W base args ds p hval0 hA0 hsz
  have hval : ∀ (j : Nat) t v, Try.f6.params[j]? = some t → args[j]? = some v → Value.okWide Try.prog W .any base t v := hval0
  have hA : DataW.TrodAll enc Try.prog W 0 (fun _ => true) true Try.f6.params.toList args.toList ds p := hA0
  rw [Try.params6] at hA hval
  clear hA0 hval0
  obtain ⟨v0, vs0, d0, ds0, p0, q0, hargs, rfl, rfl, h0, r0⟩ := trodAll_cons hA
  obtain ⟨v1, vs1, d1, ds1, p1, q1, rfl, rfl, rfl, h1, r1⟩ := trodAll_cons r0
  obtain ⟨v2, vs2, d2, ds2, p2, q2, rfl, rfl, rfl, h2, r2⟩ := trodAll_cons r1
  obtain ⟨v3, vs3, d3, ds3, p3, q3, rfl, rfl, rfl, h3, r3⟩ := trodAll_cons r2
  obtain ⟨v4, vs4, d4, ds4, p4, q4, rfl, rfl, rfl, h4, r4⟩ := trodAll_cons r3
  obtain ⟨rfl, rfl, rfl⟩ := trodAll_nil r4
  obtain rfl := args_of_toList hargs
  obtain ⟨x0, rfl, _, _, _wf0⟩ := open_int Try.underlying3 (hval 0 3 v0 rfl rfl) h0
  obtain ⟨_a1, _l1, _c1, rfl⟩ := okWide_slice Try.underlying52 (hval 1 52 v1 rfl rfl)
  obtain ⟨_fuel1, hf1⟩ := h1
  obtain ⟨A1, m1, c1, ls1, hcs1, hm1, hc1, hI1, hw1⟩ := (open_seens Try.underlying52 Try.underlying60 (by kernel_rfl) rfl rfl rfl rfl (by kernel_rfl) (by kernel_rfl) (by kernel_rfl) (by kernel_rfl) (by kernel_rfl) (by kernel_rfl) (by kernel_rfl) (by kernel_rfl)) hf1
  simp only [Value.cells, List.cons.injEq, Value.slice.injEq, and_true] at hcs1
  obtain ⟨rfl, rfl, rfl⟩ := hcs1
  obtain ⟨x2, rfl, _, _, _wf2⟩ := open_int Try.underlying3 (hval 2 3 v2 rfl rfl) h2
  obtain ⟨x3, rfl, _, _, _wf3⟩ := open_int Try.underlying2 (hval 3 2 v3 rfl rfl) h3
  obtain ⟨x4, rfl, _, _, _wf4⟩ := open_int Try.underlying2 (hval 4 2 v4 rfl rfl) h4
  exact walk x0 x2 x3 x4 _ _ _ ls1 W (by unfold maxLen at hm1; omega) hc1 hI1

theorem proved : Rows.ShakeSeesSaid :=
  OpenClaim.holds_of_wide 6 Try.f6 rfl rfl rfl rfl rfl rfl rfl ⟨rfl, rfl, rfl, rfl, rfl⟩ rfl rfl rfl rfl rfl (by kernel_rfl) Try.func6 (by kernel_rfl)
    (of_decide_eq_true (by kernel_rfl)) (by unfold Func.isWrapper; first | (rw [if_pos (by decide +kernel)]; kernel_rfl) | (rw [if_neg (by decide +kernel)]; exact ⟨rfl, rfl⟩))
    (fun os started H enc _ => lifted os started H enc)
#print axioms proved

end sees
end Go.Proofs.Ytkbcnapfcojekaa
