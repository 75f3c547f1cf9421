/-
  Layer 10 (half): Put and Drop of the code.
-/
import Derived.Test.YtogkcokgcoookaaHalfPl
import Derived.Test.YtogkcokgcoookaaHalfO
import Derived.Test.YtogkcokgcoookaaDeleteH
import Derived.Test.YtogkcokgcoookaaHalfD
namespace Go.Proofs.Ytogkcokgcoookaa
open Go.ChangeShapes Go.WideShapes Go.ChangeAt Go.RowKit Go.Shelf Go.Ed

/-- lines' rows are no half-edges' row -/
theorem OwnLs.chg {W W' : World} {base : Nat} {v : HV} {S : Nat → Prop} (h : OwnLs W base v) (hc : Chg S W W') (hr : ∀ g, S g → ∃ cs, Blk W g 24 cs) : OwnLs W' base v :=
  ⟨h.1, own_chg h.2 hc fun g hx e => by
    obtain ⟨cs, h1⟩ := own_at h.2 hx
    obtain ⟨cs', h2⟩ := hr g e
    have := blk_inj h1 h2
    revert this
    decide⟩
/-- one half-edge laid over another -/
theorem own_over {W W' : World} {base g n c i : Nat} {us : List HV} {v : HV} {cur : List Value} (h : OwnHs W base (some ⟨g, 0, none⟩) n c us) (hg : Blk W g 24 cur.toArray) (hcl : cur.length = c * 6) (hcx : cur.take (n * 6) = flat HV.cells us) (hcm : c ≤ maxLen) (hbg : base ≤ g) (hi : i < us.length)
    (hv : OwnLs W base v) (hc : Chg (· = g) W W') (hg' : Blk W' g 24 (cur.take (i * 6) ++ HV.cells v ++ cur.drop (i * 6 + 6)).toArray) : OwnHs W' base (some ⟨g, 0, none⟩) n c (us.take i ++ v :: us.drop (i + 1)) := by
  have hl := h.1
  have hnc := h.2.1
  have h6 : n * 6 ≤ c * 6 := Nat.mul_le_mul_right _ hnc
  refine ⟨by rw [List.length_append, List.length_cons, List.length_take, List.length_drop]; omega, hnc, ?_, fun x hx => ?_⟩
  · refine own_of_blk hg' hbg hnc hcm ?_ ?_
    · simp only [List.length_append, List.length_take, List.length_drop, HV.len]; omega
    · rw [take_put (k := i) (n := n) (size := 6) (by omega) hcx (by omega) (HV.len v), flat_append, flat_cons, ← flat_take _ HV.len, ← flat_drop _ HV.len, show (i + 1) * 6 = i * 6 + 6 by omega, List.append_assoc]
  · have hx2 : x ∈ us ∨ x = v := by
      rcases List.mem_append.1 hx with h | h
      · exact .inl (List.mem_of_mem_take h)
      · rcases List.mem_cons.1 h with h | h
        · exact .inr h
        · exact .inl (List.mem_of_mem_drop h)
    rcases hx2 with h3 | rfl
    · exact (h.2.2.2 x h3).chg hc fun j e => by subst e; exact ⟨_, hg⟩
    · exact hv.chg hc fun j e => by subst e; exact ⟨_, hg⟩
/-- a row that Insert or Delete has turned -/
theorem own_turned {W W' : World} {base n c n' c' : Nat} {A A' : Option Addr} {us us' : List HV} (h : OwnHs W base A n c us) (hc : Chg (fun i => some i = (Value.slice A n c).ownBlock) W W') (ho : W'.ownsRow base 24 6 (.slice A' n' c') n' (flat HV.cells us')) (hn : us'.length = n')
    (hl : ∀ x ∈ us', OwnLs W base x) : OwnHs W' base A' n' c' us' := by
  refine ⟨hn, ?_, ho, fun x hx => (hl x hx).chg hc fun j e => own_at h.2.2.1 e.symm⟩
  obtain ⟨_, _, e, h⟩ := own_slice' ho
  cases e
  exact h

def Droped (w : World) (l : List Half) (b : Bool) (e : Ending) (w' : World) : Prop := ∃ A n c vs, e = .returned (.tuple #[.slice A n c, .bool b]) ∧ vs.map HV.h = l ∧ OwnHs w' w.heap.size A n c vs ∧ Below w.heap.size w w'
def hasH (l : List Half) (q : Int) : Bool := (findH l q).isSome

set_option maxRecDepth 100000 in
set_option maxHeartbeats 4000000 in
theorem drop10_any (w : World) (A : Option Addr) (n c : Nat) (vs : List HV) (q : Int) (hn : n ≤ 1000000) (hI : HalvesAt w w.heap.size A n vs) (hp : riseH (vs.map HV.h)) (hb : ∀ v ∈ vs, (0 ≤ v.h.peer ∧ v.h.peer < 16) ∧ v.h.lines.length * 40 ≤ 140737488355328)
    (hq : -9223372036854775808 ≤ q ∧ q ≤ 9223372036854775807) :
    Calls Try.prog 32 #[.slice A n c, .int .i64 q] w (Droped w (dropL (vs.map HV.h) q) (hasH (vs.map HV.h) q)) := by
  have hll := Lib.hid hI.len
  obtain ⟨res, hres⟩ : ∃ l, dropL (vs.map HV.h) q = l := ⟨_, rfl⟩
  obtain ⟨rb, hrb⟩ : ∃ l, hasH (vs.map HV.h) q = l := ⟨_, rfl⟩
  rw [hres, hrb]
  replace hres := Lib.hid hres
  replace hrb := Lib.hid hrb
  replace hp := Lib.hid hp
  replace hb := Lib.hid hb
  replace hq := Lib.hid hq
  go_enter Try.func32, Try.ntmps32
  go_wp2_with fail
  refine (copy10_any _ A n c vs (by omega) hI (fun v h => (hb.out v h).2)).mono ?_
  rintro e w1 ⟨A2, n2, c2, us, rfl, hus, hown, h1⟩
  have hul : us.length = n := by have := congrArg List.length hus; simp at this; rw [this]; exact hll.out
  have hn2 : n2 = n := by rw [← hown.1]; exact hul
  subst hn2
  have hbu : ∀ v ∈ us, 0 ≤ v.h.peer ∧ v.h.peer < 16 := fun v hv => by
    have : v.h ∈ us.map HV.h := List.mem_map.2 ⟨v, hv, rfl⟩
    rw [hus] at this
    obtain ⟨x, hx, e⟩ := List.mem_map.1 this
    rw [← e]
    exact (hb.out x hx).1
  have hpu : riseH (us.map HV.h) := by rw [hus]; exact hp.out
  replace hul := Lib.hid hul
  replace hbu := Lib.hid hbu
  replace hpu := Lib.hid hpu
  replace hus := Lib.hid hus
  go_wp2_with fail
  refine (place_any _ A2 n2 c2 us q (by omega) hown.halves).mono ?_
  rintro e w2 ⟨i, hE, rfl, h2⟩
  have hF := find_place hE hpu.out hbu.out hq.out
  have hown2 := hown.below h2
  have hb2 := h1.trans (h2.mono h1.size)
  have hs1 := h1.size
  have hs2 := h2.size
  clear hown h1 h2
  obtain ⟨ok, hok⟩ : ∃ ok, (decide (i < us.length) && dif us q i == 0) = ok := ⟨_, rfl⟩
  rw [hok] at hF ⊢
  replace hok := Lib.hid hok
  cases ok
  · have hfn := hF.2 rfl
    have h3 : rb = false := by rw [← hrb.out, hasH, ← hus.out, hfn]; rfl
    have h4 : res = us.map HV.h := by
      rw [← hres.out, ← hus.out]
      refine drop_none fun x hx e => ?_
      have := List.find?_eq_none.1 hfn x hx
      simp [e] at this
    subst h3
    subst h4
    clear hF hfn
    replace hown2 := Lib.hid hown2
    go_wp2_with fail
    go_ret2
    exact ⟨A2, n2, c2, us, rfl, rfl, hown2.out, hb2⟩
  · obtain ⟨hi, hfs⟩ := hF.1 rfl
    have h3 : rb = true := by rw [← hrb.out, hasH, ← hus.out, hfs]; rfl
    have hpe : us[i].h.peer = q := by
      have := List.find?_some hfs
      simpa using this
    have hum : i < (us.map HV.h).length := by simpa using hi
    have hrb2 := rise_before hpu.out hum
    have h4 : res = (us.take i ++ us.drop (i + 1)).map HV.h := by
      rw [← hres.out, ← hus.out]
      have hg : (us.map HV.h)[i].peer = q := by rw [List.getElem_map]; exact hpe
      rw [drop_out (split_at hum) hg (fun x hx => by have := hrb2.1 x hx; omega) (fun x hx => by have := hrb2.2 x hx; omega), List.map_append, List.map_take, List.map_drop]
    subst h3
    subst h4
    clear hF hfs hrb2
    have hlen : (us.take i ++ us.drop (i + 1)).length = n2 - 1 := by have := hul.out; rw [List.length_append, List.length_take, List.length_drop]; omega
    have hin : i < n2 := by have := hul.out; omega
    have ew1 : IntKind.i64.wrap ((i : Int) + 1) = (i : Int) + 1 := by rw [IntKind.wrap_i64]; omega
    replace hlen := Lib.hid hlen
    replace hown2 := Lib.hid hown2
    replace hpe := Lib.hid hpe
    go_wp2_with fail
    refine (deleteH_own _ w.heap.size A2 n2 c2 i _ hown2.out.2.2.1 hin (by omega) (half_one_flat us)).mono ?_
    rintro e w3 ⟨v3, rfl, ho3, hc3⟩
    obtain ⟨A4, c4, rfl, hc4⟩ := own_slice' ho3
    rw [flat_take _ HV.len, flat_drop _ HV.len, ← flat_append] at ho3
    have hO := own_turned hown2.out hc3 ho3 hlen.out (fun x hx => hown2.out.2.2.2 x (by
      rcases List.mem_append.1 hx with h | h
      · exact List.mem_of_mem_take h
      · exact List.mem_of_mem_drop h))
    have hb3 := hb2.trans (hc3.below (fun j e => (hown2.out.2.2.1.lt j e.symm).1) hb2.size)
    clear ho3 hc3
    go_wp2_with fail
    go_ret2
    exact ⟨A4, n2 - 1, c4, _, rfl, rfl, hO, hb3⟩

set_option maxRecDepth 100000 in
set_option maxHeartbeats 4000000 in
theorem put10_any (w : World) (A : Option Addr) (n c : Nat) (vs : List HV) (p bo li : Int) (ls : List Line) (Al : Option Addr) (cl : Nat) (pe : Bool) (mi : Int) (hn : n ≤ 1000000) (hI : HalvesAt w w.heap.size A n vs) (hp : riseH (vs.map HV.h)) (hb : ∀ v ∈ vs, (0 ≤ v.h.peer ∧ v.h.peer < 16) ∧ v.h.lines.length * 40 ≤ 140737488355328)
    (hq : 0 ≤ p ∧ p < 16) (hls : ls.length * 40 ≤ 140737488355328) (hL : LinesAt w w.heap.size Al ls.length ls) :
    Calls Try.prog 30 #[.slice A n c, .agg #[.int .i64 p, .int .i64 bo, .int .i64 li, .slice Al ls.length cl, .bool pe, .int .i64 mi]] w (Copied w (putL (vs.map HV.h) ⟨p, bo, li, ls, pe, mi⟩)) := by
  have hll := Lib.hid hI.len
  obtain ⟨res, hres⟩ : ∃ l, putL (vs.map HV.h) ⟨p, bo, li, ls, pe, mi⟩ = l := ⟨_, rfl⟩
  rw [hres]
  replace hres := Lib.hid hres
  replace hp := Lib.hid hp
  replace hb := Lib.hid hb
  replace hq := Lib.hid hq
  obtain ⟨g, hg⟩ : ∃ g, g = w.heap.size := ⟨_, rfl⟩
  have hb0 : Below w.heap.size w (w.alloc (.cells #[.int .i64 p, .int .i64 bo, .int .i64 li, .slice Al ls.length cl, .bool pe, .int .i64 mi] 24)) := (Below.refl _ w).alloc (Nat.le_refl _) _
  have hB0 : Blk (w.alloc (.cells #[.int .i64 p, .int .i64 bo, .int .i64 li, .slice Al ls.length cl, .bool pe, .int .i64 mi] 24)) g 24 #[.int .i64 p, .int .i64 bo, .int .i64 li, .slice Al ls.length cl, .bool pe, .int .i64 mi] := by rw [hg]; exact Blk.new _ _ _
  go_enter Try.func30, Try.ntmps30
  go_wp2_with fail
  generalize w.alloc (.cells #[.int .i64 p, .int .i64 bo, .int .i64 li, .slice Al ls.length cl, .bool pe, .int .i64 mi] 24) = W0 at *
  rw [← hg]
  replace hg := Lib.hid hg
  refine (copy10_any _ A n c vs (by omega) ((hI.below hb0).more hb0.size) (fun v h => (hb.out v h).2)).mono ?_
  rintro e w1 ⟨A2, n2, c2, us, rfl, hus, hown, h1⟩
  have hul : us.length = n := by have := congrArg List.length hus; simp at this; rw [this]; exact hll.out
  have hn2 : n2 = n := by rw [← hown.1]; exact hul
  subst hn2
  have hbu : ∀ v ∈ us, 0 ≤ v.h.peer ∧ v.h.peer < 16 := fun v hv => by
    have : v.h ∈ us.map HV.h := List.mem_map.2 ⟨v, hv, rfl⟩
    rw [hus] at this
    obtain ⟨x, hx, e⟩ := List.mem_map.1 this
    rw [← e]
    exact (hb.out x hx).1
  have hpu : riseH (us.map HV.h) := by rw [hus]; exact hp.out
  have hgW : g < W0.heap.size := hB0.lt
  have hB1 := hB0.below h1 hgW
  have k0 := hB1.cell 0
  simp only [List.getElem?_toArray, List.getElem?_cons_zero] at k0
  replace hul := Lib.hid hul
  replace hbu := Lib.hid hbu
  replace hpu := Lib.hid hpu
  replace hus := Lib.hid hus
  clear hB0
  go_wp2_with fail
  refine (place_any _ A2 n2 c2 us p (by omega) hown.halves).mono ?_
  rintro e w2 ⟨i, hE, rfl, h2⟩
  obtain ⟨hs1, hs2, hs3, hs4⟩ := ends_split hE hpu.out hbu.out hq.out
  have hiu := hE.1
  have hown2 := hown.below h2
  have hb2 := (hb0.trans (h1.mono hb0.size)).trans (h2.mono (by have := hb0.size; have := h1.size; omega))
  have hB2 := hB1.below h2 hB1.lt
  have hz1 := hb0.size
  have hz2 := h1.size
  have hz3 := h2.size
  clear hown h1 h2 k0 hB1 hE
  obtain ⟨ok, hok⟩ : ∃ ok, (decide (i < us.length) && dif us p i == 0) = ok := ⟨_, rfl⟩
  rw [hok]
  obtain ⟨k0, k1, k2, k3, k4, k5⟩ := cells6 hB2
  replace hB2 := Lib.hid hB2
  have hLw : LinesAt w2 w2.heap.size Al ls.length ls := Reads.more (Reads.below hL hb2) hb2.size
  cases ok
  · have hfl : (decide (i < us.length) && dif us p i == 0) = false := hok
    have h4 : res = (us.map HV.h).take i ++ ⟨p, bo, li, ls, pe, mi⟩ :: (us.map HV.h).drop i := by
      rw [← hres.out, ← hus.out]
      refine put_split (List.take_append_drop i _).symm hs1 fun x hx => ?_
      rcases Nat.lt_or_ge i us.length with hi | hi
      · have hd : dif us p i ≠ 0 := by simpa [hi] using hfl
        have h5 := hs4 hi hd
        have hum : i < (us.map HV.h).length := by simpa using hi
        rw [List.drop_eq_getElem_cons hum] at hx
        have h6 : (us.map HV.h)[i].peer = us[i].h.peer := by rw [List.getElem_map]
        rcases List.mem_cons.1 hx with rfl | hx
        · show p < _
          omega
        · have := (rise_before hpu.out hum).2 x hx
          show p < _
          omega
      · rw [List.drop_of_length_le (by simpa using hi)] at hx
        simp at hx
    clear hfl hok hs1 hs2 hs3 hs4
    replace h4 := Lib.hid h4
    replace hown2 := Lib.hid hown2
    go_wp2_with fail
    refine (one_any _ p bo li ls Al cl pe mi hls hLw).mono ?_
    rintro e w3 ⟨A3, c3, rfl, hc3, hown3, h3⟩
    have hb3 := hb2.trans (h3.mono hb2.size)
    have hz4 := h3.size
    simp only [HV.val] at hown3 hc3 ⊢
    have hO3 : OwnHs (w3.alloc (.cells #[.int .i64 p, .int .i64 bo, .int .i64 li, .slice A3 ls.length c3, .bool pe, .int .i64 mi] 24)) W0.heap.size A2 n2 c2 us := (hown2.out.below h3).below ((Below.refl _ w3).alloc (Nat.le_refl _) _)
    have hV3 : OwnLs (w3.alloc (.cells #[.int .i64 p, .int .i64 bo, .int .i64 li, .slice A3 ls.length c3, .bool pe, .int .i64 mi] 24)) W0.heap.size ⟨⟨p, bo, li, ls, pe, mi⟩, A3, c3⟩ := (show OwnLs w3 W0.heap.size ⟨⟨p, bo, li, ls, pe, mi⟩, A3, c3⟩ from ⟨hc3, World.ownsRow.mono hown3 (by omega)⟩).below ((Below.refl _ w3).alloc (Nat.le_refl _) _)
    have hne : ∀ ad, A2 = some ad → w3.heap.size ≠ ad.block := fun ad h => by
      obtain ⟨A', c', e, -, h2⟩ := own_slice (hown2.out.below h3).2.2.1
      cases e
      rcases h2 with h2 | ⟨g', h2, -, h5⟩
      · rw [h2] at h; cases h
      · rw [h2] at h; cases h; exact Nat.ne_of_gt h5
    have hlen : (us.take i ++ ⟨⟨p, bo, li, ls, pe, mi⟩, A3, c3⟩ :: us.drop i).length = n2 + 1 := by have := hul.out; rw [List.length_append, List.length_cons, List.length_take, List.length_drop]; omega
    have hin : i ≤ n2 := by have := hul.out; omega
    have hb3' := hb3.alloc hb3.size (.cells #[.int .i64 p, .int .i64 bo, .int .i64 li, .slice A3 ls.length c3, .bool pe, .int .i64 mi] 24)
    replace hlen := Lib.hid hlen
    replace hO3 := Lib.hid hO3
    replace hV3 := Lib.hid hV3
    replace hne := Lib.hid hne
    clear hown3 h3 hb3 k0 k1 k2 k3 k4 k5
    go_wp2_with fail
    refine (insert_ownH _ W0.heap.size A2 n2 c2 i w3.heap.size _ [Value.int .i64 p, .int .i64 bo, .int .i64 li, .slice A3 ls.length c3, .bool pe, .int .i64 mi] hO3.out.2.2.1 (by simp; omega) hin (by omega) (Blk.new _ _ _) rfl hne.out (by simp [Value.oneCell']) (half_one_flat us)).mono ?_
    rintro e w4 ⟨v4, rfl, ho4, hc4⟩
    obtain ⟨A4, c4, rfl, hcc4⟩ := own_slice' ho4
    have hfl : (flat HV.cells us).take (i * 6) ++ [Value.int .i64 p, .int .i64 bo, .int .i64 li, .slice A3 ls.length c3, .bool pe, .int .i64 mi] ++ (flat HV.cells us).drop (i * 6) = flat HV.cells (us.take i ++ ⟨⟨p, bo, li, ls, pe, mi⟩, A3, c3⟩ :: us.drop i) := by
      rw [flat_take _ HV.len, flat_drop _ HV.len, flat_append, flat_cons, List.append_assoc]; rfl
    rw [hfl] at ho4
    have hO := own_turned hO3.out hc4 ho4 hlen.out (fun x hx => by
      rcases List.mem_append.1 hx with h | h
      · exact hO3.out.2.2.2 x (List.mem_of_mem_take h)
      · rcases List.mem_cons.1 h with rfl | h
        · exact hV3.out
        · exact hO3.out.2.2.2 x (List.mem_of_mem_drop h))
    have hb4 := hb3'.trans (hc4.below (fun j e => by have := (hO3.out.2.2.1.lt j e.symm).1; omega) hb3'.size)
    clear ho4 hc4 hfl
    go_wp2_with fail
    go_ret
    exact ⟨A4, n2 + 1, c4, _, rfl, by rw [h4.out, List.map_append, List.map_cons, List.map_take, List.map_drop], hO.more hz1, hb4⟩
  · have hok2 : i < us.length ∧ dif us p i = 0 := by simpa using hok
    obtain ⟨hi, hd⟩ := hok2
    have hpe := hs3 hi hd
    have hum : i < (us.map HV.h).length := by simpa using hi
    have h4 : res = (us.map HV.h).take i ++ ⟨p, bo, li, ls, pe, mi⟩ :: (us.map HV.h).drop (i + 1) := by
      rw [← hres.out, ← hus.out]
      have hg2 : (us.map HV.h)[i].peer = p := by rw [List.getElem_map]; exact hpe
      have hrb := rise_before hpu.out hum
      exact put_over (split_at hum) hg2 (fun x hx => by have := hrb.1 x hx; show _ < p; omega) (fun x hx => by have := hrb.2 x hx; show p < _; omega)
    clear hok hs1 hs2 hs3 hs4 hpe hd
    replace h4 := Lib.hid h4
    have hin : (i : Int) < (n2 : Int) := by have := hul.out; omega
    obtain ⟨g2, rfl⟩ : ∃ g2, A2 = some ⟨g2, 0, none⟩ := by
      rcases hown2.2.2.1.2 with ⟨_, h⟩ | ⟨g', cap, cur, e, _⟩
      · omega
      · cases e; exact ⟨_, rfl⟩
    replace hown2 := Lib.hid hown2
    go_wp2_with fail
    refine (one_any _ p bo li ls Al cl pe mi hls hLw).mono ?_
    rintro e w3 ⟨A3, c3, rfl, hc3, hown3, h3⟩
    have hb3 := hb2.trans (h3.mono hb2.size)
    have hz4 := h3.size
    simp only [HV.val] at hown3 hc3 ⊢
    have hO3 : OwnHs w3 W0.heap.size (some ⟨g2, 0, none⟩) n2 c2 us := hown2.out.below h3
    have hV3 : OwnLs w3 W0.heap.size ⟨⟨p, bo, li, ls, pe, mi⟩, A3, c3⟩ := ⟨hc3, World.ownsRow.mono hown3 (by omega)⟩
    obtain ⟨cur, hG2, hg2, hnc, hcm, hcl, hcx⟩ := own_blk hO3.2.2.1
    have h6 : n2 * 6 ≤ c2 * 6 := Nat.mul_le_mul_right _ hnc
    replace hO3 := Lib.hid hO3
    replace hV3 := Lib.hid hV3
    replace hcx := Lib.hid hcx
    replace hcl := Lib.hid hcl
    clear hown3 h3 k0 k1 k2 k3 k4 k5
    go_wp2_with ((with_reducible refine go_store_as (off := i * 6) (vs := #[.int .i64 p, .int .i64 bo, .int .i64 li, .slice A3 ls.length c3, .bool pe, .int .i64 mi]) (cur.take (i * 6) ++ [Value.int .i64 p, .int .i64 bo, .int .i64 li, .slice A3 ls.length c3, .bool pe, .int .i64 mi] ++ cur.drop (i * 6 + 6)).toArray agg_Half hG2 ?b1 ?b2 ?b3 ?b4 ?b5 ?b6 ?_); (case b1 => rfl); (case b2 => rfl); (case b3 => rfl); (case b4 => (have := hcl.out; rw [List.size_toArray]; omega)); (case b5 => simp [Value.oneCell']); (case b6 => rfl); (intro w4 hB4 hC4))
    go_ret
    have hO := own_over hO3.out hG2 hcl.out hcx.out hcm hg2 hi hV3.out hC4 hB4
    exact ⟨some ⟨g2, 0, none⟩, n2, c2, _, rfl, by rw [h4.out, List.map_append, List.map_cons, List.map_take, List.map_drop], hO.more hz1, hb3.trans (hC4.below (fun j e => by omega) hb3.size)⟩

end Go.Proofs.Ytogkcokgcoookaa
