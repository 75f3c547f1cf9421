/-
  Layer 10 (half): Write of the code.
-/
import Derived.Test.YtogkcokgcoookaaHalfS
import Derived.Test.YtogkcokgcoookaaDeleteL
import Derived.Test.YtogkcokgcoookaaReg
import Derived.Test.YtogkcokgcoookaaHalfK
namespace Go.Proofs.Ytogkcokgcoookaa
open Go.ChangeShapes Go.WideShapes Go.ChangeAt Go.RowKit Go.Shelf Go.Ed

def isZ (ver wt fl : Int) : Bool := ver == 0 && (wt == 0 && fl == 0)
/-- what Write leaves -/
def writeL (ls : List Line) (nm : ByteArray) (ver wt fl : Int) : List Line :=
  if hasL ls nm then ls.take (seekL ls nm) ++ ((if isZ ver wt fl then [] else [⟨nm, ver, wt, fl⟩]) ++ ls.drop (seekL ls nm + 1))
  else if isZ ver wt fl = false ∧ ls.length < 8 then ls.take (seekL ls nm) ++ (⟨nm, ver, wt, fl⟩ :: ls.drop (seekL ls nm)) else ls
theorem seekL_le (ls : List Line) (nm : ByteArray) : seekL ls nm ≤ ls.length := List.findIdx_le_length
theorem hasL_lt {ls : List Line} {nm : ByteArray} (h : hasL ls nm = true) : ∃ hl : seekL ls nm < ls.length, ls[seekL ls nm].nm = nm := by
  unfold hasL at h
  split at h
  · rename_i x hx
    obtain ⟨hl, e⟩ := List.getElem?_eq_some_iff.1 hx
    refine ⟨hl, ?_⟩
    rw [e]
    exact bytes_ext (by simpa using h)
  · cases h

theorem flat_line (x : Line) : flat Line.cells [x] = [.string x.nm, .int .i64 x.ver, .int .i64 x.wt, .int .i64 x.fl] := by simp [flat, Line.cells]
theorem reg_nz (ver wt fl : Int) {z : Bool} (hz : isZ ver wt fl = z) (W : World) : Sem.run Try.prog (binOp .neq 29 (.agg #[.int .i64 ver, .int .i64 wt, .int .i64 fl]) (.agg #[.int .i64 0, .int .i64 0, .int .i64 0])) W = .ok (.bool (!z)) W := by
  rw [← hz, isZ, run_neq_struct]
  by_cases h1 : ver = 0 <;> by_cases h2 : wt = 0 <;> by_cases h3 : fl = 0 <;> simp [go_sem, run_equalIn_agg, run_equalIn_int, h1, h2, h3]
theorem write_fin {w w0 u u5 : World} {p bo li : Int} {pe : Bool} {mi : Int} {g m c : Nat} {A : Option Addr} {res : List Line} (hg : g = w.heap.size) (hs0 : g + 1 + 1 < w0.heap.size) (hbu : Below w.heap.size w u)
    (hown : u.ownsRow w0.heap.size 44 4 (.slice A m c) m (flat Line.cells res)) (hm : res.length = m) (hc : Chg (fun i => i = g ∨ i = g + 1 + 1) u u5) :
    OneHalf w ⟨p, bo, li, res, pe, mi⟩ (.returned (.agg #[.int .i64 p, .int .i64 bo, .int .i64 li, .slice A m c, .bool pe, .int .i64 mi])) u5 := by
  subst hm
  subst hg
  refine ⟨A, c, rfl, ?_, ?_, hbu.trans (hc.below (fun i h => by omega) hbu.size)⟩
  · obtain ⟨_, _, e, h⟩ := own_slice' hown
    cases e
    exact h
  · exact World.ownsRow.mono (own_chg hown hc fun i hi => by have := (hown.lt i hi).1; omega) (by omega)
set_option maxRecDepth 100000 in
set_option maxHeartbeats 4000000 in
theorem write_any (w : World) (p bo li : Int) (ls : List Line) (A : Option Addr) (c : Nat) (pe : Bool) (mi : Int) (nm : ByteArray) (ver wt fl : Int) (hn : ls.length ≤ 1000000000000) (hI : LinesAt w w.heap.size A ls.length ls) :
    Calls Try.prog 20 #[.agg #[.int .i64 p, .int .i64 bo, .int .i64 li, .slice A ls.length c, .bool pe, .int .i64 mi], .string nm, .agg #[.int .i64 ver, .int .i64 wt, .int .i64 fl]] w (OneHalf w ⟨p, bo, li, writeL ls nm ver wt fl, pe, mi⟩) := by
  obtain ⟨g, hg⟩ : ∃ g, g = w.heap.size := ⟨_, rfl⟩
  have hb0 : Below w.heap.size w (((w.alloc (.cells #[.int .i64 p, .int .i64 bo, .int .i64 li, .slice A ls.length c, .bool pe, .int .i64 mi] 24)).alloc (.cells #[.int .i64 ver, .int .i64 wt, .int .i64 fl] 29)).alloc (.cells #[.int .i64 0, .int .i64 0, .int .i64 0, .slice none 0 0, .bool false, .int .i64 0] 24)) := (((Below.refl _ w).alloc (Nat.le_refl _) _).alloc (by simp) _).alloc (by simp; omega) _
  have hB0 : Blk (((w.alloc (.cells #[.int .i64 p, .int .i64 bo, .int .i64 li, .slice A ls.length c, .bool pe, .int .i64 mi] 24)).alloc (.cells #[.int .i64 ver, .int .i64 wt, .int .i64 fl] 29)).alloc (.cells #[.int .i64 0, .int .i64 0, .int .i64 0, .slice none 0 0, .bool false, .int .i64 0] 24)) g 24 #[.int .i64 p, .int .i64 bo, .int .i64 li, .slice A ls.length c, .bool pe, .int .i64 mi] := by rw [hg]; exact ((Blk.new _ _ _).alloc _).alloc _
  have hR0 : Blk (((w.alloc (.cells #[.int .i64 p, .int .i64 bo, .int .i64 li, .slice A ls.length c, .bool pe, .int .i64 mi] 24)).alloc (.cells #[.int .i64 ver, .int .i64 wt, .int .i64 fl] 29)).alloc (.cells #[.int .i64 0, .int .i64 0, .int .i64 0, .slice none 0 0, .bool false, .int .i64 0] 24)) (g + 1) 29 #[.int .i64 ver, .int .i64 wt, .int .i64 fl] := (Blk.new' (by simp [hg])).alloc _
  have hZ0 : Blk (((w.alloc (.cells #[.int .i64 p, .int .i64 bo, .int .i64 li, .slice A ls.length c, .bool pe, .int .i64 mi] 24)).alloc (.cells #[.int .i64 ver, .int .i64 wt, .int .i64 fl] 29)).alloc (.cells #[.int .i64 0, .int .i64 0, .int .i64 0, .slice none 0 0, .bool false, .int .i64 0] 24)) (g + 1 + 1) 24 #[.int .i64 0, .int .i64 0, .int .i64 0, .slice none 0 0, .bool false, .int .i64 0] := Blk.new' (by simp [hg])
  obtain ⟨k, hk⟩ : ∃ k, seekL ls nm = k := ⟨_, rfl⟩
  have hkl : k ≤ ls.length := by rw [← hk]; exact seekL_le ls nm
  obtain ⟨z, hz⟩ : ∃ z, isZ ver wt fl = z := ⟨_, rfl⟩
  have hzR : Hid (∀ W, Sem.run Try.prog (binOp .eql 29 (.agg #[.int .i64 ver, .int .i64 wt, .int .i64 fl]) (.agg #[.int .i64 0, .int .i64 0, .int .i64 0])) W = .ok (.bool z) W) := Lib.hid (fun W => by rw [reg_eql, ← hz]; rfl)
  obtain ⟨b, hb⟩ : ∃ b, hasL ls nm = b := ⟨_, rfl⟩
  have hbl : b = true → ∃ hl : k < ls.length, ls[k].nm = nm := fun h => by
    obtain ⟨hl, e⟩ := hasL_lt (hb.trans h)
    subst hk
    exact ⟨hl, e⟩
  have hW : writeL ls nm ver wt fl = if b then ls.take k ++ ((if z then [] else [⟨nm, ver, wt, fl⟩]) ++ ls.drop (k + 1)) else if z = false ∧ ls.length < 8 then ls.take k ++ (⟨nm, ver, wt, fl⟩ :: ls.drop k) else ls := by
    rw [writeL, hk, hb, hz]
  obtain ⟨res, hres⟩ : ∃ l, writeL ls nm ver wt fl = l := ⟨_, rfl⟩
  rw [hres] at hW ⊢
  clear hres
  replace hW := Lib.hid hW
  replace hk := Lib.hid hk
  replace hb := Lib.hid hb
  replace hz := Lib.hid hz
  replace hbl := Lib.hid hbl
  go_enter Try.func20, Try.ntmps20
  go_wp2_with fail
  generalize ((w.alloc (.cells #[.int .i64 p, .int .i64 bo, .int .i64 li, .slice A ls.length c, .bool pe, .int .i64 mi] 24)).alloc (.cells #[.int .i64 ver, .int .i64 wt, .int .i64 fl] 29)).alloc (.cells #[.int .i64 0, .int .i64 0, .int .i64 0, .slice none 0 0, .bool false, .int .i64 0] 24) = W0 at *
  rw [← hg]
  have hs0 := hZ0.lt
  replace hg := Lib.hid hg
  refine (one_any _ p bo li ls A c pe mi (by omega) (Reads.more (Reads.below hI hb0) hb0.size)).mono ?_
  rintro e w1 ⟨A1, c1, rfl, hc1, hown, h1⟩
  have hB1 := hB0.below h1 hB0.lt
  have hR1 := hR0.below h1 hR0.lt
  have hZ1 := hZ0.below h1 hZ0.lt
  simp only [HV.val] at hown hc1 ⊢
  go_wp2_with ((with_reducible refine go_store_as (off := 0) (vs := #[.int .i64 p, .int .i64 bo, .int .i64 li, .slice A1 ls.length c1, .bool pe, .int .i64 mi]) #[.int .i64 p, .int .i64 bo, .int .i64 li, .slice A1 ls.length c1, .bool pe, .int .i64 mi] agg_Half hB1 ?b1 ?b2 ?b3 ?b4 ?b5 ?b6 ?_); (case b1 => rfl); (case b2 => rfl); (case b3 => rfl); (case b4 => simp); (case b5 => simp [Value.oneCell']); (case b6 => rfl); (intro w2 hB2 hC2; obtain ⟨k0, k1, k2, k3, k4, k5⟩ := cells6 hB2))
  have hown2 := own_chg hown hC2 (fun i hi => by have := (hown.lt i hi).1; omega)
  have hR2 := hR1.chg hC2 (by omega)
  have hZ2 := hZ1.chg hC2 (by omega)
  have hs1 := h1.size
  have hs2 := hC2.size
  have hb2 : Below w.heap.size w w2 := (hb0.trans (h1.mono hb0.size)).trans (hC2.below (fun i h => by have := hg.out; omega) (by have := hg.out; omega))
  refine (seekL_any _ p bo li A1 ls.length c1 ls pe mi nm (by omega) (Reads.of_own hown2)).mono ?_
  rw [hk.out, hb.out]
  rintro e w3 ⟨rfl, h3⟩
  have hB3 := hB2.below h3 hB2.lt
  have hR3 := hR2.below h3 hR2.lt
  have hZ3 := Lib.hid (hZ2.below h3 hZ2.lt)
  have hown3 := Lib.hid (own_below hown2 h3 fun i hi => (hown2.lt i hi).2)
  have hb3 := hb2.trans (h3.mono hb2.size)
  have hs3 : W0.heap.size ≤ w3.heap.size := by have := h3.size; omega
  clear hB0 hR0 hZ0 h1 hB1 hR1 hZ1 hown hC2 hB2 hR2 hZ2 h3 hown2 k0 k1 k2 k3 k4 k5 hb2 hs1 hs2 hI
  obtain ⟨k0, k1, k2, k3, k4, k5⟩ := cells6 hB3
  have r0 := hR3.cell 0
  have r1 := hR3.cell 1
  have r2 := hR3.cell 2
  simp only [List.getElem?_toArray, List.getElem?_cons_zero, List.getElem?_cons_succ] at r0 r1 r2
  have f3 := hB3.frozen 3
  replace hB3 := Lib.hid hB3
  replace hR3 := Lib.hid hR3
  have hNZ := Lib.hid (reg_nz ver wt fl hz.out)
  have ew1 : IntKind.i64.wrap ((k : Int) + 1) = (k : Int) + 1 := by rw [IntKind.wrap_i64]; omega
  have hone := Lib.hid (flat_one _ Line.one ls)
  have hlen : (flat Line.cells ls).length = ls.length * 4 := flat_length _ Line.len ls
  replace hlen := Lib.hid hlen
  cases b
  · by_cases hcc : z = false ∧ ls.length < 8
    · obtain ⟨rfl, hl8⟩ := hcc
      have hl8' : (ls.length : Int) < 8 := by omega
      have hNE := hNZ.out
      have hres : res = ls.take k ++ (⟨nm, ver, wt, fl⟩ :: ls.drop k) := by have := hW.out; rw [if_neg (by simp), if_pos ⟨rfl, hl8⟩] at this; exact this
      have hrl : res.length = ls.length + 1 := by rw [hres, List.length_append, List.length_cons, List.length_take, List.length_drop]; omega
      have hfl : (flat Line.cells ls).take (k * 4) ++ [.string nm, .int .i64 ver, .int .i64 wt, .int .i64 fl] ++ (flat Line.cells ls).drop (k * 4) = flat Line.cells res := by
        rw [flat_take _ Line.len, flat_drop _ Line.len, hres, flat_append, flat_cons, List.append_assoc]; rfl
      replace hfl := Lib.hid hfl
      replace hrl := Lib.hid hrl
      clear hres
      have hne : ∀ ad, A1 = some ad → ad.block < w3.heap.size := fun ad h => by
        obtain ⟨A', c', e, -, h2⟩ := own_slice hown3.out
        cases e
        rcases h2 with h2 | ⟨g', h2, -, h3⟩
        · rw [h2] at h; cases h
        · rw [h2] at h; cases h; exact h3
      replace hne := Lib.hid hne
      go_wp2_with fail
      refine (insert_ownL _ W0.heap.size A1 ls.length c1 k w3.heap.size _ [.string nm, .int .i64 ver, .int .i64 wt, .int .i64 fl] (own_below hown3.out ((Below.refl _ w3).alloc (Nat.le_refl _) _) fun i hi => (hown3.out.lt i hi).2) (by simp; omega) hkl hn (Blk.new _ _ _) rfl (fun ad h => by have := hne.out ad h; omega) (by simp [Value.oneCell']) hone.out).mono ?_
      rintro e w4 ⟨v4, rfl, hown4, h4⟩
      rw [hfl.out] at hown4
      obtain ⟨A4, c4, rfl, hc4⟩ := own_slice' hown4
      have h4' : Below W0.heap.size w3 w4 := ((Below.refl _ w3).alloc hs3 _).trans h4
      have hB4 := hB3.out.below h4' (by omega)
      have hZ4 := Lib.hid ((hZ3.out.below h4' (by omega)).far (p := ⟨g, 3, none⟩) (by show g + 1 + 1 ≠ g; omega) (.slice A4 (ls.length + 1) c4))
      have hb4 := hb3.trans (h4'.mono (by have := hg.out; omega))
      replace hown4 := Lib.hid hown4
      clear h4 h4' k0 k1 k2 k3 k4 k5 f3 r0 r1 r2 hNE
      obtain ⟨k0, k1, k2, k3, k4, k5⟩ := cells6 hB4
      have f3 := hB4.frozen 3
      clear hB4
      go_wp2_with ((with_reducible refine go_store_as (off := 0) (vs := #[.int .i64 p, .int .i64 bo, .int .i64 li, .slice A4 (ls.length + 1) c4, .bool pe, .int .i64 mi]) #[.int .i64 p, .int .i64 bo, .int .i64 li, .slice A4 (ls.length + 1) c4, .bool pe, .int .i64 mi] agg_Half hZ4.out ?b1 ?b2 ?b3 ?b4 ?b5 ?b6 ?_); (case b1 => rfl); (case b2 => rfl); (case b3 => rfl); (case b4 => simp); (case b5 => simp [Value.oneCell']); (case b6 => rfl); (intro w5 hB5 hC5))
      refine bodyPost_ret (results_blk rfl agg_Half hB5 rfl) rfl ?_
      exact write_fin hg.out hs0 hb4 hown4.out hrl.out ((((Chg.refl (· = g) w4).setCell (p := ⟨g, 3, none⟩) (fun _ => rfl) _).mono (fun i h => .inl h)).trans (hC5.mono (fun i h => .inr h)))
    · have hres : res = ls := by have := hW.out; rw [if_neg hcc] at this; simpa using this
      subst hres
      have hrl : Hid (res.length = res.length) := Lib.hid rfl
      have hNE := hNZ.out
      cases z
      · have hl8 : ¬ (res.length : Int) < 8 := by have : ¬ res.length < 8 := fun h => hcc ⟨rfl, h⟩; omega
        go_wp2_with ((with_reducible refine go_store_as (off := 0) (vs := #[.int .i64 p, .int .i64 bo, .int .i64 li, .slice A1 res.length c1, .bool pe, .int .i64 mi]) #[.int .i64 p, .int .i64 bo, .int .i64 li, .slice A1 res.length c1, .bool pe, .int .i64 mi] agg_Half hZ3.out ?b1 ?b2 ?b3 ?b4 ?b5 ?b6 ?_); (case b1 => rfl); (case b2 => rfl); (case b3 => rfl); (case b4 => simp); (case b5 => simp [Value.oneCell']); (case b6 => rfl); (intro w5 hB5 hC5))
        refine bodyPost_ret (results_blk rfl agg_Half hB5 rfl) rfl ?_
        exact write_fin hg.out hs0 hb3 hown3.out rfl (hC5.mono (fun i h => .inr h))
      · go_wp2_with ((with_reducible refine go_store_as (off := 0) (vs := #[.int .i64 p, .int .i64 bo, .int .i64 li, .slice A1 res.length c1, .bool pe, .int .i64 mi]) #[.int .i64 p, .int .i64 bo, .int .i64 li, .slice A1 res.length c1, .bool pe, .int .i64 mi] agg_Half hZ3.out ?b1 ?b2 ?b3 ?b4 ?b5 ?b6 ?_); (case b1 => rfl); (case b2 => rfl); (case b3 => rfl); (case b4 => simp); (case b5 => simp [Value.oneCell']); (case b6 => rfl); (intro w5 hB5 hC5))
        refine bodyPost_ret (results_blk rfl agg_Half hB5 rfl) rfl ?_
        exact write_fin hg.out hs0 hb3 hown3.out rfl (hC5.mono (fun i h => .inr h))
  · obtain ⟨hl, hnm⟩ := hbl.out rfl
    have hl' : (k : Int) < (res.length : Int) ∨ True := .inr trivial
    clear hl'
    cases z
    · have hzE := hzR.out
      have hres : res = ls.take k ++ (⟨nm, ver, wt, fl⟩ :: ls.drop (k + 1)) := by have := hW.out; simpa using this
      have hrl : res.length = ls.length := by rw [hres, List.length_append, List.length_cons, List.length_take, List.length_drop]; omega
      obtain ⟨g1, rfl⟩ : ∃ g1, A1 = some ⟨g1, 0, none⟩ := by
        rcases hown3.out.2 with ⟨_, h2⟩ | ⟨g', cap, cur, e, _⟩
        · omega
        · cases e; exact ⟨_, rfl⟩
      obtain ⟨cur, hG1, hg1, hnc, hcm, hcl, hcx⟩ := own_blk hown3.out
      have hk4 : k * 4 + 4 ≤ ls.length * 4 := by omega
      have hcl4 : ls.length * 4 ≤ c1 * 4 := Nat.mul_le_mul_right _ hnc
      have hl' : (k : Int) < (ls.length : Int) := by omega
      have hnmc : cur[k * 4]? = some (.string nm) := by
        have h1 := flat_at Line.cells Line.len ls k hl 0 (by omega)
        rw [← hcx, List.getElem?_take, if_pos (by omega)] at h1
        rw [Nat.add_zero] at h1
        rw [h1, hnm.symm]
        rfl
      have hfl : (cur.take (k * 4 + 1) ++ [Value.int .i64 ver, .int .i64 wt, .int .i64 fl] ++ cur.drop (k * 4 + 1 + 3)).take (ls.length * 4) = flat Line.cells res := by
        have e1 : cur.take (k * 4 + 1) = cur.take (k * 4) ++ [.string nm] := by rw [List.take_add_one, hnmc]; rfl
        have e2 := take_put (cur := cur) (xs := flat Line.cells ls) (vs := [Value.string nm, .int .i64 ver, .int .i64 wt, .int .i64 fl]) (size := 4) hl hcx (by omega) rfl
        rw [e1, List.append_assoc (cur.take (k * 4)), show ([Value.string nm] ++ [Value.int .i64 ver, .int .i64 wt, .int .i64 fl]) = [Value.string nm, .int .i64 ver, .int .i64 wt, .int .i64 fl] from rfl, show k * 4 + 1 + 3 = k * 4 + 4 by omega, e2, hres, flat_append, flat_cons, ← flat_take _ Line.len, ← flat_drop _ Line.len, show (k + 1) * 4 = k * 4 + 4 by omega, List.append_assoc]
        rfl
      have hcl' : (cur.take (k * 4 + 1) ++ [Value.int .i64 ver, .int .i64 wt, .int .i64 fl] ++ cur.drop (k * 4 + 1 + 3)).length = c1 * 4 := by simp only [List.length_append, List.length_take, List.length_drop, List.length_cons, List.length_nil]; omega
      have hgg : g ≠ g1 := by omega
      have hgz : g + 1 + 1 ≠ g1 := by omega
      replace hfl := Lib.hid hfl
      replace hrl := Lib.hid hrl
      replace hcl' := Lib.hid hcl'
      replace hnmc := Lib.hid hnmc
      replace hcx := Lib.hid hcx
      replace hcl := Lib.hid hcl
      clear hres
      go_wp2_with (first
        | ((with_reducible refine go_store_as (off := k * 4 + 1) (vs := #[.int .i64 ver, .int .i64 wt, .int .i64 fl]) (cur.take (k * 4 + 1) ++ [Value.int .i64 ver, .int .i64 wt, .int .i64 fl] ++ cur.drop (k * 4 + 1 + 3)).toArray agg_Reg hG1 ?b1 ?b2 ?b3 ?b4 ?b5 ?b6 ?_); (case b1 => rfl); (case b2 => rfl); (case b3 => rfl); (case b4 => (have := hcl.out; rw [List.size_toArray]; omega)); (case b5 => simp [Value.oneCell']); (case b6 => rfl); (intro w4 hB4 hC4; obtain ⟨y0, y1, y2, y3, y4, y5⟩ := cells6 (hB3.out.chg hC4 hgg)))
        | ((with_reducible refine go_store_as (off := 0) (vs := #[.int .i64 p, .int .i64 bo, .int .i64 li, .slice (some ⟨g1, 0, none⟩) ls.length c1, .bool pe, .int .i64 mi]) #[.int .i64 p, .int .i64 bo, .int .i64 li, .slice (some ⟨g1, 0, none⟩) ls.length c1, .bool pe, .int .i64 mi] agg_Half (hZ3.out.chg hC4 hgz) ?b1 ?b2 ?b3 ?b4 ?b5 ?b6 ?_); (case b1 => rfl); (case b2 => rfl); (case b3 => rfl); (case b4 => simp); (case b5 => simp [Value.oneCell']); (case b6 => rfl); (intro w5 hB5 hC5)))
      refine bodyPost_ret (results_blk rfl agg_Half hB5 rfl) rfl ?_
      have hb4 : Below w.heap.size w w4 := hb3.trans (hC4.below (fun i h => by have := hg.out; omega) (by have := hg.out; omega))
      have hown4 : w4.ownsRow W0.heap.size 44 4 (.slice (some ⟨g1, 0, none⟩) ls.length c1) ls.length (flat Line.cells res) := own_of_blk hB4 hg1 hnc hcm hcl'.out hfl.out
      exact write_fin hg.out hs0 hb4 hown4 hrl.out (hC5.mono (fun i h => .inr h))
    · have hzE := hzR.out
      have hres : res = ls.take k ++ ls.drop (k + 1) := by have := hW.out; simpa using this
      have hrl : res.length = ls.length - 1 := by rw [hres, List.length_append, List.length_take, List.length_drop]; omega
      have hfl : (flat Line.cells ls).take (k * 4) ++ (flat Line.cells ls).drop ((k + 1) * 4) = flat Line.cells res := by rw [flat_take _ Line.len, flat_drop _ Line.len, ← flat_append, ← hres]
      replace hfl := Lib.hid hfl
      replace hrl := Lib.hid hrl
      clear hres
      go_wp2_with fail
      refine (deleteL_own _ W0.heap.size A1 ls.length c1 k _ hown3.out hl hn hone.out).mono ?_
      rintro e w4 ⟨v4, rfl, hown4, h4⟩
      rw [hfl.out] at hown4
      obtain ⟨A4, c4, rfl, hc4⟩ := own_slice' hown4
      have hB4 := hB3.out.below h4 (by omega)
      have hZ4 := Lib.hid ((hZ3.out.below h4 (by omega)).far (p := ⟨g, 3, none⟩) (by show g + 1 + 1 ≠ g; omega) (.slice A4 (ls.length - 1) c4))
      have hb4 := hb3.trans (h4.mono (by have := hg.out; omega))
      replace hown4 := Lib.hid hown4
      clear h4 k0 k1 k2 k3 k4 k5 f3 r0 r1 r2 hzE
      obtain ⟨k0, k1, k2, k3, k4, k5⟩ := cells6 hB4
      have f3 := hB4.frozen 3
      clear hB4
      go_wp2_with ((with_reducible refine go_store_as (off := 0) (vs := #[.int .i64 p, .int .i64 bo, .int .i64 li, .slice A4 (ls.length - 1) c4, .bool pe, .int .i64 mi]) #[.int .i64 p, .int .i64 bo, .int .i64 li, .slice A4 (ls.length - 1) c4, .bool pe, .int .i64 mi] agg_Half hZ4.out ?b1 ?b2 ?b3 ?b4 ?b5 ?b6 ?_); (case b1 => rfl); (case b2 => rfl); (case b3 => rfl); (case b4 => simp); (case b5 => simp [Value.oneCell']); (case b6 => rfl); (intro w5 hB5 hC5))

      refine bodyPost_ret (results_blk rfl agg_Half hB5 rfl) rfl ?_
      exact write_fin hg.out hs0 hb4 hown4.out hrl.out ((((Chg.refl (· = g) w4).setCell (p := ⟨g, 3, none⟩) (fun _ => rfl) _).mono (fun i h => .inl h)).trans (hC5.mono (fun i h => .inr h)))

end Go.Proofs.Ytogkcokgcoookaa
