/-
  Layer 10 (half): the document's Write.
-/
import Derived.Test.YtogkcokgcoookaaHalfWr
import Derived.Test.YtogkcokgcoookaaHalfY
import Derived.Test.YtogkcokgcoookaaHalfR
import Derived.Test.YtogkcokgcoookaaHalfFit
namespace Go.Proofs.Ytogkcokgcoookaa
open Go.ChangeShapes Go.WideShapes Go.ChangeAt Go.RowKit Go.Shelf Go.Ed

/-- append, as one operation -/
theorem op_append {P : Program} {w : World} {o : Oper} {a : Act} {K : Act → World → Prop} {Q : Exit → Act → World → Prop} (s x : Operand) (t : TypeId)
    (ho : o.op = .call { callee := .builtin .append, args := #[s, x], argTypes := #[t, t] })
    {base : Nat} {e : TypeId} {z : Value} {size bytes : Nat} (ht : P.underlying t = some (.slice e)) (hI : Inf P e z size bytes) (hzs : z.cells.size = size) (hsz : 0 < size)
    {v : Value} {n : Nat} {xs : List Value} (hs : a.eval s = v) (hown : w.ownsRow base e size v n xs)
    {B : Nat} {A : Option Addr} {m c : Nat} {news : List Value} (hx : a.eval x = .slice A m c) (hr : Reads w B size A m news) (h1 : ∀ u ∈ news, u.oneCell' = true)
    (h63 : n + m ≤ maxLen) (hbytes : (n + m) * bytes ≤ 140737488355328) (hbase : base ≤ w.heap.size)
    (h : ∀ v' w', w'.ownsRow base e size v' (n + m) (xs ++ news) → Below base w w' → w.grownBy w' v.ownBlock → K (a.put o.dst v') w') : o.wp P a w K Q := by
  obtain ⟨i, hi, hz, hsize, hby⟩ := hI
  exact wp_append_any w s x t ho base e i z size bytes ht hi hz hsize hby hzs hsz v n xs hs hown B A m c news hx hr h1 h63 hbytes hbase fun v' w' h2 h3 _ => h v' w' h2 ((Below.refl _ _).grown h3 hbase fun k hk => (hown.lt k hk).1) h3

/-- where a slice that begins at line j points -/
def fromA (A : Option Addr) (c j : Nat) : Option Addr := match A with
  | none => none
  | some ad => if c = j then some ad else some (ad.add (j * 4))
theorem reads_from {W : World} {B : Nat} {A : Option Addr} {c j : Nat} {ls : List Line} (hI : LinesAt W B A ls.length ls) (hc : ls.length ≤ c) (hj : j ≤ ls.length) : Reads W B 4 (fromA A c j) (ls.length - j) (flat Line.cells (ls.drop j)) := by
  by_cases h : j < ls.length
  · obtain ⟨b, off, rfl, _, _⟩ := LinesAt.form hI (by omega)
    exact reads_suffix Line.len hI hj rfl (fun _ => by simp [fromA, show ¬ c = j by omega, ed_add_plain])
  · obtain rfl : j = ls.length := by omega
    refine ⟨by simp [flat], fun h => by omega⟩
/-- what stands while the document's Write is under way -/
structure Writ (w wr : World) (g gc : Nat) (hc rc cc : Array Value) : Prop where
  b0 : Blk wr g 24 hc
  b1 : Blk wr (g + 1) 29 rc
  b2 : Blk wr (g + 1 + 1) 24 #[.int .i64 0, .int .i64 0, .int .i64 0, .slice none 0 0, .bool false, .int .i64 0]
  b3 : Blk wr gc 24 cc
  bel : Below w.heap.size w wr
  sz : gc + 1 ≤ wr.heap.size
theorem Writ.next {w wr W : World} {g gc : Nat} {hc rc cc : Array Value} (h : Writ w wr g gc hc rc cc) (hg : g + 1 + 1 < gc) (hw : w.heap.size ≤ gc) (hb : Below (gc + 1) wr W) : Writ w W g gc hc rc cc :=
  ⟨h.b0.below hb (by omega), h.b1.below hb (by omega), h.b2.below hb (by omega), h.b3.below hb (by omega), h.bel.trans (hb.mono (by omega)), Nat.le_trans h.sz hb.size⟩
theorem Writ.put {w wr : World} {g gc : Nat} {hc rc cc : Array Value} (h : Writ w wr g gc hc rc cc) (hg : g + 1 + 1 < gc) (hw : w.heap.size ≤ gc) (u : Value) : Writ w (wr.setCell ⟨gc, 3, none⟩ u) g gc hc rc (cc.setIfInBounds 3 u) :=
  ⟨h.b0.far (by show g ≠ gc; omega) _, h.b1.far (by show g + 1 ≠ gc; omega) _, h.b2.far (by show g + 1 + 1 ≠ gc; omega) _, h.b3.set_ 3 u, h.bel.setCell (p := ⟨gc, 3, none⟩) hw _, by have := h.sz; simpa using this⟩

set_option maxRecDepth 100000 in
set_option maxHeartbeats 8000000 in
theorem refWrite_any (w : World) (p bo li : Int) (ls : List Line) (A : Option Addr) (c : Nat) (pe : Bool) (mi : Int) (nm : ByteArray) (ver wt fl : Int) (hn : ls.length ≤ 1000000000000) (hc : ls.length ≤ c) (hI : LinesAt w w.heap.size A ls.length ls) :
    Calls Try.prog 21 #[.agg #[.int .i64 p, .int .i64 bo, .int .i64 li, .slice A ls.length c, .bool pe, .int .i64 mi], .string nm, .agg #[.int .i64 ver, .int .i64 wt, .int .i64 fl]] w (OneHalf w ⟨p, bo, li, writeL ls nm ver wt fl, pe, mi⟩) := by
  obtain ⟨g, hg⟩ : ∃ g, g = w.heap.size := ⟨_, rfl⟩
  have hb0 : Below w.heap.size w (((w.alloc (.cells #[.int .i64 p, .int .i64 bo, .int .i64 li, .slice A ls.length c, .bool pe, .int .i64 mi] 24)).alloc (.cells #[.int .i64 ver, .int .i64 wt, .int .i64 fl] 29)).alloc (.cells #[.int .i64 0, .int .i64 0, .int .i64 0, .slice none 0 0, .bool false, .int .i64 0] 24)) := (((Below.refl _ w).alloc (Nat.le_refl _) _).alloc (by simp) _).alloc (by simp; omega) _
  have hB0 : Blk (((w.alloc (.cells #[.int .i64 p, .int .i64 bo, .int .i64 li, .slice A ls.length c, .bool pe, .int .i64 mi] 24)).alloc (.cells #[.int .i64 ver, .int .i64 wt, .int .i64 fl] 29)).alloc (.cells #[.int .i64 0, .int .i64 0, .int .i64 0, .slice none 0 0, .bool false, .int .i64 0] 24)) g 24 #[.int .i64 p, .int .i64 bo, .int .i64 li, .slice A ls.length c, .bool pe, .int .i64 mi] := by rw [hg]; exact ((Blk.new _ _ _).alloc _).alloc _
  have hR0 : Blk (((w.alloc (.cells #[.int .i64 p, .int .i64 bo, .int .i64 li, .slice A ls.length c, .bool pe, .int .i64 mi] 24)).alloc (.cells #[.int .i64 ver, .int .i64 wt, .int .i64 fl] 29)).alloc (.cells #[.int .i64 0, .int .i64 0, .int .i64 0, .slice none 0 0, .bool false, .int .i64 0] 24)) (g + 1) 29 #[.int .i64 ver, .int .i64 wt, .int .i64 fl] := (Blk.new' (by simp [hg])).alloc _
  have hZ0 : Blk (((w.alloc (.cells #[.int .i64 p, .int .i64 bo, .int .i64 li, .slice A ls.length c, .bool pe, .int .i64 mi] 24)).alloc (.cells #[.int .i64 ver, .int .i64 wt, .int .i64 fl] 29)).alloc (.cells #[.int .i64 0, .int .i64 0, .int .i64 0, .slice none 0 0, .bool false, .int .i64 0] 24)) (g + 1 + 1) 24 #[.int .i64 0, .int .i64 0, .int .i64 0, .slice none 0 0, .bool false, .int .i64 0] := Blk.new' (by simp [hg])
  obtain ⟨z, hz⟩ : ∃ z, isZ ver wt fl = z := ⟨_, rfl⟩
  obtain ⟨res, hres⟩ : ∃ l, writeL ls nm ver wt fl = l := ⟨_, rfl⟩
  rw [hres]
  rw [writeL, hz] at hres
  replace hres := Lib.hid hres
  replace hz := Lib.hid hz
  go_enter Try.func21, Try.ntmps21
  go_wp2_with fail
  generalize ((w.alloc (.cells #[.int .i64 p, .int .i64 bo, .int .i64 li, .slice A ls.length c, .bool pe, .int .i64 mi] 24)).alloc (.cells #[.int .i64 ver, .int .i64 wt, .int .i64 fl] 29)).alloc (.cells #[.int .i64 0, .int .i64 0, .int .i64 0, .slice none 0 0, .bool false, .int .i64 0] 24) = W0 at *
  rw [← hg]
  replace hg := Lib.hid hg
  have hs0 := hZ0.lt
  refine (refOne_any _ p bo li ls A c pe mi (by omega) (Reads.more (Reads.below hI hb0) hb0.size)).mono ?_
  rintro e w1 ⟨A1, c1, rfl, hc1, hown, h1⟩
  simp only [HV.val]
  have hN1 : Blk (w1.alloc (.cells #[.int .i64 0, .int .i64 0, .int .i64 0, .slice none 0 0, .bool false, .int .i64 0] 24)) w1.heap.size 24 #[.int .i64 0, .int .i64 0, .int .i64 0, .slice none 0 0, .bool false, .int .i64 0] := Blk.new _ _ _
  have hB1 := Lib.hid ((hB0.below h1 hB0.lt).alloc (.cells #[.int .i64 0, .int .i64 0, .int .i64 0, .slice none 0 0, .bool false, .int .i64 0] 24))
  have hR1 := Lib.hid ((hR0.below h1 hR0.lt).alloc (.cells #[.int .i64 0, .int .i64 0, .int .i64 0, .slice none 0 0, .bool false, .int .i64 0] 24))
  have hZ1 := Lib.hid ((hZ0.below h1 hZ0.lt).alloc (.cells #[.int .i64 0, .int .i64 0, .int .i64 0, .slice none 0 0, .bool false, .int .i64 0] 24))
  have hb1 := Lib.hid (hb0.trans (h1.mono hb0.size))
  have hs1 := h1.size
  clear hown hc1 h1 hb0 hB0 hR0 hZ0
  go_wp2_with ((with_reducible refine go_store_as (off := 0) (vs := #[.int .i64 p, .int .i64 bo, .int .i64 li, .slice A1 ls.length c1, .bool pe, .int .i64 mi]) #[.int .i64 p, .int .i64 bo, .int .i64 li, .slice A1 ls.length c1, .bool pe, .int .i64 mi] agg_Half hN1 ?b1 ?b2 ?b3 ?b4 ?b5 ?b6 ?_); (case b1 => rfl); (case b2 => rfl); (case b3 => rfl); (case b4 => simp); (case b5 => simp [Value.oneCell']); (case b6 => rfl); (intro w2 hB2 hC2; obtain ⟨k0, k1, k2, k3, k4, k5⟩ := cells6 hB2; have f3 := hB2.frozen 3))
  have hgl : g < w1.heap.size := by omega
  have hgl2 : g + 1 + 1 < w1.heap.size := by omega
  have hsz : (w1.alloc (.cells #[.int .i64 0, .int .i64 0, .int .i64 0, .slice none 0 0, .bool false, .int .i64 0] 24)).heap.size = w1.heap.size + 1 := by simp
  have hBc : Blk (w2.setCell ⟨w1.heap.size, 3, none⟩ (.slice none 0 0)) w1.heap.size 24 #[.int .i64 p, .int .i64 bo, .int .i64 li, .slice none 0 0, .bool pe, .int .i64 mi] := hB2.set_ 3 _
  have hB3 := Lib.hid ((hB1.out.chg hC2 (by omega)).far (p := ⟨w1.heap.size, 3, none⟩) (by show g ≠ w1.heap.size; omega) (.slice none 0 0))
  have hR3 := Lib.hid ((hR1.out.chg hC2 (by omega)).far (p := ⟨w1.heap.size, 3, none⟩) (by show g + 1 ≠ w1.heap.size; omega) (.slice none 0 0))
  have hZ3 := Lib.hid ((hZ1.out.chg hC2 (by omega)).far (p := ⟨w1.heap.size, 3, none⟩) (by show g + 1 + 1 ≠ w1.heap.size; omega) (.slice none 0 0))
  have hb2 : Below w.heap.size w (w2.setCell ⟨w1.heap.size, 3, none⟩ (.slice none 0 0)) := (((hb1.out.alloc hb1.out.size _).trans (hC2.below (fun i h => by subst h; exact hb1.out.size) (by rw [hsz]; have := hb1.out.size; omega)))).setCell (p := ⟨w1.heap.size, 3, none⟩) hb1.out.size _
  have hlc := hBc.lt
  have hgc1 : w1.heap.size + 1 ≤ (w2.setCell ⟨w1.heap.size, 3, none⟩ (.slice none 0 0)).heap.size := by omega
  clear hB1 hR1 hZ1 hC2 hB2 hN1 k0 k1 k2 k3 k4 k5 f3 hb1 hsz
  generalize w2.setCell ⟨w1.heap.size, 3, none⟩ (.slice none 0 0) = W3 at *
  have hwg : w.heap.size ≤ w1.heap.size := by have := hg.out; omega
  generalize w1.heap.size = gc at *
  have hW : Writ w W3 g gc #[.int .i64 p, .int .i64 bo, .int .i64 li, .slice A ls.length c, .bool pe, .int .i64 mi] #[.int .i64 ver, .int .i64 wt, .int .i64 fl] #[.int .i64 p, .int .i64 bo, .int .i64 li, .slice none 0 0, .bool pe, .int .i64 mi] := ⟨hB3.out, hR3.out, hZ3.out, hBc, hb2, hgc1⟩
  clear hB3 hR3 hZ3 hBc hb2 hgc1 hs1 hs0 hlc
  go_loopw [8] (fun i wr => ∃ (k : Nat) (A2 : Option Addr) (c2 : Nat), k ≤ ls.length ∧ i = .int .i64 k ∧ (∀ j (hj : j < ls.length), j < k → lineLt ls[j] nm = true) ∧ wr.ownsRow (gc + 1) 44 4 (.slice A2 k c2) k (flat Line.cells (ls.take k)) ∧ Writ w wr g gc #[.int .i64 p, .int .i64 bo, .int .i64 li, .slice A ls.length c, .bool pe, .int .i64 mi] #[.int .i64 ver, .int .i64 wt, .int .i64 fl] #[.int .i64 p, .int .i64 bo, .int .i64 li, .slice A2 k c2, .bool pe, .int .i64 mi]) (fun i _ => ls.length - (intOf i).toNat)
  case atStart => exact ⟨0, none, 0, Nat.zero_le _, rfl, fun j _ h => by omega, World.ownsRow_nil _ _ _ _, hW⟩
  case round =>
    obtain ⟨k, A2, c2, hk, rfl, hlow, hown, hW⟩ := hrel
    replace hlow := Lib.hid hlow
    have k3 := hW.b0.cell 3
    have kc := hW.b3.cell 3
    simp only [List.getElem?_toArray, List.getElem?_cons_zero, List.getElem?_cons_succ] at k3 kc
    by_cases hlt : k < ls.length
    · have hlt' : (k : Int) < (ls.length : Int) := by omega
      obtain ⟨b, off, rfl, hbl, hxx⟩ := LinesAt.form (Reads.below hI hW.bel) (by omega)
      obtain ⟨q0, q1, q2, q3⟩ := hxx k hlt
      obtain ⟨x, hx⟩ : ∃ x, ls[k] = x := ⟨_, rfl⟩
      rw [hx] at q0 q1 q2 q3
      replace hx := Lib.hid hx
      clear hxx
      obtain ⟨lt, hltx⟩ : ∃ t, Op.bytesLess x.nm.toList nm.toList = t := ⟨_, rfl⟩
      cases lt
      · have hseek : seekL ls nm = k := seekL_eq hk hlow.out (fun hk' => by rw [hx.out]; exact hltx)
        replace hW := Lib.hid hW
        replace hseek := Lib.hid hseek
        replace hown := Lib.hid hown
        obtain ⟨r0, r1, r2⟩ : _ ∧ _ ∧ _ := ⟨hW.out.b1.cell 0, hW.out.b1.cell 1, hW.out.b1.cell 2⟩
        simp only [List.getElem?_toArray, List.getElem?_cons_zero, List.getElem?_cons_succ] at r0 r1 r2
        obtain ⟨th, hth⟩ : ∃ t, (x.nm.toList == nm.toList) = t := ⟨_, rfl⟩
        have hhas : Hid (hasL ls nm = th) := Lib.hid (by unfold hasL; rw [hseek.out, List.getElem?_eq_getElem hlt, hx.out]; exact hth)
        cases th
        · have hzR := reg_nz ver wt fl hz.out
          cases z
          · by_cases h8 : ls.length < 8
            · have h8' : ¬ (8 : Int) ≤ (ls.length : Int) := by omega
              have hoU := own_below hown.out ((Below.refl wr.heap.size wr).alloc (Nat.le_refl _) (.cells #[.string nm, .int .i64 ver, .int .i64 wt, .int .i64 fl] 44)) (fun i hi => (hown.out.lt i hi).2)
              have hNU : Blk (wr.alloc (.cells #[.string nm, .int .i64 ver, .int .i64 wt, .int .i64 fl] 44)) wr.heap.size 44 #[.string nm, .int .i64 ver, .int .i64 wt, .int .i64 fl] := Blk.new _ _ _
              have hrU : Reads (wr.alloc (.cells #[.string nm, .int .i64 ver, .int .i64 wt, .int .i64 fl] 44)) (wr.alloc (.cells #[.string nm, .int .i64 ver, .int .i64 wt, .int .i64 fl] 44)).heap.size 4 (some ⟨wr.heap.size, 0, none⟩) 1 (Line.cells ⟨nm, ver, wt, fl⟩) := Reads.of_blk hNU rfl (fun j u h => by simpa [Line.cells] using h)
              have hWU := Lib.hid (hW.out.next hgl2 hwg ((Below.refl (gc + 1) wr).alloc hW.out.sz (.cells #[.string nm, .int .i64 ver, .int .i64 wt, .int .i64 fl] 44)))
              have ew : IntKind.i64.wrap ((k : Int) + 1) = ((k + 1 : Nat) : Int) := by rw [IntKind.wrap_i64]; omega
              go_wp2_with ((with_reducible refine go_append_at (c := 1) line_slice line_inf hoU hrU (Line.one _) ?a0 ?a1 ?a2 ?a3 ?a4 ?a5 ?a6 ?_); (case a0 => exact hWU.out.sz); (case a1 => rfl); (case a2 => rfl); (case a3 => rfl); (case a4 => omega); (case a5 => unfold maxLen; omega); (case a6 => omega); rintro v4 w4 g1 g2 - -; obtain ⟨A4, c4, rfl, hc4⟩ := own_slice' g1; have hWx := Lib.hid (hWU.out.next hgl2 hwg g2); have kx := hWx.out.b3.cell 3; simp only [List.getElem?_toArray, List.getElem?_cons_zero, List.getElem?_cons_succ] at kx; have fx := hWx.out.b3.frozen 3; clear g2)
              have hWv := Lib.hid (show Writ w _ g gc _ _ #[.int .i64 p, .int .i64 bo, .int .i64 li, .slice A4 (k + 1) c4, .bool pe, .int .i64 mi] from hWx.out.put hgl2 hwg (.slice A4 (k + 1) c4))
              have hov := own_chg g1 ((Chg.refl (· = gc) w4).setCell (p := ⟨gc, 3, none⟩) (fun _ => rfl) (.slice A4 (k + 1) c4)) (fun i hi => by have := (g1.lt i hi).1; omega)
              clear g1 hWx kx fx hrU hNU hoU hWU hzR k3 kc
              generalize w4.setCell ⟨gc, 3, none⟩ (.slice A4 (k + 1) c4) = Wv at *
              have hjl : k ≤ ls.length := by omega
              have kv := hWv.out.b3.cell 3
              have kg := hWv.out.b0.cell 3
              simp only [List.getElem?_toArray, List.getElem?_cons_zero, List.getElem?_cons_succ] at kv kg
              have hrv := reads_from (LinesAt.below hI (hWv.out.bel.trans ((Below.refl _ Wv).drew.mono hWv.out.bel.size))) hc hjl
              have hjz : ¬ ls.length < k := by omega
              have hjc : k ≤ c := by omega
              have hAn : Hid ((some ⟨b, off, none⟩ : Option Addr) = none → ls.length = 0) := Lib.hid (LinesAt.none hI)
              refine wp_region_held_drew (S := fun W => Below gc Wv W) (by kernel_rfl) ((Below.refl _ _).drew) (fun hS0 => ?_)
              (refine wpAnyH_take (i := 0) (oi := ⟨some 84, _, _, _, _, _⟩) rfl (by kernel_rfl) (by kernel_rfl) (by kernel_rfl) (fun _ _ _ h => h) (.inl ⟨rfl, fun _ _ => rfl⟩) (by assumption) ?_); try simp only [Act.put, List.setIfInBounds_toArray, List.set_cons_zero, List.set_cons_succ]
              (refine wpAnyH_take (i := 2) (oi := ⟨some 86, _, _, _, _, _⟩) rfl (by kernel_rfl) (by kernel_rfl) (by kernel_rfl) (fun _ _ _ h => h) (.inl ⟨rfl, fun _ _ => rfl⟩) (by assumption) ?_); try simp only [Act.put, List.setIfInBounds_toArray, List.set_cons_zero, List.set_cons_succ]
              (refine wpAnyH_take (i := 3) (oi := ⟨some 87, _, _, _, _, _⟩) rfl (by kernel_rfl) (by kernel_rfl) (by kernel_rfl) (fun _ _ _ h => h) (.inl ⟨rfl, fun W hS => by (have c0 := (hS.cell (p := ⟨g, 3, none⟩) hgl).trans kg); go_simp; try rfl⟩) (by assumption) ?_); try simp only [Act.put, List.setIfInBounds_toArray, List.set_cons_zero, List.set_cons_succ]
              (refine wpAnyH_take (i := 4) (oi := ⟨some 88, _, _, _, _, _⟩) rfl (by kernel_rfl) (by kernel_rfl) (by kernel_rfl) (fun _ _ _ h => h) (.inl ⟨rfl, fun _ _ => rfl⟩) (by assumption) ?_); try simp only [Act.put, List.setIfInBounds_toArray, List.set_cons_zero, List.set_cons_succ]
              (refine wpAnyH_take (i := 5) (oi := ⟨some 89, _, _, _, _, _⟩) (v := .slice (fromA (some ⟨b, off, none⟩ : Option Addr) c k) (ls.length - k) (c - k)) rfl (by kernel_rfl) (by kernel_rfl) (by kernel_rfl) (fun _ _ _ h => h) (.inl ⟨rfl, fun W hS => by have hAn' := hAn.out; go_simp; (first | (rw [if_pos (by first | omega | (constructor <;> omega))]; first | rfl | (simp [fromA, ed_add_plain]; done)) | rfl | (have hk0 : k = 0 := (by have := hke.out; have := hAn' rfl; omega); simp [fromA, hk0]; done) | (simp [fromA, ed_add_plain]; done))⟩) (by assumption) ?_); try simp only [Act.put, List.setIfInBounds_toArray, List.set_cons_zero, List.set_cons_succ]
              -- effect at 1: Go.Op.load 22 (Go.Operand.tmp 84)
              refine wpAnyH_ready (rs := [1]) (by kernel_rfl) (by simp) ?_
              refine AllReadyH.cons (o := ⟨some 85, _, _, _, _, _⟩) rfl (fun K hK => ?_) AllReadyH.nil
              go_simp
              refine hK.out _ _ hS0 (fun hS1 => ?_)
              clear hK K
              try simp only [Act.put, List.setIfInBounds_toArray, List.set_cons_zero, List.set_cons_succ]
              refine wpAnyH_ready (rs := [6]) (by kernel_rfl) (by simp) ?_
              refine AllReadyH.cons (o := ⟨some 90, _, _, _, _, _⟩) rfl (fun K hK => ?_) AllReadyH.nil
              refine ite_wanted rfl (op_append (.tmp 85) (.tmp 89) _ rfl line_slice line_inf rfl (by omega) rfl (own_below hov (Below.refl _ Wv).drew (fun i hi => (hov.lt i hi).2)) rfl hrv (flat_one _ Line.one _) (by unfold maxLen; omega) (by omega) hWv.out.sz (fun v' w' ho hbl hgr => ?_))
              obtain ⟨N5, hN5⟩ : ∃ n, k + 1 + (ls.length - k) = n := ⟨_, rfl⟩
              rw [hN5] at ho
              replace hN5 := Lib.hid hN5
              obtain ⟨A5, c5, rfl, hc5⟩ := own_slice' ho
              have hWx := Lib.hid (hWv.out.next hgl2 hwg ((Below.refl (gc + 1) Wv).drew.trans hbl))
              refine hK.out _ _ (hS1.trans (hbl.mono (by omega))) (fun hS2 => ?_)
              clear hK K
              try simp only [Act.put, List.setIfInBounds_toArray, List.set_cons_zero, List.set_cons_succ]
              (refine wpAnyH_take (i := 7) (oi := ⟨some 91, _, _, _, _, _⟩) rfl (by kernel_rfl) (by kernel_rfl) (by kernel_rfl) (fun _ _ _ h => h) (.inl ⟨rfl, fun _ _ => rfl⟩) (by assumption) ?_); try simp only [Act.put, List.setIfInBounds_toArray, List.set_cons_zero, List.set_cons_succ]
              have kx := hWx.out.b3.cell 3
              simp only [List.getElem?_toArray, List.getElem?_cons_zero, List.getElem?_cons_succ] at kx
              have fx := hWx.out.b3.frozen 3
              refine wpAnyH_ready (rs := [8]) (by kernel_rfl) (by simp) ?_
              refine AllReadyH.cons (o := ⟨none, _, _, _, _, _⟩) rfl (fun K hK => ?_) AllReadyH.nil
              go_simp
              refine hK.out _ _ (hS2.setCell (p := ⟨gc, 3, none⟩) (Nat.le_refl _) _) (fun hS3 => ?_)
              clear hK K
              try simp only [Act.put, List.setIfInBounds_toArray, List.set_cons_zero, List.set_cons_succ]
              refine wpAnyH_done (by kernel_rfl) ?_ _
              have hWy := Lib.hid (show Writ w _ g gc _ _ #[.int .i64 p, .int .i64 bo, .int .i64 li, .slice A5 N5 c5, .bool pe, .int .i64 mi] from hWx.out.put hgl2 hwg (.slice A5 N5 c5))
              have hoy := Lib.hid (own_chg ho ((Chg.refl (· = gc) w').setCell (p := ⟨gc, 3, none⟩) (fun _ => rfl) (.slice A5 N5 c5)) (fun i hi => by have := (ho.lt i hi).1; omega))
              clear kx fx hS0 hS1 hS2 hS3 ho hbl hgr kv kg
              generalize w'.setCell ⟨gc, 3, none⟩ (.slice A5 N5 c5) = Wy at *
              obtain ⟨k0, k1, k2, k3, k4, k5⟩ := cells6 hWy.out.b3
              go_wp2_with ((with_reducible refine go_store_as (off := 0) (vs := #[.int .i64 p, .int .i64 bo, .int .i64 li, .slice A5 N5 c5, .bool pe, .int .i64 mi]) #[.int .i64 p, .int .i64 bo, .int .i64 li, .slice A5 N5 c5, .bool pe, .int .i64 mi] agg_Half hWy.out.b2 ?b1 ?b2 ?b3 ?b4 ?b5 ?b6 ?_); (case b1 => rfl); (case b2 => rfl); (case b3 => rfl); (case b4 => simp); (case b5 => simp [Value.oneCell']); (case b6 => rfl); (intro w5 hB5 hC5))
              refine bodyPost_ret (results_blk rfl agg_Half hB5 rfl) rfl ?_
              have hres2 : res = ls.take k ++ ⟨nm, ver, wt, fl⟩ :: ls.drop k := by
                have h := hres.out
                rw [hhas.out, hseek.out] at h
                first | (simpa using h.symm) | (simp [show ls.length < 8 from by assumption] at h; exact h.symm)
              have hrl : res.length = N5 := by
                rw [hres2, ← hN5.out]
                simp
                omega
              have hoz : Wy.ownsRow (gc + 1) 44 4 (.slice A5 N5 c5) N5 (flat Line.cells res) := by
                rw [hres2]
                simpa only [flat_append, flat_cons, List.append_assoc] using hoy.out
              refine ⟨A5, c5, by simp only [HV.val]; rw [hrl], by simp only []; rw [hrl]; exact hc5, ?_, hWy.out.bel.trans (hC5.below (fun i h => by have := hg.out; omega) hWy.out.bel.size)⟩
              simp only []
              rw [hrl]
              exact World.ownsRow.mono (own_chg hoz hC5 fun i hi => by have := (hoz.lt i hi).1; omega) (by omega)
            · have h8' : (8 : Int) ≤ (ls.length : Int) := by omega
              obtain ⟨k0, k1, k2, k3, k4, k5⟩ := cells6 hW.out.b0
              go_wp2_with fail
              refine (refOne_any _ p bo li ls (some ⟨b, off, none⟩ : Option Addr) c pe mi (by omega) (Reads.more (Reads.below hI hW.out.bel) hW.out.bel.size)).mono ?_
              rintro e w6 ⟨A6, c6, rfl, hc6, hown6, h6⟩
              simp only [HV.val] at hown6 hc6 ⊢
              have hZ6 := hW.out.b2.below h6 hW.out.b2.lt
              have hbs := hW.out.bel.size
              have hl2 := hW.out.b2.lt
              have hb6 := hW.out.bel.trans (h6.mono hW.out.bel.size)
              go_wp2_with ((with_reducible refine go_store_as (off := 0) (vs := #[.int .i64 p, .int .i64 bo, .int .i64 li, .slice A6 ls.length c6, .bool pe, .int .i64 mi]) #[.int .i64 p, .int .i64 bo, .int .i64 li, .slice A6 ls.length c6, .bool pe, .int .i64 mi] agg_Half hZ6 ?b1 ?b2 ?b3 ?b4 ?b5 ?b6 ?_); (case b1 => rfl); (case b2 => rfl); (case b3 => rfl); (case b4 => simp); (case b5 => simp [Value.oneCell']); (case b6 => rfl); (intro w7 hB7 hC7))
              refine bodyPost_ret (results_blk rfl agg_Half hB7 rfl) rfl ?_
              have hres2 : res = ls := by
                have h := hres.out
                rw [hhas.out, hseek.out] at h
                simp [h8] at h
                exact h.symm
              subst hres2
              exact ⟨A6, c6, rfl, hc6, World.ownsRow.mono (own_chg hown6 hC7 fun i hi => by have := (hown6.lt i hi).1; omega) hbs, hb6.trans (hC7.below (fun i h => by have := hg.out; omega) hb6.size)⟩
          · have ew : IntKind.i64.wrap ((k : Int) + 1) = ((k + 1 : Nat) : Int) := by rw [IntKind.wrap_i64]; omega
            go_wp2_with fail
            have hWv := hW
            have hov := hown.out
            clear hzR k3 kc
            have hjl : k ≤ ls.length := by omega
            have kv := hWv.out.b3.cell 3
            have kg := hWv.out.b0.cell 3
            simp only [List.getElem?_toArray, List.getElem?_cons_zero, List.getElem?_cons_succ] at kv kg
            have hrv := reads_from (LinesAt.below hI (hWv.out.bel.trans ((Below.refl _ wr).drew.mono hWv.out.bel.size))) hc hjl
            have hjz : ¬ ls.length < k := by omega
            have hjc : k ≤ c := by omega
            have hAn : Hid ((some ⟨b, off, none⟩ : Option Addr) = none → ls.length = 0) := Lib.hid (LinesAt.none hI)
            refine wp_region_held_drew (S := fun W => Below gc wr W) (by kernel_rfl) ((Below.refl _ _).drew) (fun hS0 => ?_)
            (refine wpAnyH_take (i := 0) (oi := ⟨some 84, _, _, _, _, _⟩) rfl (by kernel_rfl) (by kernel_rfl) (by kernel_rfl) (fun _ _ _ h => h) (.inl ⟨rfl, fun _ _ => rfl⟩) (by assumption) ?_); try simp only [Act.put, List.setIfInBounds_toArray, List.set_cons_zero, List.set_cons_succ]
            (refine wpAnyH_take (i := 2) (oi := ⟨some 86, _, _, _, _, _⟩) rfl (by kernel_rfl) (by kernel_rfl) (by kernel_rfl) (fun _ _ _ h => h) (.inl ⟨rfl, fun _ _ => rfl⟩) (by assumption) ?_); try simp only [Act.put, List.setIfInBounds_toArray, List.set_cons_zero, List.set_cons_succ]
            (refine wpAnyH_take (i := 3) (oi := ⟨some 87, _, _, _, _, _⟩) rfl (by kernel_rfl) (by kernel_rfl) (by kernel_rfl) (fun _ _ _ h => h) (.inl ⟨rfl, fun W hS => by (have c0 := (hS.cell (p := ⟨g, 3, none⟩) hgl).trans kg); go_simp; try rfl⟩) (by assumption) ?_); try simp only [Act.put, List.setIfInBounds_toArray, List.set_cons_zero, List.set_cons_succ]
            (refine wpAnyH_take (i := 4) (oi := ⟨some 88, _, _, _, _, _⟩) rfl (by kernel_rfl) (by kernel_rfl) (by kernel_rfl) (fun _ _ _ h => h) (.inl ⟨rfl, fun _ _ => rfl⟩) (by assumption) ?_); try simp only [Act.put, List.setIfInBounds_toArray, List.set_cons_zero, List.set_cons_succ]
            (refine wpAnyH_take (i := 5) (oi := ⟨some 89, _, _, _, _, _⟩) (v := .slice (fromA (some ⟨b, off, none⟩ : Option Addr) c k) (ls.length - k) (c - k)) rfl (by kernel_rfl) (by kernel_rfl) (by kernel_rfl) (fun _ _ _ h => h) (.inl ⟨rfl, fun W hS => by have hAn' := hAn.out; go_simp; (first | (rw [if_pos (by first | omega | (constructor <;> omega))]; first | rfl | (simp [fromA, ed_add_plain]; done)) | rfl | (have hk0 : k = 0 := (by have := hke.out; have := hAn' rfl; omega); simp [fromA, hk0]; done) | (simp [fromA, ed_add_plain]; done))⟩) (by assumption) ?_); try simp only [Act.put, List.setIfInBounds_toArray, List.set_cons_zero, List.set_cons_succ]
            -- effect at 1: Go.Op.load 22 (Go.Operand.tmp 84)
            refine wpAnyH_ready (rs := [1]) (by kernel_rfl) (by simp) ?_
            refine AllReadyH.cons (o := ⟨some 85, _, _, _, _, _⟩) rfl (fun K hK => ?_) AllReadyH.nil
            go_simp
            refine hK.out _ _ hS0 (fun hS1 => ?_)
            clear hK K
            try simp only [Act.put, List.setIfInBounds_toArray, List.set_cons_zero, List.set_cons_succ]
            refine wpAnyH_ready (rs := [6]) (by kernel_rfl) (by simp) ?_
            refine AllReadyH.cons (o := ⟨some 90, _, _, _, _, _⟩) rfl (fun K hK => ?_) AllReadyH.nil
            refine ite_wanted rfl (op_append (.tmp 85) (.tmp 89) _ rfl line_slice line_inf rfl (by omega) rfl (own_below hov (Below.refl _ wr).drew (fun i hi => (hov.lt i hi).2)) rfl hrv (flat_one _ Line.one _) (by unfold maxLen; omega) (by omega) hWv.out.sz (fun v' w' ho hbl hgr => ?_))
            obtain ⟨N5, hN5⟩ : ∃ n, k + (ls.length - k) = n := ⟨_, rfl⟩
            rw [hN5] at ho
            replace hN5 := Lib.hid hN5
            obtain ⟨A5, c5, rfl, hc5⟩ := own_slice' ho
            have hWx := Lib.hid (hWv.out.next hgl2 hwg ((Below.refl (gc + 1) wr).drew.trans hbl))
            refine hK.out _ _ (hS1.trans (hbl.mono (by omega))) (fun hS2 => ?_)
            clear hK K
            try simp only [Act.put, List.setIfInBounds_toArray, List.set_cons_zero, List.set_cons_succ]
            (refine wpAnyH_take (i := 7) (oi := ⟨some 91, _, _, _, _, _⟩) rfl (by kernel_rfl) (by kernel_rfl) (by kernel_rfl) (fun _ _ _ h => h) (.inl ⟨rfl, fun _ _ => rfl⟩) (by assumption) ?_); try simp only [Act.put, List.setIfInBounds_toArray, List.set_cons_zero, List.set_cons_succ]
            have kx := hWx.out.b3.cell 3
            simp only [List.getElem?_toArray, List.getElem?_cons_zero, List.getElem?_cons_succ] at kx
            have fx := hWx.out.b3.frozen 3
            refine wpAnyH_ready (rs := [8]) (by kernel_rfl) (by simp) ?_
            refine AllReadyH.cons (o := ⟨none, _, _, _, _, _⟩) rfl (fun K hK => ?_) AllReadyH.nil
            go_simp
            refine hK.out _ _ (hS2.setCell (p := ⟨gc, 3, none⟩) (Nat.le_refl _) _) (fun hS3 => ?_)
            clear hK K
            try simp only [Act.put, List.setIfInBounds_toArray, List.set_cons_zero, List.set_cons_succ]
            refine wpAnyH_done (by kernel_rfl) ?_ _
            have hWy := Lib.hid (show Writ w _ g gc _ _ #[.int .i64 p, .int .i64 bo, .int .i64 li, .slice A5 N5 c5, .bool pe, .int .i64 mi] from hWx.out.put hgl2 hwg (.slice A5 N5 c5))
            have hoy := Lib.hid (own_chg ho ((Chg.refl (· = gc) w').setCell (p := ⟨gc, 3, none⟩) (fun _ => rfl) (.slice A5 N5 c5)) (fun i hi => by have := (ho.lt i hi).1; omega))
            clear kx fx hS0 hS1 hS2 hS3 ho hbl hgr kv kg
            generalize w'.setCell ⟨gc, 3, none⟩ (.slice A5 N5 c5) = Wy at *
            obtain ⟨k0, k1, k2, k3, k4, k5⟩ := cells6 hWy.out.b3
            go_wp2_with ((with_reducible refine go_store_as (off := 0) (vs := #[.int .i64 p, .int .i64 bo, .int .i64 li, .slice A5 N5 c5, .bool pe, .int .i64 mi]) #[.int .i64 p, .int .i64 bo, .int .i64 li, .slice A5 N5 c5, .bool pe, .int .i64 mi] agg_Half hWy.out.b2 ?b1 ?b2 ?b3 ?b4 ?b5 ?b6 ?_); (case b1 => rfl); (case b2 => rfl); (case b3 => rfl); (case b4 => simp); (case b5 => simp [Value.oneCell']); (case b6 => rfl); (intro w5 hB5 hC5))
            refine bodyPost_ret (results_blk rfl agg_Half hB5 rfl) rfl ?_
            have hres2 : res = ls.take k ++ ls.drop k := by
              have h := hres.out
              rw [hhas.out, hseek.out] at h
              first | (simpa using h.symm) | (simp [show ls.length < 8 from by assumption] at h; exact h.symm)
            have hrl : res.length = N5 := by
              rw [hres2, ← hN5.out]
              simp
              omega
            have hoz : Wy.ownsRow (gc + 1) 44 4 (.slice A5 N5 c5) N5 (flat Line.cells res) := by
              rw [hres2]
              simpa only [flat_append, flat_cons, List.append_assoc] using hoy.out
            refine ⟨A5, c5, by simp only [HV.val]; rw [hrl], by simp only []; rw [hrl]; exact hc5, ?_, hWy.out.bel.trans (hC5.below (fun i h => by have := hg.out; omega) hWy.out.bel.size)⟩
            simp only []
            rw [hrl]
            exact World.ownsRow.mono (own_chg hoz hC5 fun i hi => by have := (hoz.lt i hi).1; omega) (by omega)
        · cases z
          · have hzR := reg_nz ver wt fl hz.out
            have hoU := own_below hown.out ((Below.refl wr.heap.size wr).alloc (Nat.le_refl _) (.cells #[.string nm, .int .i64 ver, .int .i64 wt, .int .i64 fl] 44)) (fun i hi => (hown.out.lt i hi).2)
            have hNU : Blk (wr.alloc (.cells #[.string nm, .int .i64 ver, .int .i64 wt, .int .i64 fl] 44)) wr.heap.size 44 #[.string nm, .int .i64 ver, .int .i64 wt, .int .i64 fl] := Blk.new _ _ _
            have hrU : Reads (wr.alloc (.cells #[.string nm, .int .i64 ver, .int .i64 wt, .int .i64 fl] 44)) (wr.alloc (.cells #[.string nm, .int .i64 ver, .int .i64 wt, .int .i64 fl] 44)).heap.size 4 (some ⟨wr.heap.size, 0, none⟩) 1 (Line.cells ⟨nm, ver, wt, fl⟩) := Reads.of_blk hNU rfl (fun j u h => by simpa [Line.cells] using h)
            have hWU := Lib.hid (hW.out.next hgl2 hwg ((Below.refl (gc + 1) wr).alloc hW.out.sz (.cells #[.string nm, .int .i64 ver, .int .i64 wt, .int .i64 fl] 44)))
            have ew : IntKind.i64.wrap ((k : Int) + 1) = ((k + 1 : Nat) : Int) := by rw [IntKind.wrap_i64]; omega
            go_wp2_with ((with_reducible refine go_append_at (c := 1) line_slice line_inf hoU hrU (Line.one _) ?a0 ?a1 ?a2 ?a3 ?a4 ?a5 ?a6 ?_); (case a0 => exact hWU.out.sz); (case a1 => rfl); (case a2 => rfl); (case a3 => rfl); (case a4 => omega); (case a5 => unfold maxLen; omega); (case a6 => omega); rintro v4 w4 g1 g2 - -; obtain ⟨A4, c4, rfl, hc4⟩ := own_slice' g1; have hWx := Lib.hid (hWU.out.next hgl2 hwg g2); have kx := hWx.out.b3.cell 3; simp only [List.getElem?_toArray, List.getElem?_cons_zero, List.getElem?_cons_succ] at kx; have fx := hWx.out.b3.frozen 3; clear g2)
            have hWv := Lib.hid (show Writ w _ g gc _ _ #[.int .i64 p, .int .i64 bo, .int .i64 li, .slice A4 (k + 1) c4, .bool pe, .int .i64 mi] from hWx.out.put hgl2 hwg (.slice A4 (k + 1) c4))
            have hov := own_chg g1 ((Chg.refl (· = gc) w4).setCell (p := ⟨gc, 3, none⟩) (fun _ => rfl) (.slice A4 (k + 1) c4)) (fun i hi => by have := (g1.lt i hi).1; omega)
            clear g1 hWx kx fx hrU hNU hoU hWU hzR k3 kc
            generalize w4.setCell ⟨gc, 3, none⟩ (.slice A4 (k + 1) c4) = Wv at *
            have hjl : (k + 1) ≤ ls.length := by omega
            have kv := hWv.out.b3.cell 3
            have kg := hWv.out.b0.cell 3
            simp only [List.getElem?_toArray, List.getElem?_cons_zero, List.getElem?_cons_succ] at kv kg
            have hrv := reads_from (LinesAt.below hI (hWv.out.bel.trans ((Below.refl _ Wv).drew.mono hWv.out.bel.size))) hc hjl
            have hjz : ¬ ls.length < (k + 1) := by omega
            have hjc : (k + 1) ≤ c := by omega
            have hAn : Hid ((some ⟨b, off, none⟩ : Option Addr) = none → ls.length = 0) := Lib.hid (LinesAt.none hI)
            refine wp_region_held_drew (S := fun W => Below gc Wv W) (by kernel_rfl) ((Below.refl _ _).drew) (fun hS0 => ?_)
            (refine wpAnyH_take (i := 0) (oi := ⟨some 84, _, _, _, _, _⟩) rfl (by kernel_rfl) (by kernel_rfl) (by kernel_rfl) (fun _ _ _ h => h) (.inl ⟨rfl, fun _ _ => rfl⟩) (by assumption) ?_); try simp only [Act.put, List.setIfInBounds_toArray, List.set_cons_zero, List.set_cons_succ]
            (refine wpAnyH_take (i := 2) (oi := ⟨some 86, _, _, _, _, _⟩) rfl (by kernel_rfl) (by kernel_rfl) (by kernel_rfl) (fun _ _ _ h => h) (.inl ⟨rfl, fun _ _ => rfl⟩) (by assumption) ?_); try simp only [Act.put, List.setIfInBounds_toArray, List.set_cons_zero, List.set_cons_succ]
            (refine wpAnyH_take (i := 3) (oi := ⟨some 87, _, _, _, _, _⟩) rfl (by kernel_rfl) (by kernel_rfl) (by kernel_rfl) (fun _ _ _ h => h) (.inl ⟨rfl, fun W hS => by (have c0 := (hS.cell (p := ⟨g, 3, none⟩) hgl).trans kg); go_simp; try rfl⟩) (by assumption) ?_); try simp only [Act.put, List.setIfInBounds_toArray, List.set_cons_zero, List.set_cons_succ]
            (refine wpAnyH_take (i := 4) (oi := ⟨some 88, _, _, _, _, _⟩) rfl (by kernel_rfl) (by kernel_rfl) (by kernel_rfl) (fun _ _ _ h => h) (.inl ⟨rfl, fun _ _ => rfl⟩) (by assumption) ?_); try simp only [Act.put, List.setIfInBounds_toArray, List.set_cons_zero, List.set_cons_succ]
            (refine wpAnyH_take (i := 5) (oi := ⟨some 89, _, _, _, _, _⟩) (v := .slice (fromA (some ⟨b, off, none⟩ : Option Addr) c (k + 1)) (ls.length - (k + 1)) (c - (k + 1))) rfl (by kernel_rfl) (by kernel_rfl) (by kernel_rfl) (fun _ _ _ h => h) (.inl ⟨rfl, fun W hS => by have hAn' := hAn.out; go_simp; (first | (rw [if_pos (by first | omega | (constructor <;> omega))]; first | rfl | (simp [fromA, ed_add_plain]; done)) | rfl | (have hk0 : k = 0 := (by have := hke.out; have := hAn' rfl; omega); simp [fromA, hk0]; done) | (simp [fromA, ed_add_plain]; done))⟩) (by assumption) ?_); try simp only [Act.put, List.setIfInBounds_toArray, List.set_cons_zero, List.set_cons_succ]
            -- effect at 1: Go.Op.load 22 (Go.Operand.tmp 84)
            refine wpAnyH_ready (rs := [1]) (by kernel_rfl) (by simp) ?_
            refine AllReadyH.cons (o := ⟨some 85, _, _, _, _, _⟩) rfl (fun K hK => ?_) AllReadyH.nil
            go_simp
            refine hK.out _ _ hS0 (fun hS1 => ?_)
            clear hK K
            try simp only [Act.put, List.setIfInBounds_toArray, List.set_cons_zero, List.set_cons_succ]
            refine wpAnyH_ready (rs := [6]) (by kernel_rfl) (by simp) ?_
            refine AllReadyH.cons (o := ⟨some 90, _, _, _, _, _⟩) rfl (fun K hK => ?_) AllReadyH.nil
            refine ite_wanted rfl (op_append (.tmp 85) (.tmp 89) _ rfl line_slice line_inf rfl (by omega) rfl (own_below hov (Below.refl _ Wv).drew (fun i hi => (hov.lt i hi).2)) rfl hrv (flat_one _ Line.one _) (by unfold maxLen; omega) (by omega) hWv.out.sz (fun v' w' ho hbl hgr => ?_))
            obtain ⟨N5, hN5⟩ : ∃ n, k + 1 + (ls.length - (k + 1)) = n := ⟨_, rfl⟩
            rw [hN5] at ho
            replace hN5 := Lib.hid hN5
            obtain ⟨A5, c5, rfl, hc5⟩ := own_slice' ho
            have hWx := Lib.hid (hWv.out.next hgl2 hwg ((Below.refl (gc + 1) Wv).drew.trans hbl))
            refine hK.out _ _ (hS1.trans (hbl.mono (by omega))) (fun hS2 => ?_)
            clear hK K
            try simp only [Act.put, List.setIfInBounds_toArray, List.set_cons_zero, List.set_cons_succ]
            (refine wpAnyH_take (i := 7) (oi := ⟨some 91, _, _, _, _, _⟩) rfl (by kernel_rfl) (by kernel_rfl) (by kernel_rfl) (fun _ _ _ h => h) (.inl ⟨rfl, fun _ _ => rfl⟩) (by assumption) ?_); try simp only [Act.put, List.setIfInBounds_toArray, List.set_cons_zero, List.set_cons_succ]
            have kx := hWx.out.b3.cell 3
            simp only [List.getElem?_toArray, List.getElem?_cons_zero, List.getElem?_cons_succ] at kx
            have fx := hWx.out.b3.frozen 3
            refine wpAnyH_ready (rs := [8]) (by kernel_rfl) (by simp) ?_
            refine AllReadyH.cons (o := ⟨none, _, _, _, _, _⟩) rfl (fun K hK => ?_) AllReadyH.nil
            go_simp
            refine hK.out _ _ (hS2.setCell (p := ⟨gc, 3, none⟩) (Nat.le_refl _) _) (fun hS3 => ?_)
            clear hK K
            try simp only [Act.put, List.setIfInBounds_toArray, List.set_cons_zero, List.set_cons_succ]
            refine wpAnyH_done (by kernel_rfl) ?_ _
            have hWy := Lib.hid (show Writ w _ g gc _ _ #[.int .i64 p, .int .i64 bo, .int .i64 li, .slice A5 N5 c5, .bool pe, .int .i64 mi] from hWx.out.put hgl2 hwg (.slice A5 N5 c5))
            have hoy := Lib.hid (own_chg ho ((Chg.refl (· = gc) w').setCell (p := ⟨gc, 3, none⟩) (fun _ => rfl) (.slice A5 N5 c5)) (fun i hi => by have := (ho.lt i hi).1; omega))
            clear kx fx hS0 hS1 hS2 hS3 ho hbl hgr kv kg
            generalize w'.setCell ⟨gc, 3, none⟩ (.slice A5 N5 c5) = Wy at *
            obtain ⟨k0, k1, k2, k3, k4, k5⟩ := cells6 hWy.out.b3
            go_wp2_with ((with_reducible refine go_store_as (off := 0) (vs := #[.int .i64 p, .int .i64 bo, .int .i64 li, .slice A5 N5 c5, .bool pe, .int .i64 mi]) #[.int .i64 p, .int .i64 bo, .int .i64 li, .slice A5 N5 c5, .bool pe, .int .i64 mi] agg_Half hWy.out.b2 ?b1 ?b2 ?b3 ?b4 ?b5 ?b6 ?_); (case b1 => rfl); (case b2 => rfl); (case b3 => rfl); (case b4 => simp); (case b5 => simp [Value.oneCell']); (case b6 => rfl); (intro w5 hB5 hC5))
            refine bodyPost_ret (results_blk rfl agg_Half hB5 rfl) rfl ?_
            have hres2 : res = ls.take k ++ ⟨nm, ver, wt, fl⟩ :: ls.drop (k + 1) := by
              have h := hres.out
              rw [hhas.out, hseek.out] at h
              first | (simpa using h.symm) | (simp [show ls.length < 8 from by assumption] at h; exact h.symm)
            have hrl : res.length = N5 := by
              rw [hres2, ← hN5.out]
              simp
              omega
            have hoz : Wy.ownsRow (gc + 1) 44 4 (.slice A5 N5 c5) N5 (flat Line.cells res) := by
              rw [hres2]
              simpa only [flat_append, flat_cons, List.append_assoc] using hoy.out
            refine ⟨A5, c5, by simp only [HV.val]; rw [hrl], by simp only []; rw [hrl]; exact hc5, ?_, hWy.out.bel.trans (hC5.below (fun i h => by have := hg.out; omega) hWy.out.bel.size)⟩
            simp only []
            rw [hrl]
            exact World.ownsRow.mono (own_chg hoz hC5 fun i hi => by have := (hoz.lt i hi).1; omega) (by omega)
          · have hzR := reg_nz ver wt fl hz.out
            have ew : IntKind.i64.wrap ((k : Int) + 1) = ((k + 1 : Nat) : Int) := by rw [IntKind.wrap_i64]; omega
            go_wp2_with fail
            have hWv := hW
            have hov := hown.out
            clear hzR k3 kc
            have hjl : (k + 1) ≤ ls.length := by omega
            have kv := hWv.out.b3.cell 3
            have kg := hWv.out.b0.cell 3
            simp only [List.getElem?_toArray, List.getElem?_cons_zero, List.getElem?_cons_succ] at kv kg
            have hrv := reads_from (LinesAt.below hI (hWv.out.bel.trans ((Below.refl _ wr).drew.mono hWv.out.bel.size))) hc hjl
            have hjz : ¬ ls.length < (k + 1) := by omega
            have hjc : (k + 1) ≤ c := by omega
            have hAn : Hid ((some ⟨b, off, none⟩ : Option Addr) = none → ls.length = 0) := Lib.hid (LinesAt.none hI)
            refine wp_region_held_drew (S := fun W => Below gc wr W) (by kernel_rfl) ((Below.refl _ _).drew) (fun hS0 => ?_)
            (refine wpAnyH_take (i := 0) (oi := ⟨some 84, _, _, _, _, _⟩) rfl (by kernel_rfl) (by kernel_rfl) (by kernel_rfl) (fun _ _ _ h => h) (.inl ⟨rfl, fun _ _ => rfl⟩) (by assumption) ?_); try simp only [Act.put, List.setIfInBounds_toArray, List.set_cons_zero, List.set_cons_succ]
            (refine wpAnyH_take (i := 2) (oi := ⟨some 86, _, _, _, _, _⟩) rfl (by kernel_rfl) (by kernel_rfl) (by kernel_rfl) (fun _ _ _ h => h) (.inl ⟨rfl, fun _ _ => rfl⟩) (by assumption) ?_); try simp only [Act.put, List.setIfInBounds_toArray, List.set_cons_zero, List.set_cons_succ]
            (refine wpAnyH_take (i := 3) (oi := ⟨some 87, _, _, _, _, _⟩) rfl (by kernel_rfl) (by kernel_rfl) (by kernel_rfl) (fun _ _ _ h => h) (.inl ⟨rfl, fun W hS => by (have c0 := (hS.cell (p := ⟨g, 3, none⟩) hgl).trans kg); go_simp; try rfl⟩) (by assumption) ?_); try simp only [Act.put, List.setIfInBounds_toArray, List.set_cons_zero, List.set_cons_succ]
            (refine wpAnyH_take (i := 4) (oi := ⟨some 88, _, _, _, _, _⟩) rfl (by kernel_rfl) (by kernel_rfl) (by kernel_rfl) (fun _ _ _ h => h) (.inl ⟨rfl, fun _ _ => rfl⟩) (by assumption) ?_); try simp only [Act.put, List.setIfInBounds_toArray, List.set_cons_zero, List.set_cons_succ]
            (refine wpAnyH_take (i := 5) (oi := ⟨some 89, _, _, _, _, _⟩) (v := .slice (fromA (some ⟨b, off, none⟩ : Option Addr) c (k + 1)) (ls.length - (k + 1)) (c - (k + 1))) rfl (by kernel_rfl) (by kernel_rfl) (by kernel_rfl) (fun _ _ _ h => h) (.inl ⟨rfl, fun W hS => by have hAn' := hAn.out; go_simp; (first | (rw [if_pos (by first | omega | (constructor <;> omega))]; first | rfl | (simp [fromA, ed_add_plain]; done)) | rfl | (have hk0 : k = 0 := (by have := hke.out; have := hAn' rfl; omega); simp [fromA, hk0]; done) | (simp [fromA, ed_add_plain]; done))⟩) (by assumption) ?_); try simp only [Act.put, List.setIfInBounds_toArray, List.set_cons_zero, List.set_cons_succ]
            -- effect at 1: Go.Op.load 22 (Go.Operand.tmp 84)
            refine wpAnyH_ready (rs := [1]) (by kernel_rfl) (by simp) ?_
            refine AllReadyH.cons (o := ⟨some 85, _, _, _, _, _⟩) rfl (fun K hK => ?_) AllReadyH.nil
            go_simp
            refine hK.out _ _ hS0 (fun hS1 => ?_)
            clear hK K
            try simp only [Act.put, List.setIfInBounds_toArray, List.set_cons_zero, List.set_cons_succ]
            refine wpAnyH_ready (rs := [6]) (by kernel_rfl) (by simp) ?_
            refine AllReadyH.cons (o := ⟨some 90, _, _, _, _, _⟩) rfl (fun K hK => ?_) AllReadyH.nil
            refine ite_wanted rfl (op_append (.tmp 85) (.tmp 89) _ rfl line_slice line_inf rfl (by omega) rfl (own_below hov (Below.refl _ wr).drew (fun i hi => (hov.lt i hi).2)) rfl hrv (flat_one _ Line.one _) (by unfold maxLen; omega) (by omega) hWv.out.sz (fun v' w' ho hbl hgr => ?_))
            obtain ⟨N5, hN5⟩ : ∃ n, k + (ls.length - (k + 1)) = n := ⟨_, rfl⟩
            rw [hN5] at ho
            replace hN5 := Lib.hid hN5
            obtain ⟨A5, c5, rfl, hc5⟩ := own_slice' ho
            have hWx := Lib.hid (hWv.out.next hgl2 hwg ((Below.refl (gc + 1) wr).drew.trans hbl))
            refine hK.out _ _ (hS1.trans (hbl.mono (by omega))) (fun hS2 => ?_)
            clear hK K
            try simp only [Act.put, List.setIfInBounds_toArray, List.set_cons_zero, List.set_cons_succ]
            (refine wpAnyH_take (i := 7) (oi := ⟨some 91, _, _, _, _, _⟩) rfl (by kernel_rfl) (by kernel_rfl) (by kernel_rfl) (fun _ _ _ h => h) (.inl ⟨rfl, fun _ _ => rfl⟩) (by assumption) ?_); try simp only [Act.put, List.setIfInBounds_toArray, List.set_cons_zero, List.set_cons_succ]
            have kx := hWx.out.b3.cell 3
            simp only [List.getElem?_toArray, List.getElem?_cons_zero, List.getElem?_cons_succ] at kx
            have fx := hWx.out.b3.frozen 3
            refine wpAnyH_ready (rs := [8]) (by kernel_rfl) (by simp) ?_
            refine AllReadyH.cons (o := ⟨none, _, _, _, _, _⟩) rfl (fun K hK => ?_) AllReadyH.nil
            go_simp
            refine hK.out _ _ (hS2.setCell (p := ⟨gc, 3, none⟩) (Nat.le_refl _) _) (fun hS3 => ?_)
            clear hK K
            try simp only [Act.put, List.setIfInBounds_toArray, List.set_cons_zero, List.set_cons_succ]
            refine wpAnyH_done (by kernel_rfl) ?_ _
            have hWy := Lib.hid (show Writ w _ g gc _ _ #[.int .i64 p, .int .i64 bo, .int .i64 li, .slice A5 N5 c5, .bool pe, .int .i64 mi] from hWx.out.put hgl2 hwg (.slice A5 N5 c5))
            have hoy := Lib.hid (own_chg ho ((Chg.refl (· = gc) w').setCell (p := ⟨gc, 3, none⟩) (fun _ => rfl) (.slice A5 N5 c5)) (fun i hi => by have := (ho.lt i hi).1; omega))
            clear kx fx hS0 hS1 hS2 hS3 ho hbl hgr kv kg
            generalize w'.setCell ⟨gc, 3, none⟩ (.slice A5 N5 c5) = Wy at *
            obtain ⟨k0, k1, k2, k3, k4, k5⟩ := cells6 hWy.out.b3
            go_wp2_with ((with_reducible refine go_store_as (off := 0) (vs := #[.int .i64 p, .int .i64 bo, .int .i64 li, .slice A5 N5 c5, .bool pe, .int .i64 mi]) #[.int .i64 p, .int .i64 bo, .int .i64 li, .slice A5 N5 c5, .bool pe, .int .i64 mi] agg_Half hWy.out.b2 ?b1 ?b2 ?b3 ?b4 ?b5 ?b6 ?_); (case b1 => rfl); (case b2 => rfl); (case b3 => rfl); (case b4 => simp); (case b5 => simp [Value.oneCell']); (case b6 => rfl); (intro w5 hB5 hC5))
            refine bodyPost_ret (results_blk rfl agg_Half hB5 rfl) rfl ?_
            have hres2 : res = ls.take k ++ ls.drop (k + 1) := by
              have h := hres.out
              rw [hhas.out, hseek.out] at h
              first | (simpa using h.symm) | (simp [show ls.length < 8 from by assumption] at h; exact h.symm)
            have hrl : res.length = N5 := by
              rw [hres2, ← hN5.out]
              simp
              omega
            have hoz : Wy.ownsRow (gc + 1) 44 4 (.slice A5 N5 c5) N5 (flat Line.cells res) := by
              rw [hres2]
              simpa only [flat_append, flat_cons, List.append_assoc] using hoy.out
            refine ⟨A5, c5, by simp only [HV.val]; rw [hrl], by simp only []; rw [hrl]; exact hc5, ?_, hWy.out.bel.trans (hC5.below (fun i h => by have := hg.out; omega) hWy.out.bel.size)⟩
            simp only []
            rw [hrl]
            exact World.ownsRow.mono (own_chg hoz hC5 fun i hi => by have := (hoz.lt i hi).1; omega) (by omega)
      · have hlk : lineLt ls[k] nm = true := by rw [hx.out]; exact hltx
        replace hlk := Lib.hid hlk
        have hbg : b < gc := by omega
        have hld : Hid (∀ W, Below gc wr W → ∀ j v, [Value.string x.nm, .int .i64 x.ver, .int .i64 x.wt, .int .i64 x.fl][j]? = some v → W.cell? ⟨b, off + k * 4 + j, none⟩ = some v) := Lib.hid (fun W hW j v hv => by
          refine (hW.cell (p := ⟨b, off + k * 4 + j, none⟩) hbg).trans ?_
          match j, hv with
          | 0, h => simpa using h ▸ q0
          | 1, h => simpa using h ▸ q1
          | 2, h => simpa using h ▸ q2
          | 3, h => simpa using h ▸ q3)
        replace hW := Lib.hid hW
        go_wp2_with fail
        refine wp_region_held_drew (S := fun W => Below gc wr W) (by kernel_rfl) ((Below.refl _ _).drew) (fun hS0 => ?_)
        (refine wpAnyH_take (i := 0) (oi := ⟨some 28, _, _, _, _, _⟩) rfl (by kernel_rfl) (by kernel_rfl) (by kernel_rfl) (fun _ _ _ h => h) (.inl ⟨rfl, fun _ _ => rfl⟩) (by assumption) ?_); try simp only [Act.put, List.setIfInBounds_toArray, List.set_cons_zero, List.set_cons_succ]
        (refine wpAnyH_take (i := 2) (oi := ⟨some 30, _, _, _, _, _⟩) rfl (by kernel_rfl) (by kernel_rfl) (by kernel_rfl) (fun _ _ _ h => h) (.inl ⟨rfl, fun _ _ => rfl⟩) (by assumption) ?_); try simp only [Act.put, List.setIfInBounds_toArray, List.set_cons_zero, List.set_cons_succ]
        (refine wpAnyH_take (i := 3) (oi := ⟨some 31, _, _, _, _, _⟩) rfl (by kernel_rfl) (by kernel_rfl) (by kernel_rfl) (fun _ _ _ h => h) (.inl ⟨rfl, fun W hS => by (have c0 := (hS.cell (p := ⟨g, 3, none⟩) hgl).trans k3); go_simp; try rfl⟩) (by assumption) ?_); try simp only [Act.put, List.setIfInBounds_toArray, List.set_cons_zero, List.set_cons_succ]
        (refine wpAnyH_take (i := 4) (oi := ⟨some 32, _, _, _, _, _⟩) rfl (by kernel_rfl) (by kernel_rfl) (by kernel_rfl) (fun _ _ _ h => h) (.inl ⟨rfl, fun _ _ => rfl⟩) (by assumption) ?_); try simp only [Act.put, List.setIfInBounds_toArray, List.set_cons_zero, List.set_cons_succ]
        (refine wpAnyH_take (i := 5) (oi := ⟨some 33, _, _, _, _, _⟩) rfl (by kernel_rfl) (by kernel_rfl) (by kernel_rfl) (fun _ _ _ h => h) (.inl ⟨rfl, fun W hS => by skip; go_simp; try rfl⟩) (by assumption) ?_); try simp only [Act.put, List.setIfInBounds_toArray, List.set_cons_zero, List.set_cons_succ]
        (refine wpAnyH_take (i := 6) (oi := ⟨some 34, _, _, _, _, _⟩) rfl (by kernel_rfl) (by kernel_rfl) (by kernel_rfl) (fun _ _ _ h => h) (.inl ⟨rfl, fun W hS => exec_load_list (vs := [.string x.nm, .int .i64 x.ver, .int .i64 x.wt, .int .i64 x.fl]) agg_Line rfl (hld.out W hS) rfl rfl⟩) (by assumption) ?_); try simp only [Act.put, List.setIfInBounds_toArray, List.set_cons_zero, List.set_cons_succ]
        -- ready: [(1, 29), (7, 35)]
        have hWU := Lib.hid (hW.out.next hgl2 hwg ((Below.refl (gc + 1) wr).alloc hW.out.sz (.cells #[.string x.nm, .int .i64 x.ver, .int .i64 x.wt, .int .i64 x.fl] 44)).drew)
        have hoU := own_below hown ((Below.refl wr.heap.size wr).alloc (Nat.le_refl _) (.cells #[.string x.nm, .int .i64 x.ver, .int .i64 x.wt, .int .i64 x.fl] 44)).drew (fun i hi => (hown.lt i hi).2)
        have hSU := ((Below.refl gc wr).alloc (by have := hW.out.sz; omega) (.cells #[.string x.nm, .int .i64 x.ver, .int .i64 x.wt, .int .i64 x.fl] 44)).drew
        have hNU : Blk (wr.alloc (.cells #[.string x.nm, .int .i64 x.ver, .int .i64 x.wt, .int .i64 x.fl] 44)).drew wr.heap.size 44 #[.string x.nm, .int .i64 x.ver, .int .i64 x.wt, .int .i64 x.fl] := (Blk.new _ _ _).drew
        have hrU : Reads (wr.alloc (.cells #[.string x.nm, .int .i64 x.ver, .int .i64 x.wt, .int .i64 x.fl] 44)).drew (wr.alloc (.cells #[.string x.nm, .int .i64 x.ver, .int .i64 x.wt, .int .i64 x.fl] 44)).drew.heap.size 4 (some ⟨wr.heap.size, 0, none⟩) 1 (Line.cells x) := Reads.of_blk hNU rfl (fun j u h => by simpa [Line.cells] using h)
        have hfl : Hid (flat Line.cells (ls.take k) ++ Line.cells x = flat Line.cells (ls.take (k + 1))) := Lib.hid (by rw [List.take_add_one, List.getElem?_eq_getElem hlt, hx.out, flat_append]; simp [flat])
        have kU := hWU.out.b3.cell 3
        simp only [List.getElem?_toArray, List.getElem?_cons_zero, List.getElem?_cons_succ] at kU
        clear hNU
        refine wpAnyH_ready (rs := [1, 7]) (by kernel_rfl) (by simp) ?_
        refine AllReadyH.cons (o := ⟨some 29, _, _, _, _, _⟩) rfl (fun K hK => ?_) (AllReadyH.cons (o := ⟨some 35, _, _, _, _, _⟩) rfl (fun K hK => ?_) AllReadyH.nil)
        · go_simp
          refine hK.out _ _ hS0 (fun hS1 => ?_)
          clear hK K
          try simp only [Act.put, List.setIfInBounds_toArray, List.set_cons_zero, List.set_cons_succ]
          -- effect at 7: Go.Op.buildSlice 22 1 #[(0, Go.Operand.tmp 34)]
          refine wpAnyH_ready (rs := [7]) (by kernel_rfl) (by simp) ?_
          refine AllReadyH.cons (o := ⟨some 35, _, _, _, _, _⟩) rfl (fun K hK => ?_) AllReadyH.nil
          go_simp
          refine hK.out _ _ hSU (fun hS1 => ?_)
          clear hK K kU
          try simp only [Act.put, List.setIfInBounds_toArray, List.set_cons_zero, List.set_cons_succ]
          generalize (wr.alloc (.cells #[.string x.nm, .int .i64 x.ver, .int .i64 x.wt, .int .i64 x.fl] 44)).drew = U at *
          refine wpAnyH_ready (rs := [8]) (by kernel_rfl) (by simp) ?_
          refine AllReadyH.cons (o := ⟨some 36, _, _, _, _, _⟩) rfl (fun K hK => ?_) AllReadyH.nil
          refine ite_wanted rfl (op_append (.tmp 29) (.tmp 35) _ rfl line_slice line_inf rfl (by omega) rfl hoU rfl hrU (Line.one x) (by unfold maxLen; omega) (by omega) hWU.out.sz (fun v' w' ho hbl hgr => ?_))
          obtain ⟨A4, c4, rfl, hc4⟩ := own_slice' ho
          have hWx := Lib.hid (hWU.out.next hgl2 hwg hbl)
          refine hK.out _ _ (hSU.trans (hbl.mono (by omega))) (fun hS2 => ?_)
          clear hK K
          try simp only [Act.put, List.setIfInBounds_toArray, List.set_cons_zero, List.set_cons_succ]
          (refine wpAnyH_take (i := 9) (oi := ⟨some 37, _, _, _, _, _⟩) rfl (by kernel_rfl) (by kernel_rfl) (by kernel_rfl) (fun _ _ _ h => h) (.inl ⟨rfl, fun _ _ => rfl⟩) (by assumption) ?_); try simp only [Act.put, List.setIfInBounds_toArray, List.set_cons_zero, List.set_cons_succ]
          have kx := hWx.out.b3.cell 3
          simp only [List.getElem?_toArray, List.getElem?_cons_zero, List.getElem?_cons_succ] at kx
          have fx := hWx.out.b3.frozen 3
          refine wpAnyH_ready (rs := [10]) (by kernel_rfl) (by simp) ?_
          refine AllReadyH.cons (o := ⟨none, _, _, _, _, _⟩) rfl (fun K hK => ?_) AllReadyH.nil
          go_simp
          refine hK.out _ _ (hS2.setCell (p := ⟨gc, 3, none⟩) (Nat.le_refl _) _) (fun hS3 => ?_)
          clear hK K
          try simp only [Act.put, List.setIfInBounds_toArray, List.set_cons_zero, List.set_cons_succ]
          refine wpAnyH_done (by kernel_rfl) ?_ _
          have hWy := Lib.hid (hWx.out.put hgl2 hwg (.slice A4 (k + 1) c4))
          have hoy := Lib.hid (own_chg ho ((Chg.refl (· = gc) w').setCell (p := ⟨gc, 3, none⟩) (fun _ => rfl) (.slice A4 (k + 1) c4)) (fun i hi => by have := (ho.lt i hi).1; omega))
          clear kx fx hS0 hS2 hS3 ho hbl hgr
          generalize w'.setCell ⟨gc, 3, none⟩ (.slice A4 (k + 1) c4) = Wy at *
          go_wp2_with fail
          go_roundw
          case rel => exact ⟨k + 1, A4, c4, by omega, by go_num, fun j hj h => by
            by_cases e : j = k
            · subst e; exact hlk.out
            · exact hlow.out j hj (by omega), by rw [hfl.out] at hoy; exact hoy.out, hWy.out⟩
          case measure => simp [intOf]; omega
        · go_simp
          refine hK.out _ _ hSU (fun hS1 => ?_)
          clear hK K
          try simp only [Act.put, List.setIfInBounds_toArray, List.set_cons_zero, List.set_cons_succ]
          generalize (wr.alloc (.cells #[.string x.nm, .int .i64 x.ver, .int .i64 x.wt, .int .i64 x.fl] 44)).drew = U at *
          refine wpAnyH_ready (rs := [1]) (by kernel_rfl) (by simp) ?_
          refine AllReadyH.cons (o := ⟨some 29, _, _, _, _, _⟩) rfl (fun K hK => ?_) AllReadyH.nil
          go_simp
          refine hK.out _ _ hSU (fun hS1 => ?_)
          clear hK K kU
          try simp only [Act.put, List.setIfInBounds_toArray, List.set_cons_zero, List.set_cons_succ]
          refine wpAnyH_ready (rs := [8]) (by kernel_rfl) (by simp) ?_
          refine AllReadyH.cons (o := ⟨some 36, _, _, _, _, _⟩) rfl (fun K hK => ?_) AllReadyH.nil
          refine ite_wanted rfl (op_append (.tmp 29) (.tmp 35) _ rfl line_slice line_inf rfl (by omega) rfl hoU rfl hrU (Line.one x) (by unfold maxLen; omega) (by omega) hWU.out.sz (fun v' w' ho hbl hgr => ?_))
          obtain ⟨A4, c4, rfl, hc4⟩ := own_slice' ho
          have hWx := Lib.hid (hWU.out.next hgl2 hwg hbl)
          refine hK.out _ _ (hSU.trans (hbl.mono (by omega))) (fun hS2 => ?_)
          clear hK K
          try simp only [Act.put, List.setIfInBounds_toArray, List.set_cons_zero, List.set_cons_succ]
          (refine wpAnyH_take (i := 9) (oi := ⟨some 37, _, _, _, _, _⟩) rfl (by kernel_rfl) (by kernel_rfl) (by kernel_rfl) (fun _ _ _ h => h) (.inl ⟨rfl, fun _ _ => rfl⟩) (by assumption) ?_); try simp only [Act.put, List.setIfInBounds_toArray, List.set_cons_zero, List.set_cons_succ]
          have kx := hWx.out.b3.cell 3
          simp only [List.getElem?_toArray, List.getElem?_cons_zero, List.getElem?_cons_succ] at kx
          have fx := hWx.out.b3.frozen 3
          refine wpAnyH_ready (rs := [10]) (by kernel_rfl) (by simp) ?_
          refine AllReadyH.cons (o := ⟨none, _, _, _, _, _⟩) rfl (fun K hK => ?_) AllReadyH.nil
          go_simp
          refine hK.out _ _ (hS2.setCell (p := ⟨gc, 3, none⟩) (Nat.le_refl _) _) (fun hS3 => ?_)
          clear hK K
          try simp only [Act.put, List.setIfInBounds_toArray, List.set_cons_zero, List.set_cons_succ]
          refine wpAnyH_done (by kernel_rfl) ?_ _
          have hWy := Lib.hid (hWx.out.put hgl2 hwg (.slice A4 (k + 1) c4))
          have hoy := Lib.hid (own_chg ho ((Chg.refl (· = gc) w').setCell (p := ⟨gc, 3, none⟩) (fun _ => rfl) (.slice A4 (k + 1) c4)) (fun i hi => by have := (ho.lt i hi).1; omega))
          clear kx fx hS0 hS2 hS3 ho hbl hgr
          generalize w'.setCell ⟨gc, 3, none⟩ (.slice A4 (k + 1) c4) = Wy at *
          go_wp2_with fail
          go_roundw
          case rel => exact ⟨k + 1, A4, c4, by omega, by go_num, fun j hj h => by
            by_cases e : j = k
            · subst e; exact hlk.out
            · exact hlow.out j hj (by omega), by rw [hfl.out] at hoy; exact hoy.out, hWy.out⟩
          case measure => simp [intOf]; omega
    · have hke : k = ls.length := by omega
      have hseek : seekL ls nm = k := seekL_eq hk hlow.out (fun hk' => by omega)
      have hhas : Hid (hasL ls nm = false) := Lib.hid (by unfold hasL; rw [hseek, hke]; simp)
      replace hseek := Lib.hid hseek
      replace hW := Lib.hid hW
      replace hown := Lib.hid hown
      have hge : ¬ (k : Int) < (ls.length : Int) := by omega
      replace hke := Lib.hid hke
      obtain ⟨r0, r1, r2⟩ : _ ∧ _ ∧ _ := ⟨hW.out.b1.cell 0, hW.out.b1.cell 1, hW.out.b1.cell 2⟩
      simp only [List.getElem?_toArray, List.getElem?_cons_zero, List.getElem?_cons_succ] at r0 r1 r2
      cases A with
      | none =>
        have hzR := reg_nz ver wt fl hz.out
        cases z
        · by_cases h8 : ls.length < 8
          · have h8' : ¬ (8 : Int) ≤ (ls.length : Int) := by omega
            have hoU := own_below hown.out ((Below.refl wr.heap.size wr).alloc (Nat.le_refl _) (.cells #[.string nm, .int .i64 ver, .int .i64 wt, .int .i64 fl] 44)) (fun i hi => (hown.out.lt i hi).2)
            have hNU : Blk (wr.alloc (.cells #[.string nm, .int .i64 ver, .int .i64 wt, .int .i64 fl] 44)) wr.heap.size 44 #[.string nm, .int .i64 ver, .int .i64 wt, .int .i64 fl] := Blk.new _ _ _
            have hrU : Reads (wr.alloc (.cells #[.string nm, .int .i64 ver, .int .i64 wt, .int .i64 fl] 44)) (wr.alloc (.cells #[.string nm, .int .i64 ver, .int .i64 wt, .int .i64 fl] 44)).heap.size 4 (some ⟨wr.heap.size, 0, none⟩) 1 (Line.cells ⟨nm, ver, wt, fl⟩) := Reads.of_blk hNU rfl (fun j u h => by simpa [Line.cells] using h)
            have hWU := Lib.hid (hW.out.next hgl2 hwg ((Below.refl (gc + 1) wr).alloc hW.out.sz (.cells #[.string nm, .int .i64 ver, .int .i64 wt, .int .i64 fl] 44)))
            have ew : IntKind.i64.wrap ((k : Int) + 1) = ((k + 1 : Nat) : Int) := by rw [IntKind.wrap_i64]; omega
            go_wp2_with ((with_reducible refine go_append_at (c := 1) line_slice line_inf hoU hrU (Line.one _) ?a0 ?a1 ?a2 ?a3 ?a4 ?a5 ?a6 ?_); (case a0 => exact hWU.out.sz); (case a1 => rfl); (case a2 => rfl); (case a3 => rfl); (case a4 => omega); (case a5 => unfold maxLen; omega); (case a6 => omega); rintro v4 w4 g1 g2 - -; obtain ⟨A4, c4, rfl, hc4⟩ := own_slice' g1; have hWx := Lib.hid (hWU.out.next hgl2 hwg g2); have kx := hWx.out.b3.cell 3; simp only [List.getElem?_toArray, List.getElem?_cons_zero, List.getElem?_cons_succ] at kx; have fx := hWx.out.b3.frozen 3; clear g2)
            have hWv := Lib.hid (show Writ w _ g gc _ _ #[.int .i64 p, .int .i64 bo, .int .i64 li, .slice A4 (k + 1) c4, .bool pe, .int .i64 mi] from hWx.out.put hgl2 hwg (.slice A4 (k + 1) c4))
            have hov := own_chg g1 ((Chg.refl (· = gc) w4).setCell (p := ⟨gc, 3, none⟩) (fun _ => rfl) (.slice A4 (k + 1) c4)) (fun i hi => by have := (g1.lt i hi).1; omega)
            clear g1 hWx kx fx hrU hNU hoU hWU hzR k3 kc
            generalize w4.setCell ⟨gc, 3, none⟩ (.slice A4 (k + 1) c4) = Wv at *
            have hjl : k ≤ ls.length := by omega
            have kv := hWv.out.b3.cell 3
            have kg := hWv.out.b0.cell 3
            simp only [List.getElem?_toArray, List.getElem?_cons_zero, List.getElem?_cons_succ] at kv kg
            have hrv := reads_from (LinesAt.below hI (hWv.out.bel.trans ((Below.refl _ Wv).drew.mono hWv.out.bel.size))) hc hjl
            have hjz : ¬ ls.length < k := by omega
            have hjc : k ≤ c := by omega
            have hAn : Hid ((none : Option Addr) = none → ls.length = 0) := Lib.hid (LinesAt.none hI)
            refine wp_region_held_drew (S := fun W => Below gc Wv W) (by kernel_rfl) ((Below.refl _ _).drew) (fun hS0 => ?_)
            (refine wpAnyH_take (i := 0) (oi := ⟨some 84, _, _, _, _, _⟩) rfl (by kernel_rfl) (by kernel_rfl) (by kernel_rfl) (fun _ _ _ h => h) (.inl ⟨rfl, fun _ _ => rfl⟩) (by assumption) ?_); try simp only [Act.put, List.setIfInBounds_toArray, List.set_cons_zero, List.set_cons_succ]
            (refine wpAnyH_take (i := 2) (oi := ⟨some 86, _, _, _, _, _⟩) rfl (by kernel_rfl) (by kernel_rfl) (by kernel_rfl) (fun _ _ _ h => h) (.inl ⟨rfl, fun _ _ => rfl⟩) (by assumption) ?_); try simp only [Act.put, List.setIfInBounds_toArray, List.set_cons_zero, List.set_cons_succ]
            (refine wpAnyH_take (i := 3) (oi := ⟨some 87, _, _, _, _, _⟩) rfl (by kernel_rfl) (by kernel_rfl) (by kernel_rfl) (fun _ _ _ h => h) (.inl ⟨rfl, fun W hS => by (have c0 := (hS.cell (p := ⟨g, 3, none⟩) hgl).trans kg); go_simp; try rfl⟩) (by assumption) ?_); try simp only [Act.put, List.setIfInBounds_toArray, List.set_cons_zero, List.set_cons_succ]
            (refine wpAnyH_take (i := 4) (oi := ⟨some 88, _, _, _, _, _⟩) rfl (by kernel_rfl) (by kernel_rfl) (by kernel_rfl) (fun _ _ _ h => h) (.inl ⟨rfl, fun _ _ => rfl⟩) (by assumption) ?_); try simp only [Act.put, List.setIfInBounds_toArray, List.set_cons_zero, List.set_cons_succ]
            (refine wpAnyH_take (i := 5) (oi := ⟨some 89, _, _, _, _, _⟩) (v := .slice (fromA (none : Option Addr) c k) (ls.length - k) (c - k)) rfl (by kernel_rfl) (by kernel_rfl) (by kernel_rfl) (fun _ _ _ h => h) (.inl ⟨rfl, fun W hS => by have hAn' := hAn.out; go_simp; (first | (rw [if_pos (by first | omega | (constructor <;> omega))]; first | rfl | (simp [fromA, ed_add_plain]; done)) | rfl | (have hk0 : k = 0 := (by have := hke.out; have := hAn' rfl; omega); simp [fromA, hk0]; done) | (simp [fromA, ed_add_plain]; done))⟩) (by assumption) ?_); try simp only [Act.put, List.setIfInBounds_toArray, List.set_cons_zero, List.set_cons_succ]
            -- effect at 1: Go.Op.load 22 (Go.Operand.tmp 84)
            refine wpAnyH_ready (rs := [1]) (by kernel_rfl) (by simp) ?_
            refine AllReadyH.cons (o := ⟨some 85, _, _, _, _, _⟩) rfl (fun K hK => ?_) AllReadyH.nil
            go_simp
            refine hK.out _ _ hS0 (fun hS1 => ?_)
            clear hK K
            try simp only [Act.put, List.setIfInBounds_toArray, List.set_cons_zero, List.set_cons_succ]
            refine wpAnyH_ready (rs := [6]) (by kernel_rfl) (by simp) ?_
            refine AllReadyH.cons (o := ⟨some 90, _, _, _, _, _⟩) rfl (fun K hK => ?_) AllReadyH.nil
            refine ite_wanted rfl (op_append (.tmp 85) (.tmp 89) _ rfl line_slice line_inf rfl (by omega) rfl (own_below hov (Below.refl _ Wv).drew (fun i hi => (hov.lt i hi).2)) rfl hrv (flat_one _ Line.one _) (by unfold maxLen; omega) (by omega) hWv.out.sz (fun v' w' ho hbl hgr => ?_))
            obtain ⟨N5, hN5⟩ : ∃ n, k + 1 + (ls.length - k) = n := ⟨_, rfl⟩
            rw [hN5] at ho
            replace hN5 := Lib.hid hN5
            obtain ⟨A5, c5, rfl, hc5⟩ := own_slice' ho
            have hWx := Lib.hid (hWv.out.next hgl2 hwg ((Below.refl (gc + 1) Wv).drew.trans hbl))
            refine hK.out _ _ (hS1.trans (hbl.mono (by omega))) (fun hS2 => ?_)
            clear hK K
            try simp only [Act.put, List.setIfInBounds_toArray, List.set_cons_zero, List.set_cons_succ]
            (refine wpAnyH_take (i := 7) (oi := ⟨some 91, _, _, _, _, _⟩) rfl (by kernel_rfl) (by kernel_rfl) (by kernel_rfl) (fun _ _ _ h => h) (.inl ⟨rfl, fun _ _ => rfl⟩) (by assumption) ?_); try simp only [Act.put, List.setIfInBounds_toArray, List.set_cons_zero, List.set_cons_succ]
            have kx := hWx.out.b3.cell 3
            simp only [List.getElem?_toArray, List.getElem?_cons_zero, List.getElem?_cons_succ] at kx
            have fx := hWx.out.b3.frozen 3
            refine wpAnyH_ready (rs := [8]) (by kernel_rfl) (by simp) ?_
            refine AllReadyH.cons (o := ⟨none, _, _, _, _, _⟩) rfl (fun K hK => ?_) AllReadyH.nil
            go_simp
            refine hK.out _ _ (hS2.setCell (p := ⟨gc, 3, none⟩) (Nat.le_refl _) _) (fun hS3 => ?_)
            clear hK K
            try simp only [Act.put, List.setIfInBounds_toArray, List.set_cons_zero, List.set_cons_succ]
            refine wpAnyH_done (by kernel_rfl) ?_ _
            have hWy := Lib.hid (show Writ w _ g gc _ _ #[.int .i64 p, .int .i64 bo, .int .i64 li, .slice A5 N5 c5, .bool pe, .int .i64 mi] from hWx.out.put hgl2 hwg (.slice A5 N5 c5))
            have hoy := Lib.hid (own_chg ho ((Chg.refl (· = gc) w').setCell (p := ⟨gc, 3, none⟩) (fun _ => rfl) (.slice A5 N5 c5)) (fun i hi => by have := (ho.lt i hi).1; omega))
            clear kx fx hS0 hS1 hS2 hS3 ho hbl hgr kv kg
            generalize w'.setCell ⟨gc, 3, none⟩ (.slice A5 N5 c5) = Wy at *
            obtain ⟨k0, k1, k2, k3, k4, k5⟩ := cells6 hWy.out.b3
            go_wp2_with ((with_reducible refine go_store_as (off := 0) (vs := #[.int .i64 p, .int .i64 bo, .int .i64 li, .slice A5 N5 c5, .bool pe, .int .i64 mi]) #[.int .i64 p, .int .i64 bo, .int .i64 li, .slice A5 N5 c5, .bool pe, .int .i64 mi] agg_Half hWy.out.b2 ?b1 ?b2 ?b3 ?b4 ?b5 ?b6 ?_); (case b1 => rfl); (case b2 => rfl); (case b3 => rfl); (case b4 => simp); (case b5 => simp [Value.oneCell']); (case b6 => rfl); (intro w5 hB5 hC5))
            refine bodyPost_ret (results_blk rfl agg_Half hB5 rfl) rfl ?_
            have hres2 : res = ls.take k ++ ⟨nm, ver, wt, fl⟩ :: ls.drop k := by
              have h := hres.out
              rw [hhas.out, hseek.out] at h
              first | (simpa using h.symm) | (simp [show ls.length < 8 from by assumption] at h; exact h.symm)
            have hrl : res.length = N5 := by
              rw [hres2, ← hN5.out]
              simp
              omega
            have hoz : Wy.ownsRow (gc + 1) 44 4 (.slice A5 N5 c5) N5 (flat Line.cells res) := by
              rw [hres2]
              simpa only [flat_append, flat_cons, List.append_assoc] using hoy.out
            refine ⟨A5, c5, by simp only [HV.val]; rw [hrl], by simp only []; rw [hrl]; exact hc5, ?_, hWy.out.bel.trans (hC5.below (fun i h => by have := hg.out; omega) hWy.out.bel.size)⟩
            simp only []
            rw [hrl]
            exact World.ownsRow.mono (own_chg hoz hC5 fun i hi => by have := (hoz.lt i hi).1; omega) (by omega)
          · have h8' : (8 : Int) ≤ (ls.length : Int) := by omega
            obtain ⟨k0, k1, k2, k3, k4, k5⟩ := cells6 hW.out.b0
            go_wp2_with fail
            refine (refOne_any _ p bo li ls (none : Option Addr) c pe mi (by omega) (Reads.more (Reads.below hI hW.out.bel) hW.out.bel.size)).mono ?_
            rintro e w6 ⟨A6, c6, rfl, hc6, hown6, h6⟩
            simp only [HV.val] at hown6 hc6 ⊢
            have hZ6 := hW.out.b2.below h6 hW.out.b2.lt
            have hbs := hW.out.bel.size
            have hl2 := hW.out.b2.lt
            have hb6 := hW.out.bel.trans (h6.mono hW.out.bel.size)
            go_wp2_with ((with_reducible refine go_store_as (off := 0) (vs := #[.int .i64 p, .int .i64 bo, .int .i64 li, .slice A6 ls.length c6, .bool pe, .int .i64 mi]) #[.int .i64 p, .int .i64 bo, .int .i64 li, .slice A6 ls.length c6, .bool pe, .int .i64 mi] agg_Half hZ6 ?b1 ?b2 ?b3 ?b4 ?b5 ?b6 ?_); (case b1 => rfl); (case b2 => rfl); (case b3 => rfl); (case b4 => simp); (case b5 => simp [Value.oneCell']); (case b6 => rfl); (intro w7 hB7 hC7))
            refine bodyPost_ret (results_blk rfl agg_Half hB7 rfl) rfl ?_
            have hres2 : res = ls := by
              have h := hres.out
              rw [hhas.out, hseek.out] at h
              simp [h8] at h
              exact h.symm
            subst hres2
            exact ⟨A6, c6, rfl, hc6, World.ownsRow.mono (own_chg hown6 hC7 fun i hi => by have := (hown6.lt i hi).1; omega) hbs, hb6.trans (hC7.below (fun i h => by have := hg.out; omega) hb6.size)⟩
        · have ew : IntKind.i64.wrap ((k : Int) + 1) = ((k + 1 : Nat) : Int) := by rw [IntKind.wrap_i64]; omega
          go_wp2_with fail
          have hWv := hW
          have hov := hown.out
          clear hzR k3 kc
          have hjl : k ≤ ls.length := by omega
          have kv := hWv.out.b3.cell 3
          have kg := hWv.out.b0.cell 3
          simp only [List.getElem?_toArray, List.getElem?_cons_zero, List.getElem?_cons_succ] at kv kg
          have hrv := reads_from (LinesAt.below hI (hWv.out.bel.trans ((Below.refl _ wr).drew.mono hWv.out.bel.size))) hc hjl
          have hjz : ¬ ls.length < k := by omega
          have hjc : k ≤ c := by omega
          have hAn : Hid ((none : Option Addr) = none → ls.length = 0) := Lib.hid (LinesAt.none hI)
          refine wp_region_held_drew (S := fun W => Below gc wr W) (by kernel_rfl) ((Below.refl _ _).drew) (fun hS0 => ?_)
          (refine wpAnyH_take (i := 0) (oi := ⟨some 84, _, _, _, _, _⟩) rfl (by kernel_rfl) (by kernel_rfl) (by kernel_rfl) (fun _ _ _ h => h) (.inl ⟨rfl, fun _ _ => rfl⟩) (by assumption) ?_); try simp only [Act.put, List.setIfInBounds_toArray, List.set_cons_zero, List.set_cons_succ]
          (refine wpAnyH_take (i := 2) (oi := ⟨some 86, _, _, _, _, _⟩) rfl (by kernel_rfl) (by kernel_rfl) (by kernel_rfl) (fun _ _ _ h => h) (.inl ⟨rfl, fun _ _ => rfl⟩) (by assumption) ?_); try simp only [Act.put, List.setIfInBounds_toArray, List.set_cons_zero, List.set_cons_succ]
          (refine wpAnyH_take (i := 3) (oi := ⟨some 87, _, _, _, _, _⟩) rfl (by kernel_rfl) (by kernel_rfl) (by kernel_rfl) (fun _ _ _ h => h) (.inl ⟨rfl, fun W hS => by (have c0 := (hS.cell (p := ⟨g, 3, none⟩) hgl).trans kg); go_simp; try rfl⟩) (by assumption) ?_); try simp only [Act.put, List.setIfInBounds_toArray, List.set_cons_zero, List.set_cons_succ]
          (refine wpAnyH_take (i := 4) (oi := ⟨some 88, _, _, _, _, _⟩) rfl (by kernel_rfl) (by kernel_rfl) (by kernel_rfl) (fun _ _ _ h => h) (.inl ⟨rfl, fun _ _ => rfl⟩) (by assumption) ?_); try simp only [Act.put, List.setIfInBounds_toArray, List.set_cons_zero, List.set_cons_succ]
          (refine wpAnyH_take (i := 5) (oi := ⟨some 89, _, _, _, _, _⟩) (v := .slice (fromA (none : Option Addr) c k) (ls.length - k) (c - k)) rfl (by kernel_rfl) (by kernel_rfl) (by kernel_rfl) (fun _ _ _ h => h) (.inl ⟨rfl, fun W hS => by have hAn' := hAn.out; go_simp; (first | (rw [if_pos (by first | omega | (constructor <;> omega))]; first | rfl | (simp [fromA, ed_add_plain]; done)) | rfl | (have hk0 : k = 0 := (by have := hke.out; have := hAn' rfl; omega); simp [fromA, hk0]; done) | (simp [fromA, ed_add_plain]; done))⟩) (by assumption) ?_); try simp only [Act.put, List.setIfInBounds_toArray, List.set_cons_zero, List.set_cons_succ]
          -- effect at 1: Go.Op.load 22 (Go.Operand.tmp 84)
          refine wpAnyH_ready (rs := [1]) (by kernel_rfl) (by simp) ?_
          refine AllReadyH.cons (o := ⟨some 85, _, _, _, _, _⟩) rfl (fun K hK => ?_) AllReadyH.nil
          go_simp
          refine hK.out _ _ hS0 (fun hS1 => ?_)
          clear hK K
          try simp only [Act.put, List.setIfInBounds_toArray, List.set_cons_zero, List.set_cons_succ]
          refine wpAnyH_ready (rs := [6]) (by kernel_rfl) (by simp) ?_
          refine AllReadyH.cons (o := ⟨some 90, _, _, _, _, _⟩) rfl (fun K hK => ?_) AllReadyH.nil
          refine ite_wanted rfl (op_append (.tmp 85) (.tmp 89) _ rfl line_slice line_inf rfl (by omega) rfl (own_below hov (Below.refl _ wr).drew (fun i hi => (hov.lt i hi).2)) rfl hrv (flat_one _ Line.one _) (by unfold maxLen; omega) (by omega) hWv.out.sz (fun v' w' ho hbl hgr => ?_))
          obtain ⟨N5, hN5⟩ : ∃ n, k + (ls.length - k) = n := ⟨_, rfl⟩
          rw [hN5] at ho
          replace hN5 := Lib.hid hN5
          obtain ⟨A5, c5, rfl, hc5⟩ := own_slice' ho
          have hWx := Lib.hid (hWv.out.next hgl2 hwg ((Below.refl (gc + 1) wr).drew.trans hbl))
          refine hK.out _ _ (hS1.trans (hbl.mono (by omega))) (fun hS2 => ?_)
          clear hK K
          try simp only [Act.put, List.setIfInBounds_toArray, List.set_cons_zero, List.set_cons_succ]
          (refine wpAnyH_take (i := 7) (oi := ⟨some 91, _, _, _, _, _⟩) rfl (by kernel_rfl) (by kernel_rfl) (by kernel_rfl) (fun _ _ _ h => h) (.inl ⟨rfl, fun _ _ => rfl⟩) (by assumption) ?_); try simp only [Act.put, List.setIfInBounds_toArray, List.set_cons_zero, List.set_cons_succ]
          have kx := hWx.out.b3.cell 3
          simp only [List.getElem?_toArray, List.getElem?_cons_zero, List.getElem?_cons_succ] at kx
          have fx := hWx.out.b3.frozen 3
          refine wpAnyH_ready (rs := [8]) (by kernel_rfl) (by simp) ?_
          refine AllReadyH.cons (o := ⟨none, _, _, _, _, _⟩) rfl (fun K hK => ?_) AllReadyH.nil
          go_simp
          refine hK.out _ _ (hS2.setCell (p := ⟨gc, 3, none⟩) (Nat.le_refl _) _) (fun hS3 => ?_)
          clear hK K
          try simp only [Act.put, List.setIfInBounds_toArray, List.set_cons_zero, List.set_cons_succ]
          refine wpAnyH_done (by kernel_rfl) ?_ _
          have hWy := Lib.hid (show Writ w _ g gc _ _ #[.int .i64 p, .int .i64 bo, .int .i64 li, .slice A5 N5 c5, .bool pe, .int .i64 mi] from hWx.out.put hgl2 hwg (.slice A5 N5 c5))
          have hoy := Lib.hid (own_chg ho ((Chg.refl (· = gc) w').setCell (p := ⟨gc, 3, none⟩) (fun _ => rfl) (.slice A5 N5 c5)) (fun i hi => by have := (ho.lt i hi).1; omega))
          clear kx fx hS0 hS1 hS2 hS3 ho hbl hgr kv kg
          generalize w'.setCell ⟨gc, 3, none⟩ (.slice A5 N5 c5) = Wy at *
          obtain ⟨k0, k1, k2, k3, k4, k5⟩ := cells6 hWy.out.b3
          go_wp2_with ((with_reducible refine go_store_as (off := 0) (vs := #[.int .i64 p, .int .i64 bo, .int .i64 li, .slice A5 N5 c5, .bool pe, .int .i64 mi]) #[.int .i64 p, .int .i64 bo, .int .i64 li, .slice A5 N5 c5, .bool pe, .int .i64 mi] agg_Half hWy.out.b2 ?b1 ?b2 ?b3 ?b4 ?b5 ?b6 ?_); (case b1 => rfl); (case b2 => rfl); (case b3 => rfl); (case b4 => simp); (case b5 => simp [Value.oneCell']); (case b6 => rfl); (intro w5 hB5 hC5))
          refine bodyPost_ret (results_blk rfl agg_Half hB5 rfl) rfl ?_
          have hres2 : res = ls.take k ++ ls.drop k := by
            have h := hres.out
            rw [hhas.out, hseek.out] at h
            first | (simpa using h.symm) | (simp [show ls.length < 8 from by assumption] at h; exact h.symm)
          have hrl : res.length = N5 := by
            rw [hres2, ← hN5.out]
            simp
            omega
          have hoz : Wy.ownsRow (gc + 1) 44 4 (.slice A5 N5 c5) N5 (flat Line.cells res) := by
            rw [hres2]
            simpa only [flat_append, flat_cons, List.append_assoc] using hoy.out
          refine ⟨A5, c5, by simp only [HV.val]; rw [hrl], by simp only []; rw [hrl]; exact hc5, ?_, hWy.out.bel.trans (hC5.below (fun i h => by have := hg.out; omega) hWy.out.bel.size)⟩
          simp only []
          rw [hrl]
          exact World.ownsRow.mono (own_chg hoz hC5 fun i hi => by have := (hoz.lt i hi).1; omega) (by omega)
      | some ad =>
        obtain ⟨ab, ao, ax⟩ := ad
        have hzR := reg_nz ver wt fl hz.out
        cases z
        · by_cases h8 : ls.length < 8
          · have h8' : ¬ (8 : Int) ≤ (ls.length : Int) := by omega
            have hoU := own_below hown.out ((Below.refl wr.heap.size wr).alloc (Nat.le_refl _) (.cells #[.string nm, .int .i64 ver, .int .i64 wt, .int .i64 fl] 44)) (fun i hi => (hown.out.lt i hi).2)
            have hNU : Blk (wr.alloc (.cells #[.string nm, .int .i64 ver, .int .i64 wt, .int .i64 fl] 44)) wr.heap.size 44 #[.string nm, .int .i64 ver, .int .i64 wt, .int .i64 fl] := Blk.new _ _ _
            have hrU : Reads (wr.alloc (.cells #[.string nm, .int .i64 ver, .int .i64 wt, .int .i64 fl] 44)) (wr.alloc (.cells #[.string nm, .int .i64 ver, .int .i64 wt, .int .i64 fl] 44)).heap.size 4 (some ⟨wr.heap.size, 0, none⟩) 1 (Line.cells ⟨nm, ver, wt, fl⟩) := Reads.of_blk hNU rfl (fun j u h => by simpa [Line.cells] using h)
            have hWU := Lib.hid (hW.out.next hgl2 hwg ((Below.refl (gc + 1) wr).alloc hW.out.sz (.cells #[.string nm, .int .i64 ver, .int .i64 wt, .int .i64 fl] 44)))
            have ew : IntKind.i64.wrap ((k : Int) + 1) = ((k + 1 : Nat) : Int) := by rw [IntKind.wrap_i64]; omega
            go_wp2_with ((with_reducible refine go_append_at (c := 1) line_slice line_inf hoU hrU (Line.one _) ?a0 ?a1 ?a2 ?a3 ?a4 ?a5 ?a6 ?_); (case a0 => exact hWU.out.sz); (case a1 => rfl); (case a2 => rfl); (case a3 => rfl); (case a4 => omega); (case a5 => unfold maxLen; omega); (case a6 => omega); rintro v4 w4 g1 g2 - -; obtain ⟨A4, c4, rfl, hc4⟩ := own_slice' g1; have hWx := Lib.hid (hWU.out.next hgl2 hwg g2); have kx := hWx.out.b3.cell 3; simp only [List.getElem?_toArray, List.getElem?_cons_zero, List.getElem?_cons_succ] at kx; have fx := hWx.out.b3.frozen 3; clear g2)
            have hWv := Lib.hid (show Writ w _ g gc _ _ #[.int .i64 p, .int .i64 bo, .int .i64 li, .slice A4 (k + 1) c4, .bool pe, .int .i64 mi] from hWx.out.put hgl2 hwg (.slice A4 (k + 1) c4))
            have hov := own_chg g1 ((Chg.refl (· = gc) w4).setCell (p := ⟨gc, 3, none⟩) (fun _ => rfl) (.slice A4 (k + 1) c4)) (fun i hi => by have := (g1.lt i hi).1; omega)
            clear g1 hWx kx fx hrU hNU hoU hWU hzR k3 kc
            generalize w4.setCell ⟨gc, 3, none⟩ (.slice A4 (k + 1) c4) = Wv at *
            have hjl : k ≤ ls.length := by omega
            have kv := hWv.out.b3.cell 3
            have kg := hWv.out.b0.cell 3
            simp only [List.getElem?_toArray, List.getElem?_cons_zero, List.getElem?_cons_succ] at kv kg
            have hrv := reads_from (LinesAt.below hI (hWv.out.bel.trans ((Below.refl _ Wv).drew.mono hWv.out.bel.size))) hc hjl
            have hjz : ¬ ls.length < k := by omega
            have hjc : k ≤ c := by omega
            have hAn : Hid ((some ⟨ab, ao, ax⟩ : Option Addr) = none → ls.length = 0) := Lib.hid (LinesAt.none hI)
            refine wp_region_held_drew (S := fun W => Below gc Wv W) (by kernel_rfl) ((Below.refl _ _).drew) (fun hS0 => ?_)
            (refine wpAnyH_take (i := 0) (oi := ⟨some 84, _, _, _, _, _⟩) rfl (by kernel_rfl) (by kernel_rfl) (by kernel_rfl) (fun _ _ _ h => h) (.inl ⟨rfl, fun _ _ => rfl⟩) (by assumption) ?_); try simp only [Act.put, List.setIfInBounds_toArray, List.set_cons_zero, List.set_cons_succ]
            (refine wpAnyH_take (i := 2) (oi := ⟨some 86, _, _, _, _, _⟩) rfl (by kernel_rfl) (by kernel_rfl) (by kernel_rfl) (fun _ _ _ h => h) (.inl ⟨rfl, fun _ _ => rfl⟩) (by assumption) ?_); try simp only [Act.put, List.setIfInBounds_toArray, List.set_cons_zero, List.set_cons_succ]
            (refine wpAnyH_take (i := 3) (oi := ⟨some 87, _, _, _, _, _⟩) rfl (by kernel_rfl) (by kernel_rfl) (by kernel_rfl) (fun _ _ _ h => h) (.inl ⟨rfl, fun W hS => by (have c0 := (hS.cell (p := ⟨g, 3, none⟩) hgl).trans kg); go_simp; try rfl⟩) (by assumption) ?_); try simp only [Act.put, List.setIfInBounds_toArray, List.set_cons_zero, List.set_cons_succ]
            (refine wpAnyH_take (i := 4) (oi := ⟨some 88, _, _, _, _, _⟩) rfl (by kernel_rfl) (by kernel_rfl) (by kernel_rfl) (fun _ _ _ h => h) (.inl ⟨rfl, fun _ _ => rfl⟩) (by assumption) ?_); try simp only [Act.put, List.setIfInBounds_toArray, List.set_cons_zero, List.set_cons_succ]
            (refine wpAnyH_take (i := 5) (oi := ⟨some 89, _, _, _, _, _⟩) (v := .slice (fromA (some ⟨ab, ao, ax⟩ : Option Addr) c k) (ls.length - k) (c - k)) rfl (by kernel_rfl) (by kernel_rfl) (by kernel_rfl) (fun _ _ _ h => h) (.inl ⟨rfl, fun W hS => by have hAn' := hAn.out; go_simp; (first | (rw [if_pos (by first | omega | (constructor <;> omega))]; first | rfl | (simp [fromA, ed_add_plain]; done)) | rfl | (have hk0 : k = 0 := (by have := hke.out; have := hAn' rfl; omega); simp [fromA, hk0]; done) | (simp [fromA, ed_add_plain]; done))⟩) (by assumption) ?_); try simp only [Act.put, List.setIfInBounds_toArray, List.set_cons_zero, List.set_cons_succ]
            -- effect at 1: Go.Op.load 22 (Go.Operand.tmp 84)
            refine wpAnyH_ready (rs := [1]) (by kernel_rfl) (by simp) ?_
            refine AllReadyH.cons (o := ⟨some 85, _, _, _, _, _⟩) rfl (fun K hK => ?_) AllReadyH.nil
            go_simp
            refine hK.out _ _ hS0 (fun hS1 => ?_)
            clear hK K
            try simp only [Act.put, List.setIfInBounds_toArray, List.set_cons_zero, List.set_cons_succ]
            refine wpAnyH_ready (rs := [6]) (by kernel_rfl) (by simp) ?_
            refine AllReadyH.cons (o := ⟨some 90, _, _, _, _, _⟩) rfl (fun K hK => ?_) AllReadyH.nil
            refine ite_wanted rfl (op_append (.tmp 85) (.tmp 89) _ rfl line_slice line_inf rfl (by omega) rfl (own_below hov (Below.refl _ Wv).drew (fun i hi => (hov.lt i hi).2)) rfl hrv (flat_one _ Line.one _) (by unfold maxLen; omega) (by omega) hWv.out.sz (fun v' w' ho hbl hgr => ?_))
            obtain ⟨N5, hN5⟩ : ∃ n, k + 1 + (ls.length - k) = n := ⟨_, rfl⟩
            rw [hN5] at ho
            replace hN5 := Lib.hid hN5
            obtain ⟨A5, c5, rfl, hc5⟩ := own_slice' ho
            have hWx := Lib.hid (hWv.out.next hgl2 hwg ((Below.refl (gc + 1) Wv).drew.trans hbl))
            refine hK.out _ _ (hS1.trans (hbl.mono (by omega))) (fun hS2 => ?_)
            clear hK K
            try simp only [Act.put, List.setIfInBounds_toArray, List.set_cons_zero, List.set_cons_succ]
            (refine wpAnyH_take (i := 7) (oi := ⟨some 91, _, _, _, _, _⟩) rfl (by kernel_rfl) (by kernel_rfl) (by kernel_rfl) (fun _ _ _ h => h) (.inl ⟨rfl, fun _ _ => rfl⟩) (by assumption) ?_); try simp only [Act.put, List.setIfInBounds_toArray, List.set_cons_zero, List.set_cons_succ]
            have kx := hWx.out.b3.cell 3
            simp only [List.getElem?_toArray, List.getElem?_cons_zero, List.getElem?_cons_succ] at kx
            have fx := hWx.out.b3.frozen 3
            refine wpAnyH_ready (rs := [8]) (by kernel_rfl) (by simp) ?_
            refine AllReadyH.cons (o := ⟨none, _, _, _, _, _⟩) rfl (fun K hK => ?_) AllReadyH.nil
            go_simp
            refine hK.out _ _ (hS2.setCell (p := ⟨gc, 3, none⟩) (Nat.le_refl _) _) (fun hS3 => ?_)
            clear hK K
            try simp only [Act.put, List.setIfInBounds_toArray, List.set_cons_zero, List.set_cons_succ]
            refine wpAnyH_done (by kernel_rfl) ?_ _
            have hWy := Lib.hid (show Writ w _ g gc _ _ #[.int .i64 p, .int .i64 bo, .int .i64 li, .slice A5 N5 c5, .bool pe, .int .i64 mi] from hWx.out.put hgl2 hwg (.slice A5 N5 c5))
            have hoy := Lib.hid (own_chg ho ((Chg.refl (· = gc) w').setCell (p := ⟨gc, 3, none⟩) (fun _ => rfl) (.slice A5 N5 c5)) (fun i hi => by have := (ho.lt i hi).1; omega))
            clear kx fx hS0 hS1 hS2 hS3 ho hbl hgr kv kg
            generalize w'.setCell ⟨gc, 3, none⟩ (.slice A5 N5 c5) = Wy at *
            obtain ⟨k0, k1, k2, k3, k4, k5⟩ := cells6 hWy.out.b3
            go_wp2_with ((with_reducible refine go_store_as (off := 0) (vs := #[.int .i64 p, .int .i64 bo, .int .i64 li, .slice A5 N5 c5, .bool pe, .int .i64 mi]) #[.int .i64 p, .int .i64 bo, .int .i64 li, .slice A5 N5 c5, .bool pe, .int .i64 mi] agg_Half hWy.out.b2 ?b1 ?b2 ?b3 ?b4 ?b5 ?b6 ?_); (case b1 => rfl); (case b2 => rfl); (case b3 => rfl); (case b4 => simp); (case b5 => simp [Value.oneCell']); (case b6 => rfl); (intro w5 hB5 hC5))
            refine bodyPost_ret (results_blk rfl agg_Half hB5 rfl) rfl ?_
            have hres2 : res = ls.take k ++ ⟨nm, ver, wt, fl⟩ :: ls.drop k := by
              have h := hres.out
              rw [hhas.out, hseek.out] at h
              first | (simpa using h.symm) | (simp [show ls.length < 8 from by assumption] at h; exact h.symm)
            have hrl : res.length = N5 := by
              rw [hres2, ← hN5.out]
              simp
              omega
            have hoz : Wy.ownsRow (gc + 1) 44 4 (.slice A5 N5 c5) N5 (flat Line.cells res) := by
              rw [hres2]
              simpa only [flat_append, flat_cons, List.append_assoc] using hoy.out
            refine ⟨A5, c5, by simp only [HV.val]; rw [hrl], by simp only []; rw [hrl]; exact hc5, ?_, hWy.out.bel.trans (hC5.below (fun i h => by have := hg.out; omega) hWy.out.bel.size)⟩
            simp only []
            rw [hrl]
            exact World.ownsRow.mono (own_chg hoz hC5 fun i hi => by have := (hoz.lt i hi).1; omega) (by omega)
          · have h8' : (8 : Int) ≤ (ls.length : Int) := by omega
            obtain ⟨k0, k1, k2, k3, k4, k5⟩ := cells6 hW.out.b0
            go_wp2_with fail
            refine (refOne_any _ p bo li ls (some ⟨ab, ao, ax⟩ : Option Addr) c pe mi (by omega) (Reads.more (Reads.below hI hW.out.bel) hW.out.bel.size)).mono ?_
            rintro e w6 ⟨A6, c6, rfl, hc6, hown6, h6⟩
            simp only [HV.val] at hown6 hc6 ⊢
            have hZ6 := hW.out.b2.below h6 hW.out.b2.lt
            have hbs := hW.out.bel.size
            have hl2 := hW.out.b2.lt
            have hb6 := hW.out.bel.trans (h6.mono hW.out.bel.size)
            go_wp2_with ((with_reducible refine go_store_as (off := 0) (vs := #[.int .i64 p, .int .i64 bo, .int .i64 li, .slice A6 ls.length c6, .bool pe, .int .i64 mi]) #[.int .i64 p, .int .i64 bo, .int .i64 li, .slice A6 ls.length c6, .bool pe, .int .i64 mi] agg_Half hZ6 ?b1 ?b2 ?b3 ?b4 ?b5 ?b6 ?_); (case b1 => rfl); (case b2 => rfl); (case b3 => rfl); (case b4 => simp); (case b5 => simp [Value.oneCell']); (case b6 => rfl); (intro w7 hB7 hC7))
            refine bodyPost_ret (results_blk rfl agg_Half hB7 rfl) rfl ?_
            have hres2 : res = ls := by
              have h := hres.out
              rw [hhas.out, hseek.out] at h
              simp [h8] at h
              exact h.symm
            subst hres2
            exact ⟨A6, c6, rfl, hc6, World.ownsRow.mono (own_chg hown6 hC7 fun i hi => by have := (hown6.lt i hi).1; omega) hbs, hb6.trans (hC7.below (fun i h => by have := hg.out; omega) hb6.size)⟩
        · have ew : IntKind.i64.wrap ((k : Int) + 1) = ((k + 1 : Nat) : Int) := by rw [IntKind.wrap_i64]; omega
          go_wp2_with fail
          have hWv := hW
          have hov := hown.out
          clear hzR k3 kc
          have hjl : k ≤ ls.length := by omega
          have kv := hWv.out.b3.cell 3
          have kg := hWv.out.b0.cell 3
          simp only [List.getElem?_toArray, List.getElem?_cons_zero, List.getElem?_cons_succ] at kv kg
          have hrv := reads_from (LinesAt.below hI (hWv.out.bel.trans ((Below.refl _ wr).drew.mono hWv.out.bel.size))) hc hjl
          have hjz : ¬ ls.length < k := by omega
          have hjc : k ≤ c := by omega
          have hAn : Hid ((some ⟨ab, ao, ax⟩ : Option Addr) = none → ls.length = 0) := Lib.hid (LinesAt.none hI)
          refine wp_region_held_drew (S := fun W => Below gc wr W) (by kernel_rfl) ((Below.refl _ _).drew) (fun hS0 => ?_)
          (refine wpAnyH_take (i := 0) (oi := ⟨some 84, _, _, _, _, _⟩) rfl (by kernel_rfl) (by kernel_rfl) (by kernel_rfl) (fun _ _ _ h => h) (.inl ⟨rfl, fun _ _ => rfl⟩) (by assumption) ?_); try simp only [Act.put, List.setIfInBounds_toArray, List.set_cons_zero, List.set_cons_succ]
          (refine wpAnyH_take (i := 2) (oi := ⟨some 86, _, _, _, _, _⟩) rfl (by kernel_rfl) (by kernel_rfl) (by kernel_rfl) (fun _ _ _ h => h) (.inl ⟨rfl, fun _ _ => rfl⟩) (by assumption) ?_); try simp only [Act.put, List.setIfInBounds_toArray, List.set_cons_zero, List.set_cons_succ]
          (refine wpAnyH_take (i := 3) (oi := ⟨some 87, _, _, _, _, _⟩) rfl (by kernel_rfl) (by kernel_rfl) (by kernel_rfl) (fun _ _ _ h => h) (.inl ⟨rfl, fun W hS => by (have c0 := (hS.cell (p := ⟨g, 3, none⟩) hgl).trans kg); go_simp; try rfl⟩) (by assumption) ?_); try simp only [Act.put, List.setIfInBounds_toArray, List.set_cons_zero, List.set_cons_succ]
          (refine wpAnyH_take (i := 4) (oi := ⟨some 88, _, _, _, _, _⟩) rfl (by kernel_rfl) (by kernel_rfl) (by kernel_rfl) (fun _ _ _ h => h) (.inl ⟨rfl, fun _ _ => rfl⟩) (by assumption) ?_); try simp only [Act.put, List.setIfInBounds_toArray, List.set_cons_zero, List.set_cons_succ]
          (refine wpAnyH_take (i := 5) (oi := ⟨some 89, _, _, _, _, _⟩) (v := .slice (fromA (some ⟨ab, ao, ax⟩ : Option Addr) c k) (ls.length - k) (c - k)) rfl (by kernel_rfl) (by kernel_rfl) (by kernel_rfl) (fun _ _ _ h => h) (.inl ⟨rfl, fun W hS => by have hAn' := hAn.out; go_simp; (first | (rw [if_pos (by first | omega | (constructor <;> omega))]; first | rfl | (simp [fromA, ed_add_plain]; done)) | rfl | (have hk0 : k = 0 := (by have := hke.out; have := hAn' rfl; omega); simp [fromA, hk0]; done) | (simp [fromA, ed_add_plain]; done))⟩) (by assumption) ?_); try simp only [Act.put, List.setIfInBounds_toArray, List.set_cons_zero, List.set_cons_succ]
          -- effect at 1: Go.Op.load 22 (Go.Operand.tmp 84)
          refine wpAnyH_ready (rs := [1]) (by kernel_rfl) (by simp) ?_
          refine AllReadyH.cons (o := ⟨some 85, _, _, _, _, _⟩) rfl (fun K hK => ?_) AllReadyH.nil
          go_simp
          refine hK.out _ _ hS0 (fun hS1 => ?_)
          clear hK K
          try simp only [Act.put, List.setIfInBounds_toArray, List.set_cons_zero, List.set_cons_succ]
          refine wpAnyH_ready (rs := [6]) (by kernel_rfl) (by simp) ?_
          refine AllReadyH.cons (o := ⟨some 90, _, _, _, _, _⟩) rfl (fun K hK => ?_) AllReadyH.nil
          refine ite_wanted rfl (op_append (.tmp 85) (.tmp 89) _ rfl line_slice line_inf rfl (by omega) rfl (own_below hov (Below.refl _ wr).drew (fun i hi => (hov.lt i hi).2)) rfl hrv (flat_one _ Line.one _) (by unfold maxLen; omega) (by omega) hWv.out.sz (fun v' w' ho hbl hgr => ?_))
          obtain ⟨N5, hN5⟩ : ∃ n, k + (ls.length - k) = n := ⟨_, rfl⟩
          rw [hN5] at ho
          replace hN5 := Lib.hid hN5
          obtain ⟨A5, c5, rfl, hc5⟩ := own_slice' ho
          have hWx := Lib.hid (hWv.out.next hgl2 hwg ((Below.refl (gc + 1) wr).drew.trans hbl))
          refine hK.out _ _ (hS1.trans (hbl.mono (by omega))) (fun hS2 => ?_)
          clear hK K
          try simp only [Act.put, List.setIfInBounds_toArray, List.set_cons_zero, List.set_cons_succ]
          (refine wpAnyH_take (i := 7) (oi := ⟨some 91, _, _, _, _, _⟩) rfl (by kernel_rfl) (by kernel_rfl) (by kernel_rfl) (fun _ _ _ h => h) (.inl ⟨rfl, fun _ _ => rfl⟩) (by assumption) ?_); try simp only [Act.put, List.setIfInBounds_toArray, List.set_cons_zero, List.set_cons_succ]
          have kx := hWx.out.b3.cell 3
          simp only [List.getElem?_toArray, List.getElem?_cons_zero, List.getElem?_cons_succ] at kx
          have fx := hWx.out.b3.frozen 3
          refine wpAnyH_ready (rs := [8]) (by kernel_rfl) (by simp) ?_
          refine AllReadyH.cons (o := ⟨none, _, _, _, _, _⟩) rfl (fun K hK => ?_) AllReadyH.nil
          go_simp
          refine hK.out _ _ (hS2.setCell (p := ⟨gc, 3, none⟩) (Nat.le_refl _) _) (fun hS3 => ?_)
          clear hK K
          try simp only [Act.put, List.setIfInBounds_toArray, List.set_cons_zero, List.set_cons_succ]
          refine wpAnyH_done (by kernel_rfl) ?_ _
          have hWy := Lib.hid (show Writ w _ g gc _ _ #[.int .i64 p, .int .i64 bo, .int .i64 li, .slice A5 N5 c5, .bool pe, .int .i64 mi] from hWx.out.put hgl2 hwg (.slice A5 N5 c5))
          have hoy := Lib.hid (own_chg ho ((Chg.refl (· = gc) w').setCell (p := ⟨gc, 3, none⟩) (fun _ => rfl) (.slice A5 N5 c5)) (fun i hi => by have := (ho.lt i hi).1; omega))
          clear kx fx hS0 hS1 hS2 hS3 ho hbl hgr kv kg
          generalize w'.setCell ⟨gc, 3, none⟩ (.slice A5 N5 c5) = Wy at *
          obtain ⟨k0, k1, k2, k3, k4, k5⟩ := cells6 hWy.out.b3
          go_wp2_with ((with_reducible refine go_store_as (off := 0) (vs := #[.int .i64 p, .int .i64 bo, .int .i64 li, .slice A5 N5 c5, .bool pe, .int .i64 mi]) #[.int .i64 p, .int .i64 bo, .int .i64 li, .slice A5 N5 c5, .bool pe, .int .i64 mi] agg_Half hWy.out.b2 ?b1 ?b2 ?b3 ?b4 ?b5 ?b6 ?_); (case b1 => rfl); (case b2 => rfl); (case b3 => rfl); (case b4 => simp); (case b5 => simp [Value.oneCell']); (case b6 => rfl); (intro w5 hB5 hC5))
          refine bodyPost_ret (results_blk rfl agg_Half hB5 rfl) rfl ?_
          have hres2 : res = ls.take k ++ ls.drop k := by
            have h := hres.out
            rw [hhas.out, hseek.out] at h
            first | (simpa using h.symm) | (simp [show ls.length < 8 from by assumption] at h; exact h.symm)
          have hrl : res.length = N5 := by
            rw [hres2, ← hN5.out]
            simp
            omega
          have hoz : Wy.ownsRow (gc + 1) 44 4 (.slice A5 N5 c5) N5 (flat Line.cells res) := by
            rw [hres2]
            simpa only [flat_append, flat_cons, List.append_assoc] using hoy.out
          refine ⟨A5, c5, by simp only [HV.val]; rw [hrl], by simp only []; rw [hrl]; exact hc5, ?_, hWy.out.bel.trans (hC5.below (fun i h => by have := hg.out; omega) hWy.out.bel.size)⟩
          simp only []
          rw [hrl]
          exact World.ownsRow.mono (own_chg hoz hC5 fun i hi => by have := (hoz.lt i hi).1; omega) (by omega)

end Go.Proofs.Ytogkcokgcoookaa
