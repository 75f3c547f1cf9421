/-
  The logic on data: maps and made slices of the call's own.
-/
import Derived.Test.YtajokeimipllcaaDn
import Derived.RangeFuncRecord
import Derived.Carry
set_option linter.unusedSimpArgs false
set_option linter.unusedVariables false
namespace Go.Dl
open Go.Ed Go.RowKit
section
variable {P : Program} {X : Fr} {w0 w : World} {N : Nat} {S : St} {E : Env} {a : Act} {T : Nat → Option Ty} {o : Oper} {K : St → Prop}
/-- a map of the call's own is another one now -/
theorem Sim.setMap (hs : Sim X w0 N S E a w) {ar : Nat} {e : TypeId} {k : Nat} {rows0 rows : List (List F)} (h : S.arrs ar = some (e, k, rows0)) {g : Nat} (hL : E.L ar = some (.map (some g))) (ob : Obj) {us : List Value}
    (hown : OwnA (w.putObj g ob) 0 e k (.map (some g)) rows.length us) (hrep : RepFs w E.I rows.flatten us) (hk : ∀ r ∈ rows, r.length = k) :
    Sim X w0 N ⟨S.slots, S.blks, fun x => if x = ar then some (e, k, rows) else S.arrs x⟩ E a (w.putObj g ob) := by
  obtain ⟨v, us0, hL0, hown0, _, _, hnew⟩ := hs.arr _ _ _ _ h
  rw [hL] at hL0; cases hL0
  have hov : (Value.map (some g)).ownB = some g := rfl
  obtain ⟨ha1, ha2, ha3⟩ := hs.al _ _ _ hL hov
  have hot : ∀ b, b ≠ g → (w.putObj g ob).heap[b]? = w.heap[b]? := fun b hb => World.putObj_heap_other hb
  have hmem : ∀ b, E.I b → (w.putObj g ob).heap[b]? = w.heap[b]? := fun b hb => hot b fun e => ha2 (e ▸ hb)
  have hle : Env.Le w (w.putObj g ob) E E := ⟨hmem, fun _ h => h, fun _ _ h => h, fun _ _ h => h⟩
  have hszw : (w.putObj g ob).heap.size = w.heap.size := by simp [World.putObj]
  refine ⟨⟨hs.chg.os, hs.chg.tape, hs.chg.output, by rw [hszw]; exact hs.chg.size, fun i hi hS => (hot i (by rintro rfl; exact hS ((hnew i hov).resolve_left (by omega)))).trans (hs.chg.block i hi hS)⟩, hs.fr.far (own_cells hown0 hov) hot, hs.sz, fun t => (hs.slot t).mono hle, fun t e' cs ht => ?_, hs.inj, fun t b ht => by rw [hszw]; exact hs.bl t b ht, fun c e' k' rows' hc => ?_, fun c v' b hv' hb' => by rw [hszw]; exact hs.al c v' b hv' hb', hs.ai, hs.bn, fun c hc => ?_, fun b hb => by rw [hszw]; exact hs.il b hb, hs.i0, hs.i1, hs.kp⟩
  · obtain ⟨g2, vs2, h1, h2, h3, h4⟩ := hs.blk t e' cs ht
    have hne : g2 ≠ g := fun e => ha3 t (e ▸ h1)
    exact ⟨g2, vs2, h1, (hot g2 hne).trans h2, h3.mono hle, h4⟩
  · have hc : (if c = ar then some (e, k, rows) else S.arrs c) = some (e', k', rows') := hc
    by_cases hca : c = ar
    · rw [if_pos hca] at hc; cases hc
      subst hca
      exact ⟨_, us, hL, hown, ⟨hrep.1, fun j x u hx hu => (hrep.2 j x u hx hu).mono hmem fun _ h => h⟩, hk, hnew⟩
    · rw [if_neg hca] at hc
      obtain ⟨v1, us1, q1, q2, q3, q4, q5⟩ := hs.arr _ _ _ _ hc
      exact ⟨v1, us1, q1, ownA_keep q2 fun b hb' => hot b fun e => hca (hs.ai c ar v1 _ g q1 hL (e ▸ hb') hov), ⟨q3.1, fun j y u hy hu => (q3.2 j y u hy hu).mono hmem fun _ h => h⟩, q4, q5⟩
  · have hc : (if c = ar then some (e, k, rows) else S.arrs c) = none := hc
    by_cases hca : c = ar
    · rw [if_pos hca] at hc; cases hc
    · rw [if_neg hca] at hc; exact hs.an c hc
/-- a map is made -/
theorem dop_mkMap {t KT VT : TypeId} (hop : o.op = .makeMap t none) (hT : ∀ t y, T t = some y → TyOk P t y) {y yk yv : Ty} (hy : T t = some y) (hm : y.mp = some (KT, VT)) (hk : T KT = some yk) (hv : T VT = some yv) (h64 : yk.k < 64) {d : Nat} (hd0 : o.dst = some d) (hfree : S.arrs d = none)
    (hK : K ⟨upd S.slots d (.c (.o d)), S.blks, fun c => if c = d then some (mtag t yk.k yk.agg yv.agg, yk.k + yv.k, []) else S.arrs c⟩) : DOp P X w0 N o K S := fun E a w hs hd K' Q h => by
  have hr : (execOp a.eval o).run P w = .ok (.value (.map (some w.heap.size))) (w.alloc (.map #[] 0)) := by
    have hr := run_makeMap (P := P) t w
    simp [execOp, hop, hr]
  unfold Oper.wp
  rw [hr]
  have hbel : Below w.heap.size w (w.alloc (.map #[] 0)) := (Below.refl _ w).alloc (Nat.le_refl _) _
  have hown : OwnA (w.alloc (.map #[] 0)) w.heap.size (mtag t yk.k yk.agg yv.agg) (yk.k + yv.k) (.map (some w.heap.size)) ([] : List (List F)).length [] :=
    .inr ⟨t, yk.k, yk.agg, yv.agg, h64, rfl, _, #[], 0, rfl, Nat.le_refl _, heap_alloc_new _ _, rfl, rfl, fun x hx => by simp at hx⟩
  obtain ⟨E', hL, hs'⟩ := hs.newArr (e := mtag t yk.k yk.agg yv.agg) (k := yk.k + yv.k) (rows := []) hbel hfree hown ⟨rfl, fun j x u hx => by simp at hx⟩ (fun r hr => by simp at hr)
  have := hs'.env (.c (.o d)) (.map (some w.heap.size)) (.c (.o hL rfl)) o.dst hd
  rw [hd0] at this
  show K' (a.put o.dst _) _
  rw [hd0]
  exact h _ _ _ _ hK this
/-- a value of such a form -/
def aggV : V → Bool
  | .agg _ => true
  | _ => false
theorem shp_of {x : V} {u : Value} {cs : List C} {n : Nat} (h : RepV w E x u) (hc : vcells x = some cs) (hn : cs.length = n) : shp (aggV x) n u := by
  have h1 := vcells_ok h hc
  refine ⟨by rw [← hn, h1.1]; simp, fun hf => ?_, fun ht => ?_⟩
  · cases h with
    | c h => exact h.one
    | agg h => cases hf
    | loc h => rfl
    | clo h1 h2 => rfl
    | _ => cases hc
  · cases h with
    | agg h => exact ⟨_, rfl⟩
    | _ => cases ht
/-- the first entry of a map -/
theorem dop_mapNew {t KT VT : TypeId} {x i v : Operand} (hop : o.op = .mapUpdate t x i v) (hT : ∀ t y, T t = some y → TyOk P t y) {y yk yv : Ty} (hy : T t = some y) (hm : y.mp = some (KT, VT)) (hk : T KT = some yk) (hv : T VT = some yv) (h64 : yk.k < 64) (hd0 : o.dst = none)
    {ar : Nat} (hx : ev S x = .c (.o ar)) (hA : S.arrs ar = some (mtag t yk.k yk.agg yv.agg, yk.k + yv.k, [])) {ks vs : List C} {kf vf : List F} (h1 : vcells (ev S i) = some ks) (h2 : frz ks = some kf) (h3 : vcells (ev S v) = some vs) (h4 : frz vs = some vf)
    (h5 : kf.length = yk.k) (h6 : vf.length = yv.k) (h7 : aggV (ev S i) = yk.agg) (h8 : aggV (ev S v) = yv.agg) (hkey : KeyB P KT yk (ev S i))
    (hK : K ⟨S.slots, S.blks, fun c => if c = ar then some (mtag t yk.k yk.agg yv.agg, yk.k + yv.k, [kf ++ vf]) else S.arrs c⟩) : DOp P X w0 N o K S := fun E a w hs hd K' Q h => by
  have hu := (hT _ _ hy).mp _ _ hm
  have hx' := hx ▸ hs.ev x
  have hck := key_run (hT _ _ hk) hkey (hs.ev i) false
  generalize hux : a.eval x = u at hx'
  obtain ⟨d, hd1⟩ : ∃ d, P.underlying KT = some d := (hT _ _ hk).agg.imp fun d h => h.1
  cases hx' with
  | c hx' => cases hx' with
    | o hL _ =>
      obtain ⟨v0, us, hv', hown, _⟩ := hs.arr _ _ _ _ hA
      rw [hL] at hv'; cases hv'
      rcases hown with ⟨hlt, _⟩ | ⟨t', kn, ka, va, h64', htag, b, es, cl, rfl, _, hh, hsz, _⟩
      · exact absurd hlt (Nat.not_lt.2 (mtag_le _ _ _ _))
      · have hes : es = #[] := Array.eq_empty_of_size_eq_zero hsz
        subst hes
        have c1 := vcells_ok (hs.ev i) h1
        have c2 := vcells_ok (hs.ev v) h3
        obtain ⟨f1, e1⟩ := frz_ok h2 c1
        obtain ⟨f2, e2⟩ := frz_ok h4 c2
        have s1 := shp_of (n := yk.k) (hs.ev i) h1 (by rw [e1]; simpa using h5)
        have s2 := shp_of (n := yv.k) (hs.ev v) h3 (by rw [e2]; simpa using h6)
        rw [h7] at s1
        rw [h8] at s2
        have hgo : (getObj b).run P w = .ok (.map #[] cl) w := by simp [getObj, Sem.run, hh]
        have hr : (execOp a.eval o).run P w = .ok .skip (w.putObj b (.map #[{ key := a.eval i, val := a.eval v, born := cl }] (cl + 1))) := by
          simp [execOp, hop, hux, Instr.mapUpdate, run_underlying hu, hgo, hck, Instr.findKey, Instr.findNow, run_underlying hd1, setObj, Sem.run, hh, World.putObj]
        unfold Oper.wp
        rw [hr]
        have hlt := (Array.getElem?_eq_some_iff.1 hh).1
        have hown' : OwnA (w.putObj b (.map #[{ key := a.eval i, val := a.eval v, born := cl }] (cl + 1))) 0 (mtag t yk.k yk.agg yv.agg) (yk.k + yv.k) (.map (some b)) [kf ++ vf].length ((a.eval i).cells.toList ++ (a.eval v).cells.toList) :=
          .inr ⟨t, yk.k, yk.agg, yv.agg, h64, rfl, b, _, _, rfl, Nat.zero_le _, World.putObj_heap_same hlt, rfl, by simp [mcells], fun q hq => by
            obtain rfl : q = _ := by simpa using hq
            exact ⟨s1, by rw [Nat.add_sub_cancel_left]; exact s2, Nat.le_add_right _ _, Nat.lt_succ_self _⟩⟩
        have := hs.setMap (rows := [kf ++ vf]) hA hL _ hown' (by
          refine ⟨by simp [f1.1, f2.1], fun j x u hx hu => ?_⟩
          have hx : (kf ++ vf)[j]? = some x := by simpa using hx
          rcases Nat.lt_or_ge j kf.length with hj | hj
          · rw [List.getElem?_append_left hj] at hx
            rw [List.getElem?_append_left (by rw [← f1.1]; exact hj)] at hu
            exact f1.2 j x u hx hu
          · rw [List.getElem?_append_right hj] at hx
            rw [List.getElem?_append_right (by rw [← f1.1]; exact hj), ← f1.1] at hu
            exact f2.2 _ x u hx hu) (fun r hr => by
          obtain rfl : r = _ := by simpa using hr
          rw [List.length_append, h5, h6])
        show K' (a.put o.dst undef) _
        rw [hd0]
        exact h _ _ _ _ hK this
theorem flat_rep {α : Type} {zs : List α} {k : Nat} (hz : zs.length = k) (hk : 0 < k) : ∀ (m j : Nat), j < m * k → (List.replicate m zs).flatten[j]? = zs[j % k]?
  | 0, j, h => by simp at h
  | m + 1, j, h => by
    rw [List.replicate_succ, List.flatten_cons]
    rcases Nat.lt_or_ge j k with hj | hj
    · rw [List.getElem?_append_left (by omega), Nat.mod_eq_of_lt hj]
    · rw [List.getElem?_append_right (by omega), hz, flat_rep hz hk m (j - k) (by rw [Nat.add_mul] at h; omega), ← Nat.mod_eq_sub_mod hj]
/-- a slice is made -/
theorem dop_mkSlice {t : TypeId} {n c : Operand} (hop : o.op = .makeSlice t n c) (hT : ∀ t y, T t = some y → TyOk P t y) {y ye : Ty} (hy : T t = some y) {e k b : Nat} (he : y.elem = some (e, k, b)) (hye : T e = some ye) {m : Nat} (hn : ev S n = .c (.f (.s (.int .i64 m)))) (hc : ev S c = .c (.f (.s (.int .i64 m))))
    (h1 : m * b ≤ 1048576) (h2 : m ≤ 1048576) (hem : e < 1000000) {d : Nat} (hd0 : o.dst = some d) (hfree : S.arrs d = none)
    (hK : K ⟨upd S.slots d (.c (.o d)), S.blks, fun c => if c = d then some (e, k, List.replicate m (ye.zs.map .s)) else S.arrs c⟩) : DOp P X w0 N o K S := fun E a w hs hd K' Q h => by
  obtain ⟨hu1, hk0, ie, ze, hie, hze, hu2, hbe, hzk⟩ := (hT _ _ hy).elem _ _ _ he
  obtain ⟨zv, hzv1, hzv2, _⟩ := (hT _ _ hye).zero
  have hzz : zv = ze := by rw [hie] at hzv1; have h9 : ie.zero = some zv := hzv1; rw [hze] at h9; cases h9; rfl
  subst hzz
  have h8 : (b : Int) * (m : Int) ≤ 1048576 := by
    have h9 : ((m * b : Nat) : Int) ≤ 1048576 := by omega
    rw [Int.natCast_mul, Int.mul_comm] at h9; exact h9
  have hrun := run_make (P := P) w t e ie zv hu1 hie hze .i64 .i64 m m (by omega) (Int.le_refl _) (by rw [hbe]; omega) (by omega)
  rw [Int.toNat_natCast, hu2] at hrun
  have en := hs.ev_s hn
  have ec := hs.ev_s hc
  have hr : (execOp a.eval o).run P w = .ok (.value (.slice (some ⟨w.heap.size, 0, none⟩) m m)) (w.alloc (.cells (madeCells zv.cells (m * k)) e)) := by
    simp [execOp, hop, en, ec, hrun]
  unfold Oper.wp
  rw [hr]
  have hbel : Below w.heap.size w (w.alloc (.cells (madeCells zv.cells (m * k)) e)) := (Below.refl _ w).alloc (Nat.le_refl _) _
  have hzl : ye.zs.length = k := by rw [← hzv2]; simpa using hzk
  have hown : (w.alloc (.cells (madeCells zv.cells (m * k)) e)).ownsRow w.heap.size e k (.slice (some ⟨w.heap.size, 0, none⟩) m m) (List.replicate m (ye.zs.map F.s)).length (madeCells zv.cells (m * k)).toList :=
    ⟨by simp [size_madeCells], .inr ⟨_, m, madeCells zv.cells (m * k), by rw [List.length_replicate], Nat.le_refl _, heap_alloc_new _ _, by simp, by unfold maxLen; omega, size_madeCells _ _, by rw [List.length_replicate]; exact List.take_of_length_le (by simp [size_madeCells])⟩⟩
  obtain ⟨E', hL, hs'⟩ := hs.newArr (e := e) (k := k) (rows := List.replicate m (ye.zs.map F.s)) hbel hfree (.of hown hem) (by
    refine ⟨by simp [size_madeCells, hzl], fun j x u hx hu => ?_⟩
    have hj := (List.getElem?_eq_some_iff.1 hu).1
    have hj2 : j < m * k := by simpa [size_madeCells] using hj
    rw [flat_rep (by simpa using hzl) hk0 m j hj2] at hx
    have hlt : j % k < zv.cells.size := by rw [hzk]; exact Nat.mod_lt _ hk0
    have hu2 : u = zv.cells[j % k] := by
      rw [Array.getElem?_toList] at hu
      simp only [madeCells, Array.getElem?_map, Array.getElem?_range, hj2, if_true, Option.map_some, Option.some.injEq, hzk] at hu
      rw [← hu, getElem!_pos zv.cells (j % k) hlt]
    have hx2 : x = .s zv.cells[j % k] := by
      have h9 : ye.zs[j % k]? = some zv.cells[j % k] := by rw [← hzv2, Array.getElem?_toList]; exact Array.getElem?_eq_getElem hlt
      rw [List.getElem?_map, h9] at hx
      cases hx; rfl
    rw [hx2, hu2]
    exact .s ((hT _ _ hye).z1 _ (by rw [← hzv2]; simp)))
    (fun r hr => by rw [List.eq_of_mem_replicate hr]; simpa using hzl)
  have := hs'.env (.c (.o d)) (.slice (some ⟨w.heap.size, 0, none⟩) m m) (.c (.o hL rfl)) o.dst hd
  rw [hd0] at this
  show K' (a.put o.dst _) _
  rw [hd0]
  exact h _ _ _ _ hK this
end
end Go.Dl
