/-
  Layer 8 (boot): record, by its contract.
-/
import Derived.Test.YtajokeimipllcaaDoorBtA
import Derived.Lib.Hide
import Derived.Deep.RegionWith
import Derived.StillTailTactics
namespace Go.Ed
open Go.RowKit
section
variable {P : Program} {w : World} {ops : Array Oper} {rest : List Oper} {a : Act} {Q : Exit → Act → World → Prop} {dst : Option Tmp} {type : TypeId} {pos : String} {after : Array Edge}
/-- copy from a string that fits, inside a block that is known whole -/
theorem go_copy_str {d s : Operand} {dT sT elem : TypeId} {z : Value} {bytes : Nat} (hu : P.underlying dT = some (.slice elem)) (hI : Inf P elem z 1 bytes)
    {g off : Nat} {t : TypeId} {cur : List Value} (hg : Blk w g t cur.toArray) {str : ByteArray} (news : List Value) (hn : (str.data.toList.map fun b : UInt8 => Value.int .u8 (b.toNat : Int)) = news)
    {dLen dCap : Nat} (hd : a.eval d = .slice (some ⟨g, off, none⟩) dLen dCap) (hs : a.eval s = .string str) (hle : news.length ≤ dLen) (hfit : off + news.length ≤ cur.length)
    (h : ∀ w', Blk w' g t (cur.take off ++ (news ++ cur.drop (off + news.length))).toArray → Chg (· = g) w w' → wpList P ops Q rest (a.put dst (goInt news.length)) w') :
    wpList P ops Q (⟨dst, .call { callee := .builtin .copy, args := #[d, s], argTypes := #[dT, sT] }, type, pos, after, none⟩ :: rest) a w := by
  have hsz : str.size = news.length := by rw [← hn, List.length_map]; rfl
  have h1 : ∀ v ∈ news, v.oneCell' = true := by
    intro v hv
    rw [← hn] at hv
    obtain ⟨x, _, rfl⟩ := List.mem_map.1 hv
    rfl
  have hst := run_storeCells_at P g off t news 0 cur.toArray w hg (by simpa using hfit) h1
  have hmin : Nat.min str.size dLen = str.size := Nat.min_eq_left (by omega)
  have htk : List.take str.size (List.map (fun b : UInt8 => Value.int IntKind.u8 (b.toNat : Int)) str.data.toList) = news := by rw [hn, hsz, List.take_length]
  simp only [Nat.add_zero] at hst
  have hzz := hI.size_
  have hrun : (Builtin.copy_ #[dT, sT] type #[.slice (some ⟨g, off, none⟩) dLen dCap, .string str]).run P w = .ok (goInt str.size) (w.setRow g (cur.take off ++ (news ++ cur.drop (off + news.length))).toArray) := by
    cases hq : P.info? elem with
    | none => simp [hq] at hzz
    | some i =>
      simp [hq] at hzz
      simp [Builtin.copy_, run_underlying hu, Builtin.lenOf, Builtin.firstCells, sizeOf, typeInfo, hq, hmin, hzz]
      rw [htk, hst]
      simp [Result.andThen]
  refine wpList_plain rfl fun K hK => ?_
  unfold Oper.wp
  simp [execOp, resolve, invoke, builtin, hd, hs, hrun, Result.andThen]
  rw [hsz]
  exact hK _ _ (h _ (hg.setRow_ _) ((Chg.refl (· = g) w).setRow (fun _ => rfl) _))

/-- a whole block loaded, a whole block stored, as one step of a row of any order -/
theorem step_load_all {K : Act → World → Prop} {E : Prop} {ty : TypeId} {x : Operand} {g k : Nat} {t : TypeId} (vs : List Value) (hA : Agg P ty k) (hg : Blk w g t vs.toArray)
    (hx : a.eval x = .pointer (some ⟨g, 0, none⟩)) (hk : vs.toArray.size = k) (h : K (a.put dst (.agg vs.toArray)) w) :
    if Region.wanted (⟨dst, .load ty x, type, pos, after, none⟩ : Oper) (yielded ops a.tmps) = true then Oper.wp P ⟨dst, .load ty x, type, pos, after, none⟩ a w K Q else E := by
  obtain ⟨d, hu, hd, hi⟩ := hA
  rw [if_pos (by simp [Region.wanted])]
  refine wp_load_at ty x rfl g 0 k hx t vs.toArray (0, 0) d hg hu hd hi (by omega) ?_
  have e : vs.toArray.extract 0 (0 + k) = vs.toArray := by
    apply Array.ext'
    have hk' : vs.length = k := by simpa using hk
    simp [← hk']
  rw [e]; exact h
theorem step_store_all {K : Act → World → Prop} {E : Prop} {ty : TypeId} {x y : Operand} {g k : Nat} {t : TypeId} {cs : List Value} (vs : List Value) (hA : Agg P ty k) (hg : Blk w g t cs.toArray)
    (hx : a.eval x = .pointer (some ⟨g, 0, none⟩)) (hy : a.eval y = .agg vs.toArray) (hcs : cs.length = k) (hvs : vs.toArray.size = k) (h1 : ∀ v ∈ vs, v.oneCell' = true)
    (h : ∀ w2, Blk w2 g t vs.toArray → Chg (· = g) w w2 → K (a.put dst undef) w2) :
    if Region.wanted (⟨dst, .store ty x y, type, pos, after, none⟩ : Oper) (yielded ops a.tmps) = true then Oper.wp P ⟨dst, .store ty x y, type, pos, after, none⟩ a w K Q else E := by
  obtain ⟨d, hu, hd, hi⟩ := hA
  rw [if_pos (by simp [Region.wanted])]
  refine wp_store_at ty x y rfl g 0 k hx t cs.toArray vs.toArray hy hg hi hvs (by simp; omega) (by simpa using h1) (h _ ?_ ?_)
  · have e : (List.take 0 cs.toArray.toList ++ vs.toArray.toList ++ List.drop (0 + k) cs.toArray.toList).toArray = vs.toArray := by
      simp; omega
    rw [e]; exact hg.setRow_ _
  · exact (Chg.refl (· = g) w).setRow (fun _ => rfl) _
theorem run_load_blk {ty : TypeId} {k g : Nat} {t : TypeId} (hA : Agg P ty k) (vs : List Value) (hg : Blk w g t vs.toArray) (hk : vs.length = k) : (loadVar ty ⟨g, 0, none⟩).run P w = .ok (.agg vs.toArray) w :=
  run_loadVar_list hA _ vs hk (fun j v hj => by rw [ed_add_plain, Nat.zero_add, hg.cell]; simpa using hj)
/-- two results that lie in cells -/
theorem results_cells2 {fn : Func} {r1 r2 t1 t2 : Nat} (hf : fn.results = #[.cell r1 t1, .cell r2 t2]) {tmps : Array Value} {p1 p2 : Addr} {u1 u2 : Value} (e1 : tmps.getD r1 undef = .pointer (some p1)) (e2 : tmps.getD r2 undef = .pointer (some p2))
    (h1 : (loadVar t1 p1).run P w = .ok u1 w) (h2 : (loadVar t2 p2).run P w = .ok u2 w) : (results fn tmps).run P w = .ok (.tuple #[u1, u2]) w := by
  simp only [results, hf, List.mapM_toArray, List.mapM_cons, List.mapM_nil, Sem.run_bind, e1, e2, asAddr, Sem.run_pure, Result.andThen_ok, h1, h2]
  simp [h1, h2]
end
end Go.Ed
namespace Go.Proofs.YtajokeimipllcaaDoor
open Go.ChangeShapes Go.WideShapes Go.ChangeAt Go.RowKit Go.Ed

abbrev z16 : List Value := [.int .u8 0, .int .u8 0, .int .u8 0, .int .u8 0, .int .u8 0, .int .u8 0, .int .u8 0, .int .u8 0, .int .u8 0, .int .u8 0, .int .u8 0, .int .u8 0, .int .u8 0, .int .u8 0, .int .u8 0, .int .u8 0]
/-- "EDDYBOOT" -/
def magicB : List Int := [69, 68, 68, 89, 66, 79, 79, 84]
/-- the two sectors of a number -/
def recA (n : Int) : List Int := leB 8 n ++ magicB
def crcB (xs : List Int) : Int := bits .xor .u32 IntKind.u32.max (sumK xs xs.length)
def recB (n : Int) : List Int := leB 4 (crcB (recA n)) ++ leB 8 n ++ [0, 0, 0, 0]
theorem recA_len (n : Int) : (recA n).length = 16 := by simp [recA, leB_len, magicB]
theorem recB_len (n : Int) : (recB n).length = 16 := by simp [recB, leB_len]
theorem Tryd.agg16 : Agg Tryd.prog 43 16 := ⟨_, Tryd.underlying43, rfl, by kernel_rfl⟩

theorem Tabs.below {w w' : World} {B : Nat} (h : Tabs w) (hb : Below B w w') (h0 : 0 < B) : Tabs w' := fun i hi => (hb.cell (p := ⟨0, i, none⟩) h0).trans (h i hi)
/-- memory while record is at work -/
structure RW (w0 w : World) (a2 a3 a b : List Value) : Prop where
  lo : Below w0.heap.size w0 w
  b2 : Blk w w0.heap.size 43 a2.toArray
  b3 : Blk w (w0.heap.size + 1) 43 a3.toArray
  b4 : Blk w (w0.heap.size + 1 + 1) 43 a.toArray
  b5 : Blk w (w0.heap.size + 1 + 1 + 1) 43 b.toArray
theorem RW.start (w : World) : RW w ((((w.alloc (.cells z16.toArray 43)).alloc (.cells z16.toArray 43)).alloc (.cells z16.toArray 43)).alloc (.cells z16.toArray 43)) z16 z16 z16 z16 :=
  ⟨((((Below.refl _ w).alloc (Nat.le_refl _) _).alloc (by simp) _).alloc (by simp; omega) _).alloc (by simp; omega) _,
   (((Blk.new w _ _).alloc _).alloc _).alloc _, ((Blk.new' (by simp)).alloc _).alloc _, (Blk.new' (by simp)).alloc _, Blk.new' (by simp)⟩
section
variable {w0 w w' : World} {a2 a3 a b a' b' : List Value}
theorem RW.room (h : RW w0 w a2 a3 a b) : w0.heap.size + 4 ≤ w.heap.size := by have := h.b5.lt; omega
theorem RW.drew (h : RW w0 w a2 a3 a b) : RW w0 w.drew a2 a3 a b := ⟨h.lo.drew, h.b2, h.b3, h.b4, h.b5⟩
theorem RW.at2 (h : RW w0 w a2 a3 a b) (hb : Blk w' w0.heap.size 43 a'.toArray) (hc : Chg (· = w0.heap.size) w w') : RW w0 w' a' a3 a b :=
  ⟨h.lo.trans (hc.below (fun i hi => by omega) (by have := h.room; omega)), hb, h.b3.chg hc (by omega), h.b4.chg hc (by omega), h.b5.chg hc (by omega)⟩
theorem RW.at3 (h : RW w0 w a2 a3 a b) (hb : Blk w' (w0.heap.size + 1) 43 a'.toArray) (hc : Chg (· = w0.heap.size + 1) w w') : RW w0 w' a2 a' a b :=
  ⟨h.lo.trans (hc.below (fun i hi => by omega) (by have := h.room; omega)), h.b2.chg hc (by omega), hb, h.b4.chg hc (by omega), h.b5.chg hc (by omega)⟩
theorem RW.at4 (h : RW w0 w a2 a3 a b) (hb : Blk w' (w0.heap.size + 1 + 1) 43 a'.toArray) (hc : Chg (· = w0.heap.size + 1 + 1) w w') : RW w0 w' a2 a3 a' b :=
  ⟨h.lo.trans (hc.below (fun i hi => by omega) (by have := h.room; omega)), h.b2.chg hc (by omega), h.b3.chg hc (by omega), hb, h.b5.chg hc (by omega)⟩
theorem RW.at5 (h : RW w0 w a2 a3 a b) (hb : Blk w' (w0.heap.size + 1 + 1 + 1) 43 b'.toArray) (hc : Chg (· = w0.heap.size + 1 + 1 + 1) w w') : RW w0 w' a2 a3 a b' :=
  ⟨h.lo.trans (hc.below (fun i hi => by omega) (by have := h.room; omega)), h.b2.chg hc (by omega), h.b3.chg hc (by omega), h.b4.chg hc (by omega), hb⟩
end

set_option maxRecDepth 100000 in
theorem record_any (w : World) (ht : Tabs w) (h0 : 0 < w.heap.size) (n : Int) (hn0 : 0 ≤ n) (hn1 : n ≤ 1099511627776) :
    Calls Tryd.prog 17 #[.int .i64 n] w fun e w' => e = .returned (.tuple #[.agg (u8s (recA n)).toArray, .agg (u8s (recB n)).toArray]) ∧ Below w.heap.size w w' := by
  go_enter Tryd.func17, Tryd.ntmps17
  go_wp2_with fail
  have H0 := RW.start w
  generalize ((((w.alloc (.cells z16.toArray 43)).alloc (.cells z16.toArray 43)).alloc (.cells z16.toArray 43)).alloc (.cells z16.toArray 43)) = W0 at H0 ⊢
  refine (low_any W0 _ 0 8 16 _ _ n H0.b4 (by omega) (by decide)).mono ?_
  rintro e w1 ⟨rfl, hb1, hc1⟩
  have H1 := H0.at4 hb1 hc1
  have g1 := H1.b4
  go_wp2_with ((with_reducible refine go_copy_str (off := 8) (str := ⟨#[69, 68, 68, 89, 66, 79, 79, 84]⟩) (dLen := 8) (dCap := 8) Tryd.underlying22 Tryd.inf_byte g1 (u8s magicB) ?a0 ?a1 ?a2 ?a3 ?a4 ?_); (case a1 => rfl); (case a2 => rfl); (case a0 => rfl); (case a3 => exact Nat.le_refl 8); (case a4 => (simp [u8s, leB_len, magicB])); intro w2 hb2 hc2)
  have H2 := H1.at4 (a' := u8s (recA n)) hb2 hc2
  have t2 : Tabs w2.drew := ht.below H2.drew.lo h0
  have r2 : Reads w2.drew w2.drew.heap.size 1 (some ⟨w.heap.size + 1 + 1, 0, none⟩) 16 (u8s (recA n)) := Reads.of_blk (w := w2.drew) H2.b4 (by simp [u8s, recA_len]) (fun j u hu => by simpa using hu)
  have hsum := (sum_any w2.drew t2 _ 16 16 _ r2 (by omega)).mono (R' := fun e w' => e = .returned (.int .u32 (crcB (recA n))) ∧ w' = w2.drew) (fun e w' ⟨he, hw⟩ => ⟨he.trans (by rw [crcB, recA_len]), hw.symm⟩)
  have Hsum := Lib.hid hsum
  clear hsum
  go_still_tail 4, (by kernel_rfl)
  still_call (Hsum.out)
  repeat still_step
  refine wpStill_nil ?_
  change wpList _ _ _ _ _ w2.drew
  have H3 := H2.drew
  generalize w2.drew = w3 at H3 ⊢
  have hcr : IntKind.u64.wrap (crcB (recA n)) = crcB (recA n) := by have := xor_nn IntKind.u32.max (sumK (recA n) (recA n).length); rw [IntKind.wrap_u64]; unfold crcB; omega
  go_wp2_with fail
  refine (low_any w3 _ 0 4 16 _ _ _ H3.b5 (by omega) (by decide)).mono ?_
  rintro e w4 ⟨rfl, hb4, hc4⟩
  have H4 := H3.at5 hb4 hc4
  go_wp2_with fail
  refine (low_any w4 _ 4 8 12 _ _ n H4.b5 (by omega) (by simp [u8s, leB_len])).mono ?_
  rintro e w5 ⟨rfl, hb5, hc5⟩
  have H5 := H4.at5 (b' := u8s (recB n)) (by
    have e : (List.take 4 (List.take 0 z16 ++ u8s (leB 4 (crcB (recA n))) ++ List.drop (0 + 4) z16) ++ u8s (leB 8 n) ++ List.drop (4 + 8) (List.take 0 z16 ++ u8s (leB 4 (crcB (recA n))) ++ List.drop (0 + 4) z16)) = u8s (recB n) := by
      simp [u8s, recB, leB, List.range_succ]
    rw [e] at hb5; exact hb5) hc5
  go_wp2_with fail
  have H6 := H5.drew
  refine wp_region_any (by kernel_rfl) ?_
  change wpAny _ _ _ _ _ _ _ (World.drew _)
  generalize w5.drew = w6 at H6 ⊢
  have la : (u8s (recA n)).toArray.size = 16 := by simp [u8s, recA_len]
  have lb : (u8s (recB n)).toArray.size = 16 := by simp [u8s, recB_len]
  (refine wpAny_ready (rs := [0, 1]) (by kernel_rfl) (by simp) ?_)
  refine AllReady.cons rfl (fun K hK => ?_) (AllReady.cons rfl (fun K hK => ?_) AllReady.nil)
  · (refine step_load_all (u8s (recA n)) Tryd.agg16 (H6).b4 ?e1 la ?_; (case e1 => rfl); go_simp; refine hK _ _ ?_; clear hK K)
    (refine wpAny_ready (rs := [1, 2]) (by kernel_rfl) (by simp) ?_)
    refine AllReady.cons rfl (fun K hK => ?_) (AllReady.cons rfl (fun K hK => ?_) AllReady.nil)
    · (refine step_load_all (u8s (recB n)) Tryd.agg16 (H6).b5 ?e1 lb ?_; (case e1 => rfl); go_simp; refine hK _ _ ?_; clear hK K)
      (refine wpAny_ready (rs := [2]) (by kernel_rfl) (by simp) ?_)
      refine AllReady.cons rfl (fun K hK => ?_) AllReady.nil
      (refine step_store_all (u8s (recA n)) Tryd.agg16 (H6).b2 ?e1 ?e2 rfl la (u8s_one _) ?_; (case e1 => rfl); (case e2 => rfl); intro w7 hb7 hc7; have H7 := (H6).at2 hb7 hc7; go_simp; refine hK _ _ ?_; clear hK K)
      (refine wpAny_ready (rs := [3]) (by kernel_rfl) (by simp) ?_)
      refine AllReady.cons rfl (fun K hK => ?_) AllReady.nil
      (refine step_store_all (u8s (recB n)) Tryd.agg16 (H7).b3 ?e1 ?e2 rfl lb (u8s_one _) ?_; (case e1 => rfl); (case e2 => rfl); intro w8 hb8 hc8; have H8 := (H7).at3 hb8 hc8; go_simp; refine hK _ _ ?_; clear hK K)
      (refine wpAny_done (by kernel_rfl) ?_ _; go_wp2_with fail; exact bodyPost_ret (results_cells2 (fn := Tryd.f17) rfl rfl rfl (run_load_blk Tryd.agg16 _ H8.b2 (by simpa using la)) (run_load_blk Tryd.agg16 _ H8.b3 (by simpa using lb))) rfl ⟨rfl, H8.lo⟩)
    · (refine step_store_all (u8s (recA n)) Tryd.agg16 (H6).b2 ?e1 ?e2 rfl la (u8s_one _) ?_; (case e1 => rfl); (case e2 => rfl); intro w7 hb7 hc7; have H7 := (H6).at2 hb7 hc7; go_simp; refine hK _ _ ?_; clear hK K)
      (refine wpAny_ready (rs := [1]) (by kernel_rfl) (by simp) ?_)
      refine AllReady.cons rfl (fun K hK => ?_) AllReady.nil
      (refine step_load_all (u8s (recB n)) Tryd.agg16 (H7).b5 ?e1 lb ?_; (case e1 => rfl); go_simp; refine hK _ _ ?_; clear hK K)
      (refine wpAny_ready (rs := [3]) (by kernel_rfl) (by simp) ?_)
      refine AllReady.cons rfl (fun K hK => ?_) AllReady.nil
      (refine step_store_all (u8s (recB n)) Tryd.agg16 (H7).b3 ?e1 ?e2 rfl lb (u8s_one _) ?_; (case e1 => rfl); (case e2 => rfl); intro w8 hb8 hc8; have H8 := (H7).at3 hb8 hc8; go_simp; refine hK _ _ ?_; clear hK K)
      (refine wpAny_done (by kernel_rfl) ?_ _; go_wp2_with fail; exact bodyPost_ret (results_cells2 (fn := Tryd.f17) rfl rfl rfl (run_load_blk Tryd.agg16 _ H8.b2 (by simpa using la)) (run_load_blk Tryd.agg16 _ H8.b3 (by simpa using lb))) rfl ⟨rfl, H8.lo⟩)
  · (refine step_load_all (u8s (recB n)) Tryd.agg16 (H6).b5 ?e1 lb ?_; (case e1 => rfl); go_simp; refine hK _ _ ?_; clear hK K)
    (refine wpAny_ready (rs := [0]) (by kernel_rfl) (by simp) ?_)
    refine AllReady.cons rfl (fun K hK => ?_) AllReady.nil
    (refine step_load_all (u8s (recA n)) Tryd.agg16 (H6).b4 ?e1 la ?_; (case e1 => rfl); go_simp; refine hK _ _ ?_; clear hK K)
    (refine wpAny_ready (rs := [2]) (by kernel_rfl) (by simp) ?_)
    refine AllReady.cons rfl (fun K hK => ?_) AllReady.nil
    (refine step_store_all (u8s (recA n)) Tryd.agg16 (H6).b2 ?e1 ?e2 rfl la (u8s_one _) ?_; (case e1 => rfl); (case e2 => rfl); intro w7 hb7 hc7; have H7 := (H6).at2 hb7 hc7; go_simp; refine hK _ _ ?_; clear hK K)
    (refine wpAny_ready (rs := [3]) (by kernel_rfl) (by simp) ?_)
    refine AllReady.cons rfl (fun K hK => ?_) AllReady.nil
    (refine step_store_all (u8s (recB n)) Tryd.agg16 (H7).b3 ?e1 ?e2 rfl lb (u8s_one _) ?_; (case e1 => rfl); (case e2 => rfl); intro w8 hb8 hc8; have H8 := (H7).at3 hb8 hc8; go_simp; refine hK _ _ ?_; clear hK K)
    (refine wpAny_done (by kernel_rfl) ?_ _; go_wp2_with fail; exact bodyPost_ret (results_cells2 (fn := Tryd.f17) rfl rfl rfl (run_load_blk Tryd.agg16 _ H8.b2 (by simpa using la)) (run_load_blk Tryd.agg16 _ H8.b3 (by simpa using lb))) rfl ⟨rfl, H8.lo⟩)
end Go.Proofs.YtajokeimipllcaaDoor
