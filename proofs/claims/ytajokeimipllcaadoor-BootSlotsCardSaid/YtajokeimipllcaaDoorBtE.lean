/-
  Layer 8 (boot): Slots.
-/
import Derived.Test.YtajokeimipllcaaDoorBtD
import Derived.RangeFuncFrom
import Derived.RegionTactic
import Derived.Deep.QuietTactic
import Derived.BigQuiet
set_option linter.unusedVariables false
namespace Go.Ed
open Go.RowKit
section
variable {P : Program} {w : World}
theorem run_load_int {ty : TypeId} {k : IntKind} {p : Addr} {v : Value} (hu : P.underlying ty = some (.int k)) (h : w.cell? p = some v) : (loadVar ty p).run P w = .ok v w := by
  simp [loadVar, isAgg, run_underlying hu, h, go_sem]
theorem results_cells3 {fn : Func} {r1 r2 r3 t1 t2 t3 : Nat} (hf : fn.results = #[.cell r1 t1, .cell r2 t2, .cell r3 t3]) {tmps : Array Value} {p1 p2 p3 : Addr} {u1 u2 u3 : Value} (e1 : tmps.getD r1 undef = .pointer (some p1)) (e2 : tmps.getD r2 undef = .pointer (some p2)) (e3 : tmps.getD r3 undef = .pointer (some p3))
    (h1 : (loadVar t1 p1).run P w = .ok u1 w) (h2 : (loadVar t2 p2).run P w = .ok u2 w) (h3 : (loadVar t3 p3).run P w = .ok u3 w) : (results fn tmps).run P w = .ok (.tuple #[u1, u2, u3]) w := by
  simp only [results, hf, List.mapM_toArray, List.mapM_cons, List.mapM_nil, Sem.run_bind, e1, e2, e3, asAddr, Sem.run_pure, Result.andThen_ok, h1, h2, h3]
  simp [h1, h2, h3]
end
end Go.Ed
namespace Go.Proofs.YtajokeimipllcaaDoor
open Go.ChangeShapes Go.WideShapes Go.ChangeAt Go.RowKit Go.Ed
attribute [local go_sem] Oper.semAt_some

theorem slots_k (w : World) (g : Nat) : Calls Tryd.prog 24 #[.pointer (some ⟨g, 0, none⟩)] w fun e w' => e = .returned (.func (.func 29) #[] #[.pointer (some ⟨w.heap.size, 0, none⟩)]) ∧ w' = w.alloc (.cells #[.pointer (some ⟨g, 0, none⟩)] 28) := by
  have hmf : ∀ (fn : Fn) (first cap : Array Value) (w : World), (Instr.makeFunc fn first cap).run Tryd.prog w = .ok (.func fn first cap) w := fun _ _ _ _ => rfl
  go_enter Tryd.func24, Tryd.ntmps24
  go_wp2_with fail
  go_ret
  exact ⟨rfl, rfl⟩

/-- memory while Slots is at work -/
structure BW (w0 w : World) (a0 a1 c : Int) : Prop where
  lo : Below w0.heap.size w0 w
  b2 : Blk w w0.heap.size 2 #[.int .i64 0]
  b3 : Blk w (w0.heap.size + 1) 2 #[.int .i64 0]
  b4 : Blk w (w0.heap.size + 1 + 1) 31 #[.int .i64 0]
  b5 : Blk w (w0.heap.size + 1 + 1 + 1) 56 #[.int .i64 a0, .int .i64 a1]
  b6 : Blk w (w0.heap.size + 1 + 1 + 1 + 1) 3 #[.int .i64 c]
theorem BW.start (w : World) : BW w (((((w.alloc (.cells #[.int .i64 0] 2)).alloc (.cells #[.int .i64 0] 2)).alloc (.cells #[.int .i64 0] 31)).alloc (.cells #[.int .i64 0, .int .i64 0] 56)).alloc (.cells #[.int .i64 0] 3)) 0 0 0 :=
  ⟨(((((Below.refl _ w).alloc (Nat.le_refl _) _).alloc (by simp) _).alloc (by simp; omega) _).alloc (by simp; omega) _).alloc (by simp; omega) _,
   ((((Blk.new w _ _).alloc _).alloc _).alloc _).alloc _, (((Blk.new' (by simp)).alloc _).alloc _).alloc _, ((Blk.new' (by simp)).alloc _).alloc _, (Blk.new' (by simp)).alloc _, Blk.new' (by simp)⟩
theorem BW.alloc {w0 w : World} {a0 a1 c : Int} (h : BW w0 w a0 a1 c) (o : Obj) : BW w0 (w.alloc o) a0 a1 c := ⟨h.lo.alloc h.lo.size o, h.b2.alloc o, h.b3.alloc o, h.b4.alloc o, h.b5.alloc o, h.b6.alloc o⟩
theorem BW.put0 {w0 w : World} {a0 a1 c : Int} (h : BW w0 w a0 a1 c) (x : Int) : BW w0 (w.setCell ⟨w0.heap.size + 1 + 1 + 1, 0, none⟩ (.int .i64 x)) x a1 c :=
  ⟨h.lo.setCell (p := ⟨w0.heap.size + 1 + 1 + 1, 0, none⟩) (by simp <;> omega) _, h.b2.far (by simp <;> omega) _, h.b3.far (by simp <;> omega) _, h.b4.far (by simp) _, h.b5.set_ 0 _, h.b6.far (by simp) _⟩
theorem BW.put1 {w0 w : World} {a0 a1 c : Int} (h : BW w0 w a0 a1 c) (x : Int) : BW w0 (w.setCell ⟨w0.heap.size + 1 + 1 + 1, 1, none⟩ (.int .i64 x)) a0 x c :=
  ⟨h.lo.setCell (p := ⟨w0.heap.size + 1 + 1 + 1, 1, none⟩) (by simp <;> omega) _, h.b2.far (by simp <;> omega) _, h.b3.far (by simp <;> omega) _, h.b4.far (by simp) _, h.b5.set_ 1 _, h.b6.far (by simp) _⟩
theorem BW.put6 {w0 w : World} {a0 a1 c : Int} (h : BW w0 w a0 a1 c) (x : Int) : BW w0 (w.setCell ⟨w0.heap.size + 1 + 1 + 1 + 1, 0, none⟩ (.int .i64 x)) a0 a1 x :=
  ⟨h.lo.setCell (p := ⟨w0.heap.size + 1 + 1 + 1 + 1, 0, none⟩) (by simp <;> omega) _, h.b2.far (by simp <;> omega) _, h.b3.far (by simp <;> omega) _, h.b4.far (by simp <;> omega) _, h.b5.far (by simp) _, h.b6.set_ 0 _⟩
/-- memory at the end of Slots -/
structure BW2 (w0 w : World) (a b c : Int) : Prop where
  lo : Below w0.heap.size w0 w
  b2 : Blk w w0.heap.size 2 #[.int .i64 a]
  b3 : Blk w (w0.heap.size + 1) 2 #[.int .i64 b]
  b4 : Blk w (w0.heap.size + 1 + 1) 31 #[.int .i64 c]
theorem blk_kept {W W' : World} {row : Option Nat} {g : Nat} {t : TypeId} {cs : Array Value} (h : Blk W g t cs) (hg : W.grownBy W' row) (hr : ∀ r, row = some r → ∃ o : Obj, W.heap[r]? = some o ∧ o.isCells = false) : Blk W' g t cs :=
  (grownBy_keeps_cells hg hr h rfl).trans h
theorem bw_own {w : World} {B : Nat} (hB : w.heap.size ≤ B) : OwnFrom B (fun (pre : List Int) W => BW w W (pre.getD 0 0) (pre.getD 1 0) pre.length) := fun pre W W' row h hg hr => by
  have hr' : ∀ r, row = some r → ∃ o : Obj, W.heap[r]? = some o ∧ o.isCells = false := fun r e => (hr r e).2
  exact ⟨h.lo.grown hg h.lo.size (fun k e => Nat.le_trans hB (hr k e).1), blk_kept h.b2 hg hr', blk_kept h.b3 hg hr', blk_kept h.b4 hg hr', blk_kept h.b5 hg hr', blk_kept h.b6 hg hr'⟩
theorem keep4_t {g s B : Nat} {X Y Z : World} (h : Keep4 g s B X Y) (k : Keep4 g s B Y Z) : Keep4 g s B X Z := Chg.trans h k
theorem keep4_b {g s B l m : Nat} {W : World} {o' : Obj} (hl : m ≤ l) (h0 : 0 < m) (hg : g < m) (hs : s < m) (hB : B < m) : Keep4 g s B W (W.putObj l o') :=
  ⟨rfl, rfl, rfl, by simp, fun k hk hn => World.putObj_heap_other (by intro e; subst e; exact hn ⟨by omega, by omega, by omega, by omega⟩)⟩
set_option maxRecDepth 100000 in
set_option maxHeartbeats 4000000 in
theorem slots_in (w : World) {g s n : Nat} {cut : Bool} {left writes : Int} {bs : List Int} (hd : Dsk w g s false cut left n writes bs) (ht : Tabs w) (hn4 : 4 ≤ n) (x0 x1 : Int) (hx0 : standS (sect bs 0) (sect bs 1) = x0) (hx1 : standS (sect bs 2) (sect bs 3) = x1) :
    CallsIn Fence.wide 6 Tryd.prog 15 #[.pointer (some ⟨g, 0, none⟩)] w fun e w' => e = .returned (.tuple #[.int .i64 x0, .int .i64 x1, .int .i64 0]) ∧ Below w.heap.size w w' := by
  have hnn : ¬ ((n : Int) < 4) := by omega
  refine callsIn_of_wp_marks Tryd.func15 rfl trivial ?_ rfl
  simp only [Tryd.ntmps15, List.size_toArray, List.length_cons, List.length_nil, Nat.reduceAdd, Nat.reduceSub, Array.replicate_succ, Array.replicate_zero, List.push_toArray, List.append_toArray, List.nil_append, List.cons_append]
  refine wpIn_wide.2 ?_
  have H0 := BW.start w
  have hd3 : Dsk (((w.alloc (.cells #[.int .i64 0] 2)).alloc (.cells #[.int .i64 0] 2)).alloc (.cells #[.int .i64 0] 31)) g s false cut left n writes bs := ((hd.alloc _).alloc _).alloc _
  go_wp2_with (first
    | (go_at_call 22; (with_reducible refine (dead_any _ hd3).mono ?_); rintro e w' ⟨rfl, rfl⟩)
    | (go_at_call 23; (with_reducible refine (sectors_any _ hd3).mono ?_); rintro e w' ⟨rfl, rfl⟩)
    | (go_at_call 24; (with_reducible refine (slots_k _ _).mono ?_); rintro e w' ⟨rfl, rfl⟩))
  have H1 := H0.alloc (.cells #[.pointer (some ⟨g, 0, none⟩)] 28)
  have hI1 : IW ((((((w.alloc (.cells #[.int .i64 0] 2)).alloc (.cells #[.int .i64 0] 2)).alloc (.cells #[.int .i64 0] 31)).alloc (.cells #[.int .i64 0, .int .i64 0] 56)).alloc (.cells #[.int .i64 0] 3)).alloc (.cells #[.pointer (some ⟨g, 0, none⟩)] 28)) (w.heap.size + 1 + 1 + 1 + 1 + 1) g s n cut left writes bs :=
    ⟨((hd3.alloc _).alloc _).alloc _, ht.below H1.lo (by have := hd.head.lt; omega), Blk.new' (by simp)⟩
  generalize ((((((w.alloc (.cells #[.int .i64 0] 2)).alloc (.cells #[.int .i64 0] 2)).alloc (.cells #[.int .i64 0] 31)).alloc (.cells #[.int .i64 0, .int .i64 0] 56)).alloc (.cells #[.int .i64 0] 3)).alloc (.cells #[.pointer (some ⟨g, 0, none⟩)] 28)) = W1 at H1 hI1 ⊢
  have lg := hd.head.lt
  have ls := hd.body.lt
  have lB := hI1.box.lt
  generalize hB : w.heap.size + 1 + 1 + 1 + 1 + 1 = B at hI1 lB ⊢
  clear hd3 H0
  have hstop := slots1_stops W1 W1.heap.size B g s n cut left writes bs hI1 hn4 (by omega) lB (by omega) (by omega) (Nat.le_refl _)
  rw [hx0, hx1] at hstop
  clear hx0 hx1
  refine (wpIn_wide (n := 6)).1 ?_
  refine wpIn_rangeFunc_ownF (F := Fence.wide) (n := 6) rfl (by omega) (gf := 29) (lb := #[.pointer (some ⟨B, 0, none⟩)]) rfl trivial (enters_of Tryd.func29 (by kernel_rfl) rfl)
    hstop (fun h k => keep4_t h k) (fun W l o o' hl ho _ _ => keep4_b hl (by omega) (by omega) (by omega) (by omega)) (Below.refl _ _) (fun _ => rfl)
    (fun pre W => BW w W (pre.getD 0 0) (pre.getD 1 0) pre.length) (fun _ _ _ => False) (bw_own (by have := H1.lo.size; omega)) (fun _ _ _ _ _ hs _ _ => hs) H1
    (fun x => { tmps := #[.pointer (some ⟨g, 0, none⟩), undef, .pointer (some ⟨w.heap.size, 0, none⟩), .pointer (some ⟨w.heap.size + 1, 0, none⟩), .pointer (some ⟨w.heap.size + 1 + 1, 0, none⟩), .pointer (some ⟨w.heap.size + 1 + 1 + 1, 0, none⟩), .pointer (some ⟨w.heap.size + 1 + 1 + 1 + 1, 0, none⟩), .int .i64 x, .int .i64 0, .bool false, .pointer (some ⟨g, 0, none⟩), .bool false, .bool (decide ((n : Int) < 4)), .pointer (some ⟨g, 0, none⟩), .int .i64 n, .bool (decide ((n : Int) < 4)), .pointer (some ⟨g, 0, none⟩), .func (.func 29) #[] #[.pointer (some ⟨B, 0, none⟩)], .int .i64 x, .int .i64 0, undef, undef, undef, undef, undef, undef, undef, undef, undef, undef, undef, undef], defers := [] }) ?assign ?body ?done ?stop
  case assign =>
    intro l x W K hK
    gi_wp2
    exact hK
  case body =>
    rintro l pre x W hI hlen
    rcases pre with _ | ⟨y, _ | ⟨z, r⟩⟩
    · have hI : BW w W 0 0 0 := hI
      have c5 := hI.b5.cell 0
      have f5 := hI.b5.frozen 0
      have c6 := hI.b6.cell 0
      have f6 := hI.b6.frozen 0
      simp only [List.getElem?_toArray, List.getElem?_cons_zero] at c5 c6
      gi_wp2
      exact ⟨(KeepsOthers.setCell _ _ _).trans (KeepsOthers.setCell _ _ _), ((Chg.refl _ W).setCell (p := ⟨w.heap.size + 1 + 1 + 1, 0, none⟩) (fun _ => ⟨by simp, by simp; omega, by simp; omega, by simp; omega⟩) _).setCell (p := ⟨w.heap.size + 1 + 1 + 1 + 1, 0, none⟩) (fun _ => ⟨by simp, by simp; omega, by simp; omega, by simp; omega⟩) _, (hI.put0 x).put6 1⟩
    · have hI : BW w W y 0 1 := hI
      have c5 := hI.b5.cell 1
      have f5 := hI.b5.frozen 1
      have c6 := hI.b6.cell 0
      have f6 := hI.b6.frozen 0
      simp only [List.getElem?_toArray, List.getElem?_cons_zero, List.getElem?_cons_succ] at c5 c6
      gi_wp2
      exact ⟨(KeepsOthers.setCell _ _ _).trans (KeepsOthers.setCell _ _ _), ((Chg.refl _ W).setCell (p := ⟨w.heap.size + 1 + 1 + 1, 1, none⟩) (fun _ => ⟨by simp, by simp; omega, by simp; omega, by simp; omega⟩) _).setCell (p := ⟨w.heap.size + 1 + 1 + 1 + 1, 0, none⟩) (fun _ => ⟨by simp, by simp; omega, by simp; omega, by simp; omega⟩) _, (hI.put1 x).put6 2⟩
    · simp at hlen; omega
  case done =>
    rintro D ys W hD rfl hI hK
    have hI : BW w W x0 x1 2 := hI
    have c2 := hI.b2.cell 0
    have f2 := hI.b2.frozen 0
    have c3 := hI.b3.cell 0
    have f3 := hI.b3.frozen 0
    have c4 := hI.b4.cell 0
    have f4 := hI.b4.frozen 0
    have c5 := hI.b5.cell 0
    have c5' := hI.b5.cell 1
    simp only [List.getElem?_toArray, List.getElem?_cons_zero, List.getElem?_cons_succ] at c2 c3 c4 c5 c5'
    gi_wp2
    go_wp2_with fail
    go_region
    have hlo := hI.lo.size
    have H2 : BW2 w (((W.setCell ⟨w.heap.size, 0, none⟩ (.int .i64 x0)).setCell ⟨w.heap.size + 1, 0, none⟩ (.int .i64 x1)).setCell ⟨w.heap.size + 1 + 1, 0, none⟩ (.int .i64 0)).drew x0 x1 0 :=
      ⟨(((hI.lo.setCell (p := ⟨w.heap.size, 0, none⟩) (by simp) _).setCell (p := ⟨w.heap.size + 1, 0, none⟩) (by simp) _).setCell (p := ⟨w.heap.size + 1 + 1, 0, none⟩) (by simp <;> omega) _).drew,
        ((hI.b2.set_ 0 (.int .i64 x0)).far (by simp) _).far (by simp <;> omega) _, ((hI.b3.far (by simp) (.int .i64 x0)).set_ 0 (.int .i64 x1)).far (by simp) _, ((hI.b4.far (by simp <;> omega) (.int .i64 x0)).far (by simp) (.int .i64 x1)).set_ 0 (.int .i64 0)⟩
    have hK2 : (((W.setCell ⟨w.heap.size, 0, none⟩ (.int .i64 x0)).setCell ⟨w.heap.size + 1, 0, none⟩ (.int .i64 x1)).setCell ⟨w.heap.size + 1 + 1, 0, none⟩ (.int .i64 0)).drew.heap[D]? = some (.deferred (some [])) :=
      (((KeepsOthers.setCell _ _ _).trans (KeepsOthers.setCell _ _ _)).trans (KeepsOthers.setCell _ _ _)).same D _ hK rfl
    generalize (((W.setCell ⟨w.heap.size, 0, none⟩ (.int .i64 x0)).setCell ⟨w.heap.size + 1, 0, none⟩ (.int .i64 x1)).setCell ⟨w.heap.size + 1 + 1, 0, none⟩ (.int .i64 0)).drew = W2 at H2 hK2 ⊢
    clear c2 f2 c3 f3 c4 f4 c5 c5' hK hI
    go_wp2_with fail
    refine ⟨by simp, .inl ⟨_, _, rfl, run_takeDeferred hK2, ?_⟩⟩
    refine ⟨_, results_cells3 (fn := Tryd.f15) rfl rfl rfl rfl (run_load_int Tryd.underlying2 ?_) (run_load_int Tryd.underlying2 ?_) (run_load_int Tryd.underlying31 ?_), rfl, ?_⟩
    · exact (blk_kept H2.b2 (grownBy_putObj' W2 D (.deferred none)) (fun r e => by cases e; exact ⟨_, hK2, rfl⟩)).cell 0
    · exact (blk_kept H2.b3 (grownBy_putObj' W2 D (.deferred none)) (fun r e => by cases e; exact ⟨_, hK2, rfl⟩)).cell 0
    · exact (blk_kept H2.b4 (grownBy_putObj' W2 D (.deferred none)) (fun r e => by cases e; exact ⟨_, hK2, rfl⟩)).cell 0
    · exact H2.lo.grown (grownBy_putObj' W2 D _) H2.lo.size (fun k e => by cases e; omega)
  case stop =>
    rintro D c pre W _ _ h _
    exact h.elim
end Go.Proofs.YtajokeimipllcaaDoor
