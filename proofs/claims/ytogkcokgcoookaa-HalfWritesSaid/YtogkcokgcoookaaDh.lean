/-
  Layer 10 (half) as data: the forms of lines, half-edges and registers; contracts that were proved of memory, told of data.
-/
import Derived.Test.YtogkcokgcoookaaTab
import Derived.Test.YtogkcokgcoookaaDd
import Derived.Test.YtogkcokgcoookaaHalfV
import Derived.Test.YtogkcokgcoookaaHalfR
import Derived.Test.YtogkcokgcoookaaHalfT
import Derived.Test.YtogkcokgcoookaaHalfWs
import Derived.Test.YtogkcokgcoookaaHalfFits
import Derived.Test.YtogkcokgcoookaaHalfE
set_option linter.unusedSimpArgs false
set_option linter.unusedVariables false
namespace Go.Proofs.Ytogkcokgcoookaa
open Go.Dl Go.Ed Go.RowKit

def encL (x : Line) : List F := [.s (.string x.nm), .s (.int .i64 x.ver), .s (.int .i64 x.wt), .s (.int .i64 x.fl)]
def encH (h : Half) : List F := [.s (.int .i64 h.peer), .s (.int .i64 h.boot), .s (.int .i64 h.life), .l 4 (h.lines.map encL), .s (.bool h.pend), .s (.int .i64 h.miss)]
def encR (r : Rg) : List F := [.s (.int .i64 r.ver), .s (.int .i64 r.wt), .s (.int .i64 r.fl)]
def gL (ls : List Line) : V := .c (.f (.l 4 (ls.map encL)))
def gH (h : Half) : V := .agg ((encH h).map .f)
def gR (r : Rg) : V := .agg ((encR r).map .f)
def gHs (hs : List Half) : V := .c (.f (.l 6 (hs.map encH)))
def gI (x : Int) : V := .c (.f (.s (.int .i64 x)))
def gB (b : Bool) : V := .c (.f (.s (.bool b)))
def gS (s : ByteArray) : V := .c (.f (.s (.string s)))

section
variable {w : World} {I : Nat → Prop} {B : Nat}
theorem flat_eq (ls : List Line) : (ls.map encL).flatten = (flat Line.cells ls).map .s := by
  induction ls with
  | nil => rfl
  | cons x ls ih => rw [List.map_cons, List.flatten_cons, ih, flat_cons, List.map_append]; rfl
theorem rep_lines {ls : List Line} {u : Value} (h : RepF w I (.l 4 (ls.map encL)) u) (hI : ∀ b, I b → b < B) : ∃ A c, u = .slice A ls.length c ∧ ls.length ≤ c ∧ LinesAt w B A ls.length ls := by
  obtain ⟨A, c, rfl, hc, hf⟩ := slice_form h
  rw [List.length_map] at hc hf ⊢
  refine ⟨A, c, rfl, hc, flat_length _ Line.len ls, fun hn => ?_⟩
  obtain ⟨ad, us, rfl, hi, hk, hcell, hx⟩ := hf hn
  refine ⟨ad, rfl, hI _ hi, fun j u hu => ?_⟩
  have hj : ((ls.map encL).flatten)[j]? = some (.s u) := by rw [flat_eq, List.getElem?_map, hu]; rfl
  have h1 := hx j _ hj
  rw [hcell j _ hj]
  generalize us j = v at h1
  cases h1
  rfl
theorem lines_rep {ls : List Line} {A : Option Addr} {c : Nat} (hc : ls.length ≤ c) (h : LinesAt w B A ls.length ls) (hI : ∀ ad, A = some ad → 0 < ls.length → I ad.block) : RepF w I (.l 4 (ls.map encL)) (.slice A ls.length c) := by
  have := slice_make (w := w) (k := 4) (rows := ls.map encL) (A := A) (c := c) (I := I) (by simpa using hc) fun h0 => by
    rw [List.length_map] at h0
    obtain ⟨ad, rfl, hb, hcell⟩ := h.2 h0
    refine ⟨ad, fun j => ((flat Line.cells ls)[j]?).getD undef, rfl, hI ad rfl h0, fun r hr => by obtain ⟨x, _, rfl⟩ := List.mem_map.1 hr; rfl, fun j x hj => ?_, fun j x hj => ?_⟩
    · rw [flat_eq, List.getElem?_map] at hj
      cases hq : (flat Line.cells ls)[j]? with
      | none => rw [hq] at hj; cases hj
      | some u => simp only [hq]; exact hcell j u hq
    · rw [flat_eq, List.getElem?_map] at hj
      cases hq : (flat Line.cells ls)[j]? with
      | none => rw [hq] at hj; cases hj
      | some u =>
        rw [hq] at hj; cases hj
        simp only [hq]
        exact .s (flat_one _ Line.one ls u (List.mem_of_getElem? hq))
  rwa [List.length_map] at this
theorem reps_six {E : Env} {a b c d e f : C} {us : Array Value} (h : Reps w E [a, b, c, d, e, f] us.toList) : ∃ u0 u1 u2 u3 u4 u5, us = #[u0, u1, u2, u3, u4, u5] ∧ RepC w E a u0 ∧ RepC w E b u1 ∧ RepC w E c u2 ∧ RepC w E d u3 ∧ RepC w E e u4 ∧ RepC w E f u5 := by
  obtain ⟨us⟩ := us
  match us, h with
  | [u0, u1, u2, u3, u4, u5], h => exact ⟨u0, u1, u2, u3, u4, u5, rfl, h.2 0 _ _ rfl rfl, h.2 1 _ _ rfl rfl, h.2 2 _ _ rfl rfl, h.2 3 _ _ rfl rfl, h.2 4 _ _ rfl rfl, h.2 5 _ _ rfl rfl⟩
  | [], h => have := h.1; simp at this
  | [_], h => have := h.1; simp at this
  | [_, _], h => have := h.1; simp at this
  | [_, _, _], h => have := h.1; simp at this
  | [_, _, _, _], h => have := h.1; simp at this
  | [_, _, _, _, _], h => have := h.1; simp at this
  | _ :: _ :: _ :: _ :: _ :: _ :: _ :: _, h => have := h.1; simp at this
theorem rep_fs {E : Env} {v u : Value} (h : RepC w E (.f (.s v)) u) : u = v := rep_s (.c h)
/-- a half-edge that is handed in -/
theorem rep_half {h : Half} {u : Value} (hr : RepV w (.pure I) (gH h) u) (hI : ∀ b, I b → b < B) : ∃ A c, u = HV.val ⟨h, A, c⟩ ∧ h.lines.length ≤ c ∧ LinesAt w B A h.lines.length h.lines := by
  unfold gH encH at hr
  cases hr with
  | agg hr =>
    obtain ⟨u0, u1, u2, u3, u4, u5, rfl, h0, h1, h2, h3, h4, h5⟩ := reps_six hr
    obtain rfl := rep_fs h0
    obtain rfl := rep_fs h1
    obtain rfl := rep_fs h2
    obtain rfl := rep_fs h4
    obtain rfl := rep_fs h5
    cases h3 with
    | f h3 =>
      obtain ⟨A, c, rfl, hc, hL⟩ := rep_lines h3 hI
      exact ⟨A, c, rfl, hc, hL⟩
theorem half_rep {E : Env} {h : Half} {A : Option Addr} {c : Nat} (hc : h.lines.length ≤ c) (hL : LinesAt w B A h.lines.length h.lines) (hI : ∀ ad, A = some ad → 0 < h.lines.length → E.I ad.block) : RepV w E (gH h) (HV.val ⟨h, A, c⟩) := by
  refine .agg ⟨rfl, fun j x u hx hu => ?_⟩
  match j with
  | 0 => cases hx; cases hu; exact .f (.s rfl)
  | 1 => cases hx; cases hu; exact .f (.s rfl)
  | 2 => cases hx; cases hu; exact .f (.s rfl)
  | 3 => cases hx; cases hu; exact .f (lines_rep hc hL hI)
  | 4 => cases hx; cases hu; exact .f (.s rfl)
  | 5 => cases hx; cases hu; exact .f (.s rfl)
  | j + 6 => simp [encH] at hx
theorem rep_three {E : Env} {a b c : Value} {u : Value} (h : RepV w E (.agg [.f (.s a), .f (.s b), .f (.s c)]) u) : u = .agg #[a, b, c] := by
  cases h with
  | @agg _ us h =>
    obtain ⟨us⟩ := us
    match us, h with
    | [u0, u1, u2], h =>
      obtain rfl := rep_fs (h.2 0 _ _ rfl rfl)
      obtain rfl := rep_fs (h.2 1 _ _ rfl rfl)
      obtain rfl := rep_fs (h.2 2 _ _ rfl rfl)
      rfl
    | [], h => have := h.1; simp at this
    | [_], h => have := h.1; simp at this
    | [_, _], h => have := h.1; simp at this
    | _ :: _ :: _ :: _ :: _, h => have := h.1; simp at this
theorem three_rep {E : Env} {a b c : Value} (ha : a.oneCell' = true) (hb : b.oneCell' = true) (hc : c.oneCell' = true) : RepV w E (.agg [.f (.s a), .f (.s b), .f (.s c)]) (.agg #[a, b, c]) := by
  refine .agg ⟨rfl, fun j x u hx hu => ?_⟩
  match j with
  | 0 => cases hx; cases hu; exact .f (.s ha)
  | 1 => cases hx; cases hu; exact .f (.s hb)
  | 2 => cases hx; cases hu; exact .f (.s hc)
  | j + 3 => simp at hx
theorem us1 {us : Array Value} {a : V} (h : [a].length = us.size) : ∃ u, us = #[u] := by
  obtain ⟨us⟩ := us
  match us, h with
  | [u], _ => exact ⟨u, rfl⟩
theorem us2 {us : Array Value} {a b : V} (h : [a, b].length = us.size) : ∃ u v, us = #[u, v] := by
  obtain ⟨us⟩ := us
  match us, h with
  | [u, v], _ => exact ⟨u, v, rfl⟩
theorem us3 {us : Array Value} {a b c : V} (h : [a, b, c].length = us.size) : ∃ u v x, us = #[u, v, x] := by
  obtain ⟨us⟩ := us
  match us, h with
  | [u, v, x], _ => exact ⟨u, v, x, rfl⟩
theorem us4 {us : Array Value} {a b c d : V} (h : [a, b, c, d].length = us.size) : ∃ u v x y, us = #[u, v, x, y] := by
  obtain ⟨us⟩ := us
  match us, h with
  | [u, v, x, y], _ => exact ⟨u, v, x, y, rfl⟩
end
/-- an answer without memory -/
theorem told_s {P : Program} {f : FuncId} {us : Array Value} {w : World} {v : Value} {I : Nat → Prop} (hI : ∀ b, I b → b < w.heap.size) (h1 : v.oneCell' = true) (h : Calls P f us w fun e w' => e = .returned v ∧ Below w.heap.size w w') :
    Calls P f us w fun e w' => ∃ u I', e = .returned u ∧ RepV w' (.pure I') (.c (.f (.s v))) u ∧ Below w.heap.size w w' ∧ (∀ b, I b → I' b) ∧ ∀ b, I' b → I b ∨ (w.heap.size ≤ b ∧ b < w'.heap.size) :=
  h.mono fun e w' ⟨h2, h3⟩ => ⟨v, I, h2, .c (.f (.s h1)), h3, fun _ h => h, fun _ h => .inl h⟩
def Ig (I : Nat → Prop) (w w' : World) : Nat → Prop := fun b => I b ∨ (w.heap.size ≤ b ∧ b < w'.heap.size)

theorem merge_d (id : Int) (h : Half) (nm : ByteArray) (r : Rg) (hn : h.lines.length ≤ 100000000000) : CallC Try.prog 15 [gI id, gH h, gS nm, gR r]
    (.tup [(true, (encH ⟨h.peer, h.boot, h.life, (mergeL id h.peer h.lines nm r).1, h.pend, h.miss⟩).map .f), (false, [.f (.s (.bool (mergeL id h.peer h.lines nm r).2))])]) := by
  refine ⟨⟨_, Try.func15, rfl, by decide⟩, fun w us I hI hl hv => ?_⟩
  obtain ⟨u0, u1, u2, u3, rfl⟩ := us4 hl
  obtain rfl := rep_s (hv 0 _ _ rfl rfl)
  obtain ⟨A, c, rfl, hc, hL⟩ := rep_half (B := w.heap.size) (hv 1 _ _ rfl rfl) hI
  obtain rfl := rep_s (hv 2 _ _ rfl rfl)
  obtain rfl := rep_three (hv 3 _ _ rfl rfl)
  obtain ⟨p, bo, li, ls, pe, mi⟩ := h
  refine (merge_any w id p bo li ls A c pe mi nm r hn hL).mono ?_
  rintro e w' ⟨A', c', rfl, hc', hown, hb⟩
  refine ⟨_, Ig I w w', rfl, .tup rfl fun j x u hx hu => ?_, hb, fun _ h => .inl h, fun _ h => h⟩
  match j with
  | 0 =>
    cases hx; cases hu
    have := half_rep (E := .pure (Ig I w w')) (h := ⟨p, bo, li, (mergeL id p ls nm r).1, pe, mi⟩) hc' (Reads.of_own hown) fun ad ha h0 => by
      subst ha
      have := hown.lt ad.block rfl
      exact .inr this
    cases this with
    | agg h2 => exact ⟨_, rfl, h2⟩
  | 1 => cases hx; cases hu; exact ⟨_, rfl, .f (.s rfl)⟩
  | j + 2 => simp at hx
theorem halfReg_d (h : Half) (nm : ByteArray) (hn : h.lines.length ≤ 100000000000) : CallC Try.prog 14 [gH h, gS nm] (gR (regL h.lines nm)) := by
  refine ⟨⟨_, Try.func14, rfl, by decide⟩, fun w us I hI hl hv => ?_⟩
  obtain ⟨u0, u1, rfl⟩ := us2 hl
  obtain ⟨A, c, rfl, hc, hL⟩ := rep_half (B := w.heap.size) (hv 0 _ _ rfl rfl) hI
  obtain rfl := rep_s (hv 1 _ _ rfl rfl)
  obtain ⟨p, bo, li, ls, pe, mi⟩ := h
  refine (reg10_any w p bo li A ls.length c ls pe mi nm (by simp only [] at hn; omega) hL).mono ?_
  rintro e w' ⟨rfl, hb⟩
  exact ⟨_, I, rfl, three_rep rfl rfl rfl, hb, fun _ h => h, fun _ h => .inl h⟩
theorem refOne_d (h : Half) (hn : h.lines.length ≤ 100000000000) : CallC Try.prog 12 [gH h] (gH h) := by
  refine ⟨⟨_, Try.func12, rfl, by decide⟩, fun w us I hI hl hv => ?_⟩
  obtain ⟨u0, rfl⟩ := us1 hl
  obtain ⟨A, c, rfl, hc, hL⟩ := rep_half (B := w.heap.size) (hv 0 _ _ rfl rfl) hI
  obtain ⟨p, bo, li, ls, pe, mi⟩ := h
  refine (refOne_any w p bo li ls A c pe mi (by simp only [] at hn; omega) hL).mono ?_
  rintro e w' ⟨A', c', rfl, hc', hown, hb⟩
  refine ⟨_, Ig I w w', rfl, half_rep hc' (Reads.of_own hown) fun ad ha h0 => ?_, hb, fun _ h => .inl h, fun _ h => h⟩
  subst ha
  exact .inr (hown.lt ad.block rfl)
theorem refFit_d (id : Int) (h : Half) (hn : h.lines.length ≤ maxLen) (hnm : ∀ l ∈ h.lines, l.nm.size ≤ maxLen) : CallC Try.prog 8 [gI id, gH h] (gB (fitH id h)) := by
  refine ⟨⟨_, Try.func8, rfl, by decide⟩, fun w us I hI hl hv => ?_⟩
  obtain ⟨u0, u1, rfl⟩ := us2 hl
  obtain rfl := rep_s (hv 0 _ _ rfl rfl)
  obtain ⟨A, c, rfl, hc, hL⟩ := rep_half (B := w.heap.size) (hv 1 _ _ rfl rfl) hI
  exact told_s hI rfl (refFit10_any w id h A c hL hn hnm)
theorem refName_d (s : ByteArray) (hs : s.size ≤ maxLen) : CallC Try.prog 9 [gS s] (gB (nameOk s)) := by
  refine ⟨⟨_, Try.func9, rfl, by decide⟩, fun w us I hI hl hv => ?_⟩
  obtain ⟨u0, rfl⟩ := us1 hl
  obtain rfl := rep_s (hv 0 _ _ rfl rfl)
  exact told_s hI rfl ((refName_any w s hs).mono fun e w' ⟨h1, h2⟩ => ⟨h1, h2 ▸ Below.refl _ _⟩)
theorem refFit9_d (r : Rg) (id p : Int) : CallC Try.prog 13 [gR r, gI id, gI p] (gB (fitR r id p)) := by
  refine ⟨⟨_, Try.func13, rfl, by decide⟩, fun w us I hI hl hv => ?_⟩
  obtain ⟨u0, u1, u2, rfl⟩ := us3 hl
  obtain rfl := rep_three (hv 0 _ _ rfl rfl)
  obtain rfl := rep_s (hv 1 _ _ rfl rfl)
  obtain rfl := rep_s (hv 2 _ _ rfl rfl)
  exact told_s hI rfl (reg09_any w r.ver r.wt r.fl id p)
theorem refNewer_d (a b : Rg) : CallC Try.prog 16 [gR a, gR b] (gB (newer a b)) := by
  refine ⟨⟨_, Try.func16, rfl, by decide⟩, fun w us I hI hl hv => ?_⟩
  obtain ⟨u0, u1, rfl⟩ := us2 hl
  obtain rfl := rep_three (hv 0 _ _ rfl rfl)
  obtain rfl := rep_three (hv 1 _ _ rfl rfl)
  exact told_s hI rfl (refNewer_any w a b _ rfl)
theorem awake_d : CallC Try.prog 11 [] (gB true) := by
  refine ⟨⟨_, Try.func11, rfl, by decide⟩, fun w us I hI hl hv => ?_⟩
  obtain rfl : us = #[] := by obtain ⟨us⟩ := us; match us, hl with | [], _ => rfl
  exact told_s hI rfl (awake10 w)
theorem eq_Reg : EqOk Try.prog 29 [some (.int .i64), some (.int .i64), some (.int .i64)] := by
  have key : ∀ us : Array Value, us.toList.map kd = [some (.int .i64), some (.int .i64), some (.int .i64)] → ∃ a b c : Int, us = #[.int .i64 a, .int .i64 b, .int .i64 c] := fun us h => by
    obtain ⟨us⟩ := us
    match us, h with
    | [u, v, x], h =>
      simp only [List.map_cons, List.map_nil, List.cons.injEq, and_true] at h
      have one : ∀ u : Value, kd u = some (.int .i64) → ∃ a : Int, u = .int .i64 a := fun u hu => by
        cases u <;> simp [kd] at hu
        exact ⟨_, by rw [hu]⟩
      obtain ⟨a, rfl⟩ := one u h.1
      obtain ⟨b, rfl⟩ := one v h.2.1
      obtain ⟨c, rfl⟩ := one x h.2.2
      exact ⟨a, b, c, rfl⟩
    | [], h => simp at h
    | [_], h => simp at h
    | [_, _], h => simp at h
    | _ :: _ :: _ :: _ :: _, h => simp at h
  intro us vs r w hu hv hr x y
  obtain ⟨a, b, c, rfl⟩ := key us hu
  obtain ⟨a', b', c', rfl⟩ := key vs hv
  simp only [valEq, Bool.and_true, Option.some.injEq] at hr
  subst hr
  refine ⟨by simp [go_sem], by simp [go_sem], reg_eql _ _ _ _ _ _ _, ?_⟩
  rw [run_neq_struct]
  by_cases h1 : a = a' <;> by_cases h2 : b = b' <;> by_cases h3 : c = c' <;> simp [go_sem, run_equalIn_agg, run_equalIn_int, h1, h2, h3]
set_option maxRecDepth 100000 in
set_option maxHeartbeats 2000000 in
theorem refMerge9_d (a b : Rg) : CallC Try.prog 47 [gR a, gR b] (gR (if newer b a then b else a)) := by
  refine call_of hT [.cell 4 29] Try.func47 rfl (by decide) (by simp [Try.ntmps47]) rfl (fun X w0 => ?_)
  simp only [gR, encR, List.map_cons, List.map_nil]
  (refine dw_seq_k fun R hR => ?_; (refine dw_row hT (by decide) ?_; simp only [exB_nil, exB_cons, gd2_t, gd2_f, RunB_eq, SkipB_eq, gdV, eff2, cellEq, kdC, kd, gOf, calleeOf, effd, ev, cv, putS, upd_same, upd_miss, St.of, lkV_hit, lkV_miss, lkV_end, lkB_hit, lkB_miss, lkB_end, noArr_eq, lkA_zero, lkA_succ, vcells, pack, rowsOf, bin, killV, killB, killC, partsD, fillD, frz, Option.isSome_some, Option.bind_some, Option.map_some, List.getD_cons_zero, List.getD_cons_succ, List.getElem?_toArray, List.getElem?_cons_zero, List.getElem?_cons_succ, List.map_cons, List.map_nil, List.drop_zero, List.drop_succ_cons, List.take_succ_cons, List.take_zero, List.length_cons, List.length_nil, List.length_map, List.append_eq, List.cons_append, List.nil_append, Nat.reduceAdd, Nat.reduceLeDiff, Nat.reduceEqDiff, Nat.reduceBEq, Nat.reduceLT, ↓reduceIte, if_true, if_false, true_and, and_true, reduceCtorEq, true_or, or_true, ne_eq, not_true_eq_false, not_false_eq_true, Bool.not_true, Bool.not_false, bq1, bq0, chk, tt29, tt2, tt3, tt4, tt25]))
  (refine hR _ ?_; try dsimp only [thenD, inBlockD])
  refine dw_seq_k fun R2 hR2 => ?_
  (refine dw_seq_k fun R hR => ?_; (refine dw_row hT (by decide) ?_; simp only [exB_nil, exB_cons, gd2_t, gd2_f, RunB_eq, SkipB_eq, gdV, eff2, cellEq, kdC, kd, gOf, calleeOf, effd, ev, cv, putS, upd_same, upd_miss, St.of, lkV_hit, lkV_miss, lkV_end, lkB_hit, lkB_miss, lkB_end, noArr_eq, lkA_zero, lkA_succ, vcells, pack, rowsOf, bin, killV, killB, killC, partsD, fillD, frz, Option.isSome_some, Option.bind_some, Option.map_some, List.getD_cons_zero, List.getD_cons_succ, List.getElem?_toArray, List.getElem?_cons_zero, List.getElem?_cons_succ, List.map_cons, List.map_nil, List.drop_zero, List.drop_succ_cons, List.take_succ_cons, List.take_zero, List.length_cons, List.length_nil, List.length_map, List.append_eq, List.cons_append, List.nil_append, Nat.reduceAdd, Nat.reduceLeDiff, Nat.reduceEqDiff, Nat.reduceBEq, Nat.reduceLT, ↓reduceIte, if_true, if_false, true_and, and_true, reduceCtorEq, true_or, or_true, ne_eq, not_true_eq_false, not_false_eq_true, Bool.not_true, Bool.not_false, bq1, bq0, chk, tt29, tt2, tt3, tt4, tt25]))
  refine ⟨_, _, refNewer_d b a, (by simp [vles, vle, cle, fle, gI, gB, gS, gR, gH, gHs, encR, encH]), ?_⟩; rw [later_eq]
  simp only [gB]
  (refine hR _ ?_; try dsimp only [thenD, inBlockD])
  refine dw_cond rfl (fun h => ?_) (fun h => ?_)
  · rw [if_pos h]
    (refine dw_seq_k fun R hR => ?_; (refine dw_row hT (by decide) ?_; simp only [exB_nil, exB_cons, gd2_t, gd2_f, RunB_eq, SkipB_eq, gdV, eff2, cellEq, kdC, kd, gOf, calleeOf, effd, ev, cv, putS, upd_same, upd_miss, St.of, lkV_hit, lkV_miss, lkV_end, lkB_hit, lkB_miss, lkB_end, noArr_eq, lkA_zero, lkA_succ, vcells, pack, rowsOf, bin, killV, killB, killC, partsD, fillD, frz, Option.isSome_some, Option.bind_some, Option.map_some, List.getD_cons_zero, List.getD_cons_succ, List.getElem?_toArray, List.getElem?_cons_zero, List.getElem?_cons_succ, List.map_cons, List.map_nil, List.drop_zero, List.drop_succ_cons, List.take_succ_cons, List.take_zero, List.length_cons, List.length_nil, List.length_map, List.append_eq, List.cons_append, List.nil_append, Nat.reduceAdd, Nat.reduceLeDiff, Nat.reduceEqDiff, Nat.reduceBEq, Nat.reduceLT, ↓reduceIte, if_true, if_false, true_and, and_true, reduceCtorEq, true_or, or_true, ne_eq, not_true_eq_false, not_false_eq_true, Bool.not_true, Bool.not_false, bq1, bq0, chk, tt29, tt2, tt3, tt4, tt25]))
    (refine hR _ ?_; try dsimp only [thenD, inBlockD])
    refine dw_ret ?_
    simp only [inBlockD, retQ, thenD, Ret, resV, res1, parts, part1, exB_nil, exB_cons, gd2_t, gd2_f, RunB_eq, SkipB_eq, gdV, eff2, cellEq, kdC, kd, gOf, calleeOf, effd, ev, cv, putS, upd_same, upd_miss, St.of, lkV_hit, lkV_miss, lkV_end, lkB_hit, lkB_miss, lkB_end, noArr_eq, lkA_zero, lkA_succ, vcells, pack, rowsOf, bin, killV, killB, killC, partsD, fillD, frz, Option.isSome_some, Option.bind_some, Option.map_some, List.getD_cons_zero, List.getD_cons_succ, List.getElem?_toArray, List.getElem?_cons_zero, List.getElem?_cons_succ, List.map_cons, List.map_nil, List.drop_zero, List.drop_succ_cons, List.take_succ_cons, List.take_zero, List.length_cons, List.length_nil, List.length_map, List.append_eq, List.cons_append, List.nil_append, Nat.reduceAdd, Nat.reduceLeDiff, Nat.reduceEqDiff, Nat.reduceBEq, Nat.reduceLT, ↓reduceIte, if_true, if_false, true_and, and_true, reduceCtorEq, true_or, or_true, ne_eq, not_true_eq_false, not_false_eq_true, Bool.not_true, Bool.not_false, bq1, bq0, chk, tt29, tt2, tt3, tt4, tt25, vle, ple, cle, fle, true_and, and_true]
  · rw [if_neg (by simp [h])]
    refine dw_skip ?_
    refine hR2 _ ?_
    (refine dw_seq_k fun R hR => ?_; (refine dw_row hT (by decide) ?_; simp only [exB_nil, exB_cons, gd2_t, gd2_f, RunB_eq, SkipB_eq, gdV, eff2, cellEq, kdC, kd, gOf, calleeOf, effd, ev, cv, putS, upd_same, upd_miss, St.of, lkV_hit, lkV_miss, lkV_end, lkB_hit, lkB_miss, lkB_end, noArr_eq, lkA_zero, lkA_succ, vcells, pack, rowsOf, bin, killV, killB, killC, partsD, fillD, frz, Option.isSome_some, Option.bind_some, Option.map_some, List.getD_cons_zero, List.getD_cons_succ, List.getElem?_toArray, List.getElem?_cons_zero, List.getElem?_cons_succ, List.map_cons, List.map_nil, List.drop_zero, List.drop_succ_cons, List.take_succ_cons, List.take_zero, List.length_cons, List.length_nil, List.length_map, List.append_eq, List.cons_append, List.nil_append, Nat.reduceAdd, Nat.reduceLeDiff, Nat.reduceEqDiff, Nat.reduceBEq, Nat.reduceLT, ↓reduceIte, if_true, if_false, true_and, and_true, reduceCtorEq, true_or, or_true, ne_eq, not_true_eq_false, not_false_eq_true, Bool.not_true, Bool.not_false, bq1, bq0, chk, tt29, tt2, tt3, tt4, tt25]))
    (refine hR _ ?_; try dsimp only [thenD, inBlockD])
    refine dw_ret ?_
    simp only [inBlockD, retQ, thenD, Ret, resV, res1, parts, part1, exB_nil, exB_cons, gd2_t, gd2_f, RunB_eq, SkipB_eq, gdV, eff2, cellEq, kdC, kd, gOf, calleeOf, effd, ev, cv, putS, upd_same, upd_miss, St.of, lkV_hit, lkV_miss, lkV_end, lkB_hit, lkB_miss, lkB_end, noArr_eq, lkA_zero, lkA_succ, vcells, pack, rowsOf, bin, killV, killB, killC, partsD, fillD, frz, Option.isSome_some, Option.bind_some, Option.map_some, List.getD_cons_zero, List.getD_cons_succ, List.getElem?_toArray, List.getElem?_cons_zero, List.getElem?_cons_succ, List.map_cons, List.map_nil, List.drop_zero, List.drop_succ_cons, List.take_succ_cons, List.take_zero, List.length_cons, List.length_nil, List.length_map, List.append_eq, List.cons_append, List.nil_append, Nat.reduceAdd, Nat.reduceLeDiff, Nat.reduceEqDiff, Nat.reduceBEq, Nat.reduceLT, ↓reduceIte, if_true, if_false, true_and, and_true, reduceCtorEq, true_or, or_true, ne_eq, not_true_eq_false, not_false_eq_true, Bool.not_true, Bool.not_false, bq1, bq0, chk, tt29, tt2, tt3, tt4, tt25, vle, ple, cle, fle, true_and, and_true]
    simp [h]
end Go.Proofs.Ytogkcokgcoookaa
