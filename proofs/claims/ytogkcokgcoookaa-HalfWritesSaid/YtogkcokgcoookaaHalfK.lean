/-
  Layer 10 (half): the same lines, the same half-edges: slices.Equal, SameOne, Same (the code's and the document's).
-/
import Derived.Test.YtogkcokgcoookaaHalfZ
import Derived.Deep.QuietTactic
import Derived.BigQuiet
import Derived.BigGuardPart
namespace Go.Proofs.Ytogkcokgcoookaa
open Go.ChangeShapes Go.WideShapes Go.ChangeAt Go.RowKit Go.Shelf Go.Ed

section
variable {α : Type} {f : α → α → Bool} {a b : List α}
def sameB (f : α → α → Bool) (a b : List α) : Bool := a.length == b.length && (List.range a.length).all fun k => match a[k]?, b[k]? with
  | some x, some y => f x y
  | _, _ => false
theorem sameB_len (h : a.length ≠ b.length) : sameB f a b = false := by simp [sameB, h]
theorem sameB_bad {k : Nat} (hk : k < a.length) (hk' : k < b.length) (h : f a[k] b[k] = false) : sameB f a b = false := by
  unfold sameB
  rw [Bool.and_eq_false_iff]
  refine .inr (List.all_eq_false.2 ⟨k, by simpa using hk, ?_⟩)
  rw [List.getElem?_eq_getElem hk, List.getElem?_eq_getElem hk']
  simp [h]
theorem sameB_good (hl : a.length = b.length) (h : ∀ k (hk : k < a.length) (hk' : k < b.length), f a[k] b[k] = true) : sameB f a b = true := by
  unfold sameB
  rw [Bool.and_eq_true]
  refine ⟨by simpa using hl, List.all_eq_true.2 fun k hk => ?_⟩
  have hk : k < a.length := by simpa using hk
  rw [List.getElem?_eq_getElem hk, List.getElem?_eq_getElem (by omega : k < b.length)]
  exact h k hk (by omega)
theorem sameB_iff (hf : ∀ x y, f x y = true ↔ x = y) : sameB f a b = true ↔ a = b := by
  constructor
  · intro h
    by_cases hl : a.length = b.length
    · refine List.ext_getElem hl fun k hk hk' => ?_
      rw [← hf]
      rcases hc : f a[k] b[k] with _ | _
      · rw [sameB_bad hk hk' hc] at h; cases h
      · rfl
    · rw [sameB_len hl] at h; cases h
  · rintro rfl
    exact sameB_good rfl fun k hk _ => (hf _ _).2 rfl
end

theorem bytes_ext {a b : ByteArray} (h : a.toList = b.toList) : a = b := by
  have h2 : a.data.toList = b.data.toList := by rw [← ByteArray.toList_eq, ← ByteArray.toList_eq]; exact h
  cases a
  cases b
  simp only at h2
  congr 1
  exact Array.ext' h2

def lineEq (x y : Line) : Bool := x.nm.toList == y.nm.toList && (x.ver == y.ver && (x.wt == y.wt && x.fl == y.fl))
theorem lineEq_iff (x y : Line) : lineEq x y = true ↔ x = y := by
  obtain ⟨a, b, c, d⟩ := x
  obtain ⟨a', b', c', d'⟩ := y
  simp only [lineEq, Bool.and_eq_true, beq_iff_eq, Line.mk.injEq]
  constructor
  · rintro ⟨h1, h2, h3, h4⟩
    exact ⟨bytes_ext h1, h2, h3, h4⟩
  · rintro ⟨rfl, h2, h3, h4⟩
    exact ⟨rfl, h2, h3, h4⟩
def sameH (a b : Half) : Bool := a.peer == b.peer && (a.boot == b.boot && (a.life == b.life && (a.pend == b.pend && (a.miss == b.miss && sameB lineEq a.lines b.lines))))
theorem sameH_iff (a b : Half) : sameH a b = true ↔ a = b := by
  obtain ⟨p, bo, li, ls, pe, mi⟩ := a
  obtain ⟨p', bo', li', ls', pe', mi'⟩ := b
  simp only [sameH, Bool.and_eq_true, beq_iff_eq, Half.mk.injEq, sameB_iff lineEq_iff]
  constructor
  · rintro ⟨h1, h2, h3, h4, h5, h6⟩; exact ⟨h1, h2, h3, h6, h4, h5⟩
  · rintro ⟨h1, h2, h3, h6, h4, h5⟩; exact ⟨h1, h2, h3, h4, h5, h6⟩

theorem line_ne (x y : Line) (W : World) : Sem.run Try.prog (binOp .neq 44 (.agg #[.string x.nm, .int .i64 x.ver, .int .i64 x.wt, .int .i64 x.fl]) (.agg #[.string y.nm, .int .i64 y.ver, .int .i64 y.wt, .int .i64 y.fl])) W =
    .ok (.bool (!(lineEq x y))) W := by
  rw [run_neq_struct]
  by_cases h0 : x.nm.toList = y.nm.toList <;> by_cases h1 : x.ver = y.ver <;> by_cases h2 : x.wt = y.wt <;> by_cases h3 : x.fl = y.fl <;> simp [lineEq, go_sem, run_equalIn_agg, run_equalIn_int, h0, h1, h2, h3]


set_option maxRecDepth 100000 in
set_option maxHeartbeats 4000000 in
theorem equalL_any (w : World) (B : Nat) (A A' : Option Addr) (n n' c c' : Nat) (ls ls' : List Line) (hn : (n : Int) ≤ 9223372036854775807) (hI : LinesAt w B A n ls) (hI' : LinesAt w B A' n' ls') :
    Calls Try.prog 53 #[.slice A n c, .slice A' n' c'] w fun e w' => e = .returned (.bool (sameB lineEq ls ls')) ∧ Below w.heap.size w w' := by
  have hll := hI.len
  have hll' := hI'.len
  obtain ⟨r, hr⟩ : ∃ r, sameB lineEq ls ls' = r := ⟨_, rfl⟩
  rw [hr]
  by_cases hnn : n = n'
  · subst hnn
    have Hr := Lib.hid hr
    clear hr
    go_enter Try.func53, Try.ntmps53
    go_wp2
    go_loopw [13] (fun i wr => ∃ k : Nat, k ≤ n ∧ i = .int .i64 k ∧ (∀ j (h : j < ls.length) (h' : j < ls'.length), j < k → lineEq ls[j] ls'[j] = true) ∧ ∃ m, wr = w.drewN m)
      (fun i _ => n - (intOf i).toNat)
    case atStart => exact ⟨0, Nat.zero_le _, rfl, fun j _ _ h => by omega, 0, rfl⟩
    case round =>
      obtain ⟨k, hk, rfl, hok, md, rfl⟩ := hrel
      by_cases hlt : k < n
      · have hlt' : (k : Int) < (n : Int) := by omega
        have hk0 : (0 : Int) ≤ (k : Int) := by omega
        obtain ⟨b, off, rfl, hbn, hcells⟩ := hI.form (by omega)
        obtain ⟨b', off', rfl, hbn', hcells'⟩ := hI'.form (by omega)
        obtain ⟨c0, c1, c2, c3⟩ := hcells k (by omega)
        obtain ⟨e0, e1, e2, e3⟩ := hcells' k (by omega)
        obtain ⟨x, hs⟩ : ∃ s, s = ls[k]'(by omega) := ⟨_, rfl⟩
        obtain ⟨y, hs'⟩ : ∃ s, s = ls'[k]'(by omega) := ⟨_, rfl⟩
        rw [← hs] at c0 c1 c2 c3
        rw [← hs'] at e0 e1 e2 e3
        have hne := fun W => line_ne x y W
        obtain ⟨b1, hb1⟩ : ∃ b, lineEq x y = b := ⟨_, rfl⟩
        rw [hb1] at hne
        have Hok := Lib.hid hok
        have Hs := Lib.hid hs
        have Hs' := Lib.hid hs'
        replace hb1 := Lib.hid hb1
        clear hcells hcells' hok hs hs'
        cases b1
        · go_wp2
          go_quiet (fail)
          go_wp2
          go_ret
          refine ⟨congrArg (fun b => Ending.returned (.bool b)) (?_ : false = r), ⟨rfl, rfl, rfl, Nat.le_refl _, fun _ _ => rfl⟩⟩
          rw [← Hr.out]
          exact (sameB_bad (k := k) (by omega) (by omega) (by rw [← Hs.out, ← Hs'.out]; exact hb1.out)).symm
        · go_wp2
          go_quiet (fail)
          go_wp2
          go_roundw
          case rel =>
            exact ⟨k + 1, by omega, by go_num, fun j h h' hj => by
              rcases Nat.lt_or_ge j k with hjk | hjk
              · exact Hok.out j h h' hjk
              · obtain rfl : j = k := by omega
                rw [← Hs.out, ← Hs'.out]
                exact hb1.out, _, rfl⟩
          case measure => simp [intOf]; omega
      · obtain rfl : k = n := by omega
        have he : sameB lineEq ls ls' = true := sameB_good (by omega) fun j h h' => hok j h h' (by omega)
        have He := Lib.hid he
        clear he
        go_wp2
        go_ret
        refine ⟨congrArg (fun b => Ending.returned (.bool b)) (?_ : true = r), ⟨rfl, rfl, rfl, Nat.le_refl _, fun _ _ => rfl⟩⟩
        rw [← Hr.out, He.out]
  · have he : false = r := by rw [← hr, sameB_len (by omega)]
    subst he
    clear hr
    have hnn' : ((n : Int) != (n' : Int)) = true := by rw [bne_iff_ne]; omega
    go_enter Try.func53, Try.ntmps53
    go_wp2
    go_ret
    exact ⟨rfl, Below.refl _ _⟩

set_option maxRecDepth 100000 in
set_option maxHeartbeats 4000000 in
theorem same1_any (w : World) (v v' : HV) (hn : v.h.lines.length ≤ maxLen) (hI : v.At w w.heap.size) (hI' : v'.At w w.heap.size) :
    Calls Try.prog 52 #[v.val, v'.val] w fun e w' => e = .returned (.bool (sameH v.h v'.h)) ∧ Below w.heap.size w w' := by
  obtain ⟨⟨p, bo, li, ls, pe, mi⟩, A, c⟩ := v
  obtain ⟨⟨p', bo', li', ls', pe', mi'⟩, A', c'⟩ := v'
  simp only [HV.val]
  obtain ⟨r, hr⟩ : ∃ r, sameH ⟨p, bo, li, ls, pe, mi⟩ ⟨p', bo', li', ls', pe', mi'⟩ = r := ⟨_, rfl⟩
  rw [hr]
  obtain ⟨s, hs⟩ : ∃ s, sameB lineEq ls ls' = s := ⟨_, rfl⟩
  have e : r = (p == p' && (bo == bo' && (li == li' && (pe == pe' && (mi == mi' && s))))) := by rw [← hr, ← hs]; rfl
  replace e := Lib.hid e
  replace hs := Lib.hid hs
  replace hI := Lib.hid hI.2
  replace hI' := Lib.hid hI'.2
  unfold maxLen at hn
  clear hr
  go_enter Try.func52, Try.ntmps52
  have Hb : Hid (∀ cs cs' : Array Value, Below w.heap.size w ((w.alloc (.cells cs 24)).alloc (.cells cs' 24))) := Lib.hid (fun cs cs' => ((Below.refl _ w).alloc (Nat.le_refl _) _).alloc (by simp) _)
  go_wp2_with fail
  · refine (equalL_any _ w.heap.size A A' ls.length ls'.length c c' ls ls' (by omega) (Reads.below hI.out (Hb.out _ _)) (Reads.below hI'.out (Hb.out _ _))).mono ?_
    rw [hs.out]
    rintro e w' ⟨rfl, hb⟩
    replace hb := Lib.hid ((Hb.out _ _).trans (hb.mono (Hb.out _ _).size))
    go_wp2_with fail
    go_ret
    refine ⟨congrArg (fun b => Ending.returned (.bool b)) (?_ : _ = r), hb.out⟩
    rw [e.out]
    simp [*]
  all_goals
    go_ret
    refine ⟨congrArg (fun b => Ending.returned (.bool b)) (?_ : _ = r), Hb.out _ _⟩
    rw [e.out]
    simp [*]

set_option maxRecDepth 100000 in
set_option maxHeartbeats 4000000 in
/-- heads and lengths the same -/
theorem sameOne_eq (w : World) (p bo li : Int) (pe : Bool) (mi : Int) (A A' : Option Addr) (n c c' : Nat) (ls ls' : List Line) (hn : (n : Int) ≤ 9223372036854775807) (hI : LinesAt w w.heap.size A n ls) (hI' : LinesAt w w.heap.size A' n ls') :
    Calls Try.prog 19 #[.agg #[.int .i64 p, .int .i64 bo, .int .i64 li, .slice A n c, .bool pe, .int .i64 mi], .agg #[.int .i64 p, .int .i64 bo, .int .i64 li, .slice A' n c', .bool pe, .int .i64 mi]] w fun e w' => e = .returned (.bool (sameB lineEq ls ls')) ∧ Below w.heap.size w w' := by
  have hll := hI.len
  have hll' := hI'.len
  obtain ⟨r, hr⟩ : ∃ r, sameB lineEq ls ls' = r := ⟨_, rfl⟩
  rw [hr]
  have Hr := Lib.hid hr
  clear hr
  obtain ⟨gp, hgp⟩ : ∃ g, g = w.heap.size := ⟨_, rfl⟩
  have hb0 : Below w.heap.size w ((w.alloc (.cells #[.int .i64 p, .int .i64 bo, .int .i64 li, .slice A n c, .bool pe, .int .i64 mi] 24)).alloc (.cells #[.int .i64 p, .int .i64 bo, .int .i64 li, .slice A' n c', .bool pe, .int .i64 mi] 24)) := ((Below.refl _ w).alloc (Nat.le_refl _) _).alloc (by simp) _
  have hB0 : Blk ((w.alloc (.cells #[.int .i64 p, .int .i64 bo, .int .i64 li, .slice A n c, .bool pe, .int .i64 mi] 24)).alloc (.cells #[.int .i64 p, .int .i64 bo, .int .i64 li, .slice A' n c', .bool pe, .int .i64 mi] 24)) gp 24 #[.int .i64 p, .int .i64 bo, .int .i64 li, .slice A n c, .bool pe, .int .i64 mi] := by rw [hgp]; exact (Blk.new _ _ _).alloc _
  have hZ0 : Blk ((w.alloc (.cells #[.int .i64 p, .int .i64 bo, .int .i64 li, .slice A n c, .bool pe, .int .i64 mi] 24)).alloc (.cells #[.int .i64 p, .int .i64 bo, .int .i64 li, .slice A' n c', .bool pe, .int .i64 mi] 24)) (gp + 1) 24 #[.int .i64 p, .int .i64 bo, .int .i64 li, .slice A' n c', .bool pe, .int .i64 mi] := Blk.new' (by simp [hgp])
  go_enter Try.func19, Try.ntmps19
  go_wp2_with fail
  generalize (w.alloc (.cells #[.int .i64 p, .int .i64 bo, .int .i64 li, .slice A n c, .bool pe, .int .i64 mi] 24)).alloc (.cells #[.int .i64 p, .int .i64 bo, .int .i64 li, .slice A' n c', .bool pe, .int .i64 mi] 24) = W0 at *
  rw [← hgp]
  replace hgp := Lib.hid hgp
  have k3 := hB0.cell 3
  have m3 := hZ0.cell 3
  clear hB0 hZ0
  replace hI := hI.below hb0
  replace hI' := hI'.below hb0
  go_loopw [5] (fun i wr => ∃ k : Nat, k ≤ n ∧ i = .int .i64 k ∧ (∀ j (h : j < ls.length) (h' : j < ls'.length), j < k → lineEq ls[j] ls'[j] = true) ∧ ∃ m, wr = W0.drewN m)
    (fun i _ => n - (intOf i).toNat)
  case atStart => exact ⟨0, Nat.zero_le _, rfl, fun j _ _ h => by omega, 0, rfl⟩
  case round =>
    obtain ⟨k, hk, rfl, hok, md, rfl⟩ := hrel
    by_cases hlt : k < n
    · have hlt' : (k : Int) < (n : Int) := by omega
      have hk0 : (0 : Int) ≤ (k : Int) := by omega
      obtain ⟨b, off, rfl, hbn, hcells⟩ := hI.form (by omega)
      obtain ⟨b', off', rfl, hbn', hcells'⟩ := hI'.form (by omega)
      obtain ⟨c0, c1, c2, c3⟩ := hcells k (by omega)
      obtain ⟨e0, e1, e2, e3⟩ := hcells' k (by omega)
      obtain ⟨x, hs⟩ : ∃ s, s = ls[k]'(by omega) := ⟨_, rfl⟩
      obtain ⟨y, hs'⟩ : ∃ s, s = ls'[k]'(by omega) := ⟨_, rfl⟩
      rw [← hs] at c0 c1 c2 c3
      rw [← hs'] at e0 e1 e2 e3
      have hne := fun W => line_ne x y W
      obtain ⟨b1, hb1⟩ : ∃ b, lineEq x y = b := ⟨_, rfl⟩
      rw [hb1] at hne
      have Hok := Lib.hid hok
      have Hs := Lib.hid hs
      have Hs' := Lib.hid hs'
      replace hb1 := Lib.hid hb1
      clear hcells hcells' hok hs hs'
      cases b1
      · go_wp2
        go_quiet (fail)
        go_wp2
        go_ret
        refine ⟨congrArg (fun b => Ending.returned (.bool b)) (?_ : false = r), ⟨hb0.os, hb0.tape, hb0.output, hb0.size, hb0.block⟩⟩
        rw [← Hr.out]
        exact (sameB_bad (k := k) (by omega) (by omega) (by rw [← Hs.out, ← Hs'.out]; exact hb1.out)).symm
      · go_wp2
        go_quiet (fail)
        go_wp2
        go_roundw
        case rel =>
          exact ⟨k + 1, by omega, by go_num, fun j h h' hj => by
            rcases Nat.lt_or_ge j k with hjk | hjk
            · exact Hok.out j h h' hjk
            · obtain rfl : j = k := by omega
              rw [← Hs.out, ← Hs'.out]
              exact hb1.out, _, rfl⟩
        case measure => simp [intOf]; omega
    · obtain rfl : k = n := by omega
      have he : sameB lineEq ls ls' = true := sameB_good (by omega) fun j h h' => hok j h h' (by omega)
      have He := Lib.hid he
      clear he
      go_wp2
      go_ret
      refine ⟨congrArg (fun b => Ending.returned (.bool b)) (?_ : true = r), ⟨hb0.os, hb0.tape, hb0.output, hb0.size, hb0.block⟩⟩
      rw [← Hr.out, He.out]

set_option maxRecDepth 100000 in
set_option maxHeartbeats 4000000 in
/-- heads or lengths not the same -/
theorem sameOne_ne (w : World) (p bo li : Int) (pe : Bool) (mi : Int) (p' bo' li' : Int) (pe' : Bool) (mi' : Int) (A A' : Option Addr) (n n' c c' : Nat) (hne : ¬ (p = p' ∧ bo = bo' ∧ li = li' ∧ pe = pe' ∧ mi = mi' ∧ n = n')) :
    Calls Try.prog 19 #[.agg #[.int .i64 p, .int .i64 bo, .int .i64 li, .slice A n c, .bool pe, .int .i64 mi], .agg #[.int .i64 p', .int .i64 bo', .int .i64 li', .slice A' n' c', .bool pe', .int .i64 mi']] w fun e w' => e = .returned (.bool false) ∧ Below w.heap.size w w' := by
  have Hb : Hid (∀ cs cs' : Array Value, Below w.heap.size w ((w.alloc (.cells cs 24)).alloc (.cells cs' 24))) := Lib.hid (fun cs cs' => ((Below.refl _ w).alloc (Nat.le_refl _) _).alloc (by simp) _)
  have hne2 : ((p == p') && (bo == bo') && (li == li') && (pe == pe') && (mi == mi') && ((n : Int) == (n' : Int))) = false := by
    rw [← Bool.not_eq_true]
    intro h
    simp only [Bool.and_eq_true, beq_iff_eq] at h
    obtain ⟨⟨⟨⟨⟨h1, h2⟩, h3⟩, h4⟩, h5⟩, h6⟩ := h
    exact hne ⟨h1, h2, h3, h4, h5, by omega⟩
  replace hne2 := Lib.hid hne2
  clear hne
  go_enter Try.func19, Try.ntmps19
  go_wp2_with fail
  all_goals first
    | (go_ret; exact ⟨rfl, Hb.out _ _⟩)
    | (exfalso; have h := hne2.out; simp_all; done)

theorem sameOne_any (w : World) (v v' : HV) (hn : v.h.lines.length ≤ maxLen) (hI : LinesAt w w.heap.size v.A v.h.lines.length v.h.lines) (hI' : LinesAt w w.heap.size v'.A v'.h.lines.length v'.h.lines) :
    Calls Try.prog 19 #[v.val, v'.val] w fun e w' => e = .returned (.bool (sameH v.h v'.h)) ∧ Below w.heap.size w w' := by
  obtain ⟨⟨p, bo, li, ls, pe, mi⟩, A, c⟩ := v
  obtain ⟨⟨p', bo', li', ls', pe', mi'⟩, A', c'⟩ := v'
  simp only [HV.val] at hI hI' hn ⊢
  unfold maxLen at hn
  by_cases hh : p = p' ∧ bo = bo' ∧ li = li' ∧ pe = pe' ∧ mi = mi' ∧ ls.length = ls'.length
  · obtain ⟨rfl, rfl, rfl, rfl, rfl, hl⟩ := hh
    have e : sameH ⟨p, bo, li, ls, pe, mi⟩ ⟨p, bo, li, ls', pe, mi⟩ = sameB lineEq ls ls' := by simp [sameH]
    rw [e]
    rw [← hl] at hI' ⊢
    exact sameOne_eq w p bo li pe mi A A' ls.length c c' ls ls' (by omega) hI hI'
  · have e : sameH ⟨p, bo, li, ls, pe, mi⟩ ⟨p', bo', li', ls', pe', mi'⟩ = false := by
      rw [← Bool.not_eq_true, sameH_iff]
      intro h
      injection h with h1 h2 h3 h4 h5 h6
      exact hh ⟨h1, h2, h3, h5, h6, by rw [h4]⟩
    rw [e]
    exact sameOne_ne w p bo li pe mi p' bo' li' pe' mi' A A' _ _ c c' hh

end Go.Proofs.Ytogkcokgcoookaa
