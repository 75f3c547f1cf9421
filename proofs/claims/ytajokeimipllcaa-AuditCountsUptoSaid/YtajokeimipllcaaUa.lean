/-
  Audit: counting, by both.
-/
import Derived.Test.YtajokeimipllcaaAx
set_option linter.unusedSimpArgs false
set_option linter.unusedVariables false
set_option maxHeartbeats 400000
namespace Go.Dl
theorem getD_map {α : Type} {f : α → List F} {l : List α} {k : Nat} (h : k < l.length) : (l.map f).getD k [] = f l[k] := by simp [List.getD_eq_getElem?_getD, List.getElem?_eq_getElem h]
attribute [push_cast] Int.toNat_natCast getD_map Int.natCast_nonneg Int.ofNat_lt
end Go.Dl
namespace Go.Proofs.Ytajokeimipllcaa
open Go.Dl
set_option maxRecDepth 100000
set_option maxHeartbeats 2000000
attribute [local irreducible] DW DOp Weak CallM CallC CallO Later
attribute [local push_cast] noLoc retL RetL resV res1 parts part1 vleT pleL vleL Go.Dl.isL fle rnOf List.mem_cons List.not_mem_nil or_false forall_eq false_implies implies_true
abbrev eI (n : Int) : F := .s (.int .i64 n)
abbrev eB (b : Bool) : F := .s (.bool b)
abbrev eS (s : ByteArray) : F := .s (.string s)
abbrev gI (n : Int) : V := .c (.f (eI n))
abbrev gB (b : Bool) : V := .c (.f (eB b))
def encZ (n : Int) : List F := [eI n]
abbrev gZ (l : List Int) : V := .c (.f (.l 1 (l.map encZ)))
structure Fnd where
  r : Int
  s : Int
  a : Int
structure Tld where
  n : Int
  k : Int
  p : Int
  nm : ByteArray
  num : Int
structure Otc where
  e : Int
  ev : List Tld
def encFn (x : Fnd) : List F := [eI x.r, eI x.s, eI x.a]
def encTl (x : Tld) : List F := [eI x.n, eI x.k, eI x.p, eS x.nm, eI x.num]
def encOu (x : Otc) : List F := [eI x.e, .l 5 (x.ev.map encTl)]
abbrev gFn (l : List Fnd) : V := .c (.f (.l 3 (l.map encFn)))
abbrev gTl (l : List Tld) : V := .c (.f (.l 5 (l.map encTl)))
abbrev gOu (l : List Otc) : V := .c (.f (.l 2 (l.map encOu)))
attribute [push_cast] encZ encFn encTl encOu
attribute [simp] encZ
/-- one more of a kind -/
def inc (n : Int) (c : List Int) (r : Int) : List Int := if 0 < r ∧ r < n then c.set r.toNat (IntKind.i64.wrap (c.getD r.toNat 0 + 1)) else c
theorem inc_len (n : Int) (c : List Int) (r : Int) : (inc n c r).length = c.length := by unfold inc; split <;> simp
def cntF (l : List Fnd) : List Int := l.foldl (fun c x => inc 9 c x.r) (List.replicate 9 0)
theorem cntF_len (l : List Fnd) : (cntF l).length = 9 := by
  unfold cntF
  generalize hc : List.replicate 9 (0 : Int) = c
  have h : c.length = 9 := by rw [← hc]; rfl
  clear hc
  induction l generalizing c with
  | nil => exact h
  | cons x l ih => exact ih _ (by rw [inc_len]; exact h)
theorem cntF_at {l : List Fnd} {k : Nat} (h : k < l.length) : cntF (l.take (k + 1)) = inc 9 (cntF (l.take k)) l[k].r := by
  rw [List.take_succ_eq_append_getElem h, cntF, List.foldl_append]; rfl
theorem map_set_Z {c : List Int} {i : Nat} {x : Int} : (c.map encZ).set i [eI x] = (c.set i x).map encZ := by rw [List.map_set]; rfl
theorem ints_fin {a b : List Int} {k : Nat} (h : a.take k = b.take k) (hl : ((a.length : Int) != (b.length : Int)) = false) (hk : ¬ k < a.length) : a = b := by
  have h1 : a.length = b.length := by simp at hl; omega
  rwa [List.take_of_length_le (by omega), List.take_of_length_le (by omega)] at h
theorem take_next {a b : List Int} {k : Nat} (h : a.take k = b.take k) {ha : k < a.length} {hb : k < b.length} (he : a[k] = b[k]) : a.take (k + 1) = b.take (k + 1) := by
  rw [List.take_succ_eq_append_getElem ha, List.take_succ_eq_append_getElem hb, h, he]
theorem take_not {a b : List Int} {k : Nat} {ha : k < a.length} {hb : k < b.length} (he : ¬ a[k] = b[k]) : a ≠ b := by
  rintro rfl; exact he rfl
theorem ints_c (a b : List Int) (ha : a.length < 1000000000) (hb0 : b.length < 1000000000) : CallC Try.prog 4 [gZ a, gZ b] (gB (decide (a = b))) := by
  refine enx [.tmp 4] Try.func4 fun X w0 => ?_
  repeat' (first | (refine spl ?_ ?_ <;> (intro hb; refine ne ?_)) | (refine kont hR ?_; clear hR) | refine s1 ?_ | exact True.intro | ((with_reducible refine dw_isfor ?_); refine frx (ι := Unit) (a.length) (fun k _ => St.ofA [(0, gZ a), (1, gZ b), (5, gI k)] [] []) (fun k _ => a.take k = b.take k) () ?_ (fun k x hJ hk R hR => ?_)) | ((with_reducible refine dw_block ?_); have hkl : k < a.length := (by omega); have hkb : k < b.length := (by simp at *; omega)) | refine rdb [] ?_ | refine fnx (()) ?_ ?_ | (refine s2 ?_; try with_reducible intro R hR) | fail)
  all_goals (first | trivial | (simp at *; first | (exact take_next hJ (by assumption)) | (exact ints_fin hJ (by simp; omega) (by omega))| grind [take_not]))
structure CJ (l : List Fnd) (k : Nat) (c : List Int) : Prop where
  eq : c = cntF (l.take k)
theorem CJ.len {l : List Fnd} {k : Nat} {c : List Int} (h : CJ l k c) : c.length = 9 := by rw [h.eq, cntF_len]
theorem CJ.next {l : List Fnd} {k : Nat} {c : List Int} (h : CJ l k c) (hk : k < l.length) : (((decide (l[k].r > 0)) = true ∧ (decide (l[k].r < 9)) = true ∧ 0 ≤ l[k].r ∧ l[k].r < (c.length : Int)) ∧ ∃ h1 : l[k].r.toNat < c.length, CJ l (k + 1) (c.set l[k].r.toNat (IntKind.i64.wrap (c[l[k].r.toNat] + 1)))) ∨ (decide (l[k].r > 0) && decide (l[k].r < 9)) = false ∧ CJ l (k + 1) c := by
  have h9 := h.len
  by_cases h0 : 0 < l[k].r ∧ l[k].r < 9
  · left
    have h1 : l[k].r.toNat < c.length := by omega
    refine ⟨⟨by simpa using h0.1, by simpa using h0.2, by omega, by omega⟩, h1, ⟨?_⟩⟩
    rw [cntF_at hk, ← h.eq, inc, if_pos h0]
    congr 2
    rw [List.getD_eq_getElem?_getD, List.getElem?_eq_getElem h1]; rfl
  · right
    refine ⟨?_, ⟨?_⟩⟩
    · simp; omega
    · rw [cntF_at hk, ← h.eq, inc, if_neg h0]
theorem count_c (l : List Fnd) (hl : l.length < 1000000000) : CallC Try.prog 5 [gFn l] (gZ (cntF l)) := by
  refine enx [.tmp 2] Try.func5 fun X w0 => ?_
  repeat' (first | (refine spl ?_ ?_ <;> (intro hb; refine ne ?_)) | (refine kont hR ?_; clear hR) | refine s1 ?_ | exact True.intro | (refine dop_mkSlice (m := 9) rfl hT tt25 (by rfl) tt3 (by rfl) (by rfl) (by decide) (by decide) (by decide) rfl rfl ?_; simp only [push_cast, seval, *]) | ((with_reducible refine dw_isrange ?_); refine rgx (ι := List Int) (l.length) (fun k c => St.ofA [(3, .c (.o 6)), (7, gFn l), (8, gI l.length), (9, gI k)] [] [(6, 6, 3, 1, c.map encZ)]) (fun k c => CJ l k c) (List.replicate 9 0) ?_ (fun k x hJ hk => ?_) (fun x hJ => ?_)) | ((with_reducible refine dw_block ?_); have hkl : k < l.length := (by omega); have hj := hJ; clear hJ; (rcases hj.next hkl with ⟨⟨q1, q2, q3, q4⟩, h4, h5⟩ | ⟨q1, h5⟩); (all_goals (clear hj))) | (have hgd := h4; refine rnx (x.set (l[k]'hkl).r.toNat (IntKind.i64.wrap (x[(l[k]'hkl).r.toNat]'hgd + 1))) ?_) | (have hgd := q1; refine rnx (x) ?_) | (refine s2 ?_; try with_reducible intro R hR) | fail)
  all_goals (first | trivial | exact ⟨rfl⟩ | assumption | (rw [hJ.eq, List.take_length]) | (exfalso; simp at q1; omega))
theorem refCount_c (l : List Fnd) (hl : l.length < 1000000000) : CallC Try.prog 6 [gFn l] (gZ (cntF l)) := by
  refine enx [.tmp 2] Try.func6 fun X w0 => ?_
  repeat' (first | (refine spl ?_ ?_ <;> (intro hb; refine ne ?_)) | (refine kont hR ?_; clear hR) | refine s1 ?_ | exact True.intro | (refine dop_mkSlice (m := 9) rfl hT tt25 (by rfl) tt3 (by rfl) (by rfl) (by decide) (by decide) (by decide) rfl rfl ?_; simp only [push_cast, seval, *]) | ((with_reducible refine dw_isfor ?_); refine frx (ι := List Int) (l.length) (fun k c => St.ofA [(0, gFn l), (3, .c (.o 5)), (4, gI k)] [] [(5, 5, 3, 1, c.map encZ)]) (fun k c => CJ l k c) (List.replicate 9 0) ?_ (fun k x hJ hk R hR => ?_)) | ((with_reducible refine dw_block ?_); have hkl : k < l.length := (by omega); have hj := hJ; clear hJ; (rcases hj.next hkl with ⟨⟨q1, q2, q3, q4⟩, h4, h5⟩ | ⟨q1, h5⟩); (all_goals (clear hj))) | (have hgd := h4; refine fnx (x.set (l[k]'hkl).r.toNat (IntKind.i64.wrap (x[(l[k]'hkl).r.toNat]'hgd + 1))) ?_ ?_) | (have hgd := q1; refine fnx (x) ?_ ?_) | (refine s2 ?_; try with_reducible intro R hR) | fail)
  all_goals (first | trivial | exact ⟨rfl⟩ | assumption | (rw [hJ.eq, List.take_of_length_le (by omega)]) | (exfalso; simp at q1; omega) | (exfalso; simp at q1 q2; omega))
end Go.Proofs.Ytajokeimipllcaa
