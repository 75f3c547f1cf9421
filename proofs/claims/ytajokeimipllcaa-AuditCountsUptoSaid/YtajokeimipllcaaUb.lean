/-
  Audit: counting events, by both.
-/
import Derived.Test.YtajokeimipllcaaUa
set_option linter.unusedSimpArgs false
set_option linter.unusedVariables false
namespace Go.Proofs.Ytajokeimipllcaa
open Go.Dl
set_option maxRecDepth 100000
set_option maxHeartbeats 2000000
attribute [local irreducible] DW DOp Weak CallM CallC CallO Later
attribute [local push_cast] noLoc retL RetL resV res1 parts part1 vleT pleL vleL Go.Dl.isL fle rnOf List.mem_cons List.not_mem_nil or_false forall_eq false_implies implies_true
abbrev noS : ByteArray := ⟨#[]⟩
def cntT (l : List Otc) : List Int := l.foldl (fun c o => o.ev.foldl (fun c x => inc 7 c x.k) c) (List.replicate 7 0)
theorem evs_len (ev : List Tld) : ∀ c : List Int, (ev.foldl (fun c x => inc 7 c x.k) c).length = c.length := by
  induction ev with
  | nil => intro c; rfl
  | cons x l ih => intro c; rw [List.foldl_cons, ih, inc_len]
theorem cntT_len (l : List Otc) : (cntT l).length = 7 := by
  unfold cntT
  generalize hc : List.replicate 7 (0 : Int) = c
  have h : c.length = 7 := by rw [← hc]; rfl
  clear hc
  induction l generalizing c with
  | nil => exact h
  | cons x l ih => exact ih _ (by rw [evs_len]; exact h)
structure TJ (l : List Otc) (k : Nat) (c : List Int) : Prop where
  eq : c = cntT (l.take k)
structure TI (c0 : List Int) (ev : List Tld) (i : Nat) (c : List Int) : Prop where
  eq : c = (ev.take i).foldl (fun c x => inc 7 c x.k) c0
  len : c.length = 7
theorem TJ.start {l : List Otc} {k : Nat} {c : List Int} (h : TJ l k c) (ev : List Tld) : TI c ev 0 c := ⟨rfl, by rw [h.eq, cntT_len]⟩
theorem TJ.next {l : List Otc} {k : Nat} {c c' : List Int} (h : TJ l k c) {hk : k < l.length} (hi : TI c l[k].ev l[k].ev.length c') : TJ l (k + 1) c' := ⟨by
  rw [hi.eq, List.take_length, List.take_succ_eq_append_getElem hk, cntT, List.foldl_append, h.eq]; rfl⟩
theorem TI.next {c0 : List Int} {l : List Tld} {k : Nat} {c : List Int} (h : TI c0 l k c) (hk : k < l.length) : (((decide (l[k].k > 0)) = true ∧ (decide (l[k].k < 7)) = true ∧ 0 ≤ l[k].k ∧ l[k].k < (c.length : Int)) ∧ ∃ h1 : l[k].k.toNat < c.length, TI c0 l (k + 1) (c.set l[k].k.toNat (IntKind.i64.wrap (c[l[k].k.toNat] + 1)))) ∨ (decide (l[k].k > 0) && decide (l[k].k < 7)) = false ∧ TI c0 l (k + 1) c := by
  have h9 := h.len
  have e : (l.take (k + 1)).foldl (fun c x => inc 7 c x.k) c0 = inc 7 c l[k].k := by rw [List.take_succ_eq_append_getElem hk, List.foldl_append, ← h.eq]; rfl
  by_cases h0 : 0 < l[k].k ∧ l[k].k < 7
  · left
    have h1 : l[k].k.toNat < c.length := by omega
    refine ⟨⟨by simpa using h0.1, by simpa using h0.2, by omega, by omega⟩, h1, ⟨?_, by simpa using h9⟩⟩
    rw [e, inc, if_pos h0]
    congr 2
    rw [List.getD_eq_getElem?_getD, List.getElem?_eq_getElem h1]; rfl
  · right
    refine ⟨?_, ⟨?_, h9⟩⟩
    · simp; omega
    · rw [e, inc, if_neg h0]
def EvOk (l : List Otc) : Prop := ∀ o ∈ l, o.ev.length < 1000000000
theorem tally_c (l : List Otc) (hl : l.length < 1000000000) (hv : EvOk l) : CallC Try.prog 7 [gOu l] (gZ (cntT l)) := by
  refine enx [.tmp 2] Try.func7 fun X w0 => ?_
  repeat' (first | (refine spl ?_ ?_ <;> (intro hb; refine ne ?_)) | (refine kont hR ?_; clear hR) | refine s1 ?_ | exact True.intro | (refine dop_mkSlice (m := 7) rfl hT tt25 (by rfl) tt3 (by rfl) (by rfl) (by decide) (by decide) (by decide) rfl rfl ?_; simp only [push_cast, seval, *]) | ((with_reducible refine dw_block ?_); have j := hJi; clear hJi; have hil : i < l[k].ev.length := (by omega); (rcases j.next hil with ⟨⟨q1, q2, q3, q4⟩, h4, h5⟩ | ⟨q1, h5⟩); (all_goals (clear j))) | ((with_reducible refine dw_block ?_); have hgd := hJk; have hkl : k < l.length := (by omega); have hel := hv _ (List.getElem_mem hkl); have hj := hJk.start l[k].ev; have hjk := Lib.hid hJk; clear hJk) | ((with_reducible refine dw_isrange ?_); refine rgx (ι := List Int) (l.length) (fun k c => St.ofA [(3, .c (.o 8)), (9, gOu l), (10, gI l.length), (11, gI k)] [] [(8, 8, 3, 1, c.map encZ)]) (fun k c => TJ l k c) (List.replicate 7 0) ?_ (fun k x hJk hkk => ?_) (fun x hJk => ?_)) | ((with_reducible refine dw_isrange ?_); refine rgx (ι := List Int) ((l[k]'hkl).ev.length) (fun i c => St.ofA [(3, .c (.o 8)), (9, gOu l), (10, gI l.length), (11, gI k), (16, gTl (l[k]'hkl).ev), (17, gI (l[k]'hkl).ev.length), (18, gI i)] [] [(8, 8, 3, 1, c.map encZ)]) (fun i c => TI x (l[k]'hkl).ev i c) x ?_ (fun i y hJi hki => ?_) (fun y hJi => ?_)) | (have hgd := h4; refine rnx (y.set ((l[k]'hkl).ev[i]'hil).k.toNat (IntKind.i64.wrap (y[((l[k]'hkl).ev[i]'hil).k.toNat]'hgd + 1))) ?_) | (have hgd := q1; refine rnx (y) ?_) | (have hgd := hJi; refine rnx (y) ?_) | (refine s2 ?_; try with_reducible intro R hR) | fail)
  all_goals (first | trivial | exact ⟨rfl⟩ | assumption | (exact hJk.start _) | (rw [hJk.eq, List.take_length]) | (exact TJ.next (show TJ l k x from hjk) hJi) | (exfalso; simp at q1; omega))
theorem refTally_c (l : List Otc) (hl : l.length < 1000000000) (hv : EvOk l) : CallC Try.prog 8 [gOu l] (gZ (cntT l)) := by
  refine enx [.tmp 2] Try.func8 fun X w0 => ?_
  repeat' (first | (refine spl ?_ ?_ <;> (intro hb; refine ne ?_)) | (refine kont hR ?_; clear hR) | refine s1 ?_ | exact True.intro | (refine dop_mkSlice (m := 7) rfl hT tt25 (by rfl) tt3 (by rfl) (by rfl) (by decide) (by decide) (by decide) rfl rfl ?_; simp only [push_cast, seval, *]) | ((with_reducible refine dw_block ?_); have j := hJi; clear hJi; have hil : i < l[k].ev.length := (by omega); (rcases j.next hil with ⟨⟨q1, q2, q3, q4⟩, h4, h5⟩ | ⟨q1, h5⟩); (all_goals (clear j))) | ((with_reducible refine dw_block ?_); have hgd := hJk; have hkl : k < l.length := (by omega); have hel := hv _ (List.getElem_mem hkl); have hj := hJk.start l[k].ev; have hjk := Lib.hid hJk; clear hJk) | ((with_reducible refine dw_isfor ?_); refine frx (ι := List Int) (l.length) (fun k c => St.ofA [(0, gOu l), (3, .c (.o 7)), (4, gI k)] [] [(7, 7, 3, 1, c.map encZ)]) (fun k c => TJ l k c) (List.replicate 7 0) ?_ (fun k x hJk hkk R hR => ?_)) | ((with_reducible refine dw_isfor ?_); refine frx (ι := List Int) ((l[k]'hkl).ev.length) (fun i c => St.ofA [(0, gOu l), (3, .c (.o 7)), (4, gI k), (5, gI i)] [] [(7, 7, 3, 1, c.map encZ)]) (fun i c => TI x (l[k]'hkl).ev i c) x ?_ (fun i y hJi hki R hR => ?_)) | (have hgd := h4; refine fnx (y.set ((l[k]'hkl).ev[i]'hil).k.toNat (IntKind.i64.wrap (y[((l[k]'hkl).ev[i]'hil).k.toNat]'hgd + 1))) ?_ ?_) | (have hgd := q1; refine fnx (y) ?_ ?_) | (have hgd := hJi; refine fnx (y) ?_ ?_) | (refine s2 ?_; try with_reducible intro R hR) | fail)
  all_goals (first | trivial | exact ⟨rfl⟩ | assumption | (exact hJk.start _) | (rw [hJk.eq, List.take_of_length_le (by omega)]) | (exact TJ.next (show TJ l k x from hjk) (by rw [show l[k].ev.length = i from by omega]; exact hJi)) | (exfalso; simp at q1; omega) | (exfalso; simp at q1 q2; omega))
end Go.Proofs.Ytajokeimipllcaa
