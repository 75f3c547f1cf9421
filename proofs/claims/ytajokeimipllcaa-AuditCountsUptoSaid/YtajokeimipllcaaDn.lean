/-
  The logic on data: slices against nil, the empty literal; slices.Clone once for all types.
-/
import Derived.Test.YtajokeimipllcaaDm
import Derived.Lib.LazyBuf
set_option linter.unusedSimpArgs false
set_option linter.unusedVariables false
namespace Go.Dl
open Go.Ed Go.RowKit
section
variable {P : Program} {X : Fr} {w0 : World} {N : Nat} {S : St} {T : Nat → Option Ty} {o : Oper} {K : St → Prop}
/-- an array of the call's own is new -/
theorem Sim.newArr {E : Env} {a : Act} {w w' : World} (hs : Sim X w0 N S E a w) (hbel : Below w.heap.size w w') {d : Nat} (hfree : S.arrs d = none) {v : Value} {e : TypeId} {k : Nat} {rows : List (List F)} {ys : List Value} (hown : OwnA w' w.heap.size e k v rows.length ys) (hrep : RepFs w' E.I rows.flatten ys) (hk : ∀ r ∈ rows, r.length = k) :
    ∃ E', E'.L d = some v ∧ Sim X w0 N ⟨S.slots, S.blks, fun b => if b = d then some (e, k, rows) else S.arrs b⟩ E' a w' := by
  have h := hs.grow hbel
  have hLd : E.L d = none := hs.an d hfree
  let E' : Env := ⟨E.B, fun b => if b = d then some v else E.L b, E.I⟩
  have hL : ∀ b x, E.L b = some x → E'.L b = some x := fun b x hb => by
    show (if b = d then some v else E.L b) = some x
    by_cases hbd : b = d
    · subst hbd; rw [hLd] at hb; cases hb
    · rw [if_neg hbd]; exact hb
  have hLi : ∀ b x, E'.L b = some x → (b = d ∧ x = v) ∨ (b ≠ d ∧ E.L b = some x) := fun b x hb => by
    have hb : (if b = d then some v else E.L b) = some x := hb
    by_cases hbd : b = d
    · rw [if_pos hbd] at hb; cases hb; exact .inl ⟨hbd, rfl⟩
    · rw [if_neg hbd] at hb; exact .inr ⟨hbd, hb⟩
  have hlt : ∀ b, v.ownB = some b → w.heap.size ≤ b ∧ b < w'.heap.size := fun b hb => hown.lt b hb
  have hle : Env.Le w' w' E E' := ⟨fun _ _ => rfl, fun _ h => h, fun _ _ h => h, hL⟩
  refine ⟨E', if_pos rfl, h.chg, h.fr, h.sz, fun t => (h.slot t).mono hle, fun t e cs ht => ?_, h.inj, h.bl, fun b e' n' rows' hb => ?_, fun b x g hb hg => ?_, fun b b' x x' g h1 h2 h3 h4 => ?_, h.bn, fun b hb => ?_, h.il, h.i0, h.i1, h.kp⟩
  · obtain ⟨b, vs, h1, h2, h3, h4⟩ := h.blk t e cs ht
    exact ⟨b, vs, h1, h2, h3.mono hle, h4⟩
  · have hb : (if b = d then some (e, k, rows) else S.arrs b) = some (e', n', rows') := hb
    by_cases hbd : b = d
    · rw [if_pos hbd] at hb; cases hb
      exact ⟨v, ys, if_pos hbd, hown.base (Nat.zero_le _), hrep, hk, fun g hg => .inl (Nat.le_trans hs.chg.size (hlt g hg).1)⟩
    · rw [if_neg hbd] at hb
      obtain ⟨v1, us1, q1, q2, q3, q4, q5⟩ := h.arr _ _ _ _ hb
      exact ⟨v1, us1, hL _ _ q1, q2, q3, q4, q5⟩
  · rcases hLi _ _ hb with ⟨rfl, rfl⟩ | ⟨hbd, hb⟩
    · refine ⟨(hlt g hg).2, fun hi => ?_, fun t ht => ?_⟩
      · have := hs.il g hi; have := (hlt g hg).1; omega
      · have := (hs.bl t g ht).1; have := (hlt g hg).1; omega
    · exact h.al _ _ _ hb hg
  · rcases hLi _ _ h1 with ⟨e1, e2⟩ | ⟨n1, q1⟩ <;> rcases hLi _ _ h2 with ⟨e3, e4⟩ | ⟨n2, q2⟩
    · exact e1.trans e3.symm
    · exfalso; have := (hs.al _ _ _ q2 h4).1; have := (hlt g (e2 ▸ h3)).1; omega
    · exfalso; have := (hs.al _ _ _ q1 h3).1; have := (hlt g (e4 ▸ h4)).1; omega
    · exact h.ai b b' x x' g q1 q2 h3 h4
  · have hb : (if b = d then some (e, k, rows) else S.arrs b) = none := hb
    show (if b = d then some v else E.L b) = none
    by_cases hbd : b = d
    · rw [if_pos hbd] at hb; cases hb
    · rw [if_neg hbd] at hb ⊢; exact h.an b hb
/-- a slice is held against nil -/
theorem dop_eqnil {t yt : TypeId} {x : Operand} (hop : o.op = .binOp .eql t x (.const (.slice none 0 0)) yt) (hT : ∀ t y, T t = some y → TyOk P t y) {y : Ty} (hy : T t = some y) {e k' b : Nat} (he : y.elem = some (e, k', b)) {k : Nat} {rows : List (List F)} (hx : ev S x = .c (.f (.l k rows)))
    (hK : ∀ c : Bool, (c = true → rows = []) → K ⟨putS S.slots o.dst (.c (.f (.s (.bool c)))), S.blks, S.arrs⟩) : DOp P X w0 N o K S := fun E a w hs hd K' Q h => by
  have hu := ((hT _ _ hy).elem _ _ _ he).1
  have hx' := hx ▸ hs.ev x
  generalize hv : a.eval x = u at hx'
  cases hx' with
  | c hx' =>
    cases hx' with
    | f hx' =>
      obtain ⟨A, c, rfl, hc, hf⟩ := slice_form hx'
      have hr : (execOp a.eval o).run P w = .ok (.value (.bool A.isNone)) w := by
        have h2 := run_eql_slice_nil (P := P) w t e A rows.length c hu
        obtain ⟨dst, op, type, pos, after, guard⟩ := o
        simp only at hop
        subst hop
        exact exec_val (s := do eqGuard .eql t x (.const (.slice none 0 0)) (.slice A rows.length c) (.slice none 0 0); binOp .eql t (.slice A rows.length c) (.slice none 0 0)) (by simp only [execOp, hv]; rfl) (by rw [eqGuard_at_slice]; simp [h2])
      unfold Oper.wp
      rw [hr]
      refine h _ _ _ _ (hK A.isNone fun hn => ?_) (hs.env (.c (.f (.s (.bool A.isNone)))) _ (.c (.f (.s rfl))) o.dst hd)
      rcases Nat.eq_zero_or_pos rows.length with h0 | h0
      · exact List.eq_nil_of_length_eq_zero h0
      · obtain ⟨ad, us, rfl, _⟩ := hf h0
        cases hn
/-- an empty literal -/
theorem dop_empty {t : TypeId} (hop : o.op = .buildSlice t 0 #[]) (hT : ∀ t y, T t = some y → TyOk P t y) {y : Ty} (hy : T t = some y) {e k b : Nat} (he : y.elem = some (e, k, b)) {d : Nat} (hd0 : o.dst = some d) (hfree : S.arrs d = none)
    (hK : K ⟨upd S.slots d (.c (.o d)), S.blks, fun c => if c = d then some (e, k, []) else S.arrs c⟩) (hem : e < 1000000 := by decide) : DOp P X w0 N o K S := fun E a w hs hd K' Q h => by
  obtain ⟨hu1, hk0, ie, ze, hie, hze, hu2, hbe, hzk⟩ := (hT _ _ hy).elem _ _ _ he
  have hsz : (sizeOf e).run P w = .ok k w := by simp [sizeOf, typeInfo, hie, hu2]
  have hr : (execOp a.eval o).run P w = .ok (.value (.slice (some ⟨w.heap.size, 0, none⟩) 0 0)) (w.alloc (.cells #[] e)) := by
    simp only [execOp, hop]
    simp [Instr.buildSlice, run_underlying hu1, hsz, Instr.fill, newRow]
    rw [show Array.range 0 = #[] from Array.eq_empty_of_size_eq_zero (by simp), Array.map_empty]
  unfold Oper.wp
  rw [hr]
  have hbel : Below w.heap.size w (w.alloc (.cells #[] e)) := (Below.refl _ w).alloc (Nat.le_refl _) _
  have hown : (w.alloc (.cells #[] e)).ownsRow w.heap.size e k (.slice (some ⟨w.heap.size, 0, none⟩) 0 0) ([] : List (List F)).length [] := ⟨by simp, .inr ⟨_, 0, #[], rfl, Nat.le_refl _, heap_alloc_new _ _, by simp, by unfold maxLen; omega, by simp, by simp⟩⟩
  obtain ⟨E', hL, hs'⟩ := hs.newArr (e := e) (k := k) (rows := []) hbel hfree (.of hown hem) ⟨rfl, fun j x u hx => by simp at hx⟩ (fun r hr => by simp at hr)
  have := hs'.env (.c (.o d)) (.slice (some ⟨w.heap.size, 0, none⟩) 0 0) (.c (.o hL rfl)) o.dst hd
  rw [hd0] at this
  show K' (a.put o.dst _) _
  rw [hd0]
  exact h _ _ _ _ hK this
end

/-! ### What a function returns may lie in arrays of its own -/
def pleL (A : Nat → Option (TypeId × Nat × List (List F))) : List (Bool × List C) → List (Bool × List C) → Prop
  | [], [] => True
  | (b, x) :: xs, (c, y) :: ys => b = c ∧ cleL A x y ∧ pleL A xs ys
  | _, _ => False
def vleT (A : Nat → Option (TypeId × Nat × List (List F))) : V → V → Prop
  | .tup xs, .tup ys => pleL A xs ys
  | .clo f fi ca, .clo f' fi' ca' => (f = f' ∧ fi = fi' ∧ ca = ca') ∧ noLoc (fi ++ ca) = true
  | .rd xs, .rd ys => xs = ys
  | x, y => vleL A x y
def RetL (T : Nat → Option Ty) (rs : List ResultVar) (res : V) (S : St) : Prop := match resV T S rs with
  | some (p, v) => p ∧ vleT S.arrs v res
  | none => False
def retL (T : Nat → Option Ty) (rs : List ResultVar) (res : V) : Exit → St → Prop
  | .normal, S => RetL T rs res S
  | .ret, S => RetL T rs res S
  | _, _ => False
section
variable {P : Program} {X : Fr} {w0 : World} {N : Nat} {S : St} {T : Nat → Option Ty} {E : Env} {a : Act} {w : World}
theorem pleL_ok (hs : Sim X w0 N S E a w) : ∀ {xs ys : List (Bool × List C)}, pleL S.arrs xs ys → xs.length = ys.length ∧ ∀ (j : Nat) y u, ys[j]? = some y → (∀ x, xs[j]? = some x → RepP w E x u) → RepP w (.pure (lent S E)) y u
  | [], [], _ => ⟨rfl, fun j y u h => by simp at h⟩
  | [], _ :: _, h => by simp [pleL] at h
  | _ :: _, [], h => by simp [pleL] at h
  | (b, x) :: xs, (c, y) :: ys, h => by
    obtain ⟨rfl, h1, h2⟩ := h
    have ih := pleL_ok hs h2
    refine ⟨by simp [ih.1], fun j z u hz hx => ?_⟩
    match j with
    | j + 1 => exact ih.2 j z u (by simpa using hz) fun x h => hx x (by simpa using h)
    | 0 =>
      simp at hz
      subst hz
      have h0 := hx (b, x) rfl
      cases b
      · obtain ⟨z, e, hz⟩ := h0
        subst e
        have := cleL_ok hs (us := [u]) h1 ⟨rfl, fun j q v hq hv => by
          match j with
          | 0 => simp at hq hv; subst hq; subst hv; exact hz
          | j + 1 => simp at hq⟩
        match y, this with
        | [], h => have := h.1; simp at this
        | [y], h => exact ⟨y, rfl, h.2 0 y u rfl rfl⟩
        | _ :: _ :: _, h => have := h.1; simp at this
      · obtain ⟨us, e, hz⟩ := h0
        exact ⟨us, e, cleL_ok hs h1 hz⟩
theorem vleT_ok (hs : Sim X w0 N S E a w) {x y : V} {u : Value} (h : vleT S.arrs x y) (hx : RepV w E x u) : RepV w (.pure (lent S E)) y u := by
  unfold vleT at h
  split at h
  · cases hx with
    | tup hl hx =>
      obtain ⟨h1, h2⟩ := pleL_ok hs h
      exact .tup (by rw [← h1, hl]) fun j y u hy hu => h2 j y u hy fun x hxx => hx j x u hxx hu
  · obtain ⟨⟨rfl, rfl, rfl⟩, hn⟩ := h
    have hn := noLoc_at hn
    have key : ∀ {l : List W} {us : List Value}, (∀ x ∈ l, ∀ t o, x ≠ .loc t o) → RepWs w E l us → RepWs w (.pure (lent S E)) l us := fun {l us} h hx => ⟨hx.1, fun j x u hj hu => by
      have h1 := hx.2 j x u hj hu
      have h2 := h x (List.mem_of_getElem? hj)
      cases h1 with
      | f h => exact .f (h.mono (fun _ _ => rfl) fun _ h => .inl h)
      | agg h => exact .agg ⟨h.1, fun j x u hx hu => (h.2 j x u hx hu).mono (fun _ _ => rfl) fun _ h => .inl h⟩
      | loc h => exact absurd rfl (h2 _ _)
      | rd us h1 h4 h3 => exact .rd us (.inl h1) h4 fun j x hj => (h3 j x hj).mono (fun _ _ => rfl) fun _ h => .inl h⟩
    cases hx with | clo h1 h2 => exact .clo (key (fun x hx => hn x (List.mem_append.2 (.inl hx))) h1) (key (fun x hx => hn x (List.mem_append.2 (.inr hx))) h2)
  · subst h
    cases hx with | rd us h1 h2 h3 => exact .rd us (.inl h1) h2 fun j x hj => (h3 j x hj).mono (fun _ _ => rfl) fun _ h => .inl h
  · exact vleL_ok hs h hx
theorem call_ofL (hT : ∀ t y, T t = some y → TyOk P t y) {f : FuncId} {fn : Func} {c : Code} {args : List V} {res : V} (rs : List ResultVar) (hf : P.funcs[f]? = some fn) (hb : fn.body = some c) (hn : (fn.name == "runtime.NumGoroutine") = false) (hargs : args.length ≤ fn.ntmps) (hrs : fn.results.toList = rs)
    (h : ∀ I0 w0, DW P (Fr.pure I0) w0 fn.ntmps c (retL T rs res) ⟨fun t => lkA t args, fun t => lkB t [], noArr⟩) : CallC P f args res := by
  subst hrs
  refine ⟨⟨fn, hf, by simp [hb], hn⟩, fun w us I hI hl hv => ?_⟩
  have hs : Sim (Fr.pure I) w fn.ntmps ⟨fun t => lkA t args, fun t => lkB t [], noArr⟩ (.pure I) { tmps := us ++ Array.replicate (fn.ntmps - us.size) undef, defers := [] } w := by
    refine ⟨Chg.refl _ _, Frk.none rfl, by simp; omega, fun t => ?_, fun t e cs h => (by cases h), fun t t' b h => (by cases h), fun t b h => (by cases h), fun a e k rows h => (by cases h), fun a v b h => (by cases h), fun a a' v v' b h => (by cases h), fun _ _ => rfl, fun _ _ => rfl, hI, fun _ h => h, fun _ h => .inl h, fun _ h => nomatch h⟩
    simp only [lkA]
    rcases Nat.lt_or_ge t args.length with ht | ht
    · rw [List.getD_eq_getElem?_getD, List.getElem?_eq_getElem ht, Array.getD_eq_getD_getElem?, Array.getElem?_append_left (by omega), Array.getElem?_eq_getElem (by omega)]
      exact hv t _ _ (List.getElem?_eq_getElem ht) (Array.getElem?_eq_getElem (by omega))
    · rw [List.getD_eq_getElem?_getD, List.getElem?_eq_none ht]
      exact .un
  refine calls_of_sim hf hb rfl (h _ w _ _ w hs) (fun e S' E' a' w' hq hs' _ => ?_) fun e S' hq => by cases e <;> first | exact .inl rfl | exact .inr rfl | exact hq.elim
  have key : RetL T fn.results.toList res S' → ∃ v, (results fn a'.tmps).run P w' = .ok v w' ∧ ∃ u I', Ending.returned v = .returned u ∧ RepV w' (.pure I') res u ∧ Below w.heap.size w w' ∧ (∀ b, I b → I' b) ∧ ∀ b, I' b → I b ∨ (w.heap.size ≤ b ∧ b < w'.heap.size) := fun hret => by
    unfold RetL at hret
    split at hret
    · rename_i p v hrv
      obtain ⟨u, h1, h2⟩ := resV_ok hT hs' hrv hret.1
      refine ⟨u, h2, u, lent S' E', rfl, vleT_ok hs' hret.2 h1, hs'.chg.below (fun _ h => h.elim) (Nat.le_refl _), fun b hb => .inl (hs'.i0 b hb), fun b hb => ?_⟩
      rcases hb with hb | ⟨c, v, hL, hv⟩
      · exact (hs'.i1 b hb).imp id fun h => ⟨h.resolve_right fun h => h, hs'.il b hb⟩
      · refine .inr ⟨?_, (hs'.al c v b hL hv).1⟩
        cases hq : S'.arrs c with
        | none => rw [hs'.an c hq] at hL; cases hL
        | some y =>
          obtain ⟨v', us', r1, r2, r3, r4, r5⟩ := hs'.arr c y.1 y.2.1 y.2.2 hq
          rw [hL] at r1; cases r1
          exact (r5 b hv).resolve_right fun h => h
    · exact hret.elim
  cases e with
  | normal => exact ⟨.inl rfl, key hq⟩
  | ret => exact ⟨.inr rfl, key hq⟩
  | _ => exact hq.elim
end
end Go.Dl
