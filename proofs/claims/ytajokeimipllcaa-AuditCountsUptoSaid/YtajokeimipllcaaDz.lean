/-
  The walk's own set of rules: ranges over functions.
-/
import Derived.Test.YtajokeimipllcaaDs
import Derived.Test.YtajokeimipllcaaDy
set_option linter.unusedSimpArgs false
set_option linter.unusedVariables false
namespace Go.Dl
section
variable {P : Program} {T : Nat → Option Ty} {X : Fr} {w0 : World} {N : Nat} {S : St} {Q : Exit → St → Prop} {I : Nat → Prop} {J : YJ} {k : Option Nat}
theorem weak_refl : Weak X S S := fun _ _ E _ _ h => ⟨E, h⟩
theorem weak_ofY {sl : List (Nat × V)} {bl : List (Nat × TypeId × List C)} {al : AL} (hb : X.B0 = []) (h0 : onceA al = true) (h1 : wkSA (bl.map (·.1)) (al.map fun x => (x.1, x.2.1)) S.slots sl) (h2 : wkBA (bl.map (·.1)) (al.map fun x => (x.1, x.2.1)) S.blks bl) (h3 : wkAA S.arrs al) : Weak X S (St.ofA sl bl al) :=
  weak_ofA h0 h1 h2 h3 (by rw [hb]; rfl)
/-- the loop over an iterator, its state in lists -/
theorem dw_rangeL {g : Operand} {ps : Array Tmp} {assign body : Code} {f : FuncId} {ca : List W} {el : Nat → Option (List V)} {ι : Type} (sl : List (Nat × V)) (bl : Nat → ι → BL) (al : Nat → ι → AL) (Rel : Nat → ι → Prop) (x0 : ι) (M : Nat) (bn : List Nat) (hX : X.nm = false ∨ X.rd.isSome = true)
    (h0 : Weak X S (St.ofA sl (bl 0 x0) (al 0 x0))) (hr0 : Rel 0 x0) (hM : ∀ k x, Rel k x → k ≤ M) (hbn : (bn.all fun t => (lkB t (bl 0 x0)).isSome) = true) (hB0 : (X.B0.all fun t => bn.contains t) = true) (hst : (sl.all fun p => stay bn p.2) = true)
    (hg : ev (St.ofA sl (bl 0 x0) (al 0 x0)) g = .clo f [] ca) (hca : pureW ca = true) (hit : IterC P f (ca.map W.asV) el M) (hps : ∀ k vs, el k = some vs → vs.length = ps.size) (hpN : (ps.toList.all fun p => decide (p < N)) = true)
    (round : ∀ k x vs, Rel k x → el k = some vs → ∀ XX I0 G l w1, (∀ t, t ∈ X.B0 → G t = X.G t) → DW P ⟨XX, I0, bn, G, some l, true⟩ w1 N assign (onlyN fun S1 => ∀ XX I0 w2, DW P ⟨XX, I0, bn, G, some l, true⟩ w2 N body (roundQ (fun t => lkV t sl) Q ⟨XX, I0, bn, G, some l, true⟩ fun S' => ∃ x', Rel (k + 1) x' ∧ S' = St.ofA [] (bl (k + 1) x') (al (k + 1) x')) S1) ⟨zipS ps.toList vs (fun t => lkV t sl), fun t => lkB t (bl k x), fun a => arrOf a (al k x)⟩)
    (done : ∀ k x, Rel k x → el k = none → Q .normal (St.ofA sl (bl k x) (al k x))) : DW P X w0 N (.rangeFunc g ps assign body) Q S :=
  dw_rangeF (fun t => lkV t sl) (fun k x => St.ofA [] (bl k x) (al k x)) Rel x0 M bn hX h0 hr0 hM (fun t ht => List.all_eq_true.1 hbn t ht) (fun t ht => by simpa using List.all_eq_true.1 hB0 t ht) (lkV_stay hst) hg hca hit hps (fun p hp => by simpa using List.all_eq_true.1 hpN p hp) round done
/-! a loop with an invariant, hidden from the walk -/
def LpN {ι : Type} (R : St → Prop) (X : Fr) (I : ι → St) (J lt : ι → Prop) : Prop := ∀ j S', Weak X S' (I j) → J j → lt j → R S'
theorem lp_n {ι : Type} {R : St → Prop} {I : ι → St} {J lt : ι → Prop} (h : LpN R X I J lt) (j : ι) (hw : Weak X S (I j)) (hJ : J j) (hl : lt j) : R S := h j S hw hJ hl
theorem dw_loopJ {ι : Type} {c : Code} (I : ι → St) (J : ι → Prop) (μ : ι → Nat) (i0 : ι) (hJ0 : J i0) (h0 : Weak X S (I i0)) (round : ∀ i, J i → ∀ R : St → Prop, LpN R X I J (fun j => μ j < μ i) → DW P X w0 N c (thenD R Q) (I i)) : DW P X w0 N (.loop c) Q S :=
  dw_loop (ι := {i // J i}) (fun i => I i.1) (fun i => μ i.1) ⟨i0, hJ0⟩ h0 fun i => round i.1 i.2 _ fun j S' hw hJ hlt => ⟨⟨j, hJ⟩, hlt, hw⟩
theorem fn_i {A B : Prop} {ι : Type} {J W : ι → Prop} (x : ι) (hW : W x) (hB : B) (hA : A) (hJ : J x) : A ∧ B ∧ ∃ x', J x' ∧ W x' := ⟨hA, hB, x, hJ, hW⟩
theorem rn_i {B : Prop} {ι : Type} {J W : ι → Prop} (x : ι) (hW : W x) (hB : B) (hJ : J x) : B ∧ ∃ x', J x' ∧ W x' := ⟨hB, x, hJ, hW⟩
theorem ry_i {B : Prop} {ι : Type} {J K W : ι → Prop} (x : ι) (hK : K x) (hW : W x) (hB : B) (hJ : J x) : B ∧ ∃ x', J x' ∧ K x' ∧ W x' := ⟨hB, x, hJ, hK, hW⟩
/-! what a round may lean on, hidden from the walk -/
def RAn (RA : Exit → St → Prop) (D : St → Prop) : Prop := ∀ S, D S → RA .normal S
def RQn {ι : Type} (RQ : Exit → St → Prop) (X : Fr) (Rel : ι → Prop) (mem : ι → St) : Prop := ∀ x S, Rel x → Weak X S (mem x) → RQ .normal S
def RQr (RQ : Exit → St → Prop) (D : St → Prop) : Prop := ∀ S, D S → RQ .ret S
def RQe (RQ : Exit → St → Prop) (D : Nat → St → Prop) : Prop := ∀ id S, D id S → RQ (.exit id) S
theorem ra_n {RA : Exit → St → Prop} {D : St → Prop} (h : RAn RA D) (hd : D S) : RA .normal S := h S hd
theorem rq_n {ι : Type} {RQ : Exit → St → Prop} {Rel : ι → Prop} {mem : ι → St} (h : RQn RQ X Rel mem) (x : ι) (hw : Weak X S (mem x)) (hr : Rel x) : RQ .normal S := h x S hr hw
theorem rq_r {RQ : Exit → St → Prop} {D : St → Prop} (h : RQr RQ D) (hd : D S) : RQ .ret S := h S hd
theorem rq_e {RQ : Exit → St → Prop} {D : Nat → St → Prop} {id : Nat} (h : RQe RQ D) (hd : D id S) : RQ (.exit id) S := h id S hd
/-- the loop over an iterator that hands out a list -/
theorem dw_rangeE {α : Type} {L : List α} {fe : α → List V} {g : Operand} {ps : Array Tmp} {assign body : Code} {f : FuncId} {ca : List W} {ι : Type} (sl : List (Nat × V)) (bl : Nat → ι → BL) (al : Nat → ι → AL) (Rel : Nat → ι → Prop) (x0 : ι) (bn : List Nat) (hX : X.nm = false ∨ X.rd.isSome = true)
    (h0 : Weak X S (St.ofA sl (bl 0 x0) (al 0 x0))) (hr0 : Rel 0 x0) (hbn : (bn.all fun t => (lkB t (bl 0 x0)).isSome) = true) (hB0 : (X.B0.all fun t => bn.contains t) = true) (hst : (sl.all fun p => stay bn p.2) = true)
    (hg : ev (St.ofA sl (bl 0 x0) (al 0 x0)) g = .clo f [] ca) (hca : pureW ca = true) (hit : IterC P f (ca.map W.asV) (elL L fe) L.length) (hps : ∀ x, (fe x).length = ps.size) (hpN : (ps.toList.all fun p => decide (p < N)) = true)
    (round : ∀ k x (hk : k < L.length), Rel k x → ∀ XX I0 G l w1, (∀ t, t ∈ X.B0 → G t = X.G t) → ∀ RA : Exit → St → Prop,
      RAn RA (fun S1 => ∀ XX I0 w2 RQ, RQn RQ ⟨XX, I0, bn, G, some l, true⟩ (Rel (k + 1)) (fun x' => St.ofA [] (bl (k + 1) x') (al (k + 1) x')) → RQr RQ (fun S => Q .ret ⟨fun t => lkV t sl, S.blks, S.arrs⟩) → RQe RQ (fun id S => Q (.exit id) ⟨fun t => lkV t sl, S.blks, S.arrs⟩) → DW P ⟨XX, I0, bn, G, some l, true⟩ w2 N body RQ S1) →
      DW P ⟨XX, I0, bn, G, some l, true⟩ w1 N assign RA ⟨zipS ps.toList (fe L[k]) (fun t => lkV t sl), fun t => lkB t (bl k x), fun a => arrOf a (al k x)⟩)
    (done : ∀ x, Rel L.length x → Q .normal (St.ofA sl (bl L.length x) (al L.length x))) : DW P X w0 N (.rangeFunc g ps assign body) Q S := by
  refine dw_rangeL sl bl al (fun k x => Rel k x ∧ k ≤ L.length) x0 L.length bn hX h0 ⟨hr0, Nat.zero_le _⟩ (fun k x h => h.2) hbn hB0 hst hg hca hit (fun k vs h => ?_) hpN (fun k x vs hr hel XX I0 G l w1 hG => ?_) fun k x hr hel => ?_
  · obtain ⟨_, rfl⟩ := elL_some h
    exact hps _
  · obtain ⟨hk, rfl⟩ := elL_some hel
    refine round k x hk hr.1 XX I0 G l w1 hG _ fun S1 h => ?_
    intro XX I0 w2
    exact h XX I0 w2 _ (fun x' S hrx hw => ⟨_, hw, x', ⟨hrx, hk⟩, rfl⟩) (fun S hq => ⟨S, weak_refl, hq⟩) fun id S hq => ⟨S, weak_refl, hq⟩
  · have h1 := elL_none hel
    have h2 : k = L.length := Nat.le_antisymm hr.2 h1
    subst h2
    exact done x hr.1
theorem onlyN_i {R : St → Prop} (h : R S) : onlyN R .normal S := h
theorem round_n {sl : Nat → V} {G : St → Prop} (S' : St) (hw : Weak X S S') (h : G S') : roundQ sl Q X G .normal S := ⟨S', hw, h⟩
theorem round_r {sl : Nat → V} {G : St → Prop} (h : Q .ret ⟨sl, S.blks, S.arrs⟩) : roundQ sl Q X G .ret S := ⟨S, weak_refl, h⟩
theorem round_e {sl : Nat → V} {G : St → Prop} {id : Nat} (h : Q (.exit id) ⟨sl, S.blks, S.arrs⟩) : roundQ sl Q X G (.exit id) S := ⟨S, weak_refl, h⟩
/-! an iterator's body -/
structure KtY (R : Option Nat → St → Prop) (D : Unit → Option Nat → St → Prop) : Prop where
  k : ∀ k S', D () k S' → R k S'
abbrev KontY (R D : Option Nat → St → Prop) : Prop := KtY R fun _ => D
theorem kontY {R D : Option Nat → St → Prop} (h : KontY R D) (hd : D k S) : R k S := h.k k S hd
theorem dy_seq_c {QY : Exit → Option Nat → St → Prop} {x y : Code} (h : ∀ R : Option Nat → St → Prop, KontY R (DY P I J N y QY) → DY P I J N x (thenY R QY) k S) : DY P I J N (.seq x y) QY k S := dy_seq fun R hR => h R ⟨hR⟩
theorem dy_last_c {QY : Exit → Option Nat → St → Prop} {c : Code} (h : ∀ R : Option Nat → St → Prop, KontY R (QY .normal) → DY P I J N c (thenY R QY) k S) : DY P I J N c QY k S :=
  dy_mono (h (QY .normal) ⟨fun _ _ h => h⟩) fun e k S hq => by cases e <;> exact hq
theorem dy_isrange {QY : Exit → Option Nat → St → Prop} {id r1 r2 tI tN tC t2 : Nat} {ty ty2 y1 y2 y3 : TypeId} {p1 p2 p3 : String} {a1 a2 a3 : Array Edge} {B : Code}
    (h : DY P I J N (.block id (.loop (.seq (.region r1 #[⟨some tC, .binOp .lss ty (.tmp tI) (.tmp tN) ty2, y1, p1, a1, none⟩] false) (.seq (.cond (.tmp tC) .skip (.exit id)) (.seq B (.region r2 #[⟨some t2, .binOp .add ty (.tmp tI) (.const (.int .i64 1)) ty2, y2, p2, a2, none⟩, ⟨some tI, .move (.tmp t2), y3, p3, a3, none⟩] false)))))) QY k S) :
    DY P I J N (.block id (.loop (.seq (.region r1 #[⟨some tC, .binOp .lss ty (.tmp tI) (.tmp tN) ty2, y1, p1, a1, none⟩] false) (.seq (.cond (.tmp tC) .skip (.exit id)) (.seq B (.region r2 #[⟨some t2, .binOp .add ty (.tmp tI) (.const (.int .i64 1)) ty2, y2, p2, a2, none⟩, ⟨some tI, .move (.tmp t2), y3, p3, a3, none⟩] false)))))) QY k S := h
theorem dopY_yield_s {o : Oper} {K : Option Nat → St → Prop} {c : Call} {x : Operand} {l : Nat} {el : Nat → Option (List V)} (hY : YLaw P I J l el) (hop : o.op = .call c) (hc : c.callee = .value x) (hx : ev S x = .c (.f (.s (.func (.yield l) #[] #[])))) {n : Nat} (hk : k = some n) (hel : el n = some (c.args.toList.map (ev S)))
    (ha : allV (c.args.toList.map (ev S)) = true) (h1 : K (some (n + 1)) ⟨putS S.slots o.dst (.c (.f (.s (.bool true)))), S.blks, S.arrs⟩) (h0 : K none ⟨putS S.slots o.dst (.c (.f (.s (.bool false)))), S.blks, S.arrs⟩) : DOpY P I J N o K k S :=
  dopY_yield hY hop hc hx hk hel (vles_self ha) h1 h0
theorem iterQ_r {el : Nat → Option (List V)} (h : ∀ n, k = some n → el n = none) : iterQ el .ret k S := h
theorem iterQ_n {el : Nat → Option (List V)} (h : ∀ n, k = some n → el n = none) : iterQ el .normal k S := h
theorem elL_drop {α : Type} {l r : List α} {f : α → List V} {n : Nat} {x : α} (h : l.drop n = x :: r) : elL l f n = some (f x) ∧ l.drop (n + 1) = r := by
  have hn : n < l.length := by
    rcases Nat.lt_or_ge n l.length with h1 | h1
    · exact h1
    · rw [List.drop_eq_nil_of_le h1] at h; cases h
  rw [List.drop_eq_getElem_cons hn] at h
  cases h
  exact ⟨elL_at hn, rfl⟩
theorem elL_stop {α : Type} {l : List α} {f : α → List V} {n : Nat} (h : l.drop n = []) : elL l f n = none := elL_end (by simpa using h)
section
variable {ops : Array Oper} {K : Option Nat → St → Prop} {s : Nat → V} {b : Nat → Option (TypeId × List C)} {a : Nat → Option (TypeId × Nat × List (List F))}
theorem RunY_2 {o : Oper} : RunY P T I J N o K k ⟨s, b, a⟩ = gd2 (some (stops o.op)) (DOpY P I J N o K k) (eff3 P T o.dst o.op (K k)) ⟨s, b, a⟩ := by
  rw [RunY_eq]
  cases stops o.op <;> rfl
end
end
/-! a drawn row, some operations taken first, the others in every order -/
def anyQ (X : Fr) (w0 : World) (N : Nat) (R : St → Prop) : Exit → Act → World → Prop := fun e a w => e = .normal ∧ ∃ S' E', R S' ∧ Sim X w0 N S' E' a w
def AnyD (P : Program) (X : Fr) (w0 : World) (N : Nat) (ops : Array Oper) (R : St → Prop) (fuel : Nat) (listed : Array Bool) (S : St) : Prop := ∀ (E : Env) (a : Act) (w : World), Sim X w0 N S E a w → wpAnyIn (rdF X.rd) 0 P .any ops (anyQ X w0 N R) fuel listed a w
def freeOp : Op → Bool
  | .move _ => true
  | .nilCheck _ => true
  | .fieldAddr .. => true
  | _ => false
section
variable {P : Program} {T : Nat → Option Ty} {X : Fr} {w0 : World} {N : Nat} {S : St} {ops : Array Oper} {R : St → Prop} {fuel : Nat} {listed : Array Bool}
theorem dw_any {id : Nat} {Q : Exit → St → Prop} (hm : P.follows .mixedOrders = true) (h : AnyD P X w0 N ops R ops.size (Array.replicate ops.size false) S) : DW P X w0 N (.region id ops true) (thenD R Q) S := fun E a w hs => by
  have hs' : Sim X w0 N S E a { w with drawn := w.drawn + 1 } := hs.grow (w' := { w with drawn := w.drawn + 1 }) ⟨rfl, rfl, rfl, Nat.le_refl _, fun _ _ => rfl⟩
  refine wpIn_mono (wpIn_region_any hm (h E a _ hs')) ?_
  rintro e a' w' ⟨rfl, S', E', hr, hs2⟩
  exact ⟨S', E', hr, hs2⟩
theorem fieldAddr_ptr {t : TypeId} {x : Operand} {f : Nat} {p : Prop} {v : V} {rn : List Nat} (he : effd P T S (.fieldAddr t x f) = some (p, .put v, rn)) (hp : p) {E : Env} {a : Act} {w : World} (hs : Sim X w0 N S E a w) :
    ∃ y o z, T t = some y ∧ y.agg = true ∧ y.pls[f]? = some (o, z) ∧ ∃ ad, a.eval x = .pointer (some ad) := by
  rw [effd] at he
  have hv := hs.ev x
  generalize a.eval x = u at hv
  split at he
  · rename_i y b off hy hx
    split at he
    · rename_i o z ho
      cases he
      rw [hx] at hv
      cases hv
      exact ⟨y, o, z, hy, hp, ho, _, rfl⟩
    · cases he
  · rename_i y xs hy hx
    split at he
    · rename_i o z ho
      cases he
      rw [hx] at hv
      cases hv
      exact ⟨y, o, z, hy, hp, ho, _, rfl⟩
    · cases he
  · rename_i y b k i off hy hx
    split at he
    · rename_i o z ho
      cases he
      rw [hx] at hv
      cases hv
      exact ⟨y, o, z, hy, hp, ho, _, rfl⟩
    · cases he
  · cases he
theorem free_put {op : Op} (hf : freeOp op = true) {p : Prop} {r : Res} {rn : List Nat} (he : effd P T S op = some (p, r, rn)) : ∃ v, r = .put v := by
  cases op with
  | move x => rw [effd] at he; cases he; exact ⟨_, rfl⟩
  | nilCheck x =>
    rw [effd] at he
    (repeat' split at he) <;> first | (cases he; exact ⟨_, rfl⟩) | cases he
  | fieldAddr t x f =>
    rw [effd] at he
    split at he
    all_goals first | (split at he <;> first | (cases he; exact ⟨_, rfl⟩) | cases he) | cases he
  | _ => cases hf
theorem free_ok (hT : ∀ t y, T t = some y → TyOk P t y) {o : Oper} (hf : freeOp o.op = true) {K : St → Prop} {E : Env} {a : Act} {w : World} (h : eff3 P T o.dst o.op K S) (hs : Sim X w0 N S E a w) :
    ∃ v u, RepV w E v u ∧ K ⟨putS S.slots o.dst v, S.blks, S.arrs⟩ ∧ (∀ w', (execOp a.eval o).run P w' = .ok (.value u) w') ∧ ∀ w', o.about P w' a.eval = none := by
  have key : ∃ p v rn, effd P T S o.op = some (p, .put v, rn) := by
    unfold eff3 at h
    cases he : effd P T S o.op with
    | none => rw [he] at h; exact h.elim
    | some q =>
      obtain ⟨p, r, rn⟩ := q
      obtain ⟨v, rfl⟩ := free_put hf he
      exact ⟨p, v, rn, rfl⟩
  obtain ⟨p, v, rn, he⟩ := key
  unfold eff3 at h
  rw [he] at h
  simp only at h
  obtain ⟨u, h1, h2⟩ := eff_put hT he h.1 hs o rfl
  refine ⟨v, u, h1, kput_iff.1 h.2, ?_, fun w' => ?_⟩
  · intro w'
    obtain ⟨dst, op, type, pos, after, guard⟩ := o
    simp only at hf h2 he ⊢
    cases op with
    | move x =>
      simp [execOp] at h2 ⊢
      exact h2
    | fieldAddr t x f =>
      obtain ⟨y, o, z, hy, hg, ho, ad, hx⟩ := fieldAddr_ptr he h.1 hs
      have e1 : ∀ w2, (execOp a.eval ⟨dst, .fieldAddr t x f, type, pos, after, guard⟩).run P w2 = .ok (.value (.pointer (some (ad.add o)))) w2 := fun w2 => exec_val rfl (by rw [hx, field_ok (hT _ _ hy) hg ho])
      rw [e1] at h2
      rw [e1]
      cases h2; rfl
    | nilCheck x =>
      have hv := hs.ev x
      rw [effd] at he
      generalize hx : a.eval x = q at hv
      have hq : (∃ ad, q = .pointer (some ad)) ∨ ∃ f us vs, q = .func (.func f) us vs := by
        (repeat' split at he) <;> first | (rename_i hx2; rw [hx2] at hv; cases hv; exact .inl ⟨_, rfl⟩) | (rename_i hx2; rw [hx2] at hv; cases hv; exact .inr ⟨_, _, _, rfl⟩) | (rename_i hx2; rw [hx2] at hv; have := rep_s hv; exact .inr ⟨_, _, _, this⟩) | cases he
      have e1 : ∀ w2, (execOp a.eval ⟨dst, .nilCheck x, type, pos, after, guard⟩).run P w2 = .ok (.value q) w2 := fun w2 => by
        rcases hq with ⟨ad, rfl⟩ | ⟨f, us, vs, rfl⟩
        · simp only [execOp, hx]; simp [go_sem]
        · simp only [execOp, hx]; simp [go_sem]
      rw [e1] at h2
      rw [e1]
      cases h2; rfl
    | _ => cases hf
  · obtain ⟨dst, op, type, pos, after, guard⟩ := o
    simp only at hf ⊢
    cases op <;> first | (cases hf; done) | rfl
/-- an operation that may be taken first -/
theorem any_first (i : Nat) {o : Oper} (hX : X.rd = none) (hT : ∀ t y, T t = some y → TyOk P t y) (hN : okN N ops = true) (ho : ops[i]? = some o) (hg : o.guard = none) (hf : freeOp o.op = true) (hs : Region.noSelect ops = true) (hfr : Region.free .any ops listed i = true) (hr : (Region.ready .any ops listed).contains i = true)
    (h : eff3 P T o.dst o.op (AnyD P X w0 N ops R fuel (listed.setIfInBounds i true)) S) : AnyD P X w0 N ops R (fuel + 1) listed S := fun E a w hsim => by
  obtain ⟨v, u, h1, h2, h3, h4⟩ := free_ok hT hf h hsim
  have hro : (rdF X.rd).round = none := hX
  refine wpAnyIn_take (v := u) hro ho hs hfr hr (fun c a w hq => by cases hq.1) ⟨.inl ⟨wanted_none hg a, h3⟩, h4⟩ ?_
  exact h2 E _ w (hsim.env v u h1 o.dst (okN_ok hN i o ho))
def allA (P : Program) (T : Nat → Option Ty) (X : Fr) (w0 : World) (N : Nat) (ops : Array Oper) (R : St → Prop) (fuel : Nat) (listed : Array Bool) (S : St) : List Nat → Prop
  | [] => True
  | i :: l => (match ops[i]? with
    | some o => o.guard = none ∧ eff3 P T o.dst o.op (AnyD P X w0 N ops R fuel (listed.setIfInBounds i true)) S
    | none => False) ∧ allA P T X w0 N ops R fuel listed S l
theorem allA_mem : ∀ {l : List Nat}, allA P T X w0 N ops R fuel listed S l → ∀ i ∈ l, ∃ o, ops[i]? = some o ∧ o.guard = none ∧ eff3 P T o.dst o.op (AnyD P X w0 N ops R fuel (listed.setIfInBounds i true)) S
  | j :: l, h, i, hi => by
    rcases List.mem_cons.1 hi with e | e
    · subst e
      have h1 := h.1
      cases ho : ops[i]? with
      | none => rw [ho] at h1; exact h1.elim
      | some o => rw [ho] at h1; exact ⟨o, rfl, h1⟩
    · exact allA_mem h.2 i e
/-- whatever is ready may come -/
theorem any_all (rs : List Nat) (hT : ∀ t y, T t = some y → TyOk P t y) (hN : okN N ops = true) (hr : Region.ready .any ops listed = rs) (hne : rs ≠ []) (h : allA P T X w0 N ops R fuel listed S rs) : AnyD P X w0 N ops R (fuel + 1) listed S := fun E a w hs => by
  refine ⟨fun e => absurd (hr.symm.trans e) hne, fun i hi => ?_⟩
  rw [hr] at hi
  obtain ⟨o, ho, hg, he⟩ := allA_mem h i hi
  unfold wpOpIn
  rw [ho]
  simp only
  rw [if_pos (wanted_none hg a)]
  exact op_in (eff3_nd he) (eff3_ok hT he hs (okN_ok hN i o ho) fun S' E' a' w' h1 h2 => h1 E' a' w' h2)
theorem any_done (hr : Region.ready .any ops listed = []) (h : R S) : AnyD P X w0 N ops R fuel listed S := fun E a w hs => by
  have hq : anyQ X w0 N R .normal a w := ⟨rfl, S, E, h, hs⟩
  cases fuel with
  | zero => exact ⟨hr, hq⟩
  | succ fuel => exact ⟨fun _ => hq, fun i hi => by rw [hr] at hi; cases hi⟩
end
theorem zipS_nil {vs : List V} {f : Nat → V} : zipS [] vs f = f := by cases vs <;> rfl
theorem zipS_cons {p : Nat} {ps : List Nat} {v : V} {vs : List V} {f : Nat → V} : zipS (p :: ps) (v :: vs) f = zipS ps vs (upd f p v) := rfl
theorem fzV_loc {t n off : Nat} {r : List F} : fzV t r (.loc n off) = if n = t then .rd (r.drop off) else .loc n off := rfl
theorem fzV_clo {t : Nat} {r : List F} {f : FuncId} {x y : List W} : fzV t r (.clo f x y) = .clo f (x.map (fzW t r)) (y.map (fzW t r)) := rfl
theorem fzV_c {t : Nat} {r : List F} {x : C} : fzV t r (.c x) = .c (fzC t x) := rfl
theorem fzC_f {t : Nat} {x : F} : fzC t (.f x) = .f x := rfl
theorem fzC_o {t a : Nat} : fzC t (.o a) = .o a := rfl
theorem fzC_u {t : Nat} : fzC t .un = .un := rfl
theorem fzC_p {t n o : Nat} : fzC t (.p n o) = if n = t then .un else .p n o := rfl
theorem fzC_m {t : Nat} {xs : List F} : (xs.map C.f).map (fzC t) = xs.map C.f := by simp [fzC_f]
theorem fzB_s {t : Nat} {e : TypeId} {cs : List C} : fzB t (some (e, cs)) = some (e, cs.map (fzC t)) := rfl
theorem fzB_n {t : Nat} : fzB t none = none := rfl
theorem fzP_m {t : Nat} {b : Bool} {cs : List C} : fzP t (b, cs) = (b, cs.map (fzC t)) := rfl
theorem fzV_ag {t : Nat} {r : List F} {x : List C} : fzV t r (.agg x) = .agg (x.map (fzC t)) := rfl
theorem fzV_tu {t : Nat} {r : List F} {x : List (Bool × List C)} : fzV t r (.tup x) = .tup (x.map (fzP t)) := rfl
theorem fzV_rd {t : Nat} {r : List F} {x : List F} : fzV t r (.rd x) = .rd x := rfl
theorem fzV_un {t : Nat} {r : List F} : fzV t r .un = .un := rfl
theorem fzV_no {t : Nat} {r : List F} : fzV t r .no = .no := rfl
theorem fzV_el {t : Nat} {r : List F} {a k i o : Nat} : fzV t r (.el a k i o) = .el a k i o := rfl
theorem fzW_loc {t n off : Nat} {r : List F} : fzW t r (.loc n off) = if n = t then .rd (r.drop off) else .loc n off := rfl
theorem fzW_f {t : Nat} {r : List F} {x : F} : fzW t r (.f x) = .f x := rfl
theorem fzW_a {t : Nat} {r : List F} {x : List F} : fzW t r (.agg x) = .agg x := rfl
theorem fzW_rd {t : Nat} {r : List F} {x : List F} : fzW t r (.rd x) = .rd x := rfl
attribute [push_cast] Option.some.injEq ite_self
attribute [push_cast] wsD wD exY_nil exY_cons RunY_2 zipS_nil zipS_cons fzC_f fzC_o fzC_u fzC_p fzC_m fzB_s fzB_n fzP_m fzV_loc fzV_clo fzV_c fzV_ag fzV_tu fzV_rd fzV_un fzV_no fzV_el fzW_loc fzW_f fzW_a fzW_rd
end Go.Dl
